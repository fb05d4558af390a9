/- Walks: each function returns what its condition asks. Condition: the contracts of its callees, handed in. -/
import Derived.Test.YtcjldfbgccmpkaaDoorHWalksS
set_option linter.all false
namespace Go.Proofs.YtcjldfbgccmpkaaDoor
open Go Go.Sv
set_option maxHeartbeats 1000000
/-- math/bits.Mul64 -/
theorem W88 (w0 : World) (χ0 : Nat → Nat) (x_ : Int) (y_ : Int) (Q : Int × Int → Prop) (hm : VC88 x_ y_ Q) :
  Ret Tryd.prog 88 #[.int .u64 x_, .int .u64 y_] xnone w0 χ0 (fun w χ' v => ∃ r, Q r ∧ v = .tuple #[.int .u64 r.1, .int .u64 r.2]) := by
 unfold VC88 at hm
 refine enter Tryd.func88 rfl (vals := [.int .u64 x_, .int .u64 y_]) kr ?_
 intro ρ a hS hO hM
 clear hM
 refine regP T hS (sp := []) (ks := [0, 1]) (bs := []) (sy' := ⟨[(0, V (.int .u64 x_)), (1, V (.int .u64 y_))], []⟩) kr ?_
 intro a hS
 refine regP T hS (sp := []) (ks := [0, 1, 6]) (bs := []) (sy' := ⟨[(0, V (.int .u64 x_)), (1, V (.int .u64 y_)), (6, V (.int .u64 (IntKind.u64.wrap ((BitVec.ofInt IntKind.u64.bits x_ &&& BitVec.ofInt IntKind.u64.bits 4294967295).toNat : Int))))], []⟩) kr ?_
 intro a hS
 refine regP T hS (sp := []) (ks := [0, 1, 6, 7]) (bs := []) (sy' := ⟨[(0, V (.int .u64 x_)), (1, V (.int .u64 y_)), (6, V (.int .u64 (IntKind.u64.wrap ((BitVec.ofInt IntKind.u64.bits x_ &&& BitVec.ofInt IntKind.u64.bits 4294967295).toNat : Int)))), (7, V (.int .u64 ((x_).fdiv (2 ^ 32))))], []⟩) kr ?_
 intro a hS
 refine regP T hS (sp := []) (ks := [0, 1, 6, 7, 8]) (bs := []) (sy' := ⟨[(0, V (.int .u64 x_)), (1, V (.int .u64 y_)), (6, V (.int .u64 (IntKind.u64.wrap ((BitVec.ofInt IntKind.u64.bits x_ &&& BitVec.ofInt IntKind.u64.bits 4294967295).toNat : Int)))), (7, V (.int .u64 ((x_).fdiv (2 ^ 32)))), (8, V (.int .u64 (IntKind.u64.wrap ((BitVec.ofInt IntKind.u64.bits y_ &&& BitVec.ofInt IntKind.u64.bits 4294967295).toNat : Int))))], []⟩) kr ?_
 intro a hS
 refine regP T hS (sp := []) (ks := [0, 1, 6, 7, 8, 9]) (bs := []) (sy' := ⟨[(0, V (.int .u64 x_)), (1, V (.int .u64 y_)), (6, V (.int .u64 (IntKind.u64.wrap ((BitVec.ofInt IntKind.u64.bits x_ &&& BitVec.ofInt IntKind.u64.bits 4294967295).toNat : Int)))), (7, V (.int .u64 ((x_).fdiv (2 ^ 32)))), (8, V (.int .u64 (IntKind.u64.wrap ((BitVec.ofInt IntKind.u64.bits y_ &&& BitVec.ofInt IntKind.u64.bits 4294967295).toNat : Int)))), (9, V (.int .u64 ((y_).fdiv (2 ^ 32))))], []⟩) kr ?_
 intro a hS
 refine regP T hS (sp := []) (ks := [0, 1, 6, 7, 8, 9, 10]) (bs := []) (sy' := ⟨[(0, V (.int .u64 x_)), (1, V (.int .u64 y_)), (6, V (.int .u64 (IntKind.u64.wrap ((BitVec.ofInt IntKind.u64.bits x_ &&& BitVec.ofInt IntKind.u64.bits 4294967295).toNat : Int)))), (7, V (.int .u64 ((x_).fdiv (2 ^ 32)))), (8, V (.int .u64 (IntKind.u64.wrap ((BitVec.ofInt IntKind.u64.bits y_ &&& BitVec.ofInt IntKind.u64.bits 4294967295).toNat : Int)))), (9, V (.int .u64 ((y_).fdiv (2 ^ 32)))), (10, V (.int .u64 (IntKind.u64.wrap ((IntKind.u64.wrap ((BitVec.ofInt IntKind.u64.bits x_ &&& BitVec.ofInt IntKind.u64.bits 4294967295).toNat : Int)) * (IntKind.u64.wrap ((BitVec.ofInt IntKind.u64.bits y_ &&& BitVec.ofInt IntKind.u64.bits 4294967295).toNat : Int))))))], []⟩) kr ?_
 intro a hS
 refine regP T hS (sp := []) (ks := [0, 1, 6, 7, 9, 11]) (bs := []) (sy' := ⟨[(0, V (.int .u64 x_)), (1, V (.int .u64 y_)), (6, V (.int .u64 (IntKind.u64.wrap ((BitVec.ofInt IntKind.u64.bits x_ &&& BitVec.ofInt IntKind.u64.bits 4294967295).toNat : Int)))), (7, V (.int .u64 ((x_).fdiv (2 ^ 32)))), (9, V (.int .u64 ((y_).fdiv (2 ^ 32)))), (11, V (.int .u64 (IntKind.u64.wrap ((IntKind.u64.wrap (((x_).fdiv (2 ^ 32)) * (IntKind.u64.wrap ((BitVec.ofInt IntKind.u64.bits y_ &&& BitVec.ofInt IntKind.u64.bits 4294967295).toNat : Int)))) + (((IntKind.u64.wrap ((IntKind.u64.wrap ((BitVec.ofInt IntKind.u64.bits x_ &&& BitVec.ofInt IntKind.u64.bits 4294967295).toNat : Int)) * (IntKind.u64.wrap ((BitVec.ofInt IntKind.u64.bits y_ &&& BitVec.ofInt IntKind.u64.bits 4294967295).toNat : Int))))).fdiv (2 ^ 32))))))], []⟩) kr ?_
 intro a hS
 refine regP T hS (sp := []) (ks := [0, 1, 6, 7, 9, 11, 12]) (bs := []) (sy' := ⟨[(0, V (.int .u64 x_)), (1, V (.int .u64 y_)), (6, V (.int .u64 (IntKind.u64.wrap ((BitVec.ofInt IntKind.u64.bits x_ &&& BitVec.ofInt IntKind.u64.bits 4294967295).toNat : Int)))), (7, V (.int .u64 ((x_).fdiv (2 ^ 32)))), (9, V (.int .u64 ((y_).fdiv (2 ^ 32)))), (11, V (.int .u64 (IntKind.u64.wrap ((IntKind.u64.wrap (((x_).fdiv (2 ^ 32)) * (IntKind.u64.wrap ((BitVec.ofInt IntKind.u64.bits y_ &&& BitVec.ofInt IntKind.u64.bits 4294967295).toNat : Int)))) + (((IntKind.u64.wrap ((IntKind.u64.wrap ((BitVec.ofInt IntKind.u64.bits x_ &&& BitVec.ofInt IntKind.u64.bits 4294967295).toNat : Int)) * (IntKind.u64.wrap ((BitVec.ofInt IntKind.u64.bits y_ &&& BitVec.ofInt IntKind.u64.bits 4294967295).toNat : Int))))).fdiv (2 ^ 32)))))), (12, V (.int .u64 (IntKind.u64.wrap ((BitVec.ofInt IntKind.u64.bits (IntKind.u64.wrap ((IntKind.u64.wrap (((x_).fdiv (2 ^ 32)) * (IntKind.u64.wrap ((BitVec.ofInt IntKind.u64.bits y_ &&& BitVec.ofInt IntKind.u64.bits 4294967295).toNat : Int)))) + (((IntKind.u64.wrap ((IntKind.u64.wrap ((BitVec.ofInt IntKind.u64.bits x_ &&& BitVec.ofInt IntKind.u64.bits 4294967295).toNat : Int)) * (IntKind.u64.wrap ((BitVec.ofInt IntKind.u64.bits y_ &&& BitVec.ofInt IntKind.u64.bits 4294967295).toNat : Int))))).fdiv (2 ^ 32)))) &&& BitVec.ofInt IntKind.u64.bits 4294967295).toNat : Int))))], []⟩) kr ?_
 intro a hS
 refine regP T hS (sp := []) (ks := [0, 1, 6, 7, 9, 12, 13]) (bs := []) (sy' := ⟨[(0, V (.int .u64 x_)), (1, V (.int .u64 y_)), (6, V (.int .u64 (IntKind.u64.wrap ((BitVec.ofInt IntKind.u64.bits x_ &&& BitVec.ofInt IntKind.u64.bits 4294967295).toNat : Int)))), (7, V (.int .u64 ((x_).fdiv (2 ^ 32)))), (9, V (.int .u64 ((y_).fdiv (2 ^ 32)))), (12, V (.int .u64 (IntKind.u64.wrap ((BitVec.ofInt IntKind.u64.bits (IntKind.u64.wrap ((IntKind.u64.wrap (((x_).fdiv (2 ^ 32)) * (IntKind.u64.wrap ((BitVec.ofInt IntKind.u64.bits y_ &&& BitVec.ofInt IntKind.u64.bits 4294967295).toNat : Int)))) + (((IntKind.u64.wrap ((IntKind.u64.wrap ((BitVec.ofInt IntKind.u64.bits x_ &&& BitVec.ofInt IntKind.u64.bits 4294967295).toNat : Int)) * (IntKind.u64.wrap ((BitVec.ofInt IntKind.u64.bits y_ &&& BitVec.ofInt IntKind.u64.bits 4294967295).toNat : Int))))).fdiv (2 ^ 32)))) &&& BitVec.ofInt IntKind.u64.bits 4294967295).toNat : Int)))), (13, V (.int .u64 (((IntKind.u64.wrap ((IntKind.u64.wrap (((x_).fdiv (2 ^ 32)) * (IntKind.u64.wrap ((BitVec.ofInt IntKind.u64.bits y_ &&& BitVec.ofInt IntKind.u64.bits 4294967295).toNat : Int)))) + (((IntKind.u64.wrap ((IntKind.u64.wrap ((BitVec.ofInt IntKind.u64.bits x_ &&& BitVec.ofInt IntKind.u64.bits 4294967295).toNat : Int)) * (IntKind.u64.wrap ((BitVec.ofInt IntKind.u64.bits y_ &&& BitVec.ofInt IntKind.u64.bits 4294967295).toNat : Int))))).fdiv (2 ^ 32))))).fdiv (2 ^ 32))))], []⟩) kr ?_
 intro a hS
 refine regP T hS (sp := []) (ks := [0, 1, 7, 9, 12, 13]) (bs := []) (sy' := ⟨[(0, V (.int .u64 x_)), (1, V (.int .u64 y_)), (7, V (.int .u64 ((x_).fdiv (2 ^ 32)))), (9, V (.int .u64 ((y_).fdiv (2 ^ 32)))), (12, V (.int .u64 (IntKind.u64.wrap ((IntKind.u64.wrap ((BitVec.ofInt IntKind.u64.bits (IntKind.u64.wrap ((IntKind.u64.wrap (((x_).fdiv (2 ^ 32)) * (IntKind.u64.wrap ((BitVec.ofInt IntKind.u64.bits y_ &&& BitVec.ofInt IntKind.u64.bits 4294967295).toNat : Int)))) + (((IntKind.u64.wrap ((IntKind.u64.wrap ((BitVec.ofInt IntKind.u64.bits x_ &&& BitVec.ofInt IntKind.u64.bits 4294967295).toNat : Int)) * (IntKind.u64.wrap ((BitVec.ofInt IntKind.u64.bits y_ &&& BitVec.ofInt IntKind.u64.bits 4294967295).toNat : Int))))).fdiv (2 ^ 32)))) &&& BitVec.ofInt IntKind.u64.bits 4294967295).toNat : Int)) + (IntKind.u64.wrap ((IntKind.u64.wrap ((BitVec.ofInt IntKind.u64.bits x_ &&& BitVec.ofInt IntKind.u64.bits 4294967295).toNat : Int)) * ((y_).fdiv (2 ^ 32)))))))), (13, V (.int .u64 (((IntKind.u64.wrap ((IntKind.u64.wrap (((x_).fdiv (2 ^ 32)) * (IntKind.u64.wrap ((BitVec.ofInt IntKind.u64.bits y_ &&& BitVec.ofInt IntKind.u64.bits 4294967295).toNat : Int)))) + (((IntKind.u64.wrap ((IntKind.u64.wrap ((BitVec.ofInt IntKind.u64.bits x_ &&& BitVec.ofInt IntKind.u64.bits 4294967295).toNat : Int)) * (IntKind.u64.wrap ((BitVec.ofInt IntKind.u64.bits y_ &&& BitVec.ofInt IntKind.u64.bits 4294967295).toNat : Int))))).fdiv (2 ^ 32))))).fdiv (2 ^ 32))))], []⟩) kr ?_
 intro a hS
 refine regP T hS (sp := []) (ks := [0, 1, 4]) (bs := []) (sy' := ⟨[(0, V (.int .u64 x_)), (1, V (.int .u64 y_)), (4, V (.int .u64 (IntKind.u64.wrap ((IntKind.u64.wrap ((IntKind.u64.wrap (((x_).fdiv (2 ^ 32)) * ((y_).fdiv (2 ^ 32)))) + (((IntKind.u64.wrap ((IntKind.u64.wrap (((x_).fdiv (2 ^ 32)) * (IntKind.u64.wrap ((BitVec.ofInt IntKind.u64.bits y_ &&& BitVec.ofInt IntKind.u64.bits 4294967295).toNat : Int)))) + (((IntKind.u64.wrap ((IntKind.u64.wrap ((BitVec.ofInt IntKind.u64.bits x_ &&& BitVec.ofInt IntKind.u64.bits 4294967295).toNat : Int)) * (IntKind.u64.wrap ((BitVec.ofInt IntKind.u64.bits y_ &&& BitVec.ofInt IntKind.u64.bits 4294967295).toNat : Int))))).fdiv (2 ^ 32))))).fdiv (2 ^ 32)))) + (((IntKind.u64.wrap ((IntKind.u64.wrap ((BitVec.ofInt IntKind.u64.bits (IntKind.u64.wrap ((IntKind.u64.wrap (((x_).fdiv (2 ^ 32)) * (IntKind.u64.wrap ((BitVec.ofInt IntKind.u64.bits y_ &&& BitVec.ofInt IntKind.u64.bits 4294967295).toNat : Int)))) + (((IntKind.u64.wrap ((IntKind.u64.wrap ((BitVec.ofInt IntKind.u64.bits x_ &&& BitVec.ofInt IntKind.u64.bits 4294967295).toNat : Int)) * (IntKind.u64.wrap ((BitVec.ofInt IntKind.u64.bits y_ &&& BitVec.ofInt IntKind.u64.bits 4294967295).toNat : Int))))).fdiv (2 ^ 32)))) &&& BitVec.ofInt IntKind.u64.bits 4294967295).toNat : Int)) + (IntKind.u64.wrap ((IntKind.u64.wrap ((BitVec.ofInt IntKind.u64.bits x_ &&& BitVec.ofInt IntKind.u64.bits 4294967295).toNat : Int)) * ((y_).fdiv (2 ^ 32))))))).fdiv (2 ^ 32))))))], []⟩) kr ?_
 intro a hS
 refine regP T hS (sp := []) (ks := [4, 5]) (bs := []) (sy' := ⟨[(4, V (.int .u64 (IntKind.u64.wrap ((IntKind.u64.wrap ((IntKind.u64.wrap (((x_).fdiv (2 ^ 32)) * ((y_).fdiv (2 ^ 32)))) + (((IntKind.u64.wrap ((IntKind.u64.wrap (((x_).fdiv (2 ^ 32)) * (IntKind.u64.wrap ((BitVec.ofInt IntKind.u64.bits y_ &&& BitVec.ofInt IntKind.u64.bits 4294967295).toNat : Int)))) + (((IntKind.u64.wrap ((IntKind.u64.wrap ((BitVec.ofInt IntKind.u64.bits x_ &&& BitVec.ofInt IntKind.u64.bits 4294967295).toNat : Int)) * (IntKind.u64.wrap ((BitVec.ofInt IntKind.u64.bits y_ &&& BitVec.ofInt IntKind.u64.bits 4294967295).toNat : Int))))).fdiv (2 ^ 32))))).fdiv (2 ^ 32)))) + (((IntKind.u64.wrap ((IntKind.u64.wrap ((BitVec.ofInt IntKind.u64.bits (IntKind.u64.wrap ((IntKind.u64.wrap (((x_).fdiv (2 ^ 32)) * (IntKind.u64.wrap ((BitVec.ofInt IntKind.u64.bits y_ &&& BitVec.ofInt IntKind.u64.bits 4294967295).toNat : Int)))) + (((IntKind.u64.wrap ((IntKind.u64.wrap ((BitVec.ofInt IntKind.u64.bits x_ &&& BitVec.ofInt IntKind.u64.bits 4294967295).toNat : Int)) * (IntKind.u64.wrap ((BitVec.ofInt IntKind.u64.bits y_ &&& BitVec.ofInt IntKind.u64.bits 4294967295).toNat : Int))))).fdiv (2 ^ 32)))) &&& BitVec.ofInt IntKind.u64.bits 4294967295).toNat : Int)) + (IntKind.u64.wrap ((IntKind.u64.wrap ((BitVec.ofInt IntKind.u64.bits x_ &&& BitVec.ofInt IntKind.u64.bits 4294967295).toNat : Int)) * ((y_).fdiv (2 ^ 32))))))).fdiv (2 ^ 32)))))), (5, V (.int .u64 (IntKind.u64.wrap (x_ * y_))))], []⟩) kr ?_
 intro a hS
 refine wret ?_
 exact fin T hS hO (fun c => c) rfl (r := [.int .u64 (IntKind.u64.wrap ((IntKind.u64.wrap ((IntKind.u64.wrap (((x_).fdiv (2 ^ 32)) * ((y_).fdiv (2 ^ 32)))) + (((IntKind.u64.wrap ((IntKind.u64.wrap (((x_).fdiv (2 ^ 32)) * (IntKind.u64.wrap ((BitVec.ofInt IntKind.u64.bits y_ &&& BitVec.ofInt IntKind.u64.bits 4294967295).toNat : Int)))) + (((IntKind.u64.wrap ((IntKind.u64.wrap ((BitVec.ofInt IntKind.u64.bits x_ &&& BitVec.ofInt IntKind.u64.bits 4294967295).toNat : Int)) * (IntKind.u64.wrap ((BitVec.ofInt IntKind.u64.bits y_ &&& BitVec.ofInt IntKind.u64.bits 4294967295).toNat : Int))))).fdiv (2 ^ 32))))).fdiv (2 ^ 32)))) + (((IntKind.u64.wrap ((IntKind.u64.wrap ((BitVec.ofInt IntKind.u64.bits (IntKind.u64.wrap ((IntKind.u64.wrap (((x_).fdiv (2 ^ 32)) * (IntKind.u64.wrap ((BitVec.ofInt IntKind.u64.bits y_ &&& BitVec.ofInt IntKind.u64.bits 4294967295).toNat : Int)))) + (((IntKind.u64.wrap ((IntKind.u64.wrap ((BitVec.ofInt IntKind.u64.bits x_ &&& BitVec.ofInt IntKind.u64.bits 4294967295).toNat : Int)) * (IntKind.u64.wrap ((BitVec.ofInt IntKind.u64.bits y_ &&& BitVec.ofInt IntKind.u64.bits 4294967295).toNat : Int))))).fdiv (2 ^ 32)))) &&& BitVec.ofInt IntKind.u64.bits 4294967295).toNat : Int)) + (IntKind.u64.wrap ((IntKind.u64.wrap ((BitVec.ofInt IntKind.u64.bits x_ &&& BitVec.ofInt IntKind.u64.bits 4294967295).toNat : Int)) * ((y_).fdiv (2 ^ 32))))))).fdiv (2 ^ 32)))), .int .u64 (IntKind.u64.wrap (x_ * y_))]) kr (fun χ' hM hC => ⟨(IntKind.u64.wrap ((IntKind.u64.wrap ((IntKind.u64.wrap (((x_).fdiv (2 ^ 32)) * ((y_).fdiv (2 ^ 32)))) + (((IntKind.u64.wrap ((IntKind.u64.wrap (((x_).fdiv (2 ^ 32)) * (IntKind.u64.wrap ((BitVec.ofInt IntKind.u64.bits y_ &&& BitVec.ofInt IntKind.u64.bits 4294967295).toNat : Int)))) + (((IntKind.u64.wrap ((IntKind.u64.wrap ((BitVec.ofInt IntKind.u64.bits x_ &&& BitVec.ofInt IntKind.u64.bits 4294967295).toNat : Int)) * (IntKind.u64.wrap ((BitVec.ofInt IntKind.u64.bits y_ &&& BitVec.ofInt IntKind.u64.bits 4294967295).toNat : Int))))).fdiv (2 ^ 32))))).fdiv (2 ^ 32)))) + (((IntKind.u64.wrap ((IntKind.u64.wrap ((BitVec.ofInt IntKind.u64.bits (IntKind.u64.wrap ((IntKind.u64.wrap (((x_).fdiv (2 ^ 32)) * (IntKind.u64.wrap ((BitVec.ofInt IntKind.u64.bits y_ &&& BitVec.ofInt IntKind.u64.bits 4294967295).toNat : Int)))) + (((IntKind.u64.wrap ((IntKind.u64.wrap ((BitVec.ofInt IntKind.u64.bits x_ &&& BitVec.ofInt IntKind.u64.bits 4294967295).toNat : Int)) * (IntKind.u64.wrap ((BitVec.ofInt IntKind.u64.bits y_ &&& BitVec.ofInt IntKind.u64.bits 4294967295).toNat : Int))))).fdiv (2 ^ 32)))) &&& BitVec.ofInt IntKind.u64.bits 4294967295).toNat : Int)) + (IntKind.u64.wrap ((IntKind.u64.wrap ((BitVec.ofInt IntKind.u64.bits x_ &&& BitVec.ofInt IntKind.u64.bits 4294967295).toNat : Int)) * ((y_).fdiv (2 ^ 32))))))).fdiv (2 ^ 32))), IntKind.u64.wrap (x_ * y_)), hm, rfl⟩)
theorem C88 (v : ∀ (x_ : Int) (y_ : Int), preM x_ y_ → VC88 x_ y_ (fun r => r = math_bits_Mul64 x_ y_)) : S88 := by
 intro w χ x_ y_    hp 
 refine (W88 w χ x_ y_    _ (v x_ y_ hp)).mono ?_
 rintro _ _ _ _ ⟨r, rfl, h⟩
 exact h
/-- math/bits.Mul -/
theorem W77 (k88 : S88) (w0 : World) (χ0 : Nat → Nat) (x_ : Int) (y_ : Int) (Q : Int × Int → Prop) (hm : VC77 x_ y_ Q) :
  Ret Tryd.prog 77 #[.int .u64 x_, .int .u64 y_] xnone w0 χ0 (fun w χ' v => ∃ r, Q r ∧ v = .tuple #[.int .u64 r.1, .int .u64 r.2]) := by
 unfold VC77 at hm
 refine enter Tryd.func77 rfl (vals := [.int .u64 x_, .int .u64 y_]) kr ?_
 intro ρ a hS hO hM
 clear hM
 refine regP T hS (sp := []) (ks := [0, 1]) (bs := []) (sy' := ⟨[(0, V (.int .u64 x_)), (1, V (.int .u64 y_))], []⟩) kr ?_
 intro a hS
 refine wseq ?_
 refine wcond hS (b := false) kr (fun hb => by cases hb) (fun _ => ?_)
 refine wskip ?_
 refine regO ?_
 refine opsP T hS 2 (sp := []) (ks := [23, 24]) (bs := []) (sy' := ⟨[(23, V (.int .u64 x_)), (24, V (.int .u64 y_))], []⟩) kr ?_
 intro a hS
 obtain ⟨hq, hm⟩ := hm
 refine op1 (call hS kr kr hb88 kr (fun _ _ => rfl) (k88 _ _ x_ y_ hq) ?_)
 intro v101 a w102 χ103 hE hp hS
 clear hq
 replace hO := hO.mv hE rfl rfl
 clear hE
 obtain ⟨r104, hr⟩ : ∃ r, math_bits_Mul64 x_ y_ = r := ⟨_, rfl⟩
 replace hm := hm r104 hr
 rw [hr] at hp
 clear hr
 subst hp
 refine endP T hS (sp := []) (ks := [8, 9]) (bs := []) (sy' := ⟨[(8, V (.int .u64 r104.1)), (9, V (.int .u64 r104.2))], []⟩) kr ?_
 intro a hS
 refine regP T hS (sp := []) (ks := [4, 5]) (bs := []) (sy' := ⟨[(4, V (.int .u64 r104.1)), (5, V (.int .u64 r104.2))], []⟩) kr ?_
 intro a hS
 refine wret ?_
 exact fin T hS hO (fun c => c) rfl (r := [.int .u64 r104.1, .int .u64 r104.2]) kr (fun χ' hM hC => ⟨(r104.1, r104.2), hm, rfl⟩)
theorem C77 (k88 : S88) (v : ∀ (x_ : Int) (y_ : Int), preM x_ y_ → VC77 x_ y_ (fun r => r = math_bits_Mul x_ y_)) : S77 := by
 intro w χ x_ y_    hp 
 refine (W77 k88 w χ x_ y_    _ (v x_ y_ hp)).mono ?_
 rintro _ _ _ _ ⟨r, rfl, h⟩
 exact h
/-- slices.Repeat[[]int,int] -/
theorem W65 (k77 : S77) (w0 : World) (χ0 : Nat → Nat) (x_ : List Int) (count : Int) (a1 : Option Addr) (c1 : Nat) (Q : (List Int) → Prop) (hm : VC65 x_ count Q) (h1 : RS tI w0 χ0 a1 x_ c1) :
  Ret Tryd.prog 65 #[.slice a1 x_.length c1, .int .i64 count] xnone w0 χ0 (fun w χ' v => ∃ r, Q r ∧ ∃ (ra1 : Option Addr) (rc1 : Nat), v = .slice ra1 r.length rc1 ∧ RS tI w χ' ra1 r rc1) := by
 unfold VC65 at hm
 replace hm := hm (h1.sm kr)
 refine enter Tryd.func65 rfl (vals := [.slice a1 x_.length c1, .int .i64 count]) kr ?_
 intro ρ a hS hO hM
 replace h1 := h1.m0 hM
 clear hM
 refine regP T hS (sp := []) (ks := [0, 1]) (bs := []) (sy' := ⟨[(0, V (.slice a1 x_.length c1)), (1, I count)], []⟩) kr ?_
 intro a hS
 refine wseq ?_
 refine regP T hS (sp := []) (ks := [0, 1, 10]) (bs := []) (sy' := ⟨[(0, V (.slice a1 x_.length c1)), (1, I count), (10, B (decide (count < 0)))], []⟩) kr ?_
 intro a hS
 refine wcond hS (b := decide (count < 0)) kr (fun hb => ?_) (fun hb => ?_)
 ·replace hm := hm.1 hb
  exact hm.elim
 ·replace hm := hm.2 hb
  refine wskip ?_
  refine regO ?_
  refine opsP T hS 5 (sp := []) (ks := [0, 15, 17]) (bs := []) (sy' := ⟨[(0, V (.slice a1 x_.length c1)), (15, V (.int .u64 (IntKind.u64.wrap ((x_.length : Nat) : Int)))), (17, V (.int .u64 (IntKind.u64.wrap count)))], []⟩) kr ?_
  intro a hS
  obtain ⟨hq, hm⟩ := hm
  refine op1 (call hS kr kr hb77 kr (fun _ _ => rfl) (k77 _ _ (IntKind.u64.wrap ((x_.length : Nat) : Int)) (IntKind.u64.wrap count) hq) ?_)
  intro v101 a w102 χ103 hE hp hS
  clear hq
  replace hO := hO.mv hE rfl rfl
  replace h1 := h1.mv hE rfl
  clear hE
  obtain ⟨r104, hr⟩ : ∃ r, math_bits_Mul (IntKind.u64.wrap ((x_.length : Nat) : Int)) (IntKind.u64.wrap count) = r := ⟨_, rfl⟩
  replace hm := hm r104 hr
  rw [hr] at hp
  clear hr
  subst hp
  refine endP T hS (sp := []) (ks := [0, 5, 6]) (bs := []) (sy' := ⟨[(0, V (.slice a1 x_.length c1)), (5, V (.int .u64 r104.1)), (6, V (.int .u64 r104.2))], []⟩) kr ?_
  intro a hS
  refine wseq ?_
  refine regP T hS (sp := [23]) (ks := [0, 6, 26]) (bs := []) (sy' := ⟨[(0, V (.slice a1 x_.length c1)), (6, V (.int .u64 r104.2)), (26, B ((decide (r104.1 > 0)) || (decide (r104.2 > 9223372036854775807))))], []⟩) kr ?_
  intro a hS
  refine wcond hS (b := ((decide (r104.1 > 0)) || (decide (r104.2 > 9223372036854775807)))) kr (fun hb => ?_) (fun hb => ?_)
  ·replace hm := hm.1 hb
   exact hm.elim
  ·replace hm := hm.2 hb
   refine wskip ?_
   refine regO ?_
   refine opsP T hS 2 (sp := []) (ks := [0, 29]) (bs := []) (sy' := ⟨[(0, V (.slice a1 x_.length c1)), (29, I (IntKind.i64.wrap r104.2))], []⟩) kr ?_
   intro a hS
   obtain ⟨hq, hm⟩ := hm
   refine op1 (make (E := 3) (kl := .i64) (kc := .i64) (col := 1005) (T := tI) T 0 hS kr kr kr kr kr kr hq.1 hq.2.1 (by have := hq.2.2; have e_ : ((tI.bytes : Nat) : Int) = 8 := rfl; rw [e_]; omega) (by have := hq.2.2; omega) (fun _ _ => rfl) ?_)
   intro b105 a w106 χ107 hE h108 hN hS
   clear hq hN
   replace hO := hO.mv hE rfl rfl
   replace h1 := h1.mv hE rfl
   clear hE
   replace hS := hS.conv (t := 30) (y := .slice (some ⟨b105, 0, none⟩) (List.replicate (IntKind.i64.wrap r104.2).toNat (0 : Int)).length (IntKind.i64.wrap r104.2).toNat) kr (by rw [List.length_replicate])
   refine endP T hS (sp := []) (ks := [0, 7]) (bs := []) (sy' := ⟨[(0, V (.slice a1 x_.length c1)), (7, V (.slice (some ⟨b105, 0, none⟩) (List.replicate (IntKind.i64.wrap r104.2).toNat (0 : Int)).length (IntKind.i64.wrap r104.2).toNat))], []⟩) kr ?_
   intro a hS
   refine regO ?_
   refine opsP T hS 2 (sp := []) (ks := [7, 31, 32]) (bs := []) (sy' := ⟨[(7, V (.slice (some ⟨b105, 0, none⟩) (List.replicate (IntKind.i64.wrap r104.2).toNat (0 : Int)).length (IntKind.i64.wrap r104.2).toNat)), (31, V (.slice (some ⟨b105, 0, none⟩) (List.replicate (IntKind.i64.wrap r104.2).toNat (0 : Int)).length (IntKind.i64.wrap r104.2).toNat)), (32, V (.slice a1 x_.length c1))], []⟩) kr ?_
   intro a hS
   obtain ⟨news, hN⟩ := h1.src
   refine op1 (copyO (E := 3) (T := tI) (xs := List.replicate (IntKind.i64.wrap r104.2).toNat (0 : Int)) (ys := x_) (l := 0) (cx := (IntKind.i64.wrap r104.2).toNat) T hS kr kr kr (adAt_zero h108) kr h108 hN kr kr kr (Nat.zero_le _) ?_)
   intro a w109 hE h110 hS
   clear hN h108
   replace hO := hO.mv hE rfl rfl
   replace h1 := h1.mv hE rfl
   clear hE
   replace hS := hS.conv (t := 7) (x := .slice (some ⟨b105, 0, none⟩) (List.replicate (IntKind.i64.wrap r104.2).toNat (0 : Int)).length (IntKind.i64.wrap r104.2).toNat) (y := .slice (some ⟨b105, 0, none⟩) ((List.replicate (IntKind.i64.wrap r104.2).toNat (0 : Int)).take 0 ++ x_.take ((List.replicate (IntKind.i64.wrap r104.2).toNat (0 : Int)).length - 0) ++ (List.replicate (IntKind.i64.wrap r104.2).toNat (0 : Int)).drop (0 + min x_.length ((List.replicate (IntKind.i64.wrap r104.2).toNat (0 : Int)).length - 0))).length (IntKind.i64.wrap r104.2).toNat) kr (by simp only [List.length_append, List.length_take, List.length_drop]; congr 1 <;> omega)
   replace hS := hS.conv (t := 31) (x := .slice (some ⟨b105, 0, none⟩) (List.replicate (IntKind.i64.wrap r104.2).toNat (0 : Int)).length (IntKind.i64.wrap r104.2).toNat) (y := .slice (some ⟨b105, 0, none⟩) ((List.replicate (IntKind.i64.wrap r104.2).toNat (0 : Int)).take 0 ++ x_.take ((List.replicate (IntKind.i64.wrap r104.2).toNat (0 : Int)).length - 0) ++ (List.replicate (IntKind.i64.wrap r104.2).toNat (0 : Int)).drop (0 + min x_.length ((List.replicate (IntKind.i64.wrap r104.2).toNat (0 : Int)).length - 0))).length (IntKind.i64.wrap r104.2).toNat) kr (by simp only [List.length_append, List.length_take, List.length_drop]; congr 1 <;> omega)
   refine endP T hS (sp := []) (ks := [7, 8]) (bs := []) (sy' := ⟨[(7, V (.slice (some ⟨b105, 0, none⟩) ((List.replicate (IntKind.i64.wrap r104.2).toNat (0 : Int)).take 0 ++ x_.take ((List.replicate (IntKind.i64.wrap r104.2).toNat (0 : Int)).length - 0) ++ (List.replicate (IntKind.i64.wrap r104.2).toNat (0 : Int)).drop (0 + min x_.length ((List.replicate (IntKind.i64.wrap r104.2).toNat (0 : Int)).length - 0))).length (IntKind.i64.wrap r104.2).toNat)), (8, I ((min x_.length ((List.replicate (IntKind.i64.wrap r104.2).toNat (0 : Int)).length - 0) : Nat) : Int))], []⟩) kr ?_
   intro a hS
   refine wcut (fun a w => ∃ (ρ : Nat → Nat) (χ : Nat → Nat) (newslice_111 : List Int) (a112 : Option Addr) (c113 : Nat), VC65_J1 Q newslice_111 ∧ St Tryd.f65.ntmps ⟨[(7, V (.slice a112 newslice_111.length c113))], []⟩ ρ a w χ ∧ Old w0 χ0 w χ ∧ OS tI 3 w χ 1005 a112 newslice_111 c113) ?_ ?_
   ·refine wblock ?_
    obtain ⟨I1, μ1, hm0, hm⟩ := hm
    refine wloop (σ := (List Int) × Int) (fun s a w => ∃ (ρ : Nat → Nat) (χ : Nat → Nat) (a118 : Option Addr) (c119 : Nat), I1 s.1 s.2 ∧ St Tryd.f65.ntmps ⟨[(7, V (.slice a118 s.1.length c119)), (8, I s.2)], []⟩ ρ a w χ ∧ Old w0 χ0 w χ ∧ OS tI 3 w χ 1005 a118 s.1 c119) (fun s => μ1 s.1 s.2) (⟨(List.replicate (IntKind.i64.wrap r104.2).toNat (0 : Int)).take 0 ++ x_.take ((List.replicate (IntKind.i64.wrap r104.2).toNat (0 : Int)).length - 0) ++ (List.replicate (IntKind.i64.wrap r104.2).toNat (0 : Int)).drop (0 + min x_.length ((List.replicate (IntKind.i64.wrap r104.2).toNat (0 : Int)).length - 0)), ((min x_.length ((List.replicate (IntKind.i64.wrap r104.2).toNat (0 : Int)).length - 0) : Nat) : Int)⟩) ?_ ?_
    ·exact ⟨ρ, _, (some ⟨b105, 0, none⟩), (IntKind.i64.wrap r104.2).toNat, hm0, hS.sel [7, 8] [] kr, hO, h110⟩
    ·rintro ⟨newslice_117, n_121⟩ a w129 ⟨ρ, χ128, a118, c119, hI, hS, hO, h120⟩
     replace hm := hm newslice_117 n_121 hI
     clear hI hm0
     refine wseq ?_
     refine regP T hS (sp := []) (ks := [7, 8, 37]) (bs := []) (sy' := ⟨[(7, V (.slice a118 newslice_117.length c119)), (8, I n_121), (37, B (decide (n_121 < ((newslice_117.length : Nat) : Int))))], []⟩) kr ?_
     intro a hS
     refine wcond hS (b := decide (n_121 < ((newslice_117.length : Nat) : Int))) kr (fun hb => ?_) (fun hb => ?_)
     ·replace hm := hm.1 hb
      refine wskip ?_
      refine wblock ?_
      refine drawnX [] mixed hS ?_
      intro w122 χ123 hS hE hD hH
      replace hO := hO.mv hE rfl rfl
      replace h120 := h120.mv hE rfl rfl
      clear hE
      refine take T [0, 1, 2, 4, 5] [] [7, 8, 38, 39, 40, 42, 43] hS kr kr kr hH (listed' := #[true, true, true, false, true, true, false, false, false, false]) (fuel := 5) (sy' := ⟨[(7, V (.slice a118 newslice_117.length c119)), (8, I n_121), (38, I n_121), (39, V (.slice a118 newslice_117.length c119)), (40, I n_121), (42, V (.slice a118 newslice_117.length c119)), (43, I n_121)], []⟩) kr (by rfl) ?_
      intro a hS
      obtain ⟨hq124, hm⟩ := hm
      refine dsliceL (E := 3) (k := .i64) (l := n_121) T 3 hS kr kr kr (by rfl) kr hH kr kr h120 kr kr hq124.1 hq124.2 ?_
      intro a hS
      obtain ⟨hq125, hm⟩ := hm
      refine dsliceH (E := 3) (k := .i64) (l := n_121) T 6 hS kr kr kr (by rfl) kr hH kr kr h120 kr kr hq125.1 hq125.2 ?_
      intro a hS
      obtain ⟨news, hN⟩ := (h120.srcTake n_121.toNat)
      refine only 7 kr (by rfl) (copyO (E := 3) (T := tI) (xs := newslice_117) (ys := newslice_117.take n_121.toNat) (l := n_121.toNat) (cx := c119 - n_121.toNat) T hS kr kr kr rfl kr h120 hN kr kr kr (by have := hq124.1; have := hq124.2; omega) ?_)
      intro a w126 hE h127 hS
      clear hN h120
      replace hO := hO.mv hE rfl rfl
      replace hD := hD.ev hE rfl
      clear hE
      replace hS := hS.conv (t := 7) (x := .slice a118 newslice_117.length c119) (y := .slice a118 (newslice_117.take n_121.toNat ++ (newslice_117.take n_121.toNat).take (newslice_117.length - n_121.toNat) ++ newslice_117.drop (n_121.toNat + min (newslice_117.take n_121.toNat).length (newslice_117.length - n_121.toNat))).length c119) kr (by have := hq124.1; have := hq124.2; simp only [List.length_append, List.length_take, List.length_drop]; congr 1 <;> omega)
      replace hS := hS.conv (t := 39) (x := .slice a118 newslice_117.length c119) (y := .slice a118 (newslice_117.take n_121.toNat ++ (newslice_117.take n_121.toNat).take (newslice_117.length - n_121.toNat) ++ newslice_117.drop (n_121.toNat + min (newslice_117.take n_121.toNat).length (newslice_117.length - n_121.toNat))).length c119) kr (by have := hq124.1; have := hq124.2; simp only [List.length_append, List.length_take, List.length_drop]; congr 1 <;> omega)
      replace hS := hS.conv (t := 42) (x := .slice a118 newslice_117.length c119) (y := .slice a118 (newslice_117.take n_121.toNat ++ (newslice_117.take n_121.toNat).take (newslice_117.length - n_121.toNat) ++ newslice_117.drop (n_121.toNat + min (newslice_117.take n_121.toNat).length (newslice_117.length - n_121.toNat))).length c119) kr (by have := hq124.1; have := hq124.2; simp only [List.length_append, List.length_take, List.length_drop]; congr 1 <;> omega)
      refine andH (Hold.of hS (bks := []) kr hD) ?_
      intro hH
      refine take T [8, 9] [] [7, 8] hS kr kr kr hH (listed' := #[true, true, true, true, true, true, true, true, true, true]) (fuel := 0) (sy' := ⟨[(7, V (.slice a118 (newslice_117.take n_121.toNat ++ (newslice_117.take n_121.toNat).take (newslice_117.length - n_121.toNat) ++ newslice_117.drop (n_121.toNat + min (newslice_117.take n_121.toNat).length (newslice_117.length - n_121.toNat))).length c119)), (8, I (IntKind.i64.wrap (n_121 + ((min (newslice_117.take n_121.toNat).length (newslice_117.length - n_121.toNat) : Nat) : Int))))], []⟩) kr (by rfl) ?_
      intro a hS
      refine drawnDone kr ?_
      clear hD hH
      replace hS := hS.sel [7, 8] [] (sy' := ⟨[(7, V (.slice a118 (newslice_117.take n_121.toNat ++ (newslice_117.take n_121.toNat).take (newslice_117.length - n_121.toNat) ++ newslice_117.drop (n_121.toNat + min (newslice_117.take n_121.toNat).length (newslice_117.length - n_121.toNat))).length c119)), (8, I (IntKind.i64.wrap (n_121 + ((min (newslice_117.take n_121.toNat).length (newslice_117.length - n_121.toNat) : Nat) : Int))))], []⟩) kr
      exact ⟨⟨newslice_117.take n_121.toNat ++ (newslice_117.take n_121.toNat).take (newslice_117.length - n_121.toNat) ++ newslice_117.drop (n_121.toNat + min (newslice_117.take n_121.toNat).length (newslice_117.length - n_121.toNat)), IntKind.i64.wrap (n_121 + ((min (newslice_117.take n_121.toNat).length (newslice_117.length - n_121.toNat) : Nat) : Int))⟩, ⟨ρ, _, a118, c119, hm.1, hS.sel [7, 8] [] kr, hO, h127⟩, hm.2⟩
     ·replace hm := hm.2 hb
      refine wexit (by rfl) ?_
      exact ⟨ρ, _, newslice_117, a118, c119, hm, hS.sel [7] [] kr, hO, h120⟩
   ·rintro a w131 ⟨ρ, χ130, newslice_111, a112, c113, hm, hS, hO, h114⟩
    unfold VC65_J1 at hm
    refine regP T hS (sp := []) (ks := [4]) (bs := []) (sy' := ⟨[(4, V (.slice a112 newslice_111.length c113))], []⟩) kr ?_
    intro a hS
    refine wret ?_
    obtain ⟨χ115, hE, hF⟩ := h114.freeze (by decide)
    replace hS := hS.ev hE (xone_box kr)
    replace hO := hO.mv hE rfl rfl
    have h116 := hF; clear hE hF
    exact fin T hS hO (fun c => c) rfl (r := [.slice a112 newslice_111.length c113]) kr (fun χ' hM hC => ⟨newslice_111, hm, a112, c113, rfl, h116.m0 hM⟩)
theorem C65 (k77 : S77) (v : ∀ (x_ : List Int) (count : Int), preRep x_ count → VC65 x_ count (fun r => r = slices_Repeat_int_int x_ count)) : S65 := by
 intro w χ x_ count a1 c1   hp h1
 refine (W65 k77 w χ x_ count a1 c1   _ (v x_ count hp) h1).mono ?_
 rintro _ _ _ _ ⟨r, rfl, h⟩
 exact h
/-- replevin/objtext.bounds$1 -/
theorem W64 (k65 : S65) (w0 : World) (χ0 : Nat → Nat) (x_ : Int) (cap1 : Int) (b1 : Nat) (i1 : Nat) (Q : (List Int) → Prop) (hm : VC64 x_ cap1 Q) (hc1 : Cell w0 χ0 b1 i1 3 [.int .i64 cap1]) (hA : Apart [i1]) :
  Ret Tryd.prog 64 #[.int .i64 x_, .pointer (some ⟨b1, 0, none⟩)] (pR [i1]) w0 χ0 (fun w χ' v => ∃ r, Q r ∧ ∃ (ra1 : Option Addr) (rc1 : Nat), v = .slice ra1 r.length rc1 ∧ RS tI w χ' ra1 r rc1 ∧ Cell w χ' b1 i1 3 [.int .i64 cap1]) := by
 unfold VC64 at hm
 refine enterR Tryd.func64 rfl (f0of [(i1, 901)]) (fun id => (bif Nat.beq id 901 then b1 else 0)) (args := [I x_, Pt 901 0]) (bxs := [(901, (3, [I cap1]))]) kr rfl (BoxesOK.cons kr (hc1.map (f0of_at 0 hA.1 rfl)) BoxesOK.nil) (f0of_0 (fun q hq => (hA.2 q.1 (List.mem_map.2 ⟨q, hq, rfl⟩)).1)) ?_
 intro a hS hO hM
 have hP : Pin [(901, b1)] (fun id => (bif Nat.beq id 901 then b1 else 0)) := by intro q hq; simp at hq; rcases hq with rfl <;> rfl
 generalize (fun id => (bif Nat.beq id 901 then b1 else 0)) = ρ at hS hP
 clear hc1
 clear hM
 refine regP T hS (sp := []) (ks := [0, 1]) (bs := [901]) (sy' := ⟨[(0, I x_), (1, Pt 901 0)], [(901, (3, [I cap1]))]⟩) kr ?_
 intro a hS
 refine regO ?_
 refine opsP T hS 1 (sp := []) (ks := [1, 4]) (bs := [901]) (sy' := ⟨[(1, Pt 901 0), (4, I x_)], [(901, (3, [I cap1]))]⟩) kr ?_
 intro a hS
 refine op1 (lit (E := 3) (col := 0) (T := tI) (vals := [.int .i64 x_]) (ys := [x_]) T hS kr kr kr kr (by exact ⟨rfl, trivial⟩) rfl kr kr kr kr ?_)
 intro b101 a w102 χ103 hE h104 hN hS
 clear hN
 replace hO := hO.mv hE rfl rfl
 clear hE
 replace h104 := h104.rs0
 refine opsP T hS 1 (sp := []) (ks := [5, 6]) (bs := [901]) (sy' := ⟨[(5, V (.slice (some ⟨b101, 0, none⟩) [x_].length 1)), (6, I cap1)], [(901, (3, [I cap1]))]⟩) kr ?_
 intro a hS
 obtain ⟨hq, hm⟩ := hm
 refine op1 (call hS kr kr hb65 kr (fun _ _ => rfl) (k65 _ _ [x_] cap1 (some ⟨b101, 0, none⟩) 1 hq h104) ?_)
 intro v105 a w106 χ107 hE hp hS
 clear hq
 replace hO := hO.mv hE rfl rfl
 replace h104 := h104.mv hE rfl
 clear hE
 obtain ⟨a109, c110, hp, h111⟩ := hp
 obtain ⟨r108, hr⟩ : ∃ r, slices_Repeat_int_int [x_] cap1 = r := ⟨_, rfl⟩
 replace hm := hm r108 hr
 rw [hr] at hp h111
 clear hr
 subst hp
 replace hm := hm (h111.sm kr)
 refine endP T hS (sp := []) (ks := [3]) (bs := [901]) (sy' := ⟨[(3, V (.slice a109 r108.length c110))], [(901, (3, [I cap1]))]⟩) kr ?_
 intro a hS
 refine wret ?_
 exact finR T hS hO (fun c h => f0of_zero kr h) (fun c h => f0of_else (l := [(i1, 901)]) h) (f1of [(i1, 901)]) rfl (r := [.slice a109 r108.length c110]) kr (fun χ' hM hC => ⟨r108, hm, a109, c110, rfl, h111.m0 hM, ((hS.cell (id := 901) (t := 3) (cs := [I cap1]) kr).out (f := (f1of [(i1, 901)])) hC kr kr (hP.at 0 rfl))⟩)
theorem C64 (k65 : S65) (v : ∀ (x_ : Int) (cap1 : Int), preB1 x_ cap1 → VC64 x_ cap1 (fun r => r = objtext_bounds_1 x_ cap1)) : S64 := by
 intro w χ x_ cap1   b1 i1 hp hc1 hA
 refine (W64 k65 w χ x_ cap1   b1 i1 _ (v x_ cap1 hp) hc1 hA).mono ?_
 rintro _ _ _ _ ⟨r, rfl, h⟩
 exact h
/-- replevin/objtext.bounds -/
theorem W40 (k64 : S64) (w0 : World) (χ0 : Nat → Nat) (n_ : Int) (Q : (List Int) × (List Int) → Prop) (hm : VC40 n_ Q) :
  Ret Tryd.prog 40 #[.int .i64 n_] xnone w0 χ0 (fun w χ' v => ∃ r, Q r ∧ ∃ (ra1 : Option Addr) (rc1 : Nat) (ra2 : Option Addr) (rc2 : Nat), v = .tuple #[.slice ra1 r.1.length rc1, .slice ra2 r.2.length rc2] ∧ RS tI w χ' ra1 r.1 rc1 ∧ RS tI w χ' ra2 r.2 rc2) := by
 unfold VC40 at hm
 refine enter Tryd.func40 rfl (vals := [.int .i64 n_]) kr ?_
 intro ρ a hS hO hM
 clear hM
 refine regM T hS (sp := []) (ks := [1]) (bs := [2]) (sy' := ⟨[(1, Pt 2 0)], [(2, (3, [I n_]))]⟩) kr ?_
 intro ρ a w117 χ118 hS hE hr
 replace hO := hO.mv hE rfl rfl
 clear hE hr
 refine regP T hS (sp := []) (ks := [4]) (bs := [2]) (sy' := ⟨[(4, .f (.func 64) [] [.p 2 0])], [(2, (3, [I n_]))]⟩) kr ?_
 intro a hS
 refine regO ?_
 refine opsP T hS 1 (sp := []) (ks := [4, 6]) (bs := [2]) (sy' := ⟨[(4, .f (.func 64) [] [.p 2 0]), (6, .f (.func 64) [] [.p 2 0])], [(2, (3, [I n_]))]⟩) kr ?_
 intro a hS
 obtain ⟨hq, hm⟩ := hm
 refine op1 (callCR (fi := []) (cp := [.p 2 0]) hS kr kr hb64 kr kr (k64 _ _ 0 n_ (ρ 2) 2 hq (hS.cell (id := 2) (t := 3) (cs := [I n_]) kr) ⟨by decide, by decide⟩) ?_)
 intro v101 a w102 χ103 hE hp hS
 clear hq
 replace hO := hO.mv hE rfl rfl
 clear hE
 obtain ⟨a105, c106, hp, h107, hc108⟩ := hp
 obtain ⟨r104, hr⟩ : ∃ r, objtext_bounds_1 0 n_ = r := ⟨_, rfl⟩
 replace hm := hm r104 hr
 rw [hr] at hp h107
 clear hr
 subst hp
 replace hm := hm (h107.sm kr)
 replace hS := hS.addbox (id := 2) (t := 3) (cs := [I n_]) kr hc108
 clear hc108
 refine opsP T hS 1 (sp := []) (ks := [7, 8]) (bs := [2]) (sy' := ⟨[(7, V (.slice a105 r104.length c106)), (8, .f (.func 64) [] [.p 2 0])], [(2, (3, [I n_]))]⟩) kr ?_
 intro a hS
 obtain ⟨hq, hm⟩ := hm
 refine op1 (callCR (fi := []) (cp := [.p 2 0]) hS kr kr hb64 kr kr (k64 _ _ 1000000 n_ (ρ 2) 2 hq (hS.cell (id := 2) (t := 3) (cs := [I n_]) kr) ⟨by decide, by decide⟩) ?_)
 intro v109 a w110 χ111 hE hp hS
 clear hq
 replace hO := hO.mv hE rfl rfl
 replace h107 := h107.mv hE rfl
 clear hE
 obtain ⟨a113, c114, hp, h115, hc116⟩ := hp
 obtain ⟨r112, hr⟩ : ∃ r, objtext_bounds_1 1000000 n_ = r := ⟨_, rfl⟩
 replace hm := hm r112 hr
 rw [hr] at hp h115
 clear hr
 subst hp
 replace hm := hm (h115.sm kr)
 replace hS := hS.addbox (id := 2) (t := 3) (cs := [I n_]) kr hc116
 clear hc116
 refine endP T hS (sp := []) (ks := [2, 3]) (bs := []) (sy' := ⟨[(2, V (.slice a105 r104.length c106)), (3, V (.slice a113 r112.length c114))], []⟩) kr ?_
 intro a hS
 refine wret ?_
 exact fin T hS hO (fun c => c) rfl (r := [.slice a105 r104.length c106, .slice a113 r112.length c114]) kr (fun χ' hM hC => ⟨(r104, r112), hm, a105, c106, a113, c114, rfl, h107.m0 hM, h115.m0 hM⟩)
theorem C40 (k64 : S64) (v : ∀ (n_ : Int), preBn n_ → VC40 n_ (fun r => r = objtext_bounds n_)) : S40 := by
 intro w χ n_    hp 
 refine (W40 k64 w χ n_    _ (v n_ hp)).mono ?_
 rintro _ _ _ _ ⟨r, rfl, h⟩
 exact h
/-- replevin/objtext.Numbers -/
theorem W42 (k66 : S66) (w0 : World) (χ0 : Nat → Nat) (l_ : List Token_Token) (word : List UInt8) (lo : List Int) (hi : List Int) (end_ : Int) (a1 : Option Addr) (c1 : Nat) (a2 : Option Addr) (c2 : Nat) (a3 : Option Addr) (c3 : Nat) (Q : (List Int) × Int × Int → Prop) (hm : VC42 l_ word lo hi end_ Q) (h1 : RS tToken_Token w0 χ0 a1 l_ c1) (h2 : RS tI w0 χ0 a2 lo c2) (h3 : RS tI w0 χ0 a3 hi c3) :
  Ret Tryd.prog 42 #[.slice a1 l_.length c1, .string (bs word), .slice a2 lo.length c2, .slice a3 hi.length c3, .int .i64 end_] xnone w0 χ0 (fun w χ' v => ∃ r, Q r ∧ ∃ (ra1 : Option Addr) (rc1 : Nat), v = .tuple #[.slice ra1 r.1.length rc1, .int .i64 r.2.1, .int .i64 r.2.2] ∧ RS tI w χ' ra1 r.1 rc1) := by
 unfold VC42 at hm
 replace hm := hm (h1.sm kr)
 replace hm := hm (h2.sm kr)
 replace hm := hm (h3.sm kr)
 refine enter Tryd.func42 rfl (vals := [.slice a1 l_.length c1, .string (bs word), .slice a2 lo.length c2, .slice a3 hi.length c3, .int .i64 end_]) kr ?_
 intro ρ a hS hO hM
 replace h1 := h1.m0 hM
 replace h2 := h2.m0 hM
 replace h3 := h3.m0 hM
 clear hM
 refine regP T hS (sp := []) (ks := [0, 1, 2, 3, 4]) (bs := []) (sy' := ⟨[(0, V (.slice a1 l_.length c1)), (1, V (.string (bs word))), (2, V (.slice a2 lo.length c2)), (3, V (.slice a3 hi.length c3)), (4, I end_)], []⟩) kr ?_
 intro a hS
 refine wseq ?_
 refine regP T hS (sp := []) (ks := [0, 1, 2, 3, 4, 21]) (bs := []) (sy' := ⟨[(0, V (.slice a1 l_.length c1)), (1, V (.string (bs word))), (2, V (.slice a2 lo.length c2)), (3, V (.slice a3 hi.length c3)), (4, I end_), (21, B (((l_.length : Nat) : Int) == 0))], []⟩) kr ?_
 intro a hS
 refine wcond hS (b := (((l_.length : Nat) : Int) == 0)) kr (fun hb => ?_) (fun hb => ?_)
 ·replace hm := hm.1 hb
  refine regP T hS (sp := []) (ks := [10, 11, 12]) (bs := []) (sy' := ⟨[(10, V (.slice none 0 0)), (11, I end_), (12, I 4)], []⟩) kr ?_
  intro a hS
  refine wret ?_
  exact fin T hS hO (fun c => c) rfl (r := [.slice none 0 0, .int .i64 end_, .int .i64 4]) kr (fun χ' hM hC => ⟨([], end_, 4), hm, none, 0, rfl, RS.empty _ _ _⟩)
 ·replace hm := hm.2 hb
  refine wskip ?_
  refine wseq ?_
  refine regO ?_
  refine opsP T hS 1 (sp := []) (ks := [0, 1, 2, 3, 4, 23]) (bs := []) (sy' := ⟨[(0, V (.slice a1 l_.length c1)), (1, V (.string (bs word))), (2, V (.slice a2 lo.length c2)), (3, V (.slice a3 hi.length c3)), (4, I end_), (23, V (.slice a1 l_.length c1))], []⟩) kr ?_
  intro a hS
  obtain ⟨hq, hm⟩ := hm
  refine op1 (index (e := 49) (k := .i64) T hS kr kr kr kr h1 kr kr hq.1 hq.2 ?_)
  intro A101 a h102 hS
  clear hq
  refine op1 (fieldA (off := 2) (fsz := 1) (ft := 9) (TF := tStr) (y := (gi l_ 0).Text) T hS kr kr kr h102 kr kr kr (fun cs h => Token_Token_f2 h) ?_)
  intro A103 a h104 hS
  refine op1 (load1 T hS kr kr kr h104 rfl kr ?_)
  intro v105 a hv hS
  cases hv
  refine endP T hS (sp := []) (ks := [0, 2, 3, 4, 28]) (bs := []) (sy' := ⟨[(0, V (.slice a1 l_.length c1)), (2, V (.slice a2 lo.length c2)), (3, V (.slice a3 hi.length c3)), (4, I end_), (28, B (!(((gi l_ 0).Text) == word)))], []⟩) kr ?_
  intro a hS
  refine wcond hS (b := (!(((gi l_ 0).Text) == word))) kr (fun hb => ?_) (fun hb => ?_)
  ·replace hm := hm.1 hb
   refine drawnSX [] mixed hS ?_
   intro w106 χ107 hS hE hD hH
   replace hO := hO.mv hE rfl rfl
   replace h1 := h1.mv hE rfl
   clear hE
   refine take T [0, 4] [] [10, 29] hS kr kr kr hH (listed' := #[true, false, false, false, true, false, false]) (fuel := 5) (sy' := ⟨[(10, V (.slice none 0 0)), (29, V (.slice a1 l_.length c1))], []⟩) kr (by rfl) ?_
   intro a hS
   obtain ⟨hq, hm⟩ := hm
   refine dindex (e := 49) (k := .i64) T 1 hS kr kr kr (by rfl) kr hH kr kr h1 kr kr hq.1 hq.2 ?_
   intro A108 a h109 hS
   clear hq
   have h109b := h109.here
   refine dfieldA (off := 1) (fsz := 1) (ft := 3) (TF := tI) (y := (gi l_ 0).At) 2 T hS kr kr kr (by rfl) kr hH kr h109 kr kr kr (fun cs h => Token_Token_f1 h) ?_
   intro A110 a h111 hbl hS
   have h111b := h109b
   rw [← hbl] at h111b
   clear hbl
   refine dload1 T 3 hS kr kr kr (by rfl) kr hH kr h111 h111b rfl kr ?_
   intro v112 a hv hS
   cases hv
   refine take T [5, 6] [] [10, 11, 12] hS kr kr kr hH (listed' := #[true, true, true, true, true, true, true]) (fuel := 0) (sy' := ⟨[(10, V (.slice none 0 0)), (11, I ((gi l_ 0).At)), (12, I 8)], []⟩) kr (by rfl) ?_
   intro a hS
   refine drawnDone kr ?_
   clear hD hH
   replace hS := hS.sel [10, 11, 12] [] (sy' := ⟨[(10, V (.slice none 0 0)), (11, I ((gi l_ 0).At)), (12, I 8)], []⟩) kr
   refine wret ?_
   exact fin T hS hO (fun c => c) rfl (r := [.slice none 0 0, .int .i64 ((gi l_ 0).At), .int .i64 8]) kr (fun χ' hM hC => ⟨([], (gi l_ 0).At, 8), hm, none, 0, rfl, RS.empty _ _ _⟩)
  ·replace hm := hm.2 hb
   refine wskip ?_
   refine regO ?_
   refine opsP T hS 4 (sp := []) (ks := [0, 2, 3, 4, 33, 36]) (bs := []) (sy' := ⟨[(0, V (.slice a1 l_.length c1)), (2, V (.slice a2 lo.length c2)), (3, V (.slice a3 hi.length c3)), (4, I end_), (33, V (.slice a1 l_.length c1)), (36, I (IntKind.i64.wrap (((l_.length : Nat) : Int) - 1)))], []⟩) kr ?_
   intro a hS
   obtain ⟨hq, hm⟩ := hm
   refine op1 (index (e := 49) (k := .i64) T hS kr kr kr kr h1 kr kr hq.1 hq.2 ?_)
   intro A113 a h114 hS
   clear hq
   refine op1 (loadA T hS kr kr kr h114 kr kr ?_)
   intro v115 a hv hS
   subst hv
   refine endM T hS (sp := []) (ks := [0, 2, 3, 4, 13]) (bs := [14]) (sy' := ⟨[(0, V (.slice a1 l_.length c1)), (2, V (.slice a2 lo.length c2)), (3, V (.slice a3 hi.length c3)), (4, I end_), (13, Pt 14 0)], [(14, (49, [I ((gi l_ (IntKind.i64.wrap (((l_.length : Nat) : Int) - 1))).Line), I ((gi l_ (IntKind.i64.wrap (((l_.length : Nat) : Int) - 1))).At), V (.string (bs ((gi l_ (IntKind.i64.wrap (((l_.length : Nat) : Int) - 1))).Text)))]))]⟩) kr ?_
   intro ρ a w172 χ173 hS hE hr
   replace hO := hO.mv hE rfl rfl
   replace h1 := h1.mv hE rfl
   replace h2 := h2.mv hE rfl
   replace h3 := h3.mv hE rfl
   clear hE hr
   refine regP T hS (sp := []) (ks := [0, 2, 3, 4, 13, 14]) (bs := [14]) (sy' := ⟨[(0, V (.slice a1 l_.length c1)), (2, V (.slice a2 lo.length c2)), (3, V (.slice a3 hi.length c3)), (4, I end_), (13, Pt 14 0), (14, V (.slice none 0 0))], [(14, (49, [I ((gi l_ (IntKind.i64.wrap (((l_.length : Nat) : Int) - 1))).Line), I ((gi l_ (IntKind.i64.wrap (((l_.length : Nat) : Int) - 1))).At), V (.string (bs ((gi l_ (IntKind.i64.wrap (((l_.length : Nat) : Int) - 1))).Text)))]))]⟩) kr ?_
   intro a hS
   refine wcut (fun a w => ∃ (ρ : Nat → Nat) (χ : Nat → Nat) (out_117 : List Int) (a118 : Option Addr) (c119 : Nat), VC42_J1 l_ end_ Q out_117 ∧ St Tryd.f42.ntmps ⟨[(0, V (.slice a1 l_.length c1)), (4, I end_), (14, V (.slice a118 out_117.length c119))], []⟩ ρ a w χ ∧ Old w0 χ0 w χ ∧ RS tToken_Token w χ a1 l_ c1 ∧ OS tI 3 w χ 1011 a118 out_117 c119) ?_ ?_
   ·refine regP T hS (sp := []) (ks := [0, 2, 3, 4, 13, 14, 43, 44]) (bs := [14]) (sy' := ⟨[(0, V (.slice a1 l_.length c1)), (2, V (.slice a2 lo.length c2)), (3, V (.slice a3 hi.length c3)), (4, I end_), (13, Pt 14 0), (14, V (.slice none 0 0)), (43, I (if ((hi.length : Nat) : Int) < ((lo.length : Nat) : Int) then ((hi.length : Nat) : Int) else ((lo.length : Nat) : Int))), (44, I 0)], [(14, (49, [I ((gi l_ (IntKind.i64.wrap (((l_.length : Nat) : Int) - 1))).Line), I ((gi l_ (IntKind.i64.wrap (((l_.length : Nat) : Int) - 1))).At), V (.string (bs ((gi l_ (IntKind.i64.wrap (((l_.length : Nat) : Int) - 1))).Text)))]))]⟩) kr ?_
    intro a hS
    refine wblock ?_
    obtain ⟨I1, μ1, hm0, hm⟩ := hm
    refine wloop (σ := (List Int) × Int) (fun s a w => ∃ (ρ : Nat → Nat) (χ : Nat → Nat) (a134 : Option Addr) (c135 : Nat), I1 s.1 s.2 ∧ St Tryd.f42.ntmps ⟨[(0, V (.slice a1 l_.length c1)), (2, V (.slice a2 lo.length c2)), (3, V (.slice a3 hi.length c3)), (4, I end_), (13, Pt 14 0), (14, V (.slice a134 s.1.length c135)), (43, I (if ((hi.length : Nat) : Int) < ((lo.length : Nat) : Int) then ((hi.length : Nat) : Int) else ((lo.length : Nat) : Int))), (44, I s.2)], [(14, (49, [I ((gi l_ (IntKind.i64.wrap (((l_.length : Nat) : Int) - 1))).Line), I ((gi l_ (IntKind.i64.wrap (((l_.length : Nat) : Int) - 1))).At), V (.string (bs ((gi l_ (IntKind.i64.wrap (((l_.length : Nat) : Int) - 1))).Text)))]))]⟩ ρ a w χ ∧ Old w0 χ0 w χ ∧ RS tToken_Token w χ a1 l_ c1 ∧ RS tI w χ a2 lo c2 ∧ RS tI w χ a3 hi c3 ∧ OS tI 3 w χ 1011 a134 s.1 c135) (fun s => μ1 s.1 s.2) (⟨[], 0⟩) ?_ ?_
    ·exact ⟨ρ, _, none, 0, hm0, hS.sel [0, 2, 3, 4, 13, 14, 43, 44] [14] kr, hO, h1, h2, h3, (OS.nil _ _ _ _ _)⟩
    ·rintro ⟨out_133, x_137⟩ a w169 ⟨ρ, χ168, a134, c135, hI, hS, hO, h130, h131, h132, h136⟩
     replace hm := hm out_133 x_137 hI
     clear hI hm0
     refine regP T hS (sp := []) (ks := [0, 2, 3, 4, 13, 14, 43, 44, 45]) (bs := [14]) (sy' := ⟨[(0, V (.slice a1 l_.length c1)), (2, V (.slice a2 lo.length c2)), (3, V (.slice a3 hi.length c3)), (4, I end_), (13, Pt 14 0), (14, V (.slice a134 out_133.length c135)), (43, I (if ((hi.length : Nat) : Int) < ((lo.length : Nat) : Int) then ((hi.length : Nat) : Int) else ((lo.length : Nat) : Int))), (44, I x_137), (45, B (decide (x_137 < (if ((hi.length : Nat) : Int) < ((lo.length : Nat) : Int) then ((hi.length : Nat) : Int) else ((lo.length : Nat) : Int)))))], [(14, (49, [I ((gi l_ (IntKind.i64.wrap (((l_.length : Nat) : Int) - 1))).Line), I ((gi l_ (IntKind.i64.wrap (((l_.length : Nat) : Int) - 1))).At), V (.string (bs ((gi l_ (IntKind.i64.wrap (((l_.length : Nat) : Int) - 1))).Text)))]))]⟩) kr ?_
     intro a hS
     refine wseq ?_
     refine wcond hS (b := decide (x_137 < (if ((hi.length : Nat) : Int) < ((lo.length : Nat) : Int) then ((hi.length : Nat) : Int) else ((lo.length : Nat) : Int)))) kr (fun hb => ?_) (fun hb => ?_)
     ·replace hm := hm.1 hb
      refine wskip ?_
      refine wseq ?_
      refine wblock ?_
      refine regP T hS (sp := []) (ks := [0, 2, 3, 4, 13, 14, 15, 43, 44]) (bs := [14]) (sy' := ⟨[(0, V (.slice a1 l_.length c1)), (2, V (.slice a2 lo.length c2)), (3, V (.slice a3 hi.length c3)), (4, I end_), (13, Pt 14 0), (14, V (.slice a134 out_133.length c135)), (15, I x_137), (43, I (if ((hi.length : Nat) : Int) < ((lo.length : Nat) : Int) then ((hi.length : Nat) : Int) else ((lo.length : Nat) : Int))), (44, I x_137)], [(14, (49, [I ((gi l_ (IntKind.i64.wrap (((l_.length : Nat) : Int) - 1))).Line), I ((gi l_ (IntKind.i64.wrap (((l_.length : Nat) : Int) - 1))).At), V (.string (bs ((gi l_ (IntKind.i64.wrap (((l_.length : Nat) : Int) - 1))).Text)))]))]⟩) kr ?_
      intro a hS
      refine wseq ?_
      refine regP T hS (sp := []) (ks := [0, 2, 3, 4, 13, 14, 15, 43, 44, 51]) (bs := [14]) (sy' := ⟨[(0, V (.slice a1 l_.length c1)), (2, V (.slice a2 lo.length c2)), (3, V (.slice a3 hi.length c3)), (4, I end_), (13, Pt 14 0), (14, V (.slice a134 out_133.length c135)), (15, I x_137), (43, I (if ((hi.length : Nat) : Int) < ((lo.length : Nat) : Int) then ((hi.length : Nat) : Int) else ((lo.length : Nat) : Int))), (44, I x_137), (51, B (decide ((IntKind.i64.wrap (x_137 + 1)) ≥ ((l_.length : Nat) : Int))))], [(14, (49, [I ((gi l_ (IntKind.i64.wrap (((l_.length : Nat) : Int) - 1))).Line), I ((gi l_ (IntKind.i64.wrap (((l_.length : Nat) : Int) - 1))).At), V (.string (bs ((gi l_ (IntKind.i64.wrap (((l_.length : Nat) : Int) - 1))).Text)))]))]⟩) kr ?_
      intro a hS
      refine wcond hS (b := decide ((IntKind.i64.wrap (x_137 + 1)) ≥ ((l_.length : Nat) : Int))) kr (fun hb => ?_) (fun hb => ?_)
      ·replace hm := hm.1 hb
       refine drawnSX [14] mixed hS ?_
       intro w138 χ139 hS hE hD hH
       replace hO := hO.mv hE rfl rfl
       clear hE
       refine take T [0, 2, 6, 1, 3, 4, 5, 7, 8] [14] [10, 11, 12] hS kr kr kr hH (listed' := #[true, true, true, true, true, true, true, true, true]) (fuel := 0) (sy' := ⟨[(10, V (.slice none 0 0)), (11, I (IntKind.i64.wrap (((gi l_ (IntKind.i64.wrap (((l_.length : Nat) : Int) - 1))).At) + ((((gi l_ (IntKind.i64.wrap (((l_.length : Nat) : Int) - 1))).Text).length : Nat) : Int)))), (12, I 4)], [(14, (49, [I ((gi l_ (IntKind.i64.wrap (((l_.length : Nat) : Int) - 1))).Line), I ((gi l_ (IntKind.i64.wrap (((l_.length : Nat) : Int) - 1))).At), V (.string (bs ((gi l_ (IntKind.i64.wrap (((l_.length : Nat) : Int) - 1))).Text)))]))]⟩) kr (by rfl) ?_
       intro a hS
       refine drawnDone kr ?_
       clear hD hH
       replace hS := hS.sel [10, 11, 12] [] (sy' := ⟨[(10, V (.slice none 0 0)), (11, I (IntKind.i64.wrap (((gi l_ (IntKind.i64.wrap (((l_.length : Nat) : Int) - 1))).At) + ((((gi l_ (IntKind.i64.wrap (((l_.length : Nat) : Int) - 1))).Text).length : Nat) : Int)))), (12, I 4)], []⟩) kr
       refine wret ?_
       exact fin T hS hO (fun c => c) rfl (r := [.slice none 0 0, .int .i64 (IntKind.i64.wrap (((gi l_ (IntKind.i64.wrap (((l_.length : Nat) : Int) - 1))).At) + ((((gi l_ (IntKind.i64.wrap (((l_.length : Nat) : Int) - 1))).Text).length : Nat) : Int))), .int .i64 4]) kr (fun χ' hM hC => ⟨([], IntKind.i64.wrap (((gi l_ (IntKind.i64.wrap (((l_.length : Nat) : Int) - 1))).At) + ((((gi l_ (IntKind.i64.wrap (((l_.length : Nat) : Int) - 1))).Text).length : Nat) : Int)), 4), hm, none, 0, rfl, RS.empty _ _ _⟩)
      ·replace hm := hm.2 hb
       refine wskip ?_
       refine regO ?_
       refine opsP T hS 3 (sp := []) (ks := [0, 2, 3, 4, 13, 14, 15, 43, 44, 58, 60]) (bs := [14]) (sy' := ⟨[(0, V (.slice a1 l_.length c1)), (2, V (.slice a2 lo.length c2)), (3, V (.slice a3 hi.length c3)), (4, I end_), (13, Pt 14 0), (14, V (.slice a134 out_133.length c135)), (15, I x_137), (43, I (if ((hi.length : Nat) : Int) < ((lo.length : Nat) : Int) then ((hi.length : Nat) : Int) else ((lo.length : Nat) : Int))), (44, I x_137), (58, V (.slice a1 l_.length c1)), (60, I (IntKind.i64.wrap (x_137 + 1)))], [(14, (49, [I ((gi l_ (IntKind.i64.wrap (((l_.length : Nat) : Int) - 1))).Line), I ((gi l_ (IntKind.i64.wrap (((l_.length : Nat) : Int) - 1))).At), V (.string (bs ((gi l_ (IntKind.i64.wrap (((l_.length : Nat) : Int) - 1))).Text)))]))]⟩) kr ?_
       intro a hS
       obtain ⟨hq, hm⟩ := hm
       refine op1 (index (e := 49) (k := .i64) T hS kr kr kr kr h130 kr kr hq.1 hq.2 ?_)
       intro A140 a h141 hS
       clear hq
       refine op1 (loadA T hS kr kr kr h141 kr kr ?_)
       intro v142 a hv hS
       subst hv
       refine endM T hS (sp := []) (ks := [0, 2, 3, 4, 13, 14, 15, 16, 43, 44]) (bs := [14, 17]) (sy' := ⟨[(0, V (.slice a1 l_.length c1)), (2, V (.slice a2 lo.length c2)), (3, V (.slice a3 hi.length c3)), (4, I end_), (13, Pt 14 0), (14, V (.slice a134 out_133.length c135)), (15, I x_137), (16, Pt 17 0), (43, I (if ((hi.length : Nat) : Int) < ((lo.length : Nat) : Int) then ((hi.length : Nat) : Int) else ((lo.length : Nat) : Int))), (44, I x_137)], [(14, (49, [I ((gi l_ (IntKind.i64.wrap (((l_.length : Nat) : Int) - 1))).Line), I ((gi l_ (IntKind.i64.wrap (((l_.length : Nat) : Int) - 1))).At), V (.string (bs ((gi l_ (IntKind.i64.wrap (((l_.length : Nat) : Int) - 1))).Text)))])), (17, (49, [I ((gi l_ (IntKind.i64.wrap (x_137 + 1))).Line), I ((gi l_ (IntKind.i64.wrap (x_137 + 1))).At), V (.string (bs ((gi l_ (IntKind.i64.wrap (x_137 + 1))).Text)))]))]⟩) kr ?_
       intro ρ a w166 χ167 hS hE hr
       replace hO := hO.mv hE rfl rfl
       replace h130 := h130.mv hE rfl
       replace h131 := h131.mv hE rfl
       replace h132 := h132.mv hE rfl
       replace h136 := h136.mv hE rfl rfl
       clear hE hr
       refine drawnSX [14, 17] mixed hS ?_
       intro w143 χ144 hS hE hD hH
       replace hO := hO.mv hE rfl rfl
       replace h130 := h130.mv hE rfl
       replace h131 := h131.mv hE rfl
       replace h132 := h132.mv hE rfl
       replace h136 := h136.mv hE rfl rfl
       clear hE
       refine take T [0, 2, 3, 6, 7, 1] [14, 17] [0, 2, 3, 4, 13, 14, 16, 43, 44, 65, 66, 67, 70, 71] hS kr kr kr hH (listed' := #[true, true, true, true, false, false, true, true, false, false, false, false, false, false, false, false]) (fuel := 10) (sy' := ⟨[(0, V (.slice a1 l_.length c1)), (2, V (.slice a2 lo.length c2)), (3, V (.slice a3 hi.length c3)), (4, I end_), (13, Pt 14 0), (14, V (.slice a134 out_133.length c135)), (16, Pt 17 0), (43, I (if ((hi.length : Nat) : Int) < ((lo.length : Nat) : Int) then ((hi.length : Nat) : Int) else ((lo.length : Nat) : Int))), (44, I x_137), (65, V (.string (bs ((gi l_ (IntKind.i64.wrap (x_137 + 1))).Text)))), (66, V (.slice a2 lo.length c2)), (67, I x_137), (70, V (.slice a3 hi.length c3)), (71, I x_137)], [(14, (49, [I ((gi l_ (IntKind.i64.wrap (((l_.length : Nat) : Int) - 1))).Line), I ((gi l_ (IntKind.i64.wrap (((l_.length : Nat) : Int) - 1))).At), V (.string (bs ((gi l_ (IntKind.i64.wrap (((l_.length : Nat) : Int) - 1))).Text)))])), (17, (49, [I ((gi l_ (IntKind.i64.wrap (x_137 + 1))).Line), I ((gi l_ (IntKind.i64.wrap (x_137 + 1))).At), V (.string (bs ((gi l_ (IntKind.i64.wrap (x_137 + 1))).Text)))]))]⟩) kr (by rfl) ?_
       intro a hS
       obtain ⟨hq, hm⟩ := hm
       refine dindex (e := 3) (k := .i64) T 4 hS kr kr kr (by rfl) kr hH kr kr h131 kr kr hq.1 hq.2 ?_
       intro A145 a h146 hS
       clear hq
       have h146b := h146.here
       refine dload1 T 5 hS kr kr kr (by rfl) kr hH kr h146 h146b rfl kr ?_
       intro v147 a hv hS
       cases hv
       obtain ⟨hq, hm⟩ := hm
       refine dindex (e := 3) (k := .i64) T 8 hS kr kr kr (by rfl) kr hH kr kr h132 kr kr hq.1 hq.2 ?_
       intro A148 a h149 hS
       clear hq
       have h149b := h149.here
       refine dload1 T 9 hS kr kr kr (by rfl) kr hH kr h149 h149b rfl kr ?_
       intro v150 a hv hS
       cases hv
       obtain ⟨hq, hm⟩ := hm
       refine only 10 kr (by rfl) (call hS kr kr hb66 kr (fun _ _ => rfl) (k66 _ _ ((gi l_ (IntKind.i64.wrap (x_137 + 1))).Text) (gi lo x_137) (gi hi x_137) hq) ?_)
       intro v151 a w152 χ153 hE hp hS
       clear hq
       replace hO := hO.mv hE rfl rfl
       replace hD := hD.ev hE rfl
       replace h130 := h130.mv hE rfl
       replace h131 := h131.mv hE rfl
       replace h132 := h132.mv hE rfl
       replace h136 := h136.mv hE rfl rfl
       replace h146 := h146.mv hE rfl
       replace h149 := h149.mv hE rfl
       clear hE
       obtain ⟨r154, hr⟩ : ∃ r, token_Number ((gi l_ (IntKind.i64.wrap (x_137 + 1))).Text) (gi lo x_137) (gi hi x_137) = r := ⟨_, rfl⟩
       replace hm := hm r154 hr
       rw [hr] at hp
       clear hr
       subst hp
       replace hS := hS.sel [0, 2, 3, 4, 13, 14, 16, 43, 44, 65, 66, 67, 70, 71, 68, 69, 72, 73, 74] [14, 17] (sy' := ⟨[(0, V (.slice a1 l_.length c1)), (2, V (.slice a2 lo.length c2)), (3, V (.slice a3 hi.length c3)), (4, I end_), (13, Pt 14 0), (14, V (.slice a134 out_133.length c135)), (16, Pt 17 0), (43, I (if ((hi.length : Nat) : Int) < ((lo.length : Nat) : Int) then ((hi.length : Nat) : Int) else ((lo.length : Nat) : Int))), (44, I x_137), (65, V (.string (bs ((gi l_ (IntKind.i64.wrap (x_137 + 1))).Text)))), (66, V (.slice a2 lo.length c2)), (67, I x_137), (70, V (.slice a3 hi.length c3)), (71, I x_137), (68, V (.pointer (some A145))), (69, I (gi lo x_137)), (72, V (.pointer (some A148))), (73, I (gi hi x_137)), (74, V (.tuple #[.int .i64 r154.1, .int .i64 r154.2]))], [(14, (49, [I ((gi l_ (IntKind.i64.wrap (((l_.length : Nat) : Int) - 1))).Line), I ((gi l_ (IntKind.i64.wrap (((l_.length : Nat) : Int) - 1))).At), V (.string (bs ((gi l_ (IntKind.i64.wrap (((l_.length : Nat) : Int) - 1))).Text)))])), (17, (49, [I ((gi l_ (IntKind.i64.wrap (x_137 + 1))).Line), I ((gi l_ (IntKind.i64.wrap (x_137 + 1))).At), V (.string (bs ((gi l_ (IntKind.i64.wrap (x_137 + 1))).Text)))]))]⟩) kr
       refine andH (Hold.of hS (bks := [14, 17]) kr hD) ?_
       intro hH
       refine take T [11, 12, 13, 14, 15] [14, 17] [0, 2, 3, 4, 13, 14, 16, 17, 18, 43, 44] hS kr kr kr hH (listed' := #[true, true, true, true, true, true, true, true, true, true, true, true, true, true, true, true]) (fuel := 0) (sy' := ⟨[(0, V (.slice a1 l_.length c1)), (2, V (.slice a2 lo.length c2)), (3, V (.slice a3 hi.length c3)), (4, I end_), (13, Pt 14 0), (14, V (.slice a134 out_133.length c135)), (16, Pt 17 0), (17, I r154.1), (18, I r154.2), (43, I (if ((hi.length : Nat) : Int) < ((lo.length : Nat) : Int) then ((hi.length : Nat) : Int) else ((lo.length : Nat) : Int))), (44, I x_137)], [(14, (49, [I ((gi l_ (IntKind.i64.wrap (((l_.length : Nat) : Int) - 1))).Line), I ((gi l_ (IntKind.i64.wrap (((l_.length : Nat) : Int) - 1))).At), V (.string (bs ((gi l_ (IntKind.i64.wrap (((l_.length : Nat) : Int) - 1))).Text)))])), (17, (49, [I ((gi l_ (IntKind.i64.wrap (x_137 + 1))).Line), I ((gi l_ (IntKind.i64.wrap (x_137 + 1))).At), V (.string (bs ((gi l_ (IntKind.i64.wrap (x_137 + 1))).Text)))]))]⟩) kr (by rfl) ?_
       intro a hS
       refine drawnDone kr ?_
       clear hD hH
       replace hS := hS.sel [0, 2, 3, 4, 13, 14, 16, 17, 18, 43, 44] [14, 17] (sy' := ⟨[(0, V (.slice a1 l_.length c1)), (2, V (.slice a2 lo.length c2)), (3, V (.slice a3 hi.length c3)), (4, I end_), (13, Pt 14 0), (14, V (.slice a134 out_133.length c135)), (16, Pt 17 0), (17, I r154.1), (18, I r154.2), (43, I (if ((hi.length : Nat) : Int) < ((lo.length : Nat) : Int) then ((hi.length : Nat) : Int) else ((lo.length : Nat) : Int))), (44, I x_137)], [(14, (49, [I ((gi l_ (IntKind.i64.wrap (((l_.length : Nat) : Int) - 1))).Line), I ((gi l_ (IntKind.i64.wrap (((l_.length : Nat) : Int) - 1))).At), V (.string (bs ((gi l_ (IntKind.i64.wrap (((l_.length : Nat) : Int) - 1))).Text)))])), (17, (49, [I ((gi l_ (IntKind.i64.wrap (x_137 + 1))).Line), I ((gi l_ (IntKind.i64.wrap (x_137 + 1))).At), V (.string (bs ((gi l_ (IntKind.i64.wrap (x_137 + 1))).Text)))]))]⟩) kr
       refine wseq ?_
       refine regP T hS (sp := []) (ks := [0, 2, 3, 4, 13, 14, 16, 17, 18, 43, 44, 78]) (bs := [14, 17]) (sy' := ⟨[(0, V (.slice a1 l_.length c1)), (2, V (.slice a2 lo.length c2)), (3, V (.slice a3 hi.length c3)), (4, I end_), (13, Pt 14 0), (14, V (.slice a134 out_133.length c135)), (16, Pt 17 0), (17, I r154.1), (18, I r154.2), (43, I (if ((hi.length : Nat) : Int) < ((lo.length : Nat) : Int) then ((hi.length : Nat) : Int) else ((lo.length : Nat) : Int))), (44, I x_137), (78, B (r154.2 != 0))], [(14, (49, [I ((gi l_ (IntKind.i64.wrap (((l_.length : Nat) : Int) - 1))).Line), I ((gi l_ (IntKind.i64.wrap (((l_.length : Nat) : Int) - 1))).At), V (.string (bs ((gi l_ (IntKind.i64.wrap (((l_.length : Nat) : Int) - 1))).Text)))])), (17, (49, [I ((gi l_ (IntKind.i64.wrap (x_137 + 1))).Line), I ((gi l_ (IntKind.i64.wrap (x_137 + 1))).At), V (.string (bs ((gi l_ (IntKind.i64.wrap (x_137 + 1))).Text)))]))]⟩) kr ?_
       intro a hS
       refine wcond hS (b := (r154.2 != 0)) kr (fun hb => ?_) (fun hb => ?_)
       ·replace hm := hm.1 hb
        replace hS := hS.sel [16, 18] [17] (sy' := ⟨[(16, Pt 17 0), (18, I r154.2)], [(17, (49, [I ((gi l_ (IntKind.i64.wrap (x_137 + 1))).Line), I ((gi l_ (IntKind.i64.wrap (x_137 + 1))).At), V (.string (bs ((gi l_ (IntKind.i64.wrap (x_137 + 1))).Text)))]))]⟩) kr
        refine drawnSX [17] mixed hS ?_
        intro w155 χ156 hS hE hD hH
        replace hO := hO.mv hE rfl rfl
        clear hE
        refine take T [0, 2, 3, 1, 4, 5] [17] [10, 11, 12] hS kr kr kr hH (listed' := #[true, true, true, true, true, true]) (fuel := 0) (sy' := ⟨[(10, V (.slice none 0 0)), (11, I ((gi l_ (IntKind.i64.wrap (x_137 + 1))).At)), (12, I r154.2)], [(17, (49, [I ((gi l_ (IntKind.i64.wrap (x_137 + 1))).Line), I ((gi l_ (IntKind.i64.wrap (x_137 + 1))).At), V (.string (bs ((gi l_ (IntKind.i64.wrap (x_137 + 1))).Text)))]))]⟩) kr (by rfl) ?_
        intro a hS
        refine drawnDone kr ?_
        clear hD hH
        replace hS := hS.sel [10, 11, 12] [] (sy' := ⟨[(10, V (.slice none 0 0)), (11, I ((gi l_ (IntKind.i64.wrap (x_137 + 1))).At)), (12, I r154.2)], []⟩) kr
        refine wret ?_
        exact fin T hS hO (fun c => c) rfl (r := [.slice none 0 0, .int .i64 ((gi l_ (IntKind.i64.wrap (x_137 + 1))).At), .int .i64 r154.2]) kr (fun χ' hM hC => ⟨([], (gi l_ (IntKind.i64.wrap (x_137 + 1))).At, r154.2), hm, none, 0, rfl, RS.empty _ _ _⟩)
       ·replace hm := hm.2 hb
        refine wskip ?_
        refine region ?_
        refine opsP T hS 2 (sp := []) (ks := [0, 2, 3, 4, 13, 14, 43, 44, 82, 83]) (bs := [14]) (sy' := ⟨[(0, V (.slice a1 l_.length c1)), (2, V (.slice a2 lo.length c2)), (3, V (.slice a3 hi.length c3)), (4, I end_), (13, Pt 14 0), (14, V (.slice a134 out_133.length c135)), (43, I (if ((hi.length : Nat) : Int) < ((lo.length : Nat) : Int) then ((hi.length : Nat) : Int) else ((lo.length : Nat) : Int))), (44, I x_137), (82, V (.slice a134 out_133.length c135)), (83, I r154.1)], [(14, (49, [I ((gi l_ (IntKind.i64.wrap (((l_.length : Nat) : Int) - 1))).Line), I ((gi l_ (IntKind.i64.wrap (((l_.length : Nat) : Int) - 1))).At), V (.string (bs ((gi l_ (IntKind.i64.wrap (((l_.length : Nat) : Int) - 1))).Text)))]))]⟩) kr ?_
        intro a hS
        refine op1 (lit (E := 3) (col := 0) (T := tI) (vals := [.int .i64 r154.1]) (ys := [r154.1]) T hS kr kr kr kr (by exact ⟨rfl, trivial⟩) rfl kr kr kr kr ?_)
        intro b157 a w158 χ159 hE h160 hN hS
        clear hN
        replace hO := hO.mv hE rfl rfl
        replace h130 := h130.mv hE rfl
        replace h131 := h131.mv hE rfl
        replace h132 := h132.mv hE rfl
        replace h136 := h136.mv hE rfl rfl
        clear hE
        replace h160 := h160.rs0
        obtain ⟨hq, hm⟩ := hm
        obtain ⟨news, hN⟩ := h160.src
        refine op1 (append (E := 3) (T := tI) (col := 1011) (xs := out_133) T hS kr kr kr kr h136 hN kr kr kr kr hq ?_)
        intro a164 c165 a w161 χ162 hE h163 hS
        clear hq hN
        clear h136
        replace hO := hO.mv hE rfl rfl
        replace h130 := h130.mv hE rfl
        replace h131 := h131.mv hE rfl
        replace h132 := h132.mv hE rfl
        replace h160 := h160.mv hE rfl
        clear hE
        refine endP T hS (sp := []) (ks := [0, 2, 3, 4, 13, 14, 43, 44]) (bs := [14]) (sy' := ⟨[(0, V (.slice a1 l_.length c1)), (2, V (.slice a2 lo.length c2)), (3, V (.slice a3 hi.length c3)), (4, I end_), (13, Pt 14 0), (14, V (.slice a164 (out_133 ++ [r154.1]).length c165)), (43, I (if ((hi.length : Nat) : Int) < ((lo.length : Nat) : Int) then ((hi.length : Nat) : Int) else ((lo.length : Nat) : Int))), (44, I x_137)], [(14, (49, [I ((gi l_ (IntKind.i64.wrap (((l_.length : Nat) : Int) - 1))).Line), I ((gi l_ (IntKind.i64.wrap (((l_.length : Nat) : Int) - 1))).At), V (.string (bs ((gi l_ (IntKind.i64.wrap (((l_.length : Nat) : Int) - 1))).Text)))]))]⟩) kr ?_
        intro a hS
        refine region (endP T hS (sp := []) (ks := [0, 2, 3, 4, 13, 14, 43, 44]) (bs := [14]) (sy' := ⟨[(0, V (.slice a1 l_.length c1)), (2, V (.slice a2 lo.length c2)), (3, V (.slice a3 hi.length c3)), (4, I end_), (13, Pt 14 0), (14, V (.slice a164 (out_133 ++ [r154.1]).length c165)), (43, I (if ((hi.length : Nat) : Int) < ((lo.length : Nat) : Int) then ((hi.length : Nat) : Int) else ((lo.length : Nat) : Int))), (44, I (IntKind.i64.wrap (x_137 + 1)))], [(14, (49, [I ((gi l_ (IntKind.i64.wrap (((l_.length : Nat) : Int) - 1))).Line), I ((gi l_ (IntKind.i64.wrap (((l_.length : Nat) : Int) - 1))).At), V (.string (bs ((gi l_ (IntKind.i64.wrap (((l_.length : Nat) : Int) - 1))).Text)))]))]⟩) kr ?_)
        intro a hS
        exact ⟨⟨out_133 ++ [r154.1], IntKind.i64.wrap (x_137 + 1)⟩, ⟨ρ, _, a164, c165, hm.1, hS.sel [0, 2, 3, 4, 13, 14, 43, 44] [14] kr, hO, h130, h131, h132, h163⟩, hm.2⟩
     ·replace hm := hm.2 hb
      refine wexit (by rfl) ?_
      exact ⟨ρ, _, out_133, a134, c135, hm, hS.sel [0, 4, 14] [] kr, hO, h130, h136⟩
   ·rintro a w171 ⟨ρ, χ170, out_117, a118, c119, hm, hS, hO, h116, h120⟩
    unfold VC42_J1 at hm
    refine wseq ?_
    refine regP T hS (sp := []) (ks := [0, 4, 14, 92]) (bs := []) (sy' := ⟨[(0, V (.slice a1 l_.length c1)), (4, I end_), (14, V (.slice a118 out_117.length c119)), (92, B (decide (((l_.length : Nat) : Int) > (IntKind.i64.wrap (((out_117.length : Nat) : Int) + 1)))))], []⟩) kr ?_
    intro a hS
    refine wcond hS (b := decide (((l_.length : Nat) : Int) > (IntKind.i64.wrap (((out_117.length : Nat) : Int) + 1)))) kr (fun hb => ?_) (fun hb => ?_)
    ·replace hm := hm.1 hb
     refine drawnSX [] mixed hS ?_
     intro w121 χ122 hS hE hD hH
     replace hO := hO.mv hE rfl rfl
     replace h116 := h116.mv hE rfl
     replace h120 := h120.mv hE rfl rfl
     clear hE
     refine take T [0, 1, 7, 2, 3] [] [10, 93, 96] hS kr kr kr hH (listed' := #[true, true, true, true, false, false, false, true, false, false]) (fuel := 5) (sy' := ⟨[(10, V (.slice none 0 0)), (93, V (.slice a1 l_.length c1)), (96, I (IntKind.i64.wrap (((out_117.length : Nat) : Int) + 1)))], []⟩) kr (by rfl) ?_
     intro a hS
     obtain ⟨hq, hm⟩ := hm
     refine dindex (e := 49) (k := .i64) T 4 hS kr kr kr (by rfl) kr hH kr kr h116 kr kr hq.1 hq.2 ?_
     intro A123 a h124 hS
     clear hq
     have h124b := h124.here
     refine dfieldA (off := 1) (fsz := 1) (ft := 3) (TF := tI) (y := (gi l_ (IntKind.i64.wrap (((out_117.length : Nat) : Int) + 1))).At) 5 T hS kr kr kr (by rfl) kr hH kr h124 kr kr kr (fun cs h => Token_Token_f1 h) ?_
     intro A125 a h126 hbl hS
     have h126b := h124b
     rw [← hbl] at h126b
     clear hbl
     refine dload1 T 6 hS kr kr kr (by rfl) kr hH kr h126 h126b rfl kr ?_
     intro v127 a hv hS
     cases hv
     refine take T [8, 9] [] [10, 11, 12] hS kr kr kr hH (listed' := #[true, true, true, true, true, true, true, true, true, true]) (fuel := 0) (sy' := ⟨[(10, V (.slice none 0 0)), (11, I ((gi l_ (IntKind.i64.wrap (((out_117.length : Nat) : Int) + 1))).At)), (12, I 6)], []⟩) kr (by rfl) ?_
     intro a hS
     refine drawnDone kr ?_
     clear hD hH
     replace hS := hS.sel [10, 11, 12] [] (sy' := ⟨[(10, V (.slice none 0 0)), (11, I ((gi l_ (IntKind.i64.wrap (((out_117.length : Nat) : Int) + 1))).At)), (12, I 6)], []⟩) kr
     refine wret ?_
     exact fin T hS hO (fun c => c) rfl (r := [.slice none 0 0, .int .i64 ((gi l_ (IntKind.i64.wrap (((out_117.length : Nat) : Int) + 1))).At), .int .i64 6]) kr (fun χ' hM hC => ⟨([], (gi l_ (IntKind.i64.wrap (((out_117.length : Nat) : Int) + 1))).At, 6), hm, none, 0, rfl, RS.empty _ _ _⟩)
    ·replace hm := hm.2 hb
     refine wskip ?_
     refine regP T hS (sp := []) (ks := [10, 11, 12]) (bs := []) (sy' := ⟨[(10, V (.slice a118 out_117.length c119)), (11, I end_), (12, I 0)], []⟩) kr ?_
     intro a hS
     refine wret ?_
     obtain ⟨χ128, hE, hF⟩ := h120.freeze (by decide)
     replace hS := hS.ev hE (xone_box kr)
     replace hO := hO.mv hE rfl rfl
     have h129 := hF; clear hE hF
     exact fin T hS hO (fun c => c) rfl (r := [.slice a118 out_117.length c119, .int .i64 end_, .int .i64 0]) kr (fun χ' hM hC => ⟨(out_117, end_, 0), hm, a118, c119, rfl, h129.m0 hM⟩)
theorem C42 (k66 : S66) (v : ∀ (l_ : List Token_Token) (word : List UInt8) (lo : List Int) (hi : List Int) (end_ : Int), preNT l_ word lo hi end_ → VC42 l_ word lo hi end_ (fun r => r = objtext_Numbers l_ word lo hi end_)) : S42 := by
 intro w χ l_ word lo hi end_ a1 c1 a2 c2 a3 c3   hp h1 h2 h3
 refine (W42 k66 w χ l_ word lo hi end_ a1 c1 a2 c2 a3 c3   _ (v l_ word lo hi end_ hp) h1 h2 h3).mono ?_
 rintro _ _ _ _ ⟨r, rfl, h⟩
 exact h
/-- replevin/objtext.next -/
theorem W41 (w0 : World) (χ0 : Nat → Nat) (lines : List (List Token_Token)) (a1 : Option Addr) (c1 : Nat) (Q : (List Token_Token) × (List (List Token_Token)) → Prop) (hm : VC41 lines Q) (h1 : RS (tSlice tToken_Token) w0 χ0 a1 lines c1) :
  Ret Tryd.prog 41 #[.slice a1 lines.length c1] xnone w0 χ0 (fun w χ' v => ∃ r, Q r ∧ ∃ (ra1 : Option Addr) (rc1 : Nat) (ra2 : Option Addr) (rc2 : Nat), v = .tuple #[.slice ra1 r.1.length rc1, .slice ra2 r.2.length rc2] ∧ RS tToken_Token w χ' ra1 r.1 rc1 ∧ RS (tSlice tToken_Token) w χ' ra2 r.2 rc2) := by
 unfold VC41 at hm
 replace hm := hm (h1.sm kr)
 refine enter Tryd.func41 rfl (vals := [.slice a1 lines.length c1]) kr ?_
 intro ρ a hS hO hM
 replace h1 := h1.m0 hM
 clear hM
 refine regP T hS (sp := []) (ks := [0]) (bs := []) (sy' := ⟨[(0, V (.slice a1 lines.length c1))], []⟩) kr ?_
 intro a hS
 refine wcut (fun a w => ∃ (ρ : Nat → Nat) (χ : Nat → Nat), VC41_J1 Q ∧ St Tryd.f41.ntmps ⟨[], []⟩ ρ a w χ ∧ Old w0 χ0 w χ) ?_ ?_
 ·refine regP T hS (sp := []) (ks := [0, 6, 7, 8]) (bs := []) (sy' := ⟨[(0, V (.slice a1 lines.length c1)), (6, V (.slice a1 lines.length c1)), (7, I ((lines.length : Nat) : Int)), (8, I 0)], []⟩) kr ?_
  intro a hS
  refine wblock ?_
  obtain ⟨I1, μ1, hm0, hm⟩ := hm
  refine wloop (σ := Int) (fun s a w => ∃ (ρ : Nat → Nat) (χ : Nat → Nat), I1 s ∧ St Tryd.f41.ntmps ⟨[(0, V (.slice a1 lines.length c1)), (6, V (.slice a1 lines.length c1)), (7, I ((lines.length : Nat) : Int)), (8, I s)], []⟩ ρ a w χ ∧ Old w0 χ0 w χ ∧ RS (tSlice tToken_Token) w χ a1 lines c1 ∧ RS (tSlice tToken_Token) w χ a1 lines c1) (fun s => μ1 s) (0) ?_ ?_
  ·exact ⟨ρ, _, hm0, hS.sel [0, 6, 7, 8] [] kr, hO, h1, h1⟩
  ·rintro x_103 a w116 ⟨ρ, χ115, hI, hS, hO, h101, h102⟩
   replace hm := hm x_103 hI
   clear hI hm0
   refine regP T hS (sp := []) (ks := [0, 6, 7, 8, 9]) (bs := []) (sy' := ⟨[(0, V (.slice a1 lines.length c1)), (6, V (.slice a1 lines.length c1)), (7, I ((lines.length : Nat) : Int)), (8, I x_103), (9, B (decide (x_103 < ((lines.length : Nat) : Int))))], []⟩) kr ?_
   intro a hS
   refine wseq ?_
   refine wcond hS (b := decide (x_103 < ((lines.length : Nat) : Int))) kr (fun hb => ?_) (fun hb => ?_)
   ·replace hm := hm.1 hb
    refine wskip ?_
    refine wseq ?_
    refine wblock ?_
    refine regO ?_
    refine opsP T hS 1 (sp := []) (ks := [0, 6, 7, 8, 10]) (bs := []) (sy' := ⟨[(0, V (.slice a1 lines.length c1)), (6, V (.slice a1 lines.length c1)), (7, I ((lines.length : Nat) : Int)), (8, I x_103), (10, I x_103)], []⟩) kr ?_
    intro a hS
    obtain ⟨hq, hm⟩ := hm
    refine op1 (index (e := 47) (k := .i64) T hS kr kr kr kr h102 kr kr hq.1 hq.2 ?_)
    intro A104 a h105 hS
    clear hq
    refine op1 (load1 T hS kr kr kr h105 rfl kr ?_)
    intro v106 a hv hS
    obtain ⟨a107, c108, hv, h109⟩ := hv
    cases hv
    replace hm := hm (h109.sm kr)
    refine endP T hS (sp := []) (ks := [0, 4, 5, 6, 7, 8]) (bs := []) (sy' := ⟨[(0, V (.slice a1 lines.length c1)), (4, I x_103), (5, V (.slice a107 (gi lines x_103).length c108)), (6, V (.slice a1 lines.length c1)), (7, I ((lines.length : Nat) : Int)), (8, I x_103)], []⟩) kr ?_
    intro a hS
    refine regP T hS (sp := []) (ks := [0, 4, 5, 6, 7, 8, 15]) (bs := []) (sy' := ⟨[(0, V (.slice a1 lines.length c1)), (4, I x_103), (5, V (.slice a107 (gi lines x_103).length c108)), (6, V (.slice a1 lines.length c1)), (7, I ((lines.length : Nat) : Int)), (8, I x_103), (15, B (decide ((((gi lines x_103).length : Nat) : Int) > 0)))], []⟩) kr ?_
    intro a hS
    refine wcond hS (b := decide ((((gi lines x_103).length : Nat) : Int) > 0)) kr (fun hb => ?_) (fun hb => ?_)
    ·replace hm := hm.1 hb
     refine drawnSX [] mixed hS ?_
     intro w110 χ111 hS hE hD hH
     replace hO := hO.mv hE rfl rfl
     replace h101 := h101.mv hE rfl
     replace h109 := h109.mv hE rfl
     clear hE
     refine take T [0, 1, 2, 3, 5] [] [2, 17, 19] hS kr kr kr hH (listed' := #[true, true, true, true, false, true, false]) (fuel := 2) (sy' := ⟨[(2, V (.slice a107 (gi lines x_103).length c108)), (17, V (.slice a1 lines.length c1)), (19, I (IntKind.i64.wrap (x_103 + 1)))], []⟩) kr (by rfl) ?_
     intro a hS
     obtain ⟨hq, hm⟩ := hm
     refine dslice1 (E := 47) (kl := .i64) T 4 hS kr kr kr (by rfl) kr hH kr kr h101 kr kr hq.1 hq.2 ?_
     intro a112 c113 a h114 hS
     clear hq
     refine take T [6] [] [2, 3] hS kr kr kr hH (listed' := #[true, true, true, true, true, true, true]) (fuel := 0) (sy' := ⟨[(2, V (.slice a107 (gi lines x_103).length c108)), (3, V (.slice a112 (lines.drop (IntKind.i64.wrap (x_103 + 1)).toNat).length c113))], []⟩) kr (by rfl) ?_
     intro a hS
     refine drawnDone kr ?_
     clear hD hH
     replace hS := hS.sel [2, 3] [] (sy' := ⟨[(2, V (.slice a107 (gi lines x_103).length c108)), (3, V (.slice a112 (lines.drop (IntKind.i64.wrap (x_103 + 1)).toNat).length c113))], []⟩) kr
     refine wret ?_
     exact fin T hS hO (fun c => c) rfl (r := [.slice a107 (gi lines x_103).length c108, .slice a112 (lines.drop (IntKind.i64.wrap (x_103 + 1)).toNat).length c113]) kr (fun χ' hM hC => ⟨(gi lines x_103, lines.drop (IntKind.i64.wrap (x_103 + 1)).toNat), hm, a107, c108, a112, c113, rfl, h109.m0 hM, h114.m0 hM⟩)
    ·replace hm := hm.2 hb
     refine wskip ?_
     refine region (endP T hS (sp := []) (ks := [0, 6, 7, 8]) (bs := []) (sy' := ⟨[(0, V (.slice a1 lines.length c1)), (6, V (.slice a1 lines.length c1)), (7, I ((lines.length : Nat) : Int)), (8, I (IntKind.i64.wrap (x_103 + 1)))], []⟩) kr ?_)
     intro a hS
     exact ⟨IntKind.i64.wrap (x_103 + 1), ⟨ρ, _, hm.1, hS.sel [0, 6, 7, 8] [] kr, hO, h101, h102⟩, hm.2⟩
   ·replace hm := hm.2 hb
    refine wexit (by rfl) ?_
    exact ⟨ρ, _, hm, hS.sel [] [] kr, hO⟩
 ·rintro a w118 ⟨ρ, χ117, hm, hS, hO⟩
  unfold VC41_J1 at hm
  refine regP T hS (sp := []) (ks := [2, 3]) (bs := []) (sy' := ⟨[(2, V (.slice none 0 0)), (3, V (.slice none 0 0))], []⟩) kr ?_
  intro a hS
  refine wret ?_
  exact fin T hS hO (fun c => c) rfl (r := [.slice none 0 0, .slice none 0 0]) kr (fun χ' hM hC => ⟨([], []), hm, none, 0, none, 0, rfl, RS.empty _ _ _, RS.empty _ _ _⟩)
theorem C41 (v : ∀ (lines : List (List Token_Token)), VC41 lines (fun r => r = objtext_next lines)) : S41 := by
 intro w χ lines a1 c1   h1
 refine (W41 w χ lines a1 c1   _ (v lines) h1).mono ?_
 rintro _ _ _ _ ⟨r, rfl, h⟩
 exact h
end Go.Proofs.YtcjldfbgccmpkaaDoor
