/- Walks: each function returns what its condition asks. Condition: the contracts of its callees, handed in. -/
import Derived.Test.YtebhbnlbfglmkaaDoorPWalksS
set_option linter.all false
namespace Go.Proofs.YtebhbnlbfglmkaaDoor
open Go Go.Sv
set_option maxHeartbeats 1000000
/-- replevin/replevinref05.Digits -/
theorem W31 (w0 : World) (χ0 : Nat → Nat) (n_ : Int) (Q : (List UInt8) → Prop) (hm : VC31 n_ Q) :
  Ret Tryd.prog 31 #[.int .i64 n_] xnone w0 χ0 (fun w χ' v => ∃ r, Q r ∧ v = .string (bs r)) := by
 unfold VC31 at hm
 refine enter Tryd.func31 rfl (vals := [.int .i64 n_]) kr ?_
 intro ρ a hS hO hM
 clear hM
 refine rP T hS ⟨[(0, I n_)], []⟩ fun a hS => ?_
 refine wseq ?_
 refine rP T hS ⟨[(0, I n_), (7, B (n_ == 0))], []⟩ fun a hS => ?_
 refine wcond hS (b := (n_ == 0)) kr (fun hb => ?_) (fun hb => ?_)
 ·replace hm := hm.1 hb
  refine rP T hS ⟨[(2, Z ([48] : List UInt8))], []⟩ fun a hS => ?_
  refine wret ?_
  exact fin T hS hO (fun c => c) rfl (r := [.string (bs ([48] : List UInt8))]) kr (fun χ' hM hC => ⟨([48] : List UInt8), hm, rfl⟩)
 ·replace hm := hm.2 hb
  refine wskip ?_
  refine rP T hS ⟨[(0, I n_), (3, Z ([] : List UInt8))], []⟩ fun a hS => ?_
  refine wcut (fun a w => ∃ (ρ : Nat → Nat) (χ : Nat → Nat) (out_101 : List UInt8), VC31_J1 n_ Q out_101 ∧ St Tryd.f31.ntmps ⟨[(0, I n_), (3, Z out_101)], []⟩ ρ a w χ ∧ Old w0 χ0 w χ) ?_ ?_
  ·refine rP T hS ⟨[(0, I n_), (3, Z ([] : List UInt8)), (4, I n_)], []⟩ fun a hS => ?_
   refine wblock ?_
   obtain ⟨I1, μ1, hm0, hm⟩ := hm
   refine wloop (σ := (List UInt8) × Int) (fun s a w => ∃ (ρ : Nat → Nat) (χ : Nat → Nat), I1 s.1 s.2 ∧ St Tryd.f31.ntmps ⟨[(0, I n_), (3, Z s.1), (4, I s.2)], []⟩ ρ a w χ ∧ Old w0 χ0 w χ) (fun s => μ1 s.1 s.2) (⟨([] : List UInt8), n_⟩) ?_ ?_
   ·exact ⟨ρ, _, hm0, hS.sl _, hO⟩
   ·rintro ⟨out_102, x_103⟩ a w112 ⟨ρ, χ111, hI, hS, hO⟩
    replace hm := hm out_102 x_103 hI
    clear hI hm0
    refine wseq ?_
    refine rP T hS ⟨[(0, I n_), (3, Z out_102), (4, I x_103), (10, B (x_103 != 0))], []⟩ fun a hS => ?_
    refine wcond hS (b := (x_103 != 0)) kr (fun hb => ?_) (fun hb => ?_)
    ·replace hm := hm.1 hb
     refine wskip ?_
     refine wseq ?_
     refine wblock ?_
     refine regO ?_
     refine oP T hS 1 ⟨[(0, I n_), (3, Z out_102), (4, I x_103), (13, I x_103)], []⟩ fun a hS => ?_
     refine op1 (rem (k := .i64) (p := x_103) (q := 10) hS kr kr kr kr (by decide) ?_)
     intro a hS
     refine eP T hS ⟨[(0, I n_), (3, Z out_102), (4, I x_103), (5, I ((x_103).tmod 10))], []⟩ fun a hS => ?_
     refine wcut (fun a w => ∃ (ρ : Nat → Nat) (χ : Nat → Nat) (d_104 : Int), VC31_J2 I1 μ1 out_102 x_103 d_104 ∧ St Tryd.f31.ntmps ⟨[(0, I n_), (3, Z out_102), (4, I x_103), (5, I d_104)], []⟩ ρ a w χ ∧ Old w0 χ0 w χ) ?_ ?_
     ·refine rP T hS ⟨[(0, I n_), (3, Z out_102), (4, I x_103), (5, I ((x_103).tmod 10)), (16, B (decide (((x_103).tmod 10) < 0)))], []⟩ fun a hS => ?_
      refine wcond hS (b := decide (((x_103).tmod 10) < 0)) kr (fun hb => ?_) (fun hb => ?_)
      ·replace hm := hm.1 hb
       refine region (eP T hS ⟨[(0, I n_), (3, Z out_102), (4, I x_103), (5, I (IntKind.i64.wrap (0 - ((x_103).tmod 10))))], []⟩ fun a hS => ?_)
       exact ⟨ρ, _, IntKind.i64.wrap (0 - ((x_103).tmod 10)), hm, hS.sl _, hO⟩
      ·replace hm := hm.2 hb
       refine wskip ?_
       exact ⟨ρ, _, ((x_103).tmod 10), hm, hS.sl _, hO⟩
     ·rintro a w110 ⟨ρ, χ109, d_104, hm, hS, hO⟩
      unfold VC31_J2 at hm
      refine region ?_
      refine oP T hS 3 ⟨[(0, I n_), (3, Z out_102), (4, I x_103), (21, V (.int .u8 (IntKind.u8.wrap (IntKind.i64.wrap (48 + d_104)))))], []⟩ fun a hS => ?_
      refine op1 (lit (E := 5) (col := 0) (T := (tInt .u8 1)) (vals := [.int .u8 (IntKind.u8.wrap (IntKind.i64.wrap (48 + d_104)))]) (ys := [IntKind.u8.wrap (IntKind.i64.wrap (48 + d_104))]) T hS kr kr kr kr (by exact ⟨rfl, trivial⟩) rfl kr kr kr kr ?_)
      intro b105 a w106 χ107 hE h108 hN hS
      clear hN
      replace hO := hO.mv hE rfl rfl
      clear hE
      replace h108 := h108.rs0
      obtain ⟨news, hN⟩ := h108.src
      refine op1 (cvtS (b := 1) (ys := [IntKind.u8.wrap (IntKind.i64.wrap (48 + d_104))]) T hS kr kr kr kr kr hN ?_)
      intro a hS
      clear hN
      refine oP T hS 1 ⟨[(0, I n_), (3, Z out_102), (4, I x_103), (23, Z (ofBytes [IntKind.u8.wrap (IntKind.i64.wrap (48 + d_104))])), (24, Z out_102)], []⟩ fun a hS => ?_
      obtain ⟨hq, hm⟩ := hm
      refine op1 (sadd (p := (ofBytes [IntKind.u8.wrap (IntKind.i64.wrap (48 + d_104))])) (q := out_102) hS kr kr kr kr hq ?_)
      intro a hS
      clear hq
      refine eP T hS ⟨[(0, I n_), (3, Z ((ofBytes [IntKind.u8.wrap (IntKind.i64.wrap (48 + d_104))]) ++ out_102)), (4, I x_103)], []⟩ fun a hS => ?_
      refine region ?_
      refine oP T hS 1 ⟨[(0, I n_), (3, Z ((ofBytes [IntKind.u8.wrap (IntKind.i64.wrap (48 + d_104))]) ++ out_102)), (4, I x_103), (11, I x_103)], []⟩ fun a hS => ?_
      refine op1 (quo (k := .i64) (p := x_103) (q := 10) hS kr kr kr kr (by decide) ?_)
      intro a hS
      refine eP T hS ⟨[(0, I n_), (3, Z ((ofBytes [IntKind.u8.wrap (IntKind.i64.wrap (48 + d_104))]) ++ out_102)), (4, I (IntKind.i64.wrap ((x_103).tdiv 10)))], []⟩ fun a hS => ?_
      exact ⟨⟨((ofBytes [IntKind.u8.wrap (IntKind.i64.wrap (48 + d_104))]) ++ out_102), IntKind.i64.wrap ((x_103).tdiv 10)⟩, ⟨ρ, _, hm.1, hS.sl _, hO⟩, hm.2⟩
    ·replace hm := hm.2 hb
     refine wexit (by rfl) ?_
     exact ⟨ρ, _, out_102, hm, hS.sl _, hO⟩
  ·rintro a w114 ⟨ρ, χ113, out_101, hm, hS, hO⟩
   unfold VC31_J1 at hm
   refine wseq ?_
   refine rP T hS ⟨[(3, Z out_101), (27, B (decide (n_ < 0)))], []⟩ fun a hS => ?_
   refine wcond hS (b := decide (n_ < 0)) kr (fun hb => ?_) (fun hb => ?_)
   ·replace hm := hm.1 hb
    refine regO ?_
    refine oP T hS 1 ⟨[(28, Z out_101)], []⟩ fun a hS => ?_
    obtain ⟨hq, hm⟩ := hm
    refine op1 (sadd (p := ([45] : List UInt8)) (q := out_101) hS kr kr kr kr hq ?_)
    intro a hS
    clear hq
    refine eP T hS ⟨[(2, Z (([45] : List UInt8) ++ out_101))], []⟩ fun a hS => ?_
    refine wret ?_
    exact fin T hS hO (fun c => c) rfl (r := [.string (bs (([45] : List UInt8) ++ out_101))]) kr (fun χ' hM hC => ⟨(([45] : List UInt8) ++ out_101), hm, rfl⟩)
   ·replace hm := hm.2 hb
    refine wskip ?_
    refine rP T hS ⟨[(2, Z out_101)], []⟩ fun a hS => ?_
    refine wret ?_
    exact fin T hS hO (fun c => c) rfl (r := [.string (bs out_101)]) kr (fun χ' hM hC => ⟨out_101, hm, rfl⟩)
theorem C31 (v : ∀ (n_ : Int), preI n_ → VC31 n_ (fun r => r = ref05_Digits n_)) : S31 := by
 intro w χ n_    hp 
 refine (W31 w χ n_    _ (v n_ hp)).mono ?_
 rintro _ _ _ _ ⟨r, rfl, h⟩
 exact h
/-- replevin/replevinref01.Has -/
theorem W48 (w0 : World) (χ0 : Nat → Nat) (l_ : List Int) (n_ : Int) (a1 : Option Addr) (c1 : Nat) (Q : Bool → Prop) (hm : VC48 l_ n_ Q) (h1 : RS tI w0 χ0 a1 l_ c1) :
  Ret Tryd.prog 48 #[.slice a1 l_.length c1, .int .i64 n_] xnone w0 χ0 (fun w χ' v => ∃ r, Q r ∧ v = .bool r) := by
 unfold VC48 at hm
 replace hm := hm (h1.sm kr)
 refine enter Tryd.func48 rfl (vals := [.slice a1 l_.length c1, .int .i64 n_]) kr ?_
 intro ρ a hS hO hM
 replace h1 := h1.m0 hM
 clear hM
 refine rP T hS ⟨[(0, Sl a1 l_ c1), (1, I n_)], []⟩ fun a hS => ?_
 refine wcut (fun a w => ∃ (ρ : Nat → Nat) (χ : Nat → Nat), VC48_J1 Q ∧ St Tryd.f48.ntmps ⟨[], []⟩ ρ a w χ ∧ Old w0 χ0 w χ) ?_ ?_
 ·refine rP T hS ⟨[(0, Sl a1 l_ c1), (1, I n_), (5, I 0)], []⟩ fun a hS => ?_
  refine wblock ?_
  obtain ⟨I1, μ1, hm0, hm⟩ := hm
  refine wloop (σ := Int) (fun s a w => ∃ (ρ : Nat → Nat) (χ : Nat → Nat), I1 s ∧ St Tryd.f48.ntmps ⟨[(0, Sl a1 l_ c1), (1, I n_), (5, I s)], []⟩ ρ a w χ ∧ Old w0 χ0 w χ ∧ RS tI w χ a1 l_ c1) (fun s => μ1 s) (0) ?_ ?_
  ·exact ⟨ρ, _, hm0, hS.sl _, hO, h1⟩
  ·rintro i_102 a w107 ⟨ρ, χ106, hI, hS, hO, h101⟩
   replace hm := hm i_102 hI
   clear hI hm0
   refine wseq ?_
   refine rP T hS ⟨[(0, Sl a1 l_ c1), (1, I n_), (5, I i_102), (9, B (decide (i_102 < ((l_.length : Nat) : Int))))], []⟩ fun a hS => ?_
   refine wcond hS (b := decide (i_102 < ((l_.length : Nat) : Int))) kr (fun hb => ?_) (fun hb => ?_)
   ·replace hm := hm.1 hb
    refine wskip ?_
    refine wseq ?_
    refine wblock ?_
    refine regO ?_
    refine oP T hS 2 ⟨[(0, Sl a1 l_ c1), (1, I n_), (5, I i_102), (12, Sl a1 l_ c1), (13, I i_102)], []⟩ fun a hS => ?_
    obtain ⟨hq, hm⟩ := hm
    refine op1 (index (e := 3) (k := .i64) T hS kr kr kr kr h101 kr kr hq.1 hq.2 ?_)
    intro A103 a h104 hS
    clear hq
    refine op1 (load1 T hS kr kr kr h104 rfl kr ?_)
    intro v105 a hv hS
    cases hv
    refine eP T hS ⟨[(0, Sl a1 l_ c1), (1, I n_), (5, I i_102), (17, B ((gi l_ i_102) == n_))], []⟩ fun a hS => ?_
    refine wcond hS (b := ((gi l_ i_102) == n_)) kr (fun hb => ?_) (fun hb => ?_)
    ·replace hm := hm.1 hb
     refine rP T hS ⟨[(4, B true)], []⟩ fun a hS => ?_
     refine wret ?_
     exact fin T hS hO (fun c => c) rfl (r := [.bool true]) kr (fun χ' hM hC => ⟨true, hm, rfl⟩)
    ·replace hm := hm.2 hb
     refine wskip ?_
     refine region (eP T hS ⟨[(0, Sl a1 l_ c1), (1, I n_), (5, I (IntKind.i64.wrap (i_102 + 1)))], []⟩ fun a hS => ?_)
     exact ⟨IntKind.i64.wrap (i_102 + 1), ⟨ρ, _, hm.1, hS.sl _, hO, h101⟩, hm.2⟩
   ·replace hm := hm.2 hb
    refine wexit (by rfl) ?_
    exact ⟨ρ, _, hm, hS.sl _, hO⟩
 ·rintro a w109 ⟨ρ, χ108, hm, hS, hO⟩
  unfold VC48_J1 at hm
  refine rP T hS ⟨[(4, B false)], []⟩ fun a hS => ?_
  refine wret ?_
  exact fin T hS hO (fun c => c) rfl (r := [.bool false]) kr (fun χ' hM hC => ⟨false, hm, rfl⟩)
theorem C48 (v : ∀ (l_ : List Int) (n_ : Int), VC48 l_ n_ (fun r => r = ref01_Has l_ n_)) : S48 := by
 intro w χ l_ n_ a1 c1   h1
 refine (W48 w χ l_ n_ a1 c1   _ (v l_ n_) h1).mono ?_
 rintro _ _ _ _ ⟨r, rfl, h⟩
 exact h
end Go.Proofs.YtebhbnlbfglmkaaDoor
