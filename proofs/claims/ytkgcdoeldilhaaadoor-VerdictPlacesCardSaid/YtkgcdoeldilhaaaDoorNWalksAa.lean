/- Walks: each function returns what its condition asks. Condition: the contracts of its callees, handed in. -/
import Derived.Test.YtkgcdoeldilhaaaDoorNWalksS
set_option linter.all false
namespace Go.Proofs.YtkgcdoeldilhaaaDoor
open Go Go.Sv
set_option maxHeartbeats 1000000
/-- internal/stringslite.HasPrefix -/
theorem W61 (w0 : World) (χ0 : Nat → Nat) (s_ : List UInt8) (prefix_ : List UInt8) (Q : Bool → Prop) (hm : VC61 s_ prefix_ Q) :
  Ret Tryd.prog 61 #[.string (bs s_), .string (bs prefix_)] xnone w0 χ0 (fun w χ' v => ∃ r, Q r ∧ v = .bool r) := by
 unfold VC61 at hm
 refine enter Tryd.func61 rfl (vals := [.string (bs s_), .string (bs prefix_)]) kr ?_
 intro ρ a hS hO hM
 clear hM
 refine rP T hS ⟨[(0, Z s_), (1, Z prefix_)], []⟩ fun a hS => ?_
 refine regO ?_
 refine oP T hS 6 ⟨[(0, Z s_), (1, Z prefix_), (10, B (decide (((s_.length : Nat) : Int) ≥ ((prefix_.length : Nat) : Int))))], []⟩ fun a hS => ?_
 rcases Bool.eq_false_or_eq_true (decide (((s_.length : Nat) : Int) ≥ ((prefix_.length : Nat) : Int))) with hb | hb
 ·replace hS := hS.lit (t := 10) kr hb
  replace hm := hm.1 hb
  refine oP T hS 3 ⟨[(1, Z prefix_), (10, B true), (11, Z s_), (13, I ((prefix_.length : Nat) : Int))], []⟩ fun a hS => ?_
  obtain ⟨hq, hm⟩ := hm
  refine op1 (sslice0 (kh := .i64) (s := s_) T hS kr kr kr kr kr hq.1 hq.2 ?_)
  intro a hS
  clear hq
  refine eP T hS ⟨[(4, B ((s_.take ((prefix_.length : Nat) : Int).toNat) == prefix_))], []⟩ fun a hS => ?_
  refine wret ?_
  exact fin T hS hO (fun c => c) rfl (r := [.bool ((s_.take ((prefix_.length : Nat) : Int).toNat) == prefix_)]) kr (fun χ' hM hC => ⟨((s_.take ((prefix_.length : Nat) : Int).toNat) == prefix_), hm, rfl⟩)
 ·replace hS := hS.lit (t := 10) kr hb
  replace hm := hm.2 hb
  refine eP T hS ⟨[(4, B false)], []⟩ fun a hS => ?_
  refine wret ?_
  exact fin T hS hO (fun c => c) rfl (r := [.bool false]) kr (fun χ' hM hC => ⟨false, hm, rfl⟩)
theorem C61 (v : ∀ (s_ : List UInt8) (prefix_ : List UInt8), preTwo s_ prefix_ → VC61 s_ prefix_ (fun r => r = internal_stringslite_HasPrefix s_ prefix_)) : S61 := by
 intro w χ s_ prefix_    hp 
 refine (W61 w χ s_ prefix_    _ (v s_ prefix_ hp)).mono ?_
 rintro _ _ _ _ ⟨r, rfl, h⟩
 exact h
/-- strings.HasPrefix -/
theorem W49 (k61 : S61) (w0 : World) (χ0 : Nat → Nat) (s_ : List UInt8) (prefix_ : List UInt8) (Q : Bool → Prop) (hm : VC49 s_ prefix_ Q) :
  Ret Tryd.prog 49 #[.string (bs s_), .string (bs prefix_)] xnone w0 χ0 (fun w χ' v => ∃ r, Q r ∧ v = .bool r) := by
 unfold VC49 at hm
 refine enter Tryd.func49 rfl (vals := [.string (bs s_), .string (bs prefix_)]) kr ?_
 intro ρ a hS hO hM
 clear hM
 refine rP T hS ⟨[(0, Z s_), (1, Z prefix_)], []⟩ fun a hS => ?_
 refine regO ?_
 refine oP T hS 2 ⟨[(5, Z s_), (6, Z prefix_)], []⟩ fun a hS => ?_
 obtain ⟨hq, hm⟩ := hm
 refine op1 (call hS kr kr hb61 kr (fun _ _ => rfl) (k61 _ _ s_ prefix_ hq) ?_)
 intro v101 a w102 χ103 hE hp hS
 clear hq
 replace hO := hO.mv hE rfl rfl
 clear hE
 obtain ⟨r104, hr⟩ : ∃ r, internal_stringslite_HasPrefix s_ prefix_ = r := ⟨_, rfl⟩
 replace hm := hm r104 hr
 rw [hr] at hp
 clear hr
 subst hp
 refine eP T hS ⟨[(4, B r104)], []⟩ fun a hS => ?_
 refine wret ?_
 exact fin T hS hO (fun c => c) rfl (r := [.bool r104]) kr (fun χ' hM hC => ⟨r104, hm, rfl⟩)
theorem C49 (k61 : S61) (v : ∀ (s_ : List UInt8) (prefix_ : List UInt8), preTwo s_ prefix_ → VC49 s_ prefix_ (fun r => r = strings_HasPrefix s_ prefix_)) : S49 := by
 intro w χ s_ prefix_    hp 
 refine (W49 k61 w χ s_ prefix_    _ (v s_ prefix_ hp)).mono ?_
 rintro _ _ _ _ ⟨r, rfl, h⟩
 exact h
/-- internal/stringslite.CutPrefix -/
theorem W88 (k61 : S61) (w0 : World) (χ0 : Nat → Nat) (s_ : List UInt8) (prefix_ : List UInt8) (Q : (List UInt8) × Bool → Prop) (hm : VC88 s_ prefix_ Q) :
  Ret Tryd.prog 88 #[.string (bs s_), .string (bs prefix_)] xnone w0 χ0 (fun w χ' v => ∃ r, Q r ∧ v = .tuple #[.string (bs r.1), .bool r.2]) := by
 unfold VC88 at hm
 refine enter Tryd.func88 rfl (vals := [.string (bs s_), .string (bs prefix_)]) kr ?_
 intro ρ a hS hO hM
 clear hM
 refine rP T hS ⟨[(0, Z s_), (1, Z prefix_)], []⟩ fun a hS => ?_
 refine wseq ?_
 refine regO ?_
 refine oP T hS 2 ⟨[(0, Z s_), (1, Z prefix_), (6, Z s_), (7, Z prefix_)], []⟩ fun a hS => ?_
 obtain ⟨hq, hm⟩ := hm
 refine op1 (call hS kr kr hb61 kr (fun _ _ => rfl) (k61 _ _ s_ prefix_ hq) ?_)
 intro v101 a w102 χ103 hE hp hS
 clear hq
 replace hO := hO.mv hE rfl rfl
 clear hE
 obtain ⟨r104, hr⟩ : ∃ r, internal_stringslite_HasPrefix s_ prefix_ = r := ⟨_, rfl⟩
 replace hm := hm r104 hr
 rw [hr] at hp
 clear hr
 subst hp
 refine eP T hS ⟨[(0, Z s_), (1, Z prefix_), (9, B (!r104))], []⟩ fun a hS => ?_
 refine wcond hS (b := (!r104)) kr (fun hb => ?_) (fun hb => ?_)
 ·replace hm := hm.1 hb
  refine rP T hS ⟨[(4, Z s_), (5, B false)], []⟩ fun a hS => ?_
  refine wret ?_
  exact fin T hS hO (fun c => c) rfl (r := [.string (bs s_), .bool false]) kr (fun χ' hM hC => ⟨(s_, false), hm, rfl⟩)
 ·replace hm := hm.2 hb
  refine wskip ?_
  refine regO ?_
  refine oP T hS 3 ⟨[(11, Z s_), (13, I ((prefix_.length : Nat) : Int))], []⟩ fun a hS => ?_
  obtain ⟨hq, hm⟩ := hm
  refine op1 (sslice1 (kl := .i64) (s := s_) T hS kr kr kr kr kr hq.1 hq.2 ?_)
  intro a hS
  clear hq
  refine eP T hS ⟨[(4, Z (s_.drop ((prefix_.length : Nat) : Int).toNat)), (5, B true)], []⟩ fun a hS => ?_
  refine wret ?_
  exact fin T hS hO (fun c => c) rfl (r := [.string (bs (s_.drop ((prefix_.length : Nat) : Int).toNat)), .bool true]) kr (fun χ' hM hC => ⟨((s_.drop ((prefix_.length : Nat) : Int).toNat), true), hm, rfl⟩)
theorem C88 (k61 : S61) (v : ∀ (s_ : List UInt8) (prefix_ : List UInt8), preTwo s_ prefix_ → VC88 s_ prefix_ (fun r => r = internal_stringslite_CutPrefix s_ prefix_)) : S88 := by
 intro w χ s_ prefix_    hp 
 refine (W88 k61 w χ s_ prefix_    _ (v s_ prefix_ hp)).mono ?_
 rintro _ _ _ _ ⟨r, rfl, h⟩
 exact h
/-- strings.CutPrefix -/
theorem W82 (k88 : S88) (w0 : World) (χ0 : Nat → Nat) (s_ : List UInt8) (prefix_ : List UInt8) (Q : (List UInt8) × Bool → Prop) (hm : VC82 s_ prefix_ Q) :
  Ret Tryd.prog 82 #[.string (bs s_), .string (bs prefix_)] xnone w0 χ0 (fun w χ' v => ∃ r, Q r ∧ v = .tuple #[.string (bs r.1), .bool r.2]) := by
 unfold VC82 at hm
 refine enter Tryd.func82 rfl (vals := [.string (bs s_), .string (bs prefix_)]) kr ?_
 intro ρ a hS hO hM
 clear hM
 refine rP T hS ⟨[(0, Z s_), (1, Z prefix_)], []⟩ fun a hS => ?_
 refine regO ?_
 refine oP T hS 2 ⟨[(6, Z s_), (7, Z prefix_)], []⟩ fun a hS => ?_
 obtain ⟨hq, hm⟩ := hm
 refine op1 (call hS kr kr hb88 kr (fun _ _ => rfl) (k88 _ _ s_ prefix_ hq) ?_)
 intro v101 a w102 χ103 hE hp hS
 clear hq
 replace hO := hO.mv hE rfl rfl
 clear hE
 obtain ⟨r104, hr⟩ : ∃ r, internal_stringslite_CutPrefix s_ prefix_ = r := ⟨_, rfl⟩
 replace hm := hm r104 hr
 rw [hr] at hp
 clear hr
 subst hp
 refine eP T hS ⟨[(4, Z r104.1), (5, B r104.2)], []⟩ fun a hS => ?_
 refine wret ?_
 exact fin T hS hO (fun c => c) rfl (r := [.string (bs r104.1), .bool r104.2]) kr (fun χ' hM hC => ⟨(r104.1, r104.2), hm, rfl⟩)
theorem C82 (k88 : S88) (v : ∀ (s_ : List UInt8) (prefix_ : List UInt8), preTwo s_ prefix_ → VC82 s_ prefix_ (fun r => r = strings_CutPrefix s_ prefix_)) : S82 := by
 intro w χ s_ prefix_    hp 
 refine (W82 k88 w χ s_ prefix_    _ (v s_ prefix_ hp)).mono ?_
 rintro _ _ _ _ ⟨r, rfl, h⟩
 exact h
/-- internal/stringslite.Cut -/
theorem W48 (k60 : S60) (w0 : World) (χ0 : Nat → Nat) (s_ : List UInt8) (sep : List UInt8) (Q : (List UInt8) × (List UInt8) × Bool → Prop) (hm : VC48 s_ sep Q) :
  Ret Tryd.prog 48 #[.string (bs s_), .string (bs sep)] xnone w0 χ0 (fun w χ' v => ∃ r, Q r ∧ v = .tuple #[.string (bs r.1), .string (bs r.2.1), .bool r.2.2]) := by
 unfold VC48 at hm
 refine enter Tryd.func48 rfl (vals := [.string (bs s_), .string (bs sep)]) kr ?_
 intro ρ a hS hO hM
 clear hM
 refine rP T hS ⟨[(0, Z s_), (1, Z sep)], []⟩ fun a hS => ?_
 refine wseq ?_
 refine regO ?_
 refine oP T hS 2 ⟨[(0, Z s_), (1, Z sep), (8, Z s_), (9, Z sep)], []⟩ fun a hS => ?_
 obtain ⟨hq, hm⟩ := hm
 refine op1 (call hS kr kr hb60 kr (fun _ _ => rfl) (k60 _ _ s_ sep hq) ?_)
 intro v101 a w102 χ103 hE hp hS
 clear hq
 replace hO := hO.mv hE rfl rfl
 clear hE
 obtain ⟨r104, hr⟩ : ∃ r, internal_stringslite_Index s_ sep = r := ⟨_, rfl⟩
 replace hm := hm r104 hr
 rw [hr] at hp
 clear hr
 subst hp
 refine eP T hS ⟨[(0, Z s_), (1, Z sep), (7, I r104)], []⟩ fun a hS => ?_
 refine rP T hS ⟨[(0, Z s_), (1, Z sep), (7, I r104), (12, B (decide (r104 ≥ 0)))], []⟩ fun a hS => ?_
 refine wcond hS (b := decide (r104 ≥ 0)) kr (fun hb => ?_) (fun hb => ?_)
 ·replace hm := hm.1 hb
  refine drawnSX [] mixed hS ?_
  intro w105 χ106 hS hE hD hH
  replace hO := hO.mv hE rfl rfl
  clear hE
  refine tk T [0, 1, 3, 4, 5, 6, 7] [] hS hH #[true, true, false, true, true, true, true, true, false, false, false, false] 5 ⟨[(13, Z s_), (14, I r104), (16, Z s_), (20, I (IntKind.i64.wrap (r104 + ((sep.length : Nat) : Int))))], []⟩ fun a hS => ?_
  obtain ⟨hq, hm⟩ := hm
  refine dsslice0 (kh := .i64) (s := s_) T 2 hS kr kr kr (by rfl) kr hH kr kr kr hq.1 hq.2 ?_
  intro a hS
  clear hq
  refine tk T [9] [] hS hH #[true, true, true, true, true, true, true, true, false, true, false, false] 3 ⟨[(4, Z (s_.take r104.toNat)), (16, Z s_), (20, I (IntKind.i64.wrap (r104 + ((sep.length : Nat) : Int))))], []⟩ fun a hS => ?_
  obtain ⟨hq, hm⟩ := hm
  refine dsslice1 (kl := .i64) (s := s_) T 8 hS kr kr kr (by rfl) kr hH kr kr kr hq.1 hq.2 ?_
  intro a hS
  clear hq
  refine tk T [10, 11] [] hS hH #[true, true, true, true, true, true, true, true, true, true, true, true] 0 ⟨[(4, Z (s_.take r104.toNat)), (5, Z (s_.drop (IntKind.i64.wrap (r104 + ((sep.length : Nat) : Int))).toNat)), (6, B true)], []⟩ fun a hS => ?_
  refine drawnDone kr ?_
  clear hD hH
  replace hS := hS.sl ⟨[(4, Z (s_.take r104.toNat)), (5, Z (s_.drop (IntKind.i64.wrap (r104 + ((sep.length : Nat) : Int))).toNat)), (6, B true)], []⟩
  refine wret ?_
  exact fin T hS hO (fun c => c) rfl (r := [.string (bs (s_.take r104.toNat)), .string (bs (s_.drop (IntKind.i64.wrap (r104 + ((sep.length : Nat) : Int))).toNat)), .bool true]) kr (fun χ' hM hC => ⟨((s_.take r104.toNat), (s_.drop (IntKind.i64.wrap (r104 + ((sep.length : Nat) : Int))).toNat), true), hm, rfl⟩)
 ·replace hm := hm.2 hb
  refine wskip ?_
  refine rP T hS ⟨[(4, Z s_), (5, Z ([] : List UInt8)), (6, B false)], []⟩ fun a hS => ?_
  refine wret ?_
  exact fin T hS hO (fun c => c) rfl (r := [.string (bs s_), .string (bs ([] : List UInt8)), .bool false]) kr (fun χ' hM hC => ⟨(s_, ([] : List UInt8), false), hm, rfl⟩)
theorem C48 (k60 : S60) (v : ∀ (s_ : List UInt8) (sep : List UInt8), preOne s_ sep → VC48 s_ sep (fun r => r = internal_stringslite_Cut s_ sep)) : S48 := by
 intro w χ s_ sep    hp 
 refine (W48 k60 w χ s_ sep    _ (v s_ sep hp)).mono ?_
 rintro _ _ _ _ ⟨r, rfl, h⟩
 exact h
/-- strings.Cut -/
theorem W34 (k48 : S48) (w0 : World) (χ0 : Nat → Nat) (s_ : List UInt8) (sep : List UInt8) (Q : (List UInt8) × (List UInt8) × Bool → Prop) (hm : VC34 s_ sep Q) :
  Ret Tryd.prog 34 #[.string (bs s_), .string (bs sep)] xnone w0 χ0 (fun w χ' v => ∃ r, Q r ∧ v = .tuple #[.string (bs r.1), .string (bs r.2.1), .bool r.2.2]) := by
 unfold VC34 at hm
 refine enter Tryd.func34 rfl (vals := [.string (bs s_), .string (bs sep)]) kr ?_
 intro ρ a hS hO hM
 clear hM
 refine rP T hS ⟨[(0, Z s_), (1, Z sep)], []⟩ fun a hS => ?_
 refine regO ?_
 refine oP T hS 2 ⟨[(7, Z s_), (8, Z sep)], []⟩ fun a hS => ?_
 obtain ⟨hq, hm⟩ := hm
 refine op1 (call hS kr kr hb48 kr (fun _ _ => rfl) (k48 _ _ s_ sep hq) ?_)
 intro v101 a w102 χ103 hE hp hS
 clear hq
 replace hO := hO.mv hE rfl rfl
 clear hE
 obtain ⟨r104, hr⟩ : ∃ r, internal_stringslite_Cut s_ sep = r := ⟨_, rfl⟩
 replace hm := hm r104 hr
 rw [hr] at hp
 clear hr
 subst hp
 refine eP T hS ⟨[(4, Z r104.1), (5, Z r104.2.1), (6, B r104.2.2)], []⟩ fun a hS => ?_
 refine wret ?_
 exact fin T hS hO (fun c => c) rfl (r := [.string (bs r104.1), .string (bs r104.2.1), .bool r104.2.2]) kr (fun χ' hM hC => ⟨(r104.1, r104.2.1, r104.2.2), hm, rfl⟩)
theorem C34 (k48 : S48) (v : ∀ (s_ : List UInt8) (sep : List UInt8), preOne s_ sep → VC34 s_ sep (fun r => r = strings_Cut s_ sep)) : S34 := by
 intro w χ s_ sep    hp 
 refine (W34 k48 w χ s_ sep    _ (v s_ sep hp)).mono ?_
 rintro _ _ _ _ ⟨r, rfl, h⟩
 exact h
/-- replevin/token.tokens -/
theorem W35 (k49 : S49) (k50 : S50) (w0 : World) (χ0 : Nat → Nat) (s_ : List UInt8) (line : Int) (at_ : Int) (Q : (List Token_Token) → Prop) (hm : VC35 s_ line at_ Q) :
  Ret Tryd.prog 35 #[.string (bs s_), .int .i64 line, .int .i64 at_] xnone w0 χ0 (fun w χ' v => ∃ r, Q r ∧ ∃ (ra1 : Option Addr) (rc1 : Nat), v = .slice ra1 r.length rc1 ∧ RS tToken_Token w χ' ra1 r rc1) := by
 unfold VC35 at hm
 refine enter Tryd.func35 rfl (vals := [.string (bs s_), .int .i64 line, .int .i64 at_]) kr ?_
 intro ρ a hS hO hM
 clear hM
 refine rP T hS ⟨[(0, Z s_), (1, I line), (2, I at_)], []⟩ fun a hS => ?_
 obtain ⟨I1_0, μ1_0, I1_1, μ1_1, hmf, hm0, hm1⟩ := hm
 refine wlabels2 (σ := (List Token_Token) × Int × Int) 0 1 (fun l s a w => ∃ (ρ : Nat → Nat) (χ : Nat → Nat) (a102 : Option Addr) (c103 : Nat), (bif Nat.beq l 1 then I1_1 s.1 s.2.1 s.2.2 else I1_0 s.1 s.2.1 s.2.2) ∧ St Tryd.f35.ntmps ⟨[(0, Z s_), (1, I line), (2, I at_), (7, Sl a102 s.1 c103), (8, I s.2.1), (9, I s.2.2)], []⟩ ρ a w χ ∧ Old w0 χ0 w χ ∧ OS tToken_Token 61 w χ 1007 a102 s.1 c103) (fun l s => (bif Nat.beq l 1 then μ1_1 s.1 s.2.1 s.2.2 else μ1_0 s.1 s.2.1 s.2.2)) (by rfl) (by rfl) (by rfl) ?_ (fun H1 => ?_) (fun H0 H1 => ?_)
 ·rintro ⟨out_101, i_105, from_106⟩ a w141 ⟨ρ, χ140, a102, c103, hI, hS, hO, h104⟩
  replace hm := hm1 out_101 i_105 from_106 hI
  clear hI hmf hm0 hm1
  refine wrest rfl ?_
  refine rP T hS ⟨[(0, Z s_), (1, I line), (2, I at_), (7, Sl a102 out_101 c103), (8, I (IntKind.i64.wrap (i_105 + 1))), (9, I from_106)], []⟩ fun a hS => ?_
  refine wseq ?_
  refine wcut (fun a w => ∃ (ρ : Nat → Nat) (χ : Nat → Nat) (out_113 : List Token_Token) (x_117 : Bool) (a114 : Option Addr) (c115 : Nat), VC35_J1 s_ line at_ I1_0 μ1_0 I1_1 μ1_1 out_101 i_105 from_106 out_113 x_117 ∧ St Tryd.f35.ntmps ⟨[(0, Z s_), (1, I line), (2, I at_), (7, Sl a114 out_113 c115), (8, I (IntKind.i64.wrap (i_105 + 1))), (9, I from_106), (41, B x_117)], []⟩ ρ a w χ ∧ Old w0 χ0 w χ ∧ OS tToken_Token 61 w χ 1007 a114 out_113 c115) ?_ ?_
  ·refine region ?_
   refine oP T hS 5 ⟨[(0, Z s_), (1, I line), (2, I at_), (7, Sl a102 out_101 c103), (8, I (IntKind.i64.wrap (i_105 + 1))), (9, I from_106), (35, B (decide ((IntKind.i64.wrap (i_105 + 1)) < ((s_.length : Nat) : Int))))], []⟩ fun a hS => ?_
   rcases Bool.eq_false_or_eq_true (decide ((IntKind.i64.wrap (i_105 + 1)) < ((s_.length : Nat) : Int))) with hb | hb
   ·replace hS := hS.lit (t := 35) kr hb
    replace hm := hm.1 hb
    refine oP T hS 2 ⟨[(0, Z s_), (1, I line), (2, I at_), (7, Sl a102 out_101 c103), (8, I (IntKind.i64.wrap (i_105 + 1))), (9, I from_106), (35, B true), (36, Z s_), (37, I (IntKind.i64.wrap (i_105 + 1)))], []⟩ fun a hS => ?_
    obtain ⟨hq, hm⟩ := hm
    refine op1 (sindex (k := .i64) T hS kr kr kr kr kr hq.1 hq.2 ?_)
    intro a hS
    clear hq
    refine op1 (call hS kr kr hb50 kr (fun _ _ => rfl) (k50 _ _ ([32, 9, 13] : List UInt8) ((gi s_ (IntKind.i64.wrap (i_105 + 1))).toNat : Int)) ?_)
    intro v127 a w128 χ129 hE hp hS
    replace hO := hO.mv hE rfl rfl
    replace h104 := h104.mv hE rfl rfl
    clear hE
    obtain ⟨r130, hr⟩ : ∃ r, strings_IndexByte ([32, 9, 13] : List UInt8) ((gi s_ (IntKind.i64.wrap (i_105 + 1))).toNat : Int) = r := ⟨_, rfl⟩
    replace hm := hm r130 hr
    rw [hr] at hp
    clear hr
    subst hp
    refine eP T hS ⟨[(0, Z s_), (1, I line), (2, I at_), (7, Sl a102 out_101 c103), (8, I (IntKind.i64.wrap (i_105 + 1))), (9, I from_106), (36, Z s_), (37, I (IntKind.i64.wrap (i_105 + 1))), (38, V (.int .u8 ((gi s_ (IntKind.i64.wrap (i_105 + 1))).toNat : Int))), (39, I r130), (40, B (decide (r130 < 0))), (41, B (decide (r130 < 0)))], []⟩ fun a hS => ?_
    exact ⟨ρ, _, out_101, decide (r130 < 0), a102, c103, hm, hS.sl _, hO, h104⟩
   ·replace hS := hS.lit (t := 35) kr hb
    replace hm := hm.2 hb
    refine eP T hS ⟨[(0, Z s_), (1, I line), (2, I at_), (7, Sl a102 out_101 c103), (8, I (IntKind.i64.wrap (i_105 + 1))), (9, I from_106), (41, B false)], []⟩ fun a hS => ?_
    exact ⟨ρ, _, out_101, false, a102, c103, hm, hS.sl _, hO, h104⟩
  ·rintro a w132 ⟨ρ, χ131, out_113, x_117, a114, c115, hm, hS, hO, h116⟩
   unfold VC35_J1 at hm
   refine wcond hS (b := x_117) kr (fun hb => ?_) (fun hb => ?_)
   ·replace hm := hm.1 hb
    refine wgoto (by rfl) ?_
    exact ⟨⟨out_113, IntKind.i64.wrap (i_105 + 1), from_106⟩, ⟨ρ, _, a114, c115, hm.1, hS.sl _, hO, h116⟩, hm.2⟩
   ·replace hm := hm.2 hb
    refine wskip ?_
    refine regO ?_
    refine oP T hS 8 ⟨[(0, Z s_), (1, I line), (2, I at_), (7, Sl a114 out_113 c115), (8, I (IntKind.i64.wrap (i_105 + 1))), (9, I from_106), (42, Sl a114 out_113 c115), (43, I line), (46, I (IntKind.i64.wrap (at_ + from_106))), (47, Z s_), (48, I from_106), (49, I (IntKind.i64.wrap (i_105 + 1)))], []⟩ fun a hS => ?_
    obtain ⟨hq, hm⟩ := hm
    refine op1 (sslice2 (kl := .i64) (kh := .i64) (s := s_) T hS kr kr kr kr kr kr hq.1 hq.2.1 hq.2.2 ?_)
    intro a hS
    clear hq
    refine oP T hS 1 ⟨[(0, Z s_), (1, I line), (2, I at_), (7, Sl a114 out_113 c115), (8, I (IntKind.i64.wrap (i_105 + 1))), (9, I from_106), (42, Sl a114 out_113 c115), (51, V (.agg #[.int .i64 line, .int .i64 (IntKind.i64.wrap (at_ + from_106)), .string (bs ((s_.take (IntKind.i64.wrap (i_105 + 1)).toNat).drop from_106.toNat))]))], []⟩ fun a hS => ?_
    refine op1 (lit (E := 61) (col := 0) (T := tToken_Token) (vals := [.agg #[.int .i64 line, .int .i64 (IntKind.i64.wrap (at_ + from_106)), .string (bs ((s_.take (IntKind.i64.wrap (i_105 + 1)).toNat).drop from_106.toNat))]]) (ys := [(⟨line, IntKind.i64.wrap (at_ + from_106), ((s_.take (IntKind.i64.wrap (i_105 + 1)).toNat).drop from_106.toNat)⟩ : Token_Token)]) T hS kr kr kr kr (by exact ⟨rfl, trivial⟩) rfl kr kr kr kr ?_)
    intro b118 a w119 χ120 hE h121 hN hS
    clear hN
    replace hO := hO.mv hE rfl rfl
    replace h116 := h116.mv hE rfl rfl
    clear hE
    replace h121 := h121.rs0
    obtain ⟨hq, hm⟩ := hm
    obtain ⟨news, hN⟩ := h121.src
    refine op1 (append (E := 61) (T := tToken_Token) (col := 1007) (xs := out_113) T hS kr kr kr kr h116 hN kr kr kr kr hq ?_)
    intro a125 c126 a w122 χ123 hE h124 hS
    clear hq hN
    clear h116
    replace hO := hO.mv hE rfl rfl
    replace h121 := h121.mv hE rfl
    clear hE
    refine eP T hS ⟨[(0, Z s_), (1, I line), (2, I at_), (7, Sl a125 (out_113 ++ [(⟨line, IntKind.i64.wrap (at_ + from_106), ((s_.take (IntKind.i64.wrap (i_105 + 1)).toNat).drop from_106.toNat)⟩ : Token_Token)]) c126), (8, I (IntKind.i64.wrap (i_105 + 1))), (9, I from_106)], []⟩ fun a hS => ?_
    refine wgoto (by rfl) ?_
    exact ⟨⟨out_113 ++ [(⟨line, IntKind.i64.wrap (at_ + from_106), ((s_.take (IntKind.i64.wrap (i_105 + 1)).toNat).drop from_106.toNat)⟩ : Token_Token)], IntKind.i64.wrap (i_105 + 1), from_106⟩, ⟨ρ, _, a125, c126, hm.1, hS.sl _, hO, h124⟩, hm.2⟩
 ·rintro ⟨out_101, i_105, from_106⟩ a w143 ⟨ρ, χ142, a102, c103, hI, hS, hO, h104⟩
  replace hm := hm0 out_101 i_105 from_106 hI
  clear hI hmf hm0 hm1
  refine wrest rfl ?_
  refine wseq ?_
  refine rP T hS ⟨[(0, Z s_), (1, I line), (2, I at_), (7, Sl a102 out_101 c103), (8, I i_105), (9, I from_106), (19, B (i_105 == ((s_.length : Nat) : Int)))], []⟩ fun a hS => ?_
  refine wcond hS (b := (i_105 == ((s_.length : Nat) : Int))) kr (fun hb => ?_) (fun hb => ?_)
  ·replace hm := hm.1 hb
   refine rP T hS ⟨[(6, Sl a102 out_101 c103)], []⟩ fun a hS => ?_
   refine wret ?_
   obtain ⟨χ107, hE, hF⟩ := h104.freeze (by decide)
   replace hS := hS.ev hE (xone_box kr)
   replace hO := hO.mv hE rfl rfl
   have h108 := hF; clear hE hF
   exact fin T hS hO (fun c => c) rfl (r := [.slice a102 out_101.length c103]) kr (fun χ' hM hC => ⟨out_101, hm, a102, c103, rfl, h108.m0 hM⟩)
  ·replace hm := hm.2 hb
   refine wskip ?_
   refine wseq ?_
   refine regO ?_
   refine oP T hS 2 ⟨[(0, Z s_), (1, I line), (2, I at_), (7, Sl a102 out_101 c103), (8, I i_105), (9, I from_106), (21, Z s_), (22, I i_105)], []⟩ fun a hS => ?_
   obtain ⟨hq, hm⟩ := hm
   refine op1 (sindex (k := .i64) T hS kr kr kr kr kr hq.1 hq.2 ?_)
   intro a hS
   clear hq
   refine op1 (call hS kr kr hb50 kr (fun _ _ => rfl) (k50 _ _ ([32, 9, 13] : List UInt8) ((gi s_ i_105).toNat : Int)) ?_)
   intro v109 a w110 χ111 hE hp hS
   replace hO := hO.mv hE rfl rfl
   replace h104 := h104.mv hE rfl rfl
   clear hE
   obtain ⟨r112, hr⟩ : ∃ r, strings_IndexByte ([32, 9, 13] : List UInt8) ((gi s_ i_105).toNat : Int) = r := ⟨_, rfl⟩
   replace hm := hm r112 hr
   rw [hr] at hp
   clear hr
   subst hp
   refine eP T hS ⟨[(0, Z s_), (1, I line), (2, I at_), (7, Sl a102 out_101 c103), (8, I i_105), (9, I from_106), (25, B (decide (r112 ≥ 0)))], []⟩ fun a hS => ?_
   refine wcond hS (b := decide (r112 ≥ 0)) kr (fun hb => ?_) (fun hb => ?_)
   ·replace hm := hm.1 hb
    refine rP T hS ⟨[(0, Z s_), (1, I line), (2, I at_), (7, Sl a102 out_101 c103), (8, I (IntKind.i64.wrap (i_105 + 1))), (9, I from_106)], []⟩ fun a hS => ?_
    refine wgoto (by rfl) ?_
    exact ⟨⟨out_101, IntKind.i64.wrap (i_105 + 1), from_106⟩, ⟨ρ, _, a102, c103, hm.1, hS.sl _, hO, h104⟩, hm.2⟩
   ·replace hm := hm.2 hb
    refine wskip ?_
    refine rP T hS ⟨[(0, Z s_), (1, I line), (2, I at_), (7, Sl a102 out_101 c103), (8, I i_105), (9, I i_105)], []⟩ fun a hS => ?_
    refine wseq ?_
    refine wlabel ?_
    exact wfall H1 ⟨out_101, i_105, i_105⟩ ⟨ρ, _, a102, c103, hm.1, hS.sl _, hO, h104⟩ (fun _ hx => Nat.lt_of_lt_of_le hx hm.2)
 ·replace hm := hmf
  clear hmf hm0 hm1
  refine rP T hS ⟨[(0, Z s_), (1, I line), (2, I at_), (7, V (.slice none 0 0))], []⟩ fun a hS => ?_
  refine rP T hS ⟨[(0, Z s_), (1, I line), (2, I at_), (7, V (.slice none 0 0)), (8, I 0), (9, I 0)], []⟩ fun a hS => ?_
  refine wseq ?_
  refine wcut (fun a w => ∃ (ρ : Nat → Nat) (χ : Nat → Nat) (x_133 : Bool), VC35_J2 Q I1_0 x_133 ∧ St Tryd.f35.ntmps ⟨[(0, Z s_), (1, I line), (2, I at_), (7, V (.slice none 0 0)), (8, I 0), (9, I 0), (15, B x_133)], []⟩ ρ a w χ ∧ Old w0 χ0 w χ) ?_ ?_
  ·refine region ?_
   refine oP T hS 3 ⟨[(0, Z s_), (1, I line), (2, I at_), (7, V (.slice none 0 0)), (8, I 0), (9, I 0), (12, B (s_ == ([99] : List UInt8)))], []⟩ fun a hS => ?_
   rcases Bool.eq_false_or_eq_true (s_ == ([99] : List UInt8)) with hb | hb
   ·replace hS := hS.lit (t := 12) kr hb
    replace hm := hm.1 hb
    refine eP T hS ⟨[(0, Z s_), (1, I line), (2, I at_), (7, V (.slice none 0 0)), (8, I 0), (9, I 0), (15, B true)], []⟩ fun a hS => ?_
    exact ⟨ρ, _, true, hm, hS.sl _, hO⟩
   ·replace hS := hS.lit (t := 12) kr hb
    replace hm := hm.2 hb
    refine oP T hS 1 ⟨[(0, Z s_), (1, I line), (2, I at_), (7, V (.slice none 0 0)), (8, I 0), (9, I 0), (12, B false), (13, Z s_)], []⟩ fun a hS => ?_
    obtain ⟨hq, hm⟩ := hm
    refine op1 (call hS kr kr hb49 kr (fun _ _ => rfl) (k49 _ _ s_ ([99, 32] : List UInt8) hq) ?_)
    intro v134 a w135 χ136 hE hp hS
    clear hq
    replace hO := hO.mv hE rfl rfl
    clear hE
    obtain ⟨r137, hr⟩ : ∃ r, strings_HasPrefix s_ ([99, 32] : List UInt8) = r := ⟨_, rfl⟩
    replace hm := hm r137 hr
    rw [hr] at hp
    clear hr
    subst hp
    refine eP T hS ⟨[(0, Z s_), (1, I line), (2, I at_), (7, V (.slice none 0 0)), (8, I 0), (9, I 0), (15, B r137)], []⟩ fun a hS => ?_
    exact ⟨ρ, _, r137, hm, hS.sl _, hO⟩
  ·rintro a w139 ⟨ρ, χ138, x_133, hm, hS, hO⟩
   unfold VC35_J2 at hm
   refine wcond hS (b := x_133) kr (fun hb => ?_) (fun hb => ?_)
   ·replace hm := hm.1 hb
    refine rP T hS ⟨[(6, V (.slice none 0 0))], []⟩ fun a hS => ?_
    refine wret ?_
    exact fin T hS hO (fun c => c) rfl (r := [.slice none 0 0]) kr (fun χ' hM hC => ⟨[], hm, none, 0, rfl, RS.empty _ _ _⟩)
   ·replace hm := hm.2 hb
    refine wskip ?_
    refine wseq ?_
    refine wlabel ?_
    exact wfall H0 ⟨[], 0, 0⟩ ⟨ρ, _, none, 0, hm, hS.sl _, hO, (OS.nil _ _ _ _ _)⟩ (fun _ _ => trivial)
theorem C35 (k49 : S49) (k50 : S50) (v : ∀ (s_ : List UInt8) (line : Int) (at_ : Int), preTok s_ line at_ → VC35 s_ line at_ (fun r => r = token_tokens s_ line at_)) : S35 := by
 intro w χ s_ line at_    hp 
 refine (W35 k49 k50 w χ s_ line at_    _ (v s_ line at_ hp)).mono ?_
 rintro _ _ _ _ ⟨r, rfl, h⟩
 exact h
/-- replevin/token.Lines -/
theorem W18 (k34 : S34) (k35 : S35) (w0 : World) (χ0 : Nat → Nat) (s_ : List UInt8) (Q : (List (List Token_Token)) → Prop) (hm : VC18 s_ Q) :
  Ret Tryd.prog 18 #[.string (bs s_)] xnone w0 χ0 (fun w χ' v => ∃ r, Q r ∧ ∃ (ra1 : Option Addr) (rc1 : Nat), v = .slice ra1 r.length rc1 ∧ RS (tSlice tToken_Token) w χ' ra1 r rc1) := by
 unfold VC18 at hm
 refine enter Tryd.func18 rfl (vals := [.string (bs s_)]) kr ?_
 intro ρ a hS hO hM
 clear hM
 refine rP T hS ⟨[(0, Z s_)], []⟩ fun a hS => ?_
 refine rP T hS ⟨[(0, Z s_), (3, V (.slice none 0 0))], []⟩ fun a hS => ?_
 refine wcut (fun a w => ∃ (ρ : Nat → Nat) (χ : Nat → Nat) (out_101 : List (List Token_Token)) (a102 : Option Addr) (c103 : Nat), VC18_J1 Q out_101 ∧ St Tryd.f18.ntmps ⟨[(3, Sl a102 out_101 c103)], []⟩ ρ a w χ ∧ Old w0 χ0 w χ ∧ OS (tSlice tToken_Token) 58 w χ 1003 a102 out_101 c103) ?_ ?_
 ·refine rP T hS ⟨[(0, Z s_), (3, V (.slice none 0 0)), (4, I 0)], []⟩ fun a hS => ?_
  refine wblock ?_
  obtain ⟨I1, μ1, hm0, hm⟩ := hm
  refine wloop (σ := (List (List Token_Token)) × Int) (fun s a w => ∃ (ρ : Nat → Nat) (χ : Nat → Nat) (a108 : Option Addr) (c109 : Nat), I1 s.1 s.2 ∧ St Tryd.f18.ntmps ⟨[(0, Z s_), (3, Sl a108 s.1 c109), (4, I s.2)], []⟩ ρ a w χ ∧ Old w0 χ0 w χ ∧ OS (tSlice tToken_Token) 58 w χ 1003 a108 s.1 c109) (fun s => μ1 s.1 s.2) (⟨[], 0⟩) ?_ ?_
  ·exact ⟨ρ, _, none, 0, hm0, hS.sl _, hO, (OS.nil _ _ _ _ _)⟩
  ·rintro ⟨out_107, at_111⟩ a w133 ⟨ρ, χ132, a108, c109, hI, hS, hO, h110⟩
   replace hm := hm out_107 at_111 hI
   clear hI hm0
   refine wseq ?_
   refine rP T hS ⟨[(0, Z s_), (3, Sl a108 out_107 c109), (4, I at_111), (11, B (decide (at_111 < ((s_.length : Nat) : Int))))], []⟩ fun a hS => ?_
   refine wcond hS (b := decide (at_111 < ((s_.length : Nat) : Int))) kr (fun hb => ?_) (fun hb => ?_)
   ·replace hm := hm.1 hb
    refine wskip ?_
    refine wblock ?_
    refine regO ?_
    refine oP T hS 2 ⟨[(0, Z s_), (3, Sl a108 out_107 c109), (4, I at_111), (13, Z s_), (14, I at_111)], []⟩ fun a hS => ?_
    obtain ⟨hq, hm⟩ := hm
    refine op1 (sslice1 (kl := .i64) (s := s_) T hS kr kr kr kr kr hq.1 hq.2 ?_)
    intro a hS
    clear hq
    obtain ⟨hq, hm⟩ := hm
    refine op1 (call hS kr kr hb34 kr (fun _ _ => rfl) (k34 _ _ (s_.drop at_111.toNat) ([10] : List UInt8) hq) ?_)
    intro v112 a w113 χ114 hE hp hS
    clear hq
    replace hO := hO.mv hE rfl rfl
    replace h110 := h110.mv hE rfl rfl
    clear hE
    obtain ⟨r115, hr⟩ : ∃ r, strings_Cut (s_.drop at_111.toNat) ([10] : List UInt8) = r := ⟨_, rfl⟩
    replace hm := hm r115 hr
    rw [hr] at hp
    clear hr
    subst hp
    refine eP T hS ⟨[(0, Z s_), (3, Sl a108 out_107 c109), (4, I at_111), (5, Z r115.1)], []⟩ fun a hS => ?_
    refine regO ?_
    refine oP T hS 6 ⟨[(0, Z s_), (3, Sl a108 out_107 c109), (4, I at_111), (5, Z r115.1), (20, Sl a108 out_107 c109), (21, Z r115.1), (24, I (IntKind.i64.wrap (((out_107.length : Nat) : Int) + 1))), (25, I at_111)], []⟩ fun a hS => ?_
    obtain ⟨hq, hm⟩ := hm
    refine op1 (call hS kr kr hb35 kr (fun _ _ => rfl) (k35 _ _ r115.1 (IntKind.i64.wrap (((out_107.length : Nat) : Int) + 1)) at_111 hq) ?_)
    intro v116 a w117 χ118 hE hp hS
    clear hq
    replace hO := hO.mv hE rfl rfl
    replace h110 := h110.mv hE rfl rfl
    clear hE
    obtain ⟨a120, c121, hp, h122⟩ := hp
    obtain ⟨r119, hr⟩ : ∃ r, token_tokens r115.1 (IntKind.i64.wrap (((out_107.length : Nat) : Int) + 1)) at_111 = r := ⟨_, rfl⟩
    replace hm := hm r119 hr
    rw [hr] at hp h122
    clear hr
    subst hp
    replace hm := hm (h122.sm kr)
    refine op1 (lit (E := 58) (col := 0) (T := (tSlice tToken_Token)) (vals := [.slice a120 r119.length c121]) (ys := [r119]) T hS kr kr kr kr (by exact ⟨⟨a120, c121, rfl, h122⟩, trivial⟩) rfl kr kr kr kr ?_)
    intro b123 a w124 χ125 hE h126 hN hS
    clear hN
    replace hO := hO.mv hE rfl rfl
    replace h110 := h110.mv hE rfl rfl
    replace h122 := h122.mv hE rfl
    clear hE
    replace h126 := h126.rs0
    obtain ⟨hq, hm⟩ := hm
    obtain ⟨news, hN⟩ := h126.src
    refine op1 (append (E := 58) (T := (tSlice tToken_Token)) (col := 1003) (xs := out_107) T hS kr kr kr kr h110 hN kr kr kr kr hq ?_)
    intro a130 c131 a w127 χ128 hE h129 hS
    clear hq hN
    clear h110
    replace hO := hO.mv hE rfl rfl
    replace h122 := h122.mv hE rfl
    replace h126 := h126.mv hE rfl
    clear hE
    refine eP T hS ⟨[(0, Z s_), (3, Sl a130 (out_107 ++ [r119]) c131), (4, I at_111), (5, Z r115.1)], []⟩ fun a hS => ?_
    refine region (eP T hS ⟨[(0, Z s_), (3, Sl a130 (out_107 ++ [r119]) c131), (4, I (IntKind.i64.wrap (at_111 + (IntKind.i64.wrap (((r115.1.length : Nat) : Int) + 1)))))], []⟩ fun a hS => ?_)
    exact ⟨⟨out_107 ++ [r119], IntKind.i64.wrap (at_111 + (IntKind.i64.wrap (((r115.1.length : Nat) : Int) + 1)))⟩, ⟨ρ, _, a130, c131, hm.1, hS.sl _, hO, h129⟩, hm.2⟩
   ·replace hm := hm.2 hb
    refine wexit (by rfl) ?_
    exact ⟨ρ, _, out_107, a108, c109, hm, hS.sl _, hO, h110⟩
 ·rintro a w135 ⟨ρ, χ134, out_101, a102, c103, hm, hS, hO, h104⟩
  unfold VC18_J1 at hm
  refine rP T hS ⟨[(2, Sl a102 out_101 c103)], []⟩ fun a hS => ?_
  refine wret ?_
  obtain ⟨χ105, hE, hF⟩ := h104.freeze (by decide)
  replace hS := hS.ev hE (xone_box kr)
  replace hO := hO.mv hE rfl rfl
  have h106 := hF; clear hE hF
  exact fin T hS hO (fun c => c) rfl (r := [.slice a102 out_101.length c103]) kr (fun χ' hM hC => ⟨out_101, hm, a102, c103, rfl, h106.m0 hM⟩)
theorem C18 (k34 : S34) (k35 : S35) (v : ∀ (s_ : List UInt8), len1 s_ → VC18 s_ (fun r => r = token_Lines s_)) : S18 := by
 intro w χ s_    hp 
 refine (W18 k34 k35 w χ s_    _ (v s_ hp)).mono ?_
 rintro _ _ _ _ ⟨r, rfl, h⟩
 exact h
/-- replevin/token.numeral -/
theorem W74 (k82 : S82) (w0 : World) (χ0 : Nat → Nat) (s_ : List UInt8) (Q : (List UInt8) × Bool × Bool → Prop) (hm : VC74 s_ Q) :
  Ret Tryd.prog 74 #[.string (bs s_)] xnone w0 χ0 (fun w χ' v => ∃ r, Q r ∧ v = .tuple #[.string (bs r.1), .bool r.2.1, .bool r.2.2]) := by
 unfold VC74 at hm
 refine enter Tryd.func74 rfl (vals := [.string (bs s_)]) kr ?_
 intro ρ a hS hO hM
 clear hM
 refine rP T hS ⟨[(0, Z s_)], []⟩ fun a hS => ?_
 refine regO ?_
 refine oP T hS 1 ⟨[(9, Z s_)], []⟩ fun a hS => ?_
 obtain ⟨hq, hm⟩ := hm
 refine op1 (call hS kr kr hb82 kr (fun _ _ => rfl) (k82 _ _ s_ ([45] : List UInt8) hq) ?_)
 intro v101 a w102 χ103 hE hp hS
 clear hq
 replace hO := hO.mv hE rfl rfl
 clear hE
 obtain ⟨r104, hr⟩ : ∃ r, strings_CutPrefix s_ ([45] : List UInt8) = r := ⟨_, rfl⟩
 replace hm := hm r104 hr
 rw [hr] at hp
 clear hr
 subst hp
 refine eP T hS ⟨[(5, Z r104.1), (6, B r104.2)], []⟩ fun a hS => ?_
 refine wseq ?_
 refine wcut (fun a w => ∃ (ρ : Nat → Nat) (χ : Nat → Nat) (x_105 : Bool), VC74_J1 Q r104 x_105 ∧ St Tryd.f74.ntmps ⟨[(5, Z r104.1), (6, B r104.2), (27, B x_105)], []⟩ ρ a w χ ∧ Old w0 χ0 w χ) ?_ ?_
 ·refine region ?_
  refine oP T hS 3 ⟨[(5, Z r104.1), (6, B r104.2), (15, B (r104.1 == ([] : List UInt8)))], []⟩ fun a hS => ?_
  rcases Bool.eq_false_or_eq_true (r104.1 == ([] : List UInt8)) with hb | hb
  ·replace hS := hS.lit (t := 15) kr hb
   replace hm := hm.1 hb
   refine eP T hS ⟨[(5, Z r104.1), (6, B r104.2), (27, B true)], []⟩ fun a hS => ?_
   exact ⟨ρ, _, true, hm, hS.sl _, hO⟩
  ·replace hS := hS.lit (t := 15) kr hb
   replace hm := hm.2 hb
   refine oP T hS 1 ⟨[(5, Z r104.1), (6, B r104.2), (15, B false), (16, Z r104.1)], []⟩ fun a hS => ?_
   obtain ⟨hq, hm⟩ := hm
   refine op1 (sindex (k := .i64) T hS kr kr kr kr kr hq.1 hq.2 ?_)
   intro a hS
   clear hq
   refine eP T hS ⟨[(5, Z r104.1), (6, B r104.2), (27, B ((((gi r104.1 0).toNat : Int) == 48) && ((decide (((r104.1.length : Nat) : Int) > 1)) || r104.2)))], []⟩ (sp := [19, 23]) fun a hS => ?_
   exact ⟨ρ, _, ((((gi r104.1 0).toNat : Int) == 48) && ((decide (((r104.1.length : Nat) : Int) > 1)) || r104.2)), hm, hS.sl _, hO⟩
 ·rintro a w115 ⟨ρ, χ114, x_105, hm, hS, hO⟩
  unfold VC74_J1 at hm
  refine wcond hS (b := x_105) kr (fun hb => ?_) (fun hb => ?_)
  ·replace hm := hm.1 hb
   refine rP T hS ⟨[(2, Z ([] : List UInt8)), (3, B false), (4, B false)], []⟩ fun a hS => ?_
   refine wret ?_
   exact fin T hS hO (fun c => c) rfl (r := [.string (bs ([] : List UInt8)), .bool false, .bool false]) kr (fun χ' hM hC => ⟨(([] : List UInt8), false, false), hm, rfl⟩)
  ·replace hm := hm.2 hb
   refine wskip ?_
   refine wcut (fun a w => ∃ (ρ : Nat → Nat) (χ : Nat → Nat), VC74_J2 Q r104 ∧ St Tryd.f74.ntmps ⟨[(5, Z r104.1), (6, B r104.2)], []⟩ ρ a w χ ∧ Old w0 χ0 w χ) ?_ ?_
   ·refine rP T hS ⟨[(5, Z r104.1), (6, B r104.2), (7, I 0)], []⟩ fun a hS => ?_
    refine wblock ?_
    obtain ⟨I1, μ1, hm0, hm⟩ := hm
    refine wloop (σ := Int) (fun s a w => ∃ (ρ : Nat → Nat) (χ : Nat → Nat), I1 s ∧ St Tryd.f74.ntmps ⟨[(5, Z r104.1), (6, B r104.2), (7, I s)], []⟩ ρ a w χ ∧ Old w0 χ0 w χ) (fun s => μ1 s) (0) ?_ ?_
    ·exact ⟨ρ, _, hm0, hS.sl _, hO⟩
    ·rintro i_106 a w111 ⟨ρ, χ110, hI, hS, hO⟩
     replace hm := hm i_106 hI
     clear hI hm0
     refine wseq ?_
     refine rP T hS ⟨[(5, Z r104.1), (6, B r104.2), (7, I i_106), (31, B (decide (i_106 < ((r104.1.length : Nat) : Int))))], []⟩ fun a hS => ?_
     refine wcond hS (b := decide (i_106 < ((r104.1.length : Nat) : Int))) kr (fun hb => ?_) (fun hb => ?_)
     ·replace hm := hm.1 hb
      refine wskip ?_
      refine wseq ?_
      refine wblock ?_
      refine wcut (fun a w => ∃ (ρ : Nat → Nat) (χ : Nat → Nat) (x_107 : Bool), VC74_J3 Q I1 μ1 i_106 x_107 ∧ St Tryd.f74.ntmps ⟨[(5, Z r104.1), (6, B r104.2), (7, I i_106), (43, B x_107)], []⟩ ρ a w χ ∧ Old w0 χ0 w χ) ?_ ?_
      ·refine region ?_
       refine oP T hS 2 ⟨[(5, Z r104.1), (6, B r104.2), (7, I i_106), (34, Z r104.1), (35, I i_106)], []⟩ fun a hS => ?_
       obtain ⟨hq, hm⟩ := hm
       refine op1 (sindex (k := .i64) T hS kr kr kr kr kr hq.1 hq.2 ?_)
       intro a hS
       clear hq
       refine oP T hS 2 ⟨[(5, Z r104.1), (6, B r104.2), (7, I i_106), (38, B (decide (((gi r104.1 i_106).toNat : Int) < 48)))], []⟩ fun a hS => ?_
       rcases Bool.eq_false_or_eq_true (decide (((gi r104.1 i_106).toNat : Int) < 48)) with hb | hb
       ·replace hS := hS.lit (t := 38) kr hb
        replace hm := hm.1 hb
        refine eP T hS ⟨[(5, Z r104.1), (6, B r104.2), (7, I i_106), (43, B true)], []⟩ fun a hS => ?_
        exact ⟨ρ, _, true, hm, hS.sl _, hO⟩
       ·replace hS := hS.lit (t := 38) kr hb
        replace hm := hm.2 hb
        refine oP T hS 2 ⟨[(5, Z r104.1), (6, B r104.2), (7, I i_106), (38, B false), (39, Z r104.1), (40, I i_106)], []⟩ fun a hS => ?_
        obtain ⟨hq, hm⟩ := hm
        refine op1 (sindex (k := .i64) T hS kr kr kr kr kr hq.1 hq.2 ?_)
        intro a hS
        clear hq
        refine eP T hS ⟨[(5, Z r104.1), (6, B r104.2), (7, I i_106), (39, Z r104.1), (40, I i_106), (41, V (.int .u8 ((gi r104.1 i_106).toNat : Int))), (42, B (decide (((gi r104.1 i_106).toNat : Int) > 57))), (43, B (decide (((gi r104.1 i_106).toNat : Int) > 57)))], []⟩ fun a hS => ?_
        exact ⟨ρ, _, decide (((gi r104.1 i_106).toNat : Int) > 57), hm, hS.sl _, hO⟩
      ·rintro a w109 ⟨ρ, χ108, x_107, hm, hS, hO⟩
       unfold VC74_J3 at hm
       refine wcond hS (b := x_107) kr (fun hb => ?_) (fun hb => ?_)
       ·replace hm := hm.1 hb
        refine rP T hS ⟨[(2, Z ([] : List UInt8)), (3, B false), (4, B false)], []⟩ fun a hS => ?_
        refine wret ?_
        exact fin T hS hO (fun c => c) rfl (r := [.string (bs ([] : List UInt8)), .bool false, .bool false]) kr (fun χ' hM hC => ⟨(([] : List UInt8), false, false), hm, rfl⟩)
       ·replace hm := hm.2 hb
        refine wskip ?_
        refine region (eP T hS ⟨[(5, Z r104.1), (6, B r104.2), (7, I (IntKind.i64.wrap (i_106 + 1)))], []⟩ fun a hS => ?_)
        exact ⟨IntKind.i64.wrap (i_106 + 1), ⟨ρ, _, hm.1, hS.sl _, hO⟩, hm.2⟩
     ·replace hm := hm.2 hb
      refine wexit (by rfl) ?_
      exact ⟨ρ, _, hm, hS.sl _, hO⟩
   ·rintro a w113 ⟨ρ, χ112, hm, hS, hO⟩
    unfold VC74_J2 at hm
    refine rP T hS ⟨[(2, Z r104.1), (3, B r104.2), (4, B true)], []⟩ fun a hS => ?_
    refine wret ?_
    exact fin T hS hO (fun c => c) rfl (r := [.string (bs r104.1), .bool r104.2, .bool true]) kr (fun χ' hM hC => ⟨(r104.1, r104.2, true), hm, rfl⟩)
theorem C74 (k82 : S82) (v : ∀ (s_ : List UInt8), len1 s_ → VC74 s_ (fun r => r = token_numeral s_)) : S74 := by
 intro w χ s_    hp 
 refine (W74 k82 w χ s_    _ (v s_ hp)).mono ?_
 rintro _ _ _ _ ⟨r, rfl, h⟩
 exact h
/-- replevin/token.Number -/
theorem W63 (k74 : S74) (w0 : World) (χ0 : Nat → Nat) (s_ : List UInt8) (lo : Int) (hi : Int) (Q : Int × Int → Prop) (hm : VC63 s_ lo hi Q) :
  Ret Tryd.prog 63 #[.string (bs s_), .int .i64 lo, .int .i64 hi] xnone w0 χ0 (fun w χ' v => ∃ r, Q r ∧ v = .tuple #[.int .i64 r.1, .int .i64 r.2]) := by
 unfold VC63 at hm
 refine enter Tryd.func63 rfl (vals := [.string (bs s_), .int .i64 lo, .int .i64 hi]) kr ?_
 intro ρ a hS hO hM
 clear hM
 refine rP T hS ⟨[(0, Z s_), (1, I lo), (2, I hi)], []⟩ fun a hS => ?_
 refine regO ?_
 refine oP T hS 1 ⟨[(1, I lo), (2, I hi), (15, Z s_)], []⟩ fun a hS => ?_
 obtain ⟨hq, hm⟩ := hm
 refine op1 (call hS kr kr hb74 kr (fun _ _ => rfl) (k74 _ _ s_ hq) ?_)
 intro v101 a w102 χ103 hE hp hS
 clear hq
 replace hO := hO.mv hE rfl rfl
 clear hE
 obtain ⟨r104, hr⟩ : ∃ r, token_numeral s_ = r := ⟨_, rfl⟩
 replace hm := hm r104 hr
 rw [hr] at hp
 clear hr
 subst hp
 refine eP T hS ⟨[(1, I lo), (2, I hi), (8, Z r104.1), (9, B r104.2.1), (10, B r104.2.2)], []⟩ fun a hS => ?_
 refine wseq ?_
 refine rP T hS ⟨[(1, I lo), (2, I hi), (8, Z r104.1), (9, B r104.2.1), (21, B (!r104.2.2))], []⟩ fun a hS => ?_
 refine wcond hS (b := (!r104.2.2)) kr (fun hb => ?_) (fun hb => ?_)
 ·replace hm := hm.1 hb
  refine rP T hS ⟨[(6, I 0), (7, I 5)], []⟩ fun a hS => ?_
  refine wret ?_
  exact fin T hS hO (fun c => c) rfl (r := [.int .i64 0, .int .i64 5]) kr (fun χ' hM hC => ⟨(0, 5), hm, rfl⟩)
 ·replace hm := hm.2 hb
  refine wskip ?_
  refine rP T hS ⟨[(1, I lo), (2, I hi), (8, Z r104.1), (9, B r104.2.1), (11, V (.int .u64 0))], []⟩ fun a hS => ?_
  refine wcut (fun a w => ∃ (ρ : Nat → Nat) (χ : Nat → Nat) (n_105 : Int), VC63_J1 lo hi Q r104 n_105 ∧ St Tryd.f63.ntmps ⟨[(1, I lo), (2, I hi), (9, B r104.2.1), (11, V (.int .u64 n_105))], []⟩ ρ a w χ ∧ Old w0 χ0 w χ) ?_ ?_
  ·refine rP T hS ⟨[(1, I lo), (2, I hi), (8, Z r104.1), (9, B r104.2.1), (11, V (.int .u64 0)), (12, I 0)], []⟩ fun a hS => ?_
   refine wblock ?_
   obtain ⟨I1, μ1, hm0, hm⟩ := hm
   refine wloop (σ := Int × Int) (fun s a w => ∃ (ρ : Nat → Nat) (χ : Nat → Nat), I1 s.1 s.2 ∧ St Tryd.f63.ntmps ⟨[(1, I lo), (2, I hi), (8, Z r104.1), (9, B r104.2.1), (11, V (.int .u64 s.1)), (12, I s.2)], []⟩ ρ a w χ ∧ Old w0 χ0 w χ) (fun s => μ1 s.1 s.2) (⟨0, 0⟩) ?_ ?_
   ·exact ⟨ρ, _, hm0, hS.sl _, hO⟩
   ·rintro ⟨n_109, i_110⟩ a w112 ⟨ρ, χ111, hI, hS, hO⟩
    replace hm := hm n_109 i_110 hI
    clear hI hm0
    refine wseq ?_
    refine rP T hS ⟨[(1, I lo), (2, I hi), (8, Z r104.1), (9, B r104.2.1), (11, V (.int .u64 n_109)), (12, I i_110), (25, B (decide (i_110 < ((r104.1.length : Nat) : Int))))], []⟩ fun a hS => ?_
    refine wcond hS (b := decide (i_110 < ((r104.1.length : Nat) : Int))) kr (fun hb => ?_) (fun hb => ?_)
    ·replace hm := hm.1 hb
     refine wskip ?_
     refine wseq ?_
     refine wblock ?_
     refine wseq ?_
     refine rP T hS ⟨[(1, I lo), (2, I hi), (8, Z r104.1), (9, B r104.2.1), (11, V (.int .u64 n_109)), (12, I i_110), (29, B (decide (n_109 > 1844674407370955160)))], []⟩ fun a hS => ?_
     refine wcond hS (b := decide (n_109 > 1844674407370955160)) kr (fun hb => ?_) (fun hb => ?_)
     ·replace hm := hm.1 hb
      refine rP T hS ⟨[(6, I 0), (7, I 7)], []⟩ fun a hS => ?_
      refine wret ?_
      exact fin T hS hO (fun c => c) rfl (r := [.int .i64 0, .int .i64 7]) kr (fun χ' hM hC => ⟨(0, 7), hm, rfl⟩)
     ·replace hm := hm.2 hb
      refine wskip ?_
      refine region ?_
      refine oP T hS 4 ⟨[(1, I lo), (2, I hi), (8, Z r104.1), (9, B r104.2.1), (11, V (.int .u64 n_109)), (12, I i_110), (31, V (.int .u64 (IntKind.u64.wrap (10 * n_109)))), (32, Z r104.1), (33, I i_110)], []⟩ fun a hS => ?_
      obtain ⟨hq, hm⟩ := hm
      refine op1 (sindex (k := .i64) T hS kr kr kr kr kr hq.1 hq.2 ?_)
      intro a hS
      clear hq
      refine eP T hS ⟨[(1, I lo), (2, I hi), (8, Z r104.1), (9, B r104.2.1), (11, V (.int .u64 (IntKind.u64.wrap ((IntKind.u64.wrap (10 * n_109)) + (IntKind.u64.wrap (IntKind.u8.wrap (((gi r104.1 i_110).toNat : Int) - 48))))))), (12, I i_110)], []⟩ fun a hS => ?_
      refine region (eP T hS ⟨[(1, I lo), (2, I hi), (8, Z r104.1), (9, B r104.2.1), (11, V (.int .u64 (IntKind.u64.wrap ((IntKind.u64.wrap (10 * n_109)) + (IntKind.u64.wrap (IntKind.u8.wrap (((gi r104.1 i_110).toNat : Int) - 48))))))), (12, I (IntKind.i64.wrap (i_110 + 1)))], []⟩ fun a hS => ?_)
      exact ⟨⟨IntKind.u64.wrap ((IntKind.u64.wrap (10 * n_109)) + (IntKind.u64.wrap (IntKind.u8.wrap (((gi r104.1 i_110).toNat : Int) - 48)))), IntKind.i64.wrap (i_110 + 1)⟩, ⟨ρ, _, hm.1, hS.sl _, hO⟩, hm.2⟩
    ·replace hm := hm.2 hb
     refine wexit (by rfl) ?_
     exact ⟨ρ, _, n_109, hm, hS.sl _, hO⟩
  ·rintro a w114 ⟨ρ, χ113, n_105, hm, hS, hO⟩
   unfold VC63_J1 at hm
   refine wseq ?_
   refine rP T hS ⟨[(1, I lo), (2, I hi), (9, B r104.2.1), (11, V (.int .u64 n_105)), (47, B ((decide (n_105 > 9223372036854775807)) && (!(r104.2.1 && (n_105 == 9223372036854775808)))))], []⟩ (sp := [40, 42]) fun a hS => ?_
   refine wcond hS (b := ((decide (n_105 > 9223372036854775807)) && (!(r104.2.1 && (n_105 == 9223372036854775808))))) kr (fun hb => ?_) (fun hb => ?_)
   ·replace hm := hm.1 hb
    refine rP T hS ⟨[(6, I 0), (7, I 7)], []⟩ fun a hS => ?_
    refine wret ?_
    exact fin T hS hO (fun c => c) rfl (r := [.int .i64 0, .int .i64 7]) kr (fun χ' hM hC => ⟨(0, 7), hm, rfl⟩)
   ·replace hm := hm.2 hb
    refine wskip ?_
    refine rP T hS ⟨[(1, I lo), (2, I hi), (9, B r104.2.1), (13, I (IntKind.i64.wrap n_105))], []⟩ fun a hS => ?_
    refine wcut (fun a w => ∃ (ρ : Nat → Nat) (χ : Nat → Nat) (x_106 : Int), VC63_J2 lo hi Q x_106 ∧ St Tryd.f63.ntmps ⟨[(1, I lo), (2, I hi), (13, I x_106)], []⟩ ρ a w χ ∧ Old w0 χ0 w χ) ?_ ?_
    ·refine rP T hS ⟨[(1, I lo), (2, I hi), (13, I (IntKind.i64.wrap n_105)), (50, B r104.2.1)], []⟩ fun a hS => ?_
     refine wcond hS (b := r104.2.1) kr (fun hb => ?_) (fun hb => ?_)
     ·replace hm := hm.1 hb
      refine region (eP T hS ⟨[(1, I lo), (2, I hi), (13, I (IntKind.i64.wrap (0 - (IntKind.i64.wrap n_105))))], []⟩ fun a hS => ?_)
      exact ⟨ρ, _, IntKind.i64.wrap (0 - (IntKind.i64.wrap n_105)), hm, hS.sl _, hO⟩
     ·replace hm := hm.2 hb
      refine wskip ?_
      exact ⟨ρ, _, IntKind.i64.wrap n_105, hm, hS.sl _, hO⟩
    ·rintro a w108 ⟨ρ, χ107, x_106, hm, hS, hO⟩
     unfold VC63_J2 at hm
     refine wseq ?_
     refine rP T hS ⟨[(13, I x_106), (60, B ((decide (x_106 < lo)) || (decide (x_106 > hi))))], []⟩ (sp := [56]) fun a hS => ?_
     refine wcond hS (b := ((decide (x_106 < lo)) || (decide (x_106 > hi)))) kr (fun hb => ?_) (fun hb => ?_)
     ·replace hm := hm.1 hb
      refine rP T hS ⟨[(6, I 0), (7, I 7)], []⟩ fun a hS => ?_
      refine wret ?_
      exact fin T hS hO (fun c => c) rfl (r := [.int .i64 0, .int .i64 7]) kr (fun χ' hM hC => ⟨(0, 7), hm, rfl⟩)
     ·replace hm := hm.2 hb
      refine wskip ?_
      refine rP T hS ⟨[(6, I x_106), (7, I 0)], []⟩ fun a hS => ?_
      refine wret ?_
      exact fin T hS hO (fun c => c) rfl (r := [.int .i64 x_106, .int .i64 0]) kr (fun χ' hM hC => ⟨(x_106, 0), hm, rfl⟩)
theorem C63 (k74 : S74) (v : ∀ (s_ : List UInt8) (lo : Int) (hi : Int), preNum s_ lo hi → VC63 s_ lo hi (fun r => r = token_Number s_ lo hi)) : S63 := by
 intro w χ s_ lo hi    hp 
 refine (W63 k74 w χ s_ lo hi    _ (v s_ lo hi hp)).mono ?_
 rintro _ _ _ _ ⟨r, rfl, h⟩
 exact h
/-- replevin/token.Digits -/
theorem W27 (k43 : S43) (w0 : World) (χ0 : Nat → Nat) (n_ : Int) (Q : (List UInt8) → Prop) (hm : VC27 n_ Q) (hAmb : Amb w0 χ0) :
  Ret Tryd.prog 27 #[.int .i64 n_] xnone w0 χ0 (fun w χ' v => ∃ r, Q r ∧ v = .string (bs r)) := by
 unfold VC27 at hm
 refine enter Tryd.func27 rfl (vals := [.int .i64 n_]) kr ?_
 intro ρ a hS hO hM
 replace hAmb := hAmb.m0 hM
 clear hM
 refine rP T hS ⟨[(0, I n_)], []⟩ fun a hS => ?_
 refine regO ?_
 refine oP T hS 1 ⟨[(3, I n_)], []⟩ fun a hS => ?_
 obtain ⟨hq, hm⟩ := hm
 refine op1 (call hS kr kr hb43 kr (fun _ _ => rfl) (k43 _ _ n_ hq hAmb) ?_)
 intro v101 a w102 χ103 hE hp hS
 clear hq
 replace hO := hO.mv hE rfl rfl
 replace hAmb := hAmb.mv hE rfl
 clear hE
 obtain ⟨r104, hr⟩ : ∃ r, strconv_Itoa n_ = r := ⟨_, rfl⟩
 replace hm := hm r104 hr
 rw [hr] at hp
 clear hr
 subst hp
 refine eP T hS ⟨[(2, Z r104)], []⟩ fun a hS => ?_
 refine wret ?_
 exact fin T hS hO (fun c => c) rfl (r := [.string (bs r104)]) kr (fun χ' hM hC => ⟨r104, hm, rfl⟩)
theorem C27 (k43 : S43) (v : ∀ (n_ : Int), preI n_ → VC27 n_ (fun r => r = token_Digits n_)) : S27 := by
 intro w χ n_    hp hAmb
 refine (W27 k43 w χ n_    _ (v n_ hp) hAmb).mono ?_
 rintro _ _ _ _ ⟨r, rfl, h⟩
 exact h
/-- (replevin/lit.number).in -/
theorem W67 (w0 : World) (χ0 : Nat → Nat) (n_ : Int) (vars : Int) (Q : Bool → Prop) (hm : VC67 n_ vars Q) :
  Ret Tryd.prog 67 #[.int .i64 n_, .int .i64 vars] xnone w0 χ0 (fun w χ' v => ∃ r, Q r ∧ v = .bool r) := by
 unfold VC67 at hm
 refine enter Tryd.func67 rfl (vals := [.int .i64 n_, .int .i64 vars]) kr ?_
 intro ρ a hS hO hM
 clear hM
 refine rP T hS ⟨[(0, I n_), (1, I vars)], []⟩ fun a hS => ?_
 refine rP T hS ⟨[(4, B (((n_ != 0) && (decide (n_ ≥ (IntKind.i64.wrap (0 - vars))))) && (decide (n_ ≤ vars))))], []⟩ (sp := [7, 13]) fun a hS => ?_
 refine wret ?_
 exact fin T hS hO (fun c => c) rfl (r := [.bool (((n_ != 0) && (decide (n_ ≥ (IntKind.i64.wrap (0 - vars))))) && (decide (n_ ≤ vars)))]) kr (fun χ' hM hC => ⟨(((n_ != 0) && (decide (n_ ≥ (IntKind.i64.wrap (0 - vars))))) && (decide (n_ ≤ vars))), hm, rfl⟩)
theorem C67 (v : ∀ (n_ : Int) (vars : Int), preIn n_ vars → VC67 n_ vars (fun r => r = lit_number_in n_ vars)) : S67 := by
 intro w χ n_ vars    hp 
 refine (W67 w χ n_ vars    _ (v n_ vars hp)).mono ?_
 rintro _ _ _ _ ⟨r, rfl, h⟩
 exact h
/-- replevin/lit.is -/
theorem W80 (k67 : S67) (w0 : World) (χ0 : Nat → Nat) (lit : Int) (Q : Bool → Prop) (hm : VC80 lit Q) :
  Ret Tryd.prog 80 #[.int .i64 lit] xnone w0 χ0 (fun w χ' v => ∃ r, Q r ∧ v = .bool r) := by
 unfold VC80 at hm
 refine enter Tryd.func80 rfl (vals := [.int .i64 lit]) kr ?_
 intro ρ a hS hO hM
 clear hM
 refine rP T hS ⟨[(0, I lit)], []⟩ fun a hS => ?_
 refine rP T hS ⟨[(3, .f (.func 67) [.v (.int .i64 lit)] [])], []⟩ fun a hS => ?_
 refine regO ?_
 refine oP T hS 1 ⟨[(6, .f (.func 67) [.v (.int .i64 lit)] [])], []⟩ fun a hS => ?_
 obtain ⟨hq, hm⟩ := hm
 refine op1 (callC (fi := [.v (.int .i64 lit)]) (cp := []) hS kr kr hb67 kr kr (fun _ _ => rfl) (k67 _ _ lit 100000 hq) ?_)
 intro v101 a w102 χ103 hE hp hS
 clear hq
 replace hO := hO.mv hE rfl rfl
 clear hE
 obtain ⟨r104, hr⟩ : ∃ r, lit_number_in lit 100000 = r := ⟨_, rfl⟩
 replace hm := hm r104 hr
 rw [hr] at hp
 clear hr
 subst hp
 refine eP T hS ⟨[(2, B r104)], []⟩ fun a hS => ?_
 refine wret ?_
 exact fin T hS hO (fun c => c) rfl (r := [.bool r104]) kr (fun χ' hM hC => ⟨r104, hm, rfl⟩)
theorem C80 (k67 : S67) (v : ∀ (lit : Int), VC80 lit (fun r => r = lit_is lit)) : S80 := by
 intro w χ lit    
 refine (W80 k67 w χ lit    _ (v lit)).mono ?_
 rintro _ _ _ _ ⟨r, rfl, h⟩
 exact h
/-- replevin/lit.Var -/
theorem W68 (k80 : S80) (w0 : World) (χ0 : Nat → Nat) (lit : Int) (Q : Int → Prop) (hm : VC68 lit Q) :
  Ret Tryd.prog 68 #[.int .i64 lit] xnone w0 χ0 (fun w χ' v => ∃ r, Q r ∧ v = .int .i64 r) := by
 unfold VC68 at hm
 refine enter Tryd.func68 rfl (vals := [.int .i64 lit]) kr ?_
 intro ρ a hS hO hM
 clear hM
 refine rP T hS ⟨[(0, I lit)], []⟩ fun a hS => ?_
 refine wseq ?_
 refine regO ?_
 refine oP T hS 1 ⟨[(0, I lit), (3, I lit)], []⟩ fun a hS => ?_
 refine op1 (call hS kr kr hb80 kr (fun _ _ => rfl) (k80 _ _ lit) ?_)
 intro v101 a w102 χ103 hE hp hS
 replace hO := hO.mv hE rfl rfl
 clear hE
 obtain ⟨r104, hr⟩ : ∃ r, lit_is lit = r := ⟨_, rfl⟩
 replace hm := hm r104 hr
 rw [hr] at hp
 clear hr
 subst hp
 refine eP T hS ⟨[(0, I lit), (5, B (!r104))], []⟩ fun a hS => ?_
 refine wcond hS (b := (!r104)) kr (fun hb => ?_) (fun hb => ?_)
 ·replace hm := hm.1 hb
  refine rP T hS ⟨[(2, I 0)], []⟩ fun a hS => ?_
  refine wret ?_
  exact fin T hS hO (fun c => c) rfl (r := [.int .i64 0]) kr (fun χ' hM hC => ⟨0, hm, rfl⟩)
 ·replace hm := hm.2 hb
  refine wskip ?_
  refine rP T hS ⟨[(2, I (if (IntKind.i64.wrap (0 - lit)) > lit then (IntKind.i64.wrap (0 - lit)) else lit))], []⟩ fun a hS => ?_
  refine wret ?_
  exact fin T hS hO (fun c => c) rfl (r := [.int .i64 (if (IntKind.i64.wrap (0 - lit)) > lit then (IntKind.i64.wrap (0 - lit)) else lit)]) kr (fun χ' hM hC => ⟨(if (IntKind.i64.wrap (0 - lit)) > lit then (IntKind.i64.wrap (0 - lit)) else lit), hm, rfl⟩)
theorem C68 (k80 : S80) (v : ∀ (lit : Int), VC68 lit (fun r => r = lit_Var lit)) : S68 := by
 intro w χ lit    
 refine (W68 k80 w χ lit    _ (v lit)).mono ?_
 rintro _ _ _ _ ⟨r, rfl, h⟩
 exact h
/-- replevin/lit.Check -/
theorem W56 (k67 : S67) (w0 : World) (χ0 : Nat → Nat) (lit : Int) (vars : Int) (Q : Int → Prop) (hm : VC56 lit vars Q) :
  Ret Tryd.prog 56 #[.int .i64 lit, .int .i64 vars] xnone w0 χ0 (fun w χ' v => ∃ r, Q r ∧ v = .int .i64 r) := by
 unfold VC56 at hm
 refine enter Tryd.func56 rfl (vals := [.int .i64 lit, .int .i64 vars]) kr ?_
 intro ρ a hS hO hM
 clear hM
 refine rP T hS ⟨[(0, I lit), (1, I vars)], []⟩ fun a hS => ?_
 refine wseq ?_
 refine wblock ?_
 refine rP T hS ⟨[(0, I lit), (1, I vars), (5, B ((decide (vars < 0)) || (decide (vars > 100000))))], []⟩ (sp := [8]) fun a hS => ?_
 refine wcond hS (b := ((decide (vars < 0)) || (decide (vars > 100000)))) kr (fun hb => ?_) (fun hb => ?_)
 ·replace hm := hm.1 hb
  refine rP T hS ⟨[(4, I 2)], []⟩ fun a hS => ?_
  refine wret ?_
  exact fin T hS hO (fun c => c) rfl (r := [.int .i64 2]) kr (fun χ' hM hC => ⟨2, hm, rfl⟩)
 ·replace hm := hm.2 hb
  refine regO ?_
  refine oP T hS 2 ⟨[(13, I lit), (14, I vars)], []⟩ fun a hS => ?_
  obtain ⟨hq, hm⟩ := hm
  refine op1 (call hS kr kr hb67 kr (fun _ _ => rfl) (k67 _ _ lit vars hq) ?_)
  intro v101 a w102 χ103 hE hp hS
  clear hq
  replace hO := hO.mv hE rfl rfl
  clear hE
  obtain ⟨r104, hr⟩ : ∃ r, lit_number_in lit vars = r := ⟨_, rfl⟩
  replace hm := hm r104 hr
  rw [hr] at hp
  clear hr
  subst hp
  refine eP T hS ⟨[(12, B (!r104))], []⟩ fun a hS => ?_
  refine wcond hS (b := (!r104)) kr (fun hb => ?_) (fun hb => ?_)
  ·replace hm := hm.1 hb
   refine rP T hS ⟨[(4, I 10)], []⟩ fun a hS => ?_
   refine wret ?_
   exact fin T hS hO (fun c => c) rfl (r := [.int .i64 10]) kr (fun χ' hM hC => ⟨10, hm, rfl⟩)
  ·replace hm := hm.2 hb
   refine wskip ?_
   refine rP T hS ⟨[(4, I 0)], []⟩ fun a hS => ?_
   refine wret ?_
   exact fin T hS hO (fun c => c) rfl (r := [.int .i64 0]) kr (fun χ' hM hC => ⟨0, hm, rfl⟩)
theorem C56 (k67 : S67) (v : ∀ (lit : Int) (vars : Int), VC56 lit vars (fun r => r = lit_Check lit vars)) : S56 := by
 intro w χ lit vars    
 refine (W56 k67 w χ lit vars    _ (v lit vars)).mono ?_
 rintro _ _ _ _ ⟨r, rfl, h⟩
 exact h
/-- slices.Equal[[]int,int] -/
theorem W42 (w0 : World) (χ0 : Nat → Nat) (s1 : List Int) (s2 : List Int) (a1 : Option Addr) (c1 : Nat) (a2 : Option Addr) (c2 : Nat) (Q : Bool → Prop) (hm : VC42 s1 s2 Q) (h1 : RS tI w0 χ0 a1 s1 c1) (h2 : RS tI w0 χ0 a2 s2 c2) :
  Ret Tryd.prog 42 #[.slice a1 s1.length c1, .slice a2 s2.length c2] xnone w0 χ0 (fun w χ' v => ∃ r, Q r ∧ v = .bool r) := by
 unfold VC42 at hm
 replace hm := hm (h1.sm kr)
 replace hm := hm (h2.sm kr)
 refine enter Tryd.func42 rfl (vals := [.slice a1 s1.length c1, .slice a2 s2.length c2]) kr ?_
 intro ρ a hS hO hM
 replace h1 := h1.m0 hM
 replace h2 := h2.m0 hM
 clear hM
 refine rP T hS ⟨[(0, Sl a1 s1 c1), (1, Sl a2 s2 c2)], []⟩ fun a hS => ?_
 refine wseq ?_
 refine rP T hS ⟨[(0, Sl a1 s1 c1), (1, Sl a2 s2 c2), (10, B (((s1.length : Nat) : Int) != ((s2.length : Nat) : Int)))], []⟩ fun a hS => ?_
 refine wcond hS (b := (((s1.length : Nat) : Int) != ((s2.length : Nat) : Int))) kr (fun hb => ?_) (fun hb => ?_)
 ·replace hm := hm.1 hb
  refine rP T hS ⟨[(4, B false)], []⟩ fun a hS => ?_
  refine wret ?_
  exact fin T hS hO (fun c => c) rfl (r := [.bool false]) kr (fun χ' hM hC => ⟨false, hm, rfl⟩)
 ·replace hm := hm.2 hb
  refine wskip ?_
  refine wcut (fun a w => ∃ (ρ : Nat → Nat) (χ : Nat → Nat), VC42_J1 Q ∧ St Tryd.f42.ntmps ⟨[], []⟩ ρ a w χ ∧ Old w0 χ0 w χ) ?_ ?_
  ·refine rP T hS ⟨[(0, Sl a1 s1 c1), (1, Sl a2 s2 c2), (12, I ((s1.length : Nat) : Int)), (13, I 0)], []⟩ fun a hS => ?_
   refine wblock ?_
   obtain ⟨I1, μ1, hm0, hm⟩ := hm
   refine wloop (σ := Int) (fun s a w => ∃ (ρ : Nat → Nat) (χ : Nat → Nat), I1 s ∧ St Tryd.f42.ntmps ⟨[(0, Sl a1 s1 c1), (1, Sl a2 s2 c2), (12, I ((s1.length : Nat) : Int)), (13, I s)], []⟩ ρ a w χ ∧ Old w0 χ0 w χ ∧ RS tI w χ a1 s1 c1 ∧ RS tI w χ a2 s2 c2) (fun s => μ1 s) (0) ?_ ?_
   ·exact ⟨ρ, _, hm0, hS.sl _, hO, h1, h2⟩
   ·rintro x_103 a w113 ⟨ρ, χ112, hI, hS, hO, h101, h102⟩
    replace hm := hm x_103 hI
    clear hI hm0
    refine rP T hS ⟨[(0, Sl a1 s1 c1), (1, Sl a2 s2 c2), (12, I ((s1.length : Nat) : Int)), (13, I x_103), (14, B (decide (x_103 < ((s1.length : Nat) : Int))))], []⟩ fun a hS => ?_
    refine wseq ?_
    refine wcond hS (b := decide (x_103 < ((s1.length : Nat) : Int))) kr (fun hb => ?_) (fun hb => ?_)
    ·replace hm := hm.1 hb
     refine wskip ?_
     refine wseq ?_
     refine wblock ?_
     refine rP T hS ⟨[(0, Sl a1 s1 c1), (1, Sl a2 s2 c2), (5, I x_103), (12, I ((s1.length : Nat) : Int)), (13, I x_103)], []⟩ fun a hS => ?_
     refine drawnSX [] mixed hS ?_
     intro w104 χ105 hS hE hD hH
     replace hO := hO.mv hE rfl rfl
     replace h101 := h101.mv hE rfl
     replace h102 := h102.mv hE rfl
     clear hE
     refine tk T [0, 1, 4, 5] [] hS hH #[true, true, false, false, true, true, false, false, false] 5 ⟨[(0, Sl a1 s1 c1), (1, Sl a2 s2 c2), (12, I ((s1.length : Nat) : Int)), (13, I x_103), (16, Sl a1 s1 c1), (17, I x_103), (20, Sl a2 s2 c2), (21, I x_103)], []⟩ fun a hS => ?_
     obtain ⟨hq, hm⟩ := hm
     refine dindex (e := 3) (k := .i64) T 2 hS kr kr kr (by rfl) kr hH kr kr h101 kr kr hq.1 hq.2 ?_
     intro A106 a h107 hS
     clear hq
     have h107b := h107.here
     refine dload1 T 3 hS kr kr kr (by rfl) kr hH kr h107 h107b rfl kr ?_
     intro v108 a hv hS
     cases hv
     obtain ⟨hq, hm⟩ := hm
     refine dindex (e := 3) (k := .i64) T 6 hS kr kr kr (by rfl) kr hH kr kr h102 kr kr hq.1 hq.2 ?_
     intro A109 a h110 hS
     clear hq
     have h110b := h110.here
     refine dload1 T 7 hS kr kr kr (by rfl) kr hH kr h110 h110b rfl kr ?_
     intro v111 a hv hS
     cases hv
     refine tk T [8] [] hS hH #[true, true, true, true, true, true, true, true, true] 0 ⟨[(0, Sl a1 s1 c1), (1, Sl a2 s2 c2), (12, I ((s1.length : Nat) : Int)), (13, I x_103), (24, B ((gi s1 x_103) != (gi s2 x_103)))], []⟩ fun a hS => ?_
     refine drawnDone kr ?_
     clear hD hH
     replace hS := hS.sl ⟨[(0, Sl a1 s1 c1), (1, Sl a2 s2 c2), (12, I ((s1.length : Nat) : Int)), (13, I x_103), (24, B ((gi s1 x_103) != (gi s2 x_103)))], []⟩
     refine wcond hS (b := ((gi s1 x_103) != (gi s2 x_103))) kr (fun hb => ?_) (fun hb => ?_)
     ·replace hm := hm.1 hb
      refine rP T hS ⟨[(4, B false)], []⟩ fun a hS => ?_
      refine wret ?_
      exact fin T hS hO (fun c => c) rfl (r := [.bool false]) kr (fun χ' hM hC => ⟨false, hm, rfl⟩)
     ·replace hm := hm.2 hb
      refine wskip ?_
      refine region (eP T hS ⟨[(0, Sl a1 s1 c1), (1, Sl a2 s2 c2), (12, I ((s1.length : Nat) : Int)), (13, I (IntKind.i64.wrap (x_103 + 1)))], []⟩ fun a hS => ?_)
      exact ⟨IntKind.i64.wrap (x_103 + 1), ⟨ρ, _, hm.1, hS.sl _, hO, h101, h102⟩, hm.2⟩
    ·replace hm := hm.2 hb
     refine wexit (by rfl) ?_
     exact ⟨ρ, _, hm, hS.sl _, hO⟩
  ·rintro a w115 ⟨ρ, χ114, hm, hS, hO⟩
   unfold VC42_J1 at hm
   refine rP T hS ⟨[(4, B true)], []⟩ fun a hS => ?_
   refine wret ?_
   exact fin T hS hO (fun c => c) rfl (r := [.bool true]) kr (fun χ' hM hC => ⟨true, hm, rfl⟩)
theorem C42 (v : ∀ (s1 : List Int) (s2 : List Int), VC42 s1 s2 (fun r => r = slices_Equal_int_int s1 s2)) : S42 := by
 intro w χ s1 s2 a1 c1 a2 c2   h1 h2
 refine (W42 w χ s1 s2 a1 c1 a2 c2   _ (v s1 s2) h1 h2).mono ?_
 rintro _ _ _ _ ⟨r, rfl, h⟩
 exact h
/-- replevin/clause.seen -/
theorem W57 (k68 : S68) (w0 : World) (χ0 : Nat → Nat) (c_ : List Int) (a1 : Option Addr) (c1 : Nat) (col1 : Nat) (Q : (List (Int × Int)) → Prop) (hm : VC57 c_ Q) (h1 : RS tI w0 χ0 a1 c_ c1) :
  Ret Tryd.prog 57 #[.slice a1 c_.length c1] xnone w0 χ0 (fun w χ' v => ∃ r, Q r ∧ ∃ (rr1 : Nat), v = .map (some rr1) ∧ OM kI tI false w χ' col1 rr1 r) := by
 unfold VC57 at hm
 replace hm := hm (h1.sm kr)
 refine enter Tryd.func57 rfl (vals := [.slice a1 c_.length c1]) kr ?_
 intro ρ a hS hO hM
 replace h1 := h1.m0 hM
 clear hM
 refine rP T hS ⟨[(0, Sl a1 c_ c1)], []⟩ fun a hS => ?_
 refine regO ?_
 refine oP T hS 2 ⟨[(0, Sl a1 c_ c1), (7, I ((c_.length : Nat) : Int))], []⟩ fun a hS => ?_
 refine op1 (mkmapH (hk := .i64) (hn := ((c_.length : Nat) : Int)) kI tI false 1009 hS kr kr kr Tryd.underlying73 ?_)
 intro r101 a w102 χ103 hE h104 hS
 replace hO := hO.mv hE rfl rfl
 replace h1 := h1.mv hE rfl
 clear hE
 refine eP T hS ⟨[(0, Sl a1 c_ c1), (3, V (.map (some r101)))], []⟩ fun a hS => ?_
 refine wcut (fun a w => ∃ (ρ : Nat → Nat) (χ : Nat → Nat) (out_105 : List (Int × Int)), VC57_J1 Q out_105 ∧ St Tryd.f57.ntmps ⟨[(3, V (.map (some r101)))], []⟩ ρ a w χ ∧ Old w0 χ0 w χ ∧ OM kI tI false w χ 1009 r101 out_105) ?_ ?_
 ·refine rP T hS ⟨[(3, V (.map (some r101))), (9, Sl a1 c_ c1), (10, I ((c_.length : Nat) : Int)), (11, I 0)], []⟩ fun a hS => ?_
  refine wblock ?_
  obtain ⟨I1, μ1, hm0, hm⟩ := hm
  refine wloop (σ := (List (Int × Int)) × Int) (fun s a w => ∃ (ρ : Nat → Nat) (χ : Nat → Nat), I1 s.1 s.2 ∧ St Tryd.f57.ntmps ⟨[(3, V (.map (some r101))), (9, Sl a1 c_ c1), (10, I ((c_.length : Nat) : Int)), (11, I s.2)], []⟩ ρ a w χ ∧ Old w0 χ0 w χ ∧ OM kI tI false w χ 1009 r101 s.1 ∧ RS tI w χ a1 c_ c1) (fun s => μ1 s.1 s.2) (⟨([] : List (Int × Int)), 0⟩) ?_ ?_
  ·exact ⟨ρ, _, hm0, hS.sl _, hO, h104, h1⟩
  ·rintro ⟨out_107, x_110⟩ a w127 ⟨ρ, χ126, hI, hS, hO, h108, h109⟩
   replace hm := hm out_107 x_110 hI
   clear hI hm0
   refine rP T hS ⟨[(3, V (.map (some r101))), (9, Sl a1 c_ c1), (10, I ((c_.length : Nat) : Int)), (11, I x_110), (12, B (decide (x_110 < ((c_.length : Nat) : Int))))], []⟩ fun a hS => ?_
   refine wseq ?_
   refine wcond hS (b := decide (x_110 < ((c_.length : Nat) : Int))) kr (fun hb => ?_) (fun hb => ?_)
   ·replace hm := hm.1 hb
    refine wskip ?_
    refine wcut (fun a w => ∃ (ρ : Nat → Nat) (χ : Nat → Nat) (out_111 : List (Int × Int)), VC57_J2 I1 μ1 out_107 x_110 out_111 ∧ St Tryd.f57.ntmps ⟨[(3, V (.map (some r101))), (9, Sl a1 c_ c1), (10, I ((c_.length : Nat) : Int)), (11, I x_110)], []⟩ ρ a w χ ∧ Old w0 χ0 w χ ∧ OM kI tI false w χ 1009 r101 out_111 ∧ RS tI w χ a1 c_ c1) ?_ ?_
    ·refine wblock ?_
     refine regO ?_
     obtain ⟨hq, hm⟩ := hm
     refine op1 (index (e := 3) (k := .i64) T hS kr kr kr kr h109 kr kr hq.1 hq.2 ?_)
     intro A114 a h115 hS
     clear hq
     refine op1 (load1 T hS kr kr kr h115 rfl kr ?_)
     intro v116 a hv hS
     cases hv
     refine eP T hS ⟨[(3, V (.map (some r101))), (5, I (gi c_ x_110)), (9, Sl a1 c_ c1), (10, I ((c_.length : Nat) : Int)), (11, I x_110)], []⟩ fun a hS => ?_
     refine regO ?_
     refine oP T hS 1 ⟨[(3, V (.map (some r101))), (5, I (gi c_ x_110)), (9, Sl a1 c_ c1), (10, I ((c_.length : Nat) : Int)), (11, I x_110), (15, I (gi c_ x_110))], []⟩ fun a hS => ?_
     refine op1 (call hS kr kr hb68 kr (fun _ _ => rfl) (k68 _ _ (gi c_ x_110)) ?_)
     intro v117 a w118 χ119 hE hp hS
     replace hO := hO.mv hE rfl rfl
     replace h108 := h108.mv hE rfl rfl
     replace h109 := h109.mv hE rfl
     clear hE
     obtain ⟨r120, hr⟩ : ∃ r, lit_Var (gi c_ x_110) = r := ⟨_, rfl⟩
     replace hm := hm r120 hr
     rw [hr] at hp
     clear hr
     subst hp
     refine eP T hS ⟨[(3, V (.map (some r101))), (5, I (gi c_ x_110)), (9, Sl a1 c_ c1), (10, I ((c_.length : Nat) : Int)), (11, I x_110), (17, B (decide (r120 > 0)))], []⟩ fun a hS => ?_
     refine wcond hS (b := decide (r120 > 0)) kr (fun hb => ?_) (fun hb => ?_)
     ·replace hm := hm.1 hb
      refine region ?_
      refine oP T hS 2 ⟨[(3, V (.map (some r101))), (9, Sl a1 c_ c1), (10, I ((c_.length : Nat) : Int)), (11, I x_110), (18, V (.map (some r101))), (19, I (gi c_ x_110))], []⟩ fun a hS => ?_
      refine op1 (mlook kI tI false (zv := .int .i64 0) (z := 0) (gi c_ x_110) hS kr kr kr kr Tryd.underlying73 Tryd.underlying3 kr rfl h108 ?_)
      intro v121 a hv hS
      replace hv : tI.R _ _ [v121] _ := hv
      cases hv
      refine oP T hS 1 ⟨[(3, V (.map (some r101))), (9, Sl a1 c_ c1), (10, I ((c_.length : Nat) : Int)), (11, I x_110), (18, V (.map (some r101))), (19, I (gi c_ x_110)), (21, I (IntKind.i64.wrap (((mget out_107 (gi c_ x_110)).getD 0) + 1)))], []⟩ fun a hS => ?_
      refine op1 (mset kI tI false (v := I (IntKind.i64.wrap (((mget out_107 (gi c_ x_110)).getD 0) + 1))) (u := IntKind.i64.wrap (((mget out_107 (gi c_ x_110)).getD 0) + 1)) (gi c_ x_110) hS kr kr kr kr Tryd.underlying73 Tryd.underlying3 kr h108 rfl ?_)
      intro a w122 hE h123 hS
      clear h108
      replace hO := hO.mv hE rfl rfl
      replace h109 := h109.mv hE rfl
      clear hE
      refine doneK ?_
      exact ⟨ρ, _, mput out_107 (gi c_ x_110) (IntKind.i64.wrap (((mget out_107 (gi c_ x_110)).getD 0) + 1)), hm, hS.sl _, hO, h123, h109⟩
     ·replace hm := hm.2 hb
      refine wskip ?_
      exact ⟨ρ, _, out_107, hm, hS.sl _, hO, h108, h109⟩
    ·rintro a w125 ⟨ρ, χ124, out_111, hm, hS, hO, h112, h113⟩
     unfold VC57_J2 at hm
     refine region (eP T hS ⟨[(3, V (.map (some r101))), (9, Sl a1 c_ c1), (10, I ((c_.length : Nat) : Int)), (11, I (IntKind.i64.wrap (x_110 + 1)))], []⟩ fun a hS => ?_)
     exact ⟨⟨out_111, IntKind.i64.wrap (x_110 + 1)⟩, ⟨ρ, _, hm.1, hS.sl _, hO, h112, h113⟩, hm.2⟩
   ·replace hm := hm.2 hb
    refine wexit (by rfl) ?_
    exact ⟨ρ, _, out_107, hm, hS.sl _, hO, h108⟩
 ·rintro a w129 ⟨ρ, χ128, out_105, hm, hS, hO, h106⟩
  unfold VC57_J1 at hm
  refine rP T hS ⟨[(2, V (.map (some r101)))], []⟩ fun a hS => ?_
  refine wret ?_
  exact fin T hS hO (fun c => (bif Nat.beq c 1009 then col1 else c)) rfl (r := [.map (some r101)]) kr (fun χ' hM hC => ⟨out_105, hm, r101, rfl, (h106.out (f := (fun c => (bif Nat.beq c 1009 then col1 else c))) hM hC kr kr)⟩)
theorem C57 (k68 : S68) (v : ∀ (c_ : List Int), preSeen c_ → VC57 c_ (fun r => r = clause_seen c_)) : S57 := by
 intro w χ c_ a1 c1 col1  hp h1
 refine (W57 k68 w χ c_ a1 c1 col1  _ (v c_ hp) h1).mono ?_
 rintro _ _ _ _ ⟨r, rfl, h⟩
 exact h
/-- replevin/clause.Check -/
theorem W45 (k56 : S56) (k57 : S57) (w0 : World) (χ0 : Nat → Nat) (c_ : List Int) (vars : Int) (a1 : Option Addr) (c1 : Nat) (Q : Int → Prop) (hm : VC45 c_ vars Q) (h1 : RS tI w0 χ0 a1 c_ c1) :
  Ret Tryd.prog 45 #[.slice a1 c_.length c1, .int .i64 vars] xnone w0 χ0 (fun w χ' v => ∃ r, Q r ∧ v = .int .i64 r) := by
 unfold VC45 at hm
 replace hm := hm (h1.sm kr)
 refine enter Tryd.func45 rfl (vals := [.slice a1 c_.length c1, .int .i64 vars]) kr ?_
 intro ρ a hS hO hM
 replace h1 := h1.m0 hM
 clear hM
 refine rP T hS ⟨[(0, Sl a1 c_ c1), (1, I vars)], []⟩ fun a hS => ?_
 refine wseq ?_
 refine wblock ?_
 refine rP T hS ⟨[(0, Sl a1 c_ c1), (1, I vars), (8, B ((decide (vars < 0)) || (decide (vars > 100000))))], []⟩ (sp := [11]) fun a hS => ?_
 refine wcond hS (b := ((decide (vars < 0)) || (decide (vars > 100000)))) kr (fun hb => ?_) (fun hb => ?_)
 ·replace hm := hm.1 hb
  refine rP T hS ⟨[(4, I 2)], []⟩ fun a hS => ?_
  refine wret ?_
  exact fin T hS hO (fun c => c) rfl (r := [.int .i64 2]) kr (fun χ' hM hC => ⟨2, hm, rfl⟩)
 ·replace hm := hm.2 hb
  refine rP T hS ⟨[(0, Sl a1 c_ c1), (1, I vars), (15, B (decide (((c_.length : Nat) : Int) > 1000)))], []⟩ fun a hS => ?_
  refine wcond hS (b := decide (((c_.length : Nat) : Int) > 1000)) kr (fun hb => ?_) (fun hb => ?_)
  ·replace hm := hm.1 hb
   refine rP T hS ⟨[(4, I 3)], []⟩ fun a hS => ?_
   refine wret ?_
   exact fin T hS hO (fun c => c) rfl (r := [.int .i64 3]) kr (fun χ' hM hC => ⟨3, hm, rfl⟩)
  ·replace hm := hm.2 hb
   refine wskip ?_
   refine wcut (fun a w => ∃ (ρ : Nat → Nat) (χ : Nat → Nat), VC45_J1 c_ Q ∧ St Tryd.f45.ntmps ⟨[(0, Sl a1 c_ c1)], []⟩ ρ a w χ ∧ Old w0 χ0 w χ ∧ RS tI w χ a1 c_ c1) ?_ ?_
   ·refine rP T hS ⟨[(0, Sl a1 c_ c1), (1, I vars), (19, Sl a1 c_ c1), (20, I ((c_.length : Nat) : Int)), (21, I 0)], []⟩ fun a hS => ?_
    refine wblock ?_
    obtain ⟨I1, μ1, hm0, hm⟩ := hm
    refine wloop (σ := Int) (fun s a w => ∃ (ρ : Nat → Nat) (χ : Nat → Nat), I1 s ∧ St Tryd.f45.ntmps ⟨[(0, Sl a1 c_ c1), (1, I vars), (19, Sl a1 c_ c1), (20, I ((c_.length : Nat) : Int)), (21, I s)], []⟩ ρ a w χ ∧ Old w0 χ0 w χ ∧ RS tI w χ a1 c_ c1 ∧ RS tI w χ a1 c_ c1) (fun s => μ1 s) (0) ?_ ?_
    ·exact ⟨ρ, _, hm0, hS.sl _, hO, h1, h1⟩
    ·rintro x_110 a w119 ⟨ρ, χ118, hI, hS, hO, h108, h109⟩
     replace hm := hm x_110 hI
     clear hI hm0
     refine rP T hS ⟨[(0, Sl a1 c_ c1), (1, I vars), (19, Sl a1 c_ c1), (20, I ((c_.length : Nat) : Int)), (21, I x_110), (22, B (decide (x_110 < ((c_.length : Nat) : Int))))], []⟩ fun a hS => ?_
     refine wseq ?_
     refine wcond hS (b := decide (x_110 < ((c_.length : Nat) : Int))) kr (fun hb => ?_) (fun hb => ?_)
     ·replace hm := hm.1 hb
      refine wskip ?_
      refine wseq ?_
      refine wblock ?_
      refine regO ?_
      obtain ⟨hq, hm⟩ := hm
      refine op1 (index (e := 3) (k := .i64) T hS kr kr kr kr h109 kr kr hq.1 hq.2 ?_)
      intro A111 a h112 hS
      clear hq
      refine op1 (load1 T hS kr kr kr h112 rfl kr ?_)
      intro v113 a hv hS
      cases hv
      refine eP T hS ⟨[(0, Sl a1 c_ c1), (1, I vars), (6, I (gi c_ x_110)), (19, Sl a1 c_ c1), (20, I ((c_.length : Nat) : Int)), (21, I x_110)], []⟩ fun a hS => ?_
      refine regO ?_
      refine oP T hS 2 ⟨[(0, Sl a1 c_ c1), (1, I vars), (19, Sl a1 c_ c1), (20, I ((c_.length : Nat) : Int)), (21, I x_110), (25, I (gi c_ x_110)), (26, I vars)], []⟩ fun a hS => ?_
      refine op1 (call hS kr kr hb56 kr (fun _ _ => rfl) (k56 _ _ (gi c_ x_110) vars) ?_)
      intro v114 a w115 χ116 hE hp hS
      replace hO := hO.mv hE rfl rfl
      replace h108 := h108.mv hE rfl
      replace h109 := h109.mv hE rfl
      clear hE
      obtain ⟨r117, hr⟩ : ∃ r, lit_Check (gi c_ x_110) vars = r := ⟨_, rfl⟩
      replace hm := hm r117 hr
      rw [hr] at hp
      clear hr
      subst hp
      refine eP T hS ⟨[(0, Sl a1 c_ c1), (1, I vars), (7, I r117), (19, Sl a1 c_ c1), (20, I ((c_.length : Nat) : Int)), (21, I x_110)], []⟩ fun a hS => ?_
      refine rP T hS ⟨[(0, Sl a1 c_ c1), (1, I vars), (7, I r117), (19, Sl a1 c_ c1), (20, I ((c_.length : Nat) : Int)), (21, I x_110), (29, B (r117 != 0))], []⟩ fun a hS => ?_
      refine wcond hS (b := (r117 != 0)) kr (fun hb => ?_) (fun hb => ?_)
      ·replace hm := hm.1 hb
       refine rP T hS ⟨[(4, I r117)], []⟩ fun a hS => ?_
       refine wret ?_
       exact fin T hS hO (fun c => c) rfl (r := [.int .i64 r117]) kr (fun χ' hM hC => ⟨r117, hm, rfl⟩)
      ·replace hm := hm.2 hb
       refine wskip ?_
       refine region (eP T hS ⟨[(0, Sl a1 c_ c1), (1, I vars), (19, Sl a1 c_ c1), (20, I ((c_.length : Nat) : Int)), (21, I (IntKind.i64.wrap (x_110 + 1)))], []⟩ fun a hS => ?_)
       exact ⟨IntKind.i64.wrap (x_110 + 1), ⟨ρ, _, hm.1, hS.sl _, hO, h108, h109⟩, hm.2⟩
     ·replace hm := hm.2 hb
      refine wexit (by rfl) ?_
      exact ⟨ρ, _, hm, hS.sl _, hO, h108⟩
   ·rintro a w121 ⟨ρ, χ120, hm, hS, hO, h101⟩
    unfold VC45_J1 at hm
    refine wseq ?_
    refine regO ?_
    refine oP T hS 1 ⟨[(0, Sl a1 c_ c1), (32, Sl a1 c_ c1)], []⟩ fun a hS => ?_
    obtain ⟨hq, hm⟩ := hm
    refine op1 (call hS kr kr hb57 kr (fun _ _ => rfl) (k57 _ _ c_ a1 c1 2107 hq h101) ?_)
    intro v102 a w103 χ104 hE hp hS
    clear hq
    replace hO := hO.mv hE rfl rfl
    replace h101 := h101.mv hE rfl
    clear hE
    obtain ⟨r107, hp, h106⟩ := hp
    obtain ⟨r105, hr⟩ : ∃ r, clause_seen c_ = r := ⟨_, rfl⟩
    replace hm := hm r105 hr
    rw [hr] at h106
    clear hr
    subst hp
    refine op1 (mlen hS kr kr kr Tryd.underlying73 h106 ?_)
    intro a hS
    refine eP T hS ⟨[(37, B (decide (((r105.length : Nat) : Int) < ((c_.length : Nat) : Int))))], []⟩ fun a hS => ?_
    refine wcond hS (b := decide (((r105.length : Nat) : Int) < ((c_.length : Nat) : Int))) kr (fun hb => ?_) (fun hb => ?_)
    ·replace hm := hm.1 hb
     refine rP T hS ⟨[(4, I 21)], []⟩ fun a hS => ?_
     refine wret ?_
     exact fin T hS hO (fun c => c) rfl (r := [.int .i64 21]) kr (fun χ' hM hC => ⟨21, hm, rfl⟩)
    ·replace hm := hm.2 hb
     refine wskip ?_
     refine rP T hS ⟨[(4, I 0)], []⟩ fun a hS => ?_
     refine wret ?_
     exact fin T hS hO (fun c => c) rfl (r := [.int .i64 0]) kr (fun χ' hM hC => ⟨0, hm, rfl⟩)
theorem C45 (k56 : S56) (k57 : S57) (v : ∀ (c_ : List Int) (vars : Int), VC45 c_ vars (fun r => r = clause_Check c_ vars)) : S45 := by
 intro w χ c_ vars a1 c1   h1
 refine (W45 k56 k57 w χ c_ vars a1 c1   _ (v c_ vars) h1).mono ?_
 rintro _ _ _ _ ⟨r, rfl, h⟩
 exact h
/-- replevin/proof.within$1 -/
theorem W58 (w0 : World) (χ0 : Nat → Nat) (n_ : Int) (cap1 : Int) (b1 : Nat) (i1 : Nat) (Q : Bool → Prop) (hm : VC58 n_ cap1 Q) (hc1 : Cell w0 χ0 b1 i1 3 [.int .i64 cap1]) (hA : Apart [i1]) :
  Ret Tryd.prog 58 #[.int .i64 n_, .pointer (some ⟨b1, 0, none⟩)] (pR [i1]) w0 χ0 (fun w χ' v => ∃ r, Q r ∧ v = .bool r ∧ Cell w χ' b1 i1 3 [.int .i64 cap1]) := by
 unfold VC58 at hm
 refine enterR Tryd.func58 rfl (f0of [(i1, 901)]) (fun id => (bif Nat.beq id 901 then b1 else 0)) (args := [I n_, Pt 901 0]) (bxs := [(901, (3, [I cap1]))]) kr rfl (BoxesOK.cons kr (hc1.map (f0of_at 0 hA.1 rfl)) BoxesOK.nil) (f0of_0 (fun q hq => (hA.2 q.1 (List.mem_map.2 ⟨q, hq, rfl⟩)).1)) ?_
 intro a hS hO hM
 have hP : Pin [(901, b1)] (fun id => (bif Nat.beq id 901 then b1 else 0)) := by intro q hq; simp at hq; rcases hq with rfl <;> rfl
 generalize (fun id => (bif Nat.beq id 901 then b1 else 0)) = ρ at hS hP
 clear hc1
 clear hM
 refine rP T hS ⟨[(0, I n_), (1, Pt 901 0)], [(901, (3, [I cap1]))]⟩ fun a hS => ?_
 refine rP T hS ⟨[(3, B (((decide (n_ < cap1)) || (decide (n_ > 10000000))) || (n_ == 0)))], [(901, (3, [I cap1]))]⟩ (sp := [7, 11]) fun a hS => ?_
 refine wret ?_
 exact finR T hS hO (fun c h => f0of_zero kr h) (fun c h => f0of_else (l := [(i1, 901)]) h) (f1of [(i1, 901)]) rfl (r := [.bool (((decide (n_ < cap1)) || (decide (n_ > 10000000))) || (n_ == 0))]) kr (fun χ' hM hC => ⟨(((decide (n_ < cap1)) || (decide (n_ > 10000000))) || (n_ == 0)), hm, rfl, ((hS.cell (id := 901) (t := 3) (cs := [I cap1]) kr).out (f := (f1of [(i1, 901)])) hC kr kr (hP.at 0 rfl))⟩)
theorem C58 (v : ∀ (n_ : Int) (cap1 : Int), VC58 n_ cap1 (fun r => r = proof_within_1 n_ cap1)) : S58 := by
 intro w χ n_ cap1   b1 i1 hc1 hA
 refine (W58 w χ n_ cap1   b1 i1 _ (v n_ cap1) hc1 hA).mono ?_
 rintro _ _ _ _ ⟨r, rfl, h⟩
 exact h
/-- slices.IndexFunc[[]int,int] -/
theorem W69_58 (k58 : S58) (w0 : World) (χ0 : Nat → Nat) (s_ : List Int) (cap1 : Int) (a1 : Option Addr) (c1 : Nat) (b1 : Nat) (i1 : Nat) (Q : Int → Prop) (hm : VC69_58 s_ cap1 Q) (h1 : RS tI w0 χ0 a1 s_ c1) (hc1 : Cell w0 χ0 b1 i1 3 [.int .i64 cap1]) (hA : Apart [i1]) :
  Ret Tryd.prog 69 #[.slice a1 s_.length c1, .func (.func 58) #[] #[.pointer (some ⟨b1, 0, none⟩)]] (pR [i1]) w0 χ0 (fun w χ' v => ∃ r, Q r ∧ v = .int .i64 r ∧ Cell w χ' b1 i1 3 [.int .i64 cap1]) := by
 unfold VC69_58 at hm
 replace hm := hm (h1.sm kr)
 refine enterR Tryd.func69 rfl (f0of [(i1, 901)]) (fun id => (bif Nat.beq id 901 then b1 else 0)) (args := [Sl a1 s_ c1, .f (.func 58) [] [.p 901 0]]) (bxs := [(901, (3, [I cap1]))]) kr rfl (BoxesOK.cons kr (hc1.map (f0of_at 0 hA.1 rfl)) BoxesOK.nil) (f0of_0 (fun q hq => (hA.2 q.1 (List.mem_map.2 ⟨q, hq, rfl⟩)).1)) ?_
 intro a hS hO hM
 have hP : Pin [(901, b1)] (fun id => (bif Nat.beq id 901 then b1 else 0)) := by intro q hq; simp at hq; rcases hq with rfl <;> rfl
 generalize (fun id => (bif Nat.beq id 901 then b1 else 0)) = ρ at hS hP
 clear hc1
 replace h1 := h1.m0 hM
 clear hM
 refine rP T hS ⟨[(0, Sl a1 s_ c1), (1, .f (.func 58) [] [.p 901 0])], [(901, (3, [I cap1]))]⟩ fun a hS => ?_
 refine wcut (fun a w => ∃ (ρ : Nat → Nat) (χ : Nat → Nat), VC69_58_J1 Q ∧ St Tryd.f69.ntmps ⟨[], [(901, (3, [I cap1]))]⟩ ρ a w χ ∧ OldR (f0of [(i1, 901)]) w0 χ0 w χ ∧ Pin [(901, b1)] ρ) ?_ ?_
 ·refine rP T hS ⟨[(0, Sl a1 s_ c1), (1, .f (.func 58) [] [.p 901 0]), (7, I ((s_.length : Nat) : Int)), (8, I 0)], [(901, (3, [I cap1]))]⟩ fun a hS => ?_
  refine wblock ?_
  obtain ⟨I1, μ1, hm0, hm⟩ := hm
  refine wloop (σ := Int) (fun s a w => ∃ (ρ : Nat → Nat) (χ : Nat → Nat), I1 s ∧ St Tryd.f69.ntmps ⟨[(0, Sl a1 s_ c1), (1, .f (.func 58) [] [.p 901 0]), (7, I ((s_.length : Nat) : Int)), (8, I s)], [(901, (3, [I cap1]))]⟩ ρ a w χ ∧ OldR (f0of [(i1, 901)]) w0 χ0 w χ ∧ Pin [(901, b1)] ρ ∧ RS tI w χ a1 s_ c1) (fun s => μ1 s) (0) ?_ ?_
  ·exact ⟨ρ, _, hm0, hS.sl _, hO, hP, h1⟩
  ·rintro x_102 a w112 ⟨ρ, χ111, hI, hS, hO, hP, h101⟩
   replace hm := hm x_102 hI
   clear hI hm0
   refine rP T hS ⟨[(0, Sl a1 s_ c1), (1, .f (.func 58) [] [.p 901 0]), (7, I ((s_.length : Nat) : Int)), (8, I x_102), (9, B (decide (x_102 < ((s_.length : Nat) : Int))))], [(901, (3, [I cap1]))]⟩ fun a hS => ?_
   refine wseq ?_
   refine wcond hS (b := decide (x_102 < ((s_.length : Nat) : Int))) kr (fun hb => ?_) (fun hb => ?_)
   ·replace hm := hm.1 hb
    refine wskip ?_
    refine wseq ?_
    refine wblock ?_
    refine rP T hS ⟨[(0, Sl a1 s_ c1), (1, .f (.func 58) [] [.p 901 0]), (5, I x_102), (7, I ((s_.length : Nat) : Int)), (8, I x_102)], [(901, (3, [I cap1]))]⟩ fun a hS => ?_
    refine regO ?_
    refine oP T hS 3 ⟨[(0, Sl a1 s_ c1), (1, .f (.func 58) [] [.p 901 0]), (5, I x_102), (7, I ((s_.length : Nat) : Int)), (8, I x_102), (11, .f (.func 58) [] [.p 901 0]), (12, Sl a1 s_ c1), (13, I x_102)], [(901, (3, [I cap1]))]⟩ fun a hS => ?_
    obtain ⟨hq, hm⟩ := hm
    refine op1 (index (e := 3) (k := .i64) T hS kr kr kr kr h101 kr kr hq.1 hq.2 ?_)
    intro A103 a h104 hS
    clear hq
    refine op1 (load1 T hS kr kr kr h104 rfl kr ?_)
    intro v105 a hv hS
    cases hv
    refine op1 (callCR (fi := []) (cp := [.p 901 0]) hS kr kr hb58 kr kr (k58 _ _ (gi s_ x_102) cap1 (ρ 901) 901 (hS.cell (id := 901) (t := 3) (cs := [I cap1]) kr) ⟨by decide, by decide⟩) ?_)
    intro v106 a w107 χ108 hE hp hS
    replace hO := hO.mv hE rfl rfl
    replace h101 := h101.mv hE rfl
    replace h104 := h104.mv hE rfl
    clear hE
    obtain ⟨hp, hc110⟩ := hp
    obtain ⟨r109, hr⟩ : ∃ r, proof_within_1 (gi s_ x_102) cap1 = r := ⟨_, rfl⟩
    replace hm := hm r109 hr
    rw [hr] at hp
    clear hr
    subst hp
    replace hS := hS.addbox (id := 901) (t := 3) (cs := [I cap1]) kr hc110
    clear hc110
    refine doneK ?_
    refine wcond hS (b := r109) kr (fun hb => ?_) (fun hb => ?_)
    ·replace hm := hm.1 hb
     refine rP T hS ⟨[(4, I x_102)], [(901, (3, [I cap1]))]⟩ fun a hS => ?_
     refine wret ?_
     exact finR T hS hO (fun c h => f0of_zero kr h) (fun c h => f0of_else (l := [(i1, 901)]) h) (f1of [(i1, 901)]) rfl (r := [.int .i64 x_102]) kr (fun χ' hM hC => ⟨x_102, hm, rfl, ((hS.cell (id := 901) (t := 3) (cs := [I cap1]) kr).out (f := (f1of [(i1, 901)])) hC kr kr (hP.at 0 rfl))⟩)
    ·replace hm := hm.2 hb
     refine wskip ?_
     refine region (eP T hS ⟨[(0, Sl a1 s_ c1), (1, .f (.func 58) [] [.p 901 0]), (7, I ((s_.length : Nat) : Int)), (8, I (IntKind.i64.wrap (x_102 + 1)))], [(901, (3, [I cap1]))]⟩ fun a hS => ?_)
     exact ⟨IntKind.i64.wrap (x_102 + 1), ⟨ρ, _, hm.1, hS.sl _, hO, hP, h101⟩, hm.2⟩
   ·replace hm := hm.2 hb
    refine wexit (by rfl) ?_
    exact ⟨ρ, _, hm, hS.sl _, hO, hP⟩
 ·rintro a w114 ⟨ρ, χ113, hm, hS, hO, hP⟩
  unfold VC69_58_J1 at hm
  refine rP T hS ⟨[(4, I (-1))], [(901, (3, [I cap1]))]⟩ fun a hS => ?_
  refine wret ?_
  exact finR T hS hO (fun c h => f0of_zero kr h) (fun c h => f0of_else (l := [(i1, 901)]) h) (f1of [(i1, 901)]) rfl (r := [.int .i64 (-1)]) kr (fun χ' hM hC => ⟨(-1), hm, rfl, ((hS.cell (id := 901) (t := 3) (cs := [I cap1]) kr).out (f := (f1of [(i1, 901)])) hC kr kr (hP.at 0 rfl))⟩)
theorem C69_58 (k58 : S58) (v : ∀ (s_ : List Int) (cap1 : Int), VC69_58 s_ cap1 (fun r => r = slices_IndexFunc_int_int_proof_within_1 s_ cap1)) : S69_58 := by
 intro w χ s_ cap1 a1 c1  b1 i1 h1 hc1 hA
 refine (W69_58 k58 w χ s_ cap1 a1 c1  b1 i1 _ (v s_ cap1) h1 hc1 hA).mono ?_
 rintro _ _ _ _ ⟨r, rfl, h⟩
 exact h
/-- slices.ContainsFunc[[]int,int] -/
theorem W59_58 (k69_58 : S69_58) (w0 : World) (χ0 : Nat → Nat) (s_ : List Int) (cap1 : Int) (a1 : Option Addr) (c1 : Nat) (b1 : Nat) (i1 : Nat) (Q : Bool → Prop) (hm : VC59_58 s_ cap1 Q) (h1 : RS tI w0 χ0 a1 s_ c1) (hc1 : Cell w0 χ0 b1 i1 3 [.int .i64 cap1]) (hA : Apart [i1]) :
  Ret Tryd.prog 59 #[.slice a1 s_.length c1, .func (.func 58) #[] #[.pointer (some ⟨b1, 0, none⟩)]] (pR [i1]) w0 χ0 (fun w χ' v => ∃ r, Q r ∧ v = .bool r ∧ Cell w χ' b1 i1 3 [.int .i64 cap1]) := by
 unfold VC59_58 at hm
 replace hm := hm (h1.sm kr)
 refine enterR Tryd.func59 rfl (f0of [(i1, 901)]) (fun id => (bif Nat.beq id 901 then b1 else 0)) (args := [Sl a1 s_ c1, .f (.func 58) [] [.p 901 0]]) (bxs := [(901, (3, [I cap1]))]) kr rfl (BoxesOK.cons kr (hc1.map (f0of_at 0 hA.1 rfl)) BoxesOK.nil) (f0of_0 (fun q hq => (hA.2 q.1 (List.mem_map.2 ⟨q, hq, rfl⟩)).1)) ?_
 intro a hS hO hM
 have hP : Pin [(901, b1)] (fun id => (bif Nat.beq id 901 then b1 else 0)) := by intro q hq; simp at hq; rcases hq with rfl <;> rfl
 generalize (fun id => (bif Nat.beq id 901 then b1 else 0)) = ρ at hS hP
 clear hc1
 replace h1 := h1.m0 hM
 clear hM
 refine rP T hS ⟨[(0, Sl a1 s_ c1), (1, .f (.func 58) [] [.p 901 0])], [(901, (3, [I cap1]))]⟩ fun a hS => ?_
 refine regO ?_
 refine oP T hS 2 ⟨[(5, Sl a1 s_ c1), (6, .f (.func 58) [] [.p 901 0])], [(901, (3, [I cap1]))]⟩ fun a hS => ?_
 refine op1 (callR hS kr kr hb69 kr (k69_58 _ _ s_ cap1 a1 c1 (ρ 901) 901 h1 (hS.cell (id := 901) (t := 3) (cs := [I cap1]) kr) ⟨by decide, by decide⟩) ?_)
 intro v101 a w102 χ103 hE hp hS
 replace hO := hO.mv hE rfl rfl
 replace h1 := h1.mv hE rfl
 clear hE
 obtain ⟨hp, hc105⟩ := hp
 obtain ⟨r104, hr⟩ : ∃ r, slices_IndexFunc_int_int_proof_within_1 s_ cap1 = r := ⟨_, rfl⟩
 replace hm := hm r104 hr
 rw [hr] at hp
 clear hr
 subst hp
 replace hS := hS.addbox (id := 901) (t := 3) (cs := [I cap1]) kr hc105
 clear hc105
 refine eP T hS ⟨[(4, B (decide (r104 ≥ 0)))], [(901, (3, [I cap1]))]⟩ fun a hS => ?_
 refine wret ?_
 exact finR T hS hO (fun c h => f0of_zero kr h) (fun c h => f0of_else (l := [(i1, 901)]) h) (f1of [(i1, 901)]) rfl (r := [.bool (decide (r104 ≥ 0))]) kr (fun χ' hM hC => ⟨(decide (r104 ≥ 0)), hm, rfl, ((hS.cell (id := 901) (t := 3) (cs := [I cap1]) kr).out (f := (f1of [(i1, 901)])) hC kr kr (hP.at 0 rfl))⟩)
theorem C59_58 (k69_58 : S69_58) (v : ∀ (s_ : List Int) (cap1 : Int), VC59_58 s_ cap1 (fun r => r = slices_ContainsFunc_int_int_proof_within_1 s_ cap1)) : S59_58 := by
 intro w χ s_ cap1 a1 c1  b1 i1 h1 hc1 hA
 refine (W59_58 k69_58 w χ s_ cap1 a1 c1  b1 i1 _ (v s_ cap1) h1 hc1 hA).mono ?_
 rintro _ _ _ _ ⟨r, rfl, h⟩
 exact h
/-- replevin/proof.within -/
theorem W46 (k59_58 : S59_58) (w0 : World) (χ0 : Nat → Nat) (l_ : List Int) (lo : Int) (a1 : Option Addr) (c1 : Nat) (Q : Bool → Prop) (hm : VC46 l_ lo Q) (h1 : RS tI w0 χ0 a1 l_ c1) :
  Ret Tryd.prog 46 #[.slice a1 l_.length c1, .int .i64 lo] xnone w0 χ0 (fun w χ' v => ∃ r, Q r ∧ v = .bool r) := by
 unfold VC46 at hm
 replace hm := hm (h1.sm kr)
 refine enter Tryd.func46 rfl (vals := [.slice a1 l_.length c1, .int .i64 lo]) kr ?_
 intro ρ a hS hO hM
 replace h1 := h1.m0 hM
 clear hM
 refine rM T hS ⟨[(0, Sl a1 l_ c1), (3, Pt 4 0)], [(4, (3, [I lo]))]⟩ fun ρ a w106 χ107 hS hE hr => ?_
 replace hO := hO.mv hE rfl rfl
 replace h1 := h1.mv hE rfl
 clear hE hr
 refine rP T hS ⟨[(0, Sl a1 l_ c1), (5, .f (.func 58) [] [.p 4 0])], [(4, (3, [I lo]))]⟩ fun a hS => ?_
 refine regO ?_
 refine oP T hS 4 ⟨[(0, Sl a1 l_ c1), (5, .f (.func 58) [] [.p 4 0]), (10, B (decide (((l_.length : Nat) : Int) ≤ 1000)))], [(4, (3, [I lo]))]⟩ fun a hS => ?_
 rcases Bool.eq_false_or_eq_true (decide (((l_.length : Nat) : Int) ≤ 1000)) with hb | hb
 ·replace hS := hS.lit (t := 10) kr hb
  replace hm := hm.1 hb
  refine oP T hS 2 ⟨[(10, B true), (11, Sl a1 l_ c1), (12, .f (.func 58) [] [.p 4 0])], [(4, (3, [I lo]))]⟩ fun a hS => ?_
  refine op1 (callR hS kr kr hb59 kr (k59_58 _ _ l_ lo a1 c1 (ρ 4) 4 h1 (hS.cell (id := 4) (t := 3) (cs := [I lo]) kr) ⟨by decide, by decide⟩) ?_)
  intro v101 a w102 χ103 hE hp hS
  replace hO := hO.mv hE rfl rfl
  replace h1 := h1.mv hE rfl
  clear hE
  obtain ⟨hp, hc105⟩ := hp
  obtain ⟨r104, hr⟩ : ∃ r, slices_ContainsFunc_int_int_proof_within_1 l_ lo = r := ⟨_, rfl⟩
  replace hm := hm r104 hr
  rw [hr] at hp
  clear hr
  subst hp
  replace hS := hS.addbox (id := 4) (t := 3) (cs := [I lo]) kr hc105
  clear hc105
  refine eP T hS ⟨[(4, B (!r104))], []⟩ fun a hS => ?_
  refine wret ?_
  exact fin T hS hO (fun c => c) rfl (r := [.bool (!r104)]) kr (fun χ' hM hC => ⟨(!r104), hm, rfl⟩)
 ·replace hS := hS.lit (t := 10) kr hb
  replace hm := hm.2 hb
  refine eP T hS ⟨[(4, B false)], []⟩ fun a hS => ?_
  refine wret ?_
  exact fin T hS hO (fun c => c) rfl (r := [.bool false]) kr (fun χ' hM hC => ⟨false, hm, rfl⟩)
theorem C46 (k59_58 : S59_58) (v : ∀ (l_ : List Int) (lo : Int), VC46 l_ lo (fun r => r = proof_within l_ lo)) : S46 := by
 intro w χ l_ lo a1 c1   h1
 refine (W46 k59_58 w χ l_ lo a1 c1   _ (v l_ lo) h1).mono ?_
 rintro _ _ _ _ ⟨r, rfl, h⟩
 exact h
/-- replevin/proof.may -/
theorem W31 (k45 : S45) (k46 : S46) (w0 : World) (χ0 : Nat → Nat) (s_ : Api_Step) (a1 : Option Addr) (c1 : Nat) (a2 : Option Addr) (c2 : Nat) (Q : Bool → Prop) (hm : VC31 s_ Q) (h1 : RS tI w0 χ0 a1 s_.Lits c1) (h2 : RS tI w0 χ0 a2 s_.Hints c2) :
  Ret Tryd.prog 31 #[.agg #[.int .i64 s_.Kind, .int .i64 s_.Id, .slice a1 s_.Lits.length c1, .slice a2 s_.Hints.length c2]] xnone w0 χ0 (fun w χ' v => ∃ r, Q r ∧ v = .bool r) := by
 unfold VC31 at hm
 replace hm := hm (h1.sm kr)
 replace hm := hm (h2.sm kr)
 refine enter Tryd.func31 rfl (vals := [.agg #[.int .i64 s_.Kind, .int .i64 s_.Id, .slice a1 s_.Lits.length c1, .slice a2 s_.Hints.length c2]]) kr ?_
 intro ρ a hS hO hM
 replace h1 := h1.m0 hM
 replace h2 := h2.m0 hM
 clear hM
 refine rM T hS ⟨[(1, Pt 2 0)], [(2, (65, [I s_.Kind, I s_.Id, Sl a1 s_.Lits c1, Sl a2 s_.Hints c2]))]⟩ fun ρ a w113 χ114 hS hE hr => ?_
 replace hO := hO.mv hE rfl rfl
 replace h1 := h1.mv hE rfl
 replace h2 := h2.mv hE rfl
 clear hE hr
 refine wseq ?_
 refine rP T hS ⟨[(1, Pt 2 0), (4, I s_.Kind)], [(2, (65, [I s_.Kind, I s_.Id, Sl a1 s_.Lits c1, Sl a2 s_.Hints c2]))]⟩ fun a hS => ?_
 refine wblock ?_
 refine rP T hS ⟨[(1, Pt 2 0), (4, I s_.Kind), (5, B (s_.Kind == 1))], [(2, (65, [I s_.Kind, I s_.Id, Sl a1 s_.Lits c1, Sl a2 s_.Hints c2]))]⟩ fun a hS => ?_
 refine wcond hS (b := (s_.Kind == 1)) kr (fun hb => ?_) (fun hb => ?_)
 ·replace hm := hm.1 hb
  refine regO ?_
  refine oP T hS 9 ⟨[(1, Pt 2 0), (15, B ((decide (s_.Id ≥ 1)) && (decide (s_.Id ≤ 10000000))))], [(2, (65, [I s_.Kind, I s_.Id, Sl a1 s_.Lits c1, Sl a2 s_.Hints c2]))]⟩ (sp := [10]) fun a hS => ?_
  rcases Bool.eq_false_or_eq_true ((decide (s_.Id ≥ 1)) && (decide (s_.Id ≤ 10000000))) with hb | hb
  ·replace hS := hS.lit (t := 15) kr hb
   replace hm := hm.1 hb
   refine oP T hS 2 ⟨[(1, Pt 2 0), (15, B true), (17, Sl a1 s_.Lits c1)], [(2, (65, [I s_.Kind, I s_.Id, Sl a1 s_.Lits c1, Sl a2 s_.Hints c2]))]⟩ fun a hS => ?_
   refine op1 (call hS kr kr hb45 kr (fun _ _ => rfl) (k45 _ _ s_.Lits 100000 a1 c1 h1) ?_)
   intro v101 a w102 χ103 hE hp hS
   replace hO := hO.mv hE rfl rfl
   replace h1 := h1.mv hE rfl
   replace h2 := h2.mv hE rfl
   clear hE
   obtain ⟨r104, hr⟩ : ∃ r, clause_Check s_.Lits 100000 = r := ⟨_, rfl⟩
   replace hm := hm r104 hr
   rw [hr] at hp
   clear hr
   subst hp
   refine oP T hS 3 ⟨[(1, Pt 2 0), (21, B (r104 == 0))], [(2, (65, [I s_.Kind, I s_.Id, Sl a1 s_.Lits c1, Sl a2 s_.Hints c2]))]⟩ fun a hS => ?_
   rcases Bool.eq_false_or_eq_true (r104 == 0) with hb | hb
   ·replace hS := hS.lit (t := 21) kr hb
    replace hm := hm.1 hb
    refine oP T hS 2 ⟨[(21, B true), (23, Sl a2 s_.Hints c2)], []⟩ fun a hS => ?_
    refine op1 (call hS kr kr hb46 kr (fun _ _ => rfl) (k46 _ _ s_.Hints (-10000000) a2 c2 h2) ?_)
    intro v105 a w106 χ107 hE hp hS
    replace hO := hO.mv hE rfl rfl
    replace h2 := h2.mv hE rfl
    clear hE
    obtain ⟨r108, hr⟩ : ∃ r, proof_within s_.Hints (-10000000) = r := ⟨_, rfl⟩
    replace hm := hm r108 hr
    rw [hr] at hp
    clear hr
    subst hp
    refine eP T hS ⟨[(2, B r108)], []⟩ fun a hS => ?_
    refine wret ?_
    exact fin T hS hO (fun c => c) rfl (r := [.bool r108]) kr (fun χ' hM hC => ⟨r108, hm, rfl⟩)
   ·replace hS := hS.lit (t := 21) kr hb
    replace hm := hm.2 hb
    refine eP T hS ⟨[(2, B false)], []⟩ fun a hS => ?_
    refine wret ?_
    exact fin T hS hO (fun c => c) rfl (r := [.bool false]) kr (fun χ' hM hC => ⟨false, hm, rfl⟩)
  ·replace hS := hS.lit (t := 15) kr hb
   replace hm := hm.2 hb
   refine eP T hS ⟨[(2, B false)], []⟩ fun a hS => ?_
   refine wret ?_
   exact fin T hS hO (fun c => c) rfl (r := [.bool false]) kr (fun χ' hM hC => ⟨false, hm, rfl⟩)
 ·replace hm := hm.2 hb
  refine rP T hS ⟨[(1, Pt 2 0), (26, B (s_.Kind == 2))], [(2, (65, [I s_.Kind, I s_.Id, Sl a1 s_.Lits c1, Sl a2 s_.Hints c2]))]⟩ fun a hS => ?_
  refine wcond hS (b := (s_.Kind == 2)) kr (fun hb => ?_) (fun hb => ?_)
  ·replace hm := hm.1 hb
   refine regO ?_
   refine oP T hS 15 ⟨[(1, Pt 2 0), (42, B (((decide (s_.Id ≥ 0)) && (decide (s_.Id ≤ 10000000))) && (((s_.Lits.length : Nat) : Int) == 0)))], [(2, (65, [I s_.Kind, I s_.Id, Sl a1 s_.Lits c1, Sl a2 s_.Hints c2]))]⟩ (sp := [31, 36]) fun a hS => ?_
   rcases Bool.eq_false_or_eq_true (((decide (s_.Id ≥ 0)) && (decide (s_.Id ≤ 10000000))) && (((s_.Lits.length : Nat) : Int) == 0)) with hb | hb
   ·replace hS := hS.lit (t := 42) kr hb
    replace hm := hm.1 hb
    refine oP T hS 2 ⟨[(42, B true), (44, Sl a2 s_.Hints c2)], []⟩ fun a hS => ?_
    refine op1 (call hS kr kr hb46 kr (fun _ _ => rfl) (k46 _ _ s_.Hints 1 a2 c2 h2) ?_)
    intro v109 a w110 χ111 hE hp hS
    replace hO := hO.mv hE rfl rfl
    replace h2 := h2.mv hE rfl
    clear hE
    obtain ⟨r112, hr⟩ : ∃ r, proof_within s_.Hints 1 = r := ⟨_, rfl⟩
    replace hm := hm r112 hr
    rw [hr] at hp
    clear hr
    subst hp
    refine eP T hS ⟨[(2, B r112)], []⟩ fun a hS => ?_
    refine wret ?_
    exact fin T hS hO (fun c => c) rfl (r := [.bool r112]) kr (fun χ' hM hC => ⟨r112, hm, rfl⟩)
   ·replace hS := hS.lit (t := 42) kr hb
    replace hm := hm.2 hb
    refine eP T hS ⟨[(2, B false)], []⟩ fun a hS => ?_
    refine wret ?_
    exact fin T hS hO (fun c => c) rfl (r := [.bool false]) kr (fun χ' hM hC => ⟨false, hm, rfl⟩)
  ·replace hm := hm.2 hb
   refine wskip ?_
   refine rP T hS ⟨[(2, B false)], []⟩ fun a hS => ?_
   refine wret ?_
   exact fin T hS hO (fun c => c) rfl (r := [.bool false]) kr (fun χ' hM hC => ⟨false, hm, rfl⟩)
theorem C31 (k45 : S45) (k46 : S46) (v : ∀ (s_ : Api_Step), VC31 s_ (fun r => r = proof_may s_)) : S31 := by
 intro w χ s_ a1 c1 a2 c2   h1 h2
 refine (W31 k45 k46 w χ s_ a1 c1 a2 c2   _ (v s_) h1 h2).mono ?_
 rintro _ _ _ _ ⟨r, rfl, h⟩
 exact h
/-- replevin/proof.Check$1 -/
theorem W30 (k31 : S31) (w0 : World) (χ0 : Nat → Nat) (s_ : Api_Step) (a1 : Option Addr) (c1 : Nat) (a2 : Option Addr) (c2 : Nat) (Q : Bool → Prop) (hm : VC30 s_ Q) (h1 : RS tI w0 χ0 a1 s_.Lits c1) (h2 : RS tI w0 χ0 a2 s_.Hints c2) :
  Ret Tryd.prog 30 #[.agg #[.int .i64 s_.Kind, .int .i64 s_.Id, .slice a1 s_.Lits.length c1, .slice a2 s_.Hints.length c2]] xnone w0 χ0 (fun w χ' v => ∃ r, Q r ∧ v = .bool r) := by
 unfold VC30 at hm
 replace hm := hm (h1.sm kr)
 replace hm := hm (h2.sm kr)
 refine enter Tryd.func30 rfl (vals := [.agg #[.int .i64 s_.Kind, .int .i64 s_.Id, .slice a1 s_.Lits.length c1, .slice a2 s_.Hints.length c2]]) kr ?_
 intro ρ a hS hO hM
 replace h1 := h1.m0 hM
 replace h2 := h2.m0 hM
 clear hM
 refine rM T hS ⟨[(1, Pt 2 0)], [(2, (65, [I s_.Kind, I s_.Id, Sl a1 s_.Lits c1, Sl a2 s_.Hints c2]))]⟩ fun ρ a w105 χ106 hS hE hr => ?_
 replace hO := hO.mv hE rfl rfl
 replace h1 := h1.mv hE rfl
 replace h2 := h2.mv hE rfl
 clear hE hr
 refine regO ?_
 refine oP T hS 1 ⟨[(3, V (.agg #[.int .i64 s_.Kind, .int .i64 s_.Id, .slice a1 s_.Lits.length c1, .slice a2 s_.Hints.length c2]))], []⟩ fun a hS => ?_
 refine op1 (call hS kr kr hb31 kr (fun _ _ => rfl) (k31 _ _ s_ a1 c1 a2 c2 h1 h2) ?_)
 intro v101 a w102 χ103 hE hp hS
 replace hO := hO.mv hE rfl rfl
 replace h1 := h1.mv hE rfl
 replace h2 := h2.mv hE rfl
 clear hE
 obtain ⟨r104, hr⟩ : ∃ r, proof_may s_ = r := ⟨_, rfl⟩
 replace hm := hm r104 hr
 rw [hr] at hp
 clear hr
 subst hp
 refine eP T hS ⟨[(2, B (!r104))], []⟩ fun a hS => ?_
 refine wret ?_
 exact fin T hS hO (fun c => c) rfl (r := [.bool (!r104)]) kr (fun χ' hM hC => ⟨(!r104), hm, rfl⟩)
theorem C30 (k31 : S31) (v : ∀ (s_ : Api_Step), VC30 s_ (fun r => r = proof_Check_1 s_)) : S30 := by
 intro w χ s_ a1 c1 a2 c2   h1 h2
 refine (W30 k31 w χ s_ a1 c1 a2 c2   _ (v s_) h1 h2).mono ?_
 rintro _ _ _ _ ⟨r, rfl, h⟩
 exact h
/-- slices.IndexFunc[[]replevin/api.Step,replevin/api.Step] -/
theorem W29_30 (k30 : S30) (w0 : World) (χ0 : Nat → Nat) (s_ : List Api_Step) (a1 : Option Addr) (c1 : Nat) (Q : Int → Prop) (hm : VC29_30 s_ Q) (h1 : RS tApi_Step w0 χ0 a1 s_ c1) (hA : Apart []) :
  Ret Tryd.prog 29 #[.slice a1 s_.length c1, .func (.func 30) #[] #[]] (pR []) w0 χ0 (fun w χ' v => ∃ r, Q r ∧ v = .int .i64 r) := by
 unfold VC29_30 at hm
 replace hm := hm (h1.sm kr)
 refine enterR Tryd.func29 rfl (f0of []) (fun id => 0) (args := [Sl a1 s_ c1, .f (.func 30) [] []]) (bxs := []) kr rfl BoxesOK.nil (f0of_0 (fun q hq => (hA.2 q.1 (List.mem_map.2 ⟨q, hq, rfl⟩)).1)) ?_
 intro a hS hO hM
 generalize (fun id : Nat => 0) = ρ at hS
 replace h1 := h1.m0 hM
 clear hM
 refine rP T hS ⟨[(0, Sl a1 s_ c1), (1, .f (.func 30) [] [])], []⟩ fun a hS => ?_
 refine wcut (fun a w => ∃ (ρ : Nat → Nat) (χ : Nat → Nat), VC29_30_J1 Q ∧ St Tryd.f29.ntmps ⟨[], []⟩ ρ a w χ ∧ OldR (f0of []) w0 χ0 w χ) ?_ ?_
 ·refine rP T hS ⟨[(0, Sl a1 s_ c1), (1, .f (.func 30) [] []), (7, I ((s_.length : Nat) : Int)), (8, I 0)], []⟩ fun a hS => ?_
  refine wblock ?_
  obtain ⟨I1, μ1, hm0, hm⟩ := hm
  refine wloop (σ := Int) (fun s a w => ∃ (ρ : Nat → Nat) (χ : Nat → Nat), I1 s ∧ St Tryd.f29.ntmps ⟨[(0, Sl a1 s_ c1), (1, .f (.func 30) [] []), (7, I ((s_.length : Nat) : Int)), (8, I s)], []⟩ ρ a w χ ∧ OldR (f0of []) w0 χ0 w χ ∧ RS tApi_Step w χ a1 s_ c1) (fun s => μ1 s) (0) ?_ ?_
  ·exact ⟨ρ, _, hm0, hS.sl _, hO, h1⟩
  ·rintro x_102 a w117 ⟨ρ, χ116, hI, hS, hO, h101⟩
   replace hm := hm x_102 hI
   clear hI hm0
   refine rP T hS ⟨[(0, Sl a1 s_ c1), (1, .f (.func 30) [] []), (7, I ((s_.length : Nat) : Int)), (8, I x_102), (9, B (decide (x_102 < ((s_.length : Nat) : Int))))], []⟩ fun a hS => ?_
   refine wseq ?_
   refine wcond hS (b := decide (x_102 < ((s_.length : Nat) : Int))) kr (fun hb => ?_) (fun hb => ?_)
   ·replace hm := hm.1 hb
    refine wskip ?_
    refine wseq ?_
    refine wblock ?_
    refine rP T hS ⟨[(0, Sl a1 s_ c1), (1, .f (.func 30) [] []), (5, I x_102), (7, I ((s_.length : Nat) : Int)), (8, I x_102)], []⟩ fun a hS => ?_
    refine regO ?_
    refine oP T hS 3 ⟨[(0, Sl a1 s_ c1), (1, .f (.func 30) [] []), (5, I x_102), (7, I ((s_.length : Nat) : Int)), (8, I x_102), (11, .f (.func 30) [] []), (12, Sl a1 s_ c1), (13, I x_102)], []⟩ fun a hS => ?_
    obtain ⟨hq, hm⟩ := hm
    refine op1 (index (e := 65) (k := .i64) T hS kr kr kr kr h101 kr kr hq.1 hq.2 ?_)
    intro A103 a h104 hS
    clear hq
    refine op1 (loadA T hS kr kr kr h104 kr kr ?_)
    intro v105 a hv hS
    obtain ⟨a106, c107, a109, c110, hv, h108, h111⟩ := hv
    subst hv
    replace hm := hm (h108.sm kr)
    replace hm := hm (h111.sm kr)
    refine op1 (callC (fi := []) (cp := []) hS kr kr hb30 kr kr (fun _ _ => rfl) (k30 _ _ (gi s_ x_102) a106 c107 a109 c110 h108 h111) ?_)
    intro v112 a w113 χ114 hE hp hS
    replace hO := hO.mv hE rfl rfl
    replace h101 := h101.mv hE rfl
    replace h104 := h104.mv hE rfl
    replace h108 := h108.mv hE rfl
    replace h111 := h111.mv hE rfl
    clear hE
    obtain ⟨r115, hr⟩ : ∃ r, proof_Check_1 (gi s_ x_102) = r := ⟨_, rfl⟩
    replace hm := hm r115 hr
    rw [hr] at hp
    clear hr
    subst hp
    refine doneK ?_
    refine wcond hS (b := r115) kr (fun hb => ?_) (fun hb => ?_)
    ·replace hm := hm.1 hb
     refine rP T hS ⟨[(4, I x_102)], []⟩ fun a hS => ?_
     refine wret ?_
     exact finR T hS hO (fun c h => f0of_zero kr h) (fun c h => f0of_else (l := []) h) (f1of []) rfl (r := [.int .i64 x_102]) kr (fun χ' hM hC => ⟨x_102, hm, rfl⟩)
    ·replace hm := hm.2 hb
     refine wskip ?_
     refine region (eP T hS ⟨[(0, Sl a1 s_ c1), (1, .f (.func 30) [] []), (7, I ((s_.length : Nat) : Int)), (8, I (IntKind.i64.wrap (x_102 + 1)))], []⟩ fun a hS => ?_)
     exact ⟨IntKind.i64.wrap (x_102 + 1), ⟨ρ, _, hm.1, hS.sl _, hO, h101⟩, hm.2⟩
   ·replace hm := hm.2 hb
    refine wexit (by rfl) ?_
    exact ⟨ρ, _, hm, hS.sl _, hO⟩
 ·rintro a w119 ⟨ρ, χ118, hm, hS, hO⟩
  unfold VC29_30_J1 at hm
  refine rP T hS ⟨[(4, I (-1))], []⟩ fun a hS => ?_
  refine wret ?_
  exact finR T hS hO (fun c h => f0of_zero kr h) (fun c h => f0of_else (l := []) h) (f1of []) rfl (r := [.int .i64 (-1)]) kr (fun χ' hM hC => ⟨(-1), hm, rfl⟩)
theorem C29_30 (k30 : S30) (v : ∀ (s_ : List Api_Step), VC29_30 s_ (fun r => r = slices_IndexFunc_api_Step_api_Step_proof_Check_1 s_)) : S29_30 := by
 intro w χ s_ a1 c1   h1 hA
 refine (W29_30 k30 w χ s_ a1 c1   _ (v s_) h1 hA).mono ?_
 rintro _ _ _ _ ⟨r, rfl, h⟩
 exact h
/-- replevin/proof.Check -/
theorem W15 (k29_30 : S29_30) (w0 : World) (χ0 : Nat → Nat) (l_ : List Api_Step) (a1 : Option Addr) (c1 : Nat) (Q : Int × Int → Prop) (hm : VC15 l_ Q) (h1 : RS tApi_Step w0 χ0 a1 l_ c1) :
  Ret Tryd.prog 15 #[.slice a1 l_.length c1] xnone w0 χ0 (fun w χ' v => ∃ r, Q r ∧ v = .tuple #[.int .i64 r.1, .int .i64 r.2]) := by
 unfold VC15 at hm
 replace hm := hm (h1.sm kr)
 refine enter Tryd.func15 rfl (vals := [.slice a1 l_.length c1]) kr ?_
 intro ρ a hS hO hM
 replace h1 := h1.m0 hM
 clear hM
 refine rP T hS ⟨[(0, Sl a1 l_ c1)], []⟩ fun a hS => ?_
 refine wseq ?_
 refine rP T hS ⟨[(0, Sl a1 l_ c1), (7, B (decide (((l_.length : Nat) : Int) > 1000000)))], []⟩ fun a hS => ?_
 refine wcond hS (b := decide (((l_.length : Nat) : Int) > 1000000)) kr (fun hb => ?_) (fun hb => ?_)
 ·replace hm := hm.1 hb
  refine rP T hS ⟨[(2, I 0), (3, I 3)], []⟩ fun a hS => ?_
  refine wret ?_
  exact fin T hS hO (fun c => c) rfl (r := [.int .i64 0, .int .i64 3]) kr (fun χ' hM hC => ⟨(0, 3), hm, rfl⟩)
 ·replace hm := hm.2 hb
  refine wskip ?_
  refine wseq ?_
  refine regO ?_
  refine oP T hS 1 ⟨[(0, Sl a1 l_ c1), (8, Sl a1 l_ c1)], []⟩ fun a hS => ?_
  refine op1 (callR hS kr kr hb29 kr (k29_30 _ _ l_ a1 c1 h1 ⟨by decide, by decide⟩) ?_)
  intro v101 a w102 χ103 hE hp hS
  replace hO := hO.mv hE rfl rfl
  replace h1 := h1.mv hE rfl
  clear hE
  obtain ⟨r104, hr⟩ : ∃ r, slices_IndexFunc_api_Step_api_Step_proof_Check_1 l_ = r := ⟨_, rfl⟩
  replace hm := hm r104 hr
  rw [hr] at hp
  clear hr
  subst hp
  refine eP T hS ⟨[(0, Sl a1 l_ c1), (4, I r104)], []⟩ fun a hS => ?_
  refine rP T hS ⟨[(0, Sl a1 l_ c1), (4, I r104), (11, B (decide (r104 ≥ 0)))], []⟩ fun a hS => ?_
  refine wcond hS (b := decide (r104 ≥ 0)) kr (fun hb => ?_) (fun hb => ?_)
  ·replace hm := hm.1 hb
   refine rP T hS ⟨[(2, I r104), (3, I 2)], []⟩ fun a hS => ?_
   refine wret ?_
   exact fin T hS hO (fun c => c) rfl (r := [.int .i64 r104, .int .i64 2]) kr (fun χ' hM hC => ⟨(r104, 2), hm, rfl⟩)
  ·replace hm := hm.2 hb
   refine wskip ?_
   refine rP T hS ⟨[(2, I ((l_.length : Nat) : Int)), (3, I 0)], []⟩ fun a hS => ?_
   refine wret ?_
   exact fin T hS hO (fun c => c) rfl (r := [.int .i64 ((l_.length : Nat) : Int), .int .i64 0]) kr (fun χ' hM hC => ⟨(((l_.length : Nat) : Int), 0), hm, rfl⟩)
theorem C15 (k29_30 : S29_30) (v : ∀ (l_ : List Api_Step), VC15 l_ (fun r => r = proof_Check l_)) : S15 := by
 intro w χ l_ a1 c1   h1
 refine (W15 k29_30 w χ l_ a1 c1   _ (v l_) h1).mono ?_
 rintro _ _ _ _ ⟨r, rfl, h⟩
 exact h
/-- (*replevin/proof.line).wrong -/
theorem W54 (w0 : World) (χ0 : Nat → Nat) (at_ : Int) (e_ : Int) (cap1 : Proof_line) (a1 : Option Addr) (c1 : Nat) (b1 : Nat) (i1 : Nat) (Q : Proof_line → Prop) (hm : VC54 at_ e_ cap1 Q) (h1 : RS tToken_Token w0 χ0 a1 cap1.rest c1) (hc1 : Cell w0 χ0 b1 i1 83 [.slice a1 cap1.rest.length c1, .int .i64 cap1.at_, .int .i64 cap1.e]) (hA : Apart [i1]) :
  Ret Tryd.prog 54 #[.pointer (some ⟨b1, 0, none⟩), .int .i64 at_, .int .i64 e_] (pR [i1]) w0 χ0 (fun w χ' v => ∃ r, Q r ∧ ∃ (ra1 : Option Addr) (rc1 : Nat), v = .tuple #[] ∧ RS tToken_Token w χ' ra1 r.rest rc1 ∧ Cell w χ' b1 i1 83 [.slice ra1 r.rest.length rc1, .int .i64 r.at_, .int .i64 r.e]) := by
 unfold VC54 at hm
 replace hm := hm (h1.sm kr)
 refine enterR Tryd.func54 rfl (f0of [(i1, 901)]) (fun id => (bif Nat.beq id 901 then b1 else 0)) (args := [Pt 901 0, I at_, I e_]) (bxs := [(901, (83, [Sl a1 cap1.rest c1, I cap1.at_, I cap1.e]))]) kr rfl (BoxesOK.cons kr (hc1.map (f0of_at 0 hA.1 rfl)) BoxesOK.nil) (f0of_0 (fun q hq => (hA.2 q.1 (List.mem_map.2 ⟨q, hq, rfl⟩)).1)) ?_
 intro a hS hO hM
 have hP : Pin [(901, b1)] (fun id => (bif Nat.beq id 901 then b1 else 0)) := by intro q hq; simp at hq; rcases hq with rfl <;> rfl
 generalize (fun id => (bif Nat.beq id 901 then b1 else 0)) = ρ at hS hP
 clear hc1
 replace h1 := h1.m0 hM
 clear hM
 refine rP T hS ⟨[(0, Pt 901 0), (1, I at_), (2, I e_), (10, B (cap1.e == 0))], [(901, (83, [Sl a1 cap1.rest c1, I cap1.at_, I cap1.e]))]⟩ fun a hS => ?_
 refine wcond hS (b := (cap1.e == 0)) kr (fun hb => ?_) (fun hb => ?_)
 ·replace hm := hm.1 hb
  refine region (eM T hS ⟨[], [(901, (83, [Sl a1 cap1.rest c1, I at_, I e_]))]⟩ fun ρ a w101 χ102 hS hE hr => ?_)
  replace hO := hO.mv hE rfl rfl
  replace h1 := h1.mv hE rfl
  replace hP := hP.mv hr kr
  clear hE hr
  exact finR T hS hO (fun c h => f0of_zero kr h) (fun c h => f0of_else (l := [(i1, 901)]) h) (f1of [(i1, 901)]) rfl (r := []) kr (fun χ' hM hC => ⟨(⟨cap1.rest, at_, e_⟩ : Proof_line), hm, a1, c1, rfl, h1.m0 hM, ((hS.cell (id := 901) (t := 83) (cs := [Sl a1 cap1.rest c1, I at_, I e_]) kr).out (f := (f1of [(i1, 901)])) hC kr kr (hP.at 0 rfl))⟩)
 ·replace hm := hm.2 hb
  refine wskip ?_
  exact finR T hS hO (fun c h => f0of_zero kr h) (fun c h => f0of_else (l := [(i1, 901)]) h) (f1of [(i1, 901)]) rfl (r := []) kr (fun χ' hM hC => ⟨cap1, hm, a1, c1, rfl, h1.m0 hM, ((hS.cell (id := 901) (t := 83) (cs := [Sl a1 cap1.rest c1, I cap1.at_, I cap1.e]) kr).out (f := (f1of [(i1, 901)])) hC kr kr (hP.at 0 rfl))⟩)
theorem C54 (v : ∀ (at_ : Int) (e_ : Int) (cap1 : Proof_line), VC54 at_ e_ cap1 (fun r => r = proof_line_wrong at_ e_ cap1)) : S54 := by
 intro w χ at_ e_ cap1 a1 c1  b1 i1 h1 hc1 hA
 refine (W54 w χ at_ e_ cap1 a1 c1  b1 i1 _ (v at_ e_ cap1) h1 hc1 hA).mono ?_
 rintro _ _ _ _ ⟨r, rfl, h⟩
 exact h
/-- (*replevin/proof.line).number -/
theorem W52 (k54 : S54) (k63 : S63) (w0 : World) (χ0 : Nat → Nat) (lo : Int) (hi : Int) (cap1 : Proof_line) (a1 : Option Addr) (c1 : Nat) (b1 : Nat) (i1 : Nat) (Q : Int × Int × Bool × Proof_line → Prop) (hm : VC52 lo hi cap1 Q) (h1 : RS tToken_Token w0 χ0 a1 cap1.rest c1) (hc1 : Cell w0 χ0 b1 i1 83 [.slice a1 cap1.rest.length c1, .int .i64 cap1.at_, .int .i64 cap1.e]) (hA : Apart [i1]) :
  Ret Tryd.prog 52 #[.pointer (some ⟨b1, 0, none⟩), .int .i64 lo, .int .i64 hi] (pR [i1]) w0 χ0 (fun w χ' v => ∃ r, Q r ∧ ∃ (ra1 : Option Addr) (rc1 : Nat), v = .tuple #[.int .i64 r.1, .int .i64 r.2.1, .bool r.2.2.1] ∧ RS tToken_Token w χ' ra1 r.2.2.2.rest rc1 ∧ Cell w χ' b1 i1 83 [.slice ra1 r.2.2.2.rest.length rc1, .int .i64 r.2.2.2.at_, .int .i64 r.2.2.2.e]) := by
 unfold VC52 at hm
 replace hm := hm (h1.sm kr)
 refine enterR Tryd.func52 rfl (f0of [(i1, 901)]) (fun id => (bif Nat.beq id 901 then b1 else 0)) (args := [Pt 901 0, I lo, I hi]) (bxs := [(901, (83, [Sl a1 cap1.rest c1, I cap1.at_, I cap1.e]))]) kr rfl (BoxesOK.cons kr (hc1.map (f0of_at 0 hA.1 rfl)) BoxesOK.nil) (f0of_0 (fun q hq => (hA.2 q.1 (List.mem_map.2 ⟨q, hq, rfl⟩)).1)) ?_
 intro a hS hO hM
 have hP : Pin [(901, b1)] (fun id => (bif Nat.beq id 901 then b1 else 0)) := by intro q hq; simp at hq; rcases hq with rfl <;> rfl
 generalize (fun id => (bif Nat.beq id 901 then b1 else 0)) = ρ at hS hP
 clear hc1
 replace h1 := h1.m0 hM
 clear hM
 refine rP T hS ⟨[(0, Pt 901 0), (1, I lo), (2, I hi)], [(901, (83, [Sl a1 cap1.rest c1, I cap1.at_, I cap1.e]))]⟩ fun a hS => ?_
 refine wseq ?_
 refine rP T hS ⟨[(0, Pt 901 0), (1, I lo), (2, I hi), (16, B (cap1.e != 0))], [(901, (83, [Sl a1 cap1.rest c1, I cap1.at_, I cap1.e]))]⟩ fun a hS => ?_
 refine wcond hS (b := (cap1.e != 0)) kr (fun hb => ?_) (fun hb => ?_)
 ·replace hm := hm.1 hb
  refine rP T hS ⟨[(6, I 0), (7, I 0), (8, B false)], [(901, (83, [Sl a1 cap1.rest c1, I cap1.at_, I cap1.e]))]⟩ fun a hS => ?_
  refine wret ?_
  exact finR T hS hO (fun c h => f0of_zero kr h) (fun c h => f0of_else (l := [(i1, 901)]) h) (f1of [(i1, 901)]) rfl (r := [.int .i64 0, .int .i64 0, .bool false]) kr (fun χ' hM hC => ⟨(0, 0, false, cap1), hm, a1, c1, rfl, h1.m0 hM, ((hS.cell (id := 901) (t := 83) (cs := [Sl a1 cap1.rest c1, I cap1.at_, I cap1.e]) kr).out (f := (f1of [(i1, 901)])) hC kr kr (hP.at 0 rfl))⟩)
 ·replace hm := hm.2 hb
  refine wskip ?_
  refine wseq ?_
  refine rP T hS ⟨[(0, Pt 901 0), (1, I lo), (2, I hi), (22, B (((cap1.rest.length : Nat) : Int) == 0))], [(901, (83, [Sl a1 cap1.rest c1, I cap1.at_, I cap1.e]))]⟩ fun a hS => ?_
  refine wcond hS (b := (((cap1.rest.length : Nat) : Int) == 0)) kr (fun hb => ?_) (fun hb => ?_)
  ·replace hm := hm.1 hb
   refine regO ?_
   refine oP T hS 5 ⟨[(23, Pt 901 0), (27, I cap1.at_)], [(901, (83, [Sl a1 cap1.rest c1, I cap1.at_, I cap1.e]))]⟩ fun a hS => ?_
   refine op1 (callR hS kr kr hb54 kr (k54 _ _ cap1.at_ 4 cap1 a1 c1 (ρ 901) 901 h1 (hS.cell (id := 901) (t := 83) (cs := [Sl a1 cap1.rest c1, I cap1.at_, I cap1.e]) kr) ⟨by decide, by decide⟩) ?_)
   intro v101 a w102 χ103 hE hp hS
   replace hO := hO.mv hE rfl rfl
   replace h1 := h1.mv hE rfl
   clear hE
   obtain ⟨a105, c106, hp, h107, hc108⟩ := hp
   obtain ⟨r104, hr⟩ : ∃ r, proof_line_wrong cap1.at_ 4 cap1 = r := ⟨_, rfl⟩
   replace hm := hm r104 hr
   rw [hr] at h107 hc108
   clear hr
   subst hp
   replace hm := hm (h107.sm kr)
   replace hS := hS.addbox (id := 901) (t := 83) (cs := [Sl a105 r104.rest c106, I r104.at_, I r104.e]) kr hc108
   clear hc108
   refine doneK ?_
   refine rP T hS ⟨[(6, I 0), (7, I 0), (8, B false)], [(901, (83, [Sl a105 r104.rest c106, I r104.at_, I r104.e]))]⟩ fun a hS => ?_
   refine wret ?_
   exact finR T hS hO (fun c h => f0of_zero kr h) (fun c h => f0of_else (l := [(i1, 901)]) h) (f1of [(i1, 901)]) rfl (r := [.int .i64 0, .int .i64 0, .bool false]) kr (fun χ' hM hC => ⟨(0, 0, false, r104), hm, a105, c106, rfl, h107.m0 hM, ((hS.cell (id := 901) (t := 83) (cs := [Sl a105 r104.rest c106, I r104.at_, I r104.e]) kr).out (f := (f1of [(i1, 901)])) hC kr kr (hP.at 0 rfl))⟩)
  ·replace hm := hm.2 hb
   refine wskip ?_
   refine regO ?_
   refine oP T hS 4 ⟨[(0, Pt 901 0), (1, I lo), (2, I hi), (32, Sl a1 cap1.rest c1)], [(901, (83, [Sl a1 cap1.rest c1, I cap1.at_, I cap1.e]))]⟩ fun a hS => ?_
   obtain ⟨hq, hm⟩ := hm
   refine op1 (index (e := 61) (k := .i64) T hS kr kr kr kr h1 kr kr hq.1 hq.2 ?_)
   intro A109 a h110 hS
   clear hq
   refine op1 (loadA T hS kr kr kr h110 kr kr ?_)
   intro v111 a hv hS
   subst hv
   refine eM T hS ⟨[(0, Pt 901 0), (1, I lo), (2, I hi), (9, Pt 10 0)], [(10, (61, [I ((gi cap1.rest 0).Line), I ((gi cap1.rest 0).At), Z ((gi cap1.rest 0).Text)])), (901, (83, [Sl a1 cap1.rest c1, I cap1.at_, I cap1.e]))]⟩ fun ρ a w133 χ134 hS hE hr => ?_
   replace hO := hO.mv hE rfl rfl
   replace h1 := h1.mv hE rfl
   replace hP := hP.mv hr kr
   clear hE hr
   refine regO ?_
   refine oP T hS 5 ⟨[(0, Pt 901 0), (1, I lo), (2, I hi), (9, Pt 10 0), (35, Pt 901 0), (39, Sl a1 cap1.rest c1)], [(10, (61, [I ((gi cap1.rest 0).Line), I ((gi cap1.rest 0).At), Z ((gi cap1.rest 0).Text)])), (901, (83, [Sl a1 cap1.rest c1, I cap1.at_, I cap1.e]))]⟩ fun a hS => ?_
   obtain ⟨hq, hm⟩ := hm
   refine op1 (slice1 (E := 61) (kl := .i64) T hS kr kr kr kr h1 kr kr hq.1 hq.2 ?_)
   intro a112 c113 a h114 hS
   clear hq
   refine eM T hS ⟨[(0, Pt 901 0), (1, I lo), (2, I hi), (9, Pt 10 0)], [(10, (61, [I ((gi cap1.rest 0).Line), I ((gi cap1.rest 0).At), Z ((gi cap1.rest 0).Text)])), (901, (83, [Sl a112 (cap1.rest.drop (1 : Int).toNat) c113, I cap1.at_, I cap1.e]))]⟩ fun ρ a w131 χ132 hS hE hr => ?_
   replace hO := hO.mv hE rfl rfl
   replace h114 := h114.mv hE rfl
   replace hP := hP.mv hr kr
   clear hE hr
   refine regO ?_
   refine oP T hS 4 ⟨[(0, Pt 901 0), (9, Pt 10 0), (45, Z ((gi cap1.rest 0).Text)), (46, I lo), (47, I hi)], [(10, (61, [I ((gi cap1.rest 0).Line), I ((gi cap1.rest 0).At), Z ((gi cap1.rest 0).Text)])), (901, (83, [Sl a112 (cap1.rest.drop (1 : Int).toNat) c113, I cap1.at_, I cap1.e]))]⟩ fun a hS => ?_
   obtain ⟨hq, hm⟩ := hm
   refine op1 (call hS kr kr hb63 kr (fun _ _ => rfl) (k63 _ _ ((gi cap1.rest 0).Text) lo hi hq) ?_)
   intro v115 a w116 χ117 hE hp hS
   clear hq
   replace hO := hO.mv hE rfl rfl
   replace h114 := h114.mv hE rfl
   clear hE
   obtain ⟨r118, hr⟩ : ∃ r, token_Number ((gi cap1.rest 0).Text) lo hi = r := ⟨_, rfl⟩
   replace hm := hm r118 hr
   rw [hr] at hp
   clear hr
   subst hp
   refine eP T hS ⟨[(0, Pt 901 0), (9, Pt 10 0), (10, I r118.1), (11, I r118.2)], [(10, (61, [I ((gi cap1.rest 0).Line), I ((gi cap1.rest 0).At), Z ((gi cap1.rest 0).Text)])), (901, (83, [Sl a112 (cap1.rest.drop (1 : Int).toNat) c113, I cap1.at_, I cap1.e]))]⟩ fun a hS => ?_
   refine wseq ?_
   refine rP T hS ⟨[(0, Pt 901 0), (9, Pt 10 0), (10, I r118.1), (11, I r118.2), (52, B (r118.2 != 0))], [(10, (61, [I ((gi cap1.rest 0).Line), I ((gi cap1.rest 0).At), Z ((gi cap1.rest 0).Text)])), (901, (83, [Sl a112 (cap1.rest.drop (1 : Int).toNat) c113, I cap1.at_, I cap1.e]))]⟩ fun a hS => ?_
   refine wcond hS (b := (r118.2 != 0)) kr (fun hb => ?_) (fun hb => ?_)
   ·replace hm := hm.1 hb
    refine regO ?_
    refine oP T hS 4 ⟨[(53, Pt 901 0), (55, I ((gi cap1.rest 0).At)), (56, I r118.2)], [(901, (83, [Sl a112 (cap1.rest.drop (1 : Int).toNat) c113, I cap1.at_, I cap1.e]))]⟩ fun a hS => ?_
    refine op1 (callR hS kr kr hb54 kr (k54 _ _ ((gi cap1.rest 0).At) r118.2 (⟨cap1.rest.drop (1 : Int).toNat, cap1.at_, cap1.e⟩ : Proof_line) a112 c113 (ρ 901) 901 h114 (hS.cell (id := 901) (t := 83) (cs := [Sl a112 (cap1.rest.drop (1 : Int).toNat) c113, I cap1.at_, I cap1.e]) kr) ⟨by decide, by decide⟩) ?_)
    intro v119 a w120 χ121 hE hp hS
    replace hO := hO.mv hE rfl rfl
    replace h114 := h114.mv hE rfl
    clear hE
    obtain ⟨a123, c124, hp, h125, hc126⟩ := hp
    obtain ⟨r122, hr⟩ : ∃ r, proof_line_wrong ((gi cap1.rest 0).At) r118.2 (⟨cap1.rest.drop (1 : Int).toNat, cap1.at_, cap1.e⟩ : Proof_line) = r := ⟨_, rfl⟩
    replace hm := hm r122 hr
    rw [hr] at h125 hc126
    clear hr
    subst hp
    replace hm := hm (h125.sm kr)
    replace hS := hS.addbox (id := 901) (t := 83) (cs := [Sl a123 r122.rest c124, I r122.at_, I r122.e]) kr hc126
    clear hc126
    refine doneK ?_
    refine rP T hS ⟨[(6, I 0), (7, I 0), (8, B false)], [(901, (83, [Sl a123 r122.rest c124, I r122.at_, I r122.e]))]⟩ fun a hS => ?_
    refine wret ?_
    exact finR T hS hO (fun c h => f0of_zero kr h) (fun c h => f0of_else (l := [(i1, 901)]) h) (f1of [(i1, 901)]) rfl (r := [.int .i64 0, .int .i64 0, .bool false]) kr (fun χ' hM hC => ⟨(0, 0, false, r122), hm, a123, c124, rfl, h125.m0 hM, ((hS.cell (id := 901) (t := 83) (cs := [Sl a123 r122.rest c124, I r122.at_, I r122.e]) kr).out (f := (f1of [(i1, 901)])) hC kr kr (hP.at 0 rfl))⟩)
   ·replace hm := hm.2 hb
    refine wskip ?_
    refine rM T hS ⟨[(9, Pt 10 0), (10, I r118.1)], [(10, (61, [I ((gi cap1.rest 0).Line), I ((gi cap1.rest 0).At), Z ((gi cap1.rest 0).Text)])), (901, (83, [Sl a112 (cap1.rest.drop (1 : Int).toNat) c113, I (IntKind.i64.wrap (((gi cap1.rest 0).At) + ((((gi cap1.rest 0).Text).length : Nat) : Int))), I cap1.e]))]⟩ fun ρ a w129 χ130 hS hE hr => ?_
    replace hO := hO.mv hE rfl rfl
    replace h114 := h114.mv hE rfl
    replace hP := hP.mv hr kr
    clear hE hr
    refine drawnSX [10, 901] mixed hS ?_
    intro w127 χ128 hS hE hD hH
    replace hO := hO.mv hE rfl rfl
    replace h114 := h114.mv hE rfl
    clear hE
    refine tk T [0, 1, 2, 3, 4, 5] [10, 901] hS hH #[true, true, true, true, true, true] 0 ⟨[(6, I r118.1), (7, I ((gi cap1.rest 0).At)), (8, B true)], [(10, (61, [I ((gi cap1.rest 0).Line), I ((gi cap1.rest 0).At), Z ((gi cap1.rest 0).Text)])), (901, (83, [Sl a112 (cap1.rest.drop (1 : Int).toNat) c113, I (IntKind.i64.wrap (((gi cap1.rest 0).At) + ((((gi cap1.rest 0).Text).length : Nat) : Int))), I cap1.e]))]⟩ fun a hS => ?_
    refine drawnDone kr ?_
    clear hD hH
    replace hS := hS.sl ⟨[(6, I r118.1), (7, I ((gi cap1.rest 0).At)), (8, B true)], [(901, (83, [Sl a112 (cap1.rest.drop (1 : Int).toNat) c113, I (IntKind.i64.wrap (((gi cap1.rest 0).At) + ((((gi cap1.rest 0).Text).length : Nat) : Int))), I cap1.e]))]⟩
    refine wret ?_
    exact finR T hS hO (fun c h => f0of_zero kr h) (fun c h => f0of_else (l := [(i1, 901)]) h) (f1of [(i1, 901)]) rfl (r := [.int .i64 r118.1, .int .i64 ((gi cap1.rest 0).At), .bool true]) kr (fun χ' hM hC => ⟨(r118.1, (gi cap1.rest 0).At, true, (⟨cap1.rest.drop (1 : Int).toNat, IntKind.i64.wrap (((gi cap1.rest 0).At) + ((((gi cap1.rest 0).Text).length : Nat) : Int)), cap1.e⟩ : Proof_line)), hm, a112, c113, rfl, h114.m0 hM, ((hS.cell (id := 901) (t := 83) (cs := [Sl a112 (cap1.rest.drop (1 : Int).toNat) c113, I (IntKind.i64.wrap (((gi cap1.rest 0).At) + ((((gi cap1.rest 0).Text).length : Nat) : Int))), I cap1.e]) kr).out (f := (f1of [(i1, 901)])) hC kr kr (hP.at 0 rfl))⟩)
theorem C52 (k54 : S54) (k63 : S63) (v : ∀ (lo : Int) (hi : Int) (cap1 : Proof_line), preNu lo hi cap1 → VC52 lo hi cap1 (fun r => r = proof_line_number lo hi cap1)) : S52 := by
 intro w χ lo hi cap1 a1 c1  b1 i1 hp h1 hc1 hA
 refine (W52 k54 k63 w χ lo hi cap1 a1 c1  b1 i1 _ (v lo hi cap1 hp) h1 hc1 hA).mono ?_
 rintro _ _ _ _ ⟨r, rfl, h⟩
 exact h
/-- slices.Index[[]int,int] -/
theorem W75 (w0 : World) (χ0 : Nat → Nat) (s_ : List Int) (v_ : Int) (a1 : Option Addr) (c1 : Nat) (Q : Int → Prop) (hm : VC75 s_ v_ Q) (h1 : RS tI w0 χ0 a1 s_ c1) :
  Ret Tryd.prog 75 #[.slice a1 s_.length c1, .int .i64 v_] xnone w0 χ0 (fun w χ' v => ∃ r, Q r ∧ v = .int .i64 r) := by
 unfold VC75 at hm
 replace hm := hm (h1.sm kr)
 refine enter Tryd.func75 rfl (vals := [.slice a1 s_.length c1, .int .i64 v_]) kr ?_
 intro ρ a hS hO hM
 replace h1 := h1.m0 hM
 clear hM
 refine rP T hS ⟨[(0, Sl a1 s_ c1), (1, I v_)], []⟩ fun a hS => ?_
 refine wcut (fun a w => ∃ (ρ : Nat → Nat) (χ : Nat → Nat), VC75_J1 Q ∧ St Tryd.f75.ntmps ⟨[], []⟩ ρ a w χ ∧ Old w0 χ0 w χ) ?_ ?_
 ·refine rP T hS ⟨[(0, Sl a1 s_ c1), (1, I v_), (7, I ((s_.length : Nat) : Int)), (8, I 0)], []⟩ fun a hS => ?_
  refine wblock ?_
  obtain ⟨I1, μ1, hm0, hm⟩ := hm
  refine wloop (σ := Int) (fun s a w => ∃ (ρ : Nat → Nat) (χ : Nat → Nat), I1 s ∧ St Tryd.f75.ntmps ⟨[(0, Sl a1 s_ c1), (1, I v_), (7, I ((s_.length : Nat) : Int)), (8, I s)], []⟩ ρ a w χ ∧ Old w0 χ0 w χ ∧ RS tI w χ a1 s_ c1) (fun s => μ1 s) (0) ?_ ?_
  ·exact ⟨ρ, _, hm0, hS.sl _, hO, h1⟩
  ·rintro x_102 a w107 ⟨ρ, χ106, hI, hS, hO, h101⟩
   replace hm := hm x_102 hI
   clear hI hm0
   refine rP T hS ⟨[(0, Sl a1 s_ c1), (1, I v_), (7, I ((s_.length : Nat) : Int)), (8, I x_102), (9, B (decide (x_102 < ((s_.length : Nat) : Int))))], []⟩ fun a hS => ?_
   refine wseq ?_
   refine wcond hS (b := decide (x_102 < ((s_.length : Nat) : Int))) kr (fun hb => ?_) (fun hb => ?_)
   ·replace hm := hm.1 hb
    refine wskip ?_
    refine wseq ?_
    refine wblock ?_
    refine rP T hS ⟨[(0, Sl a1 s_ c1), (1, I v_), (5, I x_102), (7, I ((s_.length : Nat) : Int)), (8, I x_102)], []⟩ fun a hS => ?_
    refine regO ?_
    refine oP T hS 3 ⟨[(0, Sl a1 s_ c1), (1, I v_), (5, I x_102), (7, I ((s_.length : Nat) : Int)), (8, I x_102), (11, I v_), (12, Sl a1 s_ c1), (13, I x_102)], []⟩ fun a hS => ?_
    obtain ⟨hq, hm⟩ := hm
    refine op1 (index (e := 3) (k := .i64) T hS kr kr kr kr h101 kr kr hq.1 hq.2 ?_)
    intro A103 a h104 hS
    clear hq
    refine op1 (load1 T hS kr kr kr h104 rfl kr ?_)
    intro v105 a hv hS
    cases hv
    refine eP T hS ⟨[(0, Sl a1 s_ c1), (1, I v_), (5, I x_102), (7, I ((s_.length : Nat) : Int)), (8, I x_102), (16, B (v_ == (gi s_ x_102)))], []⟩ fun a hS => ?_
    refine wcond hS (b := (v_ == (gi s_ x_102))) kr (fun hb => ?_) (fun hb => ?_)
    ·replace hm := hm.1 hb
     refine rP T hS ⟨[(4, I x_102)], []⟩ fun a hS => ?_
     refine wret ?_
     exact fin T hS hO (fun c => c) rfl (r := [.int .i64 x_102]) kr (fun χ' hM hC => ⟨x_102, hm, rfl⟩)
    ·replace hm := hm.2 hb
     refine wskip ?_
     refine region (eP T hS ⟨[(0, Sl a1 s_ c1), (1, I v_), (7, I ((s_.length : Nat) : Int)), (8, I (IntKind.i64.wrap (x_102 + 1)))], []⟩ fun a hS => ?_)
     exact ⟨IntKind.i64.wrap (x_102 + 1), ⟨ρ, _, hm.1, hS.sl _, hO, h101⟩, hm.2⟩
   ·replace hm := hm.2 hb
    refine wexit (by rfl) ?_
    exact ⟨ρ, _, hm, hS.sl _, hO⟩
 ·rintro a w109 ⟨ρ, χ108, hm, hS, hO⟩
  unfold VC75_J1 at hm
  refine rP T hS ⟨[(4, I (-1))], []⟩ fun a hS => ?_
  refine wret ?_
  exact fin T hS hO (fun c => c) rfl (r := [.int .i64 (-1)]) kr (fun χ' hM hC => ⟨(-1), hm, rfl⟩)
theorem C75 (v : ∀ (s_ : List Int) (v_ : Int), VC75 s_ v_ (fun r => r = slices_Index_int_int s_ v_)) : S75 := by
 intro w χ s_ v_ a1 c1   h1
 refine (W75 w χ s_ v_ a1 c1   _ (v s_ v_) h1).mono ?_
 rintro _ _ _ _ ⟨r, rfl, h⟩
 exact h
/-- slices.Contains[[]int,int] -/
theorem W65 (k75 : S75) (w0 : World) (χ0 : Nat → Nat) (s_ : List Int) (v_ : Int) (a1 : Option Addr) (c1 : Nat) (Q : Bool → Prop) (hm : VC65 s_ v_ Q) (h1 : RS tI w0 χ0 a1 s_ c1) :
  Ret Tryd.prog 65 #[.slice a1 s_.length c1, .int .i64 v_] xnone w0 χ0 (fun w χ' v => ∃ r, Q r ∧ v = .bool r) := by
 unfold VC65 at hm
 replace hm := hm (h1.sm kr)
 refine enter Tryd.func65 rfl (vals := [.slice a1 s_.length c1, .int .i64 v_]) kr ?_
 intro ρ a hS hO hM
 replace h1 := h1.m0 hM
 clear hM
 refine rP T hS ⟨[(0, Sl a1 s_ c1), (1, I v_)], []⟩ fun a hS => ?_
 refine regO ?_
 refine oP T hS 2 ⟨[(5, Sl a1 s_ c1), (6, I v_)], []⟩ fun a hS => ?_
 refine op1 (call hS kr kr hb75 kr (fun _ _ => rfl) (k75 _ _ s_ v_ a1 c1 h1) ?_)
 intro v101 a w102 χ103 hE hp hS
 replace hO := hO.mv hE rfl rfl
 replace h1 := h1.mv hE rfl
 clear hE
 obtain ⟨r104, hr⟩ : ∃ r, slices_Index_int_int s_ v_ = r := ⟨_, rfl⟩
 replace hm := hm r104 hr
 rw [hr] at hp
 clear hr
 subst hp
 refine eP T hS ⟨[(4, B (decide (r104 ≥ 0)))], []⟩ fun a hS => ?_
 refine wret ?_
 exact fin T hS hO (fun c => c) rfl (r := [.bool (decide (r104 ≥ 0))]) kr (fun χ' hM hC => ⟨(decide (r104 ≥ 0)), hm, rfl⟩)
theorem C65 (k75 : S75) (v : ∀ (s_ : List Int) (v_ : Int), VC65 s_ v_ (fun r => r = slices_Contains_int_int s_ v_)) : S65 := by
 intro w χ s_ v_ a1 c1   h1
 refine (W65 k75 w χ s_ v_ a1 c1   _ (v s_ v_) h1).mono ?_
 rintro _ _ _ _ ⟨r, rfl, h⟩
 exact h
end Go.Proofs.YtkgcdoeldilhaaaDoor
