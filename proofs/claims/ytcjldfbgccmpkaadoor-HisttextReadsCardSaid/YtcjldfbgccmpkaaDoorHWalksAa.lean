/- Walks: each function returns what its condition asks. Condition: the contracts of its callees, handed in. -/
import Derived.Test.YtcjldfbgccmpkaaDoorHWalksS
set_option linter.all false
namespace Go.Proofs.YtcjldfbgccmpkaaDoor
open Go Go.Sv
set_option maxHeartbeats 1000000
/-- internal/stringslite.HasPrefix -/
theorem W75 (w0 : World) (χ0 : Nat → Nat) (s_ : List UInt8) (prefix_ : List UInt8) (Q : Bool → Prop) (hm : VC75 s_ prefix_ Q) :
  Ret Tryd.prog 75 #[.string (bs s_), .string (bs prefix_)] xnone w0 χ0 (fun w χ' v => ∃ r, Q r ∧ v = .bool r) := by
 unfold VC75 at hm
 refine enter Tryd.func75 rfl (vals := [.string (bs s_), .string (bs prefix_)]) kr ?_
 intro ρ a hS hO hM
 clear hM
 refine rP T hS ⟨[(0, Z s_), (1, Z prefix_)], []⟩ fun a hS => ?_
 refine regO ?_
 refine oP T hS 6 ⟨[(0, Z s_), (1, Z prefix_), (10, B (decide (((s_.length : Nat) : Int) ≥ ((prefix_.length : Nat) : Int))))], []⟩ fun a hS => ?_
 rcases Bool.eq_false_or_eq_true (decide (((s_.length : Nat) : Int) ≥ ((prefix_.length : Nat) : Int))) with hb | hb
 ·replace hS := hS.lit (t := 10) kr hb
  replace hm := hm.1 hb
  refine oP T hS 3 ⟨[(1, Z prefix_), (10, B true), (11, Z s_), (13, I ((prefix_.length : Nat) : Int))], []⟩ fun a hS => ?_
  obtain ⟨hq, hm⟩ := hm
  refine op1 (sslice0 (kh := .i64) (s := s_) T hS kr kr kr kr kr hq.1 hq.2 ?_)
  intro a hS
  clear hq
  refine eP T hS ⟨[(4, B ((s_.take ((prefix_.length : Nat) : Int).toNat) == prefix_))], []⟩ fun a hS => ?_
  refine wret ?_
  exact fin T hS hO (fun c => c) rfl (r := [.bool ((s_.take ((prefix_.length : Nat) : Int).toNat) == prefix_)]) kr (fun χ' hM hC => ⟨((s_.take ((prefix_.length : Nat) : Int).toNat) == prefix_), hm, rfl⟩)
 ·replace hS := hS.lit (t := 10) kr hb
  replace hm := hm.2 hb
  refine eP T hS ⟨[(4, B false)], []⟩ fun a hS => ?_
  refine wret ?_
  exact fin T hS hO (fun c => c) rfl (r := [.bool false]) kr (fun χ' hM hC => ⟨false, hm, rfl⟩)
theorem C75 (v : ∀ (s_ : List UInt8) (prefix_ : List UInt8), preTwo s_ prefix_ → VC75 s_ prefix_ (fun r => r = internal_stringslite_HasPrefix s_ prefix_)) : S75 := by
 intro w χ s_ prefix_    hp 
 refine (W75 w χ s_ prefix_    _ (v s_ prefix_ hp)).mono ?_
 rintro _ _ _ _ ⟨r, rfl, h⟩
 exact h
/-- strings.HasPrefix -/
theorem W62 (k75 : S75) (w0 : World) (χ0 : Nat → Nat) (s_ : List UInt8) (prefix_ : List UInt8) (Q : Bool → Prop) (hm : VC62 s_ prefix_ Q) :
  Ret Tryd.prog 62 #[.string (bs s_), .string (bs prefix_)] xnone w0 χ0 (fun w χ' v => ∃ r, Q r ∧ v = .bool r) := by
 unfold VC62 at hm
 refine enter Tryd.func62 rfl (vals := [.string (bs s_), .string (bs prefix_)]) kr ?_
 intro ρ a hS hO hM
 clear hM
 refine rP T hS ⟨[(0, Z s_), (1, Z prefix_)], []⟩ fun a hS => ?_
 refine regO ?_
 refine oP T hS 2 ⟨[(5, Z s_), (6, Z prefix_)], []⟩ fun a hS => ?_
 obtain ⟨hq, hm⟩ := hm
 refine op1 (call hS kr kr hb75 kr (fun _ _ => rfl) (k75 _ _ s_ prefix_ hq) ?_)
 intro v101 a w102 χ103 hE hp hS
 clear hq
 replace hO := hO.mv hE rfl rfl
 clear hE
 obtain ⟨r104, hr⟩ : ∃ r, internal_stringslite_HasPrefix s_ prefix_ = r := ⟨_, rfl⟩
 replace hm := hm r104 hr
 rw [hr] at hp
 clear hr
 subst hp
 refine eP T hS ⟨[(4, B r104)], []⟩ fun a hS => ?_
 refine wret ?_
 exact fin T hS hO (fun c => c) rfl (r := [.bool r104]) kr (fun χ' hM hC => ⟨r104, hm, rfl⟩)
theorem C62 (k75 : S75) (v : ∀ (s_ : List UInt8) (prefix_ : List UInt8), preTwo s_ prefix_ → VC62 s_ prefix_ (fun r => r = strings_HasPrefix s_ prefix_)) : S62 := by
 intro w χ s_ prefix_    hp 
 refine (W62 k75 w χ s_ prefix_    _ (v s_ prefix_ hp)).mono ?_
 rintro _ _ _ _ ⟨r, rfl, h⟩
 exact h
/-- internal/stringslite.CutPrefix -/
theorem W97 (k75 : S75) (w0 : World) (χ0 : Nat → Nat) (s_ : List UInt8) (prefix_ : List UInt8) (Q : (List UInt8) × Bool → Prop) (hm : VC97 s_ prefix_ Q) :
  Ret Tryd.prog 97 #[.string (bs s_), .string (bs prefix_)] xnone w0 χ0 (fun w χ' v => ∃ r, Q r ∧ v = .tuple #[.string (bs r.1), .bool r.2]) := by
 unfold VC97 at hm
 refine enter Tryd.func97 rfl (vals := [.string (bs s_), .string (bs prefix_)]) kr ?_
 intro ρ a hS hO hM
 clear hM
 refine rP T hS ⟨[(0, Z s_), (1, Z prefix_)], []⟩ fun a hS => ?_
 refine wseq ?_
 refine regO ?_
 refine oP T hS 2 ⟨[(0, Z s_), (1, Z prefix_), (6, Z s_), (7, Z prefix_)], []⟩ fun a hS => ?_
 obtain ⟨hq, hm⟩ := hm
 refine op1 (call hS kr kr hb75 kr (fun _ _ => rfl) (k75 _ _ s_ prefix_ hq) ?_)
 intro v101 a w102 χ103 hE hp hS
 clear hq
 replace hO := hO.mv hE rfl rfl
 clear hE
 obtain ⟨r104, hr⟩ : ∃ r, internal_stringslite_HasPrefix s_ prefix_ = r := ⟨_, rfl⟩
 replace hm := hm r104 hr
 rw [hr] at hp
 clear hr
 subst hp
 refine eP T hS ⟨[(0, Z s_), (1, Z prefix_), (9, B (!r104))], []⟩ fun a hS => ?_
 refine wcond hS (b := (!r104)) kr (fun hb => ?_) (fun hb => ?_)
 ·replace hm := hm.1 hb
  refine rP T hS ⟨[(4, Z s_), (5, B false)], []⟩ fun a hS => ?_
  refine wret ?_
  exact fin T hS hO (fun c => c) rfl (r := [.string (bs s_), .bool false]) kr (fun χ' hM hC => ⟨(s_, false), hm, rfl⟩)
 ·replace hm := hm.2 hb
  refine wskip ?_
  refine regO ?_
  refine oP T hS 3 ⟨[(11, Z s_), (13, I ((prefix_.length : Nat) : Int))], []⟩ fun a hS => ?_
  obtain ⟨hq, hm⟩ := hm
  refine op1 (sslice1 (kl := .i64) (s := s_) T hS kr kr kr kr kr hq.1 hq.2 ?_)
  intro a hS
  clear hq
  refine eP T hS ⟨[(4, Z (s_.drop ((prefix_.length : Nat) : Int).toNat)), (5, B true)], []⟩ fun a hS => ?_
  refine wret ?_
  exact fin T hS hO (fun c => c) rfl (r := [.string (bs (s_.drop ((prefix_.length : Nat) : Int).toNat)), .bool true]) kr (fun χ' hM hC => ⟨((s_.drop ((prefix_.length : Nat) : Int).toNat), true), hm, rfl⟩)
theorem C97 (k75 : S75) (v : ∀ (s_ : List UInt8) (prefix_ : List UInt8), preTwo s_ prefix_ → VC97 s_ prefix_ (fun r => r = internal_stringslite_CutPrefix s_ prefix_)) : S97 := by
 intro w χ s_ prefix_    hp 
 refine (W97 k75 w χ s_ prefix_    _ (v s_ prefix_ hp)).mono ?_
 rintro _ _ _ _ ⟨r, rfl, h⟩
 exact h
/-- strings.CutPrefix -/
theorem W89 (k97 : S97) (w0 : World) (χ0 : Nat → Nat) (s_ : List UInt8) (prefix_ : List UInt8) (Q : (List UInt8) × Bool → Prop) (hm : VC89 s_ prefix_ Q) :
  Ret Tryd.prog 89 #[.string (bs s_), .string (bs prefix_)] xnone w0 χ0 (fun w χ' v => ∃ r, Q r ∧ v = .tuple #[.string (bs r.1), .bool r.2]) := by
 unfold VC89 at hm
 refine enter Tryd.func89 rfl (vals := [.string (bs s_), .string (bs prefix_)]) kr ?_
 intro ρ a hS hO hM
 clear hM
 refine rP T hS ⟨[(0, Z s_), (1, Z prefix_)], []⟩ fun a hS => ?_
 refine regO ?_
 refine oP T hS 2 ⟨[(6, Z s_), (7, Z prefix_)], []⟩ fun a hS => ?_
 obtain ⟨hq, hm⟩ := hm
 refine op1 (call hS kr kr hb97 kr (fun _ _ => rfl) (k97 _ _ s_ prefix_ hq) ?_)
 intro v101 a w102 χ103 hE hp hS
 clear hq
 replace hO := hO.mv hE rfl rfl
 clear hE
 obtain ⟨r104, hr⟩ : ∃ r, internal_stringslite_CutPrefix s_ prefix_ = r := ⟨_, rfl⟩
 replace hm := hm r104 hr
 rw [hr] at hp
 clear hr
 subst hp
 refine eP T hS ⟨[(4, Z r104.1), (5, B r104.2)], []⟩ fun a hS => ?_
 refine wret ?_
 exact fin T hS hO (fun c => c) rfl (r := [.string (bs r104.1), .bool r104.2]) kr (fun χ' hM hC => ⟨(r104.1, r104.2), hm, rfl⟩)
theorem C89 (k97 : S97) (v : ∀ (s_ : List UInt8) (prefix_ : List UInt8), preTwo s_ prefix_ → VC89 s_ prefix_ (fun r => r = strings_CutPrefix s_ prefix_)) : S89 := by
 intro w χ s_ prefix_    hp 
 refine (W89 k97 w χ s_ prefix_    _ (v s_ prefix_ hp)).mono ?_
 rintro _ _ _ _ ⟨r, rfl, h⟩
 exact h
/-- internal/stringslite.Cut -/
theorem W61 (k74 : S74) (w0 : World) (χ0 : Nat → Nat) (s_ : List UInt8) (sep : List UInt8) (Q : (List UInt8) × (List UInt8) × Bool → Prop) (hm : VC61 s_ sep Q) :
  Ret Tryd.prog 61 #[.string (bs s_), .string (bs sep)] xnone w0 χ0 (fun w χ' v => ∃ r, Q r ∧ v = .tuple #[.string (bs r.1), .string (bs r.2.1), .bool r.2.2]) := by
 unfold VC61 at hm
 refine enter Tryd.func61 rfl (vals := [.string (bs s_), .string (bs sep)]) kr ?_
 intro ρ a hS hO hM
 clear hM
 refine rP T hS ⟨[(0, Z s_), (1, Z sep)], []⟩ fun a hS => ?_
 refine wseq ?_
 refine regO ?_
 refine oP T hS 2 ⟨[(0, Z s_), (1, Z sep), (8, Z s_), (9, Z sep)], []⟩ fun a hS => ?_
 obtain ⟨hq, hm⟩ := hm
 refine op1 (call hS kr kr hb74 kr (fun _ _ => rfl) (k74 _ _ s_ sep hq) ?_)
 intro v101 a w102 χ103 hE hp hS
 clear hq
 replace hO := hO.mv hE rfl rfl
 clear hE
 obtain ⟨r104, hr⟩ : ∃ r, internal_stringslite_Index s_ sep = r := ⟨_, rfl⟩
 replace hm := hm r104 hr
 rw [hr] at hp
 clear hr
 subst hp
 refine eP T hS ⟨[(0, Z s_), (1, Z sep), (7, I r104)], []⟩ fun a hS => ?_
 refine rP T hS ⟨[(0, Z s_), (1, Z sep), (7, I r104), (12, B (decide (r104 ≥ 0)))], []⟩ fun a hS => ?_
 refine wcond hS (b := decide (r104 ≥ 0)) kr (fun hb => ?_) (fun hb => ?_)
 ·replace hm := hm.1 hb
  refine drawnSX [] mixed hS ?_
  intro w105 χ106 hS hE hD hH
  replace hO := hO.mv hE rfl rfl
  clear hE
  refine tk T [0, 1, 3, 4, 5, 6, 7] [] hS hH #[true, true, false, true, true, true, true, true, false, false, false, false] 5 ⟨[(13, Z s_), (14, I r104), (16, Z s_), (20, I (IntKind.i64.wrap (r104 + ((sep.length : Nat) : Int))))], []⟩ fun a hS => ?_
  obtain ⟨hq, hm⟩ := hm
  refine dsslice0 (kh := .i64) (s := s_) T 2 hS kr kr kr (by rfl) kr hH kr kr kr hq.1 hq.2 ?_
  intro a hS
  clear hq
  refine tk T [9] [] hS hH #[true, true, true, true, true, true, true, true, false, true, false, false] 3 ⟨[(4, Z (s_.take r104.toNat)), (16, Z s_), (20, I (IntKind.i64.wrap (r104 + ((sep.length : Nat) : Int))))], []⟩ fun a hS => ?_
  obtain ⟨hq, hm⟩ := hm
  refine dsslice1 (kl := .i64) (s := s_) T 8 hS kr kr kr (by rfl) kr hH kr kr kr hq.1 hq.2 ?_
  intro a hS
  clear hq
  refine tk T [10, 11] [] hS hH #[true, true, true, true, true, true, true, true, true, true, true, true] 0 ⟨[(4, Z (s_.take r104.toNat)), (5, Z (s_.drop (IntKind.i64.wrap (r104 + ((sep.length : Nat) : Int))).toNat)), (6, B true)], []⟩ fun a hS => ?_
  refine drawnDone kr ?_
  clear hD hH
  replace hS := hS.sl ⟨[(4, Z (s_.take r104.toNat)), (5, Z (s_.drop (IntKind.i64.wrap (r104 + ((sep.length : Nat) : Int))).toNat)), (6, B true)], []⟩
  refine wret ?_
  exact fin T hS hO (fun c => c) rfl (r := [.string (bs (s_.take r104.toNat)), .string (bs (s_.drop (IntKind.i64.wrap (r104 + ((sep.length : Nat) : Int))).toNat)), .bool true]) kr (fun χ' hM hC => ⟨((s_.take r104.toNat), (s_.drop (IntKind.i64.wrap (r104 + ((sep.length : Nat) : Int))).toNat), true), hm, rfl⟩)
 ·replace hm := hm.2 hb
  refine wskip ?_
  refine rP T hS ⟨[(4, Z s_), (5, Z ([] : List UInt8)), (6, B false)], []⟩ fun a hS => ?_
  refine wret ?_
  exact fin T hS hO (fun c => c) rfl (r := [.string (bs s_), .string (bs ([] : List UInt8)), .bool false]) kr (fun χ' hM hC => ⟨(s_, ([] : List UInt8), false), hm, rfl⟩)
theorem C61 (k74 : S74) (v : ∀ (s_ : List UInt8) (sep : List UInt8), preOne s_ sep → VC61 s_ sep (fun r => r = internal_stringslite_Cut s_ sep)) : S61 := by
 intro w χ s_ sep    hp 
 refine (W61 k74 w χ s_ sep    _ (v s_ sep hp)).mono ?_
 rintro _ _ _ _ ⟨r, rfl, h⟩
 exact h
/-- strings.Cut -/
theorem W38 (k61 : S61) (w0 : World) (χ0 : Nat → Nat) (s_ : List UInt8) (sep : List UInt8) (Q : (List UInt8) × (List UInt8) × Bool → Prop) (hm : VC38 s_ sep Q) :
  Ret Tryd.prog 38 #[.string (bs s_), .string (bs sep)] xnone w0 χ0 (fun w χ' v => ∃ r, Q r ∧ v = .tuple #[.string (bs r.1), .string (bs r.2.1), .bool r.2.2]) := by
 unfold VC38 at hm
 refine enter Tryd.func38 rfl (vals := [.string (bs s_), .string (bs sep)]) kr ?_
 intro ρ a hS hO hM
 clear hM
 refine rP T hS ⟨[(0, Z s_), (1, Z sep)], []⟩ fun a hS => ?_
 refine regO ?_
 refine oP T hS 2 ⟨[(7, Z s_), (8, Z sep)], []⟩ fun a hS => ?_
 obtain ⟨hq, hm⟩ := hm
 refine op1 (call hS kr kr hb61 kr (fun _ _ => rfl) (k61 _ _ s_ sep hq) ?_)
 intro v101 a w102 χ103 hE hp hS
 clear hq
 replace hO := hO.mv hE rfl rfl
 clear hE
 obtain ⟨r104, hr⟩ : ∃ r, internal_stringslite_Cut s_ sep = r := ⟨_, rfl⟩
 replace hm := hm r104 hr
 rw [hr] at hp
 clear hr
 subst hp
 refine eP T hS ⟨[(4, Z r104.1), (5, Z r104.2.1), (6, B r104.2.2)], []⟩ fun a hS => ?_
 refine wret ?_
 exact fin T hS hO (fun c => c) rfl (r := [.string (bs r104.1), .string (bs r104.2.1), .bool r104.2.2]) kr (fun χ' hM hC => ⟨(r104.1, r104.2.1, r104.2.2), hm, rfl⟩)
theorem C38 (k61 : S61) (v : ∀ (s_ : List UInt8) (sep : List UInt8), preOne s_ sep → VC38 s_ sep (fun r => r = strings_Cut s_ sep)) : S38 := by
 intro w χ s_ sep    hp 
 refine (W38 k61 w χ s_ sep    _ (v s_ sep hp)).mono ?_
 rintro _ _ _ _ ⟨r, rfl, h⟩
 exact h
/-- replevin/token.tokens -/
theorem W39 (k62 : S62) (k63 : S63) (w0 : World) (χ0 : Nat → Nat) (s_ : List UInt8) (line : Int) (at_ : Int) (Q : (List Token_Token) → Prop) (hm : VC39 s_ line at_ Q) :
  Ret Tryd.prog 39 #[.string (bs s_), .int .i64 line, .int .i64 at_] xnone w0 χ0 (fun w χ' v => ∃ r, Q r ∧ ∃ (ra1 : Option Addr) (rc1 : Nat), v = .slice ra1 r.length rc1 ∧ RS tToken_Token w χ' ra1 r rc1) := by
 unfold VC39 at hm
 refine enter Tryd.func39 rfl (vals := [.string (bs s_), .int .i64 line, .int .i64 at_]) kr ?_
 intro ρ a hS hO hM
 clear hM
 refine rP T hS ⟨[(0, Z s_), (1, I line), (2, I at_)], []⟩ fun a hS => ?_
 obtain ⟨I1_0, μ1_0, I1_1, μ1_1, hmf, hm0, hm1⟩ := hm
 refine wlabels2 (σ := (List Token_Token) × Int × Int) 0 1 (fun l s a w => ∃ (ρ : Nat → Nat) (χ : Nat → Nat) (a102 : Option Addr) (c103 : Nat), (bif Nat.beq l 1 then I1_1 s.1 s.2.1 s.2.2 else I1_0 s.1 s.2.1 s.2.2) ∧ St Tryd.f39.ntmps ⟨[(0, Z s_), (1, I line), (2, I at_), (7, Sl a102 s.1 c103), (8, I s.2.1), (9, I s.2.2)], []⟩ ρ a w χ ∧ Old w0 χ0 w χ ∧ OS tToken_Token 49 w χ 1007 a102 s.1 c103) (fun l s => (bif Nat.beq l 1 then μ1_1 s.1 s.2.1 s.2.2 else μ1_0 s.1 s.2.1 s.2.2)) (by rfl) (by rfl) (by rfl) ?_ (fun H1 => ?_) (fun H0 H1 => ?_)
 ·rintro ⟨out_101, i_105, from_106⟩ a w141 ⟨ρ, χ140, a102, c103, hI, hS, hO, h104⟩
  replace hm := hm1 out_101 i_105 from_106 hI
  clear hI hmf hm0 hm1
  refine wrest rfl ?_
  refine rP T hS ⟨[(0, Z s_), (1, I line), (2, I at_), (7, Sl a102 out_101 c103), (8, I (IntKind.i64.wrap (i_105 + 1))), (9, I from_106)], []⟩ fun a hS => ?_
  refine wseq ?_
  refine wcut (fun a w => ∃ (ρ : Nat → Nat) (χ : Nat → Nat) (out_113 : List Token_Token) (x_117 : Bool) (a114 : Option Addr) (c115 : Nat), VC39_J1 s_ line at_ I1_0 μ1_0 I1_1 μ1_1 out_101 i_105 from_106 out_113 x_117 ∧ St Tryd.f39.ntmps ⟨[(0, Z s_), (1, I line), (2, I at_), (7, Sl a114 out_113 c115), (8, I (IntKind.i64.wrap (i_105 + 1))), (9, I from_106), (41, B x_117)], []⟩ ρ a w χ ∧ Old w0 χ0 w χ ∧ OS tToken_Token 49 w χ 1007 a114 out_113 c115) ?_ ?_
  ·refine region ?_
   refine oP T hS 5 ⟨[(0, Z s_), (1, I line), (2, I at_), (7, Sl a102 out_101 c103), (8, I (IntKind.i64.wrap (i_105 + 1))), (9, I from_106), (35, B (decide ((IntKind.i64.wrap (i_105 + 1)) < ((s_.length : Nat) : Int))))], []⟩ fun a hS => ?_
   rcases Bool.eq_false_or_eq_true (decide ((IntKind.i64.wrap (i_105 + 1)) < ((s_.length : Nat) : Int))) with hb | hb
   ·replace hS := hS.lit (t := 35) kr hb
    replace hm := hm.1 hb
    refine oP T hS 2 ⟨[(0, Z s_), (1, I line), (2, I at_), (7, Sl a102 out_101 c103), (8, I (IntKind.i64.wrap (i_105 + 1))), (9, I from_106), (35, B true), (36, Z s_), (37, I (IntKind.i64.wrap (i_105 + 1)))], []⟩ fun a hS => ?_
    obtain ⟨hq, hm⟩ := hm
    refine op1 (sindex (k := .i64) T hS kr kr kr kr kr hq.1 hq.2 ?_)
    intro a hS
    clear hq
    refine op1 (call hS kr kr hb63 kr (fun _ _ => rfl) (k63 _ _ ([32, 9, 13] : List UInt8) ((gi s_ (IntKind.i64.wrap (i_105 + 1))).toNat : Int)) ?_)
    intro v127 a w128 χ129 hE hp hS
    replace hO := hO.mv hE rfl rfl
    replace h104 := h104.mv hE rfl rfl
    clear hE
    obtain ⟨r130, hr⟩ : ∃ r, strings_IndexByte ([32, 9, 13] : List UInt8) ((gi s_ (IntKind.i64.wrap (i_105 + 1))).toNat : Int) = r := ⟨_, rfl⟩
    replace hm := hm r130 hr
    rw [hr] at hp
    clear hr
    subst hp
    refine eP T hS ⟨[(0, Z s_), (1, I line), (2, I at_), (7, Sl a102 out_101 c103), (8, I (IntKind.i64.wrap (i_105 + 1))), (9, I from_106), (36, Z s_), (37, I (IntKind.i64.wrap (i_105 + 1))), (38, V (.int .u8 ((gi s_ (IntKind.i64.wrap (i_105 + 1))).toNat : Int))), (39, I r130), (40, B (decide (r130 < 0))), (41, B (decide (r130 < 0)))], []⟩ fun a hS => ?_
    exact ⟨ρ, _, out_101, decide (r130 < 0), a102, c103, hm, hS.sl _, hO, h104⟩
   ·replace hS := hS.lit (t := 35) kr hb
    replace hm := hm.2 hb
    refine eP T hS ⟨[(0, Z s_), (1, I line), (2, I at_), (7, Sl a102 out_101 c103), (8, I (IntKind.i64.wrap (i_105 + 1))), (9, I from_106), (41, B false)], []⟩ fun a hS => ?_
    exact ⟨ρ, _, out_101, false, a102, c103, hm, hS.sl _, hO, h104⟩
  ·rintro a w132 ⟨ρ, χ131, out_113, x_117, a114, c115, hm, hS, hO, h116⟩
   unfold VC39_J1 at hm
   refine wcond hS (b := x_117) kr (fun hb => ?_) (fun hb => ?_)
   ·replace hm := hm.1 hb
    refine wgoto (by rfl) ?_
    exact ⟨⟨out_113, IntKind.i64.wrap (i_105 + 1), from_106⟩, ⟨ρ, _, a114, c115, hm.1, hS.sl _, hO, h116⟩, hm.2⟩
   ·replace hm := hm.2 hb
    refine wskip ?_
    refine regO ?_
    refine oP T hS 8 ⟨[(0, Z s_), (1, I line), (2, I at_), (7, Sl a114 out_113 c115), (8, I (IntKind.i64.wrap (i_105 + 1))), (9, I from_106), (42, Sl a114 out_113 c115), (43, I line), (46, I (IntKind.i64.wrap (at_ + from_106))), (47, Z s_), (48, I from_106), (49, I (IntKind.i64.wrap (i_105 + 1)))], []⟩ fun a hS => ?_
    obtain ⟨hq, hm⟩ := hm
    refine op1 (sslice2 (kl := .i64) (kh := .i64) (s := s_) T hS kr kr kr kr kr kr hq.1 hq.2.1 hq.2.2 ?_)
    intro a hS
    clear hq
    refine oP T hS 1 ⟨[(0, Z s_), (1, I line), (2, I at_), (7, Sl a114 out_113 c115), (8, I (IntKind.i64.wrap (i_105 + 1))), (9, I from_106), (42, Sl a114 out_113 c115), (51, V (.agg #[.int .i64 line, .int .i64 (IntKind.i64.wrap (at_ + from_106)), .string (bs ((s_.take (IntKind.i64.wrap (i_105 + 1)).toNat).drop from_106.toNat))]))], []⟩ fun a hS => ?_
    refine op1 (lit (E := 49) (col := 0) (T := tToken_Token) (vals := [.agg #[.int .i64 line, .int .i64 (IntKind.i64.wrap (at_ + from_106)), .string (bs ((s_.take (IntKind.i64.wrap (i_105 + 1)).toNat).drop from_106.toNat))]]) (ys := [(⟨line, IntKind.i64.wrap (at_ + from_106), ((s_.take (IntKind.i64.wrap (i_105 + 1)).toNat).drop from_106.toNat)⟩ : Token_Token)]) T hS kr kr kr kr (by exact ⟨rfl, trivial⟩) rfl kr kr kr kr ?_)
    intro b118 a w119 χ120 hE h121 hN hS
    clear hN
    replace hO := hO.mv hE rfl rfl
    replace h116 := h116.mv hE rfl rfl
    clear hE
    replace h121 := h121.rs0
    obtain ⟨hq, hm⟩ := hm
    obtain ⟨news, hN⟩ := h121.src
    refine op1 (append (E := 49) (T := tToken_Token) (col := 1007) (xs := out_113) T hS kr kr kr kr h116 hN kr kr kr kr hq ?_)
    intro a125 c126 a w122 χ123 hE h124 hS
    clear hq hN
    clear h116
    replace hO := hO.mv hE rfl rfl
    replace h121 := h121.mv hE rfl
    clear hE
    refine eP T hS ⟨[(0, Z s_), (1, I line), (2, I at_), (7, Sl a125 (out_113 ++ [(⟨line, IntKind.i64.wrap (at_ + from_106), ((s_.take (IntKind.i64.wrap (i_105 + 1)).toNat).drop from_106.toNat)⟩ : Token_Token)]) c126), (8, I (IntKind.i64.wrap (i_105 + 1))), (9, I from_106)], []⟩ fun a hS => ?_
    refine wgoto (by rfl) ?_
    exact ⟨⟨out_113 ++ [(⟨line, IntKind.i64.wrap (at_ + from_106), ((s_.take (IntKind.i64.wrap (i_105 + 1)).toNat).drop from_106.toNat)⟩ : Token_Token)], IntKind.i64.wrap (i_105 + 1), from_106⟩, ⟨ρ, _, a125, c126, hm.1, hS.sl _, hO, h124⟩, hm.2⟩
 ·rintro ⟨out_101, i_105, from_106⟩ a w143 ⟨ρ, χ142, a102, c103, hI, hS, hO, h104⟩
  replace hm := hm0 out_101 i_105 from_106 hI
  clear hI hmf hm0 hm1
  refine wrest rfl ?_
  refine wseq ?_
  refine rP T hS ⟨[(0, Z s_), (1, I line), (2, I at_), (7, Sl a102 out_101 c103), (8, I i_105), (9, I from_106), (19, B (i_105 == ((s_.length : Nat) : Int)))], []⟩ fun a hS => ?_
  refine wcond hS (b := (i_105 == ((s_.length : Nat) : Int))) kr (fun hb => ?_) (fun hb => ?_)
  ·replace hm := hm.1 hb
   refine rP T hS ⟨[(6, Sl a102 out_101 c103)], []⟩ fun a hS => ?_
   refine wret ?_
   obtain ⟨χ107, hE, hF⟩ := h104.freeze (by decide)
   replace hS := hS.ev hE (xone_box kr)
   replace hO := hO.mv hE rfl rfl
   have h108 := hF; clear hE hF
   exact fin T hS hO (fun c => c) rfl (r := [.slice a102 out_101.length c103]) kr (fun χ' hM hC => ⟨out_101, hm, a102, c103, rfl, h108.m0 hM⟩)
  ·replace hm := hm.2 hb
   refine wskip ?_
   refine wseq ?_
   refine regO ?_
   refine oP T hS 2 ⟨[(0, Z s_), (1, I line), (2, I at_), (7, Sl a102 out_101 c103), (8, I i_105), (9, I from_106), (21, Z s_), (22, I i_105)], []⟩ fun a hS => ?_
   obtain ⟨hq, hm⟩ := hm
   refine op1 (sindex (k := .i64) T hS kr kr kr kr kr hq.1 hq.2 ?_)
   intro a hS
   clear hq
   refine op1 (call hS kr kr hb63 kr (fun _ _ => rfl) (k63 _ _ ([32, 9, 13] : List UInt8) ((gi s_ i_105).toNat : Int)) ?_)
   intro v109 a w110 χ111 hE hp hS
   replace hO := hO.mv hE rfl rfl
   replace h104 := h104.mv hE rfl rfl
   clear hE
   obtain ⟨r112, hr⟩ : ∃ r, strings_IndexByte ([32, 9, 13] : List UInt8) ((gi s_ i_105).toNat : Int) = r := ⟨_, rfl⟩
   replace hm := hm r112 hr
   rw [hr] at hp
   clear hr
   subst hp
   refine eP T hS ⟨[(0, Z s_), (1, I line), (2, I at_), (7, Sl a102 out_101 c103), (8, I i_105), (9, I from_106), (25, B (decide (r112 ≥ 0)))], []⟩ fun a hS => ?_
   refine wcond hS (b := decide (r112 ≥ 0)) kr (fun hb => ?_) (fun hb => ?_)
   ·replace hm := hm.1 hb
    refine rP T hS ⟨[(0, Z s_), (1, I line), (2, I at_), (7, Sl a102 out_101 c103), (8, I (IntKind.i64.wrap (i_105 + 1))), (9, I from_106)], []⟩ fun a hS => ?_
    refine wgoto (by rfl) ?_
    exact ⟨⟨out_101, IntKind.i64.wrap (i_105 + 1), from_106⟩, ⟨ρ, _, a102, c103, hm.1, hS.sl _, hO, h104⟩, hm.2⟩
   ·replace hm := hm.2 hb
    refine wskip ?_
    refine rP T hS ⟨[(0, Z s_), (1, I line), (2, I at_), (7, Sl a102 out_101 c103), (8, I i_105), (9, I i_105)], []⟩ fun a hS => ?_
    refine wseq ?_
    refine wlabel ?_
    exact wfall H1 ⟨out_101, i_105, i_105⟩ ⟨ρ, _, a102, c103, hm.1, hS.sl _, hO, h104⟩ (fun _ hx => Nat.lt_of_lt_of_le hx hm.2)
 ·replace hm := hmf
  clear hmf hm0 hm1
  refine rP T hS ⟨[(0, Z s_), (1, I line), (2, I at_), (7, V (.slice none 0 0))], []⟩ fun a hS => ?_
  refine rP T hS ⟨[(0, Z s_), (1, I line), (2, I at_), (7, V (.slice none 0 0)), (8, I 0), (9, I 0)], []⟩ fun a hS => ?_
  refine wseq ?_
  refine wcut (fun a w => ∃ (ρ : Nat → Nat) (χ : Nat → Nat) (x_133 : Bool), VC39_J2 Q I1_0 x_133 ∧ St Tryd.f39.ntmps ⟨[(0, Z s_), (1, I line), (2, I at_), (7, V (.slice none 0 0)), (8, I 0), (9, I 0), (15, B x_133)], []⟩ ρ a w χ ∧ Old w0 χ0 w χ) ?_ ?_
  ·refine region ?_
   refine oP T hS 3 ⟨[(0, Z s_), (1, I line), (2, I at_), (7, V (.slice none 0 0)), (8, I 0), (9, I 0), (12, B (s_ == ([99] : List UInt8)))], []⟩ fun a hS => ?_
   rcases Bool.eq_false_or_eq_true (s_ == ([99] : List UInt8)) with hb | hb
   ·replace hS := hS.lit (t := 12) kr hb
    replace hm := hm.1 hb
    refine eP T hS ⟨[(0, Z s_), (1, I line), (2, I at_), (7, V (.slice none 0 0)), (8, I 0), (9, I 0), (15, B true)], []⟩ fun a hS => ?_
    exact ⟨ρ, _, true, hm, hS.sl _, hO⟩
   ·replace hS := hS.lit (t := 12) kr hb
    replace hm := hm.2 hb
    refine oP T hS 1 ⟨[(0, Z s_), (1, I line), (2, I at_), (7, V (.slice none 0 0)), (8, I 0), (9, I 0), (12, B false), (13, Z s_)], []⟩ fun a hS => ?_
    obtain ⟨hq, hm⟩ := hm
    refine op1 (call hS kr kr hb62 kr (fun _ _ => rfl) (k62 _ _ s_ ([99, 32] : List UInt8) hq) ?_)
    intro v134 a w135 χ136 hE hp hS
    clear hq
    replace hO := hO.mv hE rfl rfl
    clear hE
    obtain ⟨r137, hr⟩ : ∃ r, strings_HasPrefix s_ ([99, 32] : List UInt8) = r := ⟨_, rfl⟩
    replace hm := hm r137 hr
    rw [hr] at hp
    clear hr
    subst hp
    refine eP T hS ⟨[(0, Z s_), (1, I line), (2, I at_), (7, V (.slice none 0 0)), (8, I 0), (9, I 0), (15, B r137)], []⟩ fun a hS => ?_
    exact ⟨ρ, _, r137, hm, hS.sl _, hO⟩
  ·rintro a w139 ⟨ρ, χ138, x_133, hm, hS, hO⟩
   unfold VC39_J2 at hm
   refine wcond hS (b := x_133) kr (fun hb => ?_) (fun hb => ?_)
   ·replace hm := hm.1 hb
    refine rP T hS ⟨[(6, V (.slice none 0 0))], []⟩ fun a hS => ?_
    refine wret ?_
    exact fin T hS hO (fun c => c) rfl (r := [.slice none 0 0]) kr (fun χ' hM hC => ⟨[], hm, none, 0, rfl, RS.empty _ _ _⟩)
   ·replace hm := hm.2 hb
    refine wskip ?_
    refine wseq ?_
    refine wlabel ?_
    exact wfall H0 ⟨[], 0, 0⟩ ⟨ρ, _, none, 0, hm, hS.sl _, hO, (OS.nil _ _ _ _ _)⟩ (fun _ _ => trivial)
theorem C39 (k62 : S62) (k63 : S63) (v : ∀ (s_ : List UInt8) (line : Int) (at_ : Int), preTok s_ line at_ → VC39 s_ line at_ (fun r => r = token_tokens s_ line at_)) : S39 := by
 intro w χ s_ line at_    hp 
 refine (W39 k62 k63 w χ s_ line at_    _ (v s_ line at_ hp)).mono ?_
 rintro _ _ _ _ ⟨r, rfl, h⟩
 exact h
/-- replevin/token.numeral -/
theorem W78 (k89 : S89) (w0 : World) (χ0 : Nat → Nat) (s_ : List UInt8) (Q : (List UInt8) × Bool × Bool → Prop) (hm : VC78 s_ Q) :
  Ret Tryd.prog 78 #[.string (bs s_)] xnone w0 χ0 (fun w χ' v => ∃ r, Q r ∧ v = .tuple #[.string (bs r.1), .bool r.2.1, .bool r.2.2]) := by
 unfold VC78 at hm
 refine enter Tryd.func78 rfl (vals := [.string (bs s_)]) kr ?_
 intro ρ a hS hO hM
 clear hM
 refine rP T hS ⟨[(0, Z s_)], []⟩ fun a hS => ?_
 refine regO ?_
 refine oP T hS 1 ⟨[(9, Z s_)], []⟩ fun a hS => ?_
 obtain ⟨hq, hm⟩ := hm
 refine op1 (call hS kr kr hb89 kr (fun _ _ => rfl) (k89 _ _ s_ ([45] : List UInt8) hq) ?_)
 intro v101 a w102 χ103 hE hp hS
 clear hq
 replace hO := hO.mv hE rfl rfl
 clear hE
 obtain ⟨r104, hr⟩ : ∃ r, strings_CutPrefix s_ ([45] : List UInt8) = r := ⟨_, rfl⟩
 replace hm := hm r104 hr
 rw [hr] at hp
 clear hr
 subst hp
 refine eP T hS ⟨[(5, Z r104.1), (6, B r104.2)], []⟩ fun a hS => ?_
 refine wseq ?_
 refine wcut (fun a w => ∃ (ρ : Nat → Nat) (χ : Nat → Nat) (x_105 : Bool), VC78_J1 Q r104 x_105 ∧ St Tryd.f78.ntmps ⟨[(5, Z r104.1), (6, B r104.2), (27, B x_105)], []⟩ ρ a w χ ∧ Old w0 χ0 w χ) ?_ ?_
 ·refine region ?_
  refine oP T hS 3 ⟨[(5, Z r104.1), (6, B r104.2), (15, B (r104.1 == ([] : List UInt8)))], []⟩ fun a hS => ?_
  rcases Bool.eq_false_or_eq_true (r104.1 == ([] : List UInt8)) with hb | hb
  ·replace hS := hS.lit (t := 15) kr hb
   replace hm := hm.1 hb
   refine eP T hS ⟨[(5, Z r104.1), (6, B r104.2), (27, B true)], []⟩ fun a hS => ?_
   exact ⟨ρ, _, true, hm, hS.sl _, hO⟩
  ·replace hS := hS.lit (t := 15) kr hb
   replace hm := hm.2 hb
   refine oP T hS 1 ⟨[(5, Z r104.1), (6, B r104.2), (15, B false), (16, Z r104.1)], []⟩ fun a hS => ?_
   obtain ⟨hq, hm⟩ := hm
   refine op1 (sindex (k := .i64) T hS kr kr kr kr kr hq.1 hq.2 ?_)
   intro a hS
   clear hq
   refine eP T hS ⟨[(5, Z r104.1), (6, B r104.2), (27, B ((((gi r104.1 0).toNat : Int) == 48) && ((decide (((r104.1.length : Nat) : Int) > 1)) || r104.2)))], []⟩ (sp := [19, 23]) fun a hS => ?_
   exact ⟨ρ, _, ((((gi r104.1 0).toNat : Int) == 48) && ((decide (((r104.1.length : Nat) : Int) > 1)) || r104.2)), hm, hS.sl _, hO⟩
 ·rintro a w115 ⟨ρ, χ114, x_105, hm, hS, hO⟩
  unfold VC78_J1 at hm
  refine wcond hS (b := x_105) kr (fun hb => ?_) (fun hb => ?_)
  ·replace hm := hm.1 hb
   refine rP T hS ⟨[(2, Z ([] : List UInt8)), (3, B false), (4, B false)], []⟩ fun a hS => ?_
   refine wret ?_
   exact fin T hS hO (fun c => c) rfl (r := [.string (bs ([] : List UInt8)), .bool false, .bool false]) kr (fun χ' hM hC => ⟨(([] : List UInt8), false, false), hm, rfl⟩)
  ·replace hm := hm.2 hb
   refine wskip ?_
   refine wcut (fun a w => ∃ (ρ : Nat → Nat) (χ : Nat → Nat), VC78_J2 Q r104 ∧ St Tryd.f78.ntmps ⟨[(5, Z r104.1), (6, B r104.2)], []⟩ ρ a w χ ∧ Old w0 χ0 w χ) ?_ ?_
   ·refine rP T hS ⟨[(5, Z r104.1), (6, B r104.2), (7, I 0)], []⟩ fun a hS => ?_
    refine wblock ?_
    obtain ⟨I1, μ1, hm0, hm⟩ := hm
    refine wloop (σ := Int) (fun s a w => ∃ (ρ : Nat → Nat) (χ : Nat → Nat), I1 s ∧ St Tryd.f78.ntmps ⟨[(5, Z r104.1), (6, B r104.2), (7, I s)], []⟩ ρ a w χ ∧ Old w0 χ0 w χ) (fun s => μ1 s) (0) ?_ ?_
    ·exact ⟨ρ, _, hm0, hS.sl _, hO⟩
    ·rintro i_106 a w111 ⟨ρ, χ110, hI, hS, hO⟩
     replace hm := hm i_106 hI
     clear hI hm0
     refine wseq ?_
     refine rP T hS ⟨[(5, Z r104.1), (6, B r104.2), (7, I i_106), (31, B (decide (i_106 < ((r104.1.length : Nat) : Int))))], []⟩ fun a hS => ?_
     refine wcond hS (b := decide (i_106 < ((r104.1.length : Nat) : Int))) kr (fun hb => ?_) (fun hb => ?_)
     ·replace hm := hm.1 hb
      refine wskip ?_
      refine wseq ?_
      refine wblock ?_
      refine wcut (fun a w => ∃ (ρ : Nat → Nat) (χ : Nat → Nat) (x_107 : Bool), VC78_J3 Q I1 μ1 i_106 x_107 ∧ St Tryd.f78.ntmps ⟨[(5, Z r104.1), (6, B r104.2), (7, I i_106), (43, B x_107)], []⟩ ρ a w χ ∧ Old w0 χ0 w χ) ?_ ?_
      ·refine region ?_
       refine oP T hS 2 ⟨[(5, Z r104.1), (6, B r104.2), (7, I i_106), (34, Z r104.1), (35, I i_106)], []⟩ fun a hS => ?_
       obtain ⟨hq, hm⟩ := hm
       refine op1 (sindex (k := .i64) T hS kr kr kr kr kr hq.1 hq.2 ?_)
       intro a hS
       clear hq
       refine oP T hS 2 ⟨[(5, Z r104.1), (6, B r104.2), (7, I i_106), (38, B (decide (((gi r104.1 i_106).toNat : Int) < 48)))], []⟩ fun a hS => ?_
       rcases Bool.eq_false_or_eq_true (decide (((gi r104.1 i_106).toNat : Int) < 48)) with hb | hb
       ·replace hS := hS.lit (t := 38) kr hb
        replace hm := hm.1 hb
        refine eP T hS ⟨[(5, Z r104.1), (6, B r104.2), (7, I i_106), (43, B true)], []⟩ fun a hS => ?_
        exact ⟨ρ, _, true, hm, hS.sl _, hO⟩
       ·replace hS := hS.lit (t := 38) kr hb
        replace hm := hm.2 hb
        refine oP T hS 2 ⟨[(5, Z r104.1), (6, B r104.2), (7, I i_106), (38, B false), (39, Z r104.1), (40, I i_106)], []⟩ fun a hS => ?_
        obtain ⟨hq, hm⟩ := hm
        refine op1 (sindex (k := .i64) T hS kr kr kr kr kr hq.1 hq.2 ?_)
        intro a hS
        clear hq
        refine eP T hS ⟨[(5, Z r104.1), (6, B r104.2), (7, I i_106), (39, Z r104.1), (40, I i_106), (41, V (.int .u8 ((gi r104.1 i_106).toNat : Int))), (42, B (decide (((gi r104.1 i_106).toNat : Int) > 57))), (43, B (decide (((gi r104.1 i_106).toNat : Int) > 57)))], []⟩ fun a hS => ?_
        exact ⟨ρ, _, decide (((gi r104.1 i_106).toNat : Int) > 57), hm, hS.sl _, hO⟩
      ·rintro a w109 ⟨ρ, χ108, x_107, hm, hS, hO⟩
       unfold VC78_J3 at hm
       refine wcond hS (b := x_107) kr (fun hb => ?_) (fun hb => ?_)
       ·replace hm := hm.1 hb
        refine rP T hS ⟨[(2, Z ([] : List UInt8)), (3, B false), (4, B false)], []⟩ fun a hS => ?_
        refine wret ?_
        exact fin T hS hO (fun c => c) rfl (r := [.string (bs ([] : List UInt8)), .bool false, .bool false]) kr (fun χ' hM hC => ⟨(([] : List UInt8), false, false), hm, rfl⟩)
       ·replace hm := hm.2 hb
        refine wskip ?_
        refine region (eP T hS ⟨[(5, Z r104.1), (6, B r104.2), (7, I (IntKind.i64.wrap (i_106 + 1)))], []⟩ fun a hS => ?_)
        exact ⟨IntKind.i64.wrap (i_106 + 1), ⟨ρ, _, hm.1, hS.sl _, hO⟩, hm.2⟩
     ·replace hm := hm.2 hb
      refine wexit (by rfl) ?_
      exact ⟨ρ, _, hm, hS.sl _, hO⟩
   ·rintro a w113 ⟨ρ, χ112, hm, hS, hO⟩
    unfold VC78_J2 at hm
    refine rP T hS ⟨[(2, Z r104.1), (3, B r104.2), (4, B true)], []⟩ fun a hS => ?_
    refine wret ?_
    exact fin T hS hO (fun c => c) rfl (r := [.string (bs r104.1), .bool r104.2, .bool true]) kr (fun χ' hM hC => ⟨(r104.1, r104.2, true), hm, rfl⟩)
theorem C78 (k89 : S89) (v : ∀ (s_ : List UInt8), len1 s_ → VC78 s_ (fun r => r = token_numeral s_)) : S78 := by
 intro w χ s_    hp 
 refine (W78 k89 w χ s_    _ (v s_ hp)).mono ?_
 rintro _ _ _ _ ⟨r, rfl, h⟩
 exact h
/-- replevin/token.Lines -/
theorem W16 (k38 : S38) (k39 : S39) (w0 : World) (χ0 : Nat → Nat) (s_ : List UInt8) (Q : (List (List Token_Token)) → Prop) (hm : VC16 s_ Q) :
  Ret Tryd.prog 16 #[.string (bs s_)] xnone w0 χ0 (fun w χ' v => ∃ r, Q r ∧ ∃ (ra1 : Option Addr) (rc1 : Nat), v = .slice ra1 r.length rc1 ∧ RS (tSlice tToken_Token) w χ' ra1 r rc1) := by
 unfold VC16 at hm
 refine enter Tryd.func16 rfl (vals := [.string (bs s_)]) kr ?_
 intro ρ a hS hO hM
 clear hM
 refine rP T hS ⟨[(0, Z s_)], []⟩ fun a hS => ?_
 refine rP T hS ⟨[(0, Z s_), (3, V (.slice none 0 0))], []⟩ fun a hS => ?_
 refine wcut (fun a w => ∃ (ρ : Nat → Nat) (χ : Nat → Nat) (out_101 : List (List Token_Token)) (a102 : Option Addr) (c103 : Nat), VC16_J1 Q out_101 ∧ St Tryd.f16.ntmps ⟨[(3, Sl a102 out_101 c103)], []⟩ ρ a w χ ∧ Old w0 χ0 w χ ∧ OS (tSlice tToken_Token) 47 w χ 1003 a102 out_101 c103) ?_ ?_
 ·refine rP T hS ⟨[(0, Z s_), (3, V (.slice none 0 0)), (4, I 0)], []⟩ fun a hS => ?_
  refine wblock ?_
  obtain ⟨I1, μ1, hm0, hm⟩ := hm
  refine wloop (σ := (List (List Token_Token)) × Int) (fun s a w => ∃ (ρ : Nat → Nat) (χ : Nat → Nat) (a108 : Option Addr) (c109 : Nat), I1 s.1 s.2 ∧ St Tryd.f16.ntmps ⟨[(0, Z s_), (3, Sl a108 s.1 c109), (4, I s.2)], []⟩ ρ a w χ ∧ Old w0 χ0 w χ ∧ OS (tSlice tToken_Token) 47 w χ 1003 a108 s.1 c109) (fun s => μ1 s.1 s.2) (⟨[], 0⟩) ?_ ?_
  ·exact ⟨ρ, _, none, 0, hm0, hS.sl _, hO, (OS.nil _ _ _ _ _)⟩
  ·rintro ⟨out_107, at_111⟩ a w133 ⟨ρ, χ132, a108, c109, hI, hS, hO, h110⟩
   replace hm := hm out_107 at_111 hI
   clear hI hm0
   refine wseq ?_
   refine rP T hS ⟨[(0, Z s_), (3, Sl a108 out_107 c109), (4, I at_111), (11, B (decide (at_111 < ((s_.length : Nat) : Int))))], []⟩ fun a hS => ?_
   refine wcond hS (b := decide (at_111 < ((s_.length : Nat) : Int))) kr (fun hb => ?_) (fun hb => ?_)
   ·replace hm := hm.1 hb
    refine wskip ?_
    refine wblock ?_
    refine regO ?_
    refine oP T hS 2 ⟨[(0, Z s_), (3, Sl a108 out_107 c109), (4, I at_111), (13, Z s_), (14, I at_111)], []⟩ fun a hS => ?_
    obtain ⟨hq, hm⟩ := hm
    refine op1 (sslice1 (kl := .i64) (s := s_) T hS kr kr kr kr kr hq.1 hq.2 ?_)
    intro a hS
    clear hq
    obtain ⟨hq, hm⟩ := hm
    refine op1 (call hS kr kr hb38 kr (fun _ _ => rfl) (k38 _ _ (s_.drop at_111.toNat) ([10] : List UInt8) hq) ?_)
    intro v112 a w113 χ114 hE hp hS
    clear hq
    replace hO := hO.mv hE rfl rfl
    replace h110 := h110.mv hE rfl rfl
    clear hE
    obtain ⟨r115, hr⟩ : ∃ r, strings_Cut (s_.drop at_111.toNat) ([10] : List UInt8) = r := ⟨_, rfl⟩
    replace hm := hm r115 hr
    rw [hr] at hp
    clear hr
    subst hp
    refine eP T hS ⟨[(0, Z s_), (3, Sl a108 out_107 c109), (4, I at_111), (5, Z r115.1)], []⟩ fun a hS => ?_
    refine regO ?_
    refine oP T hS 6 ⟨[(0, Z s_), (3, Sl a108 out_107 c109), (4, I at_111), (5, Z r115.1), (20, Sl a108 out_107 c109), (21, Z r115.1), (24, I (IntKind.i64.wrap (((out_107.length : Nat) : Int) + 1))), (25, I at_111)], []⟩ fun a hS => ?_
    obtain ⟨hq, hm⟩ := hm
    refine op1 (call hS kr kr hb39 kr (fun _ _ => rfl) (k39 _ _ r115.1 (IntKind.i64.wrap (((out_107.length : Nat) : Int) + 1)) at_111 hq) ?_)
    intro v116 a w117 χ118 hE hp hS
    clear hq
    replace hO := hO.mv hE rfl rfl
    replace h110 := h110.mv hE rfl rfl
    clear hE
    obtain ⟨a120, c121, hp, h122⟩ := hp
    obtain ⟨r119, hr⟩ : ∃ r, token_tokens r115.1 (IntKind.i64.wrap (((out_107.length : Nat) : Int) + 1)) at_111 = r := ⟨_, rfl⟩
    replace hm := hm r119 hr
    rw [hr] at hp h122
    clear hr
    subst hp
    replace hm := hm (h122.sm kr)
    refine op1 (lit (E := 47) (col := 0) (T := (tSlice tToken_Token)) (vals := [.slice a120 r119.length c121]) (ys := [r119]) T hS kr kr kr kr (by exact ⟨⟨a120, c121, rfl, h122⟩, trivial⟩) rfl kr kr kr kr ?_)
    intro b123 a w124 χ125 hE h126 hN hS
    clear hN
    replace hO := hO.mv hE rfl rfl
    replace h110 := h110.mv hE rfl rfl
    replace h122 := h122.mv hE rfl
    clear hE
    replace h126 := h126.rs0
    obtain ⟨hq, hm⟩ := hm
    obtain ⟨news, hN⟩ := h126.src
    refine op1 (append (E := 47) (T := (tSlice tToken_Token)) (col := 1003) (xs := out_107) T hS kr kr kr kr h110 hN kr kr kr kr hq ?_)
    intro a130 c131 a w127 χ128 hE h129 hS
    clear hq hN
    clear h110
    replace hO := hO.mv hE rfl rfl
    replace h122 := h122.mv hE rfl
    replace h126 := h126.mv hE rfl
    clear hE
    refine eP T hS ⟨[(0, Z s_), (3, Sl a130 (out_107 ++ [r119]) c131), (4, I at_111), (5, Z r115.1)], []⟩ fun a hS => ?_
    refine region (eP T hS ⟨[(0, Z s_), (3, Sl a130 (out_107 ++ [r119]) c131), (4, I (IntKind.i64.wrap (at_111 + (IntKind.i64.wrap (((r115.1.length : Nat) : Int) + 1)))))], []⟩ fun a hS => ?_)
    exact ⟨⟨out_107 ++ [r119], IntKind.i64.wrap (at_111 + (IntKind.i64.wrap (((r115.1.length : Nat) : Int) + 1)))⟩, ⟨ρ, _, a130, c131, hm.1, hS.sl _, hO, h129⟩, hm.2⟩
   ·replace hm := hm.2 hb
    refine wexit (by rfl) ?_
    exact ⟨ρ, _, out_107, a108, c109, hm, hS.sl _, hO, h110⟩
 ·rintro a w135 ⟨ρ, χ134, out_101, a102, c103, hm, hS, hO, h104⟩
  unfold VC16_J1 at hm
  refine rP T hS ⟨[(2, Sl a102 out_101 c103)], []⟩ fun a hS => ?_
  refine wret ?_
  obtain ⟨χ105, hE, hF⟩ := h104.freeze (by decide)
  replace hS := hS.ev hE (xone_box kr)
  replace hO := hO.mv hE rfl rfl
  have h106 := hF; clear hE hF
  exact fin T hS hO (fun c => c) rfl (r := [.slice a102 out_101.length c103]) kr (fun χ' hM hC => ⟨out_101, hm, a102, c103, rfl, h106.m0 hM⟩)
theorem C16 (k38 : S38) (k39 : S39) (v : ∀ (s_ : List UInt8), len1 s_ → VC16 s_ (fun r => r = token_Lines s_)) : S16 := by
 intro w χ s_    hp 
 refine (W16 k38 k39 w χ s_    _ (v s_ hp)).mono ?_
 rintro _ _ _ _ ⟨r, rfl, h⟩
 exact h
/-- replevin/token.Number -/
theorem W66 (k78 : S78) (w0 : World) (χ0 : Nat → Nat) (s_ : List UInt8) (lo : Int) (hi : Int) (Q : Int × Int → Prop) (hm : VC66 s_ lo hi Q) :
  Ret Tryd.prog 66 #[.string (bs s_), .int .i64 lo, .int .i64 hi] xnone w0 χ0 (fun w χ' v => ∃ r, Q r ∧ v = .tuple #[.int .i64 r.1, .int .i64 r.2]) := by
 unfold VC66 at hm
 refine enter Tryd.func66 rfl (vals := [.string (bs s_), .int .i64 lo, .int .i64 hi]) kr ?_
 intro ρ a hS hO hM
 clear hM
 refine rP T hS ⟨[(0, Z s_), (1, I lo), (2, I hi)], []⟩ fun a hS => ?_
 refine regO ?_
 refine oP T hS 1 ⟨[(1, I lo), (2, I hi), (15, Z s_)], []⟩ fun a hS => ?_
 obtain ⟨hq, hm⟩ := hm
 refine op1 (call hS kr kr hb78 kr (fun _ _ => rfl) (k78 _ _ s_ hq) ?_)
 intro v101 a w102 χ103 hE hp hS
 clear hq
 replace hO := hO.mv hE rfl rfl
 clear hE
 obtain ⟨r104, hr⟩ : ∃ r, token_numeral s_ = r := ⟨_, rfl⟩
 replace hm := hm r104 hr
 rw [hr] at hp
 clear hr
 subst hp
 refine eP T hS ⟨[(1, I lo), (2, I hi), (8, Z r104.1), (9, B r104.2.1), (10, B r104.2.2)], []⟩ fun a hS => ?_
 refine wseq ?_
 refine rP T hS ⟨[(1, I lo), (2, I hi), (8, Z r104.1), (9, B r104.2.1), (21, B (!r104.2.2))], []⟩ fun a hS => ?_
 refine wcond hS (b := (!r104.2.2)) kr (fun hb => ?_) (fun hb => ?_)
 ·replace hm := hm.1 hb
  refine rP T hS ⟨[(6, I 0), (7, I 5)], []⟩ fun a hS => ?_
  refine wret ?_
  exact fin T hS hO (fun c => c) rfl (r := [.int .i64 0, .int .i64 5]) kr (fun χ' hM hC => ⟨(0, 5), hm, rfl⟩)
 ·replace hm := hm.2 hb
  refine wskip ?_
  refine rP T hS ⟨[(1, I lo), (2, I hi), (8, Z r104.1), (9, B r104.2.1), (11, V (.int .u64 0))], []⟩ fun a hS => ?_
  refine wcut (fun a w => ∃ (ρ : Nat → Nat) (χ : Nat → Nat) (n_105 : Int), VC66_J1 lo hi Q r104 n_105 ∧ St Tryd.f66.ntmps ⟨[(1, I lo), (2, I hi), (9, B r104.2.1), (11, V (.int .u64 n_105))], []⟩ ρ a w χ ∧ Old w0 χ0 w χ) ?_ ?_
  ·refine rP T hS ⟨[(1, I lo), (2, I hi), (8, Z r104.1), (9, B r104.2.1), (11, V (.int .u64 0)), (12, I 0)], []⟩ fun a hS => ?_
   refine wblock ?_
   obtain ⟨I1, μ1, hm0, hm⟩ := hm
   refine wloop (σ := Int × Int) (fun s a w => ∃ (ρ : Nat → Nat) (χ : Nat → Nat), I1 s.1 s.2 ∧ St Tryd.f66.ntmps ⟨[(1, I lo), (2, I hi), (8, Z r104.1), (9, B r104.2.1), (11, V (.int .u64 s.1)), (12, I s.2)], []⟩ ρ a w χ ∧ Old w0 χ0 w χ) (fun s => μ1 s.1 s.2) (⟨0, 0⟩) ?_ ?_
   ·exact ⟨ρ, _, hm0, hS.sl _, hO⟩
   ·rintro ⟨n_109, i_110⟩ a w112 ⟨ρ, χ111, hI, hS, hO⟩
    replace hm := hm n_109 i_110 hI
    clear hI hm0
    refine wseq ?_
    refine rP T hS ⟨[(1, I lo), (2, I hi), (8, Z r104.1), (9, B r104.2.1), (11, V (.int .u64 n_109)), (12, I i_110), (25, B (decide (i_110 < ((r104.1.length : Nat) : Int))))], []⟩ fun a hS => ?_
    refine wcond hS (b := decide (i_110 < ((r104.1.length : Nat) : Int))) kr (fun hb => ?_) (fun hb => ?_)
    ·replace hm := hm.1 hb
     refine wskip ?_
     refine wseq ?_
     refine wblock ?_
     refine wseq ?_
     refine rP T hS ⟨[(1, I lo), (2, I hi), (8, Z r104.1), (9, B r104.2.1), (11, V (.int .u64 n_109)), (12, I i_110), (29, B (decide (n_109 > 1844674407370955160)))], []⟩ fun a hS => ?_
     refine wcond hS (b := decide (n_109 > 1844674407370955160)) kr (fun hb => ?_) (fun hb => ?_)
     ·replace hm := hm.1 hb
      refine rP T hS ⟨[(6, I 0), (7, I 7)], []⟩ fun a hS => ?_
      refine wret ?_
      exact fin T hS hO (fun c => c) rfl (r := [.int .i64 0, .int .i64 7]) kr (fun χ' hM hC => ⟨(0, 7), hm, rfl⟩)
     ·replace hm := hm.2 hb
      refine wskip ?_
      refine region ?_
      refine oP T hS 4 ⟨[(1, I lo), (2, I hi), (8, Z r104.1), (9, B r104.2.1), (11, V (.int .u64 n_109)), (12, I i_110), (31, V (.int .u64 (IntKind.u64.wrap (10 * n_109)))), (32, Z r104.1), (33, I i_110)], []⟩ fun a hS => ?_
      obtain ⟨hq, hm⟩ := hm
      refine op1 (sindex (k := .i64) T hS kr kr kr kr kr hq.1 hq.2 ?_)
      intro a hS
      clear hq
      refine eP T hS ⟨[(1, I lo), (2, I hi), (8, Z r104.1), (9, B r104.2.1), (11, V (.int .u64 (IntKind.u64.wrap ((IntKind.u64.wrap (10 * n_109)) + (IntKind.u64.wrap (IntKind.u8.wrap (((gi r104.1 i_110).toNat : Int) - 48))))))), (12, I i_110)], []⟩ fun a hS => ?_
      refine region (eP T hS ⟨[(1, I lo), (2, I hi), (8, Z r104.1), (9, B r104.2.1), (11, V (.int .u64 (IntKind.u64.wrap ((IntKind.u64.wrap (10 * n_109)) + (IntKind.u64.wrap (IntKind.u8.wrap (((gi r104.1 i_110).toNat : Int) - 48))))))), (12, I (IntKind.i64.wrap (i_110 + 1)))], []⟩ fun a hS => ?_)
      exact ⟨⟨IntKind.u64.wrap ((IntKind.u64.wrap (10 * n_109)) + (IntKind.u64.wrap (IntKind.u8.wrap (((gi r104.1 i_110).toNat : Int) - 48)))), IntKind.i64.wrap (i_110 + 1)⟩, ⟨ρ, _, hm.1, hS.sl _, hO⟩, hm.2⟩
    ·replace hm := hm.2 hb
     refine wexit (by rfl) ?_
     exact ⟨ρ, _, n_109, hm, hS.sl _, hO⟩
  ·rintro a w114 ⟨ρ, χ113, n_105, hm, hS, hO⟩
   unfold VC66_J1 at hm
   refine wseq ?_
   refine rP T hS ⟨[(1, I lo), (2, I hi), (9, B r104.2.1), (11, V (.int .u64 n_105)), (47, B ((decide (n_105 > 9223372036854775807)) && (!(r104.2.1 && (n_105 == 9223372036854775808)))))], []⟩ (sp := [40, 42]) fun a hS => ?_
   refine wcond hS (b := ((decide (n_105 > 9223372036854775807)) && (!(r104.2.1 && (n_105 == 9223372036854775808))))) kr (fun hb => ?_) (fun hb => ?_)
   ·replace hm := hm.1 hb
    refine rP T hS ⟨[(6, I 0), (7, I 7)], []⟩ fun a hS => ?_
    refine wret ?_
    exact fin T hS hO (fun c => c) rfl (r := [.int .i64 0, .int .i64 7]) kr (fun χ' hM hC => ⟨(0, 7), hm, rfl⟩)
   ·replace hm := hm.2 hb
    refine wskip ?_
    refine rP T hS ⟨[(1, I lo), (2, I hi), (9, B r104.2.1), (13, I (IntKind.i64.wrap n_105))], []⟩ fun a hS => ?_
    refine wcut (fun a w => ∃ (ρ : Nat → Nat) (χ : Nat → Nat) (x_106 : Int), VC66_J2 lo hi Q x_106 ∧ St Tryd.f66.ntmps ⟨[(1, I lo), (2, I hi), (13, I x_106)], []⟩ ρ a w χ ∧ Old w0 χ0 w χ) ?_ ?_
    ·refine rP T hS ⟨[(1, I lo), (2, I hi), (13, I (IntKind.i64.wrap n_105)), (50, B r104.2.1)], []⟩ fun a hS => ?_
     refine wcond hS (b := r104.2.1) kr (fun hb => ?_) (fun hb => ?_)
     ·replace hm := hm.1 hb
      refine region (eP T hS ⟨[(1, I lo), (2, I hi), (13, I (IntKind.i64.wrap (0 - (IntKind.i64.wrap n_105))))], []⟩ fun a hS => ?_)
      exact ⟨ρ, _, IntKind.i64.wrap (0 - (IntKind.i64.wrap n_105)), hm, hS.sl _, hO⟩
     ·replace hm := hm.2 hb
      refine wskip ?_
      exact ⟨ρ, _, IntKind.i64.wrap n_105, hm, hS.sl _, hO⟩
    ·rintro a w108 ⟨ρ, χ107, x_106, hm, hS, hO⟩
     unfold VC66_J2 at hm
     refine wseq ?_
     refine rP T hS ⟨[(13, I x_106), (60, B ((decide (x_106 < lo)) || (decide (x_106 > hi))))], []⟩ (sp := [56]) fun a hS => ?_
     refine wcond hS (b := ((decide (x_106 < lo)) || (decide (x_106 > hi)))) kr (fun hb => ?_) (fun hb => ?_)
     ·replace hm := hm.1 hb
      refine rP T hS ⟨[(6, I 0), (7, I 7)], []⟩ fun a hS => ?_
      refine wret ?_
      exact fin T hS hO (fun c => c) rfl (r := [.int .i64 0, .int .i64 7]) kr (fun χ' hM hC => ⟨(0, 7), hm, rfl⟩)
     ·replace hm := hm.2 hb
      refine wskip ?_
      refine rP T hS ⟨[(6, I x_106), (7, I 0)], []⟩ fun a hS => ?_
      refine wret ?_
      exact fin T hS hO (fun c => c) rfl (r := [.int .i64 x_106, .int .i64 0]) kr (fun χ' hM hC => ⟨(x_106, 0), hm, rfl⟩)
theorem C66 (k78 : S78) (v : ∀ (s_ : List UInt8) (lo : Int) (hi : Int), preNum s_ lo hi → VC66 s_ lo hi (fun r => r = token_Number s_ lo hi)) : S66 := by
 intro w χ s_ lo hi    hp 
 refine (W66 k78 w χ s_ lo hi    _ (v s_ lo hi hp)).mono ?_
 rintro _ _ _ _ ⟨r, rfl, h⟩
 exact h
/-- replevin/token.Digits -/
theorem W28 (k55 : S55) (w0 : World) (χ0 : Nat → Nat) (n_ : Int) (Q : (List UInt8) → Prop) (hm : VC28 n_ Q) (hAmb : Amb w0 χ0) :
  Ret Tryd.prog 28 #[.int .i64 n_] xnone w0 χ0 (fun w χ' v => ∃ r, Q r ∧ v = .string (bs r)) := by
 unfold VC28 at hm
 refine enter Tryd.func28 rfl (vals := [.int .i64 n_]) kr ?_
 intro ρ a hS hO hM
 replace hAmb := hAmb.m0 hM
 clear hM
 refine rP T hS ⟨[(0, I n_)], []⟩ fun a hS => ?_
 refine regO ?_
 refine oP T hS 1 ⟨[(3, I n_)], []⟩ fun a hS => ?_
 obtain ⟨hq, hm⟩ := hm
 refine op1 (call hS kr kr hb55 kr (fun _ _ => rfl) (k55 _ _ n_ hq hAmb) ?_)
 intro v101 a w102 χ103 hE hp hS
 clear hq
 replace hO := hO.mv hE rfl rfl
 replace hAmb := hAmb.mv hE rfl
 clear hE
 obtain ⟨r104, hr⟩ : ∃ r, strconv_Itoa n_ = r := ⟨_, rfl⟩
 replace hm := hm r104 hr
 rw [hr] at hp
 clear hr
 subst hp
 refine eP T hS ⟨[(2, Z r104)], []⟩ fun a hS => ?_
 refine wret ?_
 exact fin T hS hO (fun c => c) rfl (r := [.string (bs r104)]) kr (fun χ' hM hC => ⟨r104, hm, rfl⟩)
theorem C28 (k55 : S55) (v : ∀ (n_ : Int), preI n_ → VC28 n_ (fun r => r = token_Digits n_)) : S28 := by
 intro w χ n_    hp hAmb
 refine (W28 k55 w χ n_    _ (v n_ hp) hAmb).mono ?_
 rintro _ _ _ _ ⟨r, rfl, h⟩
 exact h
/-- replevin/token.Join -/
theorem W52 (w0 : World) (χ0 : Nat → Nat) (lines : List (List Token_Token)) (a1 : Option Addr) (c1 : Nat) (Q : (List UInt8) → Prop) (hm : VC52 lines Q) (h1 : RS (tSlice tToken_Token) w0 χ0 a1 lines c1) :
  Ret Tryd.prog 52 #[.slice a1 lines.length c1] xnone w0 χ0 (fun w χ' v => ∃ r, Q r ∧ v = .string (bs r)) := by
 unfold VC52 at hm
 replace hm := hm (h1.sm kr)
 refine enter Tryd.func52 rfl (vals := [.slice a1 lines.length c1]) kr ?_
 intro ρ a hS hO hM
 replace h1 := h1.m0 hM
 clear hM
 refine rP T hS ⟨[(0, Sl a1 lines c1)], []⟩ fun a hS => ?_
 refine regO ?_
 refine op1 (mkbldN T 71  1004 hS kr kr kr ?_)
 intro r101 a w102 χ103 hE h104 hS
 replace hO := hO.mv hE rfl rfl
 replace h1 := h1.mv hE rfl
 clear hE
 refine doneK ?_
 refine wcut (fun a w => ∃ (ρ : Nat → Nat) (χ : Nat → Nat) (b_105 : List UInt8), VC52_J1 Q b_105 ∧ St Tryd.f52.ntmps ⟨[(3, V (.pointer (some ⟨r101, 0, none⟩)))], []⟩ ρ a w χ ∧ Old w0 χ0 w χ ∧ BL 71 5 w χ 1004 r101 b_105) ?_ ?_
 ·refine rP T hS ⟨[(3, V (.pointer (some ⟨r101, 0, none⟩))), (8, Sl a1 lines c1), (9, I ((lines.length : Nat) : Int)), (10, I 0)], []⟩ fun a hS => ?_
  refine wblock ?_
  obtain ⟨I1, μ1, hm0, hm⟩ := hm
  refine wloop (σ := (List UInt8) × Int) (fun s a w => ∃ (ρ : Nat → Nat) (χ : Nat → Nat), I1 s.1 s.2 ∧ St Tryd.f52.ntmps ⟨[(3, V (.pointer (some ⟨r101, 0, none⟩))), (8, Sl a1 lines c1), (9, I ((lines.length : Nat) : Int)), (10, I s.2)], []⟩ ρ a w χ ∧ Old w0 χ0 w χ ∧ BL 71 5 w χ 1004 r101 s.1 ∧ RS (tSlice tToken_Token) w χ a1 lines c1) (fun s => μ1 s.1 s.2) (⟨([] : List UInt8), 0⟩) ?_ ?_
  ·exact ⟨ρ, _, hm0, hS.sl _, hO, (h104.bl 5), h1⟩
  ·rintro ⟨b_111, x_114⟩ a w157 ⟨ρ, χ156, hI, hS, hO, h112, h113⟩
   replace hm := hm b_111 x_114 hI
   clear hI hm0
   refine rP T hS ⟨[(3, V (.pointer (some ⟨r101, 0, none⟩))), (8, Sl a1 lines c1), (9, I ((lines.length : Nat) : Int)), (10, I x_114), (11, B (decide (x_114 < ((lines.length : Nat) : Int))))], []⟩ fun a hS => ?_
   refine wseq ?_
   refine wcond hS (b := decide (x_114 < ((lines.length : Nat) : Int))) kr (fun hb => ?_) (fun hb => ?_)
   ·replace hm := hm.1 hb
    refine wskip ?_
    refine wseq ?_
    refine wblock ?_
    refine regO ?_
    obtain ⟨hq, hm⟩ := hm
    refine op1 (index (e := 47) (k := .i64) T hS kr kr kr kr h113 kr kr hq.1 hq.2 ?_)
    intro A115 a h116 hS
    clear hq
    refine op1 (load1 T hS kr kr kr h116 rfl kr ?_)
    intro v117 a hv hS
    obtain ⟨a118, c119, hv, h120⟩ := hv
    cases hv
    replace hm := hm (h120.sm kr)
    refine eP T hS ⟨[(3, V (.pointer (some ⟨r101, 0, none⟩))), (5, Sl a118 (gi lines x_114) c119), (8, Sl a1 lines c1), (9, I ((lines.length : Nat) : Int)), (10, I x_114)], []⟩ fun a hS => ?_
    refine wcut (fun a w => ∃ (ρ : Nat → Nat) (χ : Nat → Nat) (b_121 : List UInt8), VC52_J2 I1 μ1 b_111 x_114 b_121 ∧ St Tryd.f52.ntmps ⟨[(3, V (.pointer (some ⟨r101, 0, none⟩))), (8, Sl a1 lines c1), (9, I ((lines.length : Nat) : Int)), (10, I x_114)], []⟩ ρ a w χ ∧ Old w0 χ0 w χ ∧ BL 71 5 w χ 1004 r101 b_121 ∧ RS (tSlice tToken_Token) w χ a1 lines c1) ?_ ?_
    ·refine rP T hS ⟨[(3, V (.pointer (some ⟨r101, 0, none⟩))), (8, Sl a1 lines c1), (9, I ((lines.length : Nat) : Int)), (10, I x_114), (14, Sl a118 (gi lines x_114) c119), (15, I (((gi lines x_114).length : Nat) : Int)), (16, I 0)], []⟩ fun a hS => ?_
     refine wblock ?_
     obtain ⟨I2, μ2, hm0, hm⟩ := hm
     refine wloop (σ := (List UInt8) × Int) (fun s a w => ∃ (ρ : Nat → Nat) (χ : Nat → Nat), I2 s.1 s.2 ∧ St Tryd.f52.ntmps ⟨[(3, V (.pointer (some ⟨r101, 0, none⟩))), (8, Sl a1 lines c1), (9, I ((lines.length : Nat) : Int)), (10, I x_114), (14, Sl a118 (gi lines x_114) c119), (15, I (((gi lines x_114).length : Nat) : Int)), (16, I s.2)], []⟩ ρ a w χ ∧ Old w0 χ0 w χ ∧ BL 71 5 w χ 1004 r101 s.1 ∧ RS (tSlice tToken_Token) w χ a1 lines c1 ∧ RS tToken_Token w χ a118 (gi lines x_114) c119) (fun s => μ2 s.1 s.2) (⟨b_111, 0⟩) ?_ ?_
     ·exact ⟨ρ, _, hm0, hS.sl _, hO, h112, h113, h120⟩
     ·rintro ⟨b_128, x_132⟩ a w153 ⟨ρ, χ152, hI, hS, hO, h129, h130, h131⟩
      replace hm := hm b_128 x_132 hI
      clear hI hm0
      refine rP T hS ⟨[(3, V (.pointer (some ⟨r101, 0, none⟩))), (8, Sl a1 lines c1), (9, I ((lines.length : Nat) : Int)), (10, I x_114), (14, Sl a118 (gi lines x_114) c119), (15, I (((gi lines x_114).length : Nat) : Int)), (16, I x_132), (17, B (decide (x_132 < (((gi lines x_114).length : Nat) : Int))))], []⟩ fun a hS => ?_
      refine wseq ?_
      refine wcond hS (b := decide (x_132 < (((gi lines x_114).length : Nat) : Int))) kr (fun hb => ?_) (fun hb => ?_)
      ·replace hm := hm.1 hb
       refine wskip ?_
       refine wseq ?_
       refine wblock ?_
       refine regO ?_
       refine oP T hS 1 ⟨[(3, V (.pointer (some ⟨r101, 0, none⟩))), (8, Sl a1 lines c1), (9, I ((lines.length : Nat) : Int)), (10, I x_114), (14, Sl a118 (gi lines x_114) c119), (15, I (((gi lines x_114).length : Nat) : Int)), (16, I x_132), (18, I x_132)], []⟩ fun a hS => ?_
       obtain ⟨hq, hm⟩ := hm
       refine op1 (index (e := 49) (k := .i64) T hS kr kr kr kr h131 kr kr hq.1 hq.2 ?_)
       intro A133 a h134 hS
       clear hq
       refine op1 (loadA T hS kr kr kr h134 kr kr ?_)
       intro v135 a hv hS
       subst hv
       refine eM T hS ⟨[(3, V (.pointer (some ⟨r101, 0, none⟩))), (6, I x_132), (7, Pt 8 0), (8, Sl a1 lines c1), (9, I ((lines.length : Nat) : Int)), (10, I x_114), (14, Sl a118 (gi lines x_114) c119), (15, I (((gi lines x_114).length : Nat) : Int)), (16, I x_132)], [(8, (49, [I ((gi (gi lines x_114) x_132).Line), I ((gi (gi lines x_114) x_132).At), Z ((gi (gi lines x_114) x_132).Text)]))]⟩ fun ρ a w150 χ151 hS hE hr => ?_
       replace hO := hO.mv hE rfl rfl
       replace h129 := h129.mv hE rfl rfl
       replace h130 := h130.mv hE rfl
       replace h131 := h131.mv hE rfl
       clear hE hr
       refine wcut (fun a w => ∃ (ρ : Nat → Nat) (χ : Nat → Nat) (b_136 : List UInt8), VC52_J3 lines x_114 I2 μ2 b_128 x_132 b_136 ∧ St Tryd.f52.ntmps ⟨[(3, V (.pointer (some ⟨r101, 0, none⟩))), (7, Pt 8 0), (8, Sl a1 lines c1), (9, I ((lines.length : Nat) : Int)), (10, I x_114), (14, Sl a118 (gi lines x_114) c119), (15, I (((gi lines x_114).length : Nat) : Int)), (16, I x_132)], [(8, (49, [I ((gi (gi lines x_114) x_132).Line), I ((gi (gi lines x_114) x_132).At), Z ((gi (gi lines x_114) x_132).Text)]))]⟩ ρ a w χ ∧ Old w0 χ0 w χ ∧ BL 71 5 w χ 1004 r101 b_136 ∧ RS (tSlice tToken_Token) w χ a1 lines c1 ∧ RS tToken_Token w χ a118 (gi lines x_114) c119) ?_ ?_
       ·refine rP T hS ⟨[(3, V (.pointer (some ⟨r101, 0, none⟩))), (7, Pt 8 0), (8, Sl a1 lines c1), (9, I ((lines.length : Nat) : Int)), (10, I x_114), (14, Sl a118 (gi lines x_114) c119), (15, I (((gi lines x_114).length : Nat) : Int)), (16, I x_132), (22, B (decide (x_132 > 0)))], [(8, (49, [I ((gi (gi lines x_114) x_132).Line), I ((gi (gi lines x_114) x_132).At), Z ((gi (gi lines x_114) x_132).Text)]))]⟩ fun a hS => ?_
        refine wcond hS (b := decide (x_132 > 0)) kr (fun hb => ?_) (fun hb => ?_)
        ·replace hm := hm.1 hb
         refine region ?_
         obtain ⟨hq, hm⟩ := hm
         refine op1 (call hS kr kr hb69 kr (xone_box kr) (wb r101 1004 b_128 32 _ _ h129 hq.1 hq.2) ?_)
         intro v147 a w144 χ145 hE hp hS
         clear hq
         clear h129
         replace hO := hO.mv hE rfl rfl
         replace h130 := h130.mv hE rfl
         replace h131 := h131.mv hE rfl
         clear hE
         obtain ⟨hp, h146⟩ := hp
         subst hp
         refine doneK ?_
         exact ⟨ρ, _, b_128 ++ [UInt8.ofNat (32 : Int).toNat], hm, hS.sl _, hO, h146, h130, h131⟩
        ·replace hm := hm.2 hb
         refine wskip ?_
         exact ⟨ρ, _, b_128, hm, hS.sl _, hO, h129, h130, h131⟩
       ·rintro a w149 ⟨ρ, χ148, b_136, hm, hS, hO, h137, h138, h139⟩
        unfold VC52_J3 at hm
        refine region ?_
        refine oP T hS 2 ⟨[(3, V (.pointer (some ⟨r101, 0, none⟩))), (8, Sl a1 lines c1), (9, I ((lines.length : Nat) : Int)), (10, I x_114), (14, Sl a118 (gi lines x_114) c119), (15, I (((gi lines x_114).length : Nat) : Int)), (16, I x_132), (25, Z ((gi (gi lines x_114) x_132).Text))], []⟩ fun a hS => ?_
        obtain ⟨hq, hm⟩ := hm
        refine op1 (call hS kr kr hb26 kr (xone_box kr) (ws r101 1004 b_136 ((gi (gi lines x_114) x_132).Text) _ _ h137 hq) ?_)
        intro v143 a w140 χ141 hE hp hS
        clear hq
        clear h137
        replace hO := hO.mv hE rfl rfl
        replace h138 := h138.mv hE rfl
        replace h139 := h139.mv hE rfl
        clear hE
        obtain ⟨hp, h142⟩ := hp
        subst hp
        refine doneK ?_
        refine region (eP T hS ⟨[(3, V (.pointer (some ⟨r101, 0, none⟩))), (8, Sl a1 lines c1), (9, I ((lines.length : Nat) : Int)), (10, I x_114), (14, Sl a118 (gi lines x_114) c119), (15, I (((gi lines x_114).length : Nat) : Int)), (16, I (IntKind.i64.wrap (x_132 + 1)))], []⟩ fun a hS => ?_)
        exact ⟨⟨b_136 ++ ((gi (gi lines x_114) x_132).Text), IntKind.i64.wrap (x_132 + 1)⟩, ⟨ρ, _, hm.1, hS.sl _, hO, h142, h138, h139⟩, hm.2⟩
      ·replace hm := hm.2 hb
       refine wexit (by rfl) ?_
       exact ⟨ρ, _, b_128, hm, hS.sl _, hO, h129, h130⟩
    ·rintro a w155 ⟨ρ, χ154, b_121, hm, hS, hO, h122, h123⟩
     unfold VC52_J2 at hm
     refine region ?_
     obtain ⟨hq, hm⟩ := hm
     refine op1 (call hS kr kr hb69 kr (xone_box kr) (wb r101 1004 b_121 10 _ _ h122 hq.1 hq.2) ?_)
     intro v127 a w124 χ125 hE hp hS
     clear hq
     clear h122
     replace hO := hO.mv hE rfl rfl
     replace h123 := h123.mv hE rfl
     clear hE
     obtain ⟨hp, h126⟩ := hp
     subst hp
     refine doneK ?_
     refine region (eP T hS ⟨[(3, V (.pointer (some ⟨r101, 0, none⟩))), (8, Sl a1 lines c1), (9, I ((lines.length : Nat) : Int)), (10, I (IntKind.i64.wrap (x_114 + 1)))], []⟩ fun a hS => ?_)
     exact ⟨⟨b_121 ++ [UInt8.ofNat (10 : Int).toNat], IntKind.i64.wrap (x_114 + 1)⟩, ⟨ρ, _, hm.1, hS.sl _, hO, h126, h123⟩, hm.2⟩
   ·replace hm := hm.2 hb
    refine wexit (by rfl) ?_
    exact ⟨ρ, _, b_111, hm, hS.sl _, hO, h112⟩
 ·rintro a w159 ⟨ρ, χ158, b_105, hm, hS, hO, h106⟩
  unfold VC52_J1 at hm
  refine regO ?_
  refine op1 (call hS kr kr hb29 kr (xone_box kr) (st r101 1004 b_105 _ _ h106) ?_)
  intro v110 a w107 χ108 hE hp hS
  clear h106
  replace hO := hO.mv hE rfl rfl
  clear hE
  subst hp
  refine eP T hS ⟨[(2, Z b_105)], []⟩ fun a hS => ?_
  refine wret ?_
  exact fin T hS hO (fun c => c) rfl (r := [.string (bs b_105)]) kr (fun χ' hM hC => ⟨b_105, hm, rfl⟩)
theorem C52 (v : ∀ (lines : List (List Token_Token)), preJ lines → VC52 lines (fun r => r = token_Join lines)) : S52 := by
 intro w χ lines a1 c1   hp h1
 refine (W52 w χ lines a1 c1   _ (v lines hp) h1).mono ?_
 rintro _ _ _ _ ⟨r, rfl, h⟩
 exact h
/-- replevin/object.within -/
theorem W57 (w0 : World) (χ0 : Nat → Nat) (n_ : Int) (top : Int) (Q : Bool → Prop) (hm : VC57 n_ top Q) :
  Ret Tryd.prog 57 #[.int .i64 n_, .int .i64 top] xnone w0 χ0 (fun w χ' v => ∃ r, Q r ∧ v = .bool r) := by
 unfold VC57 at hm
 refine enter Tryd.func57 rfl (vals := [.int .i64 n_, .int .i64 top]) kr ?_
 intro ρ a hS hO hM
 clear hM
 refine rP T hS ⟨[(0, I n_), (1, I top)], []⟩ fun a hS => ?_
 refine rP T hS ⟨[(4, B ((decide (n_ ≥ 0)) && (decide (n_ < top))))], []⟩ (sp := [7]) fun a hS => ?_
 refine wret ?_
 exact fin T hS hO (fun c => c) rfl (r := [.bool ((decide (n_ ≥ 0)) && (decide (n_ < top)))]) kr (fun χ' hM hC => ⟨((decide (n_ ≥ 0)) && (decide (n_ < top))), hm, rfl⟩)
theorem C57 (v : ∀ (n_ : Int) (top : Int), VC57 n_ top (fun r => r = object_within n_ top)) : S57 := by
 intro w χ n_ top    
 refine (W57 w χ n_ top    _ (v n_ top)).mono ?_
 rintro _ _ _ _ ⟨r, rfl, h⟩
 exact h
/-- cmp.isNaN[int] -/
theorem W95 (w0 : World) (χ0 : Nat → Nat) (x_ : Int) (Q : Bool → Prop) (hm : VC95 x_ Q) :
  Ret Tryd.prog 95 #[.int .i64 x_] xnone w0 χ0 (fun w χ' v => ∃ r, Q r ∧ v = .bool r) := by
 unfold VC95 at hm
 refine enter Tryd.func95 rfl (vals := [.int .i64 x_]) kr ?_
 intro ρ a hS hO hM
 clear hM
 refine rP T hS ⟨[(0, I x_)], []⟩ fun a hS => ?_
 refine rP T hS ⟨[(2, B (x_ != x_))], []⟩ fun a hS => ?_
 refine wret ?_
 exact fin T hS hO (fun c => c) rfl (r := [.bool (x_ != x_)]) kr (fun χ' hM hC => ⟨(x_ != x_), hm, rfl⟩)
theorem C95 (v : ∀ (x_ : Int), VC95 x_ (fun r => r = cmp_isNaN_int x_)) : S95 := by
 intro w χ x_    
 refine (W95 w χ x_    _ (v x_)).mono ?_
 rintro _ _ _ _ ⟨r, rfl, h⟩
 exact h
/-- cmp.Compare[int] -/
theorem W82 (k95 : S95) (w0 : World) (χ0 : Nat → Nat) (x_ : Int) (y_ : Int) (Q : Int → Prop) (hm : VC82 x_ y_ Q) :
  Ret Tryd.prog 82 #[.int .i64 x_, .int .i64 y_] xnone w0 χ0 (fun w χ' v => ∃ r, Q r ∧ v = .int .i64 r) := by
 unfold VC82 at hm
 refine enter Tryd.func82 rfl (vals := [.int .i64 x_, .int .i64 y_]) kr ?_
 intro ρ a hS hO hM
 clear hM
 refine rP T hS ⟨[(0, I x_), (1, I y_)], []⟩ fun a hS => ?_
 refine regO ?_
 refine oP T hS 1 ⟨[(0, I x_), (1, I y_), (7, I x_)], []⟩ fun a hS => ?_
 refine op1 (call hS kr kr hb95 kr (fun _ _ => rfl) (k95 _ _ x_) ?_)
 intro v101 a w102 χ103 hE hp hS
 replace hO := hO.mv hE rfl rfl
 clear hE
 obtain ⟨r104, hr⟩ : ∃ r, cmp_isNaN_int x_ = r := ⟨_, rfl⟩
 replace hm := hm r104 hr
 rw [hr] at hp
 clear hr
 subst hp
 refine eP T hS ⟨[(0, I x_), (1, I y_), (5, B r104)], []⟩ fun a hS => ?_
 refine regO ?_
 refine oP T hS 1 ⟨[(0, I x_), (1, I y_), (5, B r104), (9, I y_)], []⟩ fun a hS => ?_
 refine op1 (call hS kr kr hb95 kr (fun _ _ => rfl) (k95 _ _ y_) ?_)
 intro v105 a w106 χ107 hE hp hS
 replace hO := hO.mv hE rfl rfl
 clear hE
 obtain ⟨r108, hr⟩ : ∃ r, cmp_isNaN_int y_ = r := ⟨_, rfl⟩
 replace hm := hm r108 hr
 rw [hr] at hp
 clear hr
 subst hp
 refine eP T hS ⟨[(0, I x_), (1, I y_), (5, B r104), (6, B r108)], []⟩ fun a hS => ?_
 refine wseq ?_
 refine rP T hS ⟨[(0, I x_), (1, I y_), (6, B r108), (11, B r104)], []⟩ fun a hS => ?_
 refine wcond hS (b := r104) kr (fun hb => ?_) (fun hb => ?_)
 ·replace hm := hm.1 hb
  refine wseq ?_
  refine rP T hS ⟨[(12, B r108)], []⟩ fun a hS => ?_
  refine wcond hS (b := r108) kr (fun hb => ?_) (fun hb => ?_)
  ·replace hm := hm.1 hb
   refine rP T hS ⟨[(4, I 0)], []⟩ fun a hS => ?_
   refine wret ?_
   exact fin T hS hO (fun c => c) rfl (r := [.int .i64 0]) kr (fun χ' hM hC => ⟨0, hm, rfl⟩)
  ·replace hm := hm.2 hb
   refine wskip ?_
   refine rP T hS ⟨[(4, I (-1))], []⟩ fun a hS => ?_
   refine wret ?_
   exact fin T hS hO (fun c => c) rfl (r := [.int .i64 (-1)]) kr (fun χ' hM hC => ⟨(-1), hm, rfl⟩)
 ·replace hm := hm.2 hb
  refine wskip ?_
  refine wseq ?_
  refine rP T hS ⟨[(0, I x_), (1, I y_), (13, B r108)], []⟩ fun a hS => ?_
  refine wcond hS (b := r108) kr (fun hb => ?_) (fun hb => ?_)
  ·replace hm := hm.1 hb
   refine rP T hS ⟨[(4, I 1)], []⟩ fun a hS => ?_
   refine wret ?_
   exact fin T hS hO (fun c => c) rfl (r := [.int .i64 1]) kr (fun χ' hM hC => ⟨1, hm, rfl⟩)
  ·replace hm := hm.2 hb
   refine wskip ?_
   refine wseq ?_
   refine rP T hS ⟨[(0, I x_), (1, I y_), (16, B (decide (x_ < y_)))], []⟩ fun a hS => ?_
   refine wcond hS (b := decide (x_ < y_)) kr (fun hb => ?_) (fun hb => ?_)
   ·replace hm := hm.1 hb
    refine rP T hS ⟨[(4, I (-1))], []⟩ fun a hS => ?_
    refine wret ?_
    exact fin T hS hO (fun c => c) rfl (r := [.int .i64 (-1)]) kr (fun χ' hM hC => ⟨(-1), hm, rfl⟩)
   ·replace hm := hm.2 hb
    refine wskip ?_
    refine wseq ?_
    refine rP T hS ⟨[(19, B (decide (x_ > y_)))], []⟩ fun a hS => ?_
    refine wcond hS (b := decide (x_ > y_)) kr (fun hb => ?_) (fun hb => ?_)
    ·replace hm := hm.1 hb
     refine rP T hS ⟨[(4, I 1)], []⟩ fun a hS => ?_
     refine wret ?_
     exact fin T hS hO (fun c => c) rfl (r := [.int .i64 1]) kr (fun χ' hM hC => ⟨1, hm, rfl⟩)
    ·replace hm := hm.2 hb
     refine wskip ?_
     refine rP T hS ⟨[(4, I 0)], []⟩ fun a hS => ?_
     refine wret ?_
     exact fin T hS hO (fun c => c) rfl (r := [.int .i64 0]) kr (fun χ' hM hC => ⟨0, hm, rfl⟩)
theorem C82 (k95 : S95) (v : ∀ (x_ : Int) (y_ : Int), VC82 x_ y_ (fun r => r = cmp_Compare_int x_ y_)) : S82 := by
 intro w χ x_ y_    
 refine (W82 k95 w χ x_ y_    _ (v x_ y_)).mono ?_
 rintro _ _ _ _ ⟨r, rfl, h⟩
 exact h
/-- cmp.Or[int] -/
theorem W81 (w0 : World) (χ0 : Nat → Nat) (vals : List Int) (a1 : Option Addr) (c1 : Nat) (Q : Int → Prop) (hm : VC81 vals Q) (h1 : RS tI w0 χ0 a1 vals c1) :
  Ret Tryd.prog 81 #[.slice a1 vals.length c1] xnone w0 χ0 (fun w χ' v => ∃ r, Q r ∧ v = .int .i64 r) := by
 unfold VC81 at hm
 replace hm := hm (h1.sm kr)
 refine enter Tryd.func81 rfl (vals := [.slice a1 vals.length c1]) kr ?_
 intro ρ a hS hO hM
 replace h1 := h1.m0 hM
 clear hM
 refine rP T hS ⟨[(0, Sl a1 vals c1)], []⟩ fun a hS => ?_
 refine rP T hS ⟨[(0, Sl a1 vals c1), (3, I 0)], []⟩ fun a hS => ?_
 refine wcut (fun a w => ∃ (ρ : Nat → Nat) (χ : Nat → Nat), VC81_J1 Q ∧ St Tryd.f81.ntmps ⟨[(3, I 0)], []⟩ ρ a w χ ∧ Old w0 χ0 w χ) ?_ ?_
 ·refine rP T hS ⟨[(3, I 0), (6, Sl a1 vals c1), (7, I ((vals.length : Nat) : Int)), (8, I 0)], []⟩ fun a hS => ?_
  refine wblock ?_
  obtain ⟨I1, μ1, hm0, hm⟩ := hm
  refine wloop (σ := Int) (fun s a w => ∃ (ρ : Nat → Nat) (χ : Nat → Nat), I1 s ∧ St Tryd.f81.ntmps ⟨[(3, I 0), (6, Sl a1 vals c1), (7, I ((vals.length : Nat) : Int)), (8, I s)], []⟩ ρ a w χ ∧ Old w0 χ0 w χ ∧ RS tI w χ a1 vals c1) (fun s => μ1 s) (0) ?_ ?_
  ·exact ⟨ρ, _, hm0, hS.sl _, hO, h1⟩
  ·rintro x_102 a w107 ⟨ρ, χ106, hI, hS, hO, h101⟩
   replace hm := hm x_102 hI
   clear hI hm0
   refine rP T hS ⟨[(3, I 0), (6, Sl a1 vals c1), (7, I ((vals.length : Nat) : Int)), (8, I x_102), (9, B (decide (x_102 < ((vals.length : Nat) : Int))))], []⟩ fun a hS => ?_
   refine wseq ?_
   refine wcond hS (b := decide (x_102 < ((vals.length : Nat) : Int))) kr (fun hb => ?_) (fun hb => ?_)
   ·replace hm := hm.1 hb
    refine wskip ?_
    refine wseq ?_
    refine wblock ?_
    refine regO ?_
    obtain ⟨hq, hm⟩ := hm
    refine op1 (index (e := 3) (k := .i64) T hS kr kr kr kr h101 kr kr hq.1 hq.2 ?_)
    intro A103 a h104 hS
    clear hq
    refine op1 (load1 T hS kr kr kr h104 rfl kr ?_)
    intro v105 a hv hS
    cases hv
    refine eP T hS ⟨[(3, I 0), (5, I (gi vals x_102)), (6, Sl a1 vals c1), (7, I ((vals.length : Nat) : Int)), (8, I x_102)], []⟩ fun a hS => ?_
    refine rP T hS ⟨[(3, I 0), (5, I (gi vals x_102)), (6, Sl a1 vals c1), (7, I ((vals.length : Nat) : Int)), (8, I x_102), (14, B ((gi vals x_102) != 0))], []⟩ fun a hS => ?_
    refine wcond hS (b := ((gi vals x_102) != 0)) kr (fun hb => ?_) (fun hb => ?_)
    ·replace hm := hm.1 hb
     refine rP T hS ⟨[(2, I (gi vals x_102))], []⟩ fun a hS => ?_
     refine wret ?_
     exact fin T hS hO (fun c => c) rfl (r := [.int .i64 (gi vals x_102)]) kr (fun χ' hM hC => ⟨(gi vals x_102), hm, rfl⟩)
    ·replace hm := hm.2 hb
     refine wskip ?_
     refine region (eP T hS ⟨[(3, I 0), (6, Sl a1 vals c1), (7, I ((vals.length : Nat) : Int)), (8, I (IntKind.i64.wrap (x_102 + 1)))], []⟩ fun a hS => ?_)
     exact ⟨IntKind.i64.wrap (x_102 + 1), ⟨ρ, _, hm.1, hS.sl _, hO, h101⟩, hm.2⟩
   ·replace hm := hm.2 hb
    refine wexit (by rfl) ?_
    exact ⟨ρ, _, hm, hS.sl _, hO⟩
 ·rintro a w109 ⟨ρ, χ108, hm, hS, hO⟩
  unfold VC81_J1 at hm
  refine rP T hS ⟨[(2, I 0)], []⟩ fun a hS => ?_
  refine wret ?_
  exact fin T hS hO (fun c => c) rfl (r := [.int .i64 0]) kr (fun χ' hM hC => ⟨0, hm, rfl⟩)
theorem C81 (v : ∀ (vals : List Int), VC81 vals (fun r => r = cmp_Or_int vals)) : S81 := by
 intro w χ vals a1 c1   h1
 refine (W81 w χ vals a1 c1   _ (v vals) h1).mono ?_
 rintro _ _ _ _ ⟨r, rfl, h⟩
 exact h
/-- replevin/object.place -/
theorem W73 (k81 : S81) (k82 : S82) (w0 : World) (χ0 : Nat → Nat) (a_ : Api_Row) (b_ : Api_Row) (Q : Int → Prop) (hm : VC73 a_ b_ Q) :
  Ret Tryd.prog 73 #[.agg #[.int .i64 a_.State, .int .i64 a_.Kind, .int .i64 a_.Next, .int .i64 a_.Result], .agg #[.int .i64 b_.State, .int .i64 b_.Kind, .int .i64 b_.Next, .int .i64 b_.Result]] xnone w0 χ0 (fun w χ' v => ∃ r, Q r ∧ v = .int .i64 r) := by
 unfold VC73 at hm
 refine enter Tryd.func73 rfl (vals := [.agg #[.int .i64 a_.State, .int .i64 a_.Kind, .int .i64 a_.Next, .int .i64 a_.Result], .agg #[.int .i64 b_.State, .int .i64 b_.Kind, .int .i64 b_.Next, .int .i64 b_.Result]]) kr ?_
 intro ρ a hS hO hM
 clear hM
 refine rM T hS ⟨[(2, Pt 3 0), (3, Pt 4 0)], [(3, (99, [I a_.State, I a_.Kind, I a_.Next, I a_.Result])), (4, (99, [I b_.State, I b_.Kind, I b_.Next, I b_.Result]))]⟩ fun ρ a w119 χ120 hS hE hr => ?_
 replace hO := hO.mv hE rfl rfl
 clear hE hr
 refine drawnSX [3, 4] mixed hS ?_
 intro w101 χ102 hS hE hD hH
 replace hO := hO.mv hE rfl rfl
 clear hE
 refine tk T [0, 2, 5, 7, 1, 3, 6, 8] [3, 4] hS hH #[true, true, true, true, false, true, true, true, true, false, false, false, false] 5 ⟨[(6, I a_.State), (8, I b_.State), (11, I a_.Kind), (13, I b_.Kind)], [(3, (99, [I a_.State, I a_.Kind, I a_.Next, I a_.Result])), (4, (99, [I b_.State, I b_.Kind, I b_.Next, I b_.Result]))]⟩ fun a hS => ?_
 refine only 4 kr (by rfl) (call hS kr kr hb82 kr (fun _ _ => rfl) (k82 _ _ a_.State b_.State) ?_)
 intro v103 a w104 χ105 hE hp hS
 replace hO := hO.mv hE rfl rfl
 replace hD := hD.ev hE rfl
 clear hE
 obtain ⟨r106, hr⟩ : ∃ r, cmp_Compare_int a_.State b_.State = r := ⟨_, rfl⟩
 replace hm := hm r106 hr
 rw [hr] at hp
 clear hr
 subst hp
 replace hS := hS.sl ⟨[(6, I a_.State), (8, I b_.State), (11, I a_.Kind), (13, I b_.Kind), (9, I r106)], [(3, (99, [I a_.State, I a_.Kind, I a_.Next, I a_.Result])), (4, (99, [I b_.State, I b_.Kind, I b_.Next, I b_.Result]))]⟩
 refine andH (Hold.of hS (bks := [3, 4]) kr hD) ?_
 intro hH
 refine only 9 kr (by rfl) (call hS kr kr hb82 kr (fun _ _ => rfl) (k82 _ _ a_.Kind b_.Kind) ?_)
 intro v107 a w108 χ109 hE hp hS
 replace hO := hO.mv hE rfl rfl
 replace hD := hD.ev hE rfl
 clear hE
 obtain ⟨r110, hr⟩ : ∃ r, cmp_Compare_int a_.Kind b_.Kind = r := ⟨_, rfl⟩
 replace hm := hm r110 hr
 rw [hr] at hp
 clear hr
 subst hp
 replace hS := hS.sl ⟨[(6, I a_.State), (8, I b_.State), (11, I a_.Kind), (13, I b_.Kind), (9, I r106), (14, I r110)], [(3, (99, [I a_.State, I a_.Kind, I a_.Next, I a_.Result])), (4, (99, [I b_.State, I b_.Kind, I b_.Next, I b_.Result]))]⟩
 refine andH (Hold.of hS (bks := [3, 4]) kr hD) ?_
 intro hH
 refine only 10 kr (by rfl) (lit (E := 3) (col := 0) (T := tI) (vals := [.int .i64 r106, .int .i64 r110]) (ys := [r106, r110]) T hS kr kr kr kr (by exact ⟨rfl, rfl, trivial⟩) rfl kr kr kr kr ?_)
 intro b111 a w112 χ113 hE h114 hN hS
 clear hN
 replace hO := hO.mv hE rfl rfl
 replace hD := hD.ev hE rfl
 clear hE
 replace h114 := h114.rs0
 refine andH (Hold.of hS (bks := [3, 4]) kr hD) ?_
 intro hH
 refine only 11 kr (by rfl) (call hS kr kr hb81 kr (fun _ _ => rfl) (k81 _ _ [r106, r110] (some ⟨b111, 0, none⟩) 2 h114) ?_)
 intro v115 a w116 χ117 hE hp hS
 replace hO := hO.mv hE rfl rfl
 replace hD := hD.ev hE rfl
 replace h114 := h114.mv hE rfl
 clear hE
 obtain ⟨r118, hr⟩ : ∃ r, cmp_Or_int [r106, r110] = r := ⟨_, rfl⟩
 replace hm := hm r118 hr
 rw [hr] at hp
 clear hr
 subst hp
 replace hS := hS.sl ⟨[(6, I a_.State), (8, I b_.State), (11, I a_.Kind), (13, I b_.Kind), (9, I r106), (14, I r110), (15, Sl (some ⟨b111, 0, none⟩) [r106, r110] 2), (16, I r118)], [(3, (99, [I a_.State, I a_.Kind, I a_.Next, I a_.Result])), (4, (99, [I b_.State, I b_.Kind, I b_.Next, I b_.Result]))]⟩
 refine andH (Hold.of hS (bks := [3, 4]) kr hD) ?_
 intro hH
 refine tk T [12] [3, 4] hS hH #[true, true, true, true, true, true, true, true, true, true, true, true, true] 0 ⟨[(4, I r118)], [(3, (99, [I a_.State, I a_.Kind, I a_.Next, I a_.Result])), (4, (99, [I b_.State, I b_.Kind, I b_.Next, I b_.Result]))]⟩ fun a hS => ?_
 refine drawnDone kr ?_
 clear hD hH
 replace hS := hS.sl ⟨[(4, I r118)], []⟩
 refine wret ?_
 exact fin T hS hO (fun c => c) rfl (r := [.int .i64 r118]) kr (fun χ' hM hC => ⟨r118, hm, rfl⟩)
theorem C73 (k81 : S81) (k82 : S82) (v : ∀ (a_ : Api_Row) (b_ : Api_Row), VC73 a_ b_ (fun r => r = object_place a_ b_)) : S73 := by
 intro w χ a_ b_    
 refine (W73 k81 k82 w χ a_ b_    _ (v a_ b_)).mono ?_
 rintro _ _ _ _ ⟨r, rfl, h⟩
 exact h
/-- replevin/object.row -/
theorem W58 (k57 : S57) (k73 : S73) (w0 : World) (χ0 : Nat → Nat) (o_ : Api_Object) (i_ : Int) (a1 : Option Addr) (c1 : Nat) (Q : Int → Prop) (hm : VC58 o_ i_ Q) (h1 : RS tApi_Row w0 χ0 a1 o_.Rows c1) :
  Ret Tryd.prog 58 #[.agg #[.int .i64 o_.States, .int .i64 o_.Kinds, .int .i64 o_.Init, .slice a1 o_.Rows.length c1], .int .i64 i_] xnone w0 χ0 (fun w χ' v => ∃ r, Q r ∧ v = .int .i64 r) := by
 unfold VC58 at hm
 replace hm := hm (h1.sm kr)
 refine enter Tryd.func58 rfl (vals := [.agg #[.int .i64 o_.States, .int .i64 o_.Kinds, .int .i64 o_.Init, .slice a1 o_.Rows.length c1], .int .i64 i_]) kr ?_
 intro ρ a hS hO hM
 replace h1 := h1.m0 hM
 clear hM
 refine rM T hS ⟨[(1, I i_), (2, Pt 3 0)], [(3, (25, [I o_.States, I o_.Kinds, I o_.Init, Sl a1 o_.Rows c1]))]⟩ fun ρ a w138 χ139 hS hE hr => ?_
 replace hO := hO.mv hE rfl rfl
 replace h1 := h1.mv hE rfl
 clear hE hr
 refine regO ?_
 refine oP T hS 3 ⟨[(1, I i_), (2, Pt 3 0), (7, Sl a1 o_.Rows c1), (8, I i_)], [(3, (25, [I o_.States, I o_.Kinds, I o_.Init, Sl a1 o_.Rows c1]))]⟩ fun a hS => ?_
 obtain ⟨hq, hm⟩ := hm
 refine op1 (index (e := 99) (k := .i64) T hS kr kr kr kr h1 kr kr hq.1 hq.2 ?_)
 intro A101 a h102 hS
 clear hq
 refine op1 (loadA T hS kr kr kr h102 kr kr ?_)
 intro v103 a hv hS
 subst hv
 refine eM T hS ⟨[(1, I i_), (2, Pt 3 0), (5, Pt 6 0)], [(3, (25, [I o_.States, I o_.Kinds, I o_.Init, Sl a1 o_.Rows c1])), (6, (99, [I ((gi o_.Rows i_).State), I ((gi o_.Rows i_).Kind), I ((gi o_.Rows i_).Next), I ((gi o_.Rows i_).Result)]))]⟩ fun ρ a w136 χ137 hS hE hr => ?_
 replace hO := hO.mv hE rfl rfl
 replace h1 := h1.mv hE rfl
 clear hE hr
 refine wseq ?_
 refine wblock ?_
 refine wcut (fun a w => ∃ (ρ : Nat → Nat) (χ : Nat → Nat) (x_104 : Bool), VC58_J1 o_ i_ Q x_104 ∧ St Tryd.f58.ntmps ⟨[(1, I i_), (2, Pt 3 0), (5, Pt 6 0), (11, B x_104)], [(3, (25, [I o_.States, I o_.Kinds, I o_.Init, Sl a1 o_.Rows c1])), (6, (99, [I ((gi o_.Rows i_).State), I ((gi o_.Rows i_).Kind), I ((gi o_.Rows i_).Next), I ((gi o_.Rows i_).Result)]))]⟩ ρ a w χ ∧ Old w0 χ0 w χ ∧ RS tApi_Row w χ a1 o_.Rows c1) ?_ ?_
 ·refine region ?_
  refine oP T hS 4 ⟨[(1, I i_), (2, Pt 3 0), (5, Pt 6 0), (13, I ((gi o_.Rows i_).State)), (15, I o_.States)], [(3, (25, [I o_.States, I o_.Kinds, I o_.Init, Sl a1 o_.Rows c1])), (6, (99, [I ((gi o_.Rows i_).State), I ((gi o_.Rows i_).Kind), I ((gi o_.Rows i_).Next), I ((gi o_.Rows i_).Result)]))]⟩ fun a hS => ?_
  refine op1 (call hS kr kr hb57 kr (fun _ _ => rfl) (k57 _ _ ((gi o_.Rows i_).State) o_.States) ?_)
  intro v126 a w127 χ128 hE hp hS
  replace hO := hO.mv hE rfl rfl
  replace h1 := h1.mv hE rfl
  clear hE
  obtain ⟨r129, hr⟩ : ∃ r, object_within ((gi o_.Rows i_).State) o_.States = r := ⟨_, rfl⟩
  replace hm := hm r129 hr
  rw [hr] at hp
  clear hr
  subst hp
  refine oP T hS 2 ⟨[(1, I i_), (2, Pt 3 0), (5, Pt 6 0), (18, B (!r129))], [(3, (25, [I o_.States, I o_.Kinds, I o_.Init, Sl a1 o_.Rows c1])), (6, (99, [I ((gi o_.Rows i_).State), I ((gi o_.Rows i_).Kind), I ((gi o_.Rows i_).Next), I ((gi o_.Rows i_).Result)]))]⟩ fun a hS => ?_
  rcases Bool.eq_false_or_eq_true (!r129) with hb | hb
  ·replace hS := hS.lit (t := 18) kr hb
   replace hm := hm.1 hb
   refine eP T hS ⟨[(1, I i_), (2, Pt 3 0), (5, Pt 6 0), (11, B true)], [(3, (25, [I o_.States, I o_.Kinds, I o_.Init, Sl a1 o_.Rows c1])), (6, (99, [I ((gi o_.Rows i_).State), I ((gi o_.Rows i_).Kind), I ((gi o_.Rows i_).Next), I ((gi o_.Rows i_).Result)]))]⟩ fun a hS => ?_
   exact ⟨ρ, _, true, hm, hS.sl _, hO, h1⟩
  ·replace hS := hS.lit (t := 18) kr hb
   replace hm := hm.2 hb
   refine oP T hS 4 ⟨[(1, I i_), (2, Pt 3 0), (5, Pt 6 0), (18, B false), (20, I ((gi o_.Rows i_).Next)), (22, I o_.States)], [(3, (25, [I o_.States, I o_.Kinds, I o_.Init, Sl a1 o_.Rows c1])), (6, (99, [I ((gi o_.Rows i_).State), I ((gi o_.Rows i_).Kind), I ((gi o_.Rows i_).Next), I ((gi o_.Rows i_).Result)]))]⟩ fun a hS => ?_
   refine op1 (call hS kr kr hb57 kr (fun _ _ => rfl) (k57 _ _ ((gi o_.Rows i_).Next) o_.States) ?_)
   intro v130 a w131 χ132 hE hp hS
   replace hO := hO.mv hE rfl rfl
   replace h1 := h1.mv hE rfl
   clear hE
   obtain ⟨r133, hr⟩ : ∃ r, object_within ((gi o_.Rows i_).Next) o_.States = r := ⟨_, rfl⟩
   replace hm := hm r133 hr
   rw [hr] at hp
   clear hr
   subst hp
   refine eP T hS ⟨[(1, I i_), (2, Pt 3 0), (5, Pt 6 0), (11, B (!r133))], [(3, (25, [I o_.States, I o_.Kinds, I o_.Init, Sl a1 o_.Rows c1])), (6, (99, [I ((gi o_.Rows i_).State), I ((gi o_.Rows i_).Kind), I ((gi o_.Rows i_).Next), I ((gi o_.Rows i_).Result)]))]⟩ fun a hS => ?_
   exact ⟨ρ, _, (!r133), hm, hS.sl _, hO, h1⟩
 ·rintro a w135 ⟨ρ, χ134, x_104, hm, hS, hO, h105⟩
  unfold VC58_J1 at hm
  refine wcond hS (b := x_104) kr (fun hb => ?_) (fun hb => ?_)
  ·replace hm := hm.1 hb
   refine rP T hS ⟨[(4, I 30)], []⟩ fun a hS => ?_
   refine wret ?_
   exact fin T hS hO (fun c => c) rfl (r := [.int .i64 30]) kr (fun χ' hM hC => ⟨30, hm, rfl⟩)
  ·replace hm := hm.2 hb
   refine regO ?_
   refine oP T hS 4 ⟨[(1, I i_), (2, Pt 3 0), (5, Pt 6 0), (28, I ((gi o_.Rows i_).Kind)), (30, I o_.Kinds)], [(3, (25, [I o_.States, I o_.Kinds, I o_.Init, Sl a1 o_.Rows c1])), (6, (99, [I ((gi o_.Rows i_).State), I ((gi o_.Rows i_).Kind), I ((gi o_.Rows i_).Next), I ((gi o_.Rows i_).Result)]))]⟩ fun a hS => ?_
   refine op1 (call hS kr kr hb57 kr (fun _ _ => rfl) (k57 _ _ ((gi o_.Rows i_).Kind) o_.Kinds) ?_)
   intro v106 a w107 χ108 hE hp hS
   replace hO := hO.mv hE rfl rfl
   replace h105 := h105.mv hE rfl
   clear hE
   obtain ⟨r109, hr⟩ : ∃ r, object_within ((gi o_.Rows i_).Kind) o_.Kinds = r := ⟨_, rfl⟩
   replace hm := hm r109 hr
   rw [hr] at hp
   clear hr
   subst hp
   refine eP T hS ⟨[(1, I i_), (2, Pt 3 0), (5, Pt 6 0), (26, B (!r109))], [(3, (25, [I o_.States, I o_.Kinds, I o_.Init, Sl a1 o_.Rows c1])), (6, (99, [I ((gi o_.Rows i_).State), I ((gi o_.Rows i_).Kind), I ((gi o_.Rows i_).Next), I ((gi o_.Rows i_).Result)]))]⟩ fun a hS => ?_
   refine wcond hS (b := (!r109)) kr (fun hb => ?_) (fun hb => ?_)
   ·replace hm := hm.1 hb
    refine rP T hS ⟨[(4, I 31)], []⟩ fun a hS => ?_
    refine wret ?_
    exact fin T hS hO (fun c => c) rfl (r := [.int .i64 31]) kr (fun χ' hM hC => ⟨31, hm, rfl⟩)
   ·replace hm := hm.2 hb
    refine regO ?_
    refine oP T hS 2 ⟨[(1, I i_), (2, Pt 3 0), (5, Pt 6 0), (35, I ((gi o_.Rows i_).Result))], [(3, (25, [I o_.States, I o_.Kinds, I o_.Init, Sl a1 o_.Rows c1])), (6, (99, [I ((gi o_.Rows i_).State), I ((gi o_.Rows i_).Kind), I ((gi o_.Rows i_).Next), I ((gi o_.Rows i_).Result)]))]⟩ fun a hS => ?_
    refine op1 (call hS kr kr hb57 kr (fun _ _ => rfl) (k57 _ _ ((gi o_.Rows i_).Result) 1000001) ?_)
    intro v110 a w111 χ112 hE hp hS
    replace hO := hO.mv hE rfl rfl
    replace h105 := h105.mv hE rfl
    clear hE
    obtain ⟨r113, hr⟩ : ∃ r, object_within ((gi o_.Rows i_).Result) 1000001 = r := ⟨_, rfl⟩
    replace hm := hm r113 hr
    rw [hr] at hp
    clear hr
    subst hp
    refine eP T hS ⟨[(1, I i_), (2, Pt 3 0), (5, Pt 6 0), (33, B (!r113))], [(3, (25, [I o_.States, I o_.Kinds, I o_.Init, Sl a1 o_.Rows c1])), (6, (99, [I ((gi o_.Rows i_).State), I ((gi o_.Rows i_).Kind), I ((gi o_.Rows i_).Next), I ((gi o_.Rows i_).Result)]))]⟩ fun a hS => ?_
    refine wcond hS (b := (!r113)) kr (fun hb => ?_) (fun hb => ?_)
    ·replace hm := hm.1 hb
     refine rP T hS ⟨[(4, I 7)], []⟩ fun a hS => ?_
     refine wret ?_
     exact fin T hS hO (fun c => c) rfl (r := [.int .i64 7]) kr (fun χ' hM hC => ⟨7, hm, rfl⟩)
    ·replace hm := hm.2 hb
     refine wcut (fun a w => ∃ (ρ : Nat → Nat) (χ : Nat → Nat) (x_114 : Bool), VC58_J2 Q x_114 ∧ St Tryd.f58.ntmps ⟨[(38, B x_114)], []⟩ ρ a w χ ∧ Old w0 χ0 w χ) ?_ ?_
     ·refine drawnX [3, 6] mixed hS ?_
      intro w115 χ116 hS hE hD hH
      replace hO := hO.mv hE rfl rfl
      replace h105 := h105.mv hE rfl
      clear hE
      refine tk T [0, 1, 2] [3, 6] hS hH #[true, true, true, false, false, false, false, false, false, false, false, false, false, false] 11 ⟨[(1, I i_), (2, Pt 3 0), (5, Pt 6 0), (41, B (decide (i_ > 0)))], [(3, (25, [I o_.States, I o_.Kinds, I o_.Init, Sl a1 o_.Rows c1])), (6, (99, [I ((gi o_.Rows i_).State), I ((gi o_.Rows i_).Kind), I ((gi o_.Rows i_).Next), I ((gi o_.Rows i_).Result)]))]⟩ fun a hS => ?_
      rcases Bool.eq_false_or_eq_true (decide (i_ > 0)) with hb | hb
      ·replace hS := hS.lit (t := 41) kr hb
       replace hm := hm.1 hb
       refine tk T [3, 5, 9, 4, 6] [3, 6] hS hH #[true, true, true, true, true, true, true, false, false, true, false, false, false, false] 6 ⟨[(41, B true), (43, Sl a1 o_.Rows c1), (45, I (IntKind.i64.wrap (i_ - 1))), (48, V (.agg #[.int .i64 ((gi o_.Rows i_).State), .int .i64 ((gi o_.Rows i_).Kind), .int .i64 ((gi o_.Rows i_).Next), .int .i64 ((gi o_.Rows i_).Result)]))], [(3, (25, [I o_.States, I o_.Kinds, I o_.Init, Sl a1 o_.Rows c1])), (6, (99, [I ((gi o_.Rows i_).State), I ((gi o_.Rows i_).Kind), I ((gi o_.Rows i_).Next), I ((gi o_.Rows i_).Result)]))]⟩ fun a hS => ?_
       obtain ⟨hq, hm⟩ := hm
       refine dindex (e := 99) (k := .i64) T 7 hS kr kr kr (by rfl) kr hH kr kr h105 kr kr hq.1 hq.2 ?_
       intro A117 a h118 hS
       clear hq
       have h118b := h118.here
       refine dloadA T 8 hS kr kr kr (by rfl) kr hH kr h118 h118b kr kr ?_
       intro v119 a hv hS
       subst hv
       refine only 10 kr (by rfl) (call hS kr kr hb73 kr (fun _ _ => rfl) (k73 _ _ (gi o_.Rows (IntKind.i64.wrap (i_ - 1))) (gi o_.Rows i_)) ?_)
       intro v120 a w121 χ122 hE hp hS
       replace hO := hO.mv hE rfl rfl
       replace hD := hD.ev hE rfl
       replace h105 := h105.mv hE rfl
       replace h118 := h118.mv hE rfl
       clear hE
       obtain ⟨r123, hr⟩ : ∃ r, object_place (gi o_.Rows (IntKind.i64.wrap (i_ - 1))) (gi o_.Rows i_) = r := ⟨_, rfl⟩
       replace hm := hm r123 hr
       rw [hr] at hp
       clear hr
       subst hp
       replace hS := hS.sl ⟨[(41, B true), (43, Sl a1 o_.Rows c1), (45, I (IntKind.i64.wrap (i_ - 1))), (48, V (.agg #[.int .i64 ((gi o_.Rows i_).State), .int .i64 ((gi o_.Rows i_).Kind), .int .i64 ((gi o_.Rows i_).Next), .int .i64 ((gi o_.Rows i_).Result)])), (46, V (.pointer (some A117))), (47, V (.agg #[.int .i64 ((gi o_.Rows (IntKind.i64.wrap (i_ - 1))).State), .int .i64 ((gi o_.Rows (IntKind.i64.wrap (i_ - 1))).Kind), .int .i64 ((gi o_.Rows (IntKind.i64.wrap (i_ - 1))).Next), .int .i64 ((gi o_.Rows (IntKind.i64.wrap (i_ - 1))).Result)])), (49, I r123)], [(3, (25, [I o_.States, I o_.Kinds, I o_.Init, Sl a1 o_.Rows c1])), (6, (99, [I ((gi o_.Rows i_).State), I ((gi o_.Rows i_).Kind), I ((gi o_.Rows i_).Next), I ((gi o_.Rows i_).Result)]))]⟩
       refine andH (Hold.of hS (bks := [3, 6]) kr hD) ?_
       intro hH
       refine tk T [11, 12, 13] [3, 6] hS hH #[true, true, true, true, true, true, true, true, true, true, true, true, true, true] 0 ⟨[(38, B (decide (r123 ≥ 0)))], [(3, (25, [I o_.States, I o_.Kinds, I o_.Init, Sl a1 o_.Rows c1])), (6, (99, [I ((gi o_.Rows i_).State), I ((gi o_.Rows i_).Kind), I ((gi o_.Rows i_).Next), I ((gi o_.Rows i_).Result)]))]⟩ fun a hS => ?_
       refine drawnDone kr ?_
       clear hD hH
       replace hS := hS.sl ⟨[(38, B (decide (r123 ≥ 0)))], []⟩
       exact ⟨ρ, _, decide (r123 ≥ 0), hm, hS.sl _, hO⟩
      ·replace hS := hS.lit (t := 41) kr hb
       replace hm := hm.2 hb
       refine tk T [3, 5, 9, 4, 6, 7, 8, 10, 11, 12, 13] [3, 6] hS hH #[true, true, true, true, true, true, true, true, true, true, true, true, true, true] 0 ⟨[(38, B false)], [(3, (25, [I o_.States, I o_.Kinds, I o_.Init, Sl a1 o_.Rows c1])), (6, (99, [I ((gi o_.Rows i_).State), I ((gi o_.Rows i_).Kind), I ((gi o_.Rows i_).Next), I ((gi o_.Rows i_).Result)]))]⟩ fun a hS => ?_
       refine drawnDone kr ?_
       clear hD hH
       replace hS := hS.sl ⟨[(38, B false)], []⟩
       exact ⟨ρ, _, false, hm, hS.sl _, hO⟩
     ·rintro a w125 ⟨ρ, χ124, x_114, hm, hS, hO⟩
      unfold VC58_J2 at hm
      refine wcond hS (b := x_114) kr (fun hb => ?_) (fun hb => ?_)
      ·replace hm := hm.1 hb
       refine rP T hS ⟨[(4, I 32)], []⟩ fun a hS => ?_
       refine wret ?_
       exact fin T hS hO (fun c => c) rfl (r := [.int .i64 32]) kr (fun χ' hM hC => ⟨32, hm, rfl⟩)
      ·replace hm := hm.2 hb
       refine wskip ?_
       refine rP T hS ⟨[(4, I 0)], []⟩ fun a hS => ?_
       refine wret ?_
       exact fin T hS hO (fun c => c) rfl (r := [.int .i64 0]) kr (fun χ' hM hC => ⟨0, hm, rfl⟩)
theorem C58 (k57 : S57) (k73 : S73) (v : ∀ (o_ : Api_Object) (i_ : Int), preRow o_ i_ → VC58 o_ i_ (fun r => r = object_row o_ i_)) : S58 := by
 intro w χ o_ i_ a1 c1   hp h1
 refine (W58 k57 k73 w χ o_ i_ a1 c1   _ (v o_ i_ hp) h1).mono ?_
 rintro _ _ _ _ ⟨r, rfl, h⟩
 exact h
/-- replevin/object.Check -/
theorem W32 (k57 : S57) (k58 : S58) (w0 : World) (χ0 : Nat → Nat) (o_ : Api_Object) (a1 : Option Addr) (c1 : Nat) (Q : Int × Int → Prop) (hm : VC32 o_ Q) (h1 : RS tApi_Row w0 χ0 a1 o_.Rows c1) :
  Ret Tryd.prog 32 #[.agg #[.int .i64 o_.States, .int .i64 o_.Kinds, .int .i64 o_.Init, .slice a1 o_.Rows.length c1]] xnone w0 χ0 (fun w χ' v => ∃ r, Q r ∧ v = .tuple #[.int .i64 r.1, .int .i64 r.2]) := by
 unfold VC32 at hm
 replace hm := hm (h1.sm kr)
 refine enter Tryd.func32 rfl (vals := [.agg #[.int .i64 o_.States, .int .i64 o_.Kinds, .int .i64 o_.Init, .slice a1 o_.Rows.length c1]]) kr ?_
 intro ρ a hS hO hM
 replace h1 := h1.m0 hM
 clear hM
 refine rM T hS ⟨[(1, Pt 2 0)], [(2, (25, [I o_.States, I o_.Kinds, I o_.Init, Sl a1 o_.Rows c1]))]⟩ fun ρ a w128 χ129 hS hE hr => ?_
 replace hO := hO.mv hE rfl rfl
 replace h1 := h1.mv hE rfl
 clear hE hr
 refine wseq ?_
 refine wcut (fun a w => ∃ (ρ : Nat → Nat) (χ : Nat → Nat) (x_101 : Bool), VC32_J1 o_ Q x_101 ∧ St Tryd.f32.ntmps ⟨[(1, Pt 2 0), (25, B x_101)], [(2, (25, [I o_.States, I o_.Kinds, I o_.Init, Sl a1 o_.Rows c1]))]⟩ ρ a w χ ∧ Old w0 χ0 w χ ∧ RS tApi_Row w χ a1 o_.Rows c1) ?_ ?_
 ·refine region ?_
  refine oP T hS 3 ⟨[(1, Pt 2 0), (8, I (IntKind.i64.wrap (o_.States - 1)))], [(2, (25, [I o_.States, I o_.Kinds, I o_.Init, Sl a1 o_.Rows c1]))]⟩ fun a hS => ?_
  refine op1 (call hS kr kr hb57 kr (fun _ _ => rfl) (k57 _ _ (IntKind.i64.wrap (o_.States - 1)) 32) ?_)
  intro v114 a w115 χ116 hE hp hS
  replace hO := hO.mv hE rfl rfl
  replace h1 := h1.mv hE rfl
  clear hE
  obtain ⟨r117, hr⟩ : ∃ r, object_within (IntKind.i64.wrap (o_.States - 1)) 32 = r := ⟨_, rfl⟩
  replace hm := hm r117 hr
  rw [hr] at hp
  clear hr
  subst hp
  refine oP T hS 2 ⟨[(1, Pt 2 0), (11, B (!r117))], [(2, (25, [I o_.States, I o_.Kinds, I o_.Init, Sl a1 o_.Rows c1]))]⟩ fun a hS => ?_
  rcases Bool.eq_false_or_eq_true (!r117) with hb | hb
  ·replace hS := hS.lit (t := 11) kr hb
   replace hm := hm.1 hb
   refine eP T hS ⟨[(1, Pt 2 0), (25, B true)], [(2, (25, [I o_.States, I o_.Kinds, I o_.Init, Sl a1 o_.Rows c1]))]⟩ fun a hS => ?_
   exact ⟨ρ, _, true, hm, hS.sl _, hO, h1⟩
  ·replace hS := hS.lit (t := 11) kr hb
   replace hm := hm.2 hb
   refine oP T hS 3 ⟨[(1, Pt 2 0), (11, B false), (14, I (IntKind.i64.wrap (o_.Kinds - 1)))], [(2, (25, [I o_.States, I o_.Kinds, I o_.Init, Sl a1 o_.Rows c1]))]⟩ fun a hS => ?_
   refine op1 (call hS kr kr hb57 kr (fun _ _ => rfl) (k57 _ _ (IntKind.i64.wrap (o_.Kinds - 1)) 64) ?_)
   intro v118 a w119 χ120 hE hp hS
   replace hO := hO.mv hE rfl rfl
   replace h1 := h1.mv hE rfl
   clear hE
   obtain ⟨r121, hr⟩ : ∃ r, object_within (IntKind.i64.wrap (o_.Kinds - 1)) 64 = r := ⟨_, rfl⟩
   replace hm := hm r121 hr
   rw [hr] at hp
   clear hr
   subst hp
   refine oP T hS 3 ⟨[(1, Pt 2 0), (18, B (!r121))], [(2, (25, [I o_.States, I o_.Kinds, I o_.Init, Sl a1 o_.Rows c1]))]⟩ fun a hS => ?_
   rcases Bool.eq_false_or_eq_true (!r121) with hb | hb
   ·replace hS := hS.lit (t := 18) kr hb
    replace hm := hm.1 hb
    refine eP T hS ⟨[(1, Pt 2 0), (25, B true)], [(2, (25, [I o_.States, I o_.Kinds, I o_.Init, Sl a1 o_.Rows c1]))]⟩ fun a hS => ?_
    exact ⟨ρ, _, true, hm, hS.sl _, hO, h1⟩
   ·replace hS := hS.lit (t := 18) kr hb
    replace hm := hm.2 hb
    refine oP T hS 4 ⟨[(1, Pt 2 0), (18, B false), (20, I o_.Init), (22, I o_.States)], [(2, (25, [I o_.States, I o_.Kinds, I o_.Init, Sl a1 o_.Rows c1]))]⟩ fun a hS => ?_
    refine op1 (call hS kr kr hb57 kr (fun _ _ => rfl) (k57 _ _ o_.Init o_.States) ?_)
    intro v122 a w123 χ124 hE hp hS
    replace hO := hO.mv hE rfl rfl
    replace h1 := h1.mv hE rfl
    clear hE
    obtain ⟨r125, hr⟩ : ∃ r, object_within o_.Init o_.States = r := ⟨_, rfl⟩
    replace hm := hm r125 hr
    rw [hr] at hp
    clear hr
    subst hp
    refine eP T hS ⟨[(1, Pt 2 0), (25, B (!r125))], [(2, (25, [I o_.States, I o_.Kinds, I o_.Init, Sl a1 o_.Rows c1]))]⟩ fun a hS => ?_
    exact ⟨ρ, _, (!r125), hm, hS.sl _, hO, h1⟩
 ·rintro a w127 ⟨ρ, χ126, x_101, hm, hS, hO, h102⟩
  unfold VC32_J1 at hm
  refine wcond hS (b := x_101) kr (fun hb => ?_) (fun hb => ?_)
  ·replace hm := hm.1 hb
   refine rP T hS ⟨[(2, I (-1)), (3, I 2)], []⟩ fun a hS => ?_
   refine wret ?_
   exact fin T hS hO (fun c => c) rfl (r := [.int .i64 (-1), .int .i64 2]) kr (fun χ' hM hC => ⟨((-1), 2), hm, rfl⟩)
  ·replace hm := hm.2 hb
   refine wskip ?_
   refine wcut (fun a w => ∃ (ρ : Nat → Nat) (χ : Nat → Nat), VC32_J2 o_ Q ∧ St Tryd.f32.ntmps ⟨[(1, Pt 2 0)], [(2, (25, [I o_.States, I o_.Kinds, I o_.Init, Sl a1 o_.Rows c1]))]⟩ ρ a w χ ∧ Old w0 χ0 w χ ∧ RS tApi_Row w χ a1 o_.Rows c1) ?_ ?_
   ·refine rP T hS ⟨[(1, Pt 2 0), (28, I ((o_.Rows.length : Nat) : Int)), (29, I 0)], [(2, (25, [I o_.States, I o_.Kinds, I o_.Init, Sl a1 o_.Rows c1]))]⟩ fun a hS => ?_
    refine wblock ?_
    obtain ⟨I1, μ1, hm0, hm⟩ := hm
    refine wloop (σ := Int) (fun s a w => ∃ (ρ : Nat → Nat) (χ : Nat → Nat), I1 s ∧ St Tryd.f32.ntmps ⟨[(1, Pt 2 0), (28, I ((o_.Rows.length : Nat) : Int)), (29, I s)], [(2, (25, [I o_.States, I o_.Kinds, I o_.Init, Sl a1 o_.Rows c1]))]⟩ ρ a w χ ∧ Old w0 χ0 w χ ∧ RS tApi_Row w χ a1 o_.Rows c1) (fun s => μ1 s) (0) ?_ ?_
    ·exact ⟨ρ, _, hm0, hS.sl _, hO, h102⟩
    ·rintro x_104 a w111 ⟨ρ, χ110, hI, hS, hO, h105⟩
     replace hm := hm x_104 hI
     clear hI hm0
     refine rP T hS ⟨[(1, Pt 2 0), (28, I ((o_.Rows.length : Nat) : Int)), (29, I x_104), (30, B (decide (x_104 < ((o_.Rows.length : Nat) : Int))))], [(2, (25, [I o_.States, I o_.Kinds, I o_.Init, Sl a1 o_.Rows c1]))]⟩ fun a hS => ?_
     refine wseq ?_
     refine wcond hS (b := decide (x_104 < ((o_.Rows.length : Nat) : Int))) kr (fun hb => ?_) (fun hb => ?_)
     ·replace hm := hm.1 hb
      refine wskip ?_
      refine wseq ?_
      refine wblock ?_
      refine rP T hS ⟨[(1, Pt 2 0), (4, I x_104), (28, I ((o_.Rows.length : Nat) : Int)), (29, I x_104)], [(2, (25, [I o_.States, I o_.Kinds, I o_.Init, Sl a1 o_.Rows c1]))]⟩ fun a hS => ?_
      refine regO ?_
      refine oP T hS 2 ⟨[(1, Pt 2 0), (4, I x_104), (28, I ((o_.Rows.length : Nat) : Int)), (29, I x_104), (32, V (.agg #[.int .i64 o_.States, .int .i64 o_.Kinds, .int .i64 o_.Init, .slice a1 o_.Rows.length c1])), (33, I x_104)], [(2, (25, [I o_.States, I o_.Kinds, I o_.Init, Sl a1 o_.Rows c1]))]⟩ fun a hS => ?_
      obtain ⟨hq, hm⟩ := hm
      refine op1 (call hS kr kr hb58 kr (fun _ _ => rfl) (k58 _ _ o_ x_104 a1 c1 hq h105) ?_)
      intro v106 a w107 χ108 hE hp hS
      clear hq
      replace hO := hO.mv hE rfl rfl
      replace h105 := h105.mv hE rfl
      clear hE
      obtain ⟨r109, hr⟩ : ∃ r, object_row o_ x_104 = r := ⟨_, rfl⟩
      replace hm := hm r109 hr
      rw [hr] at hp
      clear hr
      subst hp
      refine eP T hS ⟨[(1, Pt 2 0), (4, I x_104), (5, I r109), (28, I ((o_.Rows.length : Nat) : Int)), (29, I x_104)], [(2, (25, [I o_.States, I o_.Kinds, I o_.Init, Sl a1 o_.Rows c1]))]⟩ fun a hS => ?_
      refine rP T hS ⟨[(1, Pt 2 0), (4, I x_104), (5, I r109), (28, I ((o_.Rows.length : Nat) : Int)), (29, I x_104), (36, B (r109 != 0))], [(2, (25, [I o_.States, I o_.Kinds, I o_.Init, Sl a1 o_.Rows c1]))]⟩ fun a hS => ?_
      refine wcond hS (b := (r109 != 0)) kr (fun hb => ?_) (fun hb => ?_)
      ·replace hm := hm.1 hb
       refine rP T hS ⟨[(2, I x_104), (3, I r109)], []⟩ fun a hS => ?_
       refine wret ?_
       exact fin T hS hO (fun c => c) rfl (r := [.int .i64 x_104, .int .i64 r109]) kr (fun χ' hM hC => ⟨(x_104, r109), hm, rfl⟩)
      ·replace hm := hm.2 hb
       refine wskip ?_
       refine region (eP T hS ⟨[(1, Pt 2 0), (28, I ((o_.Rows.length : Nat) : Int)), (29, I (IntKind.i64.wrap (x_104 + 1)))], [(2, (25, [I o_.States, I o_.Kinds, I o_.Init, Sl a1 o_.Rows c1]))]⟩ fun a hS => ?_)
       exact ⟨IntKind.i64.wrap (x_104 + 1), ⟨ρ, _, hm.1, hS.sl _, hO, h105⟩, hm.2⟩
     ·replace hm := hm.2 hb
      refine wexit (by rfl) ?_
      exact ⟨ρ, _, hm, hS.sl _, hO, h105⟩
   ·rintro a w113 ⟨ρ, χ112, hm, hS, hO, h103⟩
    unfold VC32_J2 at hm
    refine rP T hS ⟨[(2, I ((o_.Rows.length : Nat) : Int)), (3, I 0)], []⟩ fun a hS => ?_
    refine wret ?_
    exact fin T hS hO (fun c => c) rfl (r := [.int .i64 ((o_.Rows.length : Nat) : Int), .int .i64 0]) kr (fun χ' hM hC => ⟨(((o_.Rows.length : Nat) : Int), 0), hm, rfl⟩)
theorem C32 (k57 : S57) (k58 : S58) (v : ∀ (o_ : Api_Object), preCk o_ → VC32 o_ (fun r => r = object_Check o_)) : S32 := by
 intro w χ o_ a1 c1   hp h1
 refine (W32 k57 k58 w χ o_ a1 c1   _ (v o_ hp) h1).mono ?_
 rintro _ _ _ _ ⟨r, rfl, h⟩
 exact h
/-- math/bits.Mul64 -/
theorem W88 (w0 : World) (χ0 : Nat → Nat) (x_ : Int) (y_ : Int) (Q : Int × Int → Prop) (hm : VC88 x_ y_ Q) :
  Ret Tryd.prog 88 #[.int .u64 x_, .int .u64 y_] xnone w0 χ0 (fun w χ' v => ∃ r, Q r ∧ v = .tuple #[.int .u64 r.1, .int .u64 r.2]) := by
 unfold VC88 at hm
 refine enter Tryd.func88 rfl (vals := [.int .u64 x_, .int .u64 y_]) kr ?_
 intro ρ a hS hO hM
 clear hM
 refine rP T hS ⟨[(0, V (.int .u64 x_)), (1, V (.int .u64 y_))], []⟩ fun a hS => ?_
 refine rP T hS ⟨[(0, V (.int .u64 x_)), (1, V (.int .u64 y_)), (6, V (.int .u64 (IntKind.u64.wrap ((BitVec.ofInt IntKind.u64.bits x_ &&& BitVec.ofInt IntKind.u64.bits 4294967295).toNat : Int))))], []⟩ fun a hS => ?_
 refine rP T hS ⟨[(0, V (.int .u64 x_)), (1, V (.int .u64 y_)), (6, V (.int .u64 (IntKind.u64.wrap ((BitVec.ofInt IntKind.u64.bits x_ &&& BitVec.ofInt IntKind.u64.bits 4294967295).toNat : Int)))), (7, V (.int .u64 ((x_).fdiv (2 ^ 32))))], []⟩ fun a hS => ?_
 refine rP T hS ⟨[(0, V (.int .u64 x_)), (1, V (.int .u64 y_)), (6, V (.int .u64 (IntKind.u64.wrap ((BitVec.ofInt IntKind.u64.bits x_ &&& BitVec.ofInt IntKind.u64.bits 4294967295).toNat : Int)))), (7, V (.int .u64 ((x_).fdiv (2 ^ 32)))), (8, V (.int .u64 (IntKind.u64.wrap ((BitVec.ofInt IntKind.u64.bits y_ &&& BitVec.ofInt IntKind.u64.bits 4294967295).toNat : Int))))], []⟩ fun a hS => ?_
 refine rP T hS ⟨[(0, V (.int .u64 x_)), (1, V (.int .u64 y_)), (6, V (.int .u64 (IntKind.u64.wrap ((BitVec.ofInt IntKind.u64.bits x_ &&& BitVec.ofInt IntKind.u64.bits 4294967295).toNat : Int)))), (7, V (.int .u64 ((x_).fdiv (2 ^ 32)))), (8, V (.int .u64 (IntKind.u64.wrap ((BitVec.ofInt IntKind.u64.bits y_ &&& BitVec.ofInt IntKind.u64.bits 4294967295).toNat : Int)))), (9, V (.int .u64 ((y_).fdiv (2 ^ 32))))], []⟩ fun a hS => ?_
 refine rP T hS ⟨[(0, V (.int .u64 x_)), (1, V (.int .u64 y_)), (6, V (.int .u64 (IntKind.u64.wrap ((BitVec.ofInt IntKind.u64.bits x_ &&& BitVec.ofInt IntKind.u64.bits 4294967295).toNat : Int)))), (7, V (.int .u64 ((x_).fdiv (2 ^ 32)))), (8, V (.int .u64 (IntKind.u64.wrap ((BitVec.ofInt IntKind.u64.bits y_ &&& BitVec.ofInt IntKind.u64.bits 4294967295).toNat : Int)))), (9, V (.int .u64 ((y_).fdiv (2 ^ 32)))), (10, V (.int .u64 (IntKind.u64.wrap ((IntKind.u64.wrap ((BitVec.ofInt IntKind.u64.bits x_ &&& BitVec.ofInt IntKind.u64.bits 4294967295).toNat : Int)) * (IntKind.u64.wrap ((BitVec.ofInt IntKind.u64.bits y_ &&& BitVec.ofInt IntKind.u64.bits 4294967295).toNat : Int))))))], []⟩ fun a hS => ?_
 refine rP T hS ⟨[(0, V (.int .u64 x_)), (1, V (.int .u64 y_)), (6, V (.int .u64 (IntKind.u64.wrap ((BitVec.ofInt IntKind.u64.bits x_ &&& BitVec.ofInt IntKind.u64.bits 4294967295).toNat : Int)))), (7, V (.int .u64 ((x_).fdiv (2 ^ 32)))), (9, V (.int .u64 ((y_).fdiv (2 ^ 32)))), (11, V (.int .u64 (IntKind.u64.wrap ((IntKind.u64.wrap (((x_).fdiv (2 ^ 32)) * (IntKind.u64.wrap ((BitVec.ofInt IntKind.u64.bits y_ &&& BitVec.ofInt IntKind.u64.bits 4294967295).toNat : Int)))) + (((IntKind.u64.wrap ((IntKind.u64.wrap ((BitVec.ofInt IntKind.u64.bits x_ &&& BitVec.ofInt IntKind.u64.bits 4294967295).toNat : Int)) * (IntKind.u64.wrap ((BitVec.ofInt IntKind.u64.bits y_ &&& BitVec.ofInt IntKind.u64.bits 4294967295).toNat : Int))))).fdiv (2 ^ 32))))))], []⟩ fun a hS => ?_
 refine rP T hS ⟨[(0, V (.int .u64 x_)), (1, V (.int .u64 y_)), (6, V (.int .u64 (IntKind.u64.wrap ((BitVec.ofInt IntKind.u64.bits x_ &&& BitVec.ofInt IntKind.u64.bits 4294967295).toNat : Int)))), (7, V (.int .u64 ((x_).fdiv (2 ^ 32)))), (9, V (.int .u64 ((y_).fdiv (2 ^ 32)))), (11, V (.int .u64 (IntKind.u64.wrap ((IntKind.u64.wrap (((x_).fdiv (2 ^ 32)) * (IntKind.u64.wrap ((BitVec.ofInt IntKind.u64.bits y_ &&& BitVec.ofInt IntKind.u64.bits 4294967295).toNat : Int)))) + (((IntKind.u64.wrap ((IntKind.u64.wrap ((BitVec.ofInt IntKind.u64.bits x_ &&& BitVec.ofInt IntKind.u64.bits 4294967295).toNat : Int)) * (IntKind.u64.wrap ((BitVec.ofInt IntKind.u64.bits y_ &&& BitVec.ofInt IntKind.u64.bits 4294967295).toNat : Int))))).fdiv (2 ^ 32)))))), (12, V (.int .u64 (IntKind.u64.wrap ((BitVec.ofInt IntKind.u64.bits (IntKind.u64.wrap ((IntKind.u64.wrap (((x_).fdiv (2 ^ 32)) * (IntKind.u64.wrap ((BitVec.ofInt IntKind.u64.bits y_ &&& BitVec.ofInt IntKind.u64.bits 4294967295).toNat : Int)))) + (((IntKind.u64.wrap ((IntKind.u64.wrap ((BitVec.ofInt IntKind.u64.bits x_ &&& BitVec.ofInt IntKind.u64.bits 4294967295).toNat : Int)) * (IntKind.u64.wrap ((BitVec.ofInt IntKind.u64.bits y_ &&& BitVec.ofInt IntKind.u64.bits 4294967295).toNat : Int))))).fdiv (2 ^ 32)))) &&& BitVec.ofInt IntKind.u64.bits 4294967295).toNat : Int))))], []⟩ fun a hS => ?_
 refine rP T hS ⟨[(0, V (.int .u64 x_)), (1, V (.int .u64 y_)), (6, V (.int .u64 (IntKind.u64.wrap ((BitVec.ofInt IntKind.u64.bits x_ &&& BitVec.ofInt IntKind.u64.bits 4294967295).toNat : Int)))), (7, V (.int .u64 ((x_).fdiv (2 ^ 32)))), (9, V (.int .u64 ((y_).fdiv (2 ^ 32)))), (12, V (.int .u64 (IntKind.u64.wrap ((BitVec.ofInt IntKind.u64.bits (IntKind.u64.wrap ((IntKind.u64.wrap (((x_).fdiv (2 ^ 32)) * (IntKind.u64.wrap ((BitVec.ofInt IntKind.u64.bits y_ &&& BitVec.ofInt IntKind.u64.bits 4294967295).toNat : Int)))) + (((IntKind.u64.wrap ((IntKind.u64.wrap ((BitVec.ofInt IntKind.u64.bits x_ &&& BitVec.ofInt IntKind.u64.bits 4294967295).toNat : Int)) * (IntKind.u64.wrap ((BitVec.ofInt IntKind.u64.bits y_ &&& BitVec.ofInt IntKind.u64.bits 4294967295).toNat : Int))))).fdiv (2 ^ 32)))) &&& BitVec.ofInt IntKind.u64.bits 4294967295).toNat : Int)))), (13, V (.int .u64 (((IntKind.u64.wrap ((IntKind.u64.wrap (((x_).fdiv (2 ^ 32)) * (IntKind.u64.wrap ((BitVec.ofInt IntKind.u64.bits y_ &&& BitVec.ofInt IntKind.u64.bits 4294967295).toNat : Int)))) + (((IntKind.u64.wrap ((IntKind.u64.wrap ((BitVec.ofInt IntKind.u64.bits x_ &&& BitVec.ofInt IntKind.u64.bits 4294967295).toNat : Int)) * (IntKind.u64.wrap ((BitVec.ofInt IntKind.u64.bits y_ &&& BitVec.ofInt IntKind.u64.bits 4294967295).toNat : Int))))).fdiv (2 ^ 32))))).fdiv (2 ^ 32))))], []⟩ fun a hS => ?_
 refine rP T hS ⟨[(0, V (.int .u64 x_)), (1, V (.int .u64 y_)), (7, V (.int .u64 ((x_).fdiv (2 ^ 32)))), (9, V (.int .u64 ((y_).fdiv (2 ^ 32)))), (12, V (.int .u64 (IntKind.u64.wrap ((IntKind.u64.wrap ((BitVec.ofInt IntKind.u64.bits (IntKind.u64.wrap ((IntKind.u64.wrap (((x_).fdiv (2 ^ 32)) * (IntKind.u64.wrap ((BitVec.ofInt IntKind.u64.bits y_ &&& BitVec.ofInt IntKind.u64.bits 4294967295).toNat : Int)))) + (((IntKind.u64.wrap ((IntKind.u64.wrap ((BitVec.ofInt IntKind.u64.bits x_ &&& BitVec.ofInt IntKind.u64.bits 4294967295).toNat : Int)) * (IntKind.u64.wrap ((BitVec.ofInt IntKind.u64.bits y_ &&& BitVec.ofInt IntKind.u64.bits 4294967295).toNat : Int))))).fdiv (2 ^ 32)))) &&& BitVec.ofInt IntKind.u64.bits 4294967295).toNat : Int)) + (IntKind.u64.wrap ((IntKind.u64.wrap ((BitVec.ofInt IntKind.u64.bits x_ &&& BitVec.ofInt IntKind.u64.bits 4294967295).toNat : Int)) * ((y_).fdiv (2 ^ 32)))))))), (13, V (.int .u64 (((IntKind.u64.wrap ((IntKind.u64.wrap (((x_).fdiv (2 ^ 32)) * (IntKind.u64.wrap ((BitVec.ofInt IntKind.u64.bits y_ &&& BitVec.ofInt IntKind.u64.bits 4294967295).toNat : Int)))) + (((IntKind.u64.wrap ((IntKind.u64.wrap ((BitVec.ofInt IntKind.u64.bits x_ &&& BitVec.ofInt IntKind.u64.bits 4294967295).toNat : Int)) * (IntKind.u64.wrap ((BitVec.ofInt IntKind.u64.bits y_ &&& BitVec.ofInt IntKind.u64.bits 4294967295).toNat : Int))))).fdiv (2 ^ 32))))).fdiv (2 ^ 32))))], []⟩ fun a hS => ?_
 refine rP T hS ⟨[(0, V (.int .u64 x_)), (1, V (.int .u64 y_)), (4, V (.int .u64 (IntKind.u64.wrap ((IntKind.u64.wrap ((IntKind.u64.wrap (((x_).fdiv (2 ^ 32)) * ((y_).fdiv (2 ^ 32)))) + (((IntKind.u64.wrap ((IntKind.u64.wrap (((x_).fdiv (2 ^ 32)) * (IntKind.u64.wrap ((BitVec.ofInt IntKind.u64.bits y_ &&& BitVec.ofInt IntKind.u64.bits 4294967295).toNat : Int)))) + (((IntKind.u64.wrap ((IntKind.u64.wrap ((BitVec.ofInt IntKind.u64.bits x_ &&& BitVec.ofInt IntKind.u64.bits 4294967295).toNat : Int)) * (IntKind.u64.wrap ((BitVec.ofInt IntKind.u64.bits y_ &&& BitVec.ofInt IntKind.u64.bits 4294967295).toNat : Int))))).fdiv (2 ^ 32))))).fdiv (2 ^ 32)))) + (((IntKind.u64.wrap ((IntKind.u64.wrap ((BitVec.ofInt IntKind.u64.bits (IntKind.u64.wrap ((IntKind.u64.wrap (((x_).fdiv (2 ^ 32)) * (IntKind.u64.wrap ((BitVec.ofInt IntKind.u64.bits y_ &&& BitVec.ofInt IntKind.u64.bits 4294967295).toNat : Int)))) + (((IntKind.u64.wrap ((IntKind.u64.wrap ((BitVec.ofInt IntKind.u64.bits x_ &&& BitVec.ofInt IntKind.u64.bits 4294967295).toNat : Int)) * (IntKind.u64.wrap ((BitVec.ofInt IntKind.u64.bits y_ &&& BitVec.ofInt IntKind.u64.bits 4294967295).toNat : Int))))).fdiv (2 ^ 32)))) &&& BitVec.ofInt IntKind.u64.bits 4294967295).toNat : Int)) + (IntKind.u64.wrap ((IntKind.u64.wrap ((BitVec.ofInt IntKind.u64.bits x_ &&& BitVec.ofInt IntKind.u64.bits 4294967295).toNat : Int)) * ((y_).fdiv (2 ^ 32))))))).fdiv (2 ^ 32))))))], []⟩ fun a hS => ?_
 refine rP T hS ⟨[(4, V (.int .u64 (IntKind.u64.wrap ((IntKind.u64.wrap ((IntKind.u64.wrap (((x_).fdiv (2 ^ 32)) * ((y_).fdiv (2 ^ 32)))) + (((IntKind.u64.wrap ((IntKind.u64.wrap (((x_).fdiv (2 ^ 32)) * (IntKind.u64.wrap ((BitVec.ofInt IntKind.u64.bits y_ &&& BitVec.ofInt IntKind.u64.bits 4294967295).toNat : Int)))) + (((IntKind.u64.wrap ((IntKind.u64.wrap ((BitVec.ofInt IntKind.u64.bits x_ &&& BitVec.ofInt IntKind.u64.bits 4294967295).toNat : Int)) * (IntKind.u64.wrap ((BitVec.ofInt IntKind.u64.bits y_ &&& BitVec.ofInt IntKind.u64.bits 4294967295).toNat : Int))))).fdiv (2 ^ 32))))).fdiv (2 ^ 32)))) + (((IntKind.u64.wrap ((IntKind.u64.wrap ((BitVec.ofInt IntKind.u64.bits (IntKind.u64.wrap ((IntKind.u64.wrap (((x_).fdiv (2 ^ 32)) * (IntKind.u64.wrap ((BitVec.ofInt IntKind.u64.bits y_ &&& BitVec.ofInt IntKind.u64.bits 4294967295).toNat : Int)))) + (((IntKind.u64.wrap ((IntKind.u64.wrap ((BitVec.ofInt IntKind.u64.bits x_ &&& BitVec.ofInt IntKind.u64.bits 4294967295).toNat : Int)) * (IntKind.u64.wrap ((BitVec.ofInt IntKind.u64.bits y_ &&& BitVec.ofInt IntKind.u64.bits 4294967295).toNat : Int))))).fdiv (2 ^ 32)))) &&& BitVec.ofInt IntKind.u64.bits 4294967295).toNat : Int)) + (IntKind.u64.wrap ((IntKind.u64.wrap ((BitVec.ofInt IntKind.u64.bits x_ &&& BitVec.ofInt IntKind.u64.bits 4294967295).toNat : Int)) * ((y_).fdiv (2 ^ 32))))))).fdiv (2 ^ 32)))))), (5, V (.int .u64 (IntKind.u64.wrap (x_ * y_))))], []⟩ fun a hS => ?_
 refine wret ?_
 exact fin T hS hO (fun c => c) rfl (r := [.int .u64 (IntKind.u64.wrap ((IntKind.u64.wrap ((IntKind.u64.wrap (((x_).fdiv (2 ^ 32)) * ((y_).fdiv (2 ^ 32)))) + (((IntKind.u64.wrap ((IntKind.u64.wrap (((x_).fdiv (2 ^ 32)) * (IntKind.u64.wrap ((BitVec.ofInt IntKind.u64.bits y_ &&& BitVec.ofInt IntKind.u64.bits 4294967295).toNat : Int)))) + (((IntKind.u64.wrap ((IntKind.u64.wrap ((BitVec.ofInt IntKind.u64.bits x_ &&& BitVec.ofInt IntKind.u64.bits 4294967295).toNat : Int)) * (IntKind.u64.wrap ((BitVec.ofInt IntKind.u64.bits y_ &&& BitVec.ofInt IntKind.u64.bits 4294967295).toNat : Int))))).fdiv (2 ^ 32))))).fdiv (2 ^ 32)))) + (((IntKind.u64.wrap ((IntKind.u64.wrap ((BitVec.ofInt IntKind.u64.bits (IntKind.u64.wrap ((IntKind.u64.wrap (((x_).fdiv (2 ^ 32)) * (IntKind.u64.wrap ((BitVec.ofInt IntKind.u64.bits y_ &&& BitVec.ofInt IntKind.u64.bits 4294967295).toNat : Int)))) + (((IntKind.u64.wrap ((IntKind.u64.wrap ((BitVec.ofInt IntKind.u64.bits x_ &&& BitVec.ofInt IntKind.u64.bits 4294967295).toNat : Int)) * (IntKind.u64.wrap ((BitVec.ofInt IntKind.u64.bits y_ &&& BitVec.ofInt IntKind.u64.bits 4294967295).toNat : Int))))).fdiv (2 ^ 32)))) &&& BitVec.ofInt IntKind.u64.bits 4294967295).toNat : Int)) + (IntKind.u64.wrap ((IntKind.u64.wrap ((BitVec.ofInt IntKind.u64.bits x_ &&& BitVec.ofInt IntKind.u64.bits 4294967295).toNat : Int)) * ((y_).fdiv (2 ^ 32))))))).fdiv (2 ^ 32)))), .int .u64 (IntKind.u64.wrap (x_ * y_))]) kr (fun χ' hM hC => ⟨(IntKind.u64.wrap ((IntKind.u64.wrap ((IntKind.u64.wrap (((x_).fdiv (2 ^ 32)) * ((y_).fdiv (2 ^ 32)))) + (((IntKind.u64.wrap ((IntKind.u64.wrap (((x_).fdiv (2 ^ 32)) * (IntKind.u64.wrap ((BitVec.ofInt IntKind.u64.bits y_ &&& BitVec.ofInt IntKind.u64.bits 4294967295).toNat : Int)))) + (((IntKind.u64.wrap ((IntKind.u64.wrap ((BitVec.ofInt IntKind.u64.bits x_ &&& BitVec.ofInt IntKind.u64.bits 4294967295).toNat : Int)) * (IntKind.u64.wrap ((BitVec.ofInt IntKind.u64.bits y_ &&& BitVec.ofInt IntKind.u64.bits 4294967295).toNat : Int))))).fdiv (2 ^ 32))))).fdiv (2 ^ 32)))) + (((IntKind.u64.wrap ((IntKind.u64.wrap ((BitVec.ofInt IntKind.u64.bits (IntKind.u64.wrap ((IntKind.u64.wrap (((x_).fdiv (2 ^ 32)) * (IntKind.u64.wrap ((BitVec.ofInt IntKind.u64.bits y_ &&& BitVec.ofInt IntKind.u64.bits 4294967295).toNat : Int)))) + (((IntKind.u64.wrap ((IntKind.u64.wrap ((BitVec.ofInt IntKind.u64.bits x_ &&& BitVec.ofInt IntKind.u64.bits 4294967295).toNat : Int)) * (IntKind.u64.wrap ((BitVec.ofInt IntKind.u64.bits y_ &&& BitVec.ofInt IntKind.u64.bits 4294967295).toNat : Int))))).fdiv (2 ^ 32)))) &&& BitVec.ofInt IntKind.u64.bits 4294967295).toNat : Int)) + (IntKind.u64.wrap ((IntKind.u64.wrap ((BitVec.ofInt IntKind.u64.bits x_ &&& BitVec.ofInt IntKind.u64.bits 4294967295).toNat : Int)) * ((y_).fdiv (2 ^ 32))))))).fdiv (2 ^ 32))), IntKind.u64.wrap (x_ * y_)), hm, rfl⟩)
theorem C88 (v : ∀ (x_ : Int) (y_ : Int), preM x_ y_ → VC88 x_ y_ (fun r => r = math_bits_Mul64 x_ y_)) : S88 := by
 intro w χ x_ y_    hp 
 refine (W88 w χ x_ y_    _ (v x_ y_ hp)).mono ?_
 rintro _ _ _ _ ⟨r, rfl, h⟩
 exact h
/-- math/bits.Mul -/
theorem W77 (k88 : S88) (w0 : World) (χ0 : Nat → Nat) (x_ : Int) (y_ : Int) (Q : Int × Int → Prop) (hm : VC77 x_ y_ Q) :
  Ret Tryd.prog 77 #[.int .u64 x_, .int .u64 y_] xnone w0 χ0 (fun w χ' v => ∃ r, Q r ∧ v = .tuple #[.int .u64 r.1, .int .u64 r.2]) := by
 unfold VC77 at hm
 refine enter Tryd.func77 rfl (vals := [.int .u64 x_, .int .u64 y_]) kr ?_
 intro ρ a hS hO hM
 clear hM
 refine rP T hS ⟨[(0, V (.int .u64 x_)), (1, V (.int .u64 y_))], []⟩ fun a hS => ?_
 refine wseq ?_
 refine wcond hS (b := false) kr (fun hb => by cases hb) (fun _ => ?_)
 refine wskip ?_
 refine regO ?_
 refine oP T hS 2 ⟨[(23, V (.int .u64 x_)), (24, V (.int .u64 y_))], []⟩ fun a hS => ?_
 obtain ⟨hq, hm⟩ := hm
 refine op1 (call hS kr kr hb88 kr (fun _ _ => rfl) (k88 _ _ x_ y_ hq) ?_)
 intro v101 a w102 χ103 hE hp hS
 clear hq
 replace hO := hO.mv hE rfl rfl
 clear hE
 obtain ⟨r104, hr⟩ : ∃ r, math_bits_Mul64 x_ y_ = r := ⟨_, rfl⟩
 replace hm := hm r104 hr
 rw [hr] at hp
 clear hr
 subst hp
 refine eP T hS ⟨[(8, V (.int .u64 r104.1)), (9, V (.int .u64 r104.2))], []⟩ fun a hS => ?_
 refine rP T hS ⟨[(4, V (.int .u64 r104.1)), (5, V (.int .u64 r104.2))], []⟩ fun a hS => ?_
 refine wret ?_
 exact fin T hS hO (fun c => c) rfl (r := [.int .u64 r104.1, .int .u64 r104.2]) kr (fun χ' hM hC => ⟨(r104.1, r104.2), hm, rfl⟩)
theorem C77 (k88 : S88) (v : ∀ (x_ : Int) (y_ : Int), preM x_ y_ → VC77 x_ y_ (fun r => r = math_bits_Mul x_ y_)) : S77 := by
 intro w χ x_ y_    hp 
 refine (W77 k88 w χ x_ y_    _ (v x_ y_ hp)).mono ?_
 rintro _ _ _ _ ⟨r, rfl, h⟩
 exact h
end Go.Proofs.YtcjldfbgccmpkaaDoor
