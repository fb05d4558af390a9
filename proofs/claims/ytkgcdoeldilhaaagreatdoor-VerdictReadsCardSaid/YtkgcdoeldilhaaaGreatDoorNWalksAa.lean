/- Walks: each function returns what its condition asks. Condition: the contracts of its callees, handed in. -/
import Derived.Test.YtkgcdoeldilhaaaGreatDoorNWalksS
set_option linter.all false
namespace Go.Proofs.YtkgcdoeldilhaaaGreatDoor
open Go Go.Sv
set_option maxHeartbeats 1000000
theorem W85 (w0 : World) (χ0 : Nat → Nat) (s_ : List UInt8) (prefix_ : List UInt8) (Q : Bool → Prop) (hm : VC85 s_ prefix_ Q) :
  Ret Tryz.prog 85 #[.string (bs s_), .string (bs prefix_)] xnone w0 χ0 (fun w χ' v => ∃ r, Q r ∧ v = .bool r) := by
 unfold VC85 at hm
 refine enter Tryz.func85 rfl (vals := [.string (bs s_), .string (bs prefix_)]) kr ?_
 intro ρ a hS hO hM
 clear hM
 refine rP T hS ⟨[(0, Z s_), (1, Z prefix_)], []⟩ fun a hS => ?_
 refine regO ?_
 refine oP T hS 6 ⟨[(0, Z s_), (1, Z prefix_), (10, B (decide ((lN s_) ≥ (lN prefix_))))], []⟩ fun a hS => ?_
 rcases Bool.eq_false_or_eq_true (decide ((lN s_) ≥ (lN prefix_))) with hb | hb
 ·replace hS := hS.lit (t := 10) kr hb
  replace hm := hm.1 hb
  refine oP T hS 3 ⟨[(1, Z prefix_), (10, B true), (11, Z s_), (13, I (lN prefix_))], []⟩ fun a hS => ?_
  obtain ⟨hq, hm⟩ := hm
  refine op1 (sslice0 (kh := .i64) (s := s_) T hS kr kr kr kr kr hq.1 hq.2 ?_)
  intro a hS
  refine eP T hS ⟨[(4, B ((s_.take (lN prefix_).toNat) == prefix_))], []⟩ fun a hS => ?_
  refine wret ?_
  exact fin T hS hO (fun c => c) rfl (r := [.bool ((s_.take (lN prefix_).toNat) == prefix_)]) kr (fun χ' hM hC => ⟨((s_.take (lN prefix_).toNat) == prefix_), hm, rfl⟩)
 replace hS := hS.lit (t := 10) kr hb
 replace hm := hm.2 hb
 refine eP T hS ⟨[(4, B false)], []⟩ fun a hS => ?_
 refine wret ?_
 exact fin T hS hO (fun c => c) rfl (r := [.bool false]) kr (fun χ' hM hC => ⟨false, hm, rfl⟩)
theorem C85 (v : ∀ (s_ : List UInt8) (prefix_ : List UInt8), preTwo s_ prefix_ → VC85 s_ prefix_ (fun r => r = internal_stringslite_HasPrefix s_ prefix_)) : S85 := by
 intro w χ s_ prefix_    hp 
 refine (W85 w χ s_ prefix_    _ (v s_ prefix_ hp)).mono ?_
 rintro _ _ _ _ ⟨r, rfl, h⟩
 exact h
theorem W69 (k85 : S85) (w0 : World) (χ0 : Nat → Nat) (s_ : List UInt8) (prefix_ : List UInt8) (Q : Bool → Prop) (hm : VC69 s_ prefix_ Q) :
  Ret Tryz.prog 69 #[.string (bs s_), .string (bs prefix_)] xnone w0 χ0 (fun w χ' v => ∃ r, Q r ∧ v = .bool r) := by
 unfold VC69 at hm
 refine enter Tryz.func69 rfl (vals := [.string (bs s_), .string (bs prefix_)]) kr ?_
 intro ρ a hS hO hM
 clear hM
 refine rP T hS ⟨[(0, Z s_), (1, Z prefix_)], []⟩ fun a hS => ?_
 refine regO ?_
 refine oP T hS 2 ⟨[(5, Z s_), (6, Z prefix_)], []⟩ fun a hS => ?_
 obtain ⟨hq, hm⟩ := hm
 refine op1 (call hS kr kr hb85 kr (fun _ _ => rfl) (k85 _ _ s_ prefix_ hq) ?_)
 intro v101 a w102 χ103 hE hp hS
 replace hO := hO.mv hE rfl rfl
 obtain ⟨r104, hr⟩ : ∃ r, internal_stringslite_HasPrefix s_ prefix_ = r := ⟨_, rfl⟩
 replace hm := hm r104 hr
 rw [hr] at hp
 clear hr
 subst hp
 refine eP T hS ⟨[(4, B r104)], []⟩ fun a hS => ?_
 refine wret ?_
 exact fin T hS hO (fun c => c) rfl (r := [.bool r104]) kr (fun χ' hM hC => ⟨r104, hm, rfl⟩)
theorem C69 (k85 : S85) (v : ∀ (s_ : List UInt8) (prefix_ : List UInt8), preTwo s_ prefix_ → VC69 s_ prefix_ (fun r => r = strings_HasPrefix s_ prefix_)) : S69 := by
 intro w χ s_ prefix_    hp 
 refine (W69 k85 w χ s_ prefix_    _ (v s_ prefix_ hp)).mono ?_
 rintro _ _ _ _ ⟨r, rfl, h⟩
 exact h
theorem W113 (k85 : S85) (w0 : World) (χ0 : Nat → Nat) (s_ : List UInt8) (prefix_ : List UInt8) (Q : (List UInt8) × Bool → Prop) (hm : VC113 s_ prefix_ Q) :
  Ret Tryz.prog 113 #[.string (bs s_), .string (bs prefix_)] xnone w0 χ0 (fun w χ' v => ∃ r, Q r ∧ v = .tuple #[.string (bs r.1), .bool r.2]) := by
 unfold VC113 at hm
 refine enter Tryz.func113 rfl (vals := [.string (bs s_), .string (bs prefix_)]) kr ?_
 intro ρ a hS hO hM
 clear hM
 refine rP T hS ⟨[(0, Z s_), (1, Z prefix_)], []⟩ fun a hS => ?_
 refine wseq ?_
 refine regO ?_
 refine oP T hS 2 ⟨[(0, Z s_), (1, Z prefix_), (6, Z s_), (7, Z prefix_)], []⟩ fun a hS => ?_
 obtain ⟨hq, hm⟩ := hm
 refine op1 (call hS kr kr hb85 kr (fun _ _ => rfl) (k85 _ _ s_ prefix_ hq) ?_)
 intro v101 a w102 χ103 hE hp hS
 replace hO := hO.mv hE rfl rfl
 obtain ⟨r104, hr⟩ : ∃ r, internal_stringslite_HasPrefix s_ prefix_ = r := ⟨_, rfl⟩
 replace hm := hm r104 hr
 rw [hr] at hp
 clear hr
 subst hp
 refine eP T hS ⟨[(0, Z s_), (1, Z prefix_), (9, B (!r104))], []⟩ fun a hS => ?_
 refine wcond hS (b := (!r104)) kr (fun hb => ?_) (fun hb => ?_)
 ·replace hm := hm.1 hb
  refine rP T hS ⟨[(4, Z s_), (5, B false)], []⟩ fun a hS => ?_
  refine wret ?_
  exact fin T hS hO (fun c => c) rfl (r := [.string (bs s_), .bool false]) kr (fun χ' hM hC => ⟨(s_, false), hm, rfl⟩)
 replace hm := hm.2 hb
 refine wskip ?_
 refine regO ?_
 refine oP T hS 3 ⟨[(11, Z s_), (13, I (lN prefix_))], []⟩ fun a hS => ?_
 obtain ⟨hq, hm⟩ := hm
 refine op1 (sslice1 (kl := .i64) (s := s_) T hS kr kr kr kr kr hq.1 hq.2 ?_)
 intro a hS
 refine eP T hS ⟨[(4, Z (s_.drop (lN prefix_).toNat)), (5, B true)], []⟩ fun a hS => ?_
 refine wret ?_
 exact fin T hS hO (fun c => c) rfl (r := [.string (bs (s_.drop (lN prefix_).toNat)), .bool true]) kr (fun χ' hM hC => ⟨((s_.drop (lN prefix_).toNat), true), hm, rfl⟩)
theorem C113 (k85 : S85) (v : ∀ (s_ : List UInt8) (prefix_ : List UInt8), preTwo s_ prefix_ → VC113 s_ prefix_ (fun r => r = internal_stringslite_CutPrefix s_ prefix_)) : S113 := by
 intro w χ s_ prefix_    hp 
 refine (W113 k85 w χ s_ prefix_    _ (v s_ prefix_ hp)).mono ?_
 rintro _ _ _ _ ⟨r, rfl, h⟩
 exact h
theorem W107 (k113 : S113) (w0 : World) (χ0 : Nat → Nat) (s_ : List UInt8) (prefix_ : List UInt8) (Q : (List UInt8) × Bool → Prop) (hm : VC107 s_ prefix_ Q) :
  Ret Tryz.prog 107 #[.string (bs s_), .string (bs prefix_)] xnone w0 χ0 (fun w χ' v => ∃ r, Q r ∧ v = .tuple #[.string (bs r.1), .bool r.2]) := by
 unfold VC107 at hm
 refine enter Tryz.func107 rfl (vals := [.string (bs s_), .string (bs prefix_)]) kr ?_
 intro ρ a hS hO hM
 clear hM
 refine rP T hS ⟨[(0, Z s_), (1, Z prefix_)], []⟩ fun a hS => ?_
 refine regO ?_
 refine oP T hS 2 ⟨[(6, Z s_), (7, Z prefix_)], []⟩ fun a hS => ?_
 obtain ⟨hq, hm⟩ := hm
 refine op1 (call hS kr kr hb113 kr (fun _ _ => rfl) (k113 _ _ s_ prefix_ hq) ?_)
 intro v101 a w102 χ103 hE hp hS
 replace hO := hO.mv hE rfl rfl
 obtain ⟨r104, hr⟩ : ∃ r, internal_stringslite_CutPrefix s_ prefix_ = r := ⟨_, rfl⟩
 replace hm := hm r104 hr
 rw [hr] at hp
 clear hr
 subst hp
 refine eP T hS ⟨[(4, Z r104.1), (5, B r104.2)], []⟩ fun a hS => ?_
 refine wret ?_
 exact fin T hS hO (fun c => c) rfl (r := [.string (bs r104.1), .bool r104.2]) kr (fun χ' hM hC => ⟨(r104.1, r104.2), hm, rfl⟩)
theorem C107 (k113 : S113) (v : ∀ (s_ : List UInt8) (prefix_ : List UInt8), preTwo s_ prefix_ → VC107 s_ prefix_ (fun r => r = strings_CutPrefix s_ prefix_)) : S107 := by
 intro w χ s_ prefix_    hp 
 refine (W107 k113 w χ s_ prefix_    _ (v s_ prefix_ hp)).mono ?_
 rintro _ _ _ _ ⟨r, rfl, h⟩
 exact h
theorem W68 (k84 : S84) (w0 : World) (χ0 : Nat → Nat) (s_ : List UInt8) (sep : List UInt8) (Q : (List UInt8) × (List UInt8) × Bool → Prop) (hm : VC68 s_ sep Q) :
  Ret Tryz.prog 68 #[.string (bs s_), .string (bs sep)] xnone w0 χ0 (fun w χ' v => ∃ r, Q r ∧ v = .tuple #[.string (bs r.1), .string (bs r.2.1), .bool r.2.2]) := by
 unfold VC68 at hm
 refine enter Tryz.func68 rfl (vals := [.string (bs s_), .string (bs sep)]) kr ?_
 intro ρ a hS hO hM
 clear hM
 refine rP T hS ⟨[(0, Z s_), (1, Z sep)], []⟩ fun a hS => ?_
 refine wseq ?_
 refine regO ?_
 refine oP T hS 2 ⟨[(0, Z s_), (1, Z sep), (8, Z s_), (9, Z sep)], []⟩ fun a hS => ?_
 obtain ⟨hq, hm⟩ := hm
 refine op1 (call hS kr kr hb84 kr (fun _ _ => rfl) (k84 _ _ s_ sep hq) ?_)
 intro v101 a w102 χ103 hE hp hS
 replace hO := hO.mv hE rfl rfl
 obtain ⟨r104, hr⟩ : ∃ r, internal_stringslite_Index s_ sep = r := ⟨_, rfl⟩
 replace hm := hm r104 hr
 rw [hr] at hp
 clear hr
 subst hp
 refine eP T hS ⟨[(0, Z s_), (1, Z sep), (7, I r104)], []⟩ fun a hS => ?_
 refine rP T hS ⟨[(0, Z s_), (1, Z sep), (7, I r104), (12, B (decide (r104 ≥ 0)))], []⟩ fun a hS => ?_
 refine wcond hS (b := decide (r104 ≥ 0)) kr (fun hb => ?_) (fun hb => ?_)
 ·replace hm := hm.1 hb
  refine drawnSX [] mixed hS ?_
  intro w105 χ106 hS hE hD hH
  replace hO := hO.mv hE rfl rfl
  refine tk T [0, 1, 3, 4, 5, 6, 7] [] hS hH #[true, true, false, true, true, true, true, true, false, false, false, false] 5 ⟨[(13, Z s_), (14, I r104), (16, Z s_), (20, I (wR (r104 + (lN sep))))], []⟩ fun a hS => ?_
  obtain ⟨hq, hm⟩ := hm
  refine dsslice0 (kh := .i64) (s := s_) T 2 hS kr kr kr (by rfl) kr hH kr kr kr hq.1 hq.2 ?_
  intro a hS
  refine tk T [9] [] hS hH #[true, true, true, true, true, true, true, true, false, true, false, false] 3 ⟨[(4, Z (s_.take r104.toNat)), (16, Z s_), (20, I (wR (r104 + (lN sep))))], []⟩ fun a hS => ?_
  obtain ⟨hq, hm⟩ := hm
  refine dsslice1 (kl := .i64) (s := s_) T 8 hS kr kr kr (by rfl) kr hH kr kr kr hq.1 hq.2 ?_
  intro a hS
  refine tk T [10, 11] [] hS hH #[true, true, true, true, true, true, true, true, true, true, true, true] 0 ⟨[(4, Z (s_.take r104.toNat)), (5, Z (s_.drop (wR (r104 + (lN sep))).toNat)), (6, B true)], []⟩ fun a hS => ?_
  refine drawnDone kr ?_
  clear hD hH
  replace hS := hS.sl ⟨[(4, Z (s_.take r104.toNat)), (5, Z (s_.drop (wR (r104 + (lN sep))).toNat)), (6, B true)], []⟩
  refine wret ?_
  exact fin T hS hO (fun c => c) rfl (r := [.string (bs (s_.take r104.toNat)), .string (bs (s_.drop (wR (r104 + (lN sep))).toNat)), .bool true]) kr (fun χ' hM hC => ⟨((s_.take r104.toNat), (s_.drop (wR (r104 + (lN sep))).toNat), true), hm, rfl⟩)
 replace hm := hm.2 hb
 refine wskip ?_
 refine rP T hS ⟨[(4, Z s_), (5, Z ([] : List UInt8)), (6, B false)], []⟩ fun a hS => ?_
 refine wret ?_
 exact fin T hS hO (fun c => c) rfl (r := [.string (bs s_), .string (bs ([] : List UInt8)), .bool false]) kr (fun χ' hM hC => ⟨(s_, ([] : List UInt8), false), hm, rfl⟩)
theorem C68 (k84 : S84) (v : ∀ (s_ : List UInt8) (sep : List UInt8), preOne s_ sep → VC68 s_ sep (fun r => r = internal_stringslite_Cut s_ sep)) : S68 := by
 intro w χ s_ sep    hp 
 refine (W68 k84 w χ s_ sep    _ (v s_ sep hp)).mono ?_
 rintro _ _ _ _ ⟨r, rfl, h⟩
 exact h
theorem W44 (k68 : S68) (w0 : World) (χ0 : Nat → Nat) (s_ : List UInt8) (sep : List UInt8) (Q : (List UInt8) × (List UInt8) × Bool → Prop) (hm : VC44 s_ sep Q) :
  Ret Tryz.prog 44 #[.string (bs s_), .string (bs sep)] xnone w0 χ0 (fun w χ' v => ∃ r, Q r ∧ v = .tuple #[.string (bs r.1), .string (bs r.2.1), .bool r.2.2]) := by
 unfold VC44 at hm
 refine enter Tryz.func44 rfl (vals := [.string (bs s_), .string (bs sep)]) kr ?_
 intro ρ a hS hO hM
 clear hM
 refine rP T hS ⟨[(0, Z s_), (1, Z sep)], []⟩ fun a hS => ?_
 refine regO ?_
 refine oP T hS 2 ⟨[(7, Z s_), (8, Z sep)], []⟩ fun a hS => ?_
 obtain ⟨hq, hm⟩ := hm
 refine op1 (call hS kr kr hb68 kr (fun _ _ => rfl) (k68 _ _ s_ sep hq) ?_)
 intro v101 a w102 χ103 hE hp hS
 replace hO := hO.mv hE rfl rfl
 obtain ⟨r104, hr⟩ : ∃ r, internal_stringslite_Cut s_ sep = r := ⟨_, rfl⟩
 replace hm := hm r104 hr
 rw [hr] at hp
 clear hr
 subst hp
 refine eP T hS ⟨[(4, Z r104.1), (5, Z r104.2.1), (6, B r104.2.2)], []⟩ fun a hS => ?_
 refine wret ?_
 exact fin T hS hO (fun c => c) rfl (r := [.string (bs r104.1), .string (bs r104.2.1), .bool r104.2.2]) kr (fun χ' hM hC => ⟨(r104.1, r104.2.1, r104.2.2), hm, rfl⟩)
theorem C44 (k68 : S68) (v : ∀ (s_ : List UInt8) (sep : List UInt8), preOne s_ sep → VC44 s_ sep (fun r => r = strings_Cut s_ sep)) : S44 := by
 intro w χ s_ sep    hp 
 refine (W44 k68 w χ s_ sep    _ (v s_ sep hp)).mono ?_
 rintro _ _ _ _ ⟨r, rfl, h⟩
 exact h
theorem W45 (k69 : S69) (k70 : S70) (w0 : World) (χ0 : Nat → Nat) (s_ : List UInt8) (line : Int) (at_ : Int) (Q : (List Token_Token) → Prop) (hm : VC45 s_ line at_ Q) :
  Ret Tryz.prog 45 #[.string (bs s_), .int .i64 line, .int .i64 at_] xnone w0 χ0 (fun w χ' v => ∃ r, Q r ∧ ∃ (ra1 : Option Addr) (rc1 : Nat), v = .slice ra1 r.length rc1 ∧ RS tToken_Token w χ' ra1 r rc1) := by
 unfold VC45 at hm
 refine enter Tryz.func45 rfl (vals := [.string (bs s_), .int .i64 line, .int .i64 at_]) kr ?_
 intro ρ a hS hO hM
 clear hM
 refine rP T hS ⟨[(0, Z s_), (1, I line), (2, I at_)], []⟩ fun a hS => ?_
 obtain ⟨I1_0, μ1_0, I1_1, μ1_1, hmf, hm0, hm1⟩ := hm
 refine wlabels2 (σ := (List Token_Token) × Int × Int) 0 1 (fun l s a w => ∃ (ρ : Nat → Nat) (χ : Nat → Nat) (a102 : Option Addr) (c103 : Nat), (bif Nat.beq l 1 then I1_1 s.1 s.2.1 s.2.2 else I1_0 s.1 s.2.1 s.2.2) ∧ St Tryz.f45.ntmps ⟨[(0, Z s_), (1, I line), (2, I at_), (7, Sl a102 s.1 c103), (8, I s.2.1), (9, I s.2.2)], []⟩ ρ a w χ ∧ Old w0 χ0 w χ ∧ OS tToken_Token 60 w χ 1007 a102 s.1 c103) (fun l s => (bif Nat.beq l 1 then μ1_1 s.1 s.2.1 s.2.2 else μ1_0 s.1 s.2.1 s.2.2)) (by rfl) (by rfl) (by rfl) ?_ (fun H1 => ?_) (fun H0 H1 => ?_)
 ·rintro ⟨out_101, i_105, from_106⟩ a w141 ⟨ρ, χ140, a102, c103, hI, hS, hO, h104⟩
  replace hm := hm1 out_101 i_105 from_106 hI
  clear hI hmf hm0 hm1
  refine wrest rfl ?_
  refine rP T hS ⟨[(0, Z s_), (1, I line), (2, I at_), (7, Sl a102 out_101 c103), (8, I (wR (i_105 + 1))), (9, I from_106)], []⟩ fun a hS => ?_
  refine wseq ?_
  refine wcut (fun a w => ∃ (ρ : Nat → Nat) (χ : Nat → Nat) (out_113 : List Token_Token) (x_117 : Bool) (a114 : Option Addr) (c115 : Nat), VC45_J1 s_ line at_ I1_0 μ1_0 I1_1 μ1_1 out_101 i_105 from_106 out_113 x_117 ∧ St Tryz.f45.ntmps ⟨[(0, Z s_), (1, I line), (2, I at_), (7, Sl a114 out_113 c115), (8, I (wR (i_105 + 1))), (9, I from_106), (41, B x_117)], []⟩ ρ a w χ ∧ Old w0 χ0 w χ ∧ OS tToken_Token 60 w χ 1007 a114 out_113 c115) ?_ ?_
  ·refine region ?_
   refine oP T hS 5 ⟨[(0, Z s_), (1, I line), (2, I at_), (7, Sl a102 out_101 c103), (8, I (wR (i_105 + 1))), (9, I from_106), (35, B (decide ((wR (i_105 + 1)) < (lN s_))))], []⟩ fun a hS => ?_
   rcases Bool.eq_false_or_eq_true (decide ((wR (i_105 + 1)) < (lN s_))) with hb | hb
   ·replace hS := hS.lit (t := 35) kr hb
    replace hm := hm.1 hb
    refine oP T hS 2 ⟨[(0, Z s_), (1, I line), (2, I at_), (7, Sl a102 out_101 c103), (8, I (wR (i_105 + 1))), (9, I from_106), (35, B true), (36, Z s_), (37, I (wR (i_105 + 1)))], []⟩ fun a hS => ?_
    obtain ⟨hq, hm⟩ := hm
    refine op1 (sindex (k := .i64) T hS kr kr kr kr kr hq.1 hq.2 ?_)
    intro a hS
    refine op1 (call hS kr kr hb70 kr (fun _ _ => rfl) (k70 _ _ ([32, 9, 13] : List UInt8) ((gi s_ (wR (i_105 + 1))).toNat : Int)) ?_)
    intro v127 a w128 χ129 hE hp hS
    replace hO := hO.mv hE rfl rfl
    replace h104 := h104.mv hE rfl rfl
    obtain ⟨r130, hr⟩ : ∃ r, strings_IndexByte ([32, 9, 13] : List UInt8) ((gi s_ (wR (i_105 + 1))).toNat : Int) = r := ⟨_, rfl⟩
    replace hm := hm r130 hr
    rw [hr] at hp
    clear hr
    subst hp
    refine eP T hS ⟨[(0, Z s_), (1, I line), (2, I at_), (7, Sl a102 out_101 c103), (8, I (wR (i_105 + 1))), (9, I from_106), (36, Z s_), (37, I (wR (i_105 + 1))), (38, V (.int .u8 ((gi s_ (wR (i_105 + 1))).toNat : Int))), (39, I r130), (40, B (decide (r130 < 0))), (41, B (decide (r130 < 0)))], []⟩ fun a hS => ?_
    exact ⟨ρ, _, out_101, decide (r130 < 0), a102, c103, hm, hS.sl _, hO, h104⟩
   replace hS := hS.lit (t := 35) kr hb
   replace hm := hm.2 hb
   refine eP T hS ⟨[(0, Z s_), (1, I line), (2, I at_), (7, Sl a102 out_101 c103), (8, I (wR (i_105 + 1))), (9, I from_106), (41, B false)], []⟩ fun a hS => ?_
   exact ⟨ρ, _, out_101, false, a102, c103, hm, hS.sl _, hO, h104⟩
  rintro a w132 ⟨ρ, χ131, out_113, x_117, a114, c115, hm, hS, hO, h116⟩
  unfold VC45_J1 at hm
  refine wcond hS (b := x_117) kr (fun hb => ?_) (fun hb => ?_)
  ·replace hm := hm.1 hb
   refine wgoto (by rfl) ?_
   exact ⟨⟨out_113, wR (i_105 + 1), from_106⟩, ⟨ρ, _, a114, c115, hm.1, hS.sl _, hO, h116⟩, hm.2⟩
  replace hm := hm.2 hb
  refine wskip ?_
  refine regO ?_
  refine oP T hS 8 ⟨[(0, Z s_), (1, I line), (2, I at_), (7, Sl a114 out_113 c115), (8, I (wR (i_105 + 1))), (9, I from_106), (42, Sl a114 out_113 c115), (43, I line), (46, I (wR (at_ + from_106))), (47, Z s_), (48, I from_106), (49, I (wR (i_105 + 1)))], []⟩ fun a hS => ?_
  obtain ⟨hq, hm⟩ := hm
  refine op1 (sslice2 (kl := .i64) (kh := .i64) (s := s_) T hS kr kr kr kr kr kr hq.1 hq.2.1 hq.2.2 ?_)
  intro a hS
  refine oP T hS 1 ⟨[(0, Z s_), (1, I line), (2, I at_), (7, Sl a114 out_113 c115), (8, I (wR (i_105 + 1))), (9, I from_106), (42, Sl a114 out_113 c115), (51, V (.agg #[.int .i64 line, .int .i64 (wR (at_ + from_106)), .string (bs ((s_.take (wR (i_105 + 1)).toNat).drop from_106.toNat))]))], []⟩ fun a hS => ?_
  refine op1 (lit (E := 60) (col := 0) (T := tToken_Token) (vals := [.agg #[.int .i64 line, .int .i64 (wR (at_ + from_106)), .string (bs ((s_.take (wR (i_105 + 1)).toNat).drop from_106.toNat))]]) (ys := [(⟨line, wR (at_ + from_106), ((s_.take (wR (i_105 + 1)).toNat).drop from_106.toNat)⟩ : Token_Token)]) T hS kr kr kr kr (by exact ⟨rfl, trivial⟩) rfl kr kr kr kr ?_)
  intro b118 a w119 χ120 hE h121 hN hS
  clear hN
  replace hO := hO.mv hE rfl rfl
  replace h116 := h116.mv hE rfl rfl
  replace h121 := h121.rs0
  obtain ⟨hq, hm⟩ := hm
  obtain ⟨news, hN⟩ := h121.src
  refine op1 (append (E := 60) (T := tToken_Token) (col := 1007) (xs := out_113) T hS kr kr kr kr h116 hN kr kr kr kr hq ?_)
  intro a125 c126 a w122 χ123 hE h124 hS
  clear hq hN
  clear h116
  replace hO := hO.mv hE rfl rfl
  replace h121 := h121.mv hE rfl
  refine eP T hS ⟨[(0, Z s_), (1, I line), (2, I at_), (7, Sl a125 (out_113 ++ [(⟨line, wR (at_ + from_106), ((s_.take (wR (i_105 + 1)).toNat).drop from_106.toNat)⟩ : Token_Token)]) c126), (8, I (wR (i_105 + 1))), (9, I from_106)], []⟩ fun a hS => ?_
  refine wgoto (by rfl) ?_
  exact ⟨⟨out_113 ++ [(⟨line, wR (at_ + from_106), ((s_.take (wR (i_105 + 1)).toNat).drop from_106.toNat)⟩ : Token_Token)], wR (i_105 + 1), from_106⟩, ⟨ρ, _, a125, c126, hm.1, hS.sl _, hO, h124⟩, hm.2⟩
 ·rintro ⟨out_101, i_105, from_106⟩ a w143 ⟨ρ, χ142, a102, c103, hI, hS, hO, h104⟩
  replace hm := hm0 out_101 i_105 from_106 hI
  clear hI hmf hm0 hm1
  refine wrest rfl ?_
  refine wseq (rP T hS ⟨[(0, Z s_), (1, I line), (2, I at_), (7, Sl a102 out_101 c103), (8, I i_105), (9, I from_106), (19, B (i_105 == (lN s_)))], []⟩ fun a hS => ?_)
  refine wcond hS (b := (i_105 == (lN s_))) kr (fun hb => ?_) (fun hb => ?_)
  ·replace hm := hm.1 hb
   refine rP T hS ⟨[(6, Sl a102 out_101 c103)], []⟩ fun a hS => ?_
   refine wret ?_
   obtain ⟨χ107, hE, hF⟩ := h104.freeze (by decide)
   replace hS := hS.ev hE (xone_box kr)
   replace hO := hO.mv hE rfl rfl
   have h108 := hF; clear hE hF
   exact fin T hS hO (fun c => c) rfl (r := [.slice a102 out_101.length c103]) kr (fun χ' hM hC => ⟨out_101, hm, a102, c103, rfl, h108.m0 hM⟩)
  replace hm := hm.2 hb
  refine wskip (wseq ?_)
  refine regO ?_
  refine oP T hS 2 ⟨[(0, Z s_), (1, I line), (2, I at_), (7, Sl a102 out_101 c103), (8, I i_105), (9, I from_106), (21, Z s_), (22, I i_105)], []⟩ fun a hS => ?_
  obtain ⟨hq, hm⟩ := hm
  refine op1 (sindex (k := .i64) T hS kr kr kr kr kr hq.1 hq.2 ?_)
  intro a hS
  refine op1 (call hS kr kr hb70 kr (fun _ _ => rfl) (k70 _ _ ([32, 9, 13] : List UInt8) ((gi s_ i_105).toNat : Int)) ?_)
  intro v109 a w110 χ111 hE hp hS
  replace hO := hO.mv hE rfl rfl
  replace h104 := h104.mv hE rfl rfl
  obtain ⟨r112, hr⟩ : ∃ r, strings_IndexByte ([32, 9, 13] : List UInt8) ((gi s_ i_105).toNat : Int) = r := ⟨_, rfl⟩
  replace hm := hm r112 hr
  rw [hr] at hp
  clear hr
  subst hp
  refine eP T hS ⟨[(0, Z s_), (1, I line), (2, I at_), (7, Sl a102 out_101 c103), (8, I i_105), (9, I from_106), (25, B (decide (r112 ≥ 0)))], []⟩ fun a hS => ?_
  refine wcond hS (b := decide (r112 ≥ 0)) kr (fun hb => ?_) (fun hb => ?_)
  ·replace hm := hm.1 hb
   refine rP T hS ⟨[(0, Z s_), (1, I line), (2, I at_), (7, Sl a102 out_101 c103), (8, I (wR (i_105 + 1))), (9, I from_106)], []⟩ fun a hS => ?_
   refine wgoto (by rfl) ?_
   exact ⟨⟨out_101, wR (i_105 + 1), from_106⟩, ⟨ρ, _, a102, c103, hm.1, hS.sl _, hO, h104⟩, hm.2⟩
  replace hm := hm.2 hb
  refine wskip ?_
  refine rP T hS ⟨[(0, Z s_), (1, I line), (2, I at_), (7, Sl a102 out_101 c103), (8, I i_105), (9, I i_105)], []⟩ fun a hS => ?_
  refine wseq ?_
  refine wlabel ?_
  exact wfall H1 ⟨out_101, i_105, i_105⟩ ⟨ρ, _, a102, c103, hm.1, hS.sl _, hO, h104⟩ (fun _ hx => Nat.lt_of_lt_of_le hx hm.2)
 replace hm := hmf
 clear hmf hm0 hm1
 refine rP T hS ⟨[(0, Z s_), (1, I line), (2, I at_), (7, V (.slice none 0 0))], []⟩ fun a hS => ?_
 refine rP T hS ⟨[(0, Z s_), (1, I line), (2, I at_), (7, V (.slice none 0 0)), (8, I 0), (9, I 0)], []⟩ fun a hS => ?_
 refine wseq ?_
 refine wcut (fun a w => ∃ (ρ : Nat → Nat) (χ : Nat → Nat) (x_133 : Bool), VC45_J2 Q I1_0 x_133 ∧ St Tryz.f45.ntmps ⟨[(0, Z s_), (1, I line), (2, I at_), (7, V (.slice none 0 0)), (8, I 0), (9, I 0), (15, B x_133)], []⟩ ρ a w χ ∧ Old w0 χ0 w χ) ?_ ?_
 ·refine region ?_
  refine oP T hS 3 ⟨[(0, Z s_), (1, I line), (2, I at_), (7, V (.slice none 0 0)), (8, I 0), (9, I 0), (12, B (s_ == ([99] : List UInt8)))], []⟩ fun a hS => ?_
  rcases Bool.eq_false_or_eq_true (s_ == ([99] : List UInt8)) with hb | hb
  ·replace hS := hS.lit (t := 12) kr hb
   replace hm := hm.1 hb
   refine eP T hS ⟨[(0, Z s_), (1, I line), (2, I at_), (7, V (.slice none 0 0)), (8, I 0), (9, I 0), (15, B true)], []⟩ fun a hS => ?_
   exact ⟨ρ, _, true, hm, hS.sl _, hO⟩
  replace hS := hS.lit (t := 12) kr hb
  replace hm := hm.2 hb
  refine oP T hS 1 ⟨[(0, Z s_), (1, I line), (2, I at_), (7, V (.slice none 0 0)), (8, I 0), (9, I 0), (12, B false), (13, Z s_)], []⟩ fun a hS => ?_
  obtain ⟨hq, hm⟩ := hm
  refine op1 (call hS kr kr hb69 kr (fun _ _ => rfl) (k69 _ _ s_ ([99, 32] : List UInt8) hq) ?_)
  intro v134 a w135 χ136 hE hp hS
  replace hO := hO.mv hE rfl rfl
  obtain ⟨r137, hr⟩ : ∃ r, strings_HasPrefix s_ ([99, 32] : List UInt8) = r := ⟨_, rfl⟩
  replace hm := hm r137 hr
  rw [hr] at hp
  clear hr
  subst hp
  refine eP T hS ⟨[(0, Z s_), (1, I line), (2, I at_), (7, V (.slice none 0 0)), (8, I 0), (9, I 0), (15, B r137)], []⟩ fun a hS => ?_
  exact ⟨ρ, _, r137, hm, hS.sl _, hO⟩
 rintro a w139 ⟨ρ, χ138, x_133, hm, hS, hO⟩
 unfold VC45_J2 at hm
 refine wcond hS (b := x_133) kr (fun hb => ?_) (fun hb => ?_)
 ·replace hm := hm.1 hb
  refine rP T hS ⟨[(6, V (.slice none 0 0))], []⟩ fun a hS => ?_
  refine wret ?_
  exact fin T hS hO (fun c => c) rfl (r := [.slice none 0 0]) kr (fun χ' hM hC => ⟨[], hm, none, 0, rfl, RS.empty _ _ _⟩)
 replace hm := hm.2 hb
 refine wskip (wseq ?_)
 refine wlabel ?_
 exact wfall H0 ⟨[], 0, 0⟩ ⟨ρ, _, none, 0, hm, hS.sl _, hO, (OS.nil _ _ _ _ _)⟩ (fun _ _ => trivial)
theorem C45 (k69 : S69) (k70 : S70) (v : ∀ (s_ : List UInt8) (line : Int) (at_ : Int), preTok s_ line at_ → VC45 s_ line at_ (fun r => r = token_tokens s_ line at_)) : S45 := by
 intro w χ s_ line at_    hp 
 refine (W45 k69 k70 w χ s_ line at_    _ (v s_ line at_ hp)).mono ?_
 rintro _ _ _ _ ⟨r, rfl, h⟩
 exact h
theorem W17 (k44 : S44) (k45 : S45) (w0 : World) (χ0 : Nat → Nat) (s_ : List UInt8) (Q : (List (List Token_Token)) → Prop) (hm : VC17 s_ Q) :
  Ret Tryz.prog 17 #[.string (bs s_)] xnone w0 χ0 (fun w χ' v => ∃ r, Q r ∧ ∃ (ra1 : Option Addr) (rc1 : Nat), v = .slice ra1 r.length rc1 ∧ RS (tSlice tToken_Token) w χ' ra1 r rc1) := by
 unfold VC17 at hm
 refine enter Tryz.func17 rfl (vals := [.string (bs s_)]) kr ?_
 intro ρ a hS hO hM
 clear hM
 refine rP T hS ⟨[(0, Z s_)], []⟩ fun a hS => ?_
 refine rP T hS ⟨[(0, Z s_), (3, V (.slice none 0 0))], []⟩ fun a hS => ?_
 refine wcut (fun a w => ∃ (ρ : Nat → Nat) (χ : Nat → Nat) (out_101 : List (List Token_Token)) (a102 : Option Addr) (c103 : Nat), VC17_J1 Q out_101 ∧ St Tryz.f17.ntmps ⟨[(3, Sl a102 out_101 c103)], []⟩ ρ a w χ ∧ Old w0 χ0 w χ ∧ OS (tSlice tToken_Token) 57 w χ 1003 a102 out_101 c103) ?_ ?_
 ·refine rP T hS ⟨[(0, Z s_), (3, V (.slice none 0 0)), (4, I 0)], []⟩ fun a hS => ?_
  refine wblock ?_
  obtain ⟨I1, μ1, hm0, hm⟩ := hm
  refine wloop (σ := (List (List Token_Token)) × Int) (fun s a w => ∃ (ρ : Nat → Nat) (χ : Nat → Nat) (a108 : Option Addr) (c109 : Nat), I1 s.1 s.2 ∧ St Tryz.f17.ntmps ⟨[(0, Z s_), (3, Sl a108 s.1 c109), (4, I s.2)], []⟩ ρ a w χ ∧ Old w0 χ0 w χ ∧ OS (tSlice tToken_Token) 57 w χ 1003 a108 s.1 c109) (fun s => μ1 s.1 s.2) (⟨[], 0⟩) ?_ ?_
  ·exact ⟨ρ, _, none, 0, hm0, hS.sl _, hO, (OS.nil _ _ _ _ _)⟩
  rintro ⟨out_107, at_111⟩ a w133 ⟨ρ, χ132, a108, c109, hI, hS, hO, h110⟩
  replace hm := hm out_107 at_111 hI
  clear hI hm0
  refine wseq (rP T hS ⟨[(0, Z s_), (3, Sl a108 out_107 c109), (4, I at_111), (11, B (decide (at_111 < (lN s_))))], []⟩ fun a hS => ?_)
  refine wcond hS (b := decide (at_111 < (lN s_))) kr (fun hb => ?_) (fun hb => ?_)
  ·replace hm := hm.1 hb
   refine wskip ?_
   refine wblock ?_
   refine regO ?_
   refine oP T hS 2 ⟨[(0, Z s_), (3, Sl a108 out_107 c109), (4, I at_111), (13, Z s_), (14, I at_111)], []⟩ fun a hS => ?_
   obtain ⟨hq, hm⟩ := hm
   refine op1 (sslice1 (kl := .i64) (s := s_) T hS kr kr kr kr kr hq.1 hq.2 ?_)
   intro a hS
   obtain ⟨hq, hm⟩ := hm
   refine op1 (call hS kr kr hb44 kr (fun _ _ => rfl) (k44 _ _ (s_.drop at_111.toNat) ([10] : List UInt8) hq) ?_)
   intro v112 a w113 χ114 hE hp hS
   replace hO := hO.mv hE rfl rfl
   replace h110 := h110.mv hE rfl rfl
   obtain ⟨r115, hr⟩ : ∃ r, strings_Cut (s_.drop at_111.toNat) ([10] : List UInt8) = r := ⟨_, rfl⟩
   replace hm := hm r115 hr
   rw [hr] at hp
   clear hr
   subst hp
   refine eP T hS ⟨[(0, Z s_), (3, Sl a108 out_107 c109), (4, I at_111), (5, Z r115.1)], []⟩ fun a hS => ?_
   refine regO ?_
   refine oP T hS 6 ⟨[(0, Z s_), (3, Sl a108 out_107 c109), (4, I at_111), (5, Z r115.1), (20, Sl a108 out_107 c109), (21, Z r115.1), (24, I (wR ((lN out_107) + 1))), (25, I at_111)], []⟩ fun a hS => ?_
   obtain ⟨hq, hm⟩ := hm
   refine op1 (call hS kr kr hb45 kr (fun _ _ => rfl) (k45 _ _ r115.1 (wR ((lN out_107) + 1)) at_111 hq) ?_)
   intro v116 a w117 χ118 hE hp hS
   replace hO := hO.mv hE rfl rfl
   replace h110 := h110.mv hE rfl rfl
   obtain ⟨a120, c121, hp, h122⟩ := hp
   obtain ⟨r119, hr⟩ : ∃ r, token_tokens r115.1 (wR ((lN out_107) + 1)) at_111 = r := ⟨_, rfl⟩
   replace hm := hm r119 hr
   rw [hr] at hp h122
   clear hr
   subst hp
   replace hm := hm (h122.sm kr)
   refine op1 (lit (E := 57) (col := 0) (T := (tSlice tToken_Token)) (vals := [.slice a120 r119.length c121]) (ys := [r119]) T hS kr kr kr kr (by exact ⟨⟨a120, c121, rfl, h122⟩, trivial⟩) rfl kr kr kr kr ?_)
   intro b123 a w124 χ125 hE h126 hN hS
   clear hN
   replace hO := hO.mv hE rfl rfl
   replace h110 := h110.mv hE rfl rfl
   replace h122 := h122.mv hE rfl
   replace h126 := h126.rs0
   obtain ⟨hq, hm⟩ := hm
   obtain ⟨news, hN⟩ := h126.src
   refine op1 (append (E := 57) (T := (tSlice tToken_Token)) (col := 1003) (xs := out_107) T hS kr kr kr kr h110 hN kr kr kr kr hq ?_)
   intro a130 c131 a w127 χ128 hE h129 hS
   clear hq hN
   clear h110
   replace hO := hO.mv hE rfl rfl
   replace h122 := h122.mv hE rfl
   replace h126 := h126.mv hE rfl
   refine eP T hS ⟨[(0, Z s_), (3, Sl a130 (out_107 ++ [r119]) c131), (4, I at_111), (5, Z r115.1)], []⟩ fun a hS => ?_
   refine region (eP T hS ⟨[(0, Z s_), (3, Sl a130 (out_107 ++ [r119]) c131), (4, I (wR (at_111 + (wR ((lN r115.1) + 1)))))], []⟩ fun a hS => ?_)
   exact ⟨⟨out_107 ++ [r119], wR (at_111 + (wR ((lN r115.1) + 1)))⟩, ⟨ρ, _, a130, c131, hm.1, hS.sl _, hO, h129⟩, hm.2⟩
  replace hm := hm.2 hb
  refine wexit (by rfl) ?_
  exact ⟨ρ, _, out_107, a108, c109, hm, hS.sl _, hO, h110⟩
 rintro a w135 ⟨ρ, χ134, out_101, a102, c103, hm, hS, hO, h104⟩
 unfold VC17_J1 at hm
 refine rP T hS ⟨[(2, Sl a102 out_101 c103)], []⟩ fun a hS => ?_
 refine wret ?_
 obtain ⟨χ105, hE, hF⟩ := h104.freeze (by decide)
 replace hS := hS.ev hE (xone_box kr)
 replace hO := hO.mv hE rfl rfl
 have h106 := hF; clear hE hF
 exact fin T hS hO (fun c => c) rfl (r := [.slice a102 out_101.length c103]) kr (fun χ' hM hC => ⟨out_101, hm, a102, c103, rfl, h106.m0 hM⟩)
theorem C17 (k44 : S44) (k45 : S45) (v : ∀ (s_ : List UInt8), len1 s_ → VC17 s_ (fun r => r = token_Lines s_)) : S17 := by
 intro w χ s_    hp 
 refine (W17 k44 k45 w χ s_    _ (v s_ hp)).mono ?_
 rintro _ _ _ _ ⟨r, rfl, h⟩
 exact h
theorem W100 (k107 : S107) (w0 : World) (χ0 : Nat → Nat) (s_ : List UInt8) (Q : (List UInt8) × Bool × Bool → Prop) (hm : VC100 s_ Q) :
  Ret Tryz.prog 100 #[.string (bs s_)] xnone w0 χ0 (fun w χ' v => ∃ r, Q r ∧ v = .tuple #[.string (bs r.1), .bool r.2.1, .bool r.2.2]) := by
 unfold VC100 at hm
 refine enter Tryz.func100 rfl (vals := [.string (bs s_)]) kr ?_
 intro ρ a hS hO hM
 clear hM
 refine rP T hS ⟨[(0, Z s_)], []⟩ fun a hS => ?_
 refine regO ?_
 refine oP T hS 1 ⟨[(9, Z s_)], []⟩ fun a hS => ?_
 obtain ⟨hq, hm⟩ := hm
 refine op1 (call hS kr kr hb107 kr (fun _ _ => rfl) (k107 _ _ s_ ([45] : List UInt8) hq) ?_)
 intro v101 a w102 χ103 hE hp hS
 replace hO := hO.mv hE rfl rfl
 obtain ⟨r104, hr⟩ : ∃ r, strings_CutPrefix s_ ([45] : List UInt8) = r := ⟨_, rfl⟩
 replace hm := hm r104 hr
 rw [hr] at hp
 clear hr
 subst hp
 refine eP T hS ⟨[(5, Z r104.1), (6, B r104.2)], []⟩ fun a hS => ?_
 refine wseq ?_
 refine wcut (fun a w => ∃ (ρ : Nat → Nat) (χ : Nat → Nat) (x_105 : Bool), VC100_J1 Q r104 x_105 ∧ St Tryz.f100.ntmps ⟨[(5, Z r104.1), (6, B r104.2), (27, B x_105)], []⟩ ρ a w χ ∧ Old w0 χ0 w χ) ?_ ?_
 ·refine region ?_
  refine oP T hS 3 ⟨[(5, Z r104.1), (6, B r104.2), (15, B (r104.1 == ([] : List UInt8)))], []⟩ fun a hS => ?_
  rcases Bool.eq_false_or_eq_true (r104.1 == ([] : List UInt8)) with hb | hb
  ·replace hS := hS.lit (t := 15) kr hb
   replace hm := hm.1 hb
   refine eP T hS ⟨[(5, Z r104.1), (6, B r104.2), (27, B true)], []⟩ fun a hS => ?_
   exact ⟨ρ, _, true, hm, hS.sl _, hO⟩
  replace hS := hS.lit (t := 15) kr hb
  replace hm := hm.2 hb
  refine oP T hS 1 ⟨[(5, Z r104.1), (6, B r104.2), (15, B false), (16, Z r104.1)], []⟩ fun a hS => ?_
  obtain ⟨hq, hm⟩ := hm
  refine op1 (sindex (k := .i64) T hS kr kr kr kr kr hq.1 hq.2 ?_)
  intro a hS
  refine eP T hS ⟨[(5, Z r104.1), (6, B r104.2), (27, B ((((gi r104.1 0).toNat : Int) == 48) && ((decide ((lN r104.1) > 1)) || r104.2)))], []⟩ (sp := [19, 23]) fun a hS => ?_
  exact ⟨ρ, _, ((((gi r104.1 0).toNat : Int) == 48) && ((decide ((lN r104.1) > 1)) || r104.2)), hm, hS.sl _, hO⟩
 rintro a w115 ⟨ρ, χ114, x_105, hm, hS, hO⟩
 unfold VC100_J1 at hm
 refine wcond hS (b := x_105) kr (fun hb => ?_) (fun hb => ?_)
 ·replace hm := hm.1 hb
  refine rP T hS ⟨[(2, Z ([] : List UInt8)), (3, B false), (4, B false)], []⟩ fun a hS => ?_
  refine wret ?_
  exact fin T hS hO (fun c => c) rfl (r := [.string (bs ([] : List UInt8)), .bool false, .bool false]) kr (fun χ' hM hC => ⟨(([] : List UInt8), false, false), hm, rfl⟩)
 replace hm := hm.2 hb
 refine wskip ?_
 refine wcut (fun a w => ∃ (ρ : Nat → Nat) (χ : Nat → Nat), VC100_J2 Q r104 ∧ St Tryz.f100.ntmps ⟨[(5, Z r104.1), (6, B r104.2)], []⟩ ρ a w χ ∧ Old w0 χ0 w χ) ?_ ?_
 ·refine rP T hS ⟨[(5, Z r104.1), (6, B r104.2), (7, I 0)], []⟩ fun a hS => ?_
  refine wblock ?_
  obtain ⟨I1, μ1, hm0, hm⟩ := hm
  refine wloop (σ := Int) (fun s a w => ∃ (ρ : Nat → Nat) (χ : Nat → Nat), I1 s ∧ St Tryz.f100.ntmps ⟨[(5, Z r104.1), (6, B r104.2), (7, I s)], []⟩ ρ a w χ ∧ Old w0 χ0 w χ) (fun s => μ1 s) (0) ?_ ?_
  ·exact ⟨ρ, _, hm0, hS.sl _, hO⟩
  rintro i_106 a w111 ⟨ρ, χ110, hI, hS, hO⟩
  replace hm := hm i_106 hI
  clear hI hm0
  refine wseq (rP T hS ⟨[(5, Z r104.1), (6, B r104.2), (7, I i_106), (31, B (decide (i_106 < (lN r104.1))))], []⟩ fun a hS => ?_)
  refine wcond hS (b := decide (i_106 < (lN r104.1))) kr (fun hb => ?_) (fun hb => ?_)
  ·replace hm := hm.1 hb
   refine wskip (wseq ?_)
   refine wblock ?_
   refine wcut (fun a w => ∃ (ρ : Nat → Nat) (χ : Nat → Nat) (x_107 : Bool), VC100_J3 Q I1 μ1 i_106 x_107 ∧ St Tryz.f100.ntmps ⟨[(5, Z r104.1), (6, B r104.2), (7, I i_106), (43, B x_107)], []⟩ ρ a w χ ∧ Old w0 χ0 w χ) ?_ ?_
   ·refine region ?_
    refine oP T hS 2 ⟨[(5, Z r104.1), (6, B r104.2), (7, I i_106), (34, Z r104.1), (35, I i_106)], []⟩ fun a hS => ?_
    obtain ⟨hq, hm⟩ := hm
    refine op1 (sindex (k := .i64) T hS kr kr kr kr kr hq.1 hq.2 ?_)
    intro a hS
    refine oP T hS 2 ⟨[(5, Z r104.1), (6, B r104.2), (7, I i_106), (38, B (decide (((gi r104.1 i_106).toNat : Int) < 48)))], []⟩ fun a hS => ?_
    rcases Bool.eq_false_or_eq_true (decide (((gi r104.1 i_106).toNat : Int) < 48)) with hb | hb
    ·replace hS := hS.lit (t := 38) kr hb
     replace hm := hm.1 hb
     refine eP T hS ⟨[(5, Z r104.1), (6, B r104.2), (7, I i_106), (43, B true)], []⟩ fun a hS => ?_
     exact ⟨ρ, _, true, hm, hS.sl _, hO⟩
    replace hS := hS.lit (t := 38) kr hb
    replace hm := hm.2 hb
    refine oP T hS 2 ⟨[(5, Z r104.1), (6, B r104.2), (7, I i_106), (38, B false), (39, Z r104.1), (40, I i_106)], []⟩ fun a hS => ?_
    obtain ⟨hq, hm⟩ := hm
    refine op1 (sindex (k := .i64) T hS kr kr kr kr kr hq.1 hq.2 ?_)
    intro a hS
    refine eP T hS ⟨[(5, Z r104.1), (6, B r104.2), (7, I i_106), (39, Z r104.1), (40, I i_106), (41, V (.int .u8 ((gi r104.1 i_106).toNat : Int))), (42, B (decide (((gi r104.1 i_106).toNat : Int) > 57))), (43, B (decide (((gi r104.1 i_106).toNat : Int) > 57)))], []⟩ fun a hS => ?_
    exact ⟨ρ, _, decide (((gi r104.1 i_106).toNat : Int) > 57), hm, hS.sl _, hO⟩
   rintro a w109 ⟨ρ, χ108, x_107, hm, hS, hO⟩
   unfold VC100_J3 at hm
   refine wcond hS (b := x_107) kr (fun hb => ?_) (fun hb => ?_)
   ·replace hm := hm.1 hb
    refine rP T hS ⟨[(2, Z ([] : List UInt8)), (3, B false), (4, B false)], []⟩ fun a hS => ?_
    refine wret ?_
    exact fin T hS hO (fun c => c) rfl (r := [.string (bs ([] : List UInt8)), .bool false, .bool false]) kr (fun χ' hM hC => ⟨(([] : List UInt8), false, false), hm, rfl⟩)
   replace hm := hm.2 hb
   refine wskip ?_
   refine region (eP T hS ⟨[(5, Z r104.1), (6, B r104.2), (7, I (wR (i_106 + 1)))], []⟩ fun a hS => ?_)
   exact ⟨wR (i_106 + 1), ⟨ρ, _, hm.1, hS.sl _, hO⟩, hm.2⟩
  replace hm := hm.2 hb
  refine wexit (by rfl) ?_
  exact ⟨ρ, _, hm, hS.sl _, hO⟩
 rintro a w113 ⟨ρ, χ112, hm, hS, hO⟩
 unfold VC100_J2 at hm
 refine rP T hS ⟨[(2, Z r104.1), (3, B r104.2), (4, B true)], []⟩ fun a hS => ?_
 refine wret ?_
 exact fin T hS hO (fun c => c) rfl (r := [.string (bs r104.1), .bool r104.2, .bool true]) kr (fun χ' hM hC => ⟨(r104.1, r104.2, true), hm, rfl⟩)
theorem C100 (k107 : S107) (v : ∀ (s_ : List UInt8), len1 s_ → VC100 s_ (fun r => r = token_numeral s_)) : S100 := by
 intro w χ s_    hp 
 refine (W100 k107 w χ s_    _ (v s_ hp)).mono ?_
 rintro _ _ _ _ ⟨r, rfl, h⟩
 exact h
theorem W87 (k100 : S100) (w0 : World) (χ0 : Nat → Nat) (s_ : List UInt8) (lo : Int) (hi : Int) (Q : Int × Int → Prop) (hm : VC87 s_ lo hi Q) :
  Ret Tryz.prog 87 #[.string (bs s_), .int .i64 lo, .int .i64 hi] xnone w0 χ0 (fun w χ' v => ∃ r, Q r ∧ v = .tuple #[.int .i64 r.1, .int .i64 r.2]) := by
 unfold VC87 at hm
 refine enter Tryz.func87 rfl (vals := [.string (bs s_), .int .i64 lo, .int .i64 hi]) kr ?_
 intro ρ a hS hO hM
 clear hM
 refine rP T hS ⟨[(0, Z s_), (1, I lo), (2, I hi)], []⟩ fun a hS => ?_
 refine regO ?_
 refine oP T hS 1 ⟨[(1, I lo), (2, I hi), (15, Z s_)], []⟩ fun a hS => ?_
 obtain ⟨hq, hm⟩ := hm
 refine op1 (call hS kr kr hb100 kr (fun _ _ => rfl) (k100 _ _ s_ hq) ?_)
 intro v101 a w102 χ103 hE hp hS
 replace hO := hO.mv hE rfl rfl
 obtain ⟨r104, hr⟩ : ∃ r, token_numeral s_ = r := ⟨_, rfl⟩
 replace hm := hm r104 hr
 rw [hr] at hp
 clear hr
 subst hp
 refine eP T hS ⟨[(1, I lo), (2, I hi), (8, Z r104.1), (9, B r104.2.1), (10, B r104.2.2)], []⟩ fun a hS => ?_
 refine wseq (rP T hS ⟨[(1, I lo), (2, I hi), (8, Z r104.1), (9, B r104.2.1), (21, B (!r104.2.2))], []⟩ fun a hS => ?_)
 refine wcond hS (b := (!r104.2.2)) kr (fun hb => ?_) (fun hb => ?_)
 ·replace hm := hm.1 hb
  refine rP T hS ⟨[(6, I 0), (7, I 5)], []⟩ fun a hS => ?_
  refine wret ?_
  exact fin T hS hO (fun c => c) rfl (r := [.int .i64 0, .int .i64 5]) kr (fun χ' hM hC => ⟨(0, 5), hm, rfl⟩)
 replace hm := hm.2 hb
 refine wskip ?_
 refine rP T hS ⟨[(1, I lo), (2, I hi), (8, Z r104.1), (9, B r104.2.1), (11, V (.int .u64 0))], []⟩ fun a hS => ?_
 refine wcut (fun a w => ∃ (ρ : Nat → Nat) (χ : Nat → Nat) (n_105 : Int), VC87_J1 lo hi Q r104 n_105 ∧ St Tryz.f87.ntmps ⟨[(1, I lo), (2, I hi), (9, B r104.2.1), (11, V (.int .u64 n_105))], []⟩ ρ a w χ ∧ Old w0 χ0 w χ) ?_ ?_
 ·refine rP T hS ⟨[(1, I lo), (2, I hi), (8, Z r104.1), (9, B r104.2.1), (11, V (.int .u64 0)), (12, I 0)], []⟩ fun a hS => ?_
  refine wblock ?_
  obtain ⟨I1, μ1, hm0, hm⟩ := hm
  refine wloop (σ := Int × Int) (fun s a w => ∃ (ρ : Nat → Nat) (χ : Nat → Nat), I1 s.1 s.2 ∧ St Tryz.f87.ntmps ⟨[(1, I lo), (2, I hi), (8, Z r104.1), (9, B r104.2.1), (11, V (.int .u64 s.1)), (12, I s.2)], []⟩ ρ a w χ ∧ Old w0 χ0 w χ) (fun s => μ1 s.1 s.2) (⟨0, 0⟩) ?_ ?_
  ·exact ⟨ρ, _, hm0, hS.sl _, hO⟩
  rintro ⟨n_109, i_110⟩ a w112 ⟨ρ, χ111, hI, hS, hO⟩
  replace hm := hm n_109 i_110 hI
  clear hI hm0
  refine wseq (rP T hS ⟨[(1, I lo), (2, I hi), (8, Z r104.1), (9, B r104.2.1), (11, V (.int .u64 n_109)), (12, I i_110), (25, B (decide (i_110 < (lN r104.1))))], []⟩ fun a hS => ?_)
  refine wcond hS (b := decide (i_110 < (lN r104.1))) kr (fun hb => ?_) (fun hb => ?_)
  ·replace hm := hm.1 hb
   refine wskip (wseq ?_)
   refine wblock ?_
   refine wseq (rP T hS ⟨[(1, I lo), (2, I hi), (8, Z r104.1), (9, B r104.2.1), (11, V (.int .u64 n_109)), (12, I i_110), (29, B (decide (n_109 > 1844674407370955160)))], []⟩ fun a hS => ?_)
   refine wcond hS (b := decide (n_109 > 1844674407370955160)) kr (fun hb => ?_) (fun hb => ?_)
   ·replace hm := hm.1 hb
    refine rP T hS ⟨[(6, I 0), (7, I 7)], []⟩ fun a hS => ?_
    refine wret ?_
    exact fin T hS hO (fun c => c) rfl (r := [.int .i64 0, .int .i64 7]) kr (fun χ' hM hC => ⟨(0, 7), hm, rfl⟩)
   replace hm := hm.2 hb
   refine wskip ?_
   refine region ?_
   refine oP T hS 4 ⟨[(1, I lo), (2, I hi), (8, Z r104.1), (9, B r104.2.1), (11, V (.int .u64 n_109)), (12, I i_110), (31, V (.int .u64 (IntKind.u64.wrap (10 * n_109)))), (32, Z r104.1), (33, I i_110)], []⟩ fun a hS => ?_
   obtain ⟨hq, hm⟩ := hm
   refine op1 (sindex (k := .i64) T hS kr kr kr kr kr hq.1 hq.2 ?_)
   intro a hS
   refine eP T hS ⟨[(1, I lo), (2, I hi), (8, Z r104.1), (9, B r104.2.1), (11, V (.int .u64 (IntKind.u64.wrap ((IntKind.u64.wrap (10 * n_109)) + (IntKind.u64.wrap (IntKind.u8.wrap (((gi r104.1 i_110).toNat : Int) - 48))))))), (12, I i_110)], []⟩ fun a hS => ?_
   refine region (eP T hS ⟨[(1, I lo), (2, I hi), (8, Z r104.1), (9, B r104.2.1), (11, V (.int .u64 (IntKind.u64.wrap ((IntKind.u64.wrap (10 * n_109)) + (IntKind.u64.wrap (IntKind.u8.wrap (((gi r104.1 i_110).toNat : Int) - 48))))))), (12, I (wR (i_110 + 1)))], []⟩ fun a hS => ?_)
   exact ⟨⟨IntKind.u64.wrap ((IntKind.u64.wrap (10 * n_109)) + (IntKind.u64.wrap (IntKind.u8.wrap (((gi r104.1 i_110).toNat : Int) - 48)))), wR (i_110 + 1)⟩, ⟨ρ, _, hm.1, hS.sl _, hO⟩, hm.2⟩
  replace hm := hm.2 hb
  refine wexit (by rfl) ?_
  exact ⟨ρ, _, n_109, hm, hS.sl _, hO⟩
 rintro a w114 ⟨ρ, χ113, n_105, hm, hS, hO⟩
 unfold VC87_J1 at hm
 refine wseq ?_
 refine rP T hS ⟨[(1, I lo), (2, I hi), (9, B r104.2.1), (11, V (.int .u64 n_105)), (47, B ((decide (n_105 > 9223372036854775807)) && (!(r104.2.1 && (n_105 == 9223372036854775808)))))], []⟩ (sp := [40, 42]) fun a hS => ?_
 refine wcond hS (b := ((decide (n_105 > 9223372036854775807)) && (!(r104.2.1 && (n_105 == 9223372036854775808))))) kr (fun hb => ?_) (fun hb => ?_)
 ·replace hm := hm.1 hb
  refine rP T hS ⟨[(6, I 0), (7, I 7)], []⟩ fun a hS => ?_
  refine wret ?_
  exact fin T hS hO (fun c => c) rfl (r := [.int .i64 0, .int .i64 7]) kr (fun χ' hM hC => ⟨(0, 7), hm, rfl⟩)
 replace hm := hm.2 hb
 refine wskip ?_
 refine rP T hS ⟨[(1, I lo), (2, I hi), (9, B r104.2.1), (13, I (wR n_105))], []⟩ fun a hS => ?_
 refine wcut (fun a w => ∃ (ρ : Nat → Nat) (χ : Nat → Nat) (x_106 : Int), VC87_J2 lo hi Q x_106 ∧ St Tryz.f87.ntmps ⟨[(1, I lo), (2, I hi), (13, I x_106)], []⟩ ρ a w χ ∧ Old w0 χ0 w χ) ?_ ?_
 ·refine rP T hS ⟨[(1, I lo), (2, I hi), (13, I (wR n_105)), (50, B r104.2.1)], []⟩ fun a hS => ?_
  refine wcond hS (b := r104.2.1) kr (fun hb => ?_) (fun hb => ?_)
  ·replace hm := hm.1 hb
   refine region (eP T hS ⟨[(1, I lo), (2, I hi), (13, I (wR (0 - (wR n_105))))], []⟩ fun a hS => ?_)
   exact ⟨ρ, _, wR (0 - (wR n_105)), hm, hS.sl _, hO⟩
  replace hm := hm.2 hb
  refine wskip ?_
  exact ⟨ρ, _, wR n_105, hm, hS.sl _, hO⟩
 rintro a w108 ⟨ρ, χ107, x_106, hm, hS, hO⟩
 unfold VC87_J2 at hm
 refine wseq ?_
 refine rP T hS ⟨[(13, I x_106), (60, B ((decide (x_106 < lo)) || (decide (x_106 > hi))))], []⟩ (sp := [56]) fun a hS => ?_
 refine wcond hS (b := ((decide (x_106 < lo)) || (decide (x_106 > hi)))) kr (fun hb => ?_) (fun hb => ?_)
 ·replace hm := hm.1 hb
  refine rP T hS ⟨[(6, I 0), (7, I 7)], []⟩ fun a hS => ?_
  refine wret ?_
  exact fin T hS hO (fun c => c) rfl (r := [.int .i64 0, .int .i64 7]) kr (fun χ' hM hC => ⟨(0, 7), hm, rfl⟩)
 replace hm := hm.2 hb
 refine wskip ?_
 refine rP T hS ⟨[(6, I x_106), (7, I 0)], []⟩ fun a hS => ?_
 refine wret ?_
 exact fin T hS hO (fun c => c) rfl (r := [.int .i64 x_106, .int .i64 0]) kr (fun χ' hM hC => ⟨(x_106, 0), hm, rfl⟩)
theorem C87 (k100 : S100) (v : ∀ (s_ : List UInt8) (lo : Int) (hi : Int), preNum s_ lo hi → VC87 s_ lo hi (fun r => r = token_Number s_ lo hi)) : S87 := by
 intro w χ s_ lo hi    hp 
 refine (W87 k100 w χ s_ lo hi    _ (v s_ lo hi hp)).mono ?_
 rintro _ _ _ _ ⟨r, rfl, h⟩
 exact h
theorem W55 (k78 : S78) (w0 : World) (χ0 : Nat → Nat) (n_ : Int) (Q : (List UInt8) → Prop) (hm : VC55 n_ Q) (hAmb : Amb w0 χ0) :
  Ret Tryz.prog 55 #[.int .i64 n_] xnone w0 χ0 (fun w χ' v => ∃ r, Q r ∧ v = .string (bs r)) := by
 unfold VC55 at hm
 refine enter Tryz.func55 rfl (vals := [.int .i64 n_]) kr ?_
 intro ρ a hS hO hM
 replace hAmb := hAmb.m0 hM
 clear hM
 refine rP T hS ⟨[(0, I n_)], []⟩ fun a hS => ?_
 refine regO ?_
 refine oP T hS 1 ⟨[(3, I n_)], []⟩ fun a hS => ?_
 obtain ⟨hq, hm⟩ := hm
 refine op1 (call hS kr kr hb78 kr (fun _ _ => rfl) (k78 _ _ n_ hq hAmb) ?_)
 intro v101 a w102 χ103 hE hp hS
 replace hO := hO.mv hE rfl rfl
 replace hAmb := hAmb.mv hE rfl
 obtain ⟨r104, hr⟩ : ∃ r, strconv_Itoa n_ = r := ⟨_, rfl⟩
 replace hm := hm r104 hr
 rw [hr] at hp
 clear hr
 subst hp
 refine eP T hS ⟨[(2, Z r104)], []⟩ fun a hS => ?_
 refine wret ?_
 exact fin T hS hO (fun c => c) rfl (r := [.string (bs r104)]) kr (fun χ' hM hC => ⟨r104, hm, rfl⟩)
theorem C55 (k78 : S78) (v : ∀ (n_ : Int), preI n_ → VC55 n_ (fun r => r = token_Digits n_)) : S55 := by
 intro w χ n_    hp hAmb
 refine (W55 k78 w χ n_    _ (v n_ hp) hAmb).mono ?_
 rintro _ _ _ _ ⟨r, rfl, h⟩
 exact h
theorem W57 (w0 : World) (χ0 : Nat → Nat) (n_ : Int) (Q : (List UInt8) → Prop) (hm : VC57 n_ Q) :
  Ret Tryz.prog 57 #[.int .i64 n_] xnone w0 χ0 (fun w χ' v => ∃ r, Q r ∧ v = .string (bs r)) := by
 unfold VC57 at hm
 refine enter Tryz.func57 rfl (vals := [.int .i64 n_]) kr ?_
 intro ρ a hS hO hM
 clear hM
 refine rP T hS ⟨[(0, I n_)], []⟩ fun a hS => ?_
 refine wseq (rP T hS ⟨[(0, I n_), (7, B (n_ == 0))], []⟩ fun a hS => ?_)
 refine wcond hS (b := (n_ == 0)) kr (fun hb => ?_) (fun hb => ?_)
 ·replace hm := hm.1 hb
  refine rP T hS ⟨[(2, Z ([48] : List UInt8))], []⟩ fun a hS => ?_
  refine wret ?_
  exact fin T hS hO (fun c => c) rfl (r := [.string (bs ([48] : List UInt8))]) kr (fun χ' hM hC => ⟨([48] : List UInt8), hm, rfl⟩)
 replace hm := hm.2 hb
 refine wskip ?_
 refine rP T hS ⟨[(0, I n_), (3, Z ([] : List UInt8))], []⟩ fun a hS => ?_
 refine wcut (fun a w => ∃ (ρ : Nat → Nat) (χ : Nat → Nat) (out_101 : List UInt8), VC57_J1 n_ Q out_101 ∧ St Tryz.f57.ntmps ⟨[(0, I n_), (3, Z out_101)], []⟩ ρ a w χ ∧ Old w0 χ0 w χ) ?_ ?_
 ·refine rP T hS ⟨[(0, I n_), (3, Z ([] : List UInt8)), (4, I n_)], []⟩ fun a hS => ?_
  refine wblock ?_
  obtain ⟨I1, μ1, hm0, hm⟩ := hm
  refine wloop (σ := (List UInt8) × Int) (fun s a w => ∃ (ρ : Nat → Nat) (χ : Nat → Nat), I1 s.1 s.2 ∧ St Tryz.f57.ntmps ⟨[(0, I n_), (3, Z s.1), (4, I s.2)], []⟩ ρ a w χ ∧ Old w0 χ0 w χ) (fun s => μ1 s.1 s.2) (⟨([] : List UInt8), n_⟩) ?_ ?_
  ·exact ⟨ρ, _, hm0, hS.sl _, hO⟩
  rintro ⟨out_102, x_103⟩ a w112 ⟨ρ, χ111, hI, hS, hO⟩
  replace hm := hm out_102 x_103 hI
  clear hI hm0
  refine wseq (rP T hS ⟨[(0, I n_), (3, Z out_102), (4, I x_103), (10, B (x_103 != 0))], []⟩ fun a hS => ?_)
  refine wcond hS (b := (x_103 != 0)) kr (fun hb => ?_) (fun hb => ?_)
  ·replace hm := hm.1 hb
   refine wskip (wseq ?_)
   refine wblock ?_
   refine regO ?_
   refine oP T hS 1 ⟨[(0, I n_), (3, Z out_102), (4, I x_103), (13, I x_103)], []⟩ fun a hS => ?_
   refine op1 (rem (k := .i64) (p := x_103) (q := 10) hS kr kr kr kr (by decide) ?_)
   intro a hS
   refine eP T hS ⟨[(0, I n_), (3, Z out_102), (4, I x_103), (5, I ((x_103).tmod 10))], []⟩ fun a hS => ?_
   refine wcut (fun a w => ∃ (ρ : Nat → Nat) (χ : Nat → Nat) (d_104 : Int), VC57_J2 I1 μ1 out_102 x_103 d_104 ∧ St Tryz.f57.ntmps ⟨[(0, I n_), (3, Z out_102), (4, I x_103), (5, I d_104)], []⟩ ρ a w χ ∧ Old w0 χ0 w χ) ?_ ?_
   ·refine rP T hS ⟨[(0, I n_), (3, Z out_102), (4, I x_103), (5, I ((x_103).tmod 10)), (16, B (decide (((x_103).tmod 10) < 0)))], []⟩ fun a hS => ?_
    refine wcond hS (b := decide (((x_103).tmod 10) < 0)) kr (fun hb => ?_) (fun hb => ?_)
    ·replace hm := hm.1 hb
     refine region (eP T hS ⟨[(0, I n_), (3, Z out_102), (4, I x_103), (5, I (wR (0 - ((x_103).tmod 10))))], []⟩ fun a hS => ?_)
     exact ⟨ρ, _, wR (0 - ((x_103).tmod 10)), hm, hS.sl _, hO⟩
    replace hm := hm.2 hb
    refine wskip ?_
    exact ⟨ρ, _, ((x_103).tmod 10), hm, hS.sl _, hO⟩
   rintro a w110 ⟨ρ, χ109, d_104, hm, hS, hO⟩
   unfold VC57_J2 at hm
   refine region ?_
   refine oP T hS 3 ⟨[(0, I n_), (3, Z out_102), (4, I x_103), (21, V (.int .u8 (IntKind.u8.wrap (wR (48 + d_104)))))], []⟩ fun a hS => ?_
   refine op1 (lit (E := 5) (col := 0) (T := (tInt .u8 1)) (vals := [.int .u8 (IntKind.u8.wrap (wR (48 + d_104)))]) (ys := [IntKind.u8.wrap (wR (48 + d_104))]) T hS kr kr kr kr (by exact ⟨rfl, trivial⟩) rfl kr kr kr kr ?_)
   intro b105 a w106 χ107 hE h108 hN hS
   clear hN
   replace hO := hO.mv hE rfl rfl
   replace h108 := h108.rs0
   obtain ⟨news, hN⟩ := h108.src
   refine op1 (cvtS (b := 1) (ys := [IntKind.u8.wrap (wR (48 + d_104))]) T hS kr kr kr kr kr hN ?_)
   intro a hS
   clear hN
   refine oP T hS 1 ⟨[(0, I n_), (3, Z out_102), (4, I x_103), (23, Z (ofBytes [IntKind.u8.wrap (wR (48 + d_104))])), (24, Z out_102)], []⟩ fun a hS => ?_
   obtain ⟨hq, hm⟩ := hm
   refine op1 (sadd (p := (ofBytes [IntKind.u8.wrap (wR (48 + d_104))])) (q := out_102) hS kr kr kr kr hq ?_)
   intro a hS
   refine eP T hS ⟨[(0, I n_), (3, Z ((ofBytes [IntKind.u8.wrap (wR (48 + d_104))]) ++ out_102)), (4, I x_103)], []⟩ fun a hS => ?_
   refine region ?_
   refine oP T hS 1 ⟨[(0, I n_), (3, Z ((ofBytes [IntKind.u8.wrap (wR (48 + d_104))]) ++ out_102)), (4, I x_103), (11, I x_103)], []⟩ fun a hS => ?_
   refine op1 (quo (k := .i64) (p := x_103) (q := 10) hS kr kr kr kr (by decide) ?_)
   intro a hS
   refine eP T hS ⟨[(0, I n_), (3, Z ((ofBytes [IntKind.u8.wrap (wR (48 + d_104))]) ++ out_102)), (4, I (wR ((x_103).tdiv 10)))], []⟩ fun a hS => ?_
   exact ⟨⟨((ofBytes [IntKind.u8.wrap (wR (48 + d_104))]) ++ out_102), wR ((x_103).tdiv 10)⟩, ⟨ρ, _, hm.1, hS.sl _, hO⟩, hm.2⟩
  replace hm := hm.2 hb
  refine wexit (by rfl) ?_
  exact ⟨ρ, _, out_102, hm, hS.sl _, hO⟩
 rintro a w114 ⟨ρ, χ113, out_101, hm, hS, hO⟩
 unfold VC57_J1 at hm
 refine wseq (rP T hS ⟨[(3, Z out_101), (27, B (decide (n_ < 0)))], []⟩ fun a hS => ?_)
 refine wcond hS (b := decide (n_ < 0)) kr (fun hb => ?_) (fun hb => ?_)
 ·replace hm := hm.1 hb
  refine regO ?_
  refine oP T hS 1 ⟨[(28, Z out_101)], []⟩ fun a hS => ?_
  obtain ⟨hq, hm⟩ := hm
  refine op1 (sadd (p := ([45] : List UInt8)) (q := out_101) hS kr kr kr kr hq ?_)
  intro a hS
  refine eP T hS ⟨[(2, Z (([45] : List UInt8) ++ out_101))], []⟩ fun a hS => ?_
  refine wret ?_
  exact fin T hS hO (fun c => c) rfl (r := [.string (bs (([45] : List UInt8) ++ out_101))]) kr (fun χ' hM hC => ⟨(([45] : List UInt8) ++ out_101), hm, rfl⟩)
 replace hm := hm.2 hb
 refine wskip ?_
 refine rP T hS ⟨[(2, Z out_101)], []⟩ fun a hS => ?_
 refine wret ?_
 exact fin T hS hO (fun c => c) rfl (r := [.string (bs out_101)]) kr (fun χ' hM hC => ⟨out_101, hm, rfl⟩)
theorem C57 (v : ∀ (n_ : Int), preI n_ → VC57 n_ (fun r => r = ref05_Digits n_)) : S57 := by
 intro w χ n_    hp 
 refine (W57 w χ n_    _ (v n_ hp)).mono ?_
 rintro _ _ _ _ ⟨r, rfl, h⟩
 exact h
theorem W103 (w0 : World) (χ0 : Nat → Nat) (n_ : Int) (vars : Int) (Q : Bool → Prop) (hm : VC103 n_ vars Q) :
  Ret Tryz.prog 103 #[.int .i64 n_, .int .i64 vars] xnone w0 χ0 (fun w χ' v => ∃ r, Q r ∧ v = .bool r) := by
 unfold VC103 at hm
 refine enter Tryz.func103 rfl (vals := [.int .i64 n_, .int .i64 vars]) kr ?_
 intro ρ a hS hO hM
 clear hM
 refine rP T hS ⟨[(0, I n_), (1, I vars)], []⟩ fun a hS => ?_
 refine rP T hS ⟨[(4, B (((n_ != 0) && (decide (n_ ≥ (wR (0 - vars))))) && (decide (n_ ≤ vars))))], []⟩ (sp := [7, 13]) fun a hS => ?_
 refine wret ?_
 exact fin T hS hO (fun c => c) rfl (r := [.bool (((n_ != 0) && (decide (n_ ≥ (wR (0 - vars))))) && (decide (n_ ≤ vars)))]) kr (fun χ' hM hC => ⟨(((n_ != 0) && (decide (n_ ≥ (wR (0 - vars))))) && (decide (n_ ≤ vars))), hm, rfl⟩)
theorem C103 (v : ∀ (n_ : Int) (vars : Int), preIn n_ vars → VC103 n_ vars (fun r => r = lit_number_in n_ vars)) : S103 := by
 intro w χ n_ vars    hp 
 refine (W103 w χ n_ vars    _ (v n_ vars hp)).mono ?_
 rintro _ _ _ _ ⟨r, rfl, h⟩
 exact h
theorem W112 (k103 : S103) (w0 : World) (χ0 : Nat → Nat) (lit : Int) (Q : Bool → Prop) (hm : VC112 lit Q) :
  Ret Tryz.prog 112 #[.int .i64 lit] xnone w0 χ0 (fun w χ' v => ∃ r, Q r ∧ v = .bool r) := by
 unfold VC112 at hm
 refine enter Tryz.func112 rfl (vals := [.int .i64 lit]) kr ?_
 intro ρ a hS hO hM
 clear hM
 refine rP T hS ⟨[(0, I lit)], []⟩ fun a hS => ?_
 refine rP T hS ⟨[(3, .f (.func 103) [.v (.int .i64 lit)] [])], []⟩ fun a hS => ?_
 refine regO ?_
 refine oP T hS 1 ⟨[(6, .f (.func 103) [.v (.int .i64 lit)] [])], []⟩ fun a hS => ?_
 obtain ⟨hq, hm⟩ := hm
 refine op1 (callC (fi := [.v (.int .i64 lit)]) (cp := []) hS kr kr hb103 kr kr (fun _ _ => rfl) (k103 _ _ lit 100000 hq) ?_)
 intro v101 a w102 χ103 hE hp hS
 replace hO := hO.mv hE rfl rfl
 obtain ⟨r104, hr⟩ : ∃ r, lit_number_in lit 100000 = r := ⟨_, rfl⟩
 replace hm := hm r104 hr
 rw [hr] at hp
 clear hr
 subst hp
 refine eP T hS ⟨[(2, B r104)], []⟩ fun a hS => ?_
 refine wret ?_
 exact fin T hS hO (fun c => c) rfl (r := [.bool r104]) kr (fun χ' hM hC => ⟨r104, hm, rfl⟩)
theorem C112 (k103 : S103) (v : ∀ (lit : Int), VC112 lit (fun r => r = lit_is lit)) : S112 := by
 intro w χ lit    
 refine (W112 k103 w χ lit    _ (v lit)).mono ?_
 rintro _ _ _ _ ⟨r, rfl, h⟩
 exact h
theorem W104 (k112 : S112) (w0 : World) (χ0 : Nat → Nat) (lit : Int) (Q : Int → Prop) (hm : VC104 lit Q) :
  Ret Tryz.prog 104 #[.int .i64 lit] xnone w0 χ0 (fun w χ' v => ∃ r, Q r ∧ v = .int .i64 r) := by
 unfold VC104 at hm
 refine enter Tryz.func104 rfl (vals := [.int .i64 lit]) kr ?_
 intro ρ a hS hO hM
 clear hM
 refine rP T hS ⟨[(0, I lit)], []⟩ fun a hS => ?_
 refine wseq ?_
 refine regO ?_
 refine oP T hS 1 ⟨[(0, I lit), (3, I lit)], []⟩ fun a hS => ?_
 refine op1 (call hS kr kr hb112 kr (fun _ _ => rfl) (k112 _ _ lit) ?_)
 intro v101 a w102 χ103 hE hp hS
 replace hO := hO.mv hE rfl rfl
 obtain ⟨r104, hr⟩ : ∃ r, lit_is lit = r := ⟨_, rfl⟩
 replace hm := hm r104 hr
 rw [hr] at hp
 clear hr
 subst hp
 refine eP T hS ⟨[(0, I lit), (5, B (!r104))], []⟩ fun a hS => ?_
 refine wcond hS (b := (!r104)) kr (fun hb => ?_) (fun hb => ?_)
 ·replace hm := hm.1 hb
  refine rP T hS ⟨[(2, I 0)], []⟩ fun a hS => ?_
  refine wret ?_
  exact fin T hS hO (fun c => c) rfl (r := [.int .i64 0]) kr (fun χ' hM hC => ⟨0, hm, rfl⟩)
 replace hm := hm.2 hb
 refine wskip ?_
 refine rP T hS ⟨[(2, I (if (wR (0 - lit)) > lit then (wR (0 - lit)) else lit))], []⟩ fun a hS => ?_
 refine wret ?_
 exact fin T hS hO (fun c => c) rfl (r := [.int .i64 (if (wR (0 - lit)) > lit then (wR (0 - lit)) else lit)]) kr (fun χ' hM hC => ⟨(if (wR (0 - lit)) > lit then (wR (0 - lit)) else lit), hm, rfl⟩)
theorem C104 (k112 : S112) (v : ∀ (lit : Int), VC104 lit (fun r => r = lit_Var lit)) : S104 := by
 intro w χ lit    
 refine (W104 k112 w χ lit    _ (v lit)).mono ?_
 rintro _ _ _ _ ⟨r, rfl, h⟩
 exact h
theorem W91 (k103 : S103) (w0 : World) (χ0 : Nat → Nat) (lit : Int) (vars : Int) (Q : Int → Prop) (hm : VC91 lit vars Q) :
  Ret Tryz.prog 91 #[.int .i64 lit, .int .i64 vars] xnone w0 χ0 (fun w χ' v => ∃ r, Q r ∧ v = .int .i64 r) := by
 unfold VC91 at hm
 refine enter Tryz.func91 rfl (vals := [.int .i64 lit, .int .i64 vars]) kr ?_
 intro ρ a hS hO hM
 clear hM
 refine rP T hS ⟨[(0, I lit), (1, I vars)], []⟩ fun a hS => ?_
 refine wseq ?_
 refine wblock ?_
 refine rP T hS ⟨[(0, I lit), (1, I vars), (5, B ((decide (vars < 0)) || (decide (vars > 100000))))], []⟩ (sp := [8]) fun a hS => ?_
 refine wcond hS (b := ((decide (vars < 0)) || (decide (vars > 100000)))) kr (fun hb => ?_) (fun hb => ?_)
 ·replace hm := hm.1 hb
  refine rP T hS ⟨[(4, I 2)], []⟩ fun a hS => ?_
  refine wret ?_
  exact fin T hS hO (fun c => c) rfl (r := [.int .i64 2]) kr (fun χ' hM hC => ⟨2, hm, rfl⟩)
 replace hm := hm.2 hb
 refine regO ?_
 refine oP T hS 2 ⟨[(13, I lit), (14, I vars)], []⟩ fun a hS => ?_
 obtain ⟨hq, hm⟩ := hm
 refine op1 (call hS kr kr hb103 kr (fun _ _ => rfl) (k103 _ _ lit vars hq) ?_)
 intro v101 a w102 χ103 hE hp hS
 replace hO := hO.mv hE rfl rfl
 obtain ⟨r104, hr⟩ : ∃ r, lit_number_in lit vars = r := ⟨_, rfl⟩
 replace hm := hm r104 hr
 rw [hr] at hp
 clear hr
 subst hp
 refine eP T hS ⟨[(12, B (!r104))], []⟩ fun a hS => ?_
 refine wcond hS (b := (!r104)) kr (fun hb => ?_) (fun hb => ?_)
 ·replace hm := hm.1 hb
  refine rP T hS ⟨[(4, I 10)], []⟩ fun a hS => ?_
  refine wret ?_
  exact fin T hS hO (fun c => c) rfl (r := [.int .i64 10]) kr (fun χ' hM hC => ⟨10, hm, rfl⟩)
 replace hm := hm.2 hb
 refine wskip ?_
 refine rP T hS ⟨[(4, I 0)], []⟩ fun a hS => ?_
 refine wret ?_
 exact fin T hS hO (fun c => c) rfl (r := [.int .i64 0]) kr (fun χ' hM hC => ⟨0, hm, rfl⟩)
theorem C91 (k103 : S103) (v : ∀ (lit : Int) (vars : Int), VC91 lit vars (fun r => r = lit_Check lit vars)) : S91 := by
 intro w χ lit vars    
 refine (W91 k103 w χ lit vars    _ (v lit vars)).mono ?_
 rintro _ _ _ _ ⟨r, rfl, h⟩
 exact h
theorem W83 (w0 : World) (χ0 : Nat → Nat) (l_ : List Int) (n_ : Int) (a1 : Option Addr) (c1 : Nat) (Q : Bool → Prop) (hm : VC83 l_ n_ Q) (h1 : RS tI w0 χ0 a1 l_ c1) :
  Ret Tryz.prog 83 #[.slice a1 l_.length c1, .int .i64 n_] xnone w0 χ0 (fun w χ' v => ∃ r, Q r ∧ v = .bool r) := by
 unfold VC83 at hm
 replace hm := hm (h1.sm kr)
 refine enter Tryz.func83 rfl (vals := [.slice a1 l_.length c1, .int .i64 n_]) kr ?_
 intro ρ a hS hO hM
 replace h1 := h1.m0 hM
 clear hM
 refine rP T hS ⟨[(0, Sl a1 l_ c1), (1, I n_)], []⟩ fun a hS => ?_
 refine wcut (fun a w => ∃ (ρ : Nat → Nat) (χ : Nat → Nat), VC83_J1 Q ∧ St Tryz.f83.ntmps ⟨[], []⟩ ρ a w χ ∧ Old w0 χ0 w χ) ?_ ?_
 ·refine rP T hS ⟨[(0, Sl a1 l_ c1), (1, I n_), (5, I 0)], []⟩ fun a hS => ?_
  refine wblock ?_
  obtain ⟨I1, μ1, hm0, hm⟩ := hm
  refine wloop (σ := Int) (fun s a w => ∃ (ρ : Nat → Nat) (χ : Nat → Nat), I1 s ∧ St Tryz.f83.ntmps ⟨[(0, Sl a1 l_ c1), (1, I n_), (5, I s)], []⟩ ρ a w χ ∧ Old w0 χ0 w χ ∧ RS tI w χ a1 l_ c1) (fun s => μ1 s) (0) ?_ ?_
  ·exact ⟨ρ, _, hm0, hS.sl _, hO, h1⟩
  rintro i_102 a w107 ⟨ρ, χ106, hI, hS, hO, h101⟩
  replace hm := hm i_102 hI
  clear hI hm0
  refine wseq (rP T hS ⟨[(0, Sl a1 l_ c1), (1, I n_), (5, I i_102), (9, B (decide (i_102 < (lN l_))))], []⟩ fun a hS => ?_)
  refine wcond hS (b := decide (i_102 < (lN l_))) kr (fun hb => ?_) (fun hb => ?_)
  ·replace hm := hm.1 hb
   refine wskip (wseq ?_)
   refine wblock ?_
   refine regO ?_
   refine oP T hS 2 ⟨[(0, Sl a1 l_ c1), (1, I n_), (5, I i_102), (12, Sl a1 l_ c1), (13, I i_102)], []⟩ fun a hS => ?_
   obtain ⟨hq, hm⟩ := hm
   refine op1 (index (e := 3) (k := .i64) T hS kr kr kr kr h101 kr kr hq.1 hq.2 ?_)
   intro A103 a h104 hS
   refine op1 (load1 T hS kr kr kr h104 rfl kr ?_)
   intro v105 a hv hS
   cases hv
   refine eP T hS ⟨[(0, Sl a1 l_ c1), (1, I n_), (5, I i_102), (17, B ((gi l_ i_102) == n_))], []⟩ fun a hS => ?_
   refine wcond hS (b := ((gi l_ i_102) == n_)) kr (fun hb => ?_) (fun hb => ?_)
   ·replace hm := hm.1 hb
    refine rP T hS ⟨[(4, B true)], []⟩ fun a hS => ?_
    refine wret ?_
    exact fin T hS hO (fun c => c) rfl (r := [.bool true]) kr (fun χ' hM hC => ⟨true, hm, rfl⟩)
   replace hm := hm.2 hb
   refine wskip ?_
   refine region (eP T hS ⟨[(0, Sl a1 l_ c1), (1, I n_), (5, I (wR (i_102 + 1)))], []⟩ fun a hS => ?_)
   exact ⟨wR (i_102 + 1), ⟨ρ, _, hm.1, hS.sl _, hO, h101⟩, hm.2⟩
  replace hm := hm.2 hb
  refine wexit (by rfl) ?_
  exact ⟨ρ, _, hm, hS.sl _, hO⟩
 rintro a w109 ⟨ρ, χ108, hm, hS, hO⟩
 unfold VC83_J1 at hm
 refine rP T hS ⟨[(4, B false)], []⟩ fun a hS => ?_
 refine wret ?_
 exact fin T hS hO (fun c => c) rfl (r := [.bool false]) kr (fun χ' hM hC => ⟨false, hm, rfl⟩)
theorem C83 (v : ∀ (l_ : List Int) (n_ : Int), VC83 l_ n_ (fun r => r = ref01_Has l_ n_)) : S83 := by
 intro w χ l_ n_ a1 c1   h1
 refine (W83 w χ l_ n_ a1 c1   _ (v l_ n_) h1).mono ?_
 rintro _ _ _ _ ⟨r, rfl, h⟩
 exact h
theorem W54 (w0 : World) (χ0 : Nat → Nat) (a_ : List Int) (b_ : List Int) (a1 : Option Addr) (c1 : Nat) (a2 : Option Addr) (c2 : Nat) (Q : Bool → Prop) (hm : VC54 a_ b_ Q) (h1 : RS tI w0 χ0 a1 a_ c1) (h2 : RS tI w0 χ0 a2 b_ c2) :
  Ret Tryz.prog 54 #[.slice a1 a_.length c1, .slice a2 b_.length c2] xnone w0 χ0 (fun w χ' v => ∃ r, Q r ∧ v = .bool r) := by
 unfold VC54 at hm
 replace hm := hm (h1.sm kr)
 replace hm := hm (h2.sm kr)
 refine enter Tryz.func54 rfl (vals := [.slice a1 a_.length c1, .slice a2 b_.length c2]) kr ?_
 intro ρ a hS hO hM
 replace h1 := h1.m0 hM
 replace h2 := h2.m0 hM
 clear hM
 refine rP T hS ⟨[(0, Sl a1 a_ c1), (1, Sl a2 b_ c2)], []⟩ fun a hS => ?_
 refine wseq (rP T hS ⟨[(0, Sl a1 a_ c1), (1, Sl a2 b_ c2), (10, B ((lN a_) != (lN b_)))], []⟩ fun a hS => ?_)
 refine wcond hS (b := ((lN a_) != (lN b_))) kr (fun hb => ?_) (fun hb => ?_)
 ·replace hm := hm.1 hb
  refine rP T hS ⟨[(4, B false)], []⟩ fun a hS => ?_
  refine wret ?_
  exact fin T hS hO (fun c => c) rfl (r := [.bool false]) kr (fun χ' hM hC => ⟨false, hm, rfl⟩)
 replace hm := hm.2 hb
 refine wskip ?_
 refine wcut (fun a w => ∃ (ρ : Nat → Nat) (χ : Nat → Nat), VC54_J1 Q ∧ St Tryz.f54.ntmps ⟨[], []⟩ ρ a w χ ∧ Old w0 χ0 w χ) ?_ ?_
 ·refine rP T hS ⟨[(0, Sl a1 a_ c1), (1, Sl a2 b_ c2), (5, I 0)], []⟩ fun a hS => ?_
  refine wblock ?_
  obtain ⟨I1, μ1, hm0, hm⟩ := hm
  refine wloop (σ := Int) (fun s a w => ∃ (ρ : Nat → Nat) (χ : Nat → Nat), I1 s ∧ St Tryz.f54.ntmps ⟨[(0, Sl a1 a_ c1), (1, Sl a2 b_ c2), (5, I s)], []⟩ ρ a w χ ∧ Old w0 χ0 w χ ∧ RS tI w χ a1 a_ c1 ∧ RS tI w χ a2 b_ c2) (fun s => μ1 s) (0) ?_ ?_
  ·exact ⟨ρ, _, hm0, hS.sl _, hO, h1, h2⟩
  rintro i_103 a w113 ⟨ρ, χ112, hI, hS, hO, h101, h102⟩
  replace hm := hm i_103 hI
  clear hI hm0
  refine wseq (rP T hS ⟨[(0, Sl a1 a_ c1), (1, Sl a2 b_ c2), (5, I i_103), (14, B (decide (i_103 < (lN a_))))], []⟩ fun a hS => ?_)
  refine wcond hS (b := decide (i_103 < (lN a_))) kr (fun hb => ?_) (fun hb => ?_)
  ·replace hm := hm.1 hb
   refine wskip (wseq ?_)
   refine wblock ?_
   refine drawnSX [] mixed hS ?_
   intro w104 χ105 hS hE hD hH
   replace hO := hO.mv hE rfl rfl
   replace h101 := h101.mv hE rfl
   replace h102 := h102.mv hE rfl
   refine tk T [0, 1, 4, 5] [] hS hH #[true, true, false, false, true, true, false, false, false] 5 ⟨[(0, Sl a1 a_ c1), (1, Sl a2 b_ c2), (5, I i_103), (17, Sl a1 a_ c1), (18, I i_103), (21, Sl a2 b_ c2), (22, I i_103)], []⟩ fun a hS => ?_
   obtain ⟨hq, hm⟩ := hm
   refine dindex (e := 3) (k := .i64) T 2 hS kr kr kr (by rfl) kr hH kr kr h101 kr kr hq.1 hq.2 ?_
   intro A106 a h107 hS
   have h107b := h107.here
   refine dload1 T 3 hS kr kr kr (by rfl) kr hH kr h107 h107b rfl kr ?_
   intro v108 a hv hS
   cases hv
   obtain ⟨hq, hm⟩ := hm
   refine dindex (e := 3) (k := .i64) T 6 hS kr kr kr (by rfl) kr hH kr kr h102 kr kr hq.1 hq.2 ?_
   intro A109 a h110 hS
   have h110b := h110.here
   refine dload1 T 7 hS kr kr kr (by rfl) kr hH kr h110 h110b rfl kr ?_
   intro v111 a hv hS
   cases hv
   refine tk T [8] [] hS hH #[true, true, true, true, true, true, true, true, true] 0 ⟨[(0, Sl a1 a_ c1), (1, Sl a2 b_ c2), (5, I i_103), (25, B ((gi a_ i_103) != (gi b_ i_103)))], []⟩ fun a hS => ?_
   refine drawnDone kr ?_
   clear hD hH
   replace hS := hS.sl ⟨[(0, Sl a1 a_ c1), (1, Sl a2 b_ c2), (5, I i_103), (25, B ((gi a_ i_103) != (gi b_ i_103)))], []⟩
   refine wcond hS (b := ((gi a_ i_103) != (gi b_ i_103))) kr (fun hb => ?_) (fun hb => ?_)
   ·replace hm := hm.1 hb
    refine rP T hS ⟨[(4, B false)], []⟩ fun a hS => ?_
    refine wret ?_
    exact fin T hS hO (fun c => c) rfl (r := [.bool false]) kr (fun χ' hM hC => ⟨false, hm, rfl⟩)
   replace hm := hm.2 hb
   refine wskip ?_
   refine region (eP T hS ⟨[(0, Sl a1 a_ c1), (1, Sl a2 b_ c2), (5, I (wR (i_103 + 1)))], []⟩ fun a hS => ?_)
   exact ⟨wR (i_103 + 1), ⟨ρ, _, hm.1, hS.sl _, hO, h101, h102⟩, hm.2⟩
  replace hm := hm.2 hb
  refine wexit (by rfl) ?_
  exact ⟨ρ, _, hm, hS.sl _, hO⟩
 rintro a w115 ⟨ρ, χ114, hm, hS, hO⟩
 unfold VC54_J1 at hm
 refine rP T hS ⟨[(4, B true)], []⟩ fun a hS => ?_
 refine wret ?_
 exact fin T hS hO (fun c => c) rfl (r := [.bool true]) kr (fun χ' hM hC => ⟨true, hm, rfl⟩)
theorem C54 (v : ∀ (a_ : List Int) (b_ : List Int), VC54 a_ b_ (fun r => r = ref01_SameInts a_ b_)) : S54 := by
 intro w χ a_ b_ a1 c1 a2 c2   h1 h2
 refine (W54 w χ a_ b_ a1 c1 a2 c2   _ (v a_ b_) h1 h2).mono ?_
 rintro _ _ _ _ ⟨r, rfl, h⟩
 exact h
theorem W67 (w0 : World) (χ0 : Nat → Nat) (s1 : List Int) (s2 : List Int) (a1 : Option Addr) (c1 : Nat) (a2 : Option Addr) (c2 : Nat) (Q : Bool → Prop) (hm : VC67 s1 s2 Q) (h1 : RS tI w0 χ0 a1 s1 c1) (h2 : RS tI w0 χ0 a2 s2 c2) :
  Ret Tryz.prog 67 #[.slice a1 s1.length c1, .slice a2 s2.length c2] xnone w0 χ0 (fun w χ' v => ∃ r, Q r ∧ v = .bool r) := by
 unfold VC67 at hm
 replace hm := hm (h1.sm kr)
 replace hm := hm (h2.sm kr)
 refine enter Tryz.func67 rfl (vals := [.slice a1 s1.length c1, .slice a2 s2.length c2]) kr ?_
 intro ρ a hS hO hM
 replace h1 := h1.m0 hM
 replace h2 := h2.m0 hM
 clear hM
 refine rP T hS ⟨[(0, Sl a1 s1 c1), (1, Sl a2 s2 c2)], []⟩ fun a hS => ?_
 refine wseq (rP T hS ⟨[(0, Sl a1 s1 c1), (1, Sl a2 s2 c2), (10, B ((lN s1) != (lN s2)))], []⟩ fun a hS => ?_)
 refine wcond hS (b := ((lN s1) != (lN s2))) kr (fun hb => ?_) (fun hb => ?_)
 ·replace hm := hm.1 hb
  refine rP T hS ⟨[(4, B false)], []⟩ fun a hS => ?_
  refine wret ?_
  exact fin T hS hO (fun c => c) rfl (r := [.bool false]) kr (fun χ' hM hC => ⟨false, hm, rfl⟩)
 replace hm := hm.2 hb
 refine wskip ?_
 refine wcut (fun a w => ∃ (ρ : Nat → Nat) (χ : Nat → Nat), VC67_J1 Q ∧ St Tryz.f67.ntmps ⟨[], []⟩ ρ a w χ ∧ Old w0 χ0 w χ) ?_ ?_
 ·refine rP T hS ⟨[(0, Sl a1 s1 c1), (1, Sl a2 s2 c2), (12, I (lN s1)), (13, I 0)], []⟩ fun a hS => ?_
  refine wblock ?_
  obtain ⟨I1, μ1, hm0, hm⟩ := hm
  refine wloop (σ := Int) (fun s a w => ∃ (ρ : Nat → Nat) (χ : Nat → Nat), I1 s ∧ St Tryz.f67.ntmps ⟨[(0, Sl a1 s1 c1), (1, Sl a2 s2 c2), (12, I (lN s1)), (13, I s)], []⟩ ρ a w χ ∧ Old w0 χ0 w χ ∧ RS tI w χ a1 s1 c1 ∧ RS tI w χ a2 s2 c2) (fun s => μ1 s) (0) ?_ ?_
  ·exact ⟨ρ, _, hm0, hS.sl _, hO, h1, h2⟩
  rintro x_103 a w113 ⟨ρ, χ112, hI, hS, hO, h101, h102⟩
  replace hm := hm x_103 hI
  clear hI hm0
  refine rP T hS ⟨[(0, Sl a1 s1 c1), (1, Sl a2 s2 c2), (12, I (lN s1)), (13, I x_103), (14, B (decide (x_103 < (lN s1))))], []⟩ fun a hS => ?_
  refine wseq ?_
  refine wcond hS (b := decide (x_103 < (lN s1))) kr (fun hb => ?_) (fun hb => ?_)
  ·replace hm := hm.1 hb
   refine wskip (wseq ?_)
   refine wblock ?_
   refine rP T hS ⟨[(0, Sl a1 s1 c1), (1, Sl a2 s2 c2), (5, I x_103), (12, I (lN s1)), (13, I x_103)], []⟩ fun a hS => ?_
   refine drawnSX [] mixed hS ?_
   intro w104 χ105 hS hE hD hH
   replace hO := hO.mv hE rfl rfl
   replace h101 := h101.mv hE rfl
   replace h102 := h102.mv hE rfl
   refine tk T [0, 1, 4, 5] [] hS hH #[true, true, false, false, true, true, false, false, false] 5 ⟨[(0, Sl a1 s1 c1), (1, Sl a2 s2 c2), (12, I (lN s1)), (13, I x_103), (16, Sl a1 s1 c1), (17, I x_103), (20, Sl a2 s2 c2), (21, I x_103)], []⟩ fun a hS => ?_
   obtain ⟨hq, hm⟩ := hm
   refine dindex (e := 3) (k := .i64) T 2 hS kr kr kr (by rfl) kr hH kr kr h101 kr kr hq.1 hq.2 ?_
   intro A106 a h107 hS
   have h107b := h107.here
   refine dload1 T 3 hS kr kr kr (by rfl) kr hH kr h107 h107b rfl kr ?_
   intro v108 a hv hS
   cases hv
   obtain ⟨hq, hm⟩ := hm
   refine dindex (e := 3) (k := .i64) T 6 hS kr kr kr (by rfl) kr hH kr kr h102 kr kr hq.1 hq.2 ?_
   intro A109 a h110 hS
   have h110b := h110.here
   refine dload1 T 7 hS kr kr kr (by rfl) kr hH kr h110 h110b rfl kr ?_
   intro v111 a hv hS
   cases hv
   refine tk T [8] [] hS hH #[true, true, true, true, true, true, true, true, true] 0 ⟨[(0, Sl a1 s1 c1), (1, Sl a2 s2 c2), (12, I (lN s1)), (13, I x_103), (24, B ((gi s1 x_103) != (gi s2 x_103)))], []⟩ fun a hS => ?_
   refine drawnDone kr ?_
   clear hD hH
   replace hS := hS.sl ⟨[(0, Sl a1 s1 c1), (1, Sl a2 s2 c2), (12, I (lN s1)), (13, I x_103), (24, B ((gi s1 x_103) != (gi s2 x_103)))], []⟩
   refine wcond hS (b := ((gi s1 x_103) != (gi s2 x_103))) kr (fun hb => ?_) (fun hb => ?_)
   ·replace hm := hm.1 hb
    refine rP T hS ⟨[(4, B false)], []⟩ fun a hS => ?_
    refine wret ?_
    exact fin T hS hO (fun c => c) rfl (r := [.bool false]) kr (fun χ' hM hC => ⟨false, hm, rfl⟩)
   replace hm := hm.2 hb
   refine wskip ?_
   refine region (eP T hS ⟨[(0, Sl a1 s1 c1), (1, Sl a2 s2 c2), (12, I (lN s1)), (13, I (wR (x_103 + 1)))], []⟩ fun a hS => ?_)
   exact ⟨wR (x_103 + 1), ⟨ρ, _, hm.1, hS.sl _, hO, h101, h102⟩, hm.2⟩
  replace hm := hm.2 hb
  refine wexit (by rfl) ?_
  exact ⟨ρ, _, hm, hS.sl _, hO⟩
 rintro a w115 ⟨ρ, χ114, hm, hS, hO⟩
 unfold VC67_J1 at hm
 refine rP T hS ⟨[(4, B true)], []⟩ fun a hS => ?_
 refine wret ?_
 exact fin T hS hO (fun c => c) rfl (r := [.bool true]) kr (fun χ' hM hC => ⟨true, hm, rfl⟩)
theorem C67 (v : ∀ (s1 : List Int) (s2 : List Int), VC67 s1 s2 (fun r => r = slices_Equal_int_int s1 s2)) : S67 := by
 intro w χ s1 s2 a1 c1 a2 c2   h1 h2
 refine (W67 w χ s1 s2 a1 c1 a2 c2   _ (v s1 s2) h1 h2).mono ?_
 rintro _ _ _ _ ⟨r, rfl, h⟩
 exact h
theorem W92 (k104 : S104) (w0 : World) (χ0 : Nat → Nat) (c_ : List Int) (a1 : Option Addr) (c1 : Nat) (col1 : Nat) (Q : (List (Int × Int)) → Prop) (hm : VC92 c_ Q) (h1 : RS tI w0 χ0 a1 c_ c1) :
  Ret Tryz.prog 92 #[.slice a1 c_.length c1] xnone w0 χ0 (fun w χ' v => ∃ r, Q r ∧ ∃ (rr1 : Nat), v = .map (some rr1) ∧ OM kI tI false w χ' col1 rr1 r) := by
 unfold VC92 at hm
 replace hm := hm (h1.sm kr)
 refine enter Tryz.func92 rfl (vals := [.slice a1 c_.length c1]) kr ?_
 intro ρ a hS hO hM
 replace h1 := h1.m0 hM
 clear hM
 refine rP T hS ⟨[(0, Sl a1 c_ c1)], []⟩ fun a hS => ?_
 refine regO ?_
 refine oP T hS 2 ⟨[(0, Sl a1 c_ c1), (7, I (lN c_))], []⟩ fun a hS => ?_
 refine op1 (mkmapH (hk := .i64) (hn := (lN c_)) kI tI false 1009 hS kr kr kr Tryz.underlying111 ?_)
 intro r101 a w102 χ103 hE h104 hS
 replace hO := hO.mv hE rfl rfl
 replace h1 := h1.mv hE rfl
 refine eP T hS ⟨[(0, Sl a1 c_ c1), (3, V (.map (some r101)))], []⟩ fun a hS => ?_
 refine wcut (fun a w => ∃ (ρ : Nat → Nat) (χ : Nat → Nat) (out_105 : List (Int × Int)), VC92_J1 Q out_105 ∧ St Tryz.f92.ntmps ⟨[(3, V (.map (some r101)))], []⟩ ρ a w χ ∧ Old w0 χ0 w χ ∧ OM kI tI false w χ 1009 r101 out_105) ?_ ?_
 ·refine rP T hS ⟨[(3, V (.map (some r101))), (9, Sl a1 c_ c1), (10, I (lN c_)), (11, I 0)], []⟩ fun a hS => ?_
  refine wblock ?_
  obtain ⟨I1, μ1, hm0, hm⟩ := hm
  refine wloop (σ := (List (Int × Int)) × Int) (fun s a w => ∃ (ρ : Nat → Nat) (χ : Nat → Nat), I1 s.1 s.2 ∧ St Tryz.f92.ntmps ⟨[(3, V (.map (some r101))), (9, Sl a1 c_ c1), (10, I (lN c_)), (11, I s.2)], []⟩ ρ a w χ ∧ Old w0 χ0 w χ ∧ OM kI tI false w χ 1009 r101 s.1 ∧ RS tI w χ a1 c_ c1) (fun s => μ1 s.1 s.2) (⟨([] : List (Int × Int)), 0⟩) ?_ ?_
  ·exact ⟨ρ, _, hm0, hS.sl _, hO, h104, h1⟩
  rintro ⟨out_107, x_110⟩ a w127 ⟨ρ, χ126, hI, hS, hO, h108, h109⟩
  replace hm := hm out_107 x_110 hI
  clear hI hm0
  refine rP T hS ⟨[(3, V (.map (some r101))), (9, Sl a1 c_ c1), (10, I (lN c_)), (11, I x_110), (12, B (decide (x_110 < (lN c_))))], []⟩ fun a hS => ?_
  refine wseq ?_
  refine wcond hS (b := decide (x_110 < (lN c_))) kr (fun hb => ?_) (fun hb => ?_)
  ·replace hm := hm.1 hb
   refine wskip ?_
   refine wcut (fun a w => ∃ (ρ : Nat → Nat) (χ : Nat → Nat) (out_111 : List (Int × Int)), VC92_J2 I1 μ1 out_107 x_110 out_111 ∧ St Tryz.f92.ntmps ⟨[(3, V (.map (some r101))), (9, Sl a1 c_ c1), (10, I (lN c_)), (11, I x_110)], []⟩ ρ a w χ ∧ Old w0 χ0 w χ ∧ OM kI tI false w χ 1009 r101 out_111 ∧ RS tI w χ a1 c_ c1) ?_ ?_
   ·refine wblock ?_
    refine regO ?_
    obtain ⟨hq, hm⟩ := hm
    refine op1 (index (e := 3) (k := .i64) T hS kr kr kr kr h109 kr kr hq.1 hq.2 ?_)
    intro A114 a h115 hS
    refine op1 (load1 T hS kr kr kr h115 rfl kr ?_)
    intro v116 a hv hS
    cases hv
    refine eP T hS ⟨[(3, V (.map (some r101))), (5, I (gi c_ x_110)), (9, Sl a1 c_ c1), (10, I (lN c_)), (11, I x_110)], []⟩ fun a hS => ?_
    refine regO ?_
    refine oP T hS 1 ⟨[(3, V (.map (some r101))), (5, I (gi c_ x_110)), (9, Sl a1 c_ c1), (10, I (lN c_)), (11, I x_110), (15, I (gi c_ x_110))], []⟩ fun a hS => ?_
    refine op1 (call hS kr kr hb104 kr (fun _ _ => rfl) (k104 _ _ (gi c_ x_110)) ?_)
    intro v117 a w118 χ119 hE hp hS
    replace hO := hO.mv hE rfl rfl
    replace h108 := h108.mv hE rfl rfl
    replace h109 := h109.mv hE rfl
    obtain ⟨r120, hr⟩ : ∃ r, lit_Var (gi c_ x_110) = r := ⟨_, rfl⟩
    replace hm := hm r120 hr
    rw [hr] at hp
    clear hr
    subst hp
    refine eP T hS ⟨[(3, V (.map (some r101))), (5, I (gi c_ x_110)), (9, Sl a1 c_ c1), (10, I (lN c_)), (11, I x_110), (17, B (decide (r120 > 0)))], []⟩ fun a hS => ?_
    refine wcond hS (b := decide (r120 > 0)) kr (fun hb => ?_) (fun hb => ?_)
    ·replace hm := hm.1 hb
     refine region ?_
     refine oP T hS 2 ⟨[(3, V (.map (some r101))), (9, Sl a1 c_ c1), (10, I (lN c_)), (11, I x_110), (18, V (.map (some r101))), (19, I (gi c_ x_110))], []⟩ fun a hS => ?_
     refine op1 (mlook kI tI false (zv := .int .i64 0) (z := 0) (gi c_ x_110) hS kr kr kr kr Tryz.underlying111 Tryz.underlying3 kr rfl h108 ?_)
     intro v121 a hv hS
     replace hv : tI.R _ _ [v121] _ := hv
     cases hv
     refine oP T hS 1 ⟨[(3, V (.map (some r101))), (9, Sl a1 c_ c1), (10, I (lN c_)), (11, I x_110), (18, V (.map (some r101))), (19, I (gi c_ x_110)), (21, I (wR (((mget out_107 (gi c_ x_110)).getD 0) + 1)))], []⟩ fun a hS => ?_
     refine op1 (mset kI tI false (v := I (wR (((mget out_107 (gi c_ x_110)).getD 0) + 1))) (u := wR (((mget out_107 (gi c_ x_110)).getD 0) + 1)) (gi c_ x_110) hS kr kr kr kr Tryz.underlying111 Tryz.underlying3 kr h108 rfl ?_)
     intro a w122 hE h123 hS
     clear h108
     replace hO := hO.mv hE rfl rfl
     replace h109 := h109.mv hE rfl
     refine doneK ?_
     exact ⟨ρ, _, mput out_107 (gi c_ x_110) (wR (((mget out_107 (gi c_ x_110)).getD 0) + 1)), hm, hS.sl _, hO, h123, h109⟩
    replace hm := hm.2 hb
    refine wskip ?_
    exact ⟨ρ, _, out_107, hm, hS.sl _, hO, h108, h109⟩
   rintro a w125 ⟨ρ, χ124, out_111, hm, hS, hO, h112, h113⟩
   unfold VC92_J2 at hm
   refine region (eP T hS ⟨[(3, V (.map (some r101))), (9, Sl a1 c_ c1), (10, I (lN c_)), (11, I (wR (x_110 + 1)))], []⟩ fun a hS => ?_)
   exact ⟨⟨out_111, wR (x_110 + 1)⟩, ⟨ρ, _, hm.1, hS.sl _, hO, h112, h113⟩, hm.2⟩
  replace hm := hm.2 hb
  refine wexit (by rfl) ?_
  exact ⟨ρ, _, out_107, hm, hS.sl _, hO, h108⟩
 rintro a w129 ⟨ρ, χ128, out_105, hm, hS, hO, h106⟩
 unfold VC92_J1 at hm
 refine rP T hS ⟨[(2, V (.map (some r101)))], []⟩ fun a hS => ?_
 refine wret ?_
 exact fin T hS hO (fun c => (bif Nat.beq c 1009 then col1 else c)) rfl (r := [.map (some r101)]) kr (fun χ' hM hC => ⟨out_105, hm, r101, rfl, (h106.out (f := (fun c => (bif Nat.beq c 1009 then col1 else c))) hM hC kr kr)⟩)
theorem C92 (k104 : S104) (v : ∀ (c_ : List Int), preSeen c_ → VC92 c_ (fun r => r = clause_seen c_)) : S92 := by
 intro w χ c_ a1 c1 col1  hp h1
 refine (W92 k104 w χ c_ a1 c1 col1  _ (v c_ hp) h1).mono ?_
 rintro _ _ _ _ ⟨r, rfl, h⟩
 exact h
theorem W80 (k91 : S91) (k92 : S92) (w0 : World) (χ0 : Nat → Nat) (c_ : List Int) (vars : Int) (a1 : Option Addr) (c1 : Nat) (Q : Int → Prop) (hm : VC80 c_ vars Q) (h1 : RS tI w0 χ0 a1 c_ c1) :
  Ret Tryz.prog 80 #[.slice a1 c_.length c1, .int .i64 vars] xnone w0 χ0 (fun w χ' v => ∃ r, Q r ∧ v = .int .i64 r) := by
 unfold VC80 at hm
 replace hm := hm (h1.sm kr)
 refine enter Tryz.func80 rfl (vals := [.slice a1 c_.length c1, .int .i64 vars]) kr ?_
 intro ρ a hS hO hM
 replace h1 := h1.m0 hM
 clear hM
 refine rP T hS ⟨[(0, Sl a1 c_ c1), (1, I vars)], []⟩ fun a hS => ?_
 refine wseq ?_
 refine wblock ?_
 refine rP T hS ⟨[(0, Sl a1 c_ c1), (1, I vars), (8, B ((decide (vars < 0)) || (decide (vars > 100000))))], []⟩ (sp := [11]) fun a hS => ?_
 refine wcond hS (b := ((decide (vars < 0)) || (decide (vars > 100000)))) kr (fun hb => ?_) (fun hb => ?_)
 ·replace hm := hm.1 hb
  refine rP T hS ⟨[(4, I 2)], []⟩ fun a hS => ?_
  refine wret ?_
  exact fin T hS hO (fun c => c) rfl (r := [.int .i64 2]) kr (fun χ' hM hC => ⟨2, hm, rfl⟩)
 replace hm := hm.2 hb
 refine rP T hS ⟨[(0, Sl a1 c_ c1), (1, I vars), (15, B (decide ((lN c_) > 1000)))], []⟩ fun a hS => ?_
 refine wcond hS (b := decide ((lN c_) > 1000)) kr (fun hb => ?_) (fun hb => ?_)
 ·replace hm := hm.1 hb
  refine rP T hS ⟨[(4, I 3)], []⟩ fun a hS => ?_
  refine wret ?_
  exact fin T hS hO (fun c => c) rfl (r := [.int .i64 3]) kr (fun χ' hM hC => ⟨3, hm, rfl⟩)
 replace hm := hm.2 hb
 refine wskip ?_
 refine wcut (fun a w => ∃ (ρ : Nat → Nat) (χ : Nat → Nat), VC80_J1 c_ Q ∧ St Tryz.f80.ntmps ⟨[(0, Sl a1 c_ c1)], []⟩ ρ a w χ ∧ Old w0 χ0 w χ ∧ RS tI w χ a1 c_ c1) ?_ ?_
 ·refine rP T hS ⟨[(0, Sl a1 c_ c1), (1, I vars), (19, Sl a1 c_ c1), (20, I (lN c_)), (21, I 0)], []⟩ fun a hS => ?_
  refine wblock ?_
  obtain ⟨I1, μ1, hm0, hm⟩ := hm
  refine wloop (σ := Int) (fun s a w => ∃ (ρ : Nat → Nat) (χ : Nat → Nat), I1 s ∧ St Tryz.f80.ntmps ⟨[(0, Sl a1 c_ c1), (1, I vars), (19, Sl a1 c_ c1), (20, I (lN c_)), (21, I s)], []⟩ ρ a w χ ∧ Old w0 χ0 w χ ∧ RS tI w χ a1 c_ c1 ∧ RS tI w χ a1 c_ c1) (fun s => μ1 s) (0) ?_ ?_
  ·exact ⟨ρ, _, hm0, hS.sl _, hO, h1, h1⟩
  rintro x_110 a w119 ⟨ρ, χ118, hI, hS, hO, h108, h109⟩
  replace hm := hm x_110 hI
  clear hI hm0
  refine rP T hS ⟨[(0, Sl a1 c_ c1), (1, I vars), (19, Sl a1 c_ c1), (20, I (lN c_)), (21, I x_110), (22, B (decide (x_110 < (lN c_))))], []⟩ fun a hS => ?_
  refine wseq ?_
  refine wcond hS (b := decide (x_110 < (lN c_))) kr (fun hb => ?_) (fun hb => ?_)
  ·replace hm := hm.1 hb
   refine wskip (wseq ?_)
   refine wblock ?_
   refine regO ?_
   obtain ⟨hq, hm⟩ := hm
   refine op1 (index (e := 3) (k := .i64) T hS kr kr kr kr h109 kr kr hq.1 hq.2 ?_)
   intro A111 a h112 hS
   refine op1 (load1 T hS kr kr kr h112 rfl kr ?_)
   intro v113 a hv hS
   cases hv
   refine eP T hS ⟨[(0, Sl a1 c_ c1), (1, I vars), (6, I (gi c_ x_110)), (19, Sl a1 c_ c1), (20, I (lN c_)), (21, I x_110)], []⟩ fun a hS => ?_
   refine regO ?_
   refine oP T hS 2 ⟨[(0, Sl a1 c_ c1), (1, I vars), (19, Sl a1 c_ c1), (20, I (lN c_)), (21, I x_110), (25, I (gi c_ x_110)), (26, I vars)], []⟩ fun a hS => ?_
   refine op1 (call hS kr kr hb91 kr (fun _ _ => rfl) (k91 _ _ (gi c_ x_110) vars) ?_)
   intro v114 a w115 χ116 hE hp hS
   replace hO := hO.mv hE rfl rfl
   replace h108 := h108.mv hE rfl
   replace h109 := h109.mv hE rfl
   obtain ⟨r117, hr⟩ : ∃ r, lit_Check (gi c_ x_110) vars = r := ⟨_, rfl⟩
   replace hm := hm r117 hr
   rw [hr] at hp
   clear hr
   subst hp
   refine eP T hS ⟨[(0, Sl a1 c_ c1), (1, I vars), (7, I r117), (19, Sl a1 c_ c1), (20, I (lN c_)), (21, I x_110)], []⟩ fun a hS => ?_
   refine rP T hS ⟨[(0, Sl a1 c_ c1), (1, I vars), (7, I r117), (19, Sl a1 c_ c1), (20, I (lN c_)), (21, I x_110), (29, B (r117 != 0))], []⟩ fun a hS => ?_
   refine wcond hS (b := (r117 != 0)) kr (fun hb => ?_) (fun hb => ?_)
   ·replace hm := hm.1 hb
    refine rP T hS ⟨[(4, I r117)], []⟩ fun a hS => ?_
    refine wret ?_
    exact fin T hS hO (fun c => c) rfl (r := [.int .i64 r117]) kr (fun χ' hM hC => ⟨r117, hm, rfl⟩)
   replace hm := hm.2 hb
   refine wskip ?_
   refine region (eP T hS ⟨[(0, Sl a1 c_ c1), (1, I vars), (19, Sl a1 c_ c1), (20, I (lN c_)), (21, I (wR (x_110 + 1)))], []⟩ fun a hS => ?_)
   exact ⟨wR (x_110 + 1), ⟨ρ, _, hm.1, hS.sl _, hO, h108, h109⟩, hm.2⟩
  replace hm := hm.2 hb
  refine wexit (by rfl) ?_
  exact ⟨ρ, _, hm, hS.sl _, hO, h108⟩
 rintro a w121 ⟨ρ, χ120, hm, hS, hO, h101⟩
 unfold VC80_J1 at hm
 refine wseq ?_
 refine regO ?_
 refine oP T hS 1 ⟨[(0, Sl a1 c_ c1), (32, Sl a1 c_ c1)], []⟩ fun a hS => ?_
 obtain ⟨hq, hm⟩ := hm
 refine op1 (call hS kr kr hb92 kr (fun _ _ => rfl) (k92 _ _ c_ a1 c1 2107 hq h101) ?_)
 intro v102 a w103 χ104 hE hp hS
 replace hO := hO.mv hE rfl rfl
 replace h101 := h101.mv hE rfl
 obtain ⟨r107, hp, h106⟩ := hp
 obtain ⟨r105, hr⟩ : ∃ r, clause_seen c_ = r := ⟨_, rfl⟩
 replace hm := hm r105 hr
 rw [hr] at h106
 clear hr
 subst hp
 refine op1 (mlen hS kr kr kr Tryz.underlying111 h106 ?_)
 intro a hS
 refine eP T hS ⟨[(37, B (decide ((lN r105) < (lN c_))))], []⟩ fun a hS => ?_
 refine wcond hS (b := decide ((lN r105) < (lN c_))) kr (fun hb => ?_) (fun hb => ?_)
 ·replace hm := hm.1 hb
  refine rP T hS ⟨[(4, I 21)], []⟩ fun a hS => ?_
  refine wret ?_
  exact fin T hS hO (fun c => c) rfl (r := [.int .i64 21]) kr (fun χ' hM hC => ⟨21, hm, rfl⟩)
 replace hm := hm.2 hb
 refine wskip ?_
 refine rP T hS ⟨[(4, I 0)], []⟩ fun a hS => ?_
 refine wret ?_
 exact fin T hS hO (fun c => c) rfl (r := [.int .i64 0]) kr (fun χ' hM hC => ⟨0, hm, rfl⟩)
theorem C80 (k91 : S91) (k92 : S92) (v : ∀ (c_ : List Int) (vars : Int), VC80 c_ vars (fun r => r = clause_Check c_ vars)) : S80 := by
 intro w χ c_ vars a1 c1   h1
 refine (W80 k91 k92 w χ c_ vars a1 c1   _ (v c_ vars) h1).mono ?_
 rintro _ _ _ _ ⟨r, rfl, h⟩
 exact h
theorem W93 (w0 : World) (χ0 : Nat → Nat) (n_ : Int) (cap1 : Int) (b1 : Nat) (i1 : Nat) (Q : Bool → Prop) (hm : VC93 n_ cap1 Q) (hc1 : Cell w0 χ0 b1 i1 3 [.int .i64 cap1]) (hA : Apart [i1]) :
  Ret Tryz.prog 93 #[.int .i64 n_, .pointer (some ⟨b1, 0, none⟩)] (pR [i1]) w0 χ0 (fun w χ' v => ∃ r, Q r ∧ v = .bool r ∧ Cell w χ' b1 i1 3 [.int .i64 cap1]) := by
 unfold VC93 at hm
 refine enterR Tryz.func93 rfl (f0of [(i1, 901)]) (fun id => (bif Nat.beq id 901 then b1 else 0)) (args := [I n_, Pt 901 0]) (bxs := [(901, (3, [I cap1]))]) kr rfl (BoxesOK.cons kr (hc1.map (f0of_at 0 hA.1 rfl)) BoxesOK.nil) (f0of_0 (fun q hq => (hA.2 q.1 (List.mem_map.2 ⟨q, hq, rfl⟩)).1)) ?_
 intro a hS hO hM
 have hP : Pin [(901, b1)] (fun id => (bif Nat.beq id 901 then b1 else 0)) := by intro q hq; simp at hq; rcases hq with rfl <;> rfl
 generalize (fun id => (bif Nat.beq id 901 then b1 else 0)) = ρ at hS hP
 clear hc1
 clear hM
 refine rP T hS ⟨[(0, I n_), (1, Pt 901 0)], [(901, (3, [I cap1]))]⟩ fun a hS => ?_
 refine rP T hS ⟨[(3, B (((decide (n_ < cap1)) || (decide (n_ > 10000000))) || (n_ == 0)))], [(901, (3, [I cap1]))]⟩ (sp := [7, 11]) fun a hS => ?_
 refine wret ?_
 exact finR T hS hO (fun c h => f0of_zero kr h) (fun c h => f0of_else (l := [(i1, 901)]) h) (f1of [(i1, 901)]) rfl (r := [.bool (((decide (n_ < cap1)) || (decide (n_ > 10000000))) || (n_ == 0))]) kr (fun χ' hM hC => ⟨(((decide (n_ < cap1)) || (decide (n_ > 10000000))) || (n_ == 0)), hm, rfl, ((hS.cell (id := 901) (t := 3) (cs := [I cap1]) kr).out (f := (f1of [(i1, 901)])) hC kr kr (hP.at 0 rfl))⟩)
theorem C93 (v : ∀ (n_ : Int) (cap1 : Int), VC93 n_ cap1 (fun r => r = proof_within_1 n_ cap1)) : S93 := by
 intro w χ n_ cap1   b1 i1 hc1 hA
 refine (W93 w χ n_ cap1   b1 i1 _ (v n_ cap1) hc1 hA).mono ?_
 rintro _ _ _ _ ⟨r, rfl, h⟩
 exact h
theorem W105_93 (k93 : S93) (w0 : World) (χ0 : Nat → Nat) (s_ : List Int) (cap1 : Int) (a1 : Option Addr) (c1 : Nat) (b1 : Nat) (i1 : Nat) (Q : Int → Prop) (hm : VC105_93 s_ cap1 Q) (h1 : RS tI w0 χ0 a1 s_ c1) (hc1 : Cell w0 χ0 b1 i1 3 [.int .i64 cap1]) (hA : Apart [i1]) :
  Ret Tryz.prog 105 #[.slice a1 s_.length c1, .func (.func 93) #[] #[.pointer (some ⟨b1, 0, none⟩)]] (pR [i1]) w0 χ0 (fun w χ' v => ∃ r, Q r ∧ v = .int .i64 r ∧ Cell w χ' b1 i1 3 [.int .i64 cap1]) := by
 unfold VC105_93 at hm
 replace hm := hm (h1.sm kr)
 refine enterR Tryz.func105 rfl (f0of [(i1, 901)]) (fun id => (bif Nat.beq id 901 then b1 else 0)) (args := [Sl a1 s_ c1, .f (.func 93) [] [.p 901 0]]) (bxs := [(901, (3, [I cap1]))]) kr rfl (BoxesOK.cons kr (hc1.map (f0of_at 0 hA.1 rfl)) BoxesOK.nil) (f0of_0 (fun q hq => (hA.2 q.1 (List.mem_map.2 ⟨q, hq, rfl⟩)).1)) ?_
 intro a hS hO hM
 have hP : Pin [(901, b1)] (fun id => (bif Nat.beq id 901 then b1 else 0)) := by intro q hq; simp at hq; rcases hq with rfl <;> rfl
 generalize (fun id => (bif Nat.beq id 901 then b1 else 0)) = ρ at hS hP
 clear hc1
 replace h1 := h1.m0 hM
 clear hM
 refine rP T hS ⟨[(0, Sl a1 s_ c1), (1, .f (.func 93) [] [.p 901 0])], [(901, (3, [I cap1]))]⟩ fun a hS => ?_
 refine wcut (fun a w => ∃ (ρ : Nat → Nat) (χ : Nat → Nat), VC105_93_J1 Q ∧ St Tryz.f105.ntmps ⟨[], [(901, (3, [I cap1]))]⟩ ρ a w χ ∧ OldR (f0of [(i1, 901)]) w0 χ0 w χ ∧ Pin [(901, b1)] ρ) ?_ ?_
 ·refine rP T hS ⟨[(0, Sl a1 s_ c1), (1, .f (.func 93) [] [.p 901 0]), (7, I (lN s_)), (8, I 0)], [(901, (3, [I cap1]))]⟩ fun a hS => ?_
  refine wblock ?_
  obtain ⟨I1, μ1, hm0, hm⟩ := hm
  refine wloop (σ := Int) (fun s a w => ∃ (ρ : Nat → Nat) (χ : Nat → Nat), I1 s ∧ St Tryz.f105.ntmps ⟨[(0, Sl a1 s_ c1), (1, .f (.func 93) [] [.p 901 0]), (7, I (lN s_)), (8, I s)], [(901, (3, [I cap1]))]⟩ ρ a w χ ∧ OldR (f0of [(i1, 901)]) w0 χ0 w χ ∧ Pin [(901, b1)] ρ ∧ RS tI w χ a1 s_ c1) (fun s => μ1 s) (0) ?_ ?_
  ·exact ⟨ρ, _, hm0, hS.sl _, hO, hP, h1⟩
  rintro x_102 a w112 ⟨ρ, χ111, hI, hS, hO, hP, h101⟩
  replace hm := hm x_102 hI
  clear hI hm0
  refine rP T hS ⟨[(0, Sl a1 s_ c1), (1, .f (.func 93) [] [.p 901 0]), (7, I (lN s_)), (8, I x_102), (9, B (decide (x_102 < (lN s_))))], [(901, (3, [I cap1]))]⟩ fun a hS => ?_
  refine wseq ?_
  refine wcond hS (b := decide (x_102 < (lN s_))) kr (fun hb => ?_) (fun hb => ?_)
  ·replace hm := hm.1 hb
   refine wskip (wseq ?_)
   refine wblock ?_
   refine rP T hS ⟨[(0, Sl a1 s_ c1), (1, .f (.func 93) [] [.p 901 0]), (5, I x_102), (7, I (lN s_)), (8, I x_102)], [(901, (3, [I cap1]))]⟩ fun a hS => ?_
   refine regO ?_
   refine oP T hS 3 ⟨[(0, Sl a1 s_ c1), (1, .f (.func 93) [] [.p 901 0]), (5, I x_102), (7, I (lN s_)), (8, I x_102), (11, .f (.func 93) [] [.p 901 0]), (12, Sl a1 s_ c1), (13, I x_102)], [(901, (3, [I cap1]))]⟩ fun a hS => ?_
   obtain ⟨hq, hm⟩ := hm
   refine op1 (index (e := 3) (k := .i64) T hS kr kr kr kr h101 kr kr hq.1 hq.2 ?_)
   intro A103 a h104 hS
   refine op1 (load1 T hS kr kr kr h104 rfl kr ?_)
   intro v105 a hv hS
   cases hv
   refine op1 (callCR (fi := []) (cp := [.p 901 0]) hS kr kr hb93 kr kr (k93 _ _ (gi s_ x_102) cap1 (ρ 901) 901 (hS.cell (id := 901) (t := 3) (cs := [I cap1]) kr) ⟨by decide, by decide⟩) ?_)
   intro v106 a w107 χ108 hE hp hS
   replace hO := hO.mv hE rfl rfl
   replace h101 := h101.mv hE rfl
   replace h104 := h104.mv hE rfl
   obtain ⟨hp, hc110⟩ := hp
   obtain ⟨r109, hr⟩ : ∃ r, proof_within_1 (gi s_ x_102) cap1 = r := ⟨_, rfl⟩
   replace hm := hm r109 hr
   rw [hr] at hp
   clear hr
   subst hp
   replace hS := hS.addbox (id := 901) (t := 3) (cs := [I cap1]) kr hc110
   clear hc110
   refine doneK ?_
   refine wcond hS (b := r109) kr (fun hb => ?_) (fun hb => ?_)
   ·replace hm := hm.1 hb
    refine rP T hS ⟨[(4, I x_102)], [(901, (3, [I cap1]))]⟩ fun a hS => ?_
    refine wret ?_
    exact finR T hS hO (fun c h => f0of_zero kr h) (fun c h => f0of_else (l := [(i1, 901)]) h) (f1of [(i1, 901)]) rfl (r := [.int .i64 x_102]) kr (fun χ' hM hC => ⟨x_102, hm, rfl, ((hS.cell (id := 901) (t := 3) (cs := [I cap1]) kr).out (f := (f1of [(i1, 901)])) hC kr kr (hP.at 0 rfl))⟩)
   replace hm := hm.2 hb
   refine wskip ?_
   refine region (eP T hS ⟨[(0, Sl a1 s_ c1), (1, .f (.func 93) [] [.p 901 0]), (7, I (lN s_)), (8, I (wR (x_102 + 1)))], [(901, (3, [I cap1]))]⟩ fun a hS => ?_)
   exact ⟨wR (x_102 + 1), ⟨ρ, _, hm.1, hS.sl _, hO, hP, h101⟩, hm.2⟩
  replace hm := hm.2 hb
  refine wexit (by rfl) ?_
  exact ⟨ρ, _, hm, hS.sl _, hO, hP⟩
 rintro a w114 ⟨ρ, χ113, hm, hS, hO, hP⟩
 unfold VC105_93_J1 at hm
 refine rP T hS ⟨[(4, I (-1))], [(901, (3, [I cap1]))]⟩ fun a hS => ?_
 refine wret ?_
 exact finR T hS hO (fun c h => f0of_zero kr h) (fun c h => f0of_else (l := [(i1, 901)]) h) (f1of [(i1, 901)]) rfl (r := [.int .i64 (-1)]) kr (fun χ' hM hC => ⟨(-1), hm, rfl, ((hS.cell (id := 901) (t := 3) (cs := [I cap1]) kr).out (f := (f1of [(i1, 901)])) hC kr kr (hP.at 0 rfl))⟩)
theorem C105_93 (k93 : S93) (v : ∀ (s_ : List Int) (cap1 : Int), VC105_93 s_ cap1 (fun r => r = slices_IndexFunc_int_int_proof_within_1 s_ cap1)) : S105_93 := by
 intro w χ s_ cap1 a1 c1  b1 i1 h1 hc1 hA
 refine (W105_93 k93 w χ s_ cap1 a1 c1  b1 i1 _ (v s_ cap1) h1 hc1 hA).mono ?_
 rintro _ _ _ _ ⟨r, rfl, h⟩
 exact h
theorem W94_93 (k105_93 : S105_93) (w0 : World) (χ0 : Nat → Nat) (s_ : List Int) (cap1 : Int) (a1 : Option Addr) (c1 : Nat) (b1 : Nat) (i1 : Nat) (Q : Bool → Prop) (hm : VC94_93 s_ cap1 Q) (h1 : RS tI w0 χ0 a1 s_ c1) (hc1 : Cell w0 χ0 b1 i1 3 [.int .i64 cap1]) (hA : Apart [i1]) :
  Ret Tryz.prog 94 #[.slice a1 s_.length c1, .func (.func 93) #[] #[.pointer (some ⟨b1, 0, none⟩)]] (pR [i1]) w0 χ0 (fun w χ' v => ∃ r, Q r ∧ v = .bool r ∧ Cell w χ' b1 i1 3 [.int .i64 cap1]) := by
 unfold VC94_93 at hm
 replace hm := hm (h1.sm kr)
 refine enterR Tryz.func94 rfl (f0of [(i1, 901)]) (fun id => (bif Nat.beq id 901 then b1 else 0)) (args := [Sl a1 s_ c1, .f (.func 93) [] [.p 901 0]]) (bxs := [(901, (3, [I cap1]))]) kr rfl (BoxesOK.cons kr (hc1.map (f0of_at 0 hA.1 rfl)) BoxesOK.nil) (f0of_0 (fun q hq => (hA.2 q.1 (List.mem_map.2 ⟨q, hq, rfl⟩)).1)) ?_
 intro a hS hO hM
 have hP : Pin [(901, b1)] (fun id => (bif Nat.beq id 901 then b1 else 0)) := by intro q hq; simp at hq; rcases hq with rfl <;> rfl
 generalize (fun id => (bif Nat.beq id 901 then b1 else 0)) = ρ at hS hP
 clear hc1
 replace h1 := h1.m0 hM
 clear hM
 refine rP T hS ⟨[(0, Sl a1 s_ c1), (1, .f (.func 93) [] [.p 901 0])], [(901, (3, [I cap1]))]⟩ fun a hS => ?_
 refine regO ?_
 refine oP T hS 2 ⟨[(5, Sl a1 s_ c1), (6, .f (.func 93) [] [.p 901 0])], [(901, (3, [I cap1]))]⟩ fun a hS => ?_
 refine op1 (callR hS kr kr hb105 kr (k105_93 _ _ s_ cap1 a1 c1 (ρ 901) 901 h1 (hS.cell (id := 901) (t := 3) (cs := [I cap1]) kr) ⟨by decide, by decide⟩) ?_)
 intro v101 a w102 χ103 hE hp hS
 replace hO := hO.mv hE rfl rfl
 replace h1 := h1.mv hE rfl
 obtain ⟨hp, hc105⟩ := hp
 obtain ⟨r104, hr⟩ : ∃ r, slices_IndexFunc_int_int_proof_within_1 s_ cap1 = r := ⟨_, rfl⟩
 replace hm := hm r104 hr
 rw [hr] at hp
 clear hr
 subst hp
 replace hS := hS.addbox (id := 901) (t := 3) (cs := [I cap1]) kr hc105
 clear hc105
 refine eP T hS ⟨[(4, B (decide (r104 ≥ 0)))], [(901, (3, [I cap1]))]⟩ fun a hS => ?_
 refine wret ?_
 exact finR T hS hO (fun c h => f0of_zero kr h) (fun c h => f0of_else (l := [(i1, 901)]) h) (f1of [(i1, 901)]) rfl (r := [.bool (decide (r104 ≥ 0))]) kr (fun χ' hM hC => ⟨(decide (r104 ≥ 0)), hm, rfl, ((hS.cell (id := 901) (t := 3) (cs := [I cap1]) kr).out (f := (f1of [(i1, 901)])) hC kr kr (hP.at 0 rfl))⟩)
theorem C94_93 (k105_93 : S105_93) (v : ∀ (s_ : List Int) (cap1 : Int), VC94_93 s_ cap1 (fun r => r = slices_ContainsFunc_int_int_proof_within_1 s_ cap1)) : S94_93 := by
 intro w χ s_ cap1 a1 c1  b1 i1 h1 hc1 hA
 refine (W94_93 k105_93 w χ s_ cap1 a1 c1  b1 i1 _ (v s_ cap1) h1 hc1 hA).mono ?_
 rintro _ _ _ _ ⟨r, rfl, h⟩
 exact h
theorem W81 (k94_93 : S94_93) (w0 : World) (χ0 : Nat → Nat) (l_ : List Int) (lo : Int) (a1 : Option Addr) (c1 : Nat) (Q : Bool → Prop) (hm : VC81 l_ lo Q) (h1 : RS tI w0 χ0 a1 l_ c1) :
  Ret Tryz.prog 81 #[.slice a1 l_.length c1, .int .i64 lo] xnone w0 χ0 (fun w χ' v => ∃ r, Q r ∧ v = .bool r) := by
 unfold VC81 at hm
 replace hm := hm (h1.sm kr)
 refine enter Tryz.func81 rfl (vals := [.slice a1 l_.length c1, .int .i64 lo]) kr ?_
 intro ρ a hS hO hM
 replace h1 := h1.m0 hM
 clear hM
 refine rM T hS ⟨[(0, Sl a1 l_ c1), (3, Pt 4 0)], [(4, (3, [I lo]))]⟩ fun ρ a w106 χ107 hS hE hr => ?_
 replace hO := hO.mv hE rfl rfl
 replace h1 := h1.mv hE rfl
 clear hE hr
 refine rP T hS ⟨[(0, Sl a1 l_ c1), (5, .f (.func 93) [] [.p 4 0])], [(4, (3, [I lo]))]⟩ fun a hS => ?_
 refine regO ?_
 refine oP T hS 4 ⟨[(0, Sl a1 l_ c1), (5, .f (.func 93) [] [.p 4 0]), (10, B (decide ((lN l_) ≤ 1000)))], [(4, (3, [I lo]))]⟩ fun a hS => ?_
 rcases Bool.eq_false_or_eq_true (decide ((lN l_) ≤ 1000)) with hb | hb
 ·replace hS := hS.lit (t := 10) kr hb
  replace hm := hm.1 hb
  refine oP T hS 2 ⟨[(10, B true), (11, Sl a1 l_ c1), (12, .f (.func 93) [] [.p 4 0])], [(4, (3, [I lo]))]⟩ fun a hS => ?_
  refine op1 (callR hS kr kr hb94 kr (k94_93 _ _ l_ lo a1 c1 (ρ 4) 4 h1 (hS.cell (id := 4) (t := 3) (cs := [I lo]) kr) ⟨by decide, by decide⟩) ?_)
  intro v101 a w102 χ103 hE hp hS
  replace hO := hO.mv hE rfl rfl
  replace h1 := h1.mv hE rfl
  obtain ⟨hp, hc105⟩ := hp
  obtain ⟨r104, hr⟩ : ∃ r, slices_ContainsFunc_int_int_proof_within_1 l_ lo = r := ⟨_, rfl⟩
  replace hm := hm r104 hr
  rw [hr] at hp
  clear hr
  subst hp
  replace hS := hS.addbox (id := 4) (t := 3) (cs := [I lo]) kr hc105
  clear hc105
  refine eP T hS ⟨[(4, B (!r104))], []⟩ fun a hS => ?_
  refine wret ?_
  exact fin T hS hO (fun c => c) rfl (r := [.bool (!r104)]) kr (fun χ' hM hC => ⟨(!r104), hm, rfl⟩)
 replace hS := hS.lit (t := 10) kr hb
 replace hm := hm.2 hb
 refine eP T hS ⟨[(4, B false)], []⟩ fun a hS => ?_
 refine wret ?_
 exact fin T hS hO (fun c => c) rfl (r := [.bool false]) kr (fun χ' hM hC => ⟨false, hm, rfl⟩)
theorem C81 (k94_93 : S94_93) (v : ∀ (l_ : List Int) (lo : Int), VC81 l_ lo (fun r => r = proof_within l_ lo)) : S81 := by
 intro w χ l_ lo a1 c1   h1
 refine (W81 k94_93 w χ l_ lo a1 c1   _ (v l_ lo) h1).mono ?_
 rintro _ _ _ _ ⟨r, rfl, h⟩
 exact h
theorem W61 (k80 : S80) (k81 : S81) (w0 : World) (χ0 : Nat → Nat) (s_ : Api_Step) (a1 : Option Addr) (c1 : Nat) (a2 : Option Addr) (c2 : Nat) (Q : Bool → Prop) (hm : VC61 s_ Q) (h1 : RS tI w0 χ0 a1 s_.Lits c1) (h2 : RS tI w0 χ0 a2 s_.Hints c2) :
  Ret Tryz.prog 61 #[.agg #[.int .i64 s_.Kind, .int .i64 s_.Id, .slice a1 s_.Lits.length c1, .slice a2 s_.Hints.length c2]] xnone w0 χ0 (fun w χ' v => ∃ r, Q r ∧ v = .bool r) := by
 unfold VC61 at hm
 replace hm := hm (h1.sm kr)
 replace hm := hm (h2.sm kr)
 refine enter Tryz.func61 rfl (vals := [.agg #[.int .i64 s_.Kind, .int .i64 s_.Id, .slice a1 s_.Lits.length c1, .slice a2 s_.Hints.length c2]]) kr ?_
 intro ρ a hS hO hM
 replace h1 := h1.m0 hM
 replace h2 := h2.m0 hM
 clear hM
 refine rM T hS ⟨[(1, Pt 2 0)], [(2, (98, [I s_.Kind, I s_.Id, Sl a1 s_.Lits c1, Sl a2 s_.Hints c2]))]⟩ fun ρ a w113 χ114 hS hE hr => ?_
 replace hO := hO.mv hE rfl rfl
 replace h1 := h1.mv hE rfl
 replace h2 := h2.mv hE rfl
 clear hE hr
 refine wseq (rP T hS ⟨[(1, Pt 2 0), (4, I s_.Kind)], [(2, (98, [I s_.Kind, I s_.Id, Sl a1 s_.Lits c1, Sl a2 s_.Hints c2]))]⟩ fun a hS => ?_)
 refine wblock ?_
 refine rP T hS ⟨[(1, Pt 2 0), (4, I s_.Kind), (5, B (s_.Kind == 1))], [(2, (98, [I s_.Kind, I s_.Id, Sl a1 s_.Lits c1, Sl a2 s_.Hints c2]))]⟩ fun a hS => ?_
 refine wcond hS (b := (s_.Kind == 1)) kr (fun hb => ?_) (fun hb => ?_)
 ·replace hm := hm.1 hb
  refine regO ?_
  refine oP T hS 9 ⟨[(1, Pt 2 0), (15, B ((decide (s_.Id ≥ 1)) && (decide (s_.Id ≤ 10000000))))], [(2, (98, [I s_.Kind, I s_.Id, Sl a1 s_.Lits c1, Sl a2 s_.Hints c2]))]⟩ (sp := [10]) fun a hS => ?_
  rcases Bool.eq_false_or_eq_true ((decide (s_.Id ≥ 1)) && (decide (s_.Id ≤ 10000000))) with hb | hb
  ·replace hS := hS.lit (t := 15) kr hb
   replace hm := hm.1 hb
   refine oP T hS 2 ⟨[(1, Pt 2 0), (15, B true), (17, Sl a1 s_.Lits c1)], [(2, (98, [I s_.Kind, I s_.Id, Sl a1 s_.Lits c1, Sl a2 s_.Hints c2]))]⟩ fun a hS => ?_
   refine op1 (call hS kr kr hb80 kr (fun _ _ => rfl) (k80 _ _ s_.Lits 100000 a1 c1 h1) ?_)
   intro v101 a w102 χ103 hE hp hS
   replace hO := hO.mv hE rfl rfl
   replace h1 := h1.mv hE rfl
   replace h2 := h2.mv hE rfl
   obtain ⟨r104, hr⟩ : ∃ r, clause_Check s_.Lits 100000 = r := ⟨_, rfl⟩
   replace hm := hm r104 hr
   rw [hr] at hp
   clear hr
   subst hp
   refine oP T hS 3 ⟨[(1, Pt 2 0), (21, B (r104 == 0))], [(2, (98, [I s_.Kind, I s_.Id, Sl a1 s_.Lits c1, Sl a2 s_.Hints c2]))]⟩ fun a hS => ?_
   rcases Bool.eq_false_or_eq_true (r104 == 0) with hb | hb
   ·replace hS := hS.lit (t := 21) kr hb
    replace hm := hm.1 hb
    refine oP T hS 2 ⟨[(21, B true), (23, Sl a2 s_.Hints c2)], []⟩ fun a hS => ?_
    refine op1 (call hS kr kr hb81 kr (fun _ _ => rfl) (k81 _ _ s_.Hints (-10000000) a2 c2 h2) ?_)
    intro v105 a w106 χ107 hE hp hS
    replace hO := hO.mv hE rfl rfl
    replace h2 := h2.mv hE rfl
    obtain ⟨r108, hr⟩ : ∃ r, proof_within s_.Hints (-10000000) = r := ⟨_, rfl⟩
    replace hm := hm r108 hr
    rw [hr] at hp
    clear hr
    subst hp
    refine eP T hS ⟨[(2, B r108)], []⟩ fun a hS => ?_
    refine wret ?_
    exact fin T hS hO (fun c => c) rfl (r := [.bool r108]) kr (fun χ' hM hC => ⟨r108, hm, rfl⟩)
   replace hS := hS.lit (t := 21) kr hb
   replace hm := hm.2 hb
   refine eP T hS ⟨[(2, B false)], []⟩ fun a hS => ?_
   refine wret ?_
   exact fin T hS hO (fun c => c) rfl (r := [.bool false]) kr (fun χ' hM hC => ⟨false, hm, rfl⟩)
  replace hS := hS.lit (t := 15) kr hb
  replace hm := hm.2 hb
  refine eP T hS ⟨[(2, B false)], []⟩ fun a hS => ?_
  refine wret ?_
  exact fin T hS hO (fun c => c) rfl (r := [.bool false]) kr (fun χ' hM hC => ⟨false, hm, rfl⟩)
 replace hm := hm.2 hb
 refine rP T hS ⟨[(1, Pt 2 0), (26, B (s_.Kind == 2))], [(2, (98, [I s_.Kind, I s_.Id, Sl a1 s_.Lits c1, Sl a2 s_.Hints c2]))]⟩ fun a hS => ?_
 refine wcond hS (b := (s_.Kind == 2)) kr (fun hb => ?_) (fun hb => ?_)
 ·replace hm := hm.1 hb
  refine regO ?_
  refine oP T hS 15 ⟨[(1, Pt 2 0), (42, B (((decide (s_.Id ≥ 0)) && (decide (s_.Id ≤ 10000000))) && ((lN s_.Lits) == 0)))], [(2, (98, [I s_.Kind, I s_.Id, Sl a1 s_.Lits c1, Sl a2 s_.Hints c2]))]⟩ (sp := [31, 36]) fun a hS => ?_
  rcases Bool.eq_false_or_eq_true (((decide (s_.Id ≥ 0)) && (decide (s_.Id ≤ 10000000))) && ((lN s_.Lits) == 0)) with hb | hb
  ·replace hS := hS.lit (t := 42) kr hb
   replace hm := hm.1 hb
   refine oP T hS 2 ⟨[(42, B true), (44, Sl a2 s_.Hints c2)], []⟩ fun a hS => ?_
   refine op1 (call hS kr kr hb81 kr (fun _ _ => rfl) (k81 _ _ s_.Hints 1 a2 c2 h2) ?_)
   intro v109 a w110 χ111 hE hp hS
   replace hO := hO.mv hE rfl rfl
   replace h2 := h2.mv hE rfl
   obtain ⟨r112, hr⟩ : ∃ r, proof_within s_.Hints 1 = r := ⟨_, rfl⟩
   replace hm := hm r112 hr
   rw [hr] at hp
   clear hr
   subst hp
   refine eP T hS ⟨[(2, B r112)], []⟩ fun a hS => ?_
   refine wret ?_
   exact fin T hS hO (fun c => c) rfl (r := [.bool r112]) kr (fun χ' hM hC => ⟨r112, hm, rfl⟩)
  replace hS := hS.lit (t := 42) kr hb
  replace hm := hm.2 hb
  refine eP T hS ⟨[(2, B false)], []⟩ fun a hS => ?_
  refine wret ?_
  exact fin T hS hO (fun c => c) rfl (r := [.bool false]) kr (fun χ' hM hC => ⟨false, hm, rfl⟩)
 replace hm := hm.2 hb
 refine wskip ?_
 refine rP T hS ⟨[(2, B false)], []⟩ fun a hS => ?_
 refine wret ?_
 exact fin T hS hO (fun c => c) rfl (r := [.bool false]) kr (fun χ' hM hC => ⟨false, hm, rfl⟩)
theorem C61 (k80 : S80) (k81 : S81) (v : ∀ (s_ : Api_Step), VC61 s_ (fun r => r = proof_may s_)) : S61 := by
 intro w χ s_ a1 c1 a2 c2   h1 h2
 refine (W61 k80 k81 w χ s_ a1 c1 a2 c2   _ (v s_) h1 h2).mono ?_
 rintro _ _ _ _ ⟨r, rfl, h⟩
 exact h
theorem W60 (k61 : S61) (w0 : World) (χ0 : Nat → Nat) (s_ : Api_Step) (a1 : Option Addr) (c1 : Nat) (a2 : Option Addr) (c2 : Nat) (Q : Bool → Prop) (hm : VC60 s_ Q) (h1 : RS tI w0 χ0 a1 s_.Lits c1) (h2 : RS tI w0 χ0 a2 s_.Hints c2) :
  Ret Tryz.prog 60 #[.agg #[.int .i64 s_.Kind, .int .i64 s_.Id, .slice a1 s_.Lits.length c1, .slice a2 s_.Hints.length c2]] xnone w0 χ0 (fun w χ' v => ∃ r, Q r ∧ v = .bool r) := by
 unfold VC60 at hm
 replace hm := hm (h1.sm kr)
 replace hm := hm (h2.sm kr)
 refine enter Tryz.func60 rfl (vals := [.agg #[.int .i64 s_.Kind, .int .i64 s_.Id, .slice a1 s_.Lits.length c1, .slice a2 s_.Hints.length c2]]) kr ?_
 intro ρ a hS hO hM
 replace h1 := h1.m0 hM
 replace h2 := h2.m0 hM
 clear hM
 refine rM T hS ⟨[(1, Pt 2 0)], [(2, (98, [I s_.Kind, I s_.Id, Sl a1 s_.Lits c1, Sl a2 s_.Hints c2]))]⟩ fun ρ a w105 χ106 hS hE hr => ?_
 replace hO := hO.mv hE rfl rfl
 replace h1 := h1.mv hE rfl
 replace h2 := h2.mv hE rfl
 clear hE hr
 refine regO ?_
 refine oP T hS 1 ⟨[(3, V (.agg #[.int .i64 s_.Kind, .int .i64 s_.Id, .slice a1 s_.Lits.length c1, .slice a2 s_.Hints.length c2]))], []⟩ fun a hS => ?_
 refine op1 (call hS kr kr hb61 kr (fun _ _ => rfl) (k61 _ _ s_ a1 c1 a2 c2 h1 h2) ?_)
 intro v101 a w102 χ103 hE hp hS
 replace hO := hO.mv hE rfl rfl
 replace h1 := h1.mv hE rfl
 replace h2 := h2.mv hE rfl
 obtain ⟨r104, hr⟩ : ∃ r, proof_may s_ = r := ⟨_, rfl⟩
 replace hm := hm r104 hr
 rw [hr] at hp
 clear hr
 subst hp
 refine eP T hS ⟨[(2, B (!r104))], []⟩ fun a hS => ?_
 refine wret ?_
 exact fin T hS hO (fun c => c) rfl (r := [.bool (!r104)]) kr (fun χ' hM hC => ⟨(!r104), hm, rfl⟩)
theorem C60 (k61 : S61) (v : ∀ (s_ : Api_Step), VC60 s_ (fun r => r = proof_Check_1 s_)) : S60 := by
 intro w χ s_ a1 c1 a2 c2   h1 h2
 refine (W60 k61 w χ s_ a1 c1 a2 c2   _ (v s_) h1 h2).mono ?_
 rintro _ _ _ _ ⟨r, rfl, h⟩
 exact h
theorem W59_60 (k60 : S60) (w0 : World) (χ0 : Nat → Nat) (s_ : List Api_Step) (a1 : Option Addr) (c1 : Nat) (Q : Int → Prop) (hm : VC59_60 s_ Q) (h1 : RS tApi_Step w0 χ0 a1 s_ c1) (hA : Apart []) :
  Ret Tryz.prog 59 #[.slice a1 s_.length c1, .func (.func 60) #[] #[]] (pR []) w0 χ0 (fun w χ' v => ∃ r, Q r ∧ v = .int .i64 r) := by
 unfold VC59_60 at hm
 replace hm := hm (h1.sm kr)
 refine enterR Tryz.func59 rfl (f0of []) (fun id => 0) (args := [Sl a1 s_ c1, .f (.func 60) [] []]) (bxs := []) kr rfl BoxesOK.nil (f0of_0 (fun q hq => (hA.2 q.1 (List.mem_map.2 ⟨q, hq, rfl⟩)).1)) ?_
 intro a hS hO hM
 generalize (fun id : Nat => 0) = ρ at hS
 replace h1 := h1.m0 hM
 clear hM
 refine rP T hS ⟨[(0, Sl a1 s_ c1), (1, .f (.func 60) [] [])], []⟩ fun a hS => ?_
 refine wcut (fun a w => ∃ (ρ : Nat → Nat) (χ : Nat → Nat), VC59_60_J1 Q ∧ St Tryz.f59.ntmps ⟨[], []⟩ ρ a w χ ∧ OldR (f0of []) w0 χ0 w χ) ?_ ?_
 ·refine rP T hS ⟨[(0, Sl a1 s_ c1), (1, .f (.func 60) [] []), (7, I (lN s_)), (8, I 0)], []⟩ fun a hS => ?_
  refine wblock ?_
  obtain ⟨I1, μ1, hm0, hm⟩ := hm
  refine wloop (σ := Int) (fun s a w => ∃ (ρ : Nat → Nat) (χ : Nat → Nat), I1 s ∧ St Tryz.f59.ntmps ⟨[(0, Sl a1 s_ c1), (1, .f (.func 60) [] []), (7, I (lN s_)), (8, I s)], []⟩ ρ a w χ ∧ OldR (f0of []) w0 χ0 w χ ∧ RS tApi_Step w χ a1 s_ c1) (fun s => μ1 s) (0) ?_ ?_
  ·exact ⟨ρ, _, hm0, hS.sl _, hO, h1⟩
  rintro x_102 a w117 ⟨ρ, χ116, hI, hS, hO, h101⟩
  replace hm := hm x_102 hI
  clear hI hm0
  refine rP T hS ⟨[(0, Sl a1 s_ c1), (1, .f (.func 60) [] []), (7, I (lN s_)), (8, I x_102), (9, B (decide (x_102 < (lN s_))))], []⟩ fun a hS => ?_
  refine wseq ?_
  refine wcond hS (b := decide (x_102 < (lN s_))) kr (fun hb => ?_) (fun hb => ?_)
  ·replace hm := hm.1 hb
   refine wskip (wseq ?_)
   refine wblock ?_
   refine rP T hS ⟨[(0, Sl a1 s_ c1), (1, .f (.func 60) [] []), (5, I x_102), (7, I (lN s_)), (8, I x_102)], []⟩ fun a hS => ?_
   refine regO ?_
   refine oP T hS 3 ⟨[(0, Sl a1 s_ c1), (1, .f (.func 60) [] []), (5, I x_102), (7, I (lN s_)), (8, I x_102), (11, .f (.func 60) [] []), (12, Sl a1 s_ c1), (13, I x_102)], []⟩ fun a hS => ?_
   obtain ⟨hq, hm⟩ := hm
   refine op1 (index (e := 98) (k := .i64) T hS kr kr kr kr h101 kr kr hq.1 hq.2 ?_)
   intro A103 a h104 hS
   refine op1 (loadA T hS kr kr kr h104 kr kr ?_)
   intro v105 a hv hS
   obtain ⟨a106, c107, a109, c110, hv, h108, h111⟩ := hv
   subst hv
   replace hm := hm (h108.sm kr)
   replace hm := hm (h111.sm kr)
   refine op1 (callC (fi := []) (cp := []) hS kr kr hb60 kr kr (fun _ _ => rfl) (k60 _ _ (gi s_ x_102) a106 c107 a109 c110 h108 h111) ?_)
   intro v112 a w113 χ114 hE hp hS
   replace hO := hO.mv hE rfl rfl
   replace h101 := h101.mv hE rfl
   replace h104 := h104.mv hE rfl
   replace h108 := h108.mv hE rfl
   replace h111 := h111.mv hE rfl
   obtain ⟨r115, hr⟩ : ∃ r, proof_Check_1 (gi s_ x_102) = r := ⟨_, rfl⟩
   replace hm := hm r115 hr
   rw [hr] at hp
   clear hr
   subst hp
   refine doneK ?_
   refine wcond hS (b := r115) kr (fun hb => ?_) (fun hb => ?_)
   ·replace hm := hm.1 hb
    refine rP T hS ⟨[(4, I x_102)], []⟩ fun a hS => ?_
    refine wret ?_
    exact finR T hS hO (fun c h => f0of_zero kr h) (fun c h => f0of_else (l := []) h) (f1of []) rfl (r := [.int .i64 x_102]) kr (fun χ' hM hC => ⟨x_102, hm, rfl⟩)
   replace hm := hm.2 hb
   refine wskip ?_
   refine region (eP T hS ⟨[(0, Sl a1 s_ c1), (1, .f (.func 60) [] []), (7, I (lN s_)), (8, I (wR (x_102 + 1)))], []⟩ fun a hS => ?_)
   exact ⟨wR (x_102 + 1), ⟨ρ, _, hm.1, hS.sl _, hO, h101⟩, hm.2⟩
  replace hm := hm.2 hb
  refine wexit (by rfl) ?_
  exact ⟨ρ, _, hm, hS.sl _, hO⟩
 rintro a w119 ⟨ρ, χ118, hm, hS, hO⟩
 unfold VC59_60_J1 at hm
 refine rP T hS ⟨[(4, I (-1))], []⟩ fun a hS => ?_
 refine wret ?_
 exact finR T hS hO (fun c h => f0of_zero kr h) (fun c h => f0of_else (l := []) h) (f1of []) rfl (r := [.int .i64 (-1)]) kr (fun χ' hM hC => ⟨(-1), hm, rfl⟩)
theorem C59_60 (k60 : S60) (v : ∀ (s_ : List Api_Step), VC59_60 s_ (fun r => r = slices_IndexFunc_api_Step_api_Step_proof_Check_1 s_)) : S59_60 := by
 intro w χ s_ a1 c1   h1 hA
 refine (W59_60 k60 w χ s_ a1 c1   _ (v s_) h1 hA).mono ?_
 rintro _ _ _ _ ⟨r, rfl, h⟩
 exact h
theorem W36 (k59_60 : S59_60) (w0 : World) (χ0 : Nat → Nat) (l_ : List Api_Step) (a1 : Option Addr) (c1 : Nat) (Q : Int × Int → Prop) (hm : VC36 l_ Q) (h1 : RS tApi_Step w0 χ0 a1 l_ c1) :
  Ret Tryz.prog 36 #[.slice a1 l_.length c1] xnone w0 χ0 (fun w χ' v => ∃ r, Q r ∧ v = .tuple #[.int .i64 r.1, .int .i64 r.2]) := by
 unfold VC36 at hm
 replace hm := hm (h1.sm kr)
 refine enter Tryz.func36 rfl (vals := [.slice a1 l_.length c1]) kr ?_
 intro ρ a hS hO hM
 replace h1 := h1.m0 hM
 clear hM
 refine rP T hS ⟨[(0, Sl a1 l_ c1)], []⟩ fun a hS => ?_
 refine wseq (rP T hS ⟨[(0, Sl a1 l_ c1), (7, B (decide ((lN l_) > 1000000)))], []⟩ fun a hS => ?_)
 refine wcond hS (b := decide ((lN l_) > 1000000)) kr (fun hb => ?_) (fun hb => ?_)
 ·replace hm := hm.1 hb
  refine rP T hS ⟨[(2, I 0), (3, I 3)], []⟩ fun a hS => ?_
  refine wret ?_
  exact fin T hS hO (fun c => c) rfl (r := [.int .i64 0, .int .i64 3]) kr (fun χ' hM hC => ⟨(0, 3), hm, rfl⟩)
 replace hm := hm.2 hb
 refine wskip (wseq ?_)
 refine regO ?_
 refine oP T hS 1 ⟨[(0, Sl a1 l_ c1), (8, Sl a1 l_ c1)], []⟩ fun a hS => ?_
 refine op1 (callR hS kr kr hb59 kr (k59_60 _ _ l_ a1 c1 h1 ⟨by decide, by decide⟩) ?_)
 intro v101 a w102 χ103 hE hp hS
 replace hO := hO.mv hE rfl rfl
 replace h1 := h1.mv hE rfl
 obtain ⟨r104, hr⟩ : ∃ r, slices_IndexFunc_api_Step_api_Step_proof_Check_1 l_ = r := ⟨_, rfl⟩
 replace hm := hm r104 hr
 rw [hr] at hp
 clear hr
 subst hp
 refine eP T hS ⟨[(0, Sl a1 l_ c1), (4, I r104)], []⟩ fun a hS => ?_
 refine rP T hS ⟨[(0, Sl a1 l_ c1), (4, I r104), (11, B (decide (r104 ≥ 0)))], []⟩ fun a hS => ?_
 refine wcond hS (b := decide (r104 ≥ 0)) kr (fun hb => ?_) (fun hb => ?_)
 ·replace hm := hm.1 hb
  refine rP T hS ⟨[(2, I r104), (3, I 2)], []⟩ fun a hS => ?_
  refine wret ?_
  exact fin T hS hO (fun c => c) rfl (r := [.int .i64 r104, .int .i64 2]) kr (fun χ' hM hC => ⟨(r104, 2), hm, rfl⟩)
 replace hm := hm.2 hb
 refine wskip ?_
 refine rP T hS ⟨[(2, I (lN l_)), (3, I 0)], []⟩ fun a hS => ?_
 refine wret ?_
 exact fin T hS hO (fun c => c) rfl (r := [.int .i64 (lN l_), .int .i64 0]) kr (fun χ' hM hC => ⟨((lN l_), 0), hm, rfl⟩)
theorem C36 (k59_60 : S59_60) (v : ∀ (l_ : List Api_Step), VC36 l_ (fun r => r = proof_Check l_)) : S36 := by
 intro w χ l_ a1 c1   h1
 refine (W36 k59_60 w χ l_ a1 c1   _ (v l_) h1).mono ?_
 rintro _ _ _ _ ⟨r, rfl, h⟩
 exact h
theorem W75 (w0 : World) (χ0 : Nat → Nat) (at_ : Int) (e_ : Int) (cap1 : Proof_line) (a1 : Option Addr) (c1 : Nat) (b1 : Nat) (i1 : Nat) (Q : Proof_line → Prop) (hm : VC75 at_ e_ cap1 Q) (h1 : RS tToken_Token w0 χ0 a1 cap1.rest c1) (hc1 : Cell w0 χ0 b1 i1 96 [.slice a1 cap1.rest.length c1, .int .i64 cap1.at_, .int .i64 cap1.e]) (hA : Apart [i1]) :
  Ret Tryz.prog 75 #[.pointer (some ⟨b1, 0, none⟩), .int .i64 at_, .int .i64 e_] (pR [i1]) w0 χ0 (fun w χ' v => ∃ r, Q r ∧ ∃ (ra1 : Option Addr) (rc1 : Nat), v = .tuple #[] ∧ RS tToken_Token w χ' ra1 r.rest rc1 ∧ Cell w χ' b1 i1 96 [.slice ra1 r.rest.length rc1, .int .i64 r.at_, .int .i64 r.e]) := by
 unfold VC75 at hm
 replace hm := hm (h1.sm kr)
 refine enterR Tryz.func75 rfl (f0of [(i1, 901)]) (fun id => (bif Nat.beq id 901 then b1 else 0)) (args := [Pt 901 0, I at_, I e_]) (bxs := [(901, (96, [Sl a1 cap1.rest c1, I cap1.at_, I cap1.e]))]) kr rfl (BoxesOK.cons kr (hc1.map (f0of_at 0 hA.1 rfl)) BoxesOK.nil) (f0of_0 (fun q hq => (hA.2 q.1 (List.mem_map.2 ⟨q, hq, rfl⟩)).1)) ?_
 intro a hS hO hM
 have hP : Pin [(901, b1)] (fun id => (bif Nat.beq id 901 then b1 else 0)) := by intro q hq; simp at hq; rcases hq with rfl <;> rfl
 generalize (fun id => (bif Nat.beq id 901 then b1 else 0)) = ρ at hS hP
 clear hc1
 replace h1 := h1.m0 hM
 clear hM
 refine rP T hS ⟨[(0, Pt 901 0), (1, I at_), (2, I e_), (10, B (cap1.e == 0))], [(901, (96, [Sl a1 cap1.rest c1, I cap1.at_, I cap1.e]))]⟩ fun a hS => ?_
 refine wcond hS (b := (cap1.e == 0)) kr (fun hb => ?_) (fun hb => ?_)
 ·replace hm := hm.1 hb
  refine region (eM T hS ⟨[], [(901, (96, [Sl a1 cap1.rest c1, I at_, I e_]))]⟩ fun ρ a w101 χ102 hS hE hr => ?_)
  replace hO := hO.mv hE rfl rfl
  replace h1 := h1.mv hE rfl
  replace hP := hP.mv hr kr
  clear hE hr
  exact finR T hS hO (fun c h => f0of_zero kr h) (fun c h => f0of_else (l := [(i1, 901)]) h) (f1of [(i1, 901)]) rfl (r := []) kr (fun χ' hM hC => ⟨(⟨cap1.rest, at_, e_⟩ : Proof_line), hm, a1, c1, rfl, h1.m0 hM, ((hS.cell (id := 901) (t := 96) (cs := [Sl a1 cap1.rest c1, I at_, I e_]) kr).out (f := (f1of [(i1, 901)])) hC kr kr (hP.at 0 rfl))⟩)
 replace hm := hm.2 hb
 refine wskip ?_
 exact finR T hS hO (fun c h => f0of_zero kr h) (fun c h => f0of_else (l := [(i1, 901)]) h) (f1of [(i1, 901)]) rfl (r := []) kr (fun χ' hM hC => ⟨cap1, hm, a1, c1, rfl, h1.m0 hM, ((hS.cell (id := 901) (t := 96) (cs := [Sl a1 cap1.rest c1, I cap1.at_, I cap1.e]) kr).out (f := (f1of [(i1, 901)])) hC kr kr (hP.at 0 rfl))⟩)
theorem C75 (v : ∀ (at_ : Int) (e_ : Int) (cap1 : Proof_line), VC75 at_ e_ cap1 (fun r => r = proof_line_wrong at_ e_ cap1)) : S75 := by
 intro w χ at_ e_ cap1 a1 c1  b1 i1 h1 hc1 hA
 refine (W75 w χ at_ e_ cap1 a1 c1  b1 i1 _ (v at_ e_ cap1) h1 hc1 hA).mono ?_
 rintro _ _ _ _ ⟨r, rfl, h⟩
 exact h
end Go.Proofs.YtkgcdoeldilhaaaGreatDoor
