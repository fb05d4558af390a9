/- Walks: each function returns what its condition asks. Condition: the contracts of its callees, handed in. -/
import Derived.Test.YtkgcdoeldilhaaaGreatDoorNWalksS
set_option linter.all false
namespace Go.Proofs.YtkgcdoeldilhaaaGreatDoor
open Go Go.Sv
set_option maxHeartbeats 1000000
theorem W51 (w0 : World) (χ0 : Nat → Nat) (b_ : Int) (Q : Bool → Prop) (hm : VC51 b_ Q) :
  Ret Tryz.prog 51 #[.int .u8 b_] xnone w0 χ0 (fun w χ' v => ∃ r, Q r ∧ v = .bool r) := by
 unfold VC51 at hm
 refine enter Tryz.func51 rfl (vals := [.int .u8 b_]) kr ?_
 intro ρ a hS hO hM
 clear hM
 refine rP T hS ⟨[(0, V (.int .u8 b_))], []⟩ fun a hS => ?_
 refine rP T hS ⟨[(2, B (((b_ == 32) || (b_ == 9)) || (b_ == 13)))], []⟩ (sp := [5, 9]) fun a hS => ?_
 refine wret ?_
 exact fin T hS hO (fun c => c) rfl (r := [.bool (((b_ == 32) || (b_ == 9)) || (b_ == 13))]) kr (fun χ' hM hC => ⟨(((b_ == 32) || (b_ == 9)) || (b_ == 13)), hm, rfl⟩)
theorem C51 (v : ∀ (b_ : Int), VC51 b_ (fun r => r = ref05_gap b_)) : S51 := by
 intro w χ b_    
 refine (W51 w χ b_    _ (v b_)).mono ?_
 rintro _ _ _ _ ⟨r, rfl, h⟩
 exact h
theorem W24 (k51 : S51) (w0 : World) (χ0 : Nat → Nat) (s_ : List UInt8) (Q : (List (List Ref05_Token)) → Prop) (hm : VC24 s_ Q) :
  Ret Tryz.prog 24 #[.string (bs s_)] xnone w0 χ0 (fun w χ' v => ∃ r, Q r ∧ ∃ (ra1 : Option Addr) (rc1 : Nat), v = .slice ra1 r.length rc1 ∧ RS (tSlice tRef05_Token) w χ' ra1 r rc1) := by
 unfold VC24 at hm
 refine enter Tryz.func24 rfl (vals := [.string (bs s_)]) kr ?_
 intro ρ a hS hO hM
 clear hM
 refine rP T hS ⟨[(0, Z s_)], []⟩ fun a hS => ?_
 refine rP T hS ⟨[(0, Z s_), (3, V (.slice none 0 0))], []⟩ fun a hS => ?_
 refine rP T hS ⟨[(0, Z s_), (3, V (.slice none 0 0)), (4, I 0)], []⟩ fun a hS => ?_
 refine wcut (fun a w => ∃ (ρ : Nat → Nat) (χ : Nat → Nat) (out_101 : List (List Ref05_Token)) (a102 : Option Addr) (c103 : Nat), VC24_J1 Q out_101 ∧ St Tryz.f24.ntmps ⟨[(3, Sl a102 out_101 c103)], []⟩ ρ a w χ ∧ Old w0 χ0 w χ ∧ OS (tSlice tRef05_Token) 65 w χ 1003 a102 out_101 c103) ?_ ?_
 ·refine wblock ?_
  obtain ⟨I1, μ1, hm0, hm⟩ := hm
  refine wloop (σ := (List (List Ref05_Token)) × Int) (fun s a w => ∃ (ρ : Nat → Nat) (χ : Nat → Nat) (a108 : Option Addr) (c109 : Nat), I1 s.1 s.2 ∧ St Tryz.f24.ntmps ⟨[(0, Z s_), (3, Sl a108 s.1 c109), (4, I s.2)], []⟩ ρ a w χ ∧ Old w0 χ0 w χ ∧ OS (tSlice tRef05_Token) 65 w χ 1003 a108 s.1 c109) (fun s => μ1 s.1 s.2) (⟨[], 0⟩) ?_ ?_
  ·exact ⟨ρ, _, none, 0, hm0, hS.sl _, hO, (OS.nil _ _ _ _ _)⟩
  rintro ⟨out_107, at_111⟩ a w234 ⟨ρ, χ233, a108, c109, hI, hS, hO, h110⟩
  replace hm := hm out_107 at_111 hI
  clear hI hm0
  refine wseq (rP T hS ⟨[(0, Z s_), (3, Sl a108 out_107 c109), (4, I at_111), (13, B (decide (at_111 < (lN s_))))], []⟩ fun a hS => ?_)
  refine wcond hS (b := decide (at_111 < (lN s_))) kr (fun hb => ?_) (fun hb => ?_)
  ·replace hm := hm.1 hb
   refine wskip ?_
   refine wblock ?_
   refine rP T hS ⟨[(0, Z s_), (3, Sl a108 out_107 c109), (4, I at_111), (5, I at_111)], []⟩ fun a hS => ?_
   refine wcut (fun a w => ∃ (ρ : Nat → Nat) (χ : Nat → Nat) (out_112 : List (List Ref05_Token)) (end_116 : Int) (a113 : Option Addr) (c114 : Nat), VC24_J2 s_ I1 μ1 out_107 at_111 out_112 end_116 ∧ St Tryz.f24.ntmps ⟨[(0, Z s_), (3, Sl a113 out_112 c114), (4, I at_111), (5, I end_116)], []⟩ ρ a w χ ∧ Old w0 χ0 w χ ∧ OS (tSlice tRef05_Token) 65 w χ 1003 a113 out_112 c114) ?_ ?_
   ·refine wblock ?_
    obtain ⟨I4, μ4, hm0, hm⟩ := hm
    refine wloop (σ := (List (List Ref05_Token)) × Int) (fun s a w => ∃ (ρ : Nat → Nat) (χ : Nat → Nat) (a218 : Option Addr) (c219 : Nat), I4 s.1 s.2 ∧ St Tryz.f24.ntmps ⟨[(0, Z s_), (3, Sl a218 s.1 c219), (4, I at_111), (5, I s.2)], []⟩ ρ a w χ ∧ Old w0 χ0 w χ ∧ OS (tSlice tRef05_Token) 65 w χ 1003 a218 s.1 c219) (fun s => μ4 s.1 s.2) (⟨out_107, at_111⟩) ?_ ?_
    ·exact ⟨ρ, _, a108, c109, hm0, hS.sl _, hO, h110⟩
    rintro ⟨out_217, end_221⟩ a w230 ⟨ρ, χ229, a218, c219, hI, hS, hO, h220⟩
    replace hm := hm out_217 end_221 hI
    clear hI hm0
    refine wseq ?_
    refine wcut (fun a w => ∃ (ρ : Nat → Nat) (χ : Nat → Nat) (out_222 : List (List Ref05_Token)) (x_226 : Bool) (a223 : Option Addr) (c224 : Nat), VC24_J8 s_ I1 μ1 out_107 at_111 I4 μ4 out_217 end_221 out_222 x_226 ∧ St Tryz.f24.ntmps ⟨[(0, Z s_), (3, Sl a223 out_222 c224), (4, I at_111), (5, I end_221), (24, B x_226)], []⟩ ρ a w χ ∧ Old w0 χ0 w χ ∧ OS (tSlice tRef05_Token) 65 w χ 1003 a223 out_222 c224) ?_ ?_
    ·refine region ?_
     refine oP T hS 5 ⟨[(0, Z s_), (3, Sl a218 out_217 c219), (4, I at_111), (5, I end_221), (19, B (decide (end_221 < (lN s_))))], []⟩ fun a hS => ?_
     rcases Bool.eq_false_or_eq_true (decide (end_221 < (lN s_))) with hb | hb
     ·replace hS := hS.lit (t := 19) kr hb
      replace hm := hm.1 hb
      refine oP T hS 2 ⟨[(0, Z s_), (3, Sl a218 out_217 c219), (4, I at_111), (5, I end_221), (19, B true), (20, Z s_), (21, I end_221)], []⟩ fun a hS => ?_
      obtain ⟨hq, hm⟩ := hm
      refine op1 (sindex (k := .i64) T hS kr kr kr kr kr hq.1 hq.2 ?_)
      intro a hS
      refine eP T hS ⟨[(0, Z s_), (3, Sl a218 out_217 c219), (4, I at_111), (5, I end_221), (20, Z s_), (21, I end_221), (22, V (.int .u8 ((gi s_ end_221).toNat : Int))), (23, B (((gi s_ end_221).toNat : Int) != 10)), (24, B (((gi s_ end_221).toNat : Int) != 10))], []⟩ fun a hS => ?_
      exact ⟨ρ, _, out_217, (((gi s_ end_221).toNat : Int) != 10), a218, c219, hm, hS.sl _, hO, h220⟩
     replace hS := hS.lit (t := 19) kr hb
     replace hm := hm.2 hb
     refine eP T hS ⟨[(0, Z s_), (3, Sl a218 out_217 c219), (4, I at_111), (5, I end_221), (24, B false)], []⟩ fun a hS => ?_
     exact ⟨ρ, _, out_217, false, a218, c219, hm, hS.sl _, hO, h220⟩
    rintro a w228 ⟨ρ, χ227, out_222, x_226, a223, c224, hm, hS, hO, h225⟩
    unfold VC24_J8 at hm
    refine wcond hS (b := x_226) kr (fun hb => ?_) (fun hb => ?_)
    ·replace hm := hm.1 hb
     refine wskip ?_
     refine wblock ?_
     refine region (eP T hS ⟨[(0, Z s_), (3, Sl a223 out_222 c224), (4, I at_111), (5, I (wR (end_221 + 1)))], []⟩ fun a hS => ?_)
     exact ⟨⟨out_222, wR (end_221 + 1)⟩, ⟨ρ, _, a223, c224, hm.1, hS.sl _, hO, h225⟩, hm.2⟩
    replace hm := hm.2 hb
    refine wexit (by rfl) ?_
    exact ⟨ρ, _, out_222, end_221, a223, c224, hm, hS.sl _, hO, h225⟩
   rintro a w232 ⟨ρ, χ231, out_112, end_116, a113, c114, hm, hS, hO, h115⟩
   unfold VC24_J2 at hm
   refine rP T hS ⟨[(0, Z s_), (3, Sl a113 out_112 c114), (4, I at_111), (5, I end_116), (6, V (.slice none 0 0))], []⟩ fun a hS => ?_
   refine wcut (fun a w => ∃ (ρ : Nat → Nat) (χ : Nat → Nat) (out_117 : List (List Ref05_Token)) (remark_121 : Bool) (a118 : Option Addr) (c119 : Nat), VC24_J3 s_ I1 μ1 out_107 at_111 end_116 out_117 remark_121 ∧ St Tryz.f24.ntmps ⟨[(0, Z s_), (3, Sl a118 out_117 c119), (4, I at_111), (5, I end_116), (6, V (.slice none 0 0)), (7, B remark_121)], []⟩ ρ a w χ ∧ Old w0 χ0 w χ ∧ OS (tSlice tRef05_Token) 65 w χ 1003 a118 out_117 c119) ?_ ?_
   ·refine region ?_
    refine oP T hS 3 ⟨[(0, Z s_), (3, Sl a113 out_112 c114), (4, I at_111), (5, I end_116), (6, V (.slice none 0 0)), (27, Z s_), (28, I at_111), (29, I end_116)], []⟩ fun a hS => ?_
    obtain ⟨hq, hm⟩ := hm
    refine op1 (sslice2 (kl := .i64) (kh := .i64) (s := s_) T hS kr kr kr kr kr kr hq.1 hq.2.1 hq.2.2 ?_)
    intro a hS
    refine oP T hS 2 ⟨[(0, Z s_), (3, Sl a113 out_112 c114), (4, I at_111), (5, I end_116), (6, V (.slice none 0 0)), (32, B (((s_.take end_116.toNat).drop at_111.toNat) == ([99] : List UInt8)))], []⟩ fun a hS => ?_
    rcases Bool.eq_false_or_eq_true (((s_.take end_116.toNat).drop at_111.toNat) == ([99] : List UInt8)) with hb | hb
    ·replace hS := hS.lit (t := 32) kr hb
     replace hm := hm.1 hb
     refine eP T hS ⟨[(0, Z s_), (3, Sl a113 out_112 c114), (4, I at_111), (5, I end_116), (6, V (.slice none 0 0)), (7, B true)], []⟩ fun a hS => ?_
     exact ⟨ρ, _, out_112, true, a113, c114, hm, hS.sl _, hO, h115⟩
    replace hS := hS.lit (t := 32) kr hb
    replace hm := hm.2 hb
    refine oP T hS 5 ⟨[(0, Z s_), (3, Sl a113 out_112 c114), (4, I at_111), (5, I end_116), (6, V (.slice none 0 0)), (32, B false), (33, I end_116), (34, I at_111), (35, I (wR (end_116 - at_111))), (36, B (decide ((wR (end_116 - at_111)) ≥ 2))), (37, B (decide ((wR (end_116 - at_111)) ≥ 2)))], []⟩ fun a hS => ?_
    rcases Bool.eq_false_or_eq_true (decide ((wR (end_116 - at_111)) ≥ 2)) with hb | hb
    ·replace hS := hS.lit (t := 37) kr hb
     replace hm := hm.1 hb
     refine oP T hS 4 ⟨[(0, Z s_), (3, Sl a113 out_112 c114), (4, I at_111), (5, I end_116), (6, V (.slice none 0 0)), (32, B false), (33, I end_116), (34, I at_111), (35, I (wR (end_116 - at_111))), (36, B (decide ((wR (end_116 - at_111)) ≥ 2))), (37, B true), (38, Z s_), (39, I at_111), (40, I at_111), (41, I (wR (at_111 + 2)))], []⟩ fun a hS => ?_
     obtain ⟨hq, hm⟩ := hm
     refine op1 (sslice2 (kl := .i64) (kh := .i64) (s := s_) T hS kr kr kr kr kr kr hq.1 hq.2.1 hq.2.2 ?_)
     intro a hS
     refine eP T hS ⟨[(0, Z s_), (3, Sl a113 out_112 c114), (4, I at_111), (5, I end_116), (6, V (.slice none 0 0)), (7, B (((s_.take (wR (at_111 + 2)).toNat).drop at_111.toNat) == ([99, 32] : List UInt8))), (33, I end_116), (34, I at_111), (35, I (wR (end_116 - at_111))), (36, B (decide ((wR (end_116 - at_111)) ≥ 2))), (37, B true), (38, Z s_), (39, I at_111), (40, I at_111), (41, I (wR (at_111 + 2))), (42, Z ((s_.take (wR (at_111 + 2)).toNat).drop at_111.toNat)), (43, B (((s_.take (wR (at_111 + 2)).toNat).drop at_111.toNat) == ([99, 32] : List UInt8))), (44, B (((s_.take (wR (at_111 + 2)).toNat).drop at_111.toNat) == ([99, 32] : List UInt8)))], []⟩ fun a hS => ?_
     exact ⟨ρ, _, out_112, (((s_.take (wR (at_111 + 2)).toNat).drop at_111.toNat) == ([99, 32] : List UInt8)), a113, c114, hm, hS.sl _, hO, h115⟩
    replace hS := hS.lit (t := 37) kr hb
    replace hm := hm.2 hb
    refine eP T hS ⟨[(0, Z s_), (3, Sl a113 out_112 c114), (4, I at_111), (5, I end_116), (6, V (.slice none 0 0)), (7, B false), (33, I end_116), (34, I at_111), (35, I (wR (end_116 - at_111))), (36, B (decide ((wR (end_116 - at_111)) ≥ 2))), (37, B false), (44, B false)], []⟩ fun a hS => ?_
    exact ⟨ρ, _, out_112, false, a113, c114, hm, hS.sl _, hO, h115⟩
   rintro a w216 ⟨ρ, χ215, out_117, remark_121, a118, c119, hm, hS, hO, h120⟩
   unfold VC24_J3 at hm
   refine wcut (fun a w => ∃ (ρ : Nat → Nat) (χ : Nat → Nat) (out_122 : List (List Ref05_Token)) (row_126 : List Ref05_Token) (a123 : Option Addr) (c124 : Nat) (a127 : Option Addr) (c128 : Nat), VC24_J4 I1 μ1 out_107 at_111 end_116 out_122 row_126 ∧ St Tryz.f24.ntmps ⟨[(0, Z s_), (3, Sl a123 out_122 c124), (5, I end_116), (6, Sl a127 row_126 c128)], []⟩ ρ a w χ ∧ Old w0 χ0 w χ ∧ OS (tSlice tRef05_Token) 65 w χ 1003 a123 out_122 c124 ∧ OS tRef05_Token 64 w χ 1007 a127 row_126 c128) ?_ ?_
   ·refine rP T hS ⟨[(0, Z s_), (3, Sl a118 out_117 c119), (5, I end_116), (6, V (.slice none 0 0)), (7, B remark_121), (8, I at_111)], []⟩ fun a hS => ?_
    refine wblock ?_
    obtain ⟨I2, μ2, hm0, hm⟩ := hm
    refine wloop (σ := (List (List Ref05_Token)) × (List Ref05_Token) × Int) (fun s a w => ∃ (ρ : Nat → Nat) (χ : Nat → Nat) (a142 : Option Addr) (c143 : Nat) (a146 : Option Addr) (c147 : Nat), I2 s.1 s.2.1 s.2.2 ∧ St Tryz.f24.ntmps ⟨[(0, Z s_), (3, Sl a142 s.1 c143), (5, I end_116), (6, Sl a146 s.2.1 c147), (7, B remark_121), (8, I s.2.2)], []⟩ ρ a w χ ∧ Old w0 χ0 w χ ∧ OS (tSlice tRef05_Token) 65 w χ 1003 a142 s.1 c143 ∧ OS tRef05_Token 64 w χ 1007 a146 s.2.1 c147) (fun s => μ2 s.1 s.2.1 s.2.2) (⟨out_117, [], at_111⟩) ?_ ?_
    ·exact ⟨ρ, _, a118, c119, none, 0, hm0, hS.sl _, hO, h120, (OS.nil _ _ _ _ _)⟩
    rintro ⟨out_141, row_145, i_149⟩ a w212 ⟨ρ, χ211, a142, c143, a146, c147, hI, hS, hO, h144, h148⟩
    replace hm := hm out_141 row_145 i_149 hI
    clear hI hm0
    refine wseq ?_
    refine rP T hS ⟨[(0, Z s_), (3, Sl a142 out_141 c143), (5, I end_116), (6, Sl a146 row_145 c147), (7, B remark_121), (8, I i_149), (53, B ((decide (i_149 < end_116)) && (!remark_121)))], []⟩ (sp := [50]) fun a hS => ?_
    refine wcond hS (b := ((decide (i_149 < end_116)) && (!remark_121))) kr (fun hb => ?_) (fun hb => ?_)
    ·replace hm := hm.1 hb
     refine wskip ?_
     refine wcut (fun a w => ∃ (ρ : Nat → Nat) (χ : Nat → Nat) (out_150 : List (List Ref05_Token)) (row_154 : List Ref05_Token) (i_158 : Int) (a151 : Option Addr) (c152 : Nat) (a155 : Option Addr) (c156 : Nat), VC24_J5 I2 μ2 out_141 row_145 i_149 out_150 row_154 i_158 ∧ St Tryz.f24.ntmps ⟨[(0, Z s_), (3, Sl a151 out_150 c152), (5, I end_116), (6, Sl a155 row_154 c156), (7, B remark_121), (8, I i_158)], []⟩ ρ a w χ ∧ Old w0 χ0 w χ ∧ OS (tSlice tRef05_Token) 65 w χ 1003 a151 out_150 c152 ∧ OS tRef05_Token 64 w χ 1007 a155 row_154 c156) ?_ ?_
     ·refine wblock ?_
      refine wseq ?_
      refine regO ?_
      refine oP T hS 2 ⟨[(0, Z s_), (3, Sl a142 out_141 c143), (5, I end_116), (6, Sl a146 row_145 c147), (7, B remark_121), (8, I i_149), (56, Z s_), (57, I i_149)], []⟩ fun a hS => ?_
      obtain ⟨hq, hm⟩ := hm
      refine op1 (sindex (k := .i64) T hS kr kr kr kr kr hq.1 hq.2 ?_)
      intro a hS
      refine op1 (call hS kr kr hb51 kr (fun _ _ => rfl) (k51 _ _ ((gi s_ i_149).toNat : Int)) ?_)
      intro v159 a w160 χ161 hE hp hS
      replace hO := hO.mv hE rfl rfl
      replace h144 := h144.mv hE rfl rfl
      replace h148 := h148.mv hE rfl rfl
      obtain ⟨r162, hr⟩ : ∃ r, ref05_gap ((gi s_ i_149).toNat : Int) = r := ⟨_, rfl⟩
      replace hm := hm r162 hr
      rw [hr] at hp
      clear hr
      subst hp
      refine doneK ?_
      refine wcond hS (b := r162) kr (fun hb => ?_) (fun hb => ?_)
      ·replace hm := hm.1 hb
       refine wexit (by rfl) ?_
       exact ⟨ρ, _, out_141, row_145, i_149, a142, c143, a146, c147, hm, hS.sl _, hO, h144, h148⟩
      replace hm := hm.2 hb
      refine wskip ?_
      refine rP T hS ⟨[(0, Z s_), (3, Sl a142 out_141 c143), (5, I end_116), (6, Sl a146 row_145 c147), (7, B remark_121), (8, I i_149), (9, I i_149)], []⟩ fun a hS => ?_
      refine wcut (fun a w => ∃ (ρ : Nat → Nat) (χ : Nat → Nat) (out_163 : List (List Ref05_Token)) (row_167 : List Ref05_Token) (k_171 : Int) (a164 : Option Addr) (c165 : Nat) (a168 : Option Addr) (c169 : Nat), VC24_J6 s_ I2 μ2 out_141 row_145 i_149 out_163 row_167 k_171 ∧ St Tryz.f24.ntmps ⟨[(0, Z s_), (3, Sl a164 out_163 c165), (5, I end_116), (6, Sl a168 row_167 c169), (7, B remark_121), (8, I i_149), (9, I k_171)], []⟩ ρ a w χ ∧ Old w0 χ0 w χ ∧ OS (tSlice tRef05_Token) 65 w χ 1003 a164 out_163 c165 ∧ OS tRef05_Token 64 w χ 1007 a168 row_167 c169) ?_ ?_
      ·refine wblock ?_
       obtain ⟨I3, μ3, hm0, hm⟩ := hm
       refine wloop (σ := (List (List Ref05_Token)) × (List Ref05_Token) × Int) (fun s a w => ∃ (ρ : Nat → Nat) (χ : Nat → Nat) (a182 : Option Addr) (c183 : Nat) (a186 : Option Addr) (c187 : Nat), I3 s.1 s.2.1 s.2.2 ∧ St Tryz.f24.ntmps ⟨[(0, Z s_), (3, Sl a182 s.1 c183), (5, I end_116), (6, Sl a186 s.2.1 c187), (7, B remark_121), (8, I i_149), (9, I s.2.2)], []⟩ ρ a w χ ∧ Old w0 χ0 w χ ∧ OS (tSlice tRef05_Token) 65 w χ 1003 a182 s.1 c183 ∧ OS tRef05_Token 64 w χ 1007 a186 s.2.1 c187) (fun s => μ3 s.1 s.2.1 s.2.2) (⟨out_141, row_145, i_149⟩) ?_ ?_
       ·exact ⟨ρ, _, a142, c143, a146, c147, hm0, hS.sl _, hO, h144, h148⟩
       rintro ⟨out_181, row_185, k_189⟩ a w206 ⟨ρ, χ205, a182, c183, a186, c187, hI, hS, hO, h184, h188⟩
       replace hm := hm out_181 row_185 k_189 hI
       clear hI hm0
       refine wseq ?_
       refine wcut (fun a w => ∃ (ρ : Nat → Nat) (χ : Nat → Nat) (out_190 : List (List Ref05_Token)) (row_194 : List Ref05_Token) (x_198 : Bool) (a191 : Option Addr) (c192 : Nat) (a195 : Option Addr) (c196 : Nat), VC24_J7 s_ I2 μ2 out_141 row_145 i_149 I3 μ3 out_181 row_185 k_189 out_190 row_194 x_198 ∧ St Tryz.f24.ntmps ⟨[(0, Z s_), (3, Sl a191 out_190 c192), (5, I end_116), (6, Sl a195 row_194 c196), (7, B remark_121), (8, I i_149), (9, I k_189), (70, B x_198)], []⟩ ρ a w χ ∧ Old w0 χ0 w χ ∧ OS (tSlice tRef05_Token) 65 w χ 1003 a191 out_190 c192 ∧ OS tRef05_Token 64 w χ 1007 a195 row_194 c196) ?_ ?_
       ·refine region ?_
        refine oP T hS 4 ⟨[(0, Z s_), (3, Sl a182 out_181 c183), (5, I end_116), (6, Sl a186 row_185 c187), (7, B remark_121), (8, I i_149), (9, I k_189), (64, B (decide (k_189 < end_116)))], []⟩ fun a hS => ?_
        rcases Bool.eq_false_or_eq_true (decide (k_189 < end_116)) with hb | hb
        ·replace hS := hS.lit (t := 64) kr hb
         replace hm := hm.1 hb
         refine oP T hS 2 ⟨[(0, Z s_), (3, Sl a182 out_181 c183), (5, I end_116), (6, Sl a186 row_185 c187), (7, B remark_121), (8, I i_149), (9, I k_189), (64, B true), (65, Z s_), (66, I k_189)], []⟩ fun a hS => ?_
         obtain ⟨hq, hm⟩ := hm
         refine op1 (sindex (k := .i64) T hS kr kr kr kr kr hq.1 hq.2 ?_)
         intro a hS
         refine op1 (call hS kr kr hb51 kr (fun _ _ => rfl) (k51 _ _ ((gi s_ k_189).toNat : Int)) ?_)
         intro v199 a w200 χ201 hE hp hS
         replace hO := hO.mv hE rfl rfl
         replace h184 := h184.mv hE rfl rfl
         replace h188 := h188.mv hE rfl rfl
         obtain ⟨r202, hr⟩ : ∃ r, ref05_gap ((gi s_ k_189).toNat : Int) = r := ⟨_, rfl⟩
         replace hm := hm r202 hr
         rw [hr] at hp
         clear hr
         subst hp
         refine eP T hS ⟨[(0, Z s_), (3, Sl a182 out_181 c183), (5, I end_116), (6, Sl a186 row_185 c187), (7, B remark_121), (8, I i_149), (9, I k_189), (65, Z s_), (66, I k_189), (67, V (.int .u8 ((gi s_ k_189).toNat : Int))), (68, B r202), (69, B (!r202)), (70, B (!r202))], []⟩ fun a hS => ?_
         exact ⟨ρ, _, out_181, row_185, (!r202), a182, c183, a186, c187, hm, hS.sl _, hO, h184, h188⟩
        replace hS := hS.lit (t := 64) kr hb
        replace hm := hm.2 hb
        refine eP T hS ⟨[(0, Z s_), (3, Sl a182 out_181 c183), (5, I end_116), (6, Sl a186 row_185 c187), (7, B remark_121), (8, I i_149), (9, I k_189), (70, B false)], []⟩ fun a hS => ?_
        exact ⟨ρ, _, out_181, row_185, false, a182, c183, a186, c187, hm, hS.sl _, hO, h184, h188⟩
       rintro a w204 ⟨ρ, χ203, out_190, row_194, x_198, a191, c192, a195, c196, hm, hS, hO, h193, h197⟩
       unfold VC24_J7 at hm
       refine wcond hS (b := x_198) kr (fun hb => ?_) (fun hb => ?_)
       ·replace hm := hm.1 hb
        refine wskip ?_
        refine wblock ?_
        refine region (eP T hS ⟨[(0, Z s_), (3, Sl a191 out_190 c192), (5, I end_116), (6, Sl a195 row_194 c196), (7, B remark_121), (8, I i_149), (9, I (wR (k_189 + 1)))], []⟩ fun a hS => ?_)
        exact ⟨⟨out_190, row_194, wR (k_189 + 1)⟩, ⟨ρ, _, a191, c192, a195, c196, hm.1, hS.sl _, hO, h193, h197⟩, hm.2⟩
       replace hm := hm.2 hb
       refine wexit (by rfl) ?_
       exact ⟨ρ, _, out_190, row_194, k_189, a191, c192, a195, c196, hm, hS.sl _, hO, h193, h197⟩
      rintro a w208 ⟨ρ, χ207, out_163, row_167, k_171, a164, c165, a168, c169, hm, hS, hO, h166, h170⟩
      unfold VC24_J6 at hm
      refine regO ?_
      refine oP T hS 8 ⟨[(0, Z s_), (3, Sl a164 out_163 c165), (5, I end_116), (6, Sl a168 row_167 c169), (7, B remark_121), (9, I k_171), (73, Sl a168 row_167 c169), (76, I (wR ((lN out_163) + 1))), (77, I i_149), (78, Z s_), (79, I i_149), (80, I k_171)], []⟩ fun a hS => ?_
      obtain ⟨hq, hm⟩ := hm
      refine op1 (sslice2 (kl := .i64) (kh := .i64) (s := s_) T hS kr kr kr kr kr kr hq.1 hq.2.1 hq.2.2 ?_)
      intro a hS
      refine oP T hS 1 ⟨[(0, Z s_), (3, Sl a164 out_163 c165), (5, I end_116), (6, Sl a168 row_167 c169), (7, B remark_121), (9, I k_171), (73, Sl a168 row_167 c169), (82, V (.agg #[.int .i64 (wR ((lN out_163) + 1)), .int .i64 i_149, .string (bs ((s_.take k_171.toNat).drop i_149.toNat))]))], []⟩ fun a hS => ?_
      refine op1 (lit (E := 64) (col := 0) (T := tRef05_Token) (vals := [.agg #[.int .i64 (wR ((lN out_163) + 1)), .int .i64 i_149, .string (bs ((s_.take k_171.toNat).drop i_149.toNat))]]) (ys := [(⟨wR ((lN out_163) + 1), i_149, ((s_.take k_171.toNat).drop i_149.toNat)⟩ : Ref05_Token)]) T hS kr kr kr kr (by exact ⟨rfl, trivial⟩) rfl kr kr kr kr ?_)
      intro b172 a w173 χ174 hE h175 hN hS
      clear hN
      replace hO := hO.mv hE rfl rfl
      replace h166 := h166.mv hE rfl rfl
      replace h170 := h170.mv hE rfl rfl
      replace h175 := h175.rs0
      obtain ⟨hq, hm⟩ := hm
      obtain ⟨news, hN⟩ := h175.src
      refine op1 (append (E := 64) (T := tRef05_Token) (col := 1007) (xs := row_167) T hS kr kr kr kr h170 hN kr kr kr kr hq ?_)
      intro a179 c180 a w176 χ177 hE h178 hS
      clear hq hN
      clear h170
      replace hO := hO.mv hE rfl rfl
      replace h166 := h166.mv hE rfl rfl
      replace h175 := h175.mv hE rfl
      refine eP T hS ⟨[(0, Z s_), (3, Sl a164 out_163 c165), (5, I end_116), (6, Sl a179 (row_167 ++ [(⟨wR ((lN out_163) + 1), i_149, ((s_.take k_171.toNat).drop i_149.toNat)⟩ : Ref05_Token)]) c180), (7, B remark_121), (9, I k_171)], []⟩ fun a hS => ?_
      refine region (eP T hS ⟨[(0, Z s_), (3, Sl a164 out_163 c165), (5, I end_116), (6, Sl a179 (row_167 ++ [(⟨wR ((lN out_163) + 1), i_149, ((s_.take k_171.toNat).drop i_149.toNat)⟩ : Ref05_Token)]) c180), (7, B remark_121), (8, I k_171)], []⟩ fun a hS => ?_)
      exact ⟨ρ, _, out_163, row_167 ++ [(⟨wR ((lN out_163) + 1), i_149, ((s_.take k_171.toNat).drop i_149.toNat)⟩ : Ref05_Token)], k_171, a164, c165, a179, c180, hm, hS.sl _, hO, h166, h178⟩
     rintro a w210 ⟨ρ, χ209, out_150, row_154, i_158, a151, c152, a155, c156, hm, hS, hO, h153, h157⟩
     unfold VC24_J5 at hm
     refine region (eP T hS ⟨[(0, Z s_), (3, Sl a151 out_150 c152), (5, I end_116), (6, Sl a155 row_154 c156), (7, B remark_121), (8, I (wR (i_158 + 1)))], []⟩ fun a hS => ?_)
     exact ⟨⟨out_150, row_154, wR (i_158 + 1)⟩, ⟨ρ, _, a151, c152, a155, c156, hm.1, hS.sl _, hO, h153, h157⟩, hm.2⟩
    replace hm := hm.2 hb
    refine wexit (by rfl) ?_
    exact ⟨ρ, _, out_141, row_145, a142, c143, a146, c147, hm, hS.sl _, hO, h144, h148⟩
   rintro a w214 ⟨ρ, χ213, out_122, row_126, a123, c124, a127, c128, hm, hS, hO, h125, h129⟩
   unfold VC24_J4 at hm
   refine regO ?_
   refine oP T hS 2 ⟨[(0, Z s_), (3, Sl a123 out_122 c124), (5, I end_116), (86, Sl a123 out_122 c124), (87, Sl a127 row_126 c128)], []⟩ fun a hS => ?_
   obtain ⟨χ130, hE, hF⟩ := h129.freeze (by decide)
   replace hS := hS.ev hE (xone_box kr)
   replace hO := hO.mv hE rfl rfl
   replace h125 := h125.mv hE rfl rfl
   have h131 := hF; clear hE hF
   refine op1 (lit (E := 65) (col := 0) (T := (tSlice tRef05_Token)) (vals := [.slice a127 row_126.length c128]) (ys := [row_126]) T hS kr kr kr kr (by exact ⟨⟨a127, c128, rfl, h131⟩, trivial⟩) rfl kr kr kr kr ?_)
   intro b132 a w133 χ134 hE h135 hN hS
   clear hN
   replace hO := hO.mv hE rfl rfl
   replace h125 := h125.mv hE rfl rfl
   replace h131 := h131.mv hE rfl
   replace h135 := h135.rs0
   obtain ⟨hq, hm⟩ := hm
   obtain ⟨news, hN⟩ := h135.src
   refine op1 (append (E := 65) (T := (tSlice tRef05_Token)) (col := 1003) (xs := out_122) T hS kr kr kr kr h125 hN kr kr kr kr hq ?_)
   intro a139 c140 a w136 χ137 hE h138 hS
   clear hq hN
   clear h125
   replace hO := hO.mv hE rfl rfl
   replace h131 := h131.mv hE rfl
   replace h135 := h135.mv hE rfl
   refine eP T hS ⟨[(0, Z s_), (3, Sl a139 (out_122 ++ [row_126]) c140), (5, I end_116)], []⟩ fun a hS => ?_
   refine region (eP T hS ⟨[(0, Z s_), (3, Sl a139 (out_122 ++ [row_126]) c140), (4, I (wR (end_116 + 1)))], []⟩ fun a hS => ?_)
   exact ⟨⟨out_122 ++ [row_126], wR (end_116 + 1)⟩, ⟨ρ, _, a139, c140, hm.1, hS.sl _, hO, h138⟩, hm.2⟩
  replace hm := hm.2 hb
  refine wexit (by rfl) ?_
  exact ⟨ρ, _, out_107, a108, c109, hm, hS.sl _, hO, h110⟩
 rintro a w236 ⟨ρ, χ235, out_101, a102, c103, hm, hS, hO, h104⟩
 unfold VC24_J1 at hm
 refine rP T hS ⟨[(2, Sl a102 out_101 c103)], []⟩ fun a hS => ?_
 refine wret ?_
 obtain ⟨χ105, hE, hF⟩ := h104.freeze (by decide)
 replace hS := hS.ev hE (xone_box kr)
 replace hO := hO.mv hE rfl rfl
 have h106 := hF; clear hE hF
 exact fin T hS hO (fun c => c) rfl (r := [.slice a102 out_101.length c103]) kr (fun χ' hM hC => ⟨out_101, hm, a102, c103, rfl, h106.m0 hM⟩)
theorem C24 (k51 : S51) (v : ∀ (s_ : List UInt8), len1 s_ → VC24 s_ (fun r => r = ref05_Lines s_)) : S24 := by
 intro w χ s_    hp 
 refine (W24 k51 w χ s_    _ (v s_ hp)).mono ?_
 rintro _ _ _ _ ⟨r, rfl, h⟩
 exact h
theorem W52 (k57 : S57) (w0 : World) (χ0 : Nat → Nat) (s_ : List UInt8) (lo : Int) (hi : Int) (Q : Int × Int → Prop) (hm : VC52 s_ lo hi Q) :
  Ret Tryz.prog 52 #[.string (bs s_), .int .i64 lo, .int .i64 hi] xnone w0 χ0 (fun w χ' v => ∃ r, Q r ∧ v = .tuple #[.int .i64 r.1, .int .i64 r.2]) := by
 unfold VC52 at hm
 refine enter Tryz.func52 rfl (vals := [.string (bs s_), .int .i64 lo, .int .i64 hi]) kr ?_
 intro ρ a hS hO hM
 clear hM
 refine rP T hS ⟨[(0, Z s_), (1, I lo), (2, I hi)], []⟩ fun a hS => ?_
 refine rP T hS ⟨[(0, Z s_), (1, I lo), (2, I hi), (8, I 0)], []⟩ fun a hS => ?_
 refine wcut (fun a w => ∃ (ρ : Nat → Nat) (χ : Nat → Nat) (from_101 : Int), VC52_J1 s_ lo hi Q from_101 ∧ St Tryz.f52.ntmps ⟨[(0, Z s_), (1, I lo), (2, I hi), (8, I from_101)], []⟩ ρ a w χ ∧ Old w0 χ0 w χ) ?_ ?_
 ·refine wcut (fun a w => ∃ (ρ : Nat → Nat) (χ : Nat → Nat) (x_127 : Bool), VC52_J7 s_ lo hi Q x_127 ∧ St Tryz.f52.ntmps ⟨[(0, Z s_), (1, I lo), (2, I hi), (8, I 0), (20, B x_127)], []⟩ ρ a w χ ∧ Old w0 χ0 w χ) ?_ ?_
  ·refine region ?_
   refine oP T hS 4 ⟨[(0, Z s_), (1, I lo), (2, I hi), (8, I 0), (16, B (decide ((lN s_) > 0)))], []⟩ fun a hS => ?_
   rcases Bool.eq_false_or_eq_true (decide ((lN s_) > 0)) with hb | hb
   ·replace hS := hS.lit (t := 16) kr hb
    replace hm := hm.1 hb
    refine oP T hS 1 ⟨[(0, Z s_), (1, I lo), (2, I hi), (8, I 0), (16, B true), (17, Z s_)], []⟩ fun a hS => ?_
    obtain ⟨hq, hm⟩ := hm
    refine op1 (sindex (k := .i64) T hS kr kr kr kr kr hq.1 hq.2 ?_)
    intro a hS
    refine eP T hS ⟨[(0, Z s_), (1, I lo), (2, I hi), (8, I 0), (20, B (((gi s_ 0).toNat : Int) == 45))], []⟩ fun a hS => ?_
    exact ⟨ρ, _, (((gi s_ 0).toNat : Int) == 45), hm, hS.sl _, hO⟩
   replace hS := hS.lit (t := 16) kr hb
   replace hm := hm.2 hb
   refine eP T hS ⟨[(0, Z s_), (1, I lo), (2, I hi), (8, I 0), (20, B false)], []⟩ fun a hS => ?_
   exact ⟨ρ, _, false, hm, hS.sl _, hO⟩
  rintro a w129 ⟨ρ, χ128, x_127, hm, hS, hO⟩
  unfold VC52_J7 at hm
  refine wcond hS (b := x_127) kr (fun hb => ?_) (fun hb => ?_)
  ·replace hm := hm.1 hb
   refine region (eP T hS ⟨[(0, Z s_), (1, I lo), (2, I hi), (8, I 1)], []⟩ fun a hS => ?_)
   exact ⟨ρ, _, 1, hm, hS.sl _, hO⟩
  replace hm := hm.2 hb
  refine wskip ?_
  exact ⟨ρ, _, 0, hm, hS.sl _, hO⟩
 rintro a w131 ⟨ρ, χ130, from_101, hm, hS, hO⟩
 unfold VC52_J1 at hm
 refine wseq ?_
 refine wcut (fun a w => ∃ (ρ : Nat → Nat) (χ : Nat → Nat) (x_102 : Bool), VC52_J2 s_ lo hi Q from_101 x_102 ∧ St Tryz.f52.ntmps ⟨[(0, Z s_), (1, I lo), (2, I hi), (8, I from_101), (35, B x_102)], []⟩ ρ a w χ ∧ Old w0 χ0 w χ) ?_ ?_
 ·refine region ?_
  refine oP T hS 5 ⟨[(0, Z s_), (1, I lo), (2, I hi), (8, I from_101), (25, B (from_101 == (lN s_)))], []⟩ fun a hS => ?_
  rcases Bool.eq_false_or_eq_true (from_101 == (lN s_)) with hb | hb
  ·replace hS := hS.lit (t := 25) kr hb
   replace hm := hm.1 hb
   refine eP T hS ⟨[(0, Z s_), (1, I lo), (2, I hi), (8, I from_101), (35, B true)], []⟩ fun a hS => ?_
   exact ⟨ρ, _, true, hm, hS.sl _, hO⟩
  replace hS := hS.lit (t := 25) kr hb
  replace hm := hm.2 hb
  refine oP T hS 2 ⟨[(0, Z s_), (1, I lo), (2, I hi), (8, I from_101), (25, B false), (26, Z s_), (27, I from_101)], []⟩ fun a hS => ?_
  obtain ⟨hq, hm⟩ := hm
  refine op1 (sindex (k := .i64) T hS kr kr kr kr kr hq.1 hq.2 ?_)
  intro a hS
  refine eP T hS ⟨[(0, Z s_), (1, I lo), (2, I hi), (8, I from_101), (35, B ((((gi s_ from_101).toNat : Int) == 48) && (decide ((lN s_) > 1))))], []⟩ (sp := [30]) fun a hS => ?_
  exact ⟨ρ, _, ((((gi s_ from_101).toNat : Int) == 48) && (decide ((lN s_) > 1))), hm, hS.sl _, hO⟩
 rintro a w126 ⟨ρ, χ125, x_102, hm, hS, hO⟩
 unfold VC52_J2 at hm
 refine wcond hS (b := x_102) kr (fun hb => ?_) (fun hb => ?_)
 ·replace hm := hm.1 hb
  refine rP T hS ⟨[(6, I 0), (7, I 5)], []⟩ fun a hS => ?_
  refine wret ?_
  exact fin T hS hO (fun c => c) rfl (r := [.int .i64 0, .int .i64 5]) kr (fun χ' hM hC => ⟨(0, 5), hm, rfl⟩)
 replace hm := hm.2 hb
 refine wskip ?_
 refine wcut (fun a w => ∃ (ρ : Nat → Nat) (χ : Nat → Nat), VC52_J3 s_ lo hi Q from_101 ∧ St Tryz.f52.ntmps ⟨[(0, Z s_), (1, I lo), (2, I hi), (8, I from_101)], []⟩ ρ a w χ ∧ Old w0 χ0 w χ) ?_ ?_
 ·refine rP T hS ⟨[(0, Z s_), (1, I lo), (2, I hi), (8, I from_101), (9, I from_101)], []⟩ fun a hS => ?_
  refine wblock ?_
  obtain ⟨I2, μ2, hm0, hm⟩ := hm
  refine wloop (σ := Int) (fun s a w => ∃ (ρ : Nat → Nat) (χ : Nat → Nat), I2 s ∧ St Tryz.f52.ntmps ⟨[(0, Z s_), (1, I lo), (2, I hi), (8, I from_101), (9, I s)], []⟩ ρ a w χ ∧ Old w0 χ0 w χ) (fun s => μ2 s) (from_101) ?_ ?_
  ·exact ⟨ρ, _, hm0, hS.sl _, hO⟩
  rintro i_117 a w122 ⟨ρ, χ121, hI, hS, hO⟩
  replace hm := hm i_117 hI
  clear hI hm0
  refine wseq (rP T hS ⟨[(0, Z s_), (1, I lo), (2, I hi), (8, I from_101), (9, I i_117), (40, B (decide (i_117 < (lN s_))))], []⟩ fun a hS => ?_)
  refine wcond hS (b := decide (i_117 < (lN s_))) kr (fun hb => ?_) (fun hb => ?_)
  ·replace hm := hm.1 hb
   refine wskip (wseq ?_)
   refine wblock ?_
   refine wcut (fun a w => ∃ (ρ : Nat → Nat) (χ : Nat → Nat) (x_118 : Bool), VC52_J6 Q I2 μ2 i_117 x_118 ∧ St Tryz.f52.ntmps ⟨[(0, Z s_), (1, I lo), (2, I hi), (8, I from_101), (9, I i_117), (52, B x_118)], []⟩ ρ a w χ ∧ Old w0 χ0 w χ) ?_ ?_
   ·refine region ?_
    refine oP T hS 2 ⟨[(0, Z s_), (1, I lo), (2, I hi), (8, I from_101), (9, I i_117), (43, Z s_), (44, I i_117)], []⟩ fun a hS => ?_
    obtain ⟨hq, hm⟩ := hm
    refine op1 (sindex (k := .i64) T hS kr kr kr kr kr hq.1 hq.2 ?_)
    intro a hS
    refine oP T hS 2 ⟨[(0, Z s_), (1, I lo), (2, I hi), (8, I from_101), (9, I i_117), (47, B (decide (((gi s_ i_117).toNat : Int) < 48)))], []⟩ fun a hS => ?_
    rcases Bool.eq_false_or_eq_true (decide (((gi s_ i_117).toNat : Int) < 48)) with hb | hb
    ·replace hS := hS.lit (t := 47) kr hb
     replace hm := hm.1 hb
     refine eP T hS ⟨[(0, Z s_), (1, I lo), (2, I hi), (8, I from_101), (9, I i_117), (52, B true)], []⟩ fun a hS => ?_
     exact ⟨ρ, _, true, hm, hS.sl _, hO⟩
    replace hS := hS.lit (t := 47) kr hb
    replace hm := hm.2 hb
    refine oP T hS 2 ⟨[(0, Z s_), (1, I lo), (2, I hi), (8, I from_101), (9, I i_117), (47, B false), (48, Z s_), (49, I i_117)], []⟩ fun a hS => ?_
    obtain ⟨hq, hm⟩ := hm
    refine op1 (sindex (k := .i64) T hS kr kr kr kr kr hq.1 hq.2 ?_)
    intro a hS
    refine eP T hS ⟨[(0, Z s_), (1, I lo), (2, I hi), (8, I from_101), (9, I i_117), (48, Z s_), (49, I i_117), (50, V (.int .u8 ((gi s_ i_117).toNat : Int))), (51, B (decide (((gi s_ i_117).toNat : Int) > 57))), (52, B (decide (((gi s_ i_117).toNat : Int) > 57)))], []⟩ fun a hS => ?_
    exact ⟨ρ, _, decide (((gi s_ i_117).toNat : Int) > 57), hm, hS.sl _, hO⟩
   rintro a w120 ⟨ρ, χ119, x_118, hm, hS, hO⟩
   unfold VC52_J6 at hm
   refine wcond hS (b := x_118) kr (fun hb => ?_) (fun hb => ?_)
   ·replace hm := hm.1 hb
    refine rP T hS ⟨[(6, I 0), (7, I 5)], []⟩ fun a hS => ?_
    refine wret ?_
    exact fin T hS hO (fun c => c) rfl (r := [.int .i64 0, .int .i64 5]) kr (fun χ' hM hC => ⟨(0, 5), hm, rfl⟩)
   replace hm := hm.2 hb
   refine wskip ?_
   refine region (eP T hS ⟨[(0, Z s_), (1, I lo), (2, I hi), (8, I from_101), (9, I (wR (i_117 + 1)))], []⟩ fun a hS => ?_)
   exact ⟨wR (i_117 + 1), ⟨ρ, _, hm.1, hS.sl _, hO⟩, hm.2⟩
  replace hm := hm.2 hb
  refine wexit (by rfl) ?_
  exact ⟨ρ, _, hm, hS.sl _, hO⟩
 rintro a w124 ⟨ρ, χ123, hm, hS, hO⟩
 unfold VC52_J3 at hm
 refine wseq (rP T hS ⟨[(0, Z s_), (1, I lo), (2, I hi), (8, I from_101), (57, B (decide ((wR ((lN s_) - from_101)) > 19)))], []⟩ fun a hS => ?_)
 refine wcond hS (b := decide ((wR ((lN s_) - from_101)) > 19)) kr (fun hb => ?_) (fun hb => ?_)
 ·replace hm := hm.1 hb
  refine rP T hS ⟨[(6, I 0), (7, I 7)], []⟩ fun a hS => ?_
  refine wret ?_
  exact fin T hS hO (fun c => c) rfl (r := [.int .i64 0, .int .i64 7]) kr (fun χ' hM hC => ⟨(0, 7), hm, rfl⟩)
 replace hm := hm.2 hb
 refine wskip ?_
 refine rP T hS ⟨[(0, Z s_), (1, I lo), (2, I hi), (8, I from_101), (10, I 0)], []⟩ fun a hS => ?_
 refine wcut (fun a w => ∃ (ρ : Nat → Nat) (χ : Nat → Nat) (n_103 : Int), VC52_J4 s_ lo hi Q n_103 ∧ St Tryz.f52.ntmps ⟨[(0, Z s_), (1, I lo), (2, I hi), (10, I n_103)], []⟩ ρ a w χ ∧ Old w0 χ0 w χ) ?_ ?_
 ·refine rP T hS ⟨[(0, Z s_), (1, I lo), (2, I hi), (8, I from_101), (10, I 0), (11, I from_101)], []⟩ fun a hS => ?_
  refine wblock ?_
  obtain ⟨I1, μ1, hm0, hm⟩ := hm
  refine wloop (σ := Int × Int) (fun s a w => ∃ (ρ : Nat → Nat) (χ : Nat → Nat), I1 s.1 s.2 ∧ St Tryz.f52.ntmps ⟨[(0, Z s_), (1, I lo), (2, I hi), (8, I from_101), (10, I s.1), (11, I s.2)], []⟩ ρ a w χ ∧ Old w0 χ0 w χ) (fun s => μ1 s.1 s.2) (⟨0, from_101⟩) ?_ ?_
  ·exact ⟨ρ, _, hm0, hS.sl _, hO⟩
  rintro ⟨n_108, i_109⟩ a w114 ⟨ρ, χ113, hI, hS, hO⟩
  replace hm := hm n_108 i_109 hI
  clear hI hm0
  refine wseq (rP T hS ⟨[(0, Z s_), (1, I lo), (2, I hi), (8, I from_101), (10, I n_108), (11, I i_109), (62, B (decide (i_109 < (lN s_))))], []⟩ fun a hS => ?_)
  refine wcond hS (b := decide (i_109 < (lN s_))) kr (fun hb => ?_) (fun hb => ?_)
  ·replace hm := hm.1 hb
   refine wskip (wseq ?_)
   refine wblock ?_
   refine regO ?_
   refine oP T hS 2 ⟨[(0, Z s_), (1, I lo), (2, I hi), (8, I from_101), (10, I n_108), (11, I i_109), (65, Z s_), (66, I i_109)], []⟩ fun a hS => ?_
   obtain ⟨hq, hm⟩ := hm
   refine op1 (sindex (k := .i64) T hS kr kr kr kr kr hq.1 hq.2 ?_)
   intro a hS
   refine eP T hS ⟨[(0, Z s_), (1, I lo), (2, I hi), (8, I from_101), (10, I n_108), (11, I i_109), (12, I (wR ((wR ((gi s_ i_109).toNat : Int)) - 48)))], []⟩ fun a hS => ?_
   refine wcut (fun a w => ∃ (ρ : Nat → Nat) (χ : Nat → Nat) (d_110 : Int), VC52_J5 I1 μ1 n_108 i_109 d_110 ∧ St Tryz.f52.ntmps ⟨[(0, Z s_), (1, I lo), (2, I hi), (8, I from_101), (10, I n_108), (11, I i_109), (12, I d_110)], []⟩ ρ a w χ ∧ Old w0 χ0 w χ) ?_ ?_
   ·refine rP T hS ⟨[(0, Z s_), (1, I lo), (2, I hi), (8, I from_101), (10, I n_108), (11, I i_109), (12, I (wR ((wR ((gi s_ i_109).toNat : Int)) - 48))), (71, B (from_101 == 1))], []⟩ fun a hS => ?_
    refine wcond hS (b := (from_101 == 1)) kr (fun hb => ?_) (fun hb => ?_)
    ·replace hm := hm.1 hb
     refine region (eP T hS ⟨[(0, Z s_), (1, I lo), (2, I hi), (8, I from_101), (10, I n_108), (11, I i_109), (12, I (wR (0 - (wR ((wR ((gi s_ i_109).toNat : Int)) - 48)))))], []⟩ fun a hS => ?_)
     exact ⟨ρ, _, wR (0 - (wR ((wR ((gi s_ i_109).toNat : Int)) - 48))), hm, hS.sl _, hO⟩
    replace hm := hm.2 hb
    refine wskip ?_
    exact ⟨ρ, _, wR ((wR ((gi s_ i_109).toNat : Int)) - 48), hm, hS.sl _, hO⟩
   rintro a w112 ⟨ρ, χ111, d_110, hm, hS, hO⟩
   unfold VC52_J5 at hm
   refine region (eP T hS ⟨[(0, Z s_), (1, I lo), (2, I hi), (8, I from_101), (10, I (wR ((wR (10 * n_108)) + d_110))), (11, I i_109)], []⟩ fun a hS => ?_)
   refine region (eP T hS ⟨[(0, Z s_), (1, I lo), (2, I hi), (8, I from_101), (10, I (wR ((wR (10 * n_108)) + d_110))), (11, I (wR (i_109 + 1)))], []⟩ fun a hS => ?_)
   exact ⟨⟨wR ((wR (10 * n_108)) + d_110), wR (i_109 + 1)⟩, ⟨ρ, _, hm.1, hS.sl _, hO⟩, hm.2⟩
  replace hm := hm.2 hb
  refine wexit (by rfl) ?_
  exact ⟨ρ, _, n_108, hm, hS.sl _, hO⟩
 rintro a w116 ⟨ρ, χ115, n_103, hm, hS, hO⟩
 unfold VC52_J4 at hm
 refine wseq ?_
 refine regO ?_
 refine oP T hS 1 ⟨[(0, Z s_), (1, I lo), (2, I hi), (10, I n_103), (78, I n_103)], []⟩ fun a hS => ?_
 obtain ⟨hq, hm⟩ := hm
 refine op1 (call hS kr kr hb57 kr (fun _ _ => rfl) (k57 _ _ n_103 hq) ?_)
 intro v104 a w105 χ106 hE hp hS
 replace hO := hO.mv hE rfl rfl
 obtain ⟨r107, hr⟩ : ∃ r, ref05_Digits n_103 = r := ⟨_, rfl⟩
 replace hm := hm r107 hr
 rw [hr] at hp
 clear hr
 subst hp
 refine eP T hS ⟨[(10, I n_103), (91, B (((!(r107 == s_)) || (decide (n_103 < lo))) || (decide (n_103 > hi))))], []⟩ (sp := [82, 87]) fun a hS => ?_
 refine wcond hS (b := (((!(r107 == s_)) || (decide (n_103 < lo))) || (decide (n_103 > hi)))) kr (fun hb => ?_) (fun hb => ?_)
 ·replace hm := hm.1 hb
  refine rP T hS ⟨[(6, I 0), (7, I 7)], []⟩ fun a hS => ?_
  refine wret ?_
  exact fin T hS hO (fun c => c) rfl (r := [.int .i64 0, .int .i64 7]) kr (fun χ' hM hC => ⟨(0, 7), hm, rfl⟩)
 replace hm := hm.2 hb
 refine wskip ?_
 refine rP T hS ⟨[(6, I n_103), (7, I 0)], []⟩ fun a hS => ?_
 refine wret ?_
 exact fin T hS hO (fun c => c) rfl (r := [.int .i64 n_103, .int .i64 0]) kr (fun χ' hM hC => ⟨(n_103, 0), hm, rfl⟩)
theorem C52 (k57 : S57) (v : ∀ (s_ : List UInt8) (lo : Int) (hi : Int), preNum s_ lo hi → VC52 s_ lo hi (fun r => r = ref05_Number s_ lo hi)) : S52 := by
 intro w χ s_ lo hi    hp 
 refine (W52 k57 w χ s_ lo hi    _ (v s_ lo hi hp)).mono ?_
 rintro _ _ _ _ ⟨r, rfl, h⟩
 exact h
theorem W77 (w0 : World) (χ0 : Nat → Nat) (t_ : Ref05_Token) (Q : Int → Prop) (hm : VC77 t_ Q) :
  Ret Tryz.prog 77 #[.agg #[.int .i64 t_.Line, .int .i64 t_.At, .string (bs t_.Text)]] xnone w0 χ0 (fun w χ' v => ∃ r, Q r ∧ v = .int .i64 r) := by
 unfold VC77 at hm
 refine enter Tryz.func77 rfl (vals := [.agg #[.int .i64 t_.Line, .int .i64 t_.At, .string (bs t_.Text)]]) kr ?_
 intro ρ a hS hO hM
 clear hM
 refine rM T hS ⟨[(1, Pt 2 0)], [(2, (64, [I t_.Line, I t_.At, Z t_.Text]))]⟩ fun ρ a w101 χ102 hS hE hr => ?_
 replace hO := hO.mv hE rfl rfl
 clear hE hr
 refine rP T hS ⟨[(2, I (wR (t_.At + (lN t_.Text))))], []⟩ fun a hS => ?_
 refine wret ?_
 exact fin T hS hO (fun c => c) rfl (r := [.int .i64 (wR (t_.At + (lN t_.Text)))]) kr (fun χ' hM hC => ⟨(wR (t_.At + (lN t_.Text))), hm, rfl⟩)
theorem C77 (v : ∀ (t_ : Ref05_Token), preBh t_ → VC77 t_ (fun r => r = ref10_behind t_)) : S77 := by
 intro w χ t_    hp 
 refine (W77 w χ t_    _ (v t_ hp)).mono ?_
 rintro _ _ _ _ ⟨r, rfl, h⟩
 exact h
theorem W76 (k52 : S52) (k83 : S83) (w0 : World) (χ0 : Nat → Nat) (t_ : List Ref05_Token) (k_ : Int) (end_ : Int) (lo : Int) (hi : Int) (twice : Bool) (a1 : Option Addr) (c1 : Nat) (Q : Ref10_Row → Prop) (hm : VC76 t_ k_ end_ lo hi twice Q) (h1 : RS tRef05_Token w0 χ0 a1 t_ c1) :
  Ret Tryz.prog 76 #[.slice a1 t_.length c1, .int .i64 k_, .int .i64 end_, .int .i64 lo, .int .i64 hi, .bool twice] xnone w0 χ0 (fun w χ' v => ∃ r, Q r ∧ ∃ (ra1 : Option Addr) (rc1 : Nat), v = .agg #[.slice ra1 r.L.length rc1, .int .i64 r.Taken, .int .i64 r.At, .int .i64 r.E] ∧ RS tI w χ' ra1 r.L rc1) := by
 unfold VC76 at hm
 replace hm := hm (h1.sm kr)
 refine enter Tryz.func76 rfl (vals := [.slice a1 t_.length c1, .int .i64 k_, .int .i64 end_, .int .i64 lo, .int .i64 hi, .bool twice]) kr ?_
 intro ρ a hS hO hM
 replace h1 := h1.m0 hM
 clear hM
 refine rM T hS ⟨[(0, Sl a1 t_ c1), (1, I k_), (2, I end_), (3, I lo), (4, I hi), (5, B twice), (12, Pt 13 0)], [(13, (126, [V (.slice none 0 0), I 0, I 0, I 0]))]⟩ fun ρ a w191 χ192 hS hE hr => ?_
 replace hO := hO.mv hE rfl rfl
 replace h1 := h1.mv hE rfl
 clear hE hr
 refine rM T hS ⟨[(0, Sl a1 t_ c1), (1, I k_), (2, I end_), (3, I lo), (4, I hi), (5, B twice), (12, Pt 13 0), (13, Pt 14 0)], [(13, (126, [V (.slice none 0 0), I 0, I 0, I 0])), (14, (126, [V (.slice none 0 0), I 0, I 0, I 0]))]⟩ fun ρ a w189 χ190 hS hE hr => ?_
 replace hO := hO.mv hE rfl rfl
 replace h1 := h1.mv hE rfl
 clear hE hr
 refine wcut (fun a w => ∃ (ρ : Nat → Nat) (χ : Nat → Nat) (end_101 : Int), VC76_J1 Q end_101 ∧ St Tryz.f76.ntmps ⟨[(2, I end_101), (12, Pt 13 0)], [(13, (126, [V (.slice none 0 0), I 0, I 0, I 0]))]⟩ ρ a w χ ∧ Old w0 χ0 w χ) ?_ ?_
 ·refine rP T hS ⟨[(0, Sl a1 t_ c1), (2, I end_), (3, I lo), (4, I hi), (5, B twice), (12, Pt 13 0), (13, Pt 14 0), (14, I k_)], [(13, (126, [V (.slice none 0 0), I 0, I 0, I 0])), (14, (126, [V (.slice none 0 0), I 0, I 0, I 0]))]⟩ fun a hS => ?_
  refine wblock ?_
  obtain ⟨I1, μ1, hm0, hm⟩ := hm
  refine wloop (σ := Int × Int × (List Int) × Int × Int × Int) (fun s a w => ∃ (ρ : Nat → Nat) (χ : Nat → Nat) (a108 : Option Addr) (c109 : Nat), I1 s.1 s.2.1 s.2.2.1 s.2.2.2.1 s.2.2.2.2.1 s.2.2.2.2.2 ∧ St Tryz.f76.ntmps ⟨[(0, Sl a1 t_ c1), (2, I s.1), (3, I lo), (4, I hi), (5, B twice), (12, Pt 13 0), (13, Pt 14 0), (14, I s.2.1)], [(13, (126, [V (.slice none 0 0), I 0, I 0, I 0])), (14, (126, [Sl a108 s.2.2.1 c109, I s.2.2.2.1, I s.2.2.2.2.1, I s.2.2.2.2.2]))]⟩ ρ a w χ ∧ Old w0 χ0 w χ ∧ RS tRef05_Token w χ a1 t_ c1 ∧ OS tI 3 w χ 1053 a108 s.2.2.1 c109) (fun s => μ1 s.1 s.2.1 s.2.2.1 s.2.2.2.1 s.2.2.2.2.1 s.2.2.2.2.2) (⟨end_, k_, [], 0, 0, 0⟩) ?_ ?_
  ·exact ⟨ρ, _, none, 0, hm0, hS.sl _, hO, h1, (OS.nil _ _ _ _ _)⟩
  rintro ⟨end_105, i_106, x_107, x_111, x_112, x_113⟩ a w186 ⟨ρ, χ185, a108, c109, hI, hS, hO, h104, h110⟩
  replace hm := hm end_105 i_106 x_107 x_111 x_112 x_113 hI
  clear hI hm0
  refine wseq (rP T hS ⟨[(0, Sl a1 t_ c1), (2, I end_105), (3, I lo), (4, I hi), (5, B twice), (12, Pt 13 0), (13, Pt 14 0), (14, I i_106), (21, B (decide (i_106 < (lN t_))))], [(13, (126, [V (.slice none 0 0), I 0, I 0, I 0])), (14, (126, [Sl a108 x_107 c109, I x_111, I x_112, I x_113]))]⟩ fun a hS => ?_)
  refine wcond hS (b := decide (i_106 < (lN t_))) kr (fun hb => ?_) (fun hb => ?_)
  ·replace hm := hm.1 hb
   refine wskip (wseq ?_)
   refine wblock ?_
   refine regO ?_
   refine oP T hS 2 ⟨[(0, Sl a1 t_ c1), (3, I lo), (4, I hi), (5, B twice), (12, Pt 13 0), (13, Pt 14 0), (14, I i_106), (25, Sl a1 t_ c1), (26, I i_106)], [(13, (126, [V (.slice none 0 0), I 0, I 0, I 0])), (14, (126, [Sl a108 x_107 c109, I x_111, I x_112, I x_113]))]⟩ fun a hS => ?_
   obtain ⟨hq, hm⟩ := hm
   refine op1 (index (e := 64) (k := .i64) T hS kr kr kr kr h104 kr kr hq.1 hq.2 ?_)
   intro A114 a h115 hS
   refine op1 (fieldA (off := 2) (fsz := 1) (ft := 9) (TF := tStr) (y := (gi t_ i_106).Text) T hS kr kr kr h115 kr kr kr (fun cs h => Ref05_Token_f2 h) ?_)
   intro A116 a h117 hS
   refine op1 (load1 T hS kr kr kr h117 rfl kr ?_)
   intro v118 a hv hS
   cases hv
   refine oP T hS 2 ⟨[(0, Sl a1 t_ c1), (3, I lo), (4, I hi), (5, B twice), (12, Pt 13 0), (13, Pt 14 0), (14, I i_106), (29, Z ((gi t_ i_106).Text)), (30, I lo), (31, I hi)], [(13, (126, [V (.slice none 0 0), I 0, I 0, I 0])), (14, (126, [Sl a108 x_107 c109, I x_111, I x_112, I x_113]))]⟩ fun a hS => ?_
   obtain ⟨hq, hm⟩ := hm
   refine op1 (call hS kr kr hb52 kr (fun _ _ => rfl) (k52 _ _ ((gi t_ i_106).Text) lo hi hq) ?_)
   intro v119 a w120 χ121 hE hp hS
   replace hO := hO.mv hE rfl rfl
   replace h104 := h104.mv hE rfl
   replace h110 := h110.mv hE rfl rfl
   obtain ⟨r122, hr⟩ : ∃ r, ref05_Number ((gi t_ i_106).Text) lo hi = r := ⟨_, rfl⟩
   replace hm := hm r122 hr
   rw [hr] at hp
   clear hr
   subst hp
   refine eP T hS ⟨[(0, Sl a1 t_ c1), (3, I lo), (4, I hi), (5, B twice), (12, Pt 13 0), (13, Pt 14 0), (14, I i_106), (15, I r122.1), (16, I r122.2)], [(13, (126, [V (.slice none 0 0), I 0, I 0, I 0])), (14, (126, [Sl a108 x_107 c109, I x_111, I x_112, I x_113]))]⟩ fun a hS => ?_
   refine rM T hS ⟨[(0, Sl a1 t_ c1), (3, I lo), (4, I hi), (5, B twice), (12, Pt 13 0), (13, Pt 14 0), (14, I i_106), (15, I r122.1), (16, I r122.2)], [(13, (126, [V (.slice none 0 0), I 0, I 0, I 0])), (14, (126, [Sl a108 x_107 c109, I (wR (x_111 + 1)), I x_112, I x_113]))]⟩ fun ρ a w183 χ184 hS hE hr => ?_
   replace hO := hO.mv hE rfl rfl
   replace h104 := h104.mv hE rfl
   replace h110 := h110.mv hE rfl rfl
   clear hE hr
   refine wseq (rP T hS ⟨[(0, Sl a1 t_ c1), (3, I lo), (4, I hi), (5, B twice), (12, Pt 13 0), (13, Pt 14 0), (14, I i_106), (15, I r122.1), (16, I r122.2), (40, B (r122.2 != 0))], [(13, (126, [V (.slice none 0 0), I 0, I 0, I 0])), (14, (126, [Sl a108 x_107 c109, I (wR (x_111 + 1)), I x_112, I x_113]))]⟩ fun a hS => ?_)
   refine wcond hS (b := (r122.2 != 0)) kr (fun hb => ?_) (fun hb => ?_)
   ·replace hm := hm.1 hb
    refine regO ?_
    refine oP T hS 2 ⟨[(12, Pt 13 0), (16, I r122.2), (41, Sl a1 t_ c1), (42, I i_106)], [(13, (126, [V (.slice none 0 0), I 0, I 0, I 0]))]⟩ fun a hS => ?_
    obtain ⟨hq, hm⟩ := hm
    refine op1 (index (e := 64) (k := .i64) T hS kr kr kr kr h104 kr kr hq.1 hq.2 ?_)
    intro A123 a h124 hS
    refine op1 (fieldA (off := 1) (fsz := 1) (ft := 3) (TF := tI) (y := (gi t_ i_106).At) T hS kr kr kr h124 kr kr kr (fun cs h => Ref05_Token_f1 h) ?_)
    intro A125 a h126 hS
    refine op1 (load1 T hS kr kr kr h126 rfl kr ?_)
    intro v127 a hv hS
    cases hv
    refine eM T hS ⟨[(12, Pt 13 0)], [(13, (126, [V (.slice none 0 0), I 0, I ((gi t_ i_106).At), I r122.2]))]⟩ fun ρ a w128 χ129 hS hE hr => ?_
    replace hO := hO.mv hE rfl rfl
    clear hE hr
    refine wret ?_
    exact fin T hS hO (fun c => c) rfl (r := [.agg #[.slice none 0 0, .int .i64 0, .int .i64 ((gi t_ i_106).At), .int .i64 r122.2]]) kr (fun χ' hM hC => ⟨(⟨[], 0, (gi t_ i_106).At, r122.2⟩ : Ref10_Row), hm, none, 0, rfl, RS.empty _ _ _⟩)
   replace hm := hm.2 hb
   refine wskip ?_
   refine wseq (rP T hS ⟨[(0, Sl a1 t_ c1), (3, I lo), (4, I hi), (5, B twice), (12, Pt 13 0), (13, Pt 14 0), (14, I i_106), (15, I r122.1), (49, B (r122.1 == 0))], [(13, (126, [V (.slice none 0 0), I 0, I 0, I 0])), (14, (126, [Sl a108 x_107 c109, I (wR (x_111 + 1)), I x_112, I x_113]))]⟩ fun a hS => ?_)
   refine wcond hS (b := (r122.1 == 0)) kr (fun hb => ?_) (fun hb => ?_)
   ·replace hm := hm.1 hb
    refine rM T hS ⟨[(12, Pt 13 0)], [(13, (126, [Sl a108 x_107 c109, I (wR (x_111 + 1)), I x_112, I x_113]))]⟩ fun ρ a w132 χ133 hS hE hr => ?_
    replace hO := hO.mv hE rfl rfl
    replace h110 := h110.mv hE rfl rfl
    clear hE hr
    refine wret ?_
    obtain ⟨χ130, hE, hF⟩ := h110.freeze (by decide)
    replace hS := hS.ev hE (xone_box kr)
    replace hO := hO.mv hE rfl rfl
    have h131 := hF; clear hE hF
    exact fin T hS hO (fun c => c) rfl (r := [.agg #[.slice a108 x_107.length c109, .int .i64 (wR (x_111 + 1)), .int .i64 x_112, .int .i64 x_113]]) kr (fun χ' hM hC => ⟨(⟨x_107, wR (x_111 + 1), x_112, x_113⟩ : Ref10_Row), hm, a108, c109, rfl, h131.m0 hM⟩)
   replace hm := hm.2 hb
   refine wskip ?_
   refine wseq (rP T hS ⟨[(0, Sl a1 t_ c1), (3, I lo), (4, I hi), (5, B twice), (12, Pt 13 0), (13, Pt 14 0), (14, I i_106), (15, I r122.1), (54, B ((lN x_107) == 1000))], [(13, (126, [V (.slice none 0 0), I 0, I 0, I 0])), (14, (126, [Sl a108 x_107 c109, I (wR (x_111 + 1)), I x_112, I x_113]))]⟩ fun a hS => ?_)
   refine wcond hS (b := ((lN x_107) == 1000)) kr (fun hb => ?_) (fun hb => ?_)
   ·replace hm := hm.1 hb
    refine regO ?_
    refine oP T hS 2 ⟨[(12, Pt 13 0), (55, Sl a1 t_ c1), (56, I i_106)], [(13, (126, [V (.slice none 0 0), I 0, I 0, I 0]))]⟩ fun a hS => ?_
    obtain ⟨hq, hm⟩ := hm
    refine op1 (index (e := 64) (k := .i64) T hS kr kr kr kr h104 kr kr hq.1 hq.2 ?_)
    intro A134 a h135 hS
    refine op1 (fieldA (off := 1) (fsz := 1) (ft := 3) (TF := tI) (y := (gi t_ i_106).At) T hS kr kr kr h135 kr kr kr (fun cs h => Ref05_Token_f1 h) ?_)
    intro A136 a h137 hS
    refine op1 (load1 T hS kr kr kr h137 rfl kr ?_)
    intro v138 a hv hS
    cases hv
    refine eM T hS ⟨[(12, Pt 13 0)], [(13, (126, [V (.slice none 0 0), I 0, I ((gi t_ i_106).At), I 3]))]⟩ fun ρ a w139 χ140 hS hE hr => ?_
    replace hO := hO.mv hE rfl rfl
    clear hE hr
    refine wret ?_
    exact fin T hS hO (fun c => c) rfl (r := [.agg #[.slice none 0 0, .int .i64 0, .int .i64 ((gi t_ i_106).At), .int .i64 3]]) kr (fun χ' hM hC => ⟨(⟨[], 0, (gi t_ i_106).At, 3⟩ : Ref10_Row), hm, none, 0, rfl, RS.empty _ _ _⟩)
   replace hm := hm.2 hb
   refine wskip (wseq ?_)
   refine wcut (fun a w => ∃ (ρ : Nat → Nat) (χ : Nat → Nat) (x_142 : Bool) (x_143 : List Int) (a144 : Option Addr) (c145 : Nat), VC76_J2 t_ Q I1 μ1 end_105 i_106 x_107 x_111 x_112 x_113 r122 x_142 x_143 ∧ St Tryz.f76.ntmps ⟨[(0, Sl a1 t_ c1), (3, I lo), (4, I hi), (5, B twice), (12, Pt 13 0), (13, Pt 14 0), (14, I i_106), (15, I r122.1), (67, B x_142)], [(13, (126, [V (.slice none 0 0), I 0, I 0, I 0])), (14, (126, [Sl a144 x_143 c145, I (wR (x_111 + 1)), I x_112, I x_113]))]⟩ ρ a w χ ∧ Old w0 χ0 w χ ∧ RS tRef05_Token w χ a1 t_ c1 ∧ OS tI 3 w χ 1053 a144 x_143 c145) ?_ ?_
   ·refine region ?_
    refine oP T hS 2 ⟨[(0, Sl a1 t_ c1), (3, I lo), (4, I hi), (5, B twice), (12, Pt 13 0), (13, Pt 14 0), (14, I i_106), (15, I r122.1), (62, B twice)], [(13, (126, [V (.slice none 0 0), I 0, I 0, I 0])), (14, (126, [Sl a108 x_107 c109, I (wR (x_111 + 1)), I x_112, I x_113]))]⟩ fun a hS => ?_
    rcases Bool.eq_false_or_eq_true twice with hb | hb
    ·replace hS := hS.lit (t := 62) kr hb
     replace hm := hm.1 hb
     refine oP T hS 3 ⟨[(0, Sl a1 t_ c1), (3, I lo), (4, I hi), (5, B twice), (12, Pt 13 0), (13, Pt 14 0), (14, I i_106), (15, I r122.1), (62, B true), (63, Pt 14 0), (64, Sl a108 x_107 c109), (65, I r122.1)], [(13, (126, [V (.slice none 0 0), I 0, I 0, I 0])), (14, (126, [Sl a108 x_107 c109, I (wR (x_111 + 1)), I x_112, I x_113]))]⟩ fun a hS => ?_
     refine op1 (call hS kr kr hb83 kr (fun _ _ => rfl) (Ret.unlend (k83 _ (lend 1053 _) x_107 r122.1 a108 c109 h110.lend)) ?_)
     intro v177 a w178 χ179 hE hp hS
     replace hO := hO.mv hE rfl rfl
     replace h104 := h104.mv hE rfl
     replace h110 := h110.mv hE rfl rfl
     obtain ⟨_, hp⟩ := hp
     obtain ⟨r180, hr⟩ : ∃ r, ref01_Has x_107 r122.1 = r := ⟨_, rfl⟩
     replace hm := hm r180 hr
     rw [hr] at hp
     clear hr
     subst hp
     refine eP T hS ⟨[(0, Sl a1 t_ c1), (3, I lo), (4, I hi), (5, B twice), (12, Pt 13 0), (13, Pt 14 0), (14, I i_106), (15, I r122.1), (63, Pt 14 0), (64, Sl a108 x_107 c109), (65, I r122.1), (66, B r180), (67, B r180)], [(13, (126, [V (.slice none 0 0), I 0, I 0, I 0])), (14, (126, [Sl a108 x_107 c109, I (wR (x_111 + 1)), I x_112, I x_113]))]⟩ fun a hS => ?_
     exact ⟨ρ, _, r180, x_107, a108, c109, hm, hS.sl _, hO, h104, h110⟩
    replace hS := hS.lit (t := 62) kr hb
    replace hm := hm.2 hb
    refine eP T hS ⟨[(0, Sl a1 t_ c1), (3, I lo), (4, I hi), (5, B twice), (12, Pt 13 0), (13, Pt 14 0), (14, I i_106), (15, I r122.1), (67, B false)], [(13, (126, [V (.slice none 0 0), I 0, I 0, I 0])), (14, (126, [Sl a108 x_107 c109, I (wR (x_111 + 1)), I x_112, I x_113]))]⟩ fun a hS => ?_
    exact ⟨ρ, _, false, x_107, a108, c109, hm, hS.sl _, hO, h104, h110⟩
   rintro a w182 ⟨ρ, χ181, x_142, x_143, a144, c145, hm, hS, hO, h141, h146⟩
   unfold VC76_J2 at hm
   refine wcond hS (b := x_142) kr (fun hb => ?_) (fun hb => ?_)
   ·replace hm := hm.1 hb
    refine regO ?_
    refine oP T hS 2 ⟨[(12, Pt 13 0), (68, Sl a1 t_ c1), (69, I i_106)], [(13, (126, [V (.slice none 0 0), I 0, I 0, I 0]))]⟩ fun a hS => ?_
    obtain ⟨hq, hm⟩ := hm
    refine op1 (index (e := 64) (k := .i64) T hS kr kr kr kr h141 kr kr hq.1 hq.2 ?_)
    intro A147 a h148 hS
    refine op1 (fieldA (off := 1) (fsz := 1) (ft := 3) (TF := tI) (y := (gi t_ i_106).At) T hS kr kr kr h148 kr kr kr (fun cs h => Ref05_Token_f1 h) ?_)
    intro A149 a h150 hS
    refine op1 (load1 T hS kr kr kr h150 rfl kr ?_)
    intro v151 a hv hS
    cases hv
    refine eM T hS ⟨[(12, Pt 13 0)], [(13, (126, [V (.slice none 0 0), I 0, I ((gi t_ i_106).At), I 21]))]⟩ fun ρ a w152 χ153 hS hE hr => ?_
    replace hO := hO.mv hE rfl rfl
    clear hE hr
    refine wret ?_
    exact fin T hS hO (fun c => c) rfl (r := [.agg #[.slice none 0 0, .int .i64 0, .int .i64 ((gi t_ i_106).At), .int .i64 21]]) kr (fun χ' hM hC => ⟨(⟨[], 0, (gi t_ i_106).At, 21⟩ : Ref10_Row), hm, none, 0, rfl, RS.empty _ _ _⟩)
   replace hm := hm.2 hb
   refine wskip ?_
   refine regO ?_
   refine oP T hS 3 ⟨[(0, Sl a1 t_ c1), (3, I lo), (4, I hi), (5, B twice), (12, Pt 13 0), (13, Pt 14 0), (14, I i_106), (75, Sl a144 x_143 c145), (76, I r122.1)], [(13, (126, [V (.slice none 0 0), I 0, I 0, I 0])), (14, (126, [Sl a144 x_143 c145, I (wR (x_111 + 1)), I x_112, I x_113]))]⟩ fun a hS => ?_
   refine op1 (lit (E := 3) (col := 0) (T := tI) (vals := [.int .i64 r122.1]) (ys := [r122.1]) T hS kr kr kr kr (by exact ⟨rfl, trivial⟩) rfl kr kr kr kr ?_)
   intro b154 a w155 χ156 hE h157 hN hS
   clear hN
   replace hO := hO.mv hE rfl rfl
   replace h141 := h141.mv hE rfl
   replace h146 := h146.mv hE rfl rfl
   replace h157 := h157.rs0
   obtain ⟨hq, hm⟩ := hm
   obtain ⟨news, hN⟩ := h157.src
   refine op1 (append (E := 3) (T := tI) (col := 1053) (xs := x_143) T hS kr kr kr kr h146 hN kr kr kr kr hq ?_)
   intro a161 c162 a w158 χ159 hE h160 hS
   clear hq hN
   clear h146
   replace hO := hO.mv hE rfl rfl
   replace h141 := h141.mv hE rfl
   replace h157 := h157.mv hE rfl
   refine eM T hS ⟨[(0, Sl a1 t_ c1), (3, I lo), (4, I hi), (5, B twice), (12, Pt 13 0), (13, Pt 14 0), (14, I i_106)], [(13, (126, [V (.slice none 0 0), I 0, I 0, I 0])), (14, (126, [Sl a161 (x_143 ++ [r122.1]) c162, I (wR (x_111 + 1)), I x_112, I x_113]))]⟩ fun ρ a w175 χ176 hS hE hr => ?_
   replace hO := hO.mv hE rfl rfl
   replace h141 := h141.mv hE rfl
   replace h160 := h160.mv hE rfl rfl
   clear hE hr
   refine drawnX [13, 14] mixed hS ?_
   intro w163 χ164 hS hE hD hH
   replace hO := hO.mv hE rfl rfl
   replace h141 := h141.mv hE rfl
   replace h160 := h160.mv hE rfl rfl
   refine tk T [0, 1, 5, 6] [13, 14] hS hH #[true, true, false, false, false, true, true, false, false, false, false, false, false] 9 ⟨[(0, Sl a1 t_ c1), (3, I lo), (4, I hi), (5, B twice), (12, Pt 13 0), (13, Pt 14 0), (14, I i_106), (80, Sl a1 t_ c1), (81, I i_106), (85, Sl a1 t_ c1), (86, I i_106)], [(13, (126, [V (.slice none 0 0), I 0, I 0, I 0])), (14, (126, [Sl a161 (x_143 ++ [r122.1]) c162, I (wR (x_111 + 1)), I x_112, I x_113]))]⟩ fun a hS => ?_
   obtain ⟨hq, hm⟩ := hm
   refine dindex (e := 64) (k := .i64) T 2 hS kr kr kr (by rfl) kr hH kr kr h141 kr kr hq.1 hq.2 ?_
   intro A165 a h166 hS
   have h166b := h166.here
   refine dfieldA (off := 1) (fsz := 1) (ft := 3) (TF := tI) (y := (gi t_ i_106).At) 3 T hS kr kr kr (by rfl) kr hH kr h166 kr kr kr (fun cs h => Ref05_Token_f1 h) ?_
   intro A167 a h168 hbl hS
   have h168b := h166b
   rw [← hbl] at h168b
   clear hbl
   refine dload1 T 4 hS kr kr kr (by rfl) kr hH kr h168 h168b rfl kr ?_
   intro v169 a hv hS
   cases hv
   obtain ⟨hq, hm⟩ := hm
   refine dindex (e := 64) (k := .i64) T 7 hS kr kr kr (by rfl) kr hH kr kr h141 kr kr hq.1 hq.2 ?_
   intro A170 a h171 hS
   have h171b := h171.here
   refine dfieldA (off := 2) (fsz := 1) (ft := 9) (TF := tStr) (y := (gi t_ i_106).Text) 8 T hS kr kr kr (by rfl) kr hH kr h171 kr kr kr (fun cs h => Ref05_Token_f2 h) ?_
   intro A172 a h173 hbl hS
   have h173b := h171b
   rw [← hbl] at h173b
   clear hbl
   refine dload1 T 9 hS kr kr kr (by rfl) kr hH kr h173 h173b rfl kr ?_
   intro v174 a hv hS
   cases hv
   refine tk T [10, 11, 12] [13, 14] hS hH #[true, true, true, true, true, true, true, true, true, true, true, true, true] 0 ⟨[(0, Sl a1 t_ c1), (2, I (wR (((gi t_ i_106).At) + (lN ((gi t_ i_106).Text))))), (3, I lo), (4, I hi), (5, B twice), (12, Pt 13 0), (13, Pt 14 0), (14, I i_106)], [(13, (126, [V (.slice none 0 0), I 0, I 0, I 0])), (14, (126, [Sl a161 (x_143 ++ [r122.1]) c162, I (wR (x_111 + 1)), I x_112, I x_113]))]⟩ fun a hS => ?_
   refine drawnDone kr ?_
   clear hD hH
   replace hS := hS.sl ⟨[(0, Sl a1 t_ c1), (2, I (wR (((gi t_ i_106).At) + (lN ((gi t_ i_106).Text))))), (3, I lo), (4, I hi), (5, B twice), (12, Pt 13 0), (13, Pt 14 0), (14, I i_106)], [(13, (126, [V (.slice none 0 0), I 0, I 0, I 0])), (14, (126, [Sl a161 (x_143 ++ [r122.1]) c162, I (wR (x_111 + 1)), I x_112, I x_113]))]⟩
   refine region (eP T hS ⟨[(0, Sl a1 t_ c1), (2, I (wR (((gi t_ i_106).At) + (lN ((gi t_ i_106).Text))))), (3, I lo), (4, I hi), (5, B twice), (12, Pt 13 0), (13, Pt 14 0), (14, I (wR (i_106 + 1)))], [(13, (126, [V (.slice none 0 0), I 0, I 0, I 0])), (14, (126, [Sl a161 (x_143 ++ [r122.1]) c162, I (wR (x_111 + 1)), I x_112, I x_113]))]⟩ fun a hS => ?_)
   exact ⟨⟨wR (((gi t_ i_106).At) + (lN ((gi t_ i_106).Text))), wR (i_106 + 1), x_143 ++ [r122.1], wR (x_111 + 1), x_112, x_113⟩, ⟨ρ, _, a161, c162, hm.1, hS.sl _, hO, h141, h160⟩, hm.2⟩
  replace hm := hm.2 hb
  refine wexit (by rfl) ?_
  exact ⟨ρ, _, end_105, hm, hS.sl _, hO⟩
 rintro a w188 ⟨ρ, χ187, end_101, hm, hS, hO⟩
 unfold VC76_J1 at hm
 refine rM T hS ⟨[(12, Pt 13 0)], [(13, (126, [V (.slice none 0 0), I 0, I end_101, I 4]))]⟩ fun ρ a w102 χ103 hS hE hr => ?_
 replace hO := hO.mv hE rfl rfl
 clear hE hr
 refine wret ?_
 exact fin T hS hO (fun c => c) rfl (r := [.agg #[.slice none 0 0, .int .i64 0, .int .i64 end_101, .int .i64 4]]) kr (fun χ' hM hC => ⟨(⟨[], 0, end_101, 4⟩ : Ref10_Row), hm, none, 0, rfl, RS.empty _ _ _⟩)
theorem C76 (k52 : S52) (k83 : S83) (v : ∀ (t_ : List Ref05_Token) (k_ : Int) (end_ : Int) (lo : Int) (hi : Int) (twice : Bool), preRr t_ k_ end_ lo hi twice → VC76 t_ k_ end_ lo hi twice (fun r => r = ref10_row t_ k_ end_ lo hi twice)) : S76 := by
 intro w χ t_ k_ end_ lo hi twice a1 c1   hp h1
 refine (W76 k52 k83 w χ t_ k_ end_ lo hi twice a1 c1   _ (v t_ k_ end_ lo hi twice hp) h1).mono ?_
 rintro _ _ _ _ ⟨r, rfl, h⟩
 exact h
theorem W53 (k52 : S52) (k76 : S76) (k77 : S77) (w0 : World) (χ0 : Nat → Nat) (t_ : List Ref05_Token) (a1 : Option Addr) (c1 : Nat) (Q : Api_Step × Int × Int → Prop) (hm : VC53 t_ Q) (h1 : RS tRef05_Token w0 χ0 a1 t_ c1) :
  Ret Tryz.prog 53 #[.slice a1 t_.length c1] xnone w0 χ0 (fun w χ' v => ∃ r, Q r ∧ ∃ (ra1 : Option Addr) (rc1 : Nat) (ra2 : Option Addr) (rc2 : Nat), v = .tuple #[.agg #[.int .i64 r.1.Kind, .int .i64 r.1.Id, .slice ra1 r.1.Lits.length rc1, .slice ra2 r.1.Hints.length rc2], .int .i64 r.2.1, .int .i64 r.2.2] ∧ RS tI w χ' ra1 r.1.Lits rc1 ∧ RS tI w χ' ra2 r.1.Hints rc2) := by
 unfold VC53 at hm
 replace hm := hm (h1.sm kr)
 refine enter Tryz.func53 rfl (vals := [.slice a1 t_.length c1]) kr ?_
 intro ρ a hS hO hM
 replace h1 := h1.m0 hM
 clear hM
 refine rM T hS ⟨[(0, Sl a1 t_ c1), (2, Pt 3 0)], [(3, (98, [I 0, I 0, V (.slice none 0 0), V (.slice none 0 0)]))]⟩ fun ρ a w231 χ232 hS hE hr => ?_
 replace hO := hO.mv hE rfl rfl
 replace h1 := h1.mv hE rfl
 clear hE hr
 refine regO ?_
 refine oP T hS 1 ⟨[(0, Sl a1 t_ c1), (2, Pt 3 0), (14, Sl a1 t_ c1)], [(3, (98, [I 0, I 0, V (.slice none 0 0), V (.slice none 0 0)]))]⟩ fun a hS => ?_
 obtain ⟨hq, hm⟩ := hm
 refine op1 (index (e := 64) (k := .i64) T hS kr kr kr kr h1 kr kr hq.1 hq.2 ?_)
 intro A101 a h102 hS
 refine op1 (fieldA (off := 2) (fsz := 1) (ft := 9) (TF := tStr) (y := (gi t_ 0).Text) T hS kr kr kr h102 kr kr kr (fun cs h => Ref05_Token_f2 h) ?_)
 intro A103 a h104 hS
 refine op1 (load1 T hS kr kr kr h104 rfl kr ?_)
 intro v105 a hv hS
 cases hv
 obtain ⟨hq, hm⟩ := hm
 refine op1 (call hS kr kr hb52 kr (fun _ _ => rfl) (k52 _ _ ((gi t_ 0).Text) 0 10000000 hq) ?_)
 intro v106 a w107 χ108 hE hp hS
 replace hO := hO.mv hE rfl rfl
 replace h1 := h1.mv hE rfl
 replace h102 := h102.mv hE rfl
 replace h104 := h104.mv hE rfl
 obtain ⟨r109, hr⟩ : ∃ r, ref05_Number ((gi t_ 0).Text) 0 10000000 = r := ⟨_, rfl⟩
 replace hm := hm r109 hr
 rw [hr] at hp
 clear hr
 subst hp
 refine eP T hS ⟨[(0, Sl a1 t_ c1), (2, Pt 3 0), (5, I r109.1), (6, I r109.2)], [(3, (98, [I 0, I 0, V (.slice none 0 0), V (.slice none 0 0)]))]⟩ fun a hS => ?_
 refine wseq (rP T hS ⟨[(0, Sl a1 t_ c1), (2, Pt 3 0), (5, I r109.1), (6, I r109.2), (22, B (r109.2 != 0))], [(3, (98, [I 0, I 0, V (.slice none 0 0), V (.slice none 0 0)]))]⟩ fun a hS => ?_)
 refine wcond hS (b := (r109.2 != 0)) kr (fun hb => ?_) (fun hb => ?_)
 ·replace hm := hm.1 hb
  refine drawnSX [] mixed hS ?_
  intro w110 χ111 hS hE hD hH
  replace hO := hO.mv hE rfl rfl
  replace h1 := h1.mv hE rfl
  refine tk T [0, 1, 5] [] hS hH #[true, true, false, false, false, true, false, false, false] 6 ⟨[(2, Pt 3 0), (23, V (.agg #[.int .i64 0, .int .i64 0, .slice none 0 0, .slice none 0 0])), (24, Sl a1 t_ c1), (28, I r109.2)], [(3, (98, [I 0, I 0, V (.slice none 0 0), V (.slice none 0 0)]))]⟩ fun a hS => ?_
  obtain ⟨hq, hm⟩ := hm
  refine dindex (e := 64) (k := .i64) T 2 hS kr kr kr (by rfl) kr hH kr kr h1 kr kr hq.1 hq.2 ?_
  intro A112 a h113 hS
  have h113b := h113.here
  refine dfieldA (off := 1) (fsz := 1) (ft := 3) (TF := tI) (y := (gi t_ 0).At) 3 T hS kr kr kr (by rfl) kr hH kr h113 kr kr kr (fun cs h => Ref05_Token_f1 h) ?_
  intro A114 a h115 hbl hS
  have h115b := h113b
  rw [← hbl] at h115b
  clear hbl
  refine dload1 T 4 hS kr kr kr (by rfl) kr hH kr h115 h115b rfl kr ?_
  intro v116 a hv hS
  cases hv
  replace hS := hS.sl ⟨[(2, Pt 3 0), (23, V (.agg #[.int .i64 0, .int .i64 0, .slice none 0 0, .slice none 0 0])), (24, Sl a1 t_ c1), (28, I r109.2), (25, V (.pointer (some A112))), (26, V (.pointer (some A114))), (27, I ((gi t_ 0).At))], [(3, (98, [I 0, I 0, V (.slice none 0 0), V (.slice none 0 0)]))]⟩
  refine only 6 kr (by rfl) (store1 T hS kr kr (sy' := ⟨[(2, Pt 3 0), (23, V (.agg #[.int .i64 0, .int .i64 0, .slice none 0 0, .slice none 0 0])), (24, Sl a1 t_ c1), (28, I r109.2), (25, V (.pointer (some A112))), (26, V (.pointer (some A114))), (27, I ((gi t_ 0).At))], [(3, (98, [I 0, I 0, V (.slice none 0 0), V (.slice none 0 0)])), (3, (98, [I 0, I 0, V (.slice none 0 0), V (.slice none 0 0)]))]⟩) kr ?_)
  intro a w117 χ118 hS hE
  replace hO := hO.mv hE rfl rfl
  replace hD := hD.ev hE rfl
  replace h1 := h1.mv hE rfl
  replace h113 := h113.mv hE rfl
  replace h115 := h115.mv hE rfl
  replace hS := hS.sl ⟨[(2, Pt 3 0), (23, V (.agg #[.int .i64 0, .int .i64 0, .slice none 0 0, .slice none 0 0])), (24, Sl a1 t_ c1), (28, I r109.2), (25, V (.pointer (some A112))), (26, V (.pointer (some A114))), (27, I ((gi t_ 0).At))], [(3, (98, [I 0, I 0, V (.slice none 0 0), V (.slice none 0 0)]))]⟩
  refine andH (Hold.of hS (bks := []) kr hD) ?_
  intro hH
  refine tk T [7, 8] [] hS hH #[true, true, true, true, true, true, true, true, true] 0 ⟨[(2, Pt 3 0), (3, I ((gi t_ 0).At)), (4, I r109.2)], [(3, (98, [I 0, I 0, V (.slice none 0 0), V (.slice none 0 0)]))]⟩ fun a hS => ?_
  refine drawnDone kr ?_
  clear hD hH
  replace hS := hS.sl ⟨[(2, Pt 3 0), (3, I ((gi t_ 0).At)), (4, I r109.2)], [(3, (98, [I 0, I 0, V (.slice none 0 0), V (.slice none 0 0)]))]⟩
  refine wret ?_
  exact fin T hS hO (fun c => c) rfl (r := [.agg #[.int .i64 0, .int .i64 0, .slice none 0 0, .slice none 0 0], .int .i64 ((gi t_ 0).At), .int .i64 r109.2]) kr (fun χ' hM hC => ⟨((⟨0, 0, [], []⟩ : Api_Step), (gi t_ 0).At, r109.2), hm, none, 0, none, 0, rfl, RS.empty _ _ _, RS.empty _ _ _⟩)
 replace hm := hm.2 hb
 refine wskip ?_
 refine rM T hS ⟨[(0, Sl a1 t_ c1), (2, Pt 3 0), (5, I r109.1), (7, Pt 8 0)], [(3, (98, [I 0, I 0, V (.slice none 0 0), V (.slice none 0 0)])), (8, (98, [I 1, I r109.1, V (.slice none 0 0), V (.slice none 0 0)]))]⟩ fun ρ a w229 χ230 hS hE hr => ?_
 replace hO := hO.mv hE rfl rfl
 replace h1 := h1.mv hE rfl
 clear hE hr
 refine rP T hS ⟨[(0, Sl a1 t_ c1), (2, Pt 3 0), (5, I r109.1), (7, Pt 8 0)], [(3, (98, [I 0, I 0, V (.slice none 0 0), V (.slice none 0 0)])), (8, (98, [I 1, I r109.1, V (.slice none 0 0), V (.slice none 0 0)]))]⟩ fun a hS => ?_
 refine wcut (fun a w => ∃ (ρ : Nat → Nat) (χ : Nat → Nat) (next_120 : Int) (x_121 : Int) (x_122 : List Int) (x_126 : List Int) (a123 : Option Addr) (c124 : Nat) (a127 : Option Addr) (c128 : Nat), VC53_J1 t_ Q r109 next_120 x_121 x_122 x_126 ∧ St Tryz.f53.ntmps ⟨[(0, Sl a1 t_ c1), (2, Pt 3 0), (7, Pt 8 0), (8, I next_120)], [(3, (98, [I 0, I 0, V (.slice none 0 0), V (.slice none 0 0)])), (8, (98, [I x_121, I r109.1, Sl a123 x_122 c124, Sl a127 x_126 c128]))]⟩ ρ a w χ ∧ Old w0 χ0 w χ ∧ RS tRef05_Token w χ a1 t_ c1 ∧ RS tI w χ a123 x_122 c124 ∧ RS tI w χ a127 x_126 c128) ?_ ?_
 ·refine wcut (fun a w => ∃ (ρ : Nat → Nat) (χ : Nat → Nat) (x_142 : Bool), VC53_J2 t_ Q r109 x_142 ∧ St Tryz.f53.ntmps ⟨[(0, Sl a1 t_ c1), (2, Pt 3 0), (5, I r109.1), (7, Pt 8 0), (40, B x_142)], [(3, (98, [I 0, I 0, V (.slice none 0 0), V (.slice none 0 0)])), (8, (98, [I 1, I r109.1, V (.slice none 0 0), V (.slice none 0 0)]))]⟩ ρ a w χ ∧ Old w0 χ0 w χ ∧ RS tRef05_Token w χ a1 t_ c1) ?_ ?_
  ·refine region ?_
   refine oP T hS 4 ⟨[(0, Sl a1 t_ c1), (2, Pt 3 0), (5, I r109.1), (7, Pt 8 0), (34, B (decide ((lN t_) > 1)))], [(3, (98, [I 0, I 0, V (.slice none 0 0), V (.slice none 0 0)])), (8, (98, [I 1, I r109.1, V (.slice none 0 0), V (.slice none 0 0)]))]⟩ fun a hS => ?_
   rcases Bool.eq_false_or_eq_true (decide ((lN t_) > 1)) with hb | hb
   ·replace hS := hS.lit (t := 34) kr hb
    replace hm := hm.1 hb
    refine oP T hS 1 ⟨[(0, Sl a1 t_ c1), (2, Pt 3 0), (5, I r109.1), (7, Pt 8 0), (34, B true), (35, Sl a1 t_ c1)], [(3, (98, [I 0, I 0, V (.slice none 0 0), V (.slice none 0 0)])), (8, (98, [I 1, I r109.1, V (.slice none 0 0), V (.slice none 0 0)]))]⟩ fun a hS => ?_
    obtain ⟨hq, hm⟩ := hm
    refine op1 (index (e := 64) (k := .i64) T hS kr kr kr kr h1 kr kr hq.1 hq.2 ?_)
    intro A220 a h221 hS
    refine op1 (fieldA (off := 2) (fsz := 1) (ft := 9) (TF := tStr) (y := (gi t_ 1).Text) T hS kr kr kr h221 kr kr kr (fun cs h => Ref05_Token_f2 h) ?_)
    intro A222 a h223 hS
    refine op1 (load1 T hS kr kr kr h223 rfl kr ?_)
    intro v224 a hv hS
    cases hv
    refine eP T hS ⟨[(0, Sl a1 t_ c1), (2, Pt 3 0), (5, I r109.1), (7, Pt 8 0), (40, B (((gi t_ 1).Text) == ([100] : List UInt8)))], [(3, (98, [I 0, I 0, V (.slice none 0 0), V (.slice none 0 0)])), (8, (98, [I 1, I r109.1, V (.slice none 0 0), V (.slice none 0 0)]))]⟩ fun a hS => ?_
    exact ⟨ρ, _, (((gi t_ 1).Text) == ([100] : List UInt8)), hm, hS.sl _, hO, h1⟩
   replace hS := hS.lit (t := 34) kr hb
   replace hm := hm.2 hb
   refine eP T hS ⟨[(0, Sl a1 t_ c1), (2, Pt 3 0), (5, I r109.1), (7, Pt 8 0), (40, B false)], [(3, (98, [I 0, I 0, V (.slice none 0 0), V (.slice none 0 0)])), (8, (98, [I 1, I r109.1, V (.slice none 0 0), V (.slice none 0 0)]))]⟩ fun a hS => ?_
   exact ⟨ρ, _, false, hm, hS.sl _, hO, h1⟩
  rintro a w226 ⟨ρ, χ225, x_142, hm, hS, hO, h141⟩
  unfold VC53_J2 at hm
  refine wcond hS (b := x_142) kr (fun hb => ?_) (fun hb => ?_)
  ·replace hm := hm.1 hb
   refine rM T hS ⟨[(0, Sl a1 t_ c1), (2, Pt 3 0), (7, Pt 8 0)], [(3, (98, [I 0, I 0, V (.slice none 0 0), V (.slice none 0 0)])), (8, (98, [I 2, I r109.1, V (.slice none 0 0), V (.slice none 0 0)]))]⟩ fun ρ a w165 χ166 hS hE hr => ?_
   replace hO := hO.mv hE rfl rfl
   replace h141 := h141.mv hE rfl
   clear hE hr
   refine regO ?_
   refine oP T hS 2 ⟨[(0, Sl a1 t_ c1), (2, Pt 3 0), (7, Pt 8 0), (42, Sl a1 t_ c1), (43, Sl a1 t_ c1)], [(3, (98, [I 0, I 0, V (.slice none 0 0), V (.slice none 0 0)])), (8, (98, [I 2, I r109.1, V (.slice none 0 0), V (.slice none 0 0)]))]⟩ fun a hS => ?_
   obtain ⟨hq, hm⟩ := hm
   refine op1 (index (e := 64) (k := .i64) T hS kr kr kr kr h141 kr kr hq.1 hq.2 ?_)
   intro A143 a h144 hS
   refine op1 (loadA T hS kr kr kr h144 kr kr ?_)
   intro v145 a hv hS
   subst hv
   obtain ⟨hq, hm⟩ := hm
   refine op1 (call hS kr kr hb77 kr (fun _ _ => rfl) (k77 _ _ (gi t_ 1) hq) ?_)
   intro v146 a w147 χ148 hE hp hS
   replace hO := hO.mv hE rfl rfl
   replace h141 := h141.mv hE rfl
   replace h144 := h144.mv hE rfl
   obtain ⟨r149, hr⟩ : ∃ r, ref10_behind (gi t_ 1) = r := ⟨_, rfl⟩
   replace hm := hm r149 hr
   rw [hr] at hp
   clear hr
   subst hp
   obtain ⟨hq, hm⟩ := hm
   refine op1 (call hS kr kr hb76 kr (fun _ _ => rfl) (k76 _ _ t_ 2 r149 0 10000000 false a1 c1 hq h141) ?_)
   intro v150 a w151 χ152 hE hp hS
   replace hO := hO.mv hE rfl rfl
   replace h141 := h141.mv hE rfl
   replace h144 := h144.mv hE rfl
   obtain ⟨a154, c155, hp, h156⟩ := hp
   obtain ⟨r153, hr⟩ : ∃ r, ref10_row t_ 2 r149 0 10000000 false = r := ⟨_, rfl⟩
   replace hm := hm r153 hr
   rw [hr] at hp h156
   clear hr
   subst hp
   replace hm := hm (h156.sm kr)
   refine eM T hS ⟨[(0, Sl a1 t_ c1), (2, Pt 3 0), (7, Pt 8 0), (9, Pt 10 0)], [(3, (98, [I 0, I 0, V (.slice none 0 0), V (.slice none 0 0)])), (8, (98, [I 2, I r109.1, V (.slice none 0 0), V (.slice none 0 0)])), (10, (126, [Sl a154 r153.L c155, I r153.Taken, I r153.At, I r153.E]))]⟩ fun ρ a w163 χ164 hS hE hr => ?_
   replace hO := hO.mv hE rfl rfl
   replace h141 := h141.mv hE rfl
   replace h156 := h156.mv hE rfl
   clear hE hr
   refine wseq (rP T hS ⟨[(0, Sl a1 t_ c1), (2, Pt 3 0), (7, Pt 8 0), (9, Pt 10 0), (50, B (r153.E != 0))], [(3, (98, [I 0, I 0, V (.slice none 0 0), V (.slice none 0 0)])), (8, (98, [I 2, I r109.1, V (.slice none 0 0), V (.slice none 0 0)])), (10, (126, [Sl a154 r153.L c155, I r153.Taken, I r153.At, I r153.E]))]⟩ fun a hS => ?_)
   refine wcond hS (b := (r153.E != 0)) kr (fun hb => ?_) (fun hb => ?_)
   ·replace hm := hm.1 hb
    refine drawnSX [8, 10] mixed hS ?_
    intro w157 χ158 hS hE hD hH
    replace hO := hO.mv hE rfl rfl
    replace h156 := h156.mv hE rfl
    refine tk T [0, 1, 3, 2, 4] [8, 10] hS hH #[true, true, true, true, true, false, false, false] 3 ⟨[(2, Pt 3 0), (51, V (.agg #[.int .i64 2, .int .i64 r109.1, .slice none 0 0, .slice none 0 0])), (53, I r153.At), (55, I r153.E)], [(3, (98, [I 0, I 0, V (.slice none 0 0), V (.slice none 0 0)])), (8, (98, [I 2, I r109.1, V (.slice none 0 0), V (.slice none 0 0)])), (10, (126, [Sl a154 r153.L c155, I r153.Taken, I r153.At, I r153.E]))]⟩ fun a hS => ?_
    replace hS := hS.sl ⟨[(2, Pt 3 0), (51, V (.agg #[.int .i64 2, .int .i64 r109.1, .slice none 0 0, .slice none 0 0])), (53, I r153.At), (55, I r153.E)], [(3, (98, [I 0, I 0, V (.slice none 0 0), V (.slice none 0 0)])), (8, (98, [I 2, I r109.1, V (.slice none 0 0), V (.slice none 0 0)])), (10, (126, [Sl a154 r153.L c155, I r153.Taken, I r153.At, I r153.E]))]⟩
    refine only 5 kr (by rfl) (store1 T hS kr kr (sy' := ⟨[(2, Pt 3 0), (51, V (.agg #[.int .i64 2, .int .i64 r109.1, .slice none 0 0, .slice none 0 0])), (53, I r153.At), (55, I r153.E)], [(3, (98, [I 2, I r109.1, V (.slice none 0 0), V (.slice none 0 0)])), (3, (98, [I 0, I 0, V (.slice none 0 0), V (.slice none 0 0)])), (8, (98, [I 2, I r109.1, V (.slice none 0 0), V (.slice none 0 0)])), (10, (126, [Sl a154 r153.L c155, I r153.Taken, I r153.At, I r153.E]))]⟩) kr ?_)
    intro a w159 χ160 hS hE
    replace hO := hO.mv hE rfl rfl
    replace hD := hD.ev hE rfl
    replace h156 := h156.mv hE rfl
    replace hS := hS.sl ⟨[(2, Pt 3 0), (51, V (.agg #[.int .i64 2, .int .i64 r109.1, .slice none 0 0, .slice none 0 0])), (53, I r153.At), (55, I r153.E)], [(3, (98, [I 2, I r109.1, V (.slice none 0 0), V (.slice none 0 0)])), (8, (98, [I 2, I r109.1, V (.slice none 0 0), V (.slice none 0 0)])), (10, (126, [Sl a154 r153.L c155, I r153.Taken, I r153.At, I r153.E]))]⟩
    refine andH (Hold.of hS (bks := [8, 10]) kr hD) ?_
    intro hH
    refine tk T [6, 7] [8, 10] hS hH #[true, true, true, true, true, true, true, true] 0 ⟨[(2, Pt 3 0), (3, I r153.At), (4, I r153.E)], [(3, (98, [I 2, I r109.1, V (.slice none 0 0), V (.slice none 0 0)])), (8, (98, [I 2, I r109.1, V (.slice none 0 0), V (.slice none 0 0)])), (10, (126, [Sl a154 r153.L c155, I r153.Taken, I r153.At, I r153.E]))]⟩ fun a hS => ?_
    refine drawnDone kr ?_
    clear hD hH
    replace hS := hS.sl ⟨[(2, Pt 3 0), (3, I r153.At), (4, I r153.E)], [(3, (98, [I 2, I r109.1, V (.slice none 0 0), V (.slice none 0 0)]))]⟩
    refine wret ?_
    exact fin T hS hO (fun c => c) rfl (r := [.agg #[.int .i64 2, .int .i64 r109.1, .slice none 0 0, .slice none 0 0], .int .i64 r153.At, .int .i64 r153.E]) kr (fun χ' hM hC => ⟨((⟨2, r109.1, [], []⟩ : Api_Step), r153.At, r153.E), hm, none, 0, none, 0, rfl, RS.empty _ _ _, RS.empty _ _ _⟩)
   replace hm := hm.2 hb
   refine wskip ?_
   refine rM T hS ⟨[(0, Sl a1 t_ c1), (2, Pt 3 0), (7, Pt 8 0), (9, Pt 10 0)], [(3, (98, [I 0, I 0, V (.slice none 0 0), V (.slice none 0 0)])), (8, (98, [I 2, I r109.1, V (.slice none 0 0), Sl a154 r153.L c155])), (10, (126, [Sl a154 r153.L c155, I r153.Taken, I r153.At, I r153.E]))]⟩ fun ρ a w161 χ162 hS hE hr => ?_
   replace hO := hO.mv hE rfl rfl
   replace h141 := h141.mv hE rfl
   replace h156 := h156.mv hE rfl
   clear hE hr
   refine region (eP T hS ⟨[(0, Sl a1 t_ c1), (2, Pt 3 0), (7, Pt 8 0), (8, I (wR (2 + r153.Taken)))], [(3, (98, [I 0, I 0, V (.slice none 0 0), V (.slice none 0 0)])), (8, (98, [I 2, I r109.1, V (.slice none 0 0), Sl a154 r153.L c155]))]⟩ fun a hS => ?_)
   exact ⟨ρ, _, wR (2 + r153.Taken), 2, [], r153.L, none, 0, a154, c155, hm, hS.sl _, hO, h141, (RS.empty _ _ _), h156⟩
  replace hm := hm.2 hb
  refine regO ?_
  refine oP T hS 2 ⟨[(0, Sl a1 t_ c1), (2, Pt 3 0), (5, I r109.1), (7, Pt 8 0), (62, Sl a1 t_ c1), (63, Sl a1 t_ c1)], [(3, (98, [I 0, I 0, V (.slice none 0 0), V (.slice none 0 0)])), (8, (98, [I 1, I r109.1, V (.slice none 0 0), V (.slice none 0 0)]))]⟩ fun a hS => ?_
  obtain ⟨hq, hm⟩ := hm
  refine op1 (index (e := 64) (k := .i64) T hS kr kr kr kr h141 kr kr hq.1 hq.2 ?_)
  intro A167 a h168 hS
  refine op1 (loadA T hS kr kr kr h168 kr kr ?_)
  intro v169 a hv hS
  subst hv
  obtain ⟨hq, hm⟩ := hm
  refine op1 (call hS kr kr hb77 kr (fun _ _ => rfl) (k77 _ _ (gi t_ 0) hq) ?_)
  intro v170 a w171 χ172 hE hp hS
  replace hO := hO.mv hE rfl rfl
  replace h141 := h141.mv hE rfl
  replace h168 := h168.mv hE rfl
  obtain ⟨r173, hr⟩ : ∃ r, ref10_behind (gi t_ 0) = r := ⟨_, rfl⟩
  replace hm := hm r173 hr
  rw [hr] at hp
  clear hr
  subst hp
  obtain ⟨hq, hm⟩ := hm
  refine op1 (call hS kr kr hb76 kr (fun _ _ => rfl) (k76 _ _ t_ 1 r173 (-100000) 100000 true a1 c1 hq h141) ?_)
  intro v174 a w175 χ176 hE hp hS
  replace hO := hO.mv hE rfl rfl
  replace h141 := h141.mv hE rfl
  replace h168 := h168.mv hE rfl
  obtain ⟨a178, c179, hp, h180⟩ := hp
  obtain ⟨r177, hr⟩ : ∃ r, ref10_row t_ 1 r173 (-100000) 100000 true = r := ⟨_, rfl⟩
  replace hm := hm r177 hr
  rw [hr] at hp h180
  clear hr
  subst hp
  replace hm := hm (h180.sm kr)
  refine eM T hS ⟨[(0, Sl a1 t_ c1), (2, Pt 3 0), (5, I r109.1), (7, Pt 8 0), (10, Pt 11 0)], [(3, (98, [I 0, I 0, V (.slice none 0 0), V (.slice none 0 0)])), (8, (98, [I 1, I r109.1, V (.slice none 0 0), V (.slice none 0 0)])), (11, (126, [Sl a178 r177.L c179, I r177.Taken, I r177.At, I r177.E]))]⟩ fun ρ a w218 χ219 hS hE hr => ?_
  replace hO := hO.mv hE rfl rfl
  replace h141 := h141.mv hE rfl
  replace h180 := h180.mv hE rfl
  clear hE hr
  refine wseq (rP T hS ⟨[(0, Sl a1 t_ c1), (2, Pt 3 0), (5, I r109.1), (7, Pt 8 0), (10, Pt 11 0), (70, B (r177.E != 0))], [(3, (98, [I 0, I 0, V (.slice none 0 0), V (.slice none 0 0)])), (8, (98, [I 1, I r109.1, V (.slice none 0 0), V (.slice none 0 0)])), (11, (126, [Sl a178 r177.L c179, I r177.Taken, I r177.At, I r177.E]))]⟩ fun a hS => ?_)
  refine wcond hS (b := (r177.E != 0)) kr (fun hb => ?_) (fun hb => ?_)
  ·replace hm := hm.1 hb
   refine drawnSX [8, 11] mixed hS ?_
   intro w181 χ182 hS hE hD hH
   replace hO := hO.mv hE rfl rfl
   replace h180 := h180.mv hE rfl
   refine tk T [0, 1, 3, 2, 4] [8, 11] hS hH #[true, true, true, true, true, false, false, false] 3 ⟨[(2, Pt 3 0), (71, V (.agg #[.int .i64 1, .int .i64 r109.1, .slice none 0 0, .slice none 0 0])), (73, I r177.At), (75, I r177.E)], [(3, (98, [I 0, I 0, V (.slice none 0 0), V (.slice none 0 0)])), (8, (98, [I 1, I r109.1, V (.slice none 0 0), V (.slice none 0 0)])), (11, (126, [Sl a178 r177.L c179, I r177.Taken, I r177.At, I r177.E]))]⟩ fun a hS => ?_
   replace hS := hS.sl ⟨[(2, Pt 3 0), (71, V (.agg #[.int .i64 1, .int .i64 r109.1, .slice none 0 0, .slice none 0 0])), (73, I r177.At), (75, I r177.E)], [(3, (98, [I 0, I 0, V (.slice none 0 0), V (.slice none 0 0)])), (8, (98, [I 1, I r109.1, V (.slice none 0 0), V (.slice none 0 0)])), (11, (126, [Sl a178 r177.L c179, I r177.Taken, I r177.At, I r177.E]))]⟩
   refine only 5 kr (by rfl) (store1 T hS kr kr (sy' := ⟨[(2, Pt 3 0), (71, V (.agg #[.int .i64 1, .int .i64 r109.1, .slice none 0 0, .slice none 0 0])), (73, I r177.At), (75, I r177.E)], [(3, (98, [I 1, I r109.1, V (.slice none 0 0), V (.slice none 0 0)])), (3, (98, [I 0, I 0, V (.slice none 0 0), V (.slice none 0 0)])), (8, (98, [I 1, I r109.1, V (.slice none 0 0), V (.slice none 0 0)])), (11, (126, [Sl a178 r177.L c179, I r177.Taken, I r177.At, I r177.E]))]⟩) kr ?_)
   intro a w183 χ184 hS hE
   replace hO := hO.mv hE rfl rfl
   replace hD := hD.ev hE rfl
   replace h180 := h180.mv hE rfl
   replace hS := hS.sl ⟨[(2, Pt 3 0), (71, V (.agg #[.int .i64 1, .int .i64 r109.1, .slice none 0 0, .slice none 0 0])), (73, I r177.At), (75, I r177.E)], [(3, (98, [I 1, I r109.1, V (.slice none 0 0), V (.slice none 0 0)])), (8, (98, [I 1, I r109.1, V (.slice none 0 0), V (.slice none 0 0)])), (11, (126, [Sl a178 r177.L c179, I r177.Taken, I r177.At, I r177.E]))]⟩
   refine andH (Hold.of hS (bks := [8, 11]) kr hD) ?_
   intro hH
   refine tk T [6, 7] [8, 11] hS hH #[true, true, true, true, true, true, true, true] 0 ⟨[(2, Pt 3 0), (3, I r177.At), (4, I r177.E)], [(3, (98, [I 1, I r109.1, V (.slice none 0 0), V (.slice none 0 0)])), (8, (98, [I 1, I r109.1, V (.slice none 0 0), V (.slice none 0 0)])), (11, (126, [Sl a178 r177.L c179, I r177.Taken, I r177.At, I r177.E]))]⟩ fun a hS => ?_
   refine drawnDone kr ?_
   clear hD hH
   replace hS := hS.sl ⟨[(2, Pt 3 0), (3, I r177.At), (4, I r177.E)], [(3, (98, [I 1, I r109.1, V (.slice none 0 0), V (.slice none 0 0)]))]⟩
   refine wret ?_
   exact fin T hS hO (fun c => c) rfl (r := [.agg #[.int .i64 1, .int .i64 r109.1, .slice none 0 0, .slice none 0 0], .int .i64 r177.At, .int .i64 r177.E]) kr (fun χ' hM hC => ⟨((⟨1, r109.1, [], []⟩ : Api_Step), r177.At, r177.E), hm, none, 0, none, 0, rfl, RS.empty _ _ _, RS.empty _ _ _⟩)
  replace hm := hm.2 hb
  refine wskip ?_
  refine rP T hS ⟨[(0, Sl a1 t_ c1), (2, Pt 3 0), (5, I r109.1), (7, Pt 8 0), (10, Pt 11 0), (11, I (wR (1 + r177.Taken)))], [(3, (98, [I 0, I 0, V (.slice none 0 0), V (.slice none 0 0)])), (8, (98, [I 1, I r109.1, V (.slice none 0 0), V (.slice none 0 0)])), (11, (126, [Sl a178 r177.L c179, I r177.Taken, I r177.At, I r177.E]))]⟩ fun a hS => ?_
  refine regO ?_
  refine oP T hS 5 ⟨[(0, Sl a1 t_ c1), (2, Pt 3 0), (5, I r109.1), (7, Pt 8 0), (10, Pt 11 0), (11, I (wR (1 + r177.Taken))), (79, Sl a1 t_ c1), (80, I (wR (1 + r177.Taken))), (81, Sl a1 t_ c1), (83, I (wR ((wR (1 + r177.Taken)) - 1)))], [(3, (98, [I 0, I 0, V (.slice none 0 0), V (.slice none 0 0)])), (8, (98, [I 1, I r109.1, V (.slice none 0 0), V (.slice none 0 0)])), (11, (126, [Sl a178 r177.L c179, I r177.Taken, I r177.At, I r177.E]))]⟩ fun a hS => ?_
  obtain ⟨hq, hm⟩ := hm
  refine op1 (index (e := 64) (k := .i64) T hS kr kr kr kr h141 kr kr hq.1 hq.2 ?_)
  intro A185 a h186 hS
  refine op1 (loadA T hS kr kr kr h186 kr kr ?_)
  intro v187 a hv hS
  subst hv
  obtain ⟨hq, hm⟩ := hm
  refine op1 (call hS kr kr hb77 kr (fun _ _ => rfl) (k77 _ _ (gi t_ (wR ((wR (1 + r177.Taken)) - 1))) hq) ?_)
  intro v188 a w189 χ190 hE hp hS
  replace hO := hO.mv hE rfl rfl
  replace h141 := h141.mv hE rfl
  replace h180 := h180.mv hE rfl
  replace h186 := h186.mv hE rfl
  obtain ⟨r191, hr⟩ : ∃ r, ref10_behind (gi t_ (wR ((wR (1 + r177.Taken)) - 1))) = r := ⟨_, rfl⟩
  replace hm := hm r191 hr
  rw [hr] at hp
  clear hr
  subst hp
  obtain ⟨hq, hm⟩ := hm
  refine op1 (call hS kr kr hb76 kr (fun _ _ => rfl) (k76 _ _ t_ (wR (1 + r177.Taken)) r191 (-10000000) 10000000 false a1 c1 hq h141) ?_)
  intro v192 a w193 χ194 hE hp hS
  replace hO := hO.mv hE rfl rfl
  replace h141 := h141.mv hE rfl
  replace h180 := h180.mv hE rfl
  replace h186 := h186.mv hE rfl
  obtain ⟨a196, c197, hp, h198⟩ := hp
  obtain ⟨r195, hr⟩ : ∃ r, ref10_row t_ (wR (1 + r177.Taken)) r191 (-10000000) 10000000 false = r := ⟨_, rfl⟩
  replace hm := hm r195 hr
  rw [hr] at hp h198
  clear hr
  subst hp
  replace hm := hm (h198.sm kr)
  refine eM T hS ⟨[(0, Sl a1 t_ c1), (2, Pt 3 0), (5, I r109.1), (7, Pt 8 0), (10, Pt 11 0), (11, I (wR (1 + r177.Taken))), (12, Pt 13 0)], [(3, (98, [I 0, I 0, V (.slice none 0 0), V (.slice none 0 0)])), (8, (98, [I 1, I r109.1, V (.slice none 0 0), V (.slice none 0 0)])), (11, (126, [Sl a178 r177.L c179, I r177.Taken, I r177.At, I r177.E])), (13, (126, [Sl a196 r195.L c197, I r195.Taken, I r195.At, I r195.E]))]⟩ fun ρ a w216 χ217 hS hE hr => ?_
  replace hO := hO.mv hE rfl rfl
  replace h141 := h141.mv hE rfl
  replace h180 := h180.mv hE rfl
  replace h198 := h198.mv hE rfl
  clear hE hr
  refine wseq (rP T hS ⟨[(0, Sl a1 t_ c1), (2, Pt 3 0), (5, I r109.1), (7, Pt 8 0), (10, Pt 11 0), (11, I (wR (1 + r177.Taken))), (12, Pt 13 0), (90, B (r195.E != 0))], [(3, (98, [I 0, I 0, V (.slice none 0 0), V (.slice none 0 0)])), (8, (98, [I 1, I r109.1, V (.slice none 0 0), V (.slice none 0 0)])), (11, (126, [Sl a178 r177.L c179, I r177.Taken, I r177.At, I r177.E])), (13, (126, [Sl a196 r195.L c197, I r195.Taken, I r195.At, I r195.E]))]⟩ fun a hS => ?_)
  refine wcond hS (b := (r195.E != 0)) kr (fun hb => ?_) (fun hb => ?_)
  ·replace hm := hm.1 hb
   replace hS := hS.sl ⟨[(2, Pt 3 0), (7, Pt 8 0), (12, Pt 13 0)], [(3, (98, [I 0, I 0, V (.slice none 0 0), V (.slice none 0 0)])), (8, (98, [I 1, I r109.1, V (.slice none 0 0), V (.slice none 0 0)])), (13, (126, [Sl a196 r195.L c197, I r195.Taken, I r195.At, I r195.E]))]⟩
   refine drawnSX [8, 13] mixed hS ?_
   intro w199 χ200 hS hE hD hH
   replace hO := hO.mv hE rfl rfl
   replace h198 := h198.mv hE rfl
   refine tk T [0, 1, 3, 2, 4] [8, 13] hS hH #[true, true, true, true, true, false, false, false] 3 ⟨[(2, Pt 3 0), (91, V (.agg #[.int .i64 1, .int .i64 r109.1, .slice none 0 0, .slice none 0 0])), (93, I r195.At), (95, I r195.E)], [(3, (98, [I 0, I 0, V (.slice none 0 0), V (.slice none 0 0)])), (8, (98, [I 1, I r109.1, V (.slice none 0 0), V (.slice none 0 0)])), (13, (126, [Sl a196 r195.L c197, I r195.Taken, I r195.At, I r195.E]))]⟩ fun a hS => ?_
   replace hS := hS.sl ⟨[(2, Pt 3 0), (91, V (.agg #[.int .i64 1, .int .i64 r109.1, .slice none 0 0, .slice none 0 0])), (93, I r195.At), (95, I r195.E)], [(3, (98, [I 0, I 0, V (.slice none 0 0), V (.slice none 0 0)])), (8, (98, [I 1, I r109.1, V (.slice none 0 0), V (.slice none 0 0)])), (13, (126, [Sl a196 r195.L c197, I r195.Taken, I r195.At, I r195.E]))]⟩
   refine only 5 kr (by rfl) (store1 T hS kr kr (sy' := ⟨[(2, Pt 3 0), (91, V (.agg #[.int .i64 1, .int .i64 r109.1, .slice none 0 0, .slice none 0 0])), (93, I r195.At), (95, I r195.E)], [(3, (98, [I 1, I r109.1, V (.slice none 0 0), V (.slice none 0 0)])), (3, (98, [I 0, I 0, V (.slice none 0 0), V (.slice none 0 0)])), (8, (98, [I 1, I r109.1, V (.slice none 0 0), V (.slice none 0 0)])), (13, (126, [Sl a196 r195.L c197, I r195.Taken, I r195.At, I r195.E]))]⟩) kr ?_)
   intro a w201 χ202 hS hE
   replace hO := hO.mv hE rfl rfl
   replace hD := hD.ev hE rfl
   replace h198 := h198.mv hE rfl
   replace hS := hS.sl ⟨[(2, Pt 3 0), (91, V (.agg #[.int .i64 1, .int .i64 r109.1, .slice none 0 0, .slice none 0 0])), (93, I r195.At), (95, I r195.E)], [(3, (98, [I 1, I r109.1, V (.slice none 0 0), V (.slice none 0 0)])), (8, (98, [I 1, I r109.1, V (.slice none 0 0), V (.slice none 0 0)])), (13, (126, [Sl a196 r195.L c197, I r195.Taken, I r195.At, I r195.E]))]⟩
   refine andH (Hold.of hS (bks := [8, 13]) kr hD) ?_
   intro hH
   refine tk T [6, 7] [8, 13] hS hH #[true, true, true, true, true, true, true, true] 0 ⟨[(2, Pt 3 0), (3, I r195.At), (4, I r195.E)], [(3, (98, [I 1, I r109.1, V (.slice none 0 0), V (.slice none 0 0)])), (8, (98, [I 1, I r109.1, V (.slice none 0 0), V (.slice none 0 0)])), (13, (126, [Sl a196 r195.L c197, I r195.Taken, I r195.At, I r195.E]))]⟩ fun a hS => ?_
   refine drawnDone kr ?_
   clear hD hH
   replace hS := hS.sl ⟨[(2, Pt 3 0), (3, I r195.At), (4, I r195.E)], [(3, (98, [I 1, I r109.1, V (.slice none 0 0), V (.slice none 0 0)]))]⟩
   refine wret ?_
   exact fin T hS hO (fun c => c) rfl (r := [.agg #[.int .i64 1, .int .i64 r109.1, .slice none 0 0, .slice none 0 0], .int .i64 r195.At, .int .i64 r195.E]) kr (fun χ' hM hC => ⟨((⟨1, r109.1, [], []⟩ : Api_Step), r195.At, r195.E), hm, none, 0, none, 0, rfl, RS.empty _ _ _, RS.empty _ _ _⟩)
  replace hm := hm.2 hb
  refine wskip ?_
  refine rM T hS ⟨[(0, Sl a1 t_ c1), (2, Pt 3 0), (5, I r109.1), (7, Pt 8 0), (11, I (wR (1 + r177.Taken))), (12, Pt 13 0)], [(3, (98, [I 0, I 0, V (.slice none 0 0), V (.slice none 0 0)])), (8, (98, [I 1, I r109.1, Sl a178 r177.L c179, V (.slice none 0 0)])), (13, (126, [Sl a196 r195.L c197, I r195.Taken, I r195.At, I r195.E]))]⟩ fun ρ a w214 χ215 hS hE hr => ?_
  replace hO := hO.mv hE rfl rfl
  replace h141 := h141.mv hE rfl
  replace h180 := h180.mv hE rfl
  replace h198 := h198.mv hE rfl
  clear hE hr
  refine rM T hS ⟨[(0, Sl a1 t_ c1), (2, Pt 3 0), (5, I r109.1), (7, Pt 8 0), (11, I (wR (1 + r177.Taken))), (12, Pt 13 0)], [(3, (98, [I 0, I 0, V (.slice none 0 0), V (.slice none 0 0)])), (8, (98, [I 1, I r109.1, Sl a178 r177.L c179, Sl a196 r195.L c197])), (13, (126, [Sl a196 r195.L c197, I r195.Taken, I r195.At, I r195.E]))]⟩ fun ρ a w212 χ213 hS hE hr => ?_
  replace hO := hO.mv hE rfl rfl
  replace h141 := h141.mv hE rfl
  replace h180 := h180.mv hE rfl
  replace h198 := h198.mv hE rfl
  clear hE hr
  refine rP T hS ⟨[(0, Sl a1 t_ c1), (2, Pt 3 0), (5, I r109.1), (7, Pt 8 0), (8, I (wR ((wR (1 + r177.Taken)) + r195.Taken)))], [(3, (98, [I 0, I 0, V (.slice none 0 0), V (.slice none 0 0)])), (8, (98, [I 1, I r109.1, Sl a178 r177.L c179, Sl a196 r195.L c197]))]⟩ fun a hS => ?_
  refine rP T hS ⟨[(0, Sl a1 t_ c1), (2, Pt 3 0), (7, Pt 8 0), (8, I (wR ((wR (1 + r177.Taken)) + r195.Taken))), (107, B (r109.1 == 0))], [(3, (98, [I 0, I 0, V (.slice none 0 0), V (.slice none 0 0)])), (8, (98, [I 1, I r109.1, Sl a178 r177.L c179, Sl a196 r195.L c197]))]⟩ fun a hS => ?_
  refine wcond hS (b := (r109.1 == 0)) kr (fun hb => ?_) (fun hb => ?_)
  ·replace hm := hm.1 hb
   refine drawnSX [8] mixed hS ?_
   intro w203 χ204 hS hE hD hH
   replace hO := hO.mv hE rfl rfl
   replace h141 := h141.mv hE rfl
   replace h180 := h180.mv hE rfl
   replace h198 := h198.mv hE rfl
   refine tk T [0, 1] [8] hS hH #[true, true, false, false, false, false, false, false] 6 ⟨[(2, Pt 3 0), (108, V (.agg #[.int .i64 1, .int .i64 r109.1, .slice a178 r177.L.length c179, .slice a196 r195.L.length c197])), (109, Sl a1 t_ c1)], [(3, (98, [I 0, I 0, V (.slice none 0 0), V (.slice none 0 0)])), (8, (98, [I 1, I r109.1, Sl a178 r177.L c179, Sl a196 r195.L c197]))]⟩ fun a hS => ?_
   obtain ⟨hq, hm⟩ := hm
   refine dindex (e := 64) (k := .i64) T 2 hS kr kr kr (by rfl) kr hH kr kr h141 kr kr hq.1 hq.2 ?_
   intro A205 a h206 hS
   have h206b := h206.here
   refine dfieldA (off := 1) (fsz := 1) (ft := 3) (TF := tI) (y := (gi t_ 0).At) 3 T hS kr kr kr (by rfl) kr hH kr h206 kr kr kr (fun cs h => Ref05_Token_f1 h) ?_
   intro A207 a h208 hbl hS
   have h208b := h206b
   rw [← hbl] at h208b
   clear hbl
   refine dload1 T 4 hS kr kr kr (by rfl) kr hH kr h208 h208b rfl kr ?_
   intro v209 a hv hS
   cases hv
   replace hS := hS.sl ⟨[(2, Pt 3 0), (108, V (.agg #[.int .i64 1, .int .i64 r109.1, .slice a178 r177.L.length c179, .slice a196 r195.L.length c197])), (109, Sl a1 t_ c1), (110, V (.pointer (some A205))), (111, V (.pointer (some A207))), (112, I ((gi t_ 0).At))], [(3, (98, [I 0, I 0, V (.slice none 0 0), V (.slice none 0 0)])), (8, (98, [I 1, I r109.1, Sl a178 r177.L c179, Sl a196 r195.L c197]))]⟩
   refine only 5 kr (by rfl) (store1 T hS kr kr (sy' := ⟨[(2, Pt 3 0), (108, V (.agg #[.int .i64 1, .int .i64 r109.1, .slice a178 r177.L.length c179, .slice a196 r195.L.length c197])), (109, Sl a1 t_ c1), (110, V (.pointer (some A205))), (111, V (.pointer (some A207))), (112, I ((gi t_ 0).At))], [(3, (98, [I 1, I r109.1, Sl a178 r177.L c179, Sl a196 r195.L c197])), (3, (98, [I 0, I 0, V (.slice none 0 0), V (.slice none 0 0)])), (8, (98, [I 1, I r109.1, Sl a178 r177.L c179, Sl a196 r195.L c197]))]⟩) kr ?_)
   intro a w210 χ211 hS hE
   replace hO := hO.mv hE rfl rfl
   replace hD := hD.ev hE rfl
   replace h141 := h141.mv hE rfl
   replace h180 := h180.mv hE rfl
   replace h198 := h198.mv hE rfl
   replace h206 := h206.mv hE rfl
   replace h208 := h208.mv hE rfl
   replace hS := hS.sl ⟨[(2, Pt 3 0), (108, V (.agg #[.int .i64 1, .int .i64 r109.1, .slice a178 r177.L.length c179, .slice a196 r195.L.length c197])), (109, Sl a1 t_ c1), (110, V (.pointer (some A205))), (111, V (.pointer (some A207))), (112, I ((gi t_ 0).At))], [(3, (98, [I 1, I r109.1, Sl a178 r177.L c179, Sl a196 r195.L c197])), (8, (98, [I 1, I r109.1, Sl a178 r177.L c179, Sl a196 r195.L c197]))]⟩
   refine andH (Hold.of hS (bks := [8]) kr hD) ?_
   intro hH
   refine tk T [6, 7] [8] hS hH #[true, true, true, true, true, true, true, true] 0 ⟨[(2, Pt 3 0), (3, I ((gi t_ 0).At)), (4, I 7)], [(3, (98, [I 1, I r109.1, Sl a178 r177.L c179, Sl a196 r195.L c197])), (8, (98, [I 1, I r109.1, Sl a178 r177.L c179, Sl a196 r195.L c197]))]⟩ fun a hS => ?_
   refine drawnDone kr ?_
   clear hD hH
   replace hS := hS.sl ⟨[(2, Pt 3 0), (3, I ((gi t_ 0).At)), (4, I 7)], [(3, (98, [I 1, I r109.1, Sl a178 r177.L c179, Sl a196 r195.L c197]))]⟩
   refine wret ?_
   exact fin T hS hO (fun c => c) rfl (r := [.agg #[.int .i64 1, .int .i64 r109.1, .slice a178 r177.L.length c179, .slice a196 r195.L.length c197], .int .i64 ((gi t_ 0).At), .int .i64 7]) kr (fun χ' hM hC => ⟨((⟨1, r109.1, r177.L, r195.L⟩ : Api_Step), (gi t_ 0).At, 7), hm, a178, c179, a196, c197, rfl, h180.m0 hM, h198.m0 hM⟩)
  replace hm := hm.2 hb
  refine wskip ?_
  exact ⟨ρ, _, wR ((wR (1 + r177.Taken)) + r195.Taken), 1, r177.L, r195.L, a178, c179, a196, c197, hm, hS.sl _, hO, h141, h180, h198⟩
 rintro a w228 ⟨ρ, χ227, next_120, x_121, x_122, x_126, a123, c124, a127, c128, hm, hS, hO, h119, h125, h129⟩
 unfold VC53_J1 at hm
 refine wseq (rP T hS ⟨[(0, Sl a1 t_ c1), (2, Pt 3 0), (7, Pt 8 0), (8, I next_120), (116, B (decide (next_120 < (lN t_))))], [(3, (98, [I 0, I 0, V (.slice none 0 0), V (.slice none 0 0)])), (8, (98, [I x_121, I r109.1, Sl a123 x_122 c124, Sl a127 x_126 c128]))]⟩ fun a hS => ?_)
 refine wcond hS (b := decide (next_120 < (lN t_))) kr (fun hb => ?_) (fun hb => ?_)
 ·replace hm := hm.1 hb
  refine drawnSX [8] mixed hS ?_
  intro w130 χ131 hS hE hD hH
  replace hO := hO.mv hE rfl rfl
  replace h119 := h119.mv hE rfl
  replace h125 := h125.mv hE rfl
  replace h129 := h129.mv hE rfl
  refine tk T [0, 1, 2] [8] hS hH #[true, true, true, false, false, false, false, false, false] 6 ⟨[(2, Pt 3 0), (117, V (.agg #[.int .i64 x_121, .int .i64 r109.1, .slice a123 x_122.length c124, .slice a127 x_126.length c128])), (118, Sl a1 t_ c1), (119, I next_120)], [(3, (98, [I 0, I 0, V (.slice none 0 0), V (.slice none 0 0)])), (8, (98, [I x_121, I r109.1, Sl a123 x_122 c124, Sl a127 x_126 c128]))]⟩ fun a hS => ?_
  obtain ⟨hq, hm⟩ := hm
  refine dindex (e := 64) (k := .i64) T 3 hS kr kr kr (by rfl) kr hH kr kr h119 kr kr hq.1 hq.2 ?_
  intro A132 a h133 hS
  have h133b := h133.here
  refine dfieldA (off := 1) (fsz := 1) (ft := 3) (TF := tI) (y := (gi t_ next_120).At) 4 T hS kr kr kr (by rfl) kr hH kr h133 kr kr kr (fun cs h => Ref05_Token_f1 h) ?_
  intro A134 a h135 hbl hS
  have h135b := h133b
  rw [← hbl] at h135b
  clear hbl
  refine dload1 T 5 hS kr kr kr (by rfl) kr hH kr h135 h135b rfl kr ?_
  intro v136 a hv hS
  cases hv
  replace hS := hS.sl ⟨[(2, Pt 3 0), (117, V (.agg #[.int .i64 x_121, .int .i64 r109.1, .slice a123 x_122.length c124, .slice a127 x_126.length c128])), (118, Sl a1 t_ c1), (119, I next_120), (120, V (.pointer (some A132))), (121, V (.pointer (some A134))), (122, I ((gi t_ next_120).At))], [(3, (98, [I 0, I 0, V (.slice none 0 0), V (.slice none 0 0)])), (8, (98, [I x_121, I r109.1, Sl a123 x_122 c124, Sl a127 x_126 c128]))]⟩
  refine only 6 kr (by rfl) (store1 T hS kr kr (sy' := ⟨[(2, Pt 3 0), (117, V (.agg #[.int .i64 x_121, .int .i64 r109.1, .slice a123 x_122.length c124, .slice a127 x_126.length c128])), (118, Sl a1 t_ c1), (119, I next_120), (120, V (.pointer (some A132))), (121, V (.pointer (some A134))), (122, I ((gi t_ next_120).At))], [(3, (98, [I x_121, I r109.1, Sl a123 x_122 c124, Sl a127 x_126 c128])), (3, (98, [I 0, I 0, V (.slice none 0 0), V (.slice none 0 0)])), (8, (98, [I x_121, I r109.1, Sl a123 x_122 c124, Sl a127 x_126 c128]))]⟩) kr ?_)
  intro a w137 χ138 hS hE
  replace hO := hO.mv hE rfl rfl
  replace hD := hD.ev hE rfl
  replace h119 := h119.mv hE rfl
  replace h125 := h125.mv hE rfl
  replace h129 := h129.mv hE rfl
  replace h133 := h133.mv hE rfl
  replace h135 := h135.mv hE rfl
  replace hS := hS.sl ⟨[(2, Pt 3 0), (117, V (.agg #[.int .i64 x_121, .int .i64 r109.1, .slice a123 x_122.length c124, .slice a127 x_126.length c128])), (118, Sl a1 t_ c1), (119, I next_120), (120, V (.pointer (some A132))), (121, V (.pointer (some A134))), (122, I ((gi t_ next_120).At))], [(3, (98, [I x_121, I r109.1, Sl a123 x_122 c124, Sl a127 x_126 c128])), (8, (98, [I x_121, I r109.1, Sl a123 x_122 c124, Sl a127 x_126 c128]))]⟩
  refine andH (Hold.of hS (bks := [8]) kr hD) ?_
  intro hH
  refine tk T [7, 8] [8] hS hH #[true, true, true, true, true, true, true, true, true] 0 ⟨[(2, Pt 3 0), (3, I ((gi t_ next_120).At)), (4, I 6)], [(3, (98, [I x_121, I r109.1, Sl a123 x_122 c124, Sl a127 x_126 c128])), (8, (98, [I x_121, I r109.1, Sl a123 x_122 c124, Sl a127 x_126 c128]))]⟩ fun a hS => ?_
  refine drawnDone kr ?_
  clear hD hH
  replace hS := hS.sl ⟨[(2, Pt 3 0), (3, I ((gi t_ next_120).At)), (4, I 6)], [(3, (98, [I x_121, I r109.1, Sl a123 x_122 c124, Sl a127 x_126 c128]))]⟩
  refine wret ?_
  exact fin T hS hO (fun c => c) rfl (r := [.agg #[.int .i64 x_121, .int .i64 r109.1, .slice a123 x_122.length c124, .slice a127 x_126.length c128], .int .i64 ((gi t_ next_120).At), .int .i64 6]) kr (fun χ' hM hC => ⟨((⟨x_121, r109.1, x_122, x_126⟩ : Api_Step), (gi t_ next_120).At, 6), hm, a123, c124, a127, c128, rfl, h125.m0 hM, h129.m0 hM⟩)
 replace hm := hm.2 hb
 refine wskip ?_
 refine rM T hS ⟨[(2, Pt 3 0), (3, I 0), (4, I 0)], [(3, (98, [I x_121, I r109.1, Sl a123 x_122 c124, Sl a127 x_126 c128]))]⟩ fun ρ a w139 χ140 hS hE hr => ?_
 replace hO := hO.mv hE rfl rfl
 replace h125 := h125.mv hE rfl
 replace h129 := h129.mv hE rfl
 clear hE hr
 refine wret ?_
 exact fin T hS hO (fun c => c) rfl (r := [.agg #[.int .i64 x_121, .int .i64 r109.1, .slice a123 x_122.length c124, .slice a127 x_126.length c128], .int .i64 0, .int .i64 0]) kr (fun χ' hM hC => ⟨((⟨x_121, r109.1, x_122, x_126⟩ : Api_Step), 0, 0), hm, a123, c124, a127, c128, rfl, h125.m0 hM, h129.m0 hM⟩)
theorem C53 (k52 : S52) (k76 : S76) (k77 : S77) (v : ∀ (t_ : List Ref05_Token), preRs t_ → VC53 t_ (fun r => r = ref10_step t_)) : S53 := by
 intro w χ t_ a1 c1   hp h1
 refine (W53 k52 k76 k77 w χ t_ a1 c1   _ (v t_ hp) h1).mono ?_
 rintro _ _ _ _ ⟨r, rfl, h⟩
 exact h
theorem W28 (k24 : S24) (k53 : S53) (w0 : World) (χ0 : Nat → Nat) (s_ : List UInt8) (Q : (List Api_Step) × Int × Int → Prop) (hm : VC28 s_ Q) :
  Ret Tryz.prog 28 #[.string (bs s_)] xnone w0 χ0 (fun w χ' v => ∃ r, Q r ∧ ∃ (ra1 : Option Addr) (rc1 : Nat), v = .tuple #[.slice ra1 r.1.length rc1, .int .i64 r.2.1, .int .i64 r.2.2] ∧ RS tApi_Step w χ' ra1 r.1 rc1) := by
 unfold VC28 at hm
 refine enter Tryz.func28 rfl (vals := [.string (bs s_)]) kr ?_
 intro ρ a hS hO hM
 clear hM
 refine rP T hS ⟨[(0, Z s_)], []⟩ fun a hS => ?_
 refine wseq (rP T hS ⟨[(0, Z s_), (13, B (decide ((lN s_) > 1000000)))], []⟩ fun a hS => ?_)
 refine wcond hS (b := decide ((lN s_) > 1000000)) kr (fun hb => ?_) (fun hb => ?_)
 ·replace hm := hm.1 hb
  refine rP T hS ⟨[(2, V (.slice none 0 0)), (3, I 0), (4, I 3)], []⟩ fun a hS => ?_
  refine wret ?_
  exact fin T hS hO (fun c => c) rfl (r := [.slice none 0 0, .int .i64 0, .int .i64 3]) kr (fun χ' hM hC => ⟨([], 0, 3), hm, none, 0, rfl, RS.empty _ _ _⟩)
 replace hm := hm.2 hb
 refine wskip ?_
 refine rP T hS ⟨[(0, Z s_), (5, V (.slice none 0 0))], []⟩ fun a hS => ?_
 refine regO ?_
 refine oP T hS 1 ⟨[(0, Z s_), (5, V (.slice none 0 0)), (14, Z s_)], []⟩ fun a hS => ?_
 obtain ⟨hq, hm⟩ := hm
 refine op1 (call hS kr kr hb24 kr (fun _ _ => rfl) (k24 _ _ s_ hq) ?_)
 intro v101 a w102 χ103 hE hp hS
 replace hO := hO.mv hE rfl rfl
 obtain ⟨a105, c106, hp, h107⟩ := hp
 obtain ⟨r104, hr⟩ : ∃ r, ref05_Lines s_ = r := ⟨_, rfl⟩
 replace hm := hm r104 hr
 rw [hr] at hp h107
 clear hr
 subst hp
 replace hm := hm (h107.sm kr)
 refine eP T hS ⟨[(0, Z s_), (5, V (.slice none 0 0)), (6, Sl a105 r104 c106)], []⟩ fun a hS => ?_
 refine wcut (fun a w => ∃ (ρ : Nat → Nat) (χ : Nat → Nat) (out_108 : List Api_Step) (a109 : Option Addr) (c110 : Nat), VC28_J1 s_ Q out_108 ∧ St Tryz.f28.ntmps ⟨[(0, Z s_), (5, Sl a109 out_108 c110)], []⟩ ρ a w χ ∧ Old w0 χ0 w χ ∧ OS tApi_Step 98 w χ 1003 a109 out_108 c110) ?_ ?_
 ·refine rP T hS ⟨[(0, Z s_), (5, V (.slice none 0 0)), (6, Sl a105 r104 c106), (7, I 0)], []⟩ fun a hS => ?_
  refine wblock ?_
  obtain ⟨I1, μ1, hm0, hm⟩ := hm
  refine wloop (σ := (List Api_Step) × Int) (fun s a w => ∃ (ρ : Nat → Nat) (χ : Nat → Nat) (a115 : Option Addr) (c116 : Nat), I1 s.1 s.2 ∧ St Tryz.f28.ntmps ⟨[(0, Z s_), (5, Sl a115 s.1 c116), (6, Sl a105 r104 c106), (7, I s.2)], []⟩ ρ a w χ ∧ Old w0 χ0 w χ ∧ OS tApi_Step 98 w χ 1003 a115 s.1 c116 ∧ RS (tSlice tRef05_Token) w χ a105 r104 c106) (fun s => μ1 s.1 s.2) (⟨[], 0⟩) ?_ ?_
  ·exact ⟨ρ, _, none, 0, hm0, hS.sl _, hO, (OS.nil _ _ _ _ _), h107⟩
  rintro ⟨out_114, i_119⟩ a w174 ⟨ρ, χ173, a115, c116, hI, hS, hO, h117, h118⟩
  replace hm := hm out_114 i_119 hI
  clear hI hm0
  refine wseq (rP T hS ⟨[(0, Z s_), (5, Sl a115 out_114 c116), (6, Sl a105 r104 c106), (7, I i_119), (19, B (decide (i_119 < (lN r104))))], []⟩ fun a hS => ?_)
  refine wcond hS (b := decide (i_119 < (lN r104))) kr (fun hb => ?_) (fun hb => ?_)
  ·replace hm := hm.1 hb
   refine wskip ?_
   refine wcut (fun a w => ∃ (ρ : Nat → Nat) (χ : Nat → Nat) (out_120 : List Api_Step) (a121 : Option Addr) (c122 : Nat), VC28_J2 I1 μ1 out_114 i_119 out_120 ∧ St Tryz.f28.ntmps ⟨[(0, Z s_), (5, Sl a121 out_120 c122), (6, Sl a105 r104 c106), (7, I i_119)], []⟩ ρ a w χ ∧ Old w0 χ0 w χ ∧ OS tApi_Step 98 w χ 1003 a121 out_120 c122 ∧ RS (tSlice tRef05_Token) w χ a105 r104 c106) ?_ ?_
   ·refine wblock ?_
    refine wseq ?_
    refine regO ?_
    refine oP T hS 2 ⟨[(0, Z s_), (5, Sl a115 out_114 c116), (6, Sl a105 r104 c106), (7, I i_119), (22, Sl a105 r104 c106), (23, I i_119)], []⟩ fun a hS => ?_
    obtain ⟨hq, hm⟩ := hm
    refine op1 (index (e := 65) (k := .i64) T hS kr kr kr kr h118 kr kr hq.1 hq.2 ?_)
    intro A125 a h126 hS
    refine op1 (load1 T hS kr kr kr h126 rfl kr ?_)
    intro v127 a hv hS
    obtain ⟨a128, c129, hv, h130⟩ := hv
    cases hv
    replace hm := hm (h130.sm kr)
    refine eP T hS ⟨[(0, Z s_), (5, Sl a115 out_114 c116), (6, Sl a105 r104 c106), (7, I i_119), (27, B ((lN (gi r104 i_119)) == 0))], []⟩ fun a hS => ?_
    refine wcond hS (b := ((lN (gi r104 i_119)) == 0)) kr (fun hb => ?_) (fun hb => ?_)
    ·replace hm := hm.1 hb
     refine wexit (by rfl) ?_
     exact ⟨ρ, _, out_114, a115, c116, hm, hS.sl _, hO, h117, h118⟩
    replace hm := hm.2 hb
    refine wskip ?_
    refine wseq (rP T hS ⟨[(0, Z s_), (5, Sl a115 out_114 c116), (6, Sl a105 r104 c106), (7, I i_119), (30, B ((lN out_114) == 1000000))], []⟩ fun a hS => ?_)
    refine wcond hS (b := ((lN out_114) == 1000000)) kr (fun hb => ?_) (fun hb => ?_)
    ·replace hm := hm.1 hb
     refine drawnSX [] mixed hS ?_
     intro w131 χ132 hS hE hD hH
     replace hO := hO.mv hE rfl rfl
     replace h118 := h118.mv hE rfl
     refine tk T [0, 1, 7] [] hS hH #[true, true, false, false, false, false, false, true, false, false] 7 ⟨[(2, V (.slice none 0 0)), (31, Sl a105 r104 c106), (32, I i_119)], []⟩ fun a hS => ?_
     obtain ⟨hq, hm⟩ := hm
     refine dindex (e := 65) (k := .i64) T 2 hS kr kr kr (by rfl) kr hH kr kr h118 kr kr hq.1 hq.2 ?_
     intro A133 a h134 hS
     have h134b := h134.here
     refine dload1 T 3 hS kr kr kr (by rfl) kr hH kr h134 h134b rfl kr ?_
     intro v135 a hv hS
     obtain ⟨a136, c137, hv, h138⟩ := hv
     cases hv
     replace hm := hm (h138.sm kr)
     obtain ⟨hq, hm⟩ := hm
     refine dindex (e := 64) (k := .i64) T 4 hS kr kr kr (by rfl) kr hH kr kr h138 kr kr hq.1 hq.2 ?_
     intro A139 a h140 hS
     have h140b := h140.here
     refine dfieldA (off := 1) (fsz := 1) (ft := 3) (TF := tI) (y := (gi (gi r104 i_119) 0).At) 5 T hS kr kr kr (by rfl) kr hH kr h140 kr kr kr (fun cs h => Ref05_Token_f1 h) ?_
     intro A141 a h142 hbl hS
     have h142b := h140b
     rw [← hbl] at h142b
     clear hbl
     refine dload1 T 6 hS kr kr kr (by rfl) kr hH kr h142 h142b rfl kr ?_
     intro v143 a hv hS
     cases hv
     refine tk T [8, 9] [] hS hH #[true, true, true, true, true, true, true, true, true, true] 0 ⟨[(2, V (.slice none 0 0)), (3, I ((gi (gi r104 i_119) 0).At)), (4, I 3)], []⟩ fun a hS => ?_
     refine drawnDone kr ?_
     clear hD hH
     replace hS := hS.sl ⟨[(2, V (.slice none 0 0)), (3, I ((gi (gi r104 i_119) 0).At)), (4, I 3)], []⟩
     refine wret ?_
     exact fin T hS hO (fun c => c) rfl (r := [.slice none 0 0, .int .i64 ((gi (gi r104 i_119) 0).At), .int .i64 3]) kr (fun χ' hM hC => ⟨([], (gi (gi r104 i_119) 0).At, 3), hm, none, 0, rfl, RS.empty _ _ _⟩)
    replace hm := hm.2 hb
    refine wskip ?_
    refine regO ?_
    refine oP T hS 2 ⟨[(0, Z s_), (5, Sl a115 out_114 c116), (6, Sl a105 r104 c106), (7, I i_119), (39, Sl a105 r104 c106), (40, I i_119)], []⟩ fun a hS => ?_
    obtain ⟨hq, hm⟩ := hm
    refine op1 (index (e := 65) (k := .i64) T hS kr kr kr kr h118 kr kr hq.1 hq.2 ?_)
    intro A144 a h145 hS
    refine op1 (load1 T hS kr kr kr h145 rfl kr ?_)
    intro v146 a hv hS
    obtain ⟨a147, c148, hv, h149⟩ := hv
    cases hv
    replace hm := hm (h149.sm kr)
    obtain ⟨hq, hm⟩ := hm
    refine op1 (call hS kr kr hb53 kr (fun _ _ => rfl) (k53 _ _ (gi r104 i_119) a147 c148 hq h149) ?_)
    intro v150 a w151 χ152 hE hp hS
    replace hO := hO.mv hE rfl rfl
    replace h117 := h117.mv hE rfl rfl
    replace h118 := h118.mv hE rfl
    replace h145 := h145.mv hE rfl
    replace h149 := h149.mv hE rfl
    obtain ⟨a154, c155, a157, c158, hp, h156, h159⟩ := hp
    obtain ⟨r153, hr⟩ : ∃ r, ref10_step (gi r104 i_119) = r := ⟨_, rfl⟩
    replace hm := hm r153 hr
    rw [hr] at hp h156 h159
    clear hr
    subst hp
    replace hm := hm (h156.sm kr)
    replace hm := hm (h159.sm kr)
    refine eM T hS ⟨[(0, Z s_), (5, Sl a115 out_114 c116), (6, Sl a105 r104 c106), (7, I i_119), (8, Pt 9 0), (9, I r153.2.1), (10, I r153.2.2)], [(9, (98, [I r153.1.Kind, I r153.1.Id, Sl a154 r153.1.Lits c155, Sl a157 r153.1.Hints c158]))]⟩ fun ρ a w169 χ170 hS hE hr => ?_
    replace hO := hO.mv hE rfl rfl
    replace h117 := h117.mv hE rfl rfl
    replace h118 := h118.mv hE rfl
    replace h156 := h156.mv hE rfl
    replace h159 := h159.mv hE rfl
    clear hE hr
    refine wseq (rP T hS ⟨[(0, Z s_), (5, Sl a115 out_114 c116), (6, Sl a105 r104 c106), (7, I i_119), (8, Pt 9 0), (9, I r153.2.1), (10, I r153.2.2), (48, B (r153.2.2 != 0))], [(9, (98, [I r153.1.Kind, I r153.1.Id, Sl a154 r153.1.Lits c155, Sl a157 r153.1.Hints c158]))]⟩ fun a hS => ?_)
    refine wcond hS (b := (r153.2.2 != 0)) kr (fun hb => ?_) (fun hb => ?_)
    ·replace hm := hm.1 hb
     refine rP T hS ⟨[(2, V (.slice none 0 0)), (3, I r153.2.1), (4, I r153.2.2)], []⟩ fun a hS => ?_
     refine wret ?_
     exact fin T hS hO (fun c => c) rfl (r := [.slice none 0 0, .int .i64 r153.2.1, .int .i64 r153.2.2]) kr (fun χ' hM hC => ⟨([], r153.2.1, r153.2.2), hm, none, 0, rfl, RS.empty _ _ _⟩)
    replace hm := hm.2 hb
    refine wskip ?_
    refine region ?_
    refine oP T hS 2 ⟨[(0, Z s_), (5, Sl a115 out_114 c116), (6, Sl a105 r104 c106), (7, I i_119), (51, Sl a115 out_114 c116), (52, V (.agg #[.int .i64 r153.1.Kind, .int .i64 r153.1.Id, .slice a154 r153.1.Lits.length c155, .slice a157 r153.1.Hints.length c158]))], []⟩ fun a hS => ?_
    refine op1 (lit (E := 98) (col := 0) (T := tApi_Step) (vals := [.agg #[.int .i64 r153.1.Kind, .int .i64 r153.1.Id, .slice a154 r153.1.Lits.length c155, .slice a157 r153.1.Hints.length c158]]) (ys := [r153.1]) T hS kr kr kr kr (by exact ⟨⟨a154, c155, a157, c158, rfl, h156, h159⟩, trivial⟩) rfl kr kr kr kr ?_)
    intro b160 a w161 χ162 hE h163 hN hS
    clear hN
    replace hO := hO.mv hE rfl rfl
    replace h117 := h117.mv hE rfl rfl
    replace h118 := h118.mv hE rfl
    replace h156 := h156.mv hE rfl
    replace h159 := h159.mv hE rfl
    replace h163 := h163.rs0
    obtain ⟨hq, hm⟩ := hm
    obtain ⟨news, hN⟩ := h163.src
    refine op1 (append (E := 98) (T := tApi_Step) (col := 1003) (xs := out_114) T hS kr kr kr kr h117 hN kr kr kr kr hq ?_)
    intro a167 c168 a w164 χ165 hE h166 hS
    clear hq hN
    clear h117
    replace hO := hO.mv hE rfl rfl
    replace h118 := h118.mv hE rfl
    replace h156 := h156.mv hE rfl
    replace h159 := h159.mv hE rfl
    replace h163 := h163.mv hE rfl
    refine eP T hS ⟨[(0, Z s_), (5, Sl a167 (out_114 ++ [r153.1]) c168), (6, Sl a105 r104 c106), (7, I i_119)], []⟩ fun a hS => ?_
    exact ⟨ρ, _, out_114 ++ [r153.1], a167, c168, hm, hS.sl _, hO, h166, h118⟩
   rintro a w172 ⟨ρ, χ171, out_120, a121, c122, hm, hS, hO, h123, h124⟩
   unfold VC28_J2 at hm
   refine region (eP T hS ⟨[(0, Z s_), (5, Sl a121 out_120 c122), (6, Sl a105 r104 c106), (7, I (wR (i_119 + 1)))], []⟩ fun a hS => ?_)
   exact ⟨⟨out_120, wR (i_119 + 1)⟩, ⟨ρ, _, a121, c122, hm.1, hS.sl _, hO, h123, h124⟩, hm.2⟩
  replace hm := hm.2 hb
  refine wexit (by rfl) ?_
  exact ⟨ρ, _, out_114, a115, c116, hm, hS.sl _, hO, h117⟩
 rintro a w176 ⟨ρ, χ175, out_108, a109, c110, hm, hS, hO, h111⟩
 unfold VC28_J1 at hm
 refine rP T hS ⟨[(2, Sl a109 out_108 c110), (3, I (lN s_)), (4, I 0)], []⟩ fun a hS => ?_
 refine wret ?_
 obtain ⟨χ112, hE, hF⟩ := h111.freeze (by decide)
 replace hS := hS.ev hE (xone_box kr)
 replace hO := hO.mv hE rfl rfl
 have h113 := hF; clear hE hF
 exact fin T hS hO (fun c => c) rfl (r := [.slice a109 out_108.length c110, .int .i64 (lN s_), .int .i64 0]) kr (fun χ' hM hC => ⟨(out_108, (lN s_), 0), hm, a109, c110, rfl, h113.m0 hM⟩)
theorem C28 (k24 : S24) (k53 : S53) (v : ∀ (s_ : List UInt8), VC28 s_ (fun r => r = ref10_Parse s_)) : S28 := by
 intro w χ s_    
 refine (W28 k24 k53 w χ s_    _ (v s_)).mono ?_
 rintro _ _ _ _ ⟨r, rfl, h⟩
 exact h
end Go.Proofs.YtkgcdoeldilhaaaGreatDoor
