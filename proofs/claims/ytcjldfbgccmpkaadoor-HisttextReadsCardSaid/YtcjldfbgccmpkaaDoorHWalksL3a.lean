/- Walks: each function returns what its condition asks. Condition: the contracts of its callees, handed in. -/
import Derived.Test.YtcjldfbgccmpkaaDoorHWalksS
set_option linter.all false
namespace Go.Proofs.YtcjldfbgccmpkaaDoor
open Go Go.Sv
set_option maxHeartbeats 1000000
/-- replevin/replevinref05.gap -/
theorem W44 (w0 : World) (χ0 : Nat → Nat) (b_ : Int) (Q : Bool → Prop) (hm : VC44 b_ Q) :
  Ret Tryd.prog 44 #[.int .u8 b_] xnone w0 χ0 (fun w χ' v => ∃ r, Q r ∧ v = .bool r) := by
 unfold VC44 at hm
 refine enter Tryd.func44 rfl (vals := [.int .u8 b_]) kr ?_
 intro ρ a hS hO hM
 clear hM
 refine rP T hS ⟨[(0, V (.int .u8 b_))], []⟩ fun a hS => ?_
 refine rP T hS ⟨[(2, B (((b_ == 32) || (b_ == 9)) || (b_ == 13)))], []⟩ (sp := [5, 9]) fun a hS => ?_
 refine wret ?_
 exact fin T hS hO (fun c => c) rfl (r := [.bool (((b_ == 32) || (b_ == 9)) || (b_ == 13))]) kr (fun χ' hM hC => ⟨(((b_ == 32) || (b_ == 9)) || (b_ == 13)), hm, rfl⟩)
theorem C44 (v : ∀ (b_ : Int), VC44 b_ (fun r => r = ref05_gap b_)) : S44 := by
 intro w χ b_    
 refine (W44 w χ b_    _ (v b_)).mono ?_
 rintro _ _ _ _ ⟨r, rfl, h⟩
 exact h
/-- replevin/replevinref05.Lines -/
theorem W20 (k44 : S44) (w0 : World) (χ0 : Nat → Nat) (s_ : List UInt8) (Q : (List (List Ref05_Token)) → Prop) (hm : VC20 s_ Q) :
  Ret Tryd.prog 20 #[.string (bs s_)] xnone w0 χ0 (fun w χ' v => ∃ r, Q r ∧ ∃ (ra1 : Option Addr) (rc1 : Nat), v = .slice ra1 r.length rc1 ∧ RS (tSlice tRef05_Token) w χ' ra1 r rc1) := by
 unfold VC20 at hm
 refine enter Tryd.func20 rfl (vals := [.string (bs s_)]) kr ?_
 intro ρ a hS hO hM
 clear hM
 refine rP T hS ⟨[(0, Z s_)], []⟩ fun a hS => ?_
 refine rP T hS ⟨[(0, Z s_), (3, V (.slice none 0 0))], []⟩ fun a hS => ?_
 refine rP T hS ⟨[(0, Z s_), (3, V (.slice none 0 0)), (4, I 0)], []⟩ fun a hS => ?_
 refine wcut (fun a w => ∃ (ρ : Nat → Nat) (χ : Nat → Nat) (out_101 : List (List Ref05_Token)) (a102 : Option Addr) (c103 : Nat), VC20_J1 Q out_101 ∧ St Tryd.f20.ntmps ⟨[(3, Sl a102 out_101 c103)], []⟩ ρ a w χ ∧ Old w0 χ0 w χ ∧ OS (tSlice tRef05_Token) 64 w χ 1003 a102 out_101 c103) ?_ ?_
 ·refine wblock ?_
  obtain ⟨I1, μ1, hm0, hm⟩ := hm
  refine wloop (σ := (List (List Ref05_Token)) × Int) (fun s a w => ∃ (ρ : Nat → Nat) (χ : Nat → Nat) (a108 : Option Addr) (c109 : Nat), I1 s.1 s.2 ∧ St Tryd.f20.ntmps ⟨[(0, Z s_), (3, Sl a108 s.1 c109), (4, I s.2)], []⟩ ρ a w χ ∧ Old w0 χ0 w χ ∧ OS (tSlice tRef05_Token) 64 w χ 1003 a108 s.1 c109) (fun s => μ1 s.1 s.2) (⟨[], 0⟩) ?_ ?_
  ·exact ⟨ρ, _, none, 0, hm0, hS.sl _, hO, (OS.nil _ _ _ _ _)⟩
  ·rintro ⟨out_107, at_111⟩ a w234 ⟨ρ, χ233, a108, c109, hI, hS, hO, h110⟩
   replace hm := hm out_107 at_111 hI
   clear hI hm0
   refine wseq ?_
   refine rP T hS ⟨[(0, Z s_), (3, Sl a108 out_107 c109), (4, I at_111), (13, B (decide (at_111 < ((s_.length : Nat) : Int))))], []⟩ fun a hS => ?_
   refine wcond hS (b := decide (at_111 < ((s_.length : Nat) : Int))) kr (fun hb => ?_) (fun hb => ?_)
   ·replace hm := hm.1 hb
    refine wskip ?_
    refine wblock ?_
    refine rP T hS ⟨[(0, Z s_), (3, Sl a108 out_107 c109), (4, I at_111), (5, I at_111)], []⟩ fun a hS => ?_
    refine wcut (fun a w => ∃ (ρ : Nat → Nat) (χ : Nat → Nat) (out_112 : List (List Ref05_Token)) (end_116 : Int) (a113 : Option Addr) (c114 : Nat), VC20_J2 s_ I1 μ1 out_107 at_111 out_112 end_116 ∧ St Tryd.f20.ntmps ⟨[(0, Z s_), (3, Sl a113 out_112 c114), (4, I at_111), (5, I end_116)], []⟩ ρ a w χ ∧ Old w0 χ0 w χ ∧ OS (tSlice tRef05_Token) 64 w χ 1003 a113 out_112 c114) ?_ ?_
    ·refine wblock ?_
     obtain ⟨I4, μ4, hm0, hm⟩ := hm
     refine wloop (σ := (List (List Ref05_Token)) × Int) (fun s a w => ∃ (ρ : Nat → Nat) (χ : Nat → Nat) (a218 : Option Addr) (c219 : Nat), I4 s.1 s.2 ∧ St Tryd.f20.ntmps ⟨[(0, Z s_), (3, Sl a218 s.1 c219), (4, I at_111), (5, I s.2)], []⟩ ρ a w χ ∧ Old w0 χ0 w χ ∧ OS (tSlice tRef05_Token) 64 w χ 1003 a218 s.1 c219) (fun s => μ4 s.1 s.2) (⟨out_107, at_111⟩) ?_ ?_
     ·exact ⟨ρ, _, a108, c109, hm0, hS.sl _, hO, h110⟩
     ·rintro ⟨out_217, end_221⟩ a w230 ⟨ρ, χ229, a218, c219, hI, hS, hO, h220⟩
      replace hm := hm out_217 end_221 hI
      clear hI hm0
      refine wseq ?_
      refine wcut (fun a w => ∃ (ρ : Nat → Nat) (χ : Nat → Nat) (out_222 : List (List Ref05_Token)) (x_226 : Bool) (a223 : Option Addr) (c224 : Nat), VC20_J8 s_ I1 μ1 out_107 at_111 I4 μ4 out_217 end_221 out_222 x_226 ∧ St Tryd.f20.ntmps ⟨[(0, Z s_), (3, Sl a223 out_222 c224), (4, I at_111), (5, I end_221), (24, B x_226)], []⟩ ρ a w χ ∧ Old w0 χ0 w χ ∧ OS (tSlice tRef05_Token) 64 w χ 1003 a223 out_222 c224) ?_ ?_
      ·refine region ?_
       refine oP T hS 5 ⟨[(0, Z s_), (3, Sl a218 out_217 c219), (4, I at_111), (5, I end_221), (19, B (decide (end_221 < ((s_.length : Nat) : Int))))], []⟩ fun a hS => ?_
       rcases Bool.eq_false_or_eq_true (decide (end_221 < ((s_.length : Nat) : Int))) with hb | hb
       ·replace hS := hS.lit (t := 19) kr hb
        replace hm := hm.1 hb
        refine oP T hS 2 ⟨[(0, Z s_), (3, Sl a218 out_217 c219), (4, I at_111), (5, I end_221), (19, B true), (20, Z s_), (21, I end_221)], []⟩ fun a hS => ?_
        obtain ⟨hq, hm⟩ := hm
        refine op1 (sindex (k := .i64) T hS kr kr kr kr kr hq.1 hq.2 ?_)
        intro a hS
        clear hq
        refine eP T hS ⟨[(0, Z s_), (3, Sl a218 out_217 c219), (4, I at_111), (5, I end_221), (20, Z s_), (21, I end_221), (22, V (.int .u8 ((gi s_ end_221).toNat : Int))), (23, B (((gi s_ end_221).toNat : Int) != 10)), (24, B (((gi s_ end_221).toNat : Int) != 10))], []⟩ fun a hS => ?_
        exact ⟨ρ, _, out_217, (((gi s_ end_221).toNat : Int) != 10), a218, c219, hm, hS.sl _, hO, h220⟩
       ·replace hS := hS.lit (t := 19) kr hb
        replace hm := hm.2 hb
        refine eP T hS ⟨[(0, Z s_), (3, Sl a218 out_217 c219), (4, I at_111), (5, I end_221), (24, B false)], []⟩ fun a hS => ?_
        exact ⟨ρ, _, out_217, false, a218, c219, hm, hS.sl _, hO, h220⟩
      ·rintro a w228 ⟨ρ, χ227, out_222, x_226, a223, c224, hm, hS, hO, h225⟩
       unfold VC20_J8 at hm
       refine wcond hS (b := x_226) kr (fun hb => ?_) (fun hb => ?_)
       ·replace hm := hm.1 hb
        refine wskip ?_
        refine wblock ?_
        refine region (eP T hS ⟨[(0, Z s_), (3, Sl a223 out_222 c224), (4, I at_111), (5, I (IntKind.i64.wrap (end_221 + 1)))], []⟩ fun a hS => ?_)
        exact ⟨⟨out_222, IntKind.i64.wrap (end_221 + 1)⟩, ⟨ρ, _, a223, c224, hm.1, hS.sl _, hO, h225⟩, hm.2⟩
       ·replace hm := hm.2 hb
        refine wexit (by rfl) ?_
        exact ⟨ρ, _, out_222, end_221, a223, c224, hm, hS.sl _, hO, h225⟩
    ·rintro a w232 ⟨ρ, χ231, out_112, end_116, a113, c114, hm, hS, hO, h115⟩
     unfold VC20_J2 at hm
     refine rP T hS ⟨[(0, Z s_), (3, Sl a113 out_112 c114), (4, I at_111), (5, I end_116), (6, V (.slice none 0 0))], []⟩ fun a hS => ?_
     refine wcut (fun a w => ∃ (ρ : Nat → Nat) (χ : Nat → Nat) (out_117 : List (List Ref05_Token)) (remark_121 : Bool) (a118 : Option Addr) (c119 : Nat), VC20_J3 s_ I1 μ1 out_107 at_111 end_116 out_117 remark_121 ∧ St Tryd.f20.ntmps ⟨[(0, Z s_), (3, Sl a118 out_117 c119), (4, I at_111), (5, I end_116), (6, V (.slice none 0 0)), (7, B remark_121)], []⟩ ρ a w χ ∧ Old w0 χ0 w χ ∧ OS (tSlice tRef05_Token) 64 w χ 1003 a118 out_117 c119) ?_ ?_
     ·refine region ?_
      refine oP T hS 3 ⟨[(0, Z s_), (3, Sl a113 out_112 c114), (4, I at_111), (5, I end_116), (6, V (.slice none 0 0)), (27, Z s_), (28, I at_111), (29, I end_116)], []⟩ fun a hS => ?_
      obtain ⟨hq, hm⟩ := hm
      refine op1 (sslice2 (kl := .i64) (kh := .i64) (s := s_) T hS kr kr kr kr kr kr hq.1 hq.2.1 hq.2.2 ?_)
      intro a hS
      clear hq
      refine oP T hS 2 ⟨[(0, Z s_), (3, Sl a113 out_112 c114), (4, I at_111), (5, I end_116), (6, V (.slice none 0 0)), (32, B (((s_.take end_116.toNat).drop at_111.toNat) == ([99] : List UInt8)))], []⟩ fun a hS => ?_
      rcases Bool.eq_false_or_eq_true (((s_.take end_116.toNat).drop at_111.toNat) == ([99] : List UInt8)) with hb | hb
      ·replace hS := hS.lit (t := 32) kr hb
       replace hm := hm.1 hb
       refine eP T hS ⟨[(0, Z s_), (3, Sl a113 out_112 c114), (4, I at_111), (5, I end_116), (6, V (.slice none 0 0)), (7, B true)], []⟩ fun a hS => ?_
       exact ⟨ρ, _, out_112, true, a113, c114, hm, hS.sl _, hO, h115⟩
      ·replace hS := hS.lit (t := 32) kr hb
       replace hm := hm.2 hb
       refine oP T hS 5 ⟨[(0, Z s_), (3, Sl a113 out_112 c114), (4, I at_111), (5, I end_116), (6, V (.slice none 0 0)), (32, B false), (33, I end_116), (34, I at_111), (35, I (IntKind.i64.wrap (end_116 - at_111))), (36, B (decide ((IntKind.i64.wrap (end_116 - at_111)) ≥ 2))), (37, B (decide ((IntKind.i64.wrap (end_116 - at_111)) ≥ 2)))], []⟩ fun a hS => ?_
       rcases Bool.eq_false_or_eq_true (decide ((IntKind.i64.wrap (end_116 - at_111)) ≥ 2)) with hb | hb
       ·replace hS := hS.lit (t := 37) kr hb
        replace hm := hm.1 hb
        refine oP T hS 4 ⟨[(0, Z s_), (3, Sl a113 out_112 c114), (4, I at_111), (5, I end_116), (6, V (.slice none 0 0)), (32, B false), (33, I end_116), (34, I at_111), (35, I (IntKind.i64.wrap (end_116 - at_111))), (36, B (decide ((IntKind.i64.wrap (end_116 - at_111)) ≥ 2))), (37, B true), (38, Z s_), (39, I at_111), (40, I at_111), (41, I (IntKind.i64.wrap (at_111 + 2)))], []⟩ fun a hS => ?_
        obtain ⟨hq, hm⟩ := hm
        refine op1 (sslice2 (kl := .i64) (kh := .i64) (s := s_) T hS kr kr kr kr kr kr hq.1 hq.2.1 hq.2.2 ?_)
        intro a hS
        clear hq
        refine eP T hS ⟨[(0, Z s_), (3, Sl a113 out_112 c114), (4, I at_111), (5, I end_116), (6, V (.slice none 0 0)), (7, B (((s_.take (IntKind.i64.wrap (at_111 + 2)).toNat).drop at_111.toNat) == ([99, 32] : List UInt8))), (33, I end_116), (34, I at_111), (35, I (IntKind.i64.wrap (end_116 - at_111))), (36, B (decide ((IntKind.i64.wrap (end_116 - at_111)) ≥ 2))), (37, B true), (38, Z s_), (39, I at_111), (40, I at_111), (41, I (IntKind.i64.wrap (at_111 + 2))), (42, Z ((s_.take (IntKind.i64.wrap (at_111 + 2)).toNat).drop at_111.toNat)), (43, B (((s_.take (IntKind.i64.wrap (at_111 + 2)).toNat).drop at_111.toNat) == ([99, 32] : List UInt8))), (44, B (((s_.take (IntKind.i64.wrap (at_111 + 2)).toNat).drop at_111.toNat) == ([99, 32] : List UInt8)))], []⟩ fun a hS => ?_
        exact ⟨ρ, _, out_112, (((s_.take (IntKind.i64.wrap (at_111 + 2)).toNat).drop at_111.toNat) == ([99, 32] : List UInt8)), a113, c114, hm, hS.sl _, hO, h115⟩
       ·replace hS := hS.lit (t := 37) kr hb
        replace hm := hm.2 hb
        refine eP T hS ⟨[(0, Z s_), (3, Sl a113 out_112 c114), (4, I at_111), (5, I end_116), (6, V (.slice none 0 0)), (7, B false), (33, I end_116), (34, I at_111), (35, I (IntKind.i64.wrap (end_116 - at_111))), (36, B (decide ((IntKind.i64.wrap (end_116 - at_111)) ≥ 2))), (37, B false), (44, B false)], []⟩ fun a hS => ?_
        exact ⟨ρ, _, out_112, false, a113, c114, hm, hS.sl _, hO, h115⟩
     ·rintro a w216 ⟨ρ, χ215, out_117, remark_121, a118, c119, hm, hS, hO, h120⟩
      unfold VC20_J3 at hm
      refine wcut (fun a w => ∃ (ρ : Nat → Nat) (χ : Nat → Nat) (out_122 : List (List Ref05_Token)) (row_126 : List Ref05_Token) (a123 : Option Addr) (c124 : Nat) (a127 : Option Addr) (c128 : Nat), VC20_J4 I1 μ1 out_107 at_111 end_116 out_122 row_126 ∧ St Tryd.f20.ntmps ⟨[(0, Z s_), (3, Sl a123 out_122 c124), (5, I end_116), (6, Sl a127 row_126 c128)], []⟩ ρ a w χ ∧ Old w0 χ0 w χ ∧ OS (tSlice tRef05_Token) 64 w χ 1003 a123 out_122 c124 ∧ OS tRef05_Token 102 w χ 1007 a127 row_126 c128) ?_ ?_
      ·refine rP T hS ⟨[(0, Z s_), (3, Sl a118 out_117 c119), (5, I end_116), (6, V (.slice none 0 0)), (7, B remark_121), (8, I at_111)], []⟩ fun a hS => ?_
       refine wblock ?_
       obtain ⟨I2, μ2, hm0, hm⟩ := hm
       refine wloop (σ := (List (List Ref05_Token)) × (List Ref05_Token) × Int) (fun s a w => ∃ (ρ : Nat → Nat) (χ : Nat → Nat) (a142 : Option Addr) (c143 : Nat) (a146 : Option Addr) (c147 : Nat), I2 s.1 s.2.1 s.2.2 ∧ St Tryd.f20.ntmps ⟨[(0, Z s_), (3, Sl a142 s.1 c143), (5, I end_116), (6, Sl a146 s.2.1 c147), (7, B remark_121), (8, I s.2.2)], []⟩ ρ a w χ ∧ Old w0 χ0 w χ ∧ OS (tSlice tRef05_Token) 64 w χ 1003 a142 s.1 c143 ∧ OS tRef05_Token 102 w χ 1007 a146 s.2.1 c147) (fun s => μ2 s.1 s.2.1 s.2.2) (⟨out_117, [], at_111⟩) ?_ ?_
       ·exact ⟨ρ, _, a118, c119, none, 0, hm0, hS.sl _, hO, h120, (OS.nil _ _ _ _ _)⟩
       ·rintro ⟨out_141, row_145, i_149⟩ a w212 ⟨ρ, χ211, a142, c143, a146, c147, hI, hS, hO, h144, h148⟩
        replace hm := hm out_141 row_145 i_149 hI
        clear hI hm0
        refine wseq ?_
        refine rP T hS ⟨[(0, Z s_), (3, Sl a142 out_141 c143), (5, I end_116), (6, Sl a146 row_145 c147), (7, B remark_121), (8, I i_149), (53, B ((decide (i_149 < end_116)) && (!remark_121)))], []⟩ (sp := [50]) fun a hS => ?_
        refine wcond hS (b := ((decide (i_149 < end_116)) && (!remark_121))) kr (fun hb => ?_) (fun hb => ?_)
        ·replace hm := hm.1 hb
         refine wskip ?_
         refine wcut (fun a w => ∃ (ρ : Nat → Nat) (χ : Nat → Nat) (out_150 : List (List Ref05_Token)) (row_154 : List Ref05_Token) (i_158 : Int) (a151 : Option Addr) (c152 : Nat) (a155 : Option Addr) (c156 : Nat), VC20_J5 I2 μ2 out_141 row_145 i_149 out_150 row_154 i_158 ∧ St Tryd.f20.ntmps ⟨[(0, Z s_), (3, Sl a151 out_150 c152), (5, I end_116), (6, Sl a155 row_154 c156), (7, B remark_121), (8, I i_158)], []⟩ ρ a w χ ∧ Old w0 χ0 w χ ∧ OS (tSlice tRef05_Token) 64 w χ 1003 a151 out_150 c152 ∧ OS tRef05_Token 102 w χ 1007 a155 row_154 c156) ?_ ?_
         ·refine wblock ?_
          refine wseq ?_
          refine regO ?_
          refine oP T hS 2 ⟨[(0, Z s_), (3, Sl a142 out_141 c143), (5, I end_116), (6, Sl a146 row_145 c147), (7, B remark_121), (8, I i_149), (56, Z s_), (57, I i_149)], []⟩ fun a hS => ?_
          obtain ⟨hq, hm⟩ := hm
          refine op1 (sindex (k := .i64) T hS kr kr kr kr kr hq.1 hq.2 ?_)
          intro a hS
          clear hq
          refine op1 (call hS kr kr hb44 kr (fun _ _ => rfl) (k44 _ _ ((gi s_ i_149).toNat : Int)) ?_)
          intro v159 a w160 χ161 hE hp hS
          replace hO := hO.mv hE rfl rfl
          replace h144 := h144.mv hE rfl rfl
          replace h148 := h148.mv hE rfl rfl
          clear hE
          obtain ⟨r162, hr⟩ : ∃ r, ref05_gap ((gi s_ i_149).toNat : Int) = r := ⟨_, rfl⟩
          replace hm := hm r162 hr
          rw [hr] at hp
          clear hr
          subst hp
          refine doneK ?_
          refine wcond hS (b := r162) kr (fun hb => ?_) (fun hb => ?_)
          ·replace hm := hm.1 hb
           refine wexit (by rfl) ?_
           exact ⟨ρ, _, out_141, row_145, i_149, a142, c143, a146, c147, hm, hS.sl _, hO, h144, h148⟩
          ·replace hm := hm.2 hb
           refine wskip ?_
           refine rP T hS ⟨[(0, Z s_), (3, Sl a142 out_141 c143), (5, I end_116), (6, Sl a146 row_145 c147), (7, B remark_121), (8, I i_149), (9, I i_149)], []⟩ fun a hS => ?_
           refine wcut (fun a w => ∃ (ρ : Nat → Nat) (χ : Nat → Nat) (out_163 : List (List Ref05_Token)) (row_167 : List Ref05_Token) (k_171 : Int) (a164 : Option Addr) (c165 : Nat) (a168 : Option Addr) (c169 : Nat), VC20_J6 s_ I2 μ2 out_141 row_145 i_149 out_163 row_167 k_171 ∧ St Tryd.f20.ntmps ⟨[(0, Z s_), (3, Sl a164 out_163 c165), (5, I end_116), (6, Sl a168 row_167 c169), (7, B remark_121), (8, I i_149), (9, I k_171)], []⟩ ρ a w χ ∧ Old w0 χ0 w χ ∧ OS (tSlice tRef05_Token) 64 w χ 1003 a164 out_163 c165 ∧ OS tRef05_Token 102 w χ 1007 a168 row_167 c169) ?_ ?_
           ·refine wblock ?_
            obtain ⟨I3, μ3, hm0, hm⟩ := hm
            refine wloop (σ := (List (List Ref05_Token)) × (List Ref05_Token) × Int) (fun s a w => ∃ (ρ : Nat → Nat) (χ : Nat → Nat) (a182 : Option Addr) (c183 : Nat) (a186 : Option Addr) (c187 : Nat), I3 s.1 s.2.1 s.2.2 ∧ St Tryd.f20.ntmps ⟨[(0, Z s_), (3, Sl a182 s.1 c183), (5, I end_116), (6, Sl a186 s.2.1 c187), (7, B remark_121), (8, I i_149), (9, I s.2.2)], []⟩ ρ a w χ ∧ Old w0 χ0 w χ ∧ OS (tSlice tRef05_Token) 64 w χ 1003 a182 s.1 c183 ∧ OS tRef05_Token 102 w χ 1007 a186 s.2.1 c187) (fun s => μ3 s.1 s.2.1 s.2.2) (⟨out_141, row_145, i_149⟩) ?_ ?_
            ·exact ⟨ρ, _, a142, c143, a146, c147, hm0, hS.sl _, hO, h144, h148⟩
            ·rintro ⟨out_181, row_185, k_189⟩ a w206 ⟨ρ, χ205, a182, c183, a186, c187, hI, hS, hO, h184, h188⟩
             replace hm := hm out_181 row_185 k_189 hI
             clear hI hm0
             refine wseq ?_
             refine wcut (fun a w => ∃ (ρ : Nat → Nat) (χ : Nat → Nat) (out_190 : List (List Ref05_Token)) (row_194 : List Ref05_Token) (x_198 : Bool) (a191 : Option Addr) (c192 : Nat) (a195 : Option Addr) (c196 : Nat), VC20_J7 s_ I2 μ2 out_141 row_145 i_149 I3 μ3 out_181 row_185 k_189 out_190 row_194 x_198 ∧ St Tryd.f20.ntmps ⟨[(0, Z s_), (3, Sl a191 out_190 c192), (5, I end_116), (6, Sl a195 row_194 c196), (7, B remark_121), (8, I i_149), (9, I k_189), (70, B x_198)], []⟩ ρ a w χ ∧ Old w0 χ0 w χ ∧ OS (tSlice tRef05_Token) 64 w χ 1003 a191 out_190 c192 ∧ OS tRef05_Token 102 w χ 1007 a195 row_194 c196) ?_ ?_
             ·refine region ?_
              refine oP T hS 4 ⟨[(0, Z s_), (3, Sl a182 out_181 c183), (5, I end_116), (6, Sl a186 row_185 c187), (7, B remark_121), (8, I i_149), (9, I k_189), (64, B (decide (k_189 < end_116)))], []⟩ fun a hS => ?_
              rcases Bool.eq_false_or_eq_true (decide (k_189 < end_116)) with hb | hb
              ·replace hS := hS.lit (t := 64) kr hb
               replace hm := hm.1 hb
               refine oP T hS 2 ⟨[(0, Z s_), (3, Sl a182 out_181 c183), (5, I end_116), (6, Sl a186 row_185 c187), (7, B remark_121), (8, I i_149), (9, I k_189), (64, B true), (65, Z s_), (66, I k_189)], []⟩ fun a hS => ?_
               obtain ⟨hq, hm⟩ := hm
               refine op1 (sindex (k := .i64) T hS kr kr kr kr kr hq.1 hq.2 ?_)
               intro a hS
               clear hq
               refine op1 (call hS kr kr hb44 kr (fun _ _ => rfl) (k44 _ _ ((gi s_ k_189).toNat : Int)) ?_)
               intro v199 a w200 χ201 hE hp hS
               replace hO := hO.mv hE rfl rfl
               replace h184 := h184.mv hE rfl rfl
               replace h188 := h188.mv hE rfl rfl
               clear hE
               obtain ⟨r202, hr⟩ : ∃ r, ref05_gap ((gi s_ k_189).toNat : Int) = r := ⟨_, rfl⟩
               replace hm := hm r202 hr
               rw [hr] at hp
               clear hr
               subst hp
               refine eP T hS ⟨[(0, Z s_), (3, Sl a182 out_181 c183), (5, I end_116), (6, Sl a186 row_185 c187), (7, B remark_121), (8, I i_149), (9, I k_189), (65, Z s_), (66, I k_189), (67, V (.int .u8 ((gi s_ k_189).toNat : Int))), (68, B r202), (69, B (!r202)), (70, B (!r202))], []⟩ fun a hS => ?_
               exact ⟨ρ, _, out_181, row_185, (!r202), a182, c183, a186, c187, hm, hS.sl _, hO, h184, h188⟩
              ·replace hS := hS.lit (t := 64) kr hb
               replace hm := hm.2 hb
               refine eP T hS ⟨[(0, Z s_), (3, Sl a182 out_181 c183), (5, I end_116), (6, Sl a186 row_185 c187), (7, B remark_121), (8, I i_149), (9, I k_189), (70, B false)], []⟩ fun a hS => ?_
               exact ⟨ρ, _, out_181, row_185, false, a182, c183, a186, c187, hm, hS.sl _, hO, h184, h188⟩
             ·rintro a w204 ⟨ρ, χ203, out_190, row_194, x_198, a191, c192, a195, c196, hm, hS, hO, h193, h197⟩
              unfold VC20_J7 at hm
              refine wcond hS (b := x_198) kr (fun hb => ?_) (fun hb => ?_)
              ·replace hm := hm.1 hb
               refine wskip ?_
               refine wblock ?_
               refine region (eP T hS ⟨[(0, Z s_), (3, Sl a191 out_190 c192), (5, I end_116), (6, Sl a195 row_194 c196), (7, B remark_121), (8, I i_149), (9, I (IntKind.i64.wrap (k_189 + 1)))], []⟩ fun a hS => ?_)
               exact ⟨⟨out_190, row_194, IntKind.i64.wrap (k_189 + 1)⟩, ⟨ρ, _, a191, c192, a195, c196, hm.1, hS.sl _, hO, h193, h197⟩, hm.2⟩
              ·replace hm := hm.2 hb
               refine wexit (by rfl) ?_
               exact ⟨ρ, _, out_190, row_194, k_189, a191, c192, a195, c196, hm, hS.sl _, hO, h193, h197⟩
           ·rintro a w208 ⟨ρ, χ207, out_163, row_167, k_171, a164, c165, a168, c169, hm, hS, hO, h166, h170⟩
            unfold VC20_J6 at hm
            refine regO ?_
            refine oP T hS 8 ⟨[(0, Z s_), (3, Sl a164 out_163 c165), (5, I end_116), (6, Sl a168 row_167 c169), (7, B remark_121), (9, I k_171), (73, Sl a168 row_167 c169), (76, I (IntKind.i64.wrap (((out_163.length : Nat) : Int) + 1))), (77, I i_149), (78, Z s_), (79, I i_149), (80, I k_171)], []⟩ fun a hS => ?_
            obtain ⟨hq, hm⟩ := hm
            refine op1 (sslice2 (kl := .i64) (kh := .i64) (s := s_) T hS kr kr kr kr kr kr hq.1 hq.2.1 hq.2.2 ?_)
            intro a hS
            clear hq
            refine oP T hS 1 ⟨[(0, Z s_), (3, Sl a164 out_163 c165), (5, I end_116), (6, Sl a168 row_167 c169), (7, B remark_121), (9, I k_171), (73, Sl a168 row_167 c169), (82, V (.agg #[.int .i64 (IntKind.i64.wrap (((out_163.length : Nat) : Int) + 1)), .int .i64 i_149, .string (bs ((s_.take k_171.toNat).drop i_149.toNat))]))], []⟩ fun a hS => ?_
            refine op1 (lit (E := 102) (col := 0) (T := tRef05_Token) (vals := [.agg #[.int .i64 (IntKind.i64.wrap (((out_163.length : Nat) : Int) + 1)), .int .i64 i_149, .string (bs ((s_.take k_171.toNat).drop i_149.toNat))]]) (ys := [(⟨IntKind.i64.wrap (((out_163.length : Nat) : Int) + 1), i_149, ((s_.take k_171.toNat).drop i_149.toNat)⟩ : Ref05_Token)]) T hS kr kr kr kr (by exact ⟨rfl, trivial⟩) rfl kr kr kr kr ?_)
            intro b172 a w173 χ174 hE h175 hN hS
            clear hN
            replace hO := hO.mv hE rfl rfl
            replace h166 := h166.mv hE rfl rfl
            replace h170 := h170.mv hE rfl rfl
            clear hE
            replace h175 := h175.rs0
            obtain ⟨hq, hm⟩ := hm
            obtain ⟨news, hN⟩ := h175.src
            refine op1 (append (E := 102) (T := tRef05_Token) (col := 1007) (xs := row_167) T hS kr kr kr kr h170 hN kr kr kr kr hq ?_)
            intro a179 c180 a w176 χ177 hE h178 hS
            clear hq hN
            clear h170
            replace hO := hO.mv hE rfl rfl
            replace h166 := h166.mv hE rfl rfl
            replace h175 := h175.mv hE rfl
            clear hE
            refine eP T hS ⟨[(0, Z s_), (3, Sl a164 out_163 c165), (5, I end_116), (6, Sl a179 (row_167 ++ [(⟨IntKind.i64.wrap (((out_163.length : Nat) : Int) + 1), i_149, ((s_.take k_171.toNat).drop i_149.toNat)⟩ : Ref05_Token)]) c180), (7, B remark_121), (9, I k_171)], []⟩ fun a hS => ?_
            refine region (eP T hS ⟨[(0, Z s_), (3, Sl a164 out_163 c165), (5, I end_116), (6, Sl a179 (row_167 ++ [(⟨IntKind.i64.wrap (((out_163.length : Nat) : Int) + 1), i_149, ((s_.take k_171.toNat).drop i_149.toNat)⟩ : Ref05_Token)]) c180), (7, B remark_121), (8, I k_171)], []⟩ fun a hS => ?_)
            exact ⟨ρ, _, out_163, row_167 ++ [(⟨IntKind.i64.wrap (((out_163.length : Nat) : Int) + 1), i_149, ((s_.take k_171.toNat).drop i_149.toNat)⟩ : Ref05_Token)], k_171, a164, c165, a179, c180, hm, hS.sl _, hO, h166, h178⟩
         ·rintro a w210 ⟨ρ, χ209, out_150, row_154, i_158, a151, c152, a155, c156, hm, hS, hO, h153, h157⟩
          unfold VC20_J5 at hm
          refine region (eP T hS ⟨[(0, Z s_), (3, Sl a151 out_150 c152), (5, I end_116), (6, Sl a155 row_154 c156), (7, B remark_121), (8, I (IntKind.i64.wrap (i_158 + 1)))], []⟩ fun a hS => ?_)
          exact ⟨⟨out_150, row_154, IntKind.i64.wrap (i_158 + 1)⟩, ⟨ρ, _, a151, c152, a155, c156, hm.1, hS.sl _, hO, h153, h157⟩, hm.2⟩
        ·replace hm := hm.2 hb
         refine wexit (by rfl) ?_
         exact ⟨ρ, _, out_141, row_145, a142, c143, a146, c147, hm, hS.sl _, hO, h144, h148⟩
      ·rintro a w214 ⟨ρ, χ213, out_122, row_126, a123, c124, a127, c128, hm, hS, hO, h125, h129⟩
       unfold VC20_J4 at hm
       refine regO ?_
       refine oP T hS 2 ⟨[(0, Z s_), (3, Sl a123 out_122 c124), (5, I end_116), (86, Sl a123 out_122 c124), (87, Sl a127 row_126 c128)], []⟩ fun a hS => ?_
       obtain ⟨χ130, hE, hF⟩ := h129.freeze (by decide)
       replace hS := hS.ev hE (xone_box kr)
       replace hO := hO.mv hE rfl rfl
       replace h125 := h125.mv hE rfl rfl
       have h131 := hF; clear hE hF
       refine op1 (lit (E := 64) (col := 0) (T := (tSlice tRef05_Token)) (vals := [.slice a127 row_126.length c128]) (ys := [row_126]) T hS kr kr kr kr (by exact ⟨⟨a127, c128, rfl, h131⟩, trivial⟩) rfl kr kr kr kr ?_)
       intro b132 a w133 χ134 hE h135 hN hS
       clear hN
       replace hO := hO.mv hE rfl rfl
       replace h125 := h125.mv hE rfl rfl
       replace h131 := h131.mv hE rfl
       clear hE
       replace h135 := h135.rs0
       obtain ⟨hq, hm⟩ := hm
       obtain ⟨news, hN⟩ := h135.src
       refine op1 (append (E := 64) (T := (tSlice tRef05_Token)) (col := 1003) (xs := out_122) T hS kr kr kr kr h125 hN kr kr kr kr hq ?_)
       intro a139 c140 a w136 χ137 hE h138 hS
       clear hq hN
       clear h125
       replace hO := hO.mv hE rfl rfl
       replace h131 := h131.mv hE rfl
       replace h135 := h135.mv hE rfl
       clear hE
       refine eP T hS ⟨[(0, Z s_), (3, Sl a139 (out_122 ++ [row_126]) c140), (5, I end_116)], []⟩ fun a hS => ?_
       refine region (eP T hS ⟨[(0, Z s_), (3, Sl a139 (out_122 ++ [row_126]) c140), (4, I (IntKind.i64.wrap (end_116 + 1)))], []⟩ fun a hS => ?_)
       exact ⟨⟨out_122 ++ [row_126], IntKind.i64.wrap (end_116 + 1)⟩, ⟨ρ, _, a139, c140, hm.1, hS.sl _, hO, h138⟩, hm.2⟩
   ·replace hm := hm.2 hb
    refine wexit (by rfl) ?_
    exact ⟨ρ, _, out_107, a108, c109, hm, hS.sl _, hO, h110⟩
 ·rintro a w236 ⟨ρ, χ235, out_101, a102, c103, hm, hS, hO, h104⟩
  unfold VC20_J1 at hm
  refine rP T hS ⟨[(2, Sl a102 out_101 c103)], []⟩ fun a hS => ?_
  refine wret ?_
  obtain ⟨χ105, hE, hF⟩ := h104.freeze (by decide)
  replace hS := hS.ev hE (xone_box kr)
  replace hO := hO.mv hE rfl rfl
  have h106 := hF; clear hE hF
  exact fin T hS hO (fun c => c) rfl (r := [.slice a102 out_101.length c103]) kr (fun χ' hM hC => ⟨out_101, hm, a102, c103, rfl, h106.m0 hM⟩)
theorem C20 (k44 : S44) (v : ∀ (s_ : List UInt8), len1 s_ → VC20 s_ (fun r => r = ref05_Lines s_)) : S20 := by
 intro w χ s_    hp 
 refine (W20 k44 w χ s_    _ (v s_ hp)).mono ?_
 rintro _ _ _ _ ⟨r, rfl, h⟩
 exact h
/-- replevin/replevinref05.Number -/
theorem W67 (k56 : S56) (w0 : World) (χ0 : Nat → Nat) (s_ : List UInt8) (lo : Int) (hi : Int) (Q : Int × Int → Prop) (hm : VC67 s_ lo hi Q) :
  Ret Tryd.prog 67 #[.string (bs s_), .int .i64 lo, .int .i64 hi] xnone w0 χ0 (fun w χ' v => ∃ r, Q r ∧ v = .tuple #[.int .i64 r.1, .int .i64 r.2]) := by
 unfold VC67 at hm
 refine enter Tryd.func67 rfl (vals := [.string (bs s_), .int .i64 lo, .int .i64 hi]) kr ?_
 intro ρ a hS hO hM
 clear hM
 refine rP T hS ⟨[(0, Z s_), (1, I lo), (2, I hi)], []⟩ fun a hS => ?_
 refine rP T hS ⟨[(0, Z s_), (1, I lo), (2, I hi), (8, I 0)], []⟩ fun a hS => ?_
 refine wcut (fun a w => ∃ (ρ : Nat → Nat) (χ : Nat → Nat) (from_101 : Int), VC67_J1 s_ lo hi Q from_101 ∧ St Tryd.f67.ntmps ⟨[(0, Z s_), (1, I lo), (2, I hi), (8, I from_101)], []⟩ ρ a w χ ∧ Old w0 χ0 w χ) ?_ ?_
 ·refine wcut (fun a w => ∃ (ρ : Nat → Nat) (χ : Nat → Nat) (x_127 : Bool), VC67_J7 s_ lo hi Q x_127 ∧ St Tryd.f67.ntmps ⟨[(0, Z s_), (1, I lo), (2, I hi), (8, I 0), (20, B x_127)], []⟩ ρ a w χ ∧ Old w0 χ0 w χ) ?_ ?_
  ·refine region ?_
   refine oP T hS 4 ⟨[(0, Z s_), (1, I lo), (2, I hi), (8, I 0), (16, B (decide (((s_.length : Nat) : Int) > 0)))], []⟩ fun a hS => ?_
   rcases Bool.eq_false_or_eq_true (decide (((s_.length : Nat) : Int) > 0)) with hb | hb
   ·replace hS := hS.lit (t := 16) kr hb
    replace hm := hm.1 hb
    refine oP T hS 1 ⟨[(0, Z s_), (1, I lo), (2, I hi), (8, I 0), (16, B true), (17, Z s_)], []⟩ fun a hS => ?_
    obtain ⟨hq, hm⟩ := hm
    refine op1 (sindex (k := .i64) T hS kr kr kr kr kr hq.1 hq.2 ?_)
    intro a hS
    clear hq
    refine eP T hS ⟨[(0, Z s_), (1, I lo), (2, I hi), (8, I 0), (20, B (((gi s_ 0).toNat : Int) == 45))], []⟩ fun a hS => ?_
    exact ⟨ρ, _, (((gi s_ 0).toNat : Int) == 45), hm, hS.sl _, hO⟩
   ·replace hS := hS.lit (t := 16) kr hb
    replace hm := hm.2 hb
    refine eP T hS ⟨[(0, Z s_), (1, I lo), (2, I hi), (8, I 0), (20, B false)], []⟩ fun a hS => ?_
    exact ⟨ρ, _, false, hm, hS.sl _, hO⟩
  ·rintro a w129 ⟨ρ, χ128, x_127, hm, hS, hO⟩
   unfold VC67_J7 at hm
   refine wcond hS (b := x_127) kr (fun hb => ?_) (fun hb => ?_)
   ·replace hm := hm.1 hb
    refine region (eP T hS ⟨[(0, Z s_), (1, I lo), (2, I hi), (8, I 1)], []⟩ fun a hS => ?_)
    exact ⟨ρ, _, 1, hm, hS.sl _, hO⟩
   ·replace hm := hm.2 hb
    refine wskip ?_
    exact ⟨ρ, _, 0, hm, hS.sl _, hO⟩
 ·rintro a w131 ⟨ρ, χ130, from_101, hm, hS, hO⟩
  unfold VC67_J1 at hm
  refine wseq ?_
  refine wcut (fun a w => ∃ (ρ : Nat → Nat) (χ : Nat → Nat) (x_102 : Bool), VC67_J2 s_ lo hi Q from_101 x_102 ∧ St Tryd.f67.ntmps ⟨[(0, Z s_), (1, I lo), (2, I hi), (8, I from_101), (35, B x_102)], []⟩ ρ a w χ ∧ Old w0 χ0 w χ) ?_ ?_
  ·refine region ?_
   refine oP T hS 5 ⟨[(0, Z s_), (1, I lo), (2, I hi), (8, I from_101), (25, B (from_101 == ((s_.length : Nat) : Int)))], []⟩ fun a hS => ?_
   rcases Bool.eq_false_or_eq_true (from_101 == ((s_.length : Nat) : Int)) with hb | hb
   ·replace hS := hS.lit (t := 25) kr hb
    replace hm := hm.1 hb
    refine eP T hS ⟨[(0, Z s_), (1, I lo), (2, I hi), (8, I from_101), (35, B true)], []⟩ fun a hS => ?_
    exact ⟨ρ, _, true, hm, hS.sl _, hO⟩
   ·replace hS := hS.lit (t := 25) kr hb
    replace hm := hm.2 hb
    refine oP T hS 2 ⟨[(0, Z s_), (1, I lo), (2, I hi), (8, I from_101), (25, B false), (26, Z s_), (27, I from_101)], []⟩ fun a hS => ?_
    obtain ⟨hq, hm⟩ := hm
    refine op1 (sindex (k := .i64) T hS kr kr kr kr kr hq.1 hq.2 ?_)
    intro a hS
    clear hq
    refine eP T hS ⟨[(0, Z s_), (1, I lo), (2, I hi), (8, I from_101), (35, B ((((gi s_ from_101).toNat : Int) == 48) && (decide (((s_.length : Nat) : Int) > 1))))], []⟩ (sp := [30]) fun a hS => ?_
    exact ⟨ρ, _, ((((gi s_ from_101).toNat : Int) == 48) && (decide (((s_.length : Nat) : Int) > 1))), hm, hS.sl _, hO⟩
  ·rintro a w126 ⟨ρ, χ125, x_102, hm, hS, hO⟩
   unfold VC67_J2 at hm
   refine wcond hS (b := x_102) kr (fun hb => ?_) (fun hb => ?_)
   ·replace hm := hm.1 hb
    refine rP T hS ⟨[(6, I 0), (7, I 5)], []⟩ fun a hS => ?_
    refine wret ?_
    exact fin T hS hO (fun c => c) rfl (r := [.int .i64 0, .int .i64 5]) kr (fun χ' hM hC => ⟨(0, 5), hm, rfl⟩)
   ·replace hm := hm.2 hb
    refine wskip ?_
    refine wcut (fun a w => ∃ (ρ : Nat → Nat) (χ : Nat → Nat), VC67_J3 s_ lo hi Q from_101 ∧ St Tryd.f67.ntmps ⟨[(0, Z s_), (1, I lo), (2, I hi), (8, I from_101)], []⟩ ρ a w χ ∧ Old w0 χ0 w χ) ?_ ?_
    ·refine rP T hS ⟨[(0, Z s_), (1, I lo), (2, I hi), (8, I from_101), (9, I from_101)], []⟩ fun a hS => ?_
     refine wblock ?_
     obtain ⟨I2, μ2, hm0, hm⟩ := hm
     refine wloop (σ := Int) (fun s a w => ∃ (ρ : Nat → Nat) (χ : Nat → Nat), I2 s ∧ St Tryd.f67.ntmps ⟨[(0, Z s_), (1, I lo), (2, I hi), (8, I from_101), (9, I s)], []⟩ ρ a w χ ∧ Old w0 χ0 w χ) (fun s => μ2 s) (from_101) ?_ ?_
     ·exact ⟨ρ, _, hm0, hS.sl _, hO⟩
     ·rintro i_117 a w122 ⟨ρ, χ121, hI, hS, hO⟩
      replace hm := hm i_117 hI
      clear hI hm0
      refine wseq ?_
      refine rP T hS ⟨[(0, Z s_), (1, I lo), (2, I hi), (8, I from_101), (9, I i_117), (40, B (decide (i_117 < ((s_.length : Nat) : Int))))], []⟩ fun a hS => ?_
      refine wcond hS (b := decide (i_117 < ((s_.length : Nat) : Int))) kr (fun hb => ?_) (fun hb => ?_)
      ·replace hm := hm.1 hb
       refine wskip ?_
       refine wseq ?_
       refine wblock ?_
       refine wcut (fun a w => ∃ (ρ : Nat → Nat) (χ : Nat → Nat) (x_118 : Bool), VC67_J6 Q I2 μ2 i_117 x_118 ∧ St Tryd.f67.ntmps ⟨[(0, Z s_), (1, I lo), (2, I hi), (8, I from_101), (9, I i_117), (52, B x_118)], []⟩ ρ a w χ ∧ Old w0 χ0 w χ) ?_ ?_
       ·refine region ?_
        refine oP T hS 2 ⟨[(0, Z s_), (1, I lo), (2, I hi), (8, I from_101), (9, I i_117), (43, Z s_), (44, I i_117)], []⟩ fun a hS => ?_
        obtain ⟨hq, hm⟩ := hm
        refine op1 (sindex (k := .i64) T hS kr kr kr kr kr hq.1 hq.2 ?_)
        intro a hS
        clear hq
        refine oP T hS 2 ⟨[(0, Z s_), (1, I lo), (2, I hi), (8, I from_101), (9, I i_117), (47, B (decide (((gi s_ i_117).toNat : Int) < 48)))], []⟩ fun a hS => ?_
        rcases Bool.eq_false_or_eq_true (decide (((gi s_ i_117).toNat : Int) < 48)) with hb | hb
        ·replace hS := hS.lit (t := 47) kr hb
         replace hm := hm.1 hb
         refine eP T hS ⟨[(0, Z s_), (1, I lo), (2, I hi), (8, I from_101), (9, I i_117), (52, B true)], []⟩ fun a hS => ?_
         exact ⟨ρ, _, true, hm, hS.sl _, hO⟩
        ·replace hS := hS.lit (t := 47) kr hb
         replace hm := hm.2 hb
         refine oP T hS 2 ⟨[(0, Z s_), (1, I lo), (2, I hi), (8, I from_101), (9, I i_117), (47, B false), (48, Z s_), (49, I i_117)], []⟩ fun a hS => ?_
         obtain ⟨hq, hm⟩ := hm
         refine op1 (sindex (k := .i64) T hS kr kr kr kr kr hq.1 hq.2 ?_)
         intro a hS
         clear hq
         refine eP T hS ⟨[(0, Z s_), (1, I lo), (2, I hi), (8, I from_101), (9, I i_117), (48, Z s_), (49, I i_117), (50, V (.int .u8 ((gi s_ i_117).toNat : Int))), (51, B (decide (((gi s_ i_117).toNat : Int) > 57))), (52, B (decide (((gi s_ i_117).toNat : Int) > 57)))], []⟩ fun a hS => ?_
         exact ⟨ρ, _, decide (((gi s_ i_117).toNat : Int) > 57), hm, hS.sl _, hO⟩
       ·rintro a w120 ⟨ρ, χ119, x_118, hm, hS, hO⟩
        unfold VC67_J6 at hm
        refine wcond hS (b := x_118) kr (fun hb => ?_) (fun hb => ?_)
        ·replace hm := hm.1 hb
         refine rP T hS ⟨[(6, I 0), (7, I 5)], []⟩ fun a hS => ?_
         refine wret ?_
         exact fin T hS hO (fun c => c) rfl (r := [.int .i64 0, .int .i64 5]) kr (fun χ' hM hC => ⟨(0, 5), hm, rfl⟩)
        ·replace hm := hm.2 hb
         refine wskip ?_
         refine region (eP T hS ⟨[(0, Z s_), (1, I lo), (2, I hi), (8, I from_101), (9, I (IntKind.i64.wrap (i_117 + 1)))], []⟩ fun a hS => ?_)
         exact ⟨IntKind.i64.wrap (i_117 + 1), ⟨ρ, _, hm.1, hS.sl _, hO⟩, hm.2⟩
      ·replace hm := hm.2 hb
       refine wexit (by rfl) ?_
       exact ⟨ρ, _, hm, hS.sl _, hO⟩
    ·rintro a w124 ⟨ρ, χ123, hm, hS, hO⟩
     unfold VC67_J3 at hm
     refine wseq ?_
     refine rP T hS ⟨[(0, Z s_), (1, I lo), (2, I hi), (8, I from_101), (57, B (decide ((IntKind.i64.wrap (((s_.length : Nat) : Int) - from_101)) > 19)))], []⟩ fun a hS => ?_
     refine wcond hS (b := decide ((IntKind.i64.wrap (((s_.length : Nat) : Int) - from_101)) > 19)) kr (fun hb => ?_) (fun hb => ?_)
     ·replace hm := hm.1 hb
      refine rP T hS ⟨[(6, I 0), (7, I 7)], []⟩ fun a hS => ?_
      refine wret ?_
      exact fin T hS hO (fun c => c) rfl (r := [.int .i64 0, .int .i64 7]) kr (fun χ' hM hC => ⟨(0, 7), hm, rfl⟩)
     ·replace hm := hm.2 hb
      refine wskip ?_
      refine rP T hS ⟨[(0, Z s_), (1, I lo), (2, I hi), (8, I from_101), (10, I 0)], []⟩ fun a hS => ?_
      refine wcut (fun a w => ∃ (ρ : Nat → Nat) (χ : Nat → Nat) (n_103 : Int), VC67_J4 s_ lo hi Q n_103 ∧ St Tryd.f67.ntmps ⟨[(0, Z s_), (1, I lo), (2, I hi), (10, I n_103)], []⟩ ρ a w χ ∧ Old w0 χ0 w χ) ?_ ?_
      ·refine rP T hS ⟨[(0, Z s_), (1, I lo), (2, I hi), (8, I from_101), (10, I 0), (11, I from_101)], []⟩ fun a hS => ?_
       refine wblock ?_
       obtain ⟨I1, μ1, hm0, hm⟩ := hm
       refine wloop (σ := Int × Int) (fun s a w => ∃ (ρ : Nat → Nat) (χ : Nat → Nat), I1 s.1 s.2 ∧ St Tryd.f67.ntmps ⟨[(0, Z s_), (1, I lo), (2, I hi), (8, I from_101), (10, I s.1), (11, I s.2)], []⟩ ρ a w χ ∧ Old w0 χ0 w χ) (fun s => μ1 s.1 s.2) (⟨0, from_101⟩) ?_ ?_
       ·exact ⟨ρ, _, hm0, hS.sl _, hO⟩
       ·rintro ⟨n_108, i_109⟩ a w114 ⟨ρ, χ113, hI, hS, hO⟩
        replace hm := hm n_108 i_109 hI
        clear hI hm0
        refine wseq ?_
        refine rP T hS ⟨[(0, Z s_), (1, I lo), (2, I hi), (8, I from_101), (10, I n_108), (11, I i_109), (62, B (decide (i_109 < ((s_.length : Nat) : Int))))], []⟩ fun a hS => ?_
        refine wcond hS (b := decide (i_109 < ((s_.length : Nat) : Int))) kr (fun hb => ?_) (fun hb => ?_)
        ·replace hm := hm.1 hb
         refine wskip ?_
         refine wseq ?_
         refine wblock ?_
         refine regO ?_
         refine oP T hS 2 ⟨[(0, Z s_), (1, I lo), (2, I hi), (8, I from_101), (10, I n_108), (11, I i_109), (65, Z s_), (66, I i_109)], []⟩ fun a hS => ?_
         obtain ⟨hq, hm⟩ := hm
         refine op1 (sindex (k := .i64) T hS kr kr kr kr kr hq.1 hq.2 ?_)
         intro a hS
         clear hq
         refine eP T hS ⟨[(0, Z s_), (1, I lo), (2, I hi), (8, I from_101), (10, I n_108), (11, I i_109), (12, I (IntKind.i64.wrap ((IntKind.i64.wrap ((gi s_ i_109).toNat : Int)) - 48)))], []⟩ fun a hS => ?_
         refine wcut (fun a w => ∃ (ρ : Nat → Nat) (χ : Nat → Nat) (d_110 : Int), VC67_J5 I1 μ1 n_108 i_109 d_110 ∧ St Tryd.f67.ntmps ⟨[(0, Z s_), (1, I lo), (2, I hi), (8, I from_101), (10, I n_108), (11, I i_109), (12, I d_110)], []⟩ ρ a w χ ∧ Old w0 χ0 w χ) ?_ ?_
         ·refine rP T hS ⟨[(0, Z s_), (1, I lo), (2, I hi), (8, I from_101), (10, I n_108), (11, I i_109), (12, I (IntKind.i64.wrap ((IntKind.i64.wrap ((gi s_ i_109).toNat : Int)) - 48))), (71, B (from_101 == 1))], []⟩ fun a hS => ?_
          refine wcond hS (b := (from_101 == 1)) kr (fun hb => ?_) (fun hb => ?_)
          ·replace hm := hm.1 hb
           refine region (eP T hS ⟨[(0, Z s_), (1, I lo), (2, I hi), (8, I from_101), (10, I n_108), (11, I i_109), (12, I (IntKind.i64.wrap (0 - (IntKind.i64.wrap ((IntKind.i64.wrap ((gi s_ i_109).toNat : Int)) - 48)))))], []⟩ fun a hS => ?_)
           exact ⟨ρ, _, IntKind.i64.wrap (0 - (IntKind.i64.wrap ((IntKind.i64.wrap ((gi s_ i_109).toNat : Int)) - 48))), hm, hS.sl _, hO⟩
          ·replace hm := hm.2 hb
           refine wskip ?_
           exact ⟨ρ, _, IntKind.i64.wrap ((IntKind.i64.wrap ((gi s_ i_109).toNat : Int)) - 48), hm, hS.sl _, hO⟩
         ·rintro a w112 ⟨ρ, χ111, d_110, hm, hS, hO⟩
          unfold VC67_J5 at hm
          refine region (eP T hS ⟨[(0, Z s_), (1, I lo), (2, I hi), (8, I from_101), (10, I (IntKind.i64.wrap ((IntKind.i64.wrap (10 * n_108)) + d_110))), (11, I i_109)], []⟩ fun a hS => ?_)
          refine region (eP T hS ⟨[(0, Z s_), (1, I lo), (2, I hi), (8, I from_101), (10, I (IntKind.i64.wrap ((IntKind.i64.wrap (10 * n_108)) + d_110))), (11, I (IntKind.i64.wrap (i_109 + 1)))], []⟩ fun a hS => ?_)
          exact ⟨⟨IntKind.i64.wrap ((IntKind.i64.wrap (10 * n_108)) + d_110), IntKind.i64.wrap (i_109 + 1)⟩, ⟨ρ, _, hm.1, hS.sl _, hO⟩, hm.2⟩
        ·replace hm := hm.2 hb
         refine wexit (by rfl) ?_
         exact ⟨ρ, _, n_108, hm, hS.sl _, hO⟩
      ·rintro a w116 ⟨ρ, χ115, n_103, hm, hS, hO⟩
       unfold VC67_J4 at hm
       refine wseq ?_
       refine regO ?_
       refine oP T hS 1 ⟨[(0, Z s_), (1, I lo), (2, I hi), (10, I n_103), (78, I n_103)], []⟩ fun a hS => ?_
       obtain ⟨hq, hm⟩ := hm
       refine op1 (call hS kr kr hb56 kr (fun _ _ => rfl) (k56 _ _ n_103 hq) ?_)
       intro v104 a w105 χ106 hE hp hS
       clear hq
       replace hO := hO.mv hE rfl rfl
       clear hE
       obtain ⟨r107, hr⟩ : ∃ r, ref05_Digits n_103 = r := ⟨_, rfl⟩
       replace hm := hm r107 hr
       rw [hr] at hp
       clear hr
       subst hp
       refine eP T hS ⟨[(10, I n_103), (91, B (((!(r107 == s_)) || (decide (n_103 < lo))) || (decide (n_103 > hi))))], []⟩ (sp := [82, 87]) fun a hS => ?_
       refine wcond hS (b := (((!(r107 == s_)) || (decide (n_103 < lo))) || (decide (n_103 > hi)))) kr (fun hb => ?_) (fun hb => ?_)
       ·replace hm := hm.1 hb
        refine rP T hS ⟨[(6, I 0), (7, I 7)], []⟩ fun a hS => ?_
        refine wret ?_
        exact fin T hS hO (fun c => c) rfl (r := [.int .i64 0, .int .i64 7]) kr (fun χ' hM hC => ⟨(0, 7), hm, rfl⟩)
       ·replace hm := hm.2 hb
        refine wskip ?_
        refine rP T hS ⟨[(6, I n_103), (7, I 0)], []⟩ fun a hS => ?_
        refine wret ?_
        exact fin T hS hO (fun c => c) rfl (r := [.int .i64 n_103, .int .i64 0]) kr (fun χ' hM hC => ⟨(n_103, 0), hm, rfl⟩)
theorem C67 (k56 : S56) (v : ∀ (s_ : List UInt8) (lo : Int) (hi : Int), preNum s_ lo hi → VC67 s_ lo hi (fun r => r = ref05_Number s_ lo hi)) : S67 := by
 intro w χ s_ lo hi    hp 
 refine (W67 k56 w χ s_ lo hi    _ (v s_ lo hi hp)).mono ?_
 rintro _ _ _ _ ⟨r, rfl, h⟩
 exact h
/-- replevin/replevinref24.Numbers -/
theorem W46 (k67 : S67) (w0 : World) (χ0 : Nat → Nat) (l_ : List Ref05_Token) (word : List UInt8) (lo : List Int) (hi : List Int) (end_ : Int) (a1 : Option Addr) (c1 : Nat) (a2 : Option Addr) (c2 : Nat) (a3 : Option Addr) (c3 : Nat) (Q : (List Int) × Int × Int → Prop) (hm : VC46 l_ word lo hi end_ Q) (h1 : RS tRef05_Token w0 χ0 a1 l_ c1) (h2 : RS tI w0 χ0 a2 lo c2) (h3 : RS tI w0 χ0 a3 hi c3) :
  Ret Tryd.prog 46 #[.slice a1 l_.length c1, .string (bs word), .slice a2 lo.length c2, .slice a3 hi.length c3, .int .i64 end_] xnone w0 χ0 (fun w χ' v => ∃ r, Q r ∧ ∃ (ra1 : Option Addr) (rc1 : Nat), v = .tuple #[.slice ra1 r.1.length rc1, .int .i64 r.2.1, .int .i64 r.2.2] ∧ RS tI w χ' ra1 r.1 rc1) := by
 unfold VC46 at hm
 replace hm := hm (h1.sm kr)
 replace hm := hm (h2.sm kr)
 replace hm := hm (h3.sm kr)
 refine enter Tryd.func46 rfl (vals := [.slice a1 l_.length c1, .string (bs word), .slice a2 lo.length c2, .slice a3 hi.length c3, .int .i64 end_]) kr ?_
 intro ρ a hS hO hM
 replace h1 := h1.m0 hM
 replace h2 := h2.m0 hM
 replace h3 := h3.m0 hM
 clear hM
 refine rP T hS ⟨[(0, Sl a1 l_ c1), (1, Z word), (2, Sl a2 lo c2), (3, Sl a3 hi c3), (4, I end_)], []⟩ fun a hS => ?_
 refine wseq ?_
 refine rP T hS ⟨[(0, Sl a1 l_ c1), (1, Z word), (2, Sl a2 lo c2), (3, Sl a3 hi c3), (4, I end_), (19, B (((l_.length : Nat) : Int) == 0))], []⟩ fun a hS => ?_
 refine wcond hS (b := (((l_.length : Nat) : Int) == 0)) kr (fun hb => ?_) (fun hb => ?_)
 ·replace hm := hm.1 hb
  refine rP T hS ⟨[(10, V (.slice none 0 0)), (11, I end_), (12, I 4)], []⟩ fun a hS => ?_
  refine wret ?_
  exact fin T hS hO (fun c => c) rfl (r := [.slice none 0 0, .int .i64 end_, .int .i64 4]) kr (fun χ' hM hC => ⟨([], end_, 4), hm, none, 0, rfl, RS.empty _ _ _⟩)
 ·replace hm := hm.2 hb
  refine wskip ?_
  refine wseq ?_
  refine regO ?_
  refine oP T hS 1 ⟨[(0, Sl a1 l_ c1), (1, Z word), (2, Sl a2 lo c2), (3, Sl a3 hi c3), (4, I end_), (21, Sl a1 l_ c1)], []⟩ fun a hS => ?_
  obtain ⟨hq, hm⟩ := hm
  refine op1 (index (e := 102) (k := .i64) T hS kr kr kr kr h1 kr kr hq.1 hq.2 ?_)
  intro A101 a h102 hS
  clear hq
  refine op1 (fieldA (off := 2) (fsz := 1) (ft := 9) (TF := tStr) (y := (gi l_ 0).Text) T hS kr kr kr h102 kr kr kr (fun cs h => Ref05_Token_f2 h) ?_)
  intro A103 a h104 hS
  refine op1 (load1 T hS kr kr kr h104 rfl kr ?_)
  intro v105 a hv hS
  cases hv
  refine eP T hS ⟨[(0, Sl a1 l_ c1), (2, Sl a2 lo c2), (3, Sl a3 hi c3), (4, I end_), (26, B (!(((gi l_ 0).Text) == word)))], []⟩ fun a hS => ?_
  refine wcond hS (b := (!(((gi l_ 0).Text) == word))) kr (fun hb => ?_) (fun hb => ?_)
  ·replace hm := hm.1 hb
   refine drawnSX [] mixed hS ?_
   intro w106 χ107 hS hE hD hH
   replace hO := hO.mv hE rfl rfl
   replace h1 := h1.mv hE rfl
   clear hE
   refine tk T [0, 4] [] hS hH #[true, false, false, false, true, false, false] 5 ⟨[(10, V (.slice none 0 0)), (27, Sl a1 l_ c1)], []⟩ fun a hS => ?_
   obtain ⟨hq, hm⟩ := hm
   refine dindex (e := 102) (k := .i64) T 1 hS kr kr kr (by rfl) kr hH kr kr h1 kr kr hq.1 hq.2 ?_
   intro A108 a h109 hS
   clear hq
   have h109b := h109.here
   refine dfieldA (off := 1) (fsz := 1) (ft := 3) (TF := tI) (y := (gi l_ 0).At) 2 T hS kr kr kr (by rfl) kr hH kr h109 kr kr kr (fun cs h => Ref05_Token_f1 h) ?_
   intro A110 a h111 hbl hS
   have h111b := h109b
   rw [← hbl] at h111b
   clear hbl
   refine dload1 T 3 hS kr kr kr (by rfl) kr hH kr h111 h111b rfl kr ?_
   intro v112 a hv hS
   cases hv
   refine tk T [5, 6] [] hS hH #[true, true, true, true, true, true, true] 0 ⟨[(10, V (.slice none 0 0)), (11, I ((gi l_ 0).At)), (12, I 8)], []⟩ fun a hS => ?_
   refine drawnDone kr ?_
   clear hD hH
   replace hS := hS.sl ⟨[(10, V (.slice none 0 0)), (11, I ((gi l_ 0).At)), (12, I 8)], []⟩
   refine wret ?_
   exact fin T hS hO (fun c => c) rfl (r := [.slice none 0 0, .int .i64 ((gi l_ 0).At), .int .i64 8]) kr (fun χ' hM hC => ⟨([], (gi l_ 0).At, 8), hm, none, 0, rfl, RS.empty _ _ _⟩)
  ·replace hm := hm.2 hb
   refine wskip ?_
   refine rP T hS ⟨[(0, Sl a1 l_ c1), (2, Sl a2 lo c2), (3, Sl a3 hi c3), (4, I end_), (13, V (.slice none 0 0))], []⟩ fun a hS => ?_
   refine wcut (fun a w => ∃ (ρ : Nat → Nat) (χ : Nat → Nat) (out_114 : List Int) (a115 : Option Addr) (c116 : Nat), VC46_J1 l_ end_ Q out_114 ∧ St Tryd.f46.ntmps ⟨[(0, Sl a1 l_ c1), (4, I end_), (13, Sl a115 out_114 c116)], []⟩ ρ a w χ ∧ Old w0 χ0 w χ ∧ RS tRef05_Token w χ a1 l_ c1 ∧ OS tI 3 w χ 1011 a115 out_114 c116) ?_ ?_
   ·refine rP T hS ⟨[(0, Sl a1 l_ c1), (2, Sl a2 lo c2), (3, Sl a3 hi c3), (4, I end_), (13, V (.slice none 0 0)), (14, I 0)], []⟩ fun a hS => ?_
    refine wblock ?_
    obtain ⟨I1, μ1, hm0, hm⟩ := hm
    refine wloop (σ := (List Int) × Int) (fun s a w => ∃ (ρ : Nat → Nat) (χ : Nat → Nat) (a131 : Option Addr) (c132 : Nat), I1 s.1 s.2 ∧ St Tryd.f46.ntmps ⟨[(0, Sl a1 l_ c1), (2, Sl a2 lo c2), (3, Sl a3 hi c3), (4, I end_), (13, Sl a131 s.1 c132), (14, I s.2)], []⟩ ρ a w χ ∧ Old w0 χ0 w χ ∧ RS tRef05_Token w χ a1 l_ c1 ∧ RS tI w χ a2 lo c2 ∧ RS tI w χ a3 hi c3 ∧ OS tI 3 w χ 1011 a131 s.1 c132) (fun s => μ1 s.1 s.2) (⟨[], 0⟩) ?_ ?_
    ·exact ⟨ρ, _, none, 0, hm0, hS.sl _, hO, h1, h2, h3, (OS.nil _ _ _ _ _)⟩
    ·rintro ⟨out_130, i_134⟩ a w181 ⟨ρ, χ180, a131, c132, hI, hS, hO, h127, h128, h129, h133⟩
     replace hm := hm out_130 i_134 hI
     clear hI hm0
     refine wseq ?_
     refine rP T hS ⟨[(0, Sl a1 l_ c1), (2, Sl a2 lo c2), (3, Sl a3 hi c3), (4, I end_), (13, Sl a131 out_130 c132), (14, I i_134), (40, B ((decide (i_134 < ((lo.length : Nat) : Int))) && (decide (i_134 < ((hi.length : Nat) : Int)))))], []⟩ (sp := [35]) fun a hS => ?_
     refine wcond hS (b := ((decide (i_134 < ((lo.length : Nat) : Int))) && (decide (i_134 < ((hi.length : Nat) : Int))))) kr (fun hb => ?_) (fun hb => ?_)
     ·replace hm := hm.1 hb
      refine wskip ?_
      refine wseq ?_
      refine wblock ?_
      refine wseq ?_
      refine rP T hS ⟨[(0, Sl a1 l_ c1), (2, Sl a2 lo c2), (3, Sl a3 hi c3), (4, I end_), (13, Sl a131 out_130 c132), (14, I i_134), (47, B ((IntKind.i64.wrap (i_134 + 1)) == ((l_.length : Nat) : Int)))], []⟩ fun a hS => ?_
      refine wcond hS (b := ((IntKind.i64.wrap (i_134 + 1)) == ((l_.length : Nat) : Int))) kr (fun hb => ?_) (fun hb => ?_)
      ·replace hm := hm.1 hb
       refine drawnSX [] mixed hS ?_
       intro w135 χ136 hS hE hD hH
       replace hO := hO.mv hE rfl rfl
       replace h127 := h127.mv hE rfl
       clear hE
       refine tk T [0, 1, 5, 6, 12] [] hS hH #[true, true, false, false, false, true, true, false, false, false, false, false, true, false, false] 10 ⟨[(10, V (.slice none 0 0)), (48, Sl a1 l_ c1), (49, I i_134), (53, Sl a1 l_ c1), (54, I i_134)], []⟩ fun a hS => ?_
       obtain ⟨hq, hm⟩ := hm
       refine dindex (e := 102) (k := .i64) T 2 hS kr kr kr (by rfl) kr hH kr kr h127 kr kr hq.1 hq.2 ?_
       intro A137 a h138 hS
       clear hq
       have h138b := h138.here
       refine dfieldA (off := 1) (fsz := 1) (ft := 3) (TF := tI) (y := (gi l_ i_134).At) 3 T hS kr kr kr (by rfl) kr hH kr h138 kr kr kr (fun cs h => Ref05_Token_f1 h) ?_
       intro A139 a h140 hbl hS
       have h140b := h138b
       rw [← hbl] at h140b
       clear hbl
       refine dload1 T 4 hS kr kr kr (by rfl) kr hH kr h140 h140b rfl kr ?_
       intro v141 a hv hS
       cases hv
       obtain ⟨hq, hm⟩ := hm
       refine dindex (e := 102) (k := .i64) T 7 hS kr kr kr (by rfl) kr hH kr kr h127 kr kr hq.1 hq.2 ?_
       intro A142 a h143 hS
       clear hq
       have h143b := h143.here
       refine dfieldA (off := 2) (fsz := 1) (ft := 9) (TF := tStr) (y := (gi l_ i_134).Text) 8 T hS kr kr kr (by rfl) kr hH kr h143 kr kr kr (fun cs h => Ref05_Token_f2 h) ?_
       intro A144 a h145 hbl hS
       have h145b := h143b
       rw [← hbl] at h145b
       clear hbl
       refine dload1 T 9 hS kr kr kr (by rfl) kr hH kr h145 h145b rfl kr ?_
       intro v146 a hv hS
       cases hv
       refine tk T [10, 11, 13, 14] [] hS hH #[true, true, true, true, true, true, true, true, true, true, true, true, true, true, true] 0 ⟨[(10, V (.slice none 0 0)), (11, I (IntKind.i64.wrap (((gi l_ i_134).At) + ((((gi l_ i_134).Text).length : Nat) : Int)))), (12, I 4)], []⟩ fun a hS => ?_
       refine drawnDone kr ?_
       clear hD hH
       replace hS := hS.sl ⟨[(10, V (.slice none 0 0)), (11, I (IntKind.i64.wrap (((gi l_ i_134).At) + ((((gi l_ i_134).Text).length : Nat) : Int)))), (12, I 4)], []⟩
       refine wret ?_
       exact fin T hS hO (fun c => c) rfl (r := [.slice none 0 0, .int .i64 (IntKind.i64.wrap (((gi l_ i_134).At) + ((((gi l_ i_134).Text).length : Nat) : Int))), .int .i64 4]) kr (fun χ' hM hC => ⟨([], IntKind.i64.wrap (((gi l_ i_134).At) + ((((gi l_ i_134).Text).length : Nat) : Int)), 4), hm, none, 0, rfl, RS.empty _ _ _⟩)
      ·replace hm := hm.2 hb
       refine wskip ?_
       refine drawnSX [] mixed hS ?_
       intro w147 χ148 hS hE hD hH
       replace hO := hO.mv hE rfl rfl
       replace h127 := h127.mv hE rfl
       replace h128 := h128.mv hE rfl
       replace h129 := h129.mv hE rfl
       replace h133 := h133.mv hE rfl rfl
       clear hE
       refine tk T [0, 1, 6, 7, 10, 11, 2] [] hS hH #[true, true, true, false, false, false, true, true, false, false, true, true, false, false, false, false, false, false, false, false] 13 ⟨[(0, Sl a1 l_ c1), (2, Sl a2 lo c2), (3, Sl a3 hi c3), (4, I end_), (13, Sl a131 out_130 c132), (14, I i_134), (61, Sl a1 l_ c1), (63, I (IntKind.i64.wrap (i_134 + 1))), (67, Sl a2 lo c2), (68, I i_134), (71, Sl a3 hi c3), (72, I i_134)], []⟩ fun a hS => ?_
       obtain ⟨hq, hm⟩ := hm
       refine dindex (e := 102) (k := .i64) T 3 hS kr kr kr (by rfl) kr hH kr kr h127 kr kr hq.1 hq.2 ?_
       intro A149 a h150 hS
       clear hq
       have h150b := h150.here
       refine dfieldA (off := 2) (fsz := 1) (ft := 9) (TF := tStr) (y := (gi l_ (IntKind.i64.wrap (i_134 + 1))).Text) 4 T hS kr kr kr (by rfl) kr hH kr h150 kr kr kr (fun cs h => Ref05_Token_f2 h) ?_
       intro A151 a h152 hbl hS
       have h152b := h150b
       rw [← hbl] at h152b
       clear hbl
       refine dload1 T 5 hS kr kr kr (by rfl) kr hH kr h152 h152b rfl kr ?_
       intro v153 a hv hS
       cases hv
       obtain ⟨hq, hm⟩ := hm
       refine dindex (e := 3) (k := .i64) T 8 hS kr kr kr (by rfl) kr hH kr kr h128 kr kr hq.1 hq.2 ?_
       intro A154 a h155 hS
       clear hq
       have h155b := h155.here
       refine dload1 T 9 hS kr kr kr (by rfl) kr hH kr h155 h155b rfl kr ?_
       intro v156 a hv hS
       cases hv
       obtain ⟨hq, hm⟩ := hm
       refine dindex (e := 3) (k := .i64) T 12 hS kr kr kr (by rfl) kr hH kr kr h129 kr kr hq.1 hq.2 ?_
       intro A157 a h158 hS
       clear hq
       have h158b := h158.here
       refine dload1 T 13 hS kr kr kr (by rfl) kr hH kr h158 h158b rfl kr ?_
       intro v159 a hv hS
       cases hv
       obtain ⟨hq, hm⟩ := hm
       refine only 14 kr (by rfl) (call hS kr kr hb67 kr (fun _ _ => rfl) (k67 _ _ ((gi l_ (IntKind.i64.wrap (i_134 + 1))).Text) (gi lo i_134) (gi hi i_134) hq) ?_)
       intro v160 a w161 χ162 hE hp hS
       clear hq
       replace hO := hO.mv hE rfl rfl
       replace hD := hD.ev hE rfl
       replace h127 := h127.mv hE rfl
       replace h128 := h128.mv hE rfl
       replace h129 := h129.mv hE rfl
       replace h133 := h133.mv hE rfl rfl
       replace h150 := h150.mv hE rfl
       replace h152 := h152.mv hE rfl
       replace h155 := h155.mv hE rfl
       replace h158 := h158.mv hE rfl
       clear hE
       obtain ⟨r163, hr⟩ : ∃ r, ref05_Number ((gi l_ (IntKind.i64.wrap (i_134 + 1))).Text) (gi lo i_134) (gi hi i_134) = r := ⟨_, rfl⟩
       replace hm := hm r163 hr
       rw [hr] at hp
       clear hr
       subst hp
       refine andH (Hold.of hS (bks := []) kr hD) ?_
       intro hH
       refine tk T [15, 16, 17, 18, 19] [] hS hH #[true, true, true, true, true, true, true, true, true, true, true, true, true, true, true, true, true, true, true, true] 0 ⟨[(0, Sl a1 l_ c1), (2, Sl a2 lo c2), (3, Sl a3 hi c3), (4, I end_), (13, Sl a131 out_130 c132), (14, I i_134), (15, I r163.1), (16, I r163.2)], []⟩ fun a hS => ?_
       refine drawnDone kr ?_
       clear hD hH
       replace hS := hS.sl ⟨[(0, Sl a1 l_ c1), (2, Sl a2 lo c2), (3, Sl a3 hi c3), (4, I end_), (13, Sl a131 out_130 c132), (14, I i_134), (15, I r163.1), (16, I r163.2)], []⟩
       refine wseq ?_
       refine rP T hS ⟨[(0, Sl a1 l_ c1), (2, Sl a2 lo c2), (3, Sl a3 hi c3), (4, I end_), (13, Sl a131 out_130 c132), (14, I i_134), (15, I r163.1), (16, I r163.2), (79, B (r163.2 != 0))], []⟩ fun a hS => ?_
       refine wcond hS (b := (r163.2 != 0)) kr (fun hb => ?_) (fun hb => ?_)
       ·replace hm := hm.1 hb
        refine drawnSX [] mixed hS ?_
        intro w164 χ165 hS hE hD hH
        replace hO := hO.mv hE rfl rfl
        replace h127 := h127.mv hE rfl
        clear hE
        refine tk T [0, 1, 6, 7, 2] [] hS hH #[true, true, true, false, false, false, true, true, false, false] 5 ⟨[(10, V (.slice none 0 0)), (80, Sl a1 l_ c1), (82, I (IntKind.i64.wrap (i_134 + 1))), (86, I r163.2)], []⟩ fun a hS => ?_
        obtain ⟨hq, hm⟩ := hm
        refine dindex (e := 102) (k := .i64) T 3 hS kr kr kr (by rfl) kr hH kr kr h127 kr kr hq.1 hq.2 ?_
        intro A166 a h167 hS
        clear hq
        have h167b := h167.here
        refine dfieldA (off := 1) (fsz := 1) (ft := 3) (TF := tI) (y := (gi l_ (IntKind.i64.wrap (i_134 + 1))).At) 4 T hS kr kr kr (by rfl) kr hH kr h167 kr kr kr (fun cs h => Ref05_Token_f1 h) ?_
        intro A168 a h169 hbl hS
        have h169b := h167b
        rw [← hbl] at h169b
        clear hbl
        refine dload1 T 5 hS kr kr kr (by rfl) kr hH kr h169 h169b rfl kr ?_
        intro v170 a hv hS
        cases hv
        refine tk T [8, 9] [] hS hH #[true, true, true, true, true, true, true, true, true, true] 0 ⟨[(10, V (.slice none 0 0)), (11, I ((gi l_ (IntKind.i64.wrap (i_134 + 1))).At)), (12, I r163.2)], []⟩ fun a hS => ?_
        refine drawnDone kr ?_
        clear hD hH
        replace hS := hS.sl ⟨[(10, V (.slice none 0 0)), (11, I ((gi l_ (IntKind.i64.wrap (i_134 + 1))).At)), (12, I r163.2)], []⟩
        refine wret ?_
        exact fin T hS hO (fun c => c) rfl (r := [.slice none 0 0, .int .i64 ((gi l_ (IntKind.i64.wrap (i_134 + 1))).At), .int .i64 r163.2]) kr (fun χ' hM hC => ⟨([], (gi l_ (IntKind.i64.wrap (i_134 + 1))).At, r163.2), hm, none, 0, rfl, RS.empty _ _ _⟩)
       ·replace hm := hm.2 hb
        refine wskip ?_
        refine region ?_
        refine oP T hS 2 ⟨[(0, Sl a1 l_ c1), (2, Sl a2 lo c2), (3, Sl a3 hi c3), (4, I end_), (13, Sl a131 out_130 c132), (14, I i_134), (87, Sl a131 out_130 c132), (88, I r163.1)], []⟩ fun a hS => ?_
        refine op1 (lit (E := 3) (col := 0) (T := tI) (vals := [.int .i64 r163.1]) (ys := [r163.1]) T hS kr kr kr kr (by exact ⟨rfl, trivial⟩) rfl kr kr kr kr ?_)
        intro b171 a w172 χ173 hE h174 hN hS
        clear hN
        replace hO := hO.mv hE rfl rfl
        replace h127 := h127.mv hE rfl
        replace h128 := h128.mv hE rfl
        replace h129 := h129.mv hE rfl
        replace h133 := h133.mv hE rfl rfl
        clear hE
        replace h174 := h174.rs0
        obtain ⟨hq, hm⟩ := hm
        obtain ⟨news, hN⟩ := h174.src
        refine op1 (append (E := 3) (T := tI) (col := 1011) (xs := out_130) T hS kr kr kr kr h133 hN kr kr kr kr hq ?_)
        intro a178 c179 a w175 χ176 hE h177 hS
        clear hq hN
        clear h133
        replace hO := hO.mv hE rfl rfl
        replace h127 := h127.mv hE rfl
        replace h128 := h128.mv hE rfl
        replace h129 := h129.mv hE rfl
        replace h174 := h174.mv hE rfl
        clear hE
        refine eP T hS ⟨[(0, Sl a1 l_ c1), (2, Sl a2 lo c2), (3, Sl a3 hi c3), (4, I end_), (13, Sl a178 (out_130 ++ [r163.1]) c179), (14, I i_134)], []⟩ fun a hS => ?_
        refine region (eP T hS ⟨[(0, Sl a1 l_ c1), (2, Sl a2 lo c2), (3, Sl a3 hi c3), (4, I end_), (13, Sl a178 (out_130 ++ [r163.1]) c179), (14, I (IntKind.i64.wrap (i_134 + 1)))], []⟩ fun a hS => ?_)
        exact ⟨⟨out_130 ++ [r163.1], IntKind.i64.wrap (i_134 + 1)⟩, ⟨ρ, _, a178, c179, hm.1, hS.sl _, hO, h127, h128, h129, h177⟩, hm.2⟩
     ·replace hm := hm.2 hb
      refine wexit (by rfl) ?_
      exact ⟨ρ, _, out_130, a131, c132, hm, hS.sl _, hO, h127, h133⟩
   ·rintro a w183 ⟨ρ, χ182, out_114, a115, c116, hm, hS, hO, h113, h117⟩
    unfold VC46_J1 at hm
    refine wseq ?_
    refine rP T hS ⟨[(0, Sl a1 l_ c1), (4, I end_), (13, Sl a115 out_114 c116), (96, B (((l_.length : Nat) : Int) != (IntKind.i64.wrap (((out_114.length : Nat) : Int) + 1))))], []⟩ fun a hS => ?_
    refine wcond hS (b := (((l_.length : Nat) : Int) != (IntKind.i64.wrap (((out_114.length : Nat) : Int) + 1)))) kr (fun hb => ?_) (fun hb => ?_)
    ·replace hm := hm.1 hb
     refine drawnSX [] mixed hS ?_
     intro w118 χ119 hS hE hD hH
     replace hO := hO.mv hE rfl rfl
     replace h113 := h113.mv hE rfl
     replace h117 := h117.mv hE rfl rfl
     clear hE
     refine tk T [0, 1, 7, 2, 3] [] hS hH #[true, true, true, true, false, false, false, true, false, false] 5 ⟨[(10, V (.slice none 0 0)), (97, Sl a1 l_ c1), (100, I (IntKind.i64.wrap (((out_114.length : Nat) : Int) + 1)))], []⟩ fun a hS => ?_
     obtain ⟨hq, hm⟩ := hm
     refine dindex (e := 102) (k := .i64) T 4 hS kr kr kr (by rfl) kr hH kr kr h113 kr kr hq.1 hq.2 ?_
     intro A120 a h121 hS
     clear hq
     have h121b := h121.here
     refine dfieldA (off := 1) (fsz := 1) (ft := 3) (TF := tI) (y := (gi l_ (IntKind.i64.wrap (((out_114.length : Nat) : Int) + 1))).At) 5 T hS kr kr kr (by rfl) kr hH kr h121 kr kr kr (fun cs h => Ref05_Token_f1 h) ?_
     intro A122 a h123 hbl hS
     have h123b := h121b
     rw [← hbl] at h123b
     clear hbl
     refine dload1 T 6 hS kr kr kr (by rfl) kr hH kr h123 h123b rfl kr ?_
     intro v124 a hv hS
     cases hv
     refine tk T [8, 9] [] hS hH #[true, true, true, true, true, true, true, true, true, true] 0 ⟨[(10, V (.slice none 0 0)), (11, I ((gi l_ (IntKind.i64.wrap (((out_114.length : Nat) : Int) + 1))).At)), (12, I 6)], []⟩ fun a hS => ?_
     refine drawnDone kr ?_
     clear hD hH
     replace hS := hS.sl ⟨[(10, V (.slice none 0 0)), (11, I ((gi l_ (IntKind.i64.wrap (((out_114.length : Nat) : Int) + 1))).At)), (12, I 6)], []⟩
     refine wret ?_
     exact fin T hS hO (fun c => c) rfl (r := [.slice none 0 0, .int .i64 ((gi l_ (IntKind.i64.wrap (((out_114.length : Nat) : Int) + 1))).At), .int .i64 6]) kr (fun χ' hM hC => ⟨([], (gi l_ (IntKind.i64.wrap (((out_114.length : Nat) : Int) + 1))).At, 6), hm, none, 0, rfl, RS.empty _ _ _⟩)
    ·replace hm := hm.2 hb
     refine wskip ?_
     refine rP T hS ⟨[(10, Sl a115 out_114 c116), (11, I end_), (12, I 0)], []⟩ fun a hS => ?_
     refine wret ?_
     obtain ⟨χ125, hE, hF⟩ := h117.freeze (by decide)
     replace hS := hS.ev hE (xone_box kr)
     replace hO := hO.mv hE rfl rfl
     have h126 := hF; clear hE hF
     exact fin T hS hO (fun c => c) rfl (r := [.slice a115 out_114.length c116, .int .i64 end_, .int .i64 0]) kr (fun χ' hM hC => ⟨(out_114, end_, 0), hm, a115, c116, rfl, h126.m0 hM⟩)
theorem C46 (k67 : S67) (v : ∀ (l_ : List Ref05_Token) (word : List UInt8) (lo : List Int) (hi : List Int) (end_ : Int), preNR l_ word lo hi end_ → VC46 l_ word lo hi end_ (fun r => r = ref24_Numbers l_ word lo hi end_)) : S46 := by
 intro w χ l_ word lo hi end_ a1 c1 a2 c2 a3 c3   hp h1 h2 h3
 refine (W46 k67 w χ l_ word lo hi end_ a1 c1 a2 c2 a3 c3   _ (v l_ word lo hi end_ hp) h1 h2 h3).mono ?_
 rintro _ _ _ _ ⟨r, rfl, h⟩
 exact h
/-- replevin/replevinref24.Said -/
theorem W19 (w0 : World) (χ0 : Nat → Nat) (l_ : List (List Ref05_Token)) (a1 : Option Addr) (c1 : Nat) (Q : (List (List Ref05_Token)) → Prop) (hm : VC19 l_ Q) (h1 : RS (tSlice tRef05_Token) w0 χ0 a1 l_ c1) :
  Ret Tryd.prog 19 #[.slice a1 l_.length c1] xnone w0 χ0 (fun w χ' v => ∃ r, Q r ∧ ∃ (ra1 : Option Addr) (rc1 : Nat), v = .slice ra1 r.length rc1 ∧ RS (tSlice tRef05_Token) w χ' ra1 r rc1) := by
 unfold VC19 at hm
 replace hm := hm (h1.sm kr)
 refine enter Tryd.func19 rfl (vals := [.slice a1 l_.length c1]) kr ?_
 intro ρ a hS hO hM
 replace h1 := h1.m0 hM
 clear hM
 refine rP T hS ⟨[(0, Sl a1 l_ c1)], []⟩ fun a hS => ?_
 refine rP T hS ⟨[(0, Sl a1 l_ c1), (3, V (.slice none 0 0))], []⟩ fun a hS => ?_
 refine wcut (fun a w => ∃ (ρ : Nat → Nat) (χ : Nat → Nat) (out_101 : List (List Ref05_Token)) (a102 : Option Addr) (c103 : Nat), VC19_J1 Q out_101 ∧ St Tryd.f19.ntmps ⟨[(3, Sl a102 out_101 c103)], []⟩ ρ a w χ ∧ Old w0 χ0 w χ ∧ OS (tSlice tRef05_Token) 64 w χ 1003 a102 out_101 c103) ?_ ?_
 ·refine rP T hS ⟨[(0, Sl a1 l_ c1), (3, V (.slice none 0 0)), (4, I 0)], []⟩ fun a hS => ?_
  refine wblock ?_
  obtain ⟨I1, μ1, hm0, hm⟩ := hm
  refine wloop (σ := (List (List Ref05_Token)) × Int) (fun s a w => ∃ (ρ : Nat → Nat) (χ : Nat → Nat) (a109 : Option Addr) (c110 : Nat), I1 s.1 s.2 ∧ St Tryd.f19.ntmps ⟨[(0, Sl a1 l_ c1), (3, Sl a109 s.1 c110), (4, I s.2)], []⟩ ρ a w χ ∧ Old w0 χ0 w χ ∧ RS (tSlice tRef05_Token) w χ a1 l_ c1 ∧ OS (tSlice tRef05_Token) 64 w χ 1003 a109 s.1 c110) (fun s => μ1 s.1 s.2) (⟨[], 0⟩) ?_ ?_
  ·exact ⟨ρ, _, none, 0, hm0, hS.sl _, hO, h1, (OS.nil _ _ _ _ _)⟩
  ·rintro ⟨out_108, i_112⟩ a w142 ⟨ρ, χ141, a109, c110, hI, hS, hO, h107, h111⟩
   replace hm := hm out_108 i_112 hI
   clear hI hm0
   refine wseq ?_
   refine rP T hS ⟨[(0, Sl a1 l_ c1), (3, Sl a109 out_108 c110), (4, I i_112), (8, B (decide (i_112 < ((l_.length : Nat) : Int))))], []⟩ fun a hS => ?_
   refine wcond hS (b := decide (i_112 < ((l_.length : Nat) : Int))) kr (fun hb => ?_) (fun hb => ?_)
   ·replace hm := hm.1 hb
    refine wskip ?_
    refine wcut (fun a w => ∃ (ρ : Nat → Nat) (χ : Nat → Nat) (out_114 : List (List Ref05_Token)) (a115 : Option Addr) (c116 : Nat), VC19_J2 I1 μ1 out_108 i_112 out_114 ∧ St Tryd.f19.ntmps ⟨[(0, Sl a1 l_ c1), (3, Sl a115 out_114 c116), (4, I i_112)], []⟩ ρ a w χ ∧ Old w0 χ0 w χ ∧ RS (tSlice tRef05_Token) w χ a1 l_ c1 ∧ OS (tSlice tRef05_Token) 64 w χ 1003 a115 out_114 c116) ?_ ?_
    ·refine wblock ?_
     refine regO ?_
     refine oP T hS 2 ⟨[(0, Sl a1 l_ c1), (3, Sl a109 out_108 c110), (4, I i_112), (11, Sl a1 l_ c1), (12, I i_112)], []⟩ fun a hS => ?_
     obtain ⟨hq, hm⟩ := hm
     refine op1 (index (e := 64) (k := .i64) T hS kr kr kr kr h107 kr kr hq.1 hq.2 ?_)
     intro A118 a h119 hS
     clear hq
     refine op1 (load1 T hS kr kr kr h119 rfl kr ?_)
     intro v120 a hv hS
     obtain ⟨a121, c122, hv, h123⟩ := hv
     cases hv
     replace hm := hm (h123.sm kr)
     refine eP T hS ⟨[(0, Sl a1 l_ c1), (3, Sl a109 out_108 c110), (4, I i_112), (16, B (decide ((((gi l_ i_112).length : Nat) : Int) > 0)))], []⟩ fun a hS => ?_
     refine wcond hS (b := decide ((((gi l_ i_112).length : Nat) : Int) > 0)) kr (fun hb => ?_) (fun hb => ?_)
     ·replace hm := hm.1 hb
      refine region ?_
      refine oP T hS 3 ⟨[(0, Sl a1 l_ c1), (3, Sl a109 out_108 c110), (4, I i_112), (17, Sl a109 out_108 c110), (18, Sl a1 l_ c1), (19, I i_112)], []⟩ fun a hS => ?_
      obtain ⟨hq, hm⟩ := hm
      refine op1 (index (e := 64) (k := .i64) T hS kr kr kr kr h107 kr kr hq.1 hq.2 ?_)
      intro A124 a h125 hS
      clear hq
      refine op1 (load1 T hS kr kr kr h125 rfl kr ?_)
      intro v126 a hv hS
      obtain ⟨a127, c128, hv, h129⟩ := hv
      cases hv
      replace hm := hm (h129.sm kr)
      refine op1 (lit (E := 64) (col := 0) (T := (tSlice tRef05_Token)) (vals := [.slice a127 (gi l_ i_112).length c128]) (ys := [gi l_ i_112]) T hS kr kr kr kr (by exact ⟨⟨a127, c128, rfl, h129⟩, trivial⟩) rfl kr kr kr kr ?_)
      intro b130 a w131 χ132 hE h133 hN hS
      clear hN
      replace hO := hO.mv hE rfl rfl
      replace h107 := h107.mv hE rfl
      replace h111 := h111.mv hE rfl rfl
      replace h125 := h125.mv hE rfl
      replace h129 := h129.mv hE rfl
      clear hE
      replace h133 := h133.rs0
      obtain ⟨hq, hm⟩ := hm
      obtain ⟨news, hN⟩ := h133.src
      refine op1 (append (E := 64) (T := (tSlice tRef05_Token)) (col := 1003) (xs := out_108) T hS kr kr kr kr h111 hN kr kr kr kr hq ?_)
      intro a137 c138 a w134 χ135 hE h136 hS
      clear hq hN
      clear h111
      replace hO := hO.mv hE rfl rfl
      replace h107 := h107.mv hE rfl
      replace h125 := h125.mv hE rfl
      replace h129 := h129.mv hE rfl
      replace h133 := h133.mv hE rfl
      clear hE
      refine eP T hS ⟨[(0, Sl a1 l_ c1), (3, Sl a137 (out_108 ++ [gi l_ i_112]) c138), (4, I i_112)], []⟩ fun a hS => ?_
      exact ⟨ρ, _, out_108 ++ [gi l_ i_112], a137, c138, hm, hS.sl _, hO, h107, h136⟩
     ·replace hm := hm.2 hb
      refine wskip ?_
      exact ⟨ρ, _, out_108, a109, c110, hm, hS.sl _, hO, h107, h111⟩
    ·rintro a w140 ⟨ρ, χ139, out_114, a115, c116, hm, hS, hO, h113, h117⟩
     unfold VC19_J2 at hm
     refine region (eP T hS ⟨[(0, Sl a1 l_ c1), (3, Sl a115 out_114 c116), (4, I (IntKind.i64.wrap (i_112 + 1)))], []⟩ fun a hS => ?_)
     exact ⟨⟨out_114, IntKind.i64.wrap (i_112 + 1)⟩, ⟨ρ, _, a115, c116, hm.1, hS.sl _, hO, h113, h117⟩, hm.2⟩
   ·replace hm := hm.2 hb
    refine wexit (by rfl) ?_
    exact ⟨ρ, _, out_108, a109, c110, hm, hS.sl _, hO, h111⟩
 ·rintro a w144 ⟨ρ, χ143, out_101, a102, c103, hm, hS, hO, h104⟩
  unfold VC19_J1 at hm
  refine rP T hS ⟨[(2, Sl a102 out_101 c103)], []⟩ fun a hS => ?_
  refine wret ?_
  obtain ⟨χ105, hE, hF⟩ := h104.freeze (by decide)
  replace hS := hS.ev hE (xone_box kr)
  replace hO := hO.mv hE rfl rfl
  have h106 := hF; clear hE hF
  exact fin T hS hO (fun c => c) rfl (r := [.slice a102 out_101.length c103]) kr (fun χ' hM hC => ⟨out_101, hm, a102, c103, rfl, h106.m0 hM⟩)
theorem C19 (v : ∀ (l_ : List (List Ref05_Token)), preS l_ → VC19 l_ (fun r => r = ref24_Said l_)) : S19 := by
 intro w χ l_ a1 c1   hp h1
 refine (W19 w χ l_ a1 c1   _ (v l_ hp) h1).mono ?_
 rintro _ _ _ _ ⟨r, rfl, h⟩
 exact h
/-- replevin/replevinref24.line -/
theorem W45 (k46 : S46) (w0 : World) (χ0 : Nat → Nat) (l_ : List (List Ref05_Token)) (i_ : Int) (word : List UInt8) (end_ : Int) (a1 : Option Addr) (c1 : Nat) (Q : (List Int) × Int × Int → Prop) (hm : VC45 l_ i_ word end_ Q) (h1 : RS (tSlice tRef05_Token) w0 χ0 a1 l_ c1) :
  Ret Tryd.prog 45 #[.slice a1 l_.length c1, .int .i64 i_, .string (bs word), .int .i64 end_] xnone w0 χ0 (fun w χ' v => ∃ r, Q r ∧ ∃ (ra1 : Option Addr) (rc1 : Nat), v = .tuple #[.slice ra1 r.1.length rc1, .int .i64 r.2.1, .int .i64 r.2.2] ∧ RS tI w χ' ra1 r.1 rc1) := by
 unfold VC45 at hm
 replace hm := hm (h1.sm kr)
 refine enter Tryd.func45 rfl (vals := [.slice a1 l_.length c1, .int .i64 i_, .string (bs word), .int .i64 end_]) kr ?_
 intro ρ a hS hO hM
 replace h1 := h1.m0 hM
 clear hM
 refine rP T hS ⟨[(0, Sl a1 l_ c1), (1, I i_), (2, Z word), (3, I end_)], []⟩ fun a hS => ?_
 refine wseq ?_
 refine rP T hS ⟨[(0, Sl a1 l_ c1), (1, I i_), (2, Z word), (3, I end_), (14, B (decide (i_ ≥ ((l_.length : Nat) : Int))))], []⟩ fun a hS => ?_
 refine wcond hS (b := decide (i_ ≥ ((l_.length : Nat) : Int))) kr (fun hb => ?_) (fun hb => ?_)
 ·replace hm := hm.1 hb
  refine rP T hS ⟨[(8, V (.slice none 0 0)), (9, I end_), (10, I 4)], []⟩ fun a hS => ?_
  refine wret ?_
  exact fin T hS hO (fun c => c) rfl (r := [.slice none 0 0, .int .i64 end_, .int .i64 4]) kr (fun χ' hM hC => ⟨([], end_, 4), hm, none, 0, rfl, RS.empty _ _ _⟩)
 ·replace hm := hm.2 hb
  refine wskip ?_
  refine regO ?_
  refine oP T hS 2 ⟨[(2, Z word), (3, I end_), (16, Sl a1 l_ c1), (17, I i_)], []⟩ fun a hS => ?_
  obtain ⟨hq, hm⟩ := hm
  refine op1 (index (e := 64) (k := .i64) T hS kr kr kr kr h1 kr kr hq.1 hq.2 ?_)
  intro A101 a h102 hS
  clear hq
  refine op1 (load1 T hS kr kr kr h102 rfl kr ?_)
  intro v103 a hv hS
  obtain ⟨a104, c105, hv, h106⟩ := hv
  cases hv
  replace hm := hm (h106.sm kr)
  refine oP T hS 1 ⟨[(3, I end_), (19, Sl a104 (gi l_ i_) c105), (20, Z word)], []⟩ fun a hS => ?_
  refine op1 (lit (E := 3) (col := 0) (T := tI) (vals := [.int .i64 0, .int .i64 0, .int .i64 0, .int .i64 0]) (ys := [0, 0, 0, 0]) T hS kr kr kr kr (by exact ⟨rfl, rfl, rfl, rfl, trivial⟩) rfl kr kr kr kr ?_)
  intro b107 a w108 χ109 hE h110 hN hS
  clear hN
  replace hO := hO.mv hE rfl rfl
  replace h106 := h106.mv hE rfl
  clear hE
  replace h110 := h110.rs0
  refine op1 (lit (E := 3) (col := 0) (T := tI) (vals := [.int .i64 1000000, .int .i64 1000000, .int .i64 1000000, .int .i64 1000000]) (ys := [1000000, 1000000, 1000000, 1000000]) T hS kr kr kr kr (by exact ⟨rfl, rfl, rfl, rfl, trivial⟩) rfl kr kr kr kr ?_)
  intro b111 a w112 χ113 hE h114 hN hS
  clear hN
  replace hO := hO.mv hE rfl rfl
  replace h106 := h106.mv hE rfl
  replace h110 := h110.mv hE rfl
  clear hE
  replace h114 := h114.rs0
  refine oP T hS 1 ⟨[(19, Sl a104 (gi l_ i_) c105), (20, Z word), (21, Sl (some ⟨b107, 0, none⟩) [0, 0, 0, 0] 4), (22, Sl (some ⟨b111, 0, none⟩) [1000000, 1000000, 1000000, 1000000] 4), (23, I end_)], []⟩ fun a hS => ?_
  obtain ⟨hq, hm⟩ := hm
  refine op1 (call hS kr kr hb46 kr (fun _ _ => rfl) (k46 _ _ (gi l_ i_) word [0, 0, 0, 0] [1000000, 1000000, 1000000, 1000000] end_ a104 c105 (some ⟨b107, 0, none⟩) 4 (some ⟨b111, 0, none⟩) 4 hq h106 h110 h114) ?_)
  intro v115 a w116 χ117 hE hp hS
  clear hq
  replace hO := hO.mv hE rfl rfl
  replace h106 := h106.mv hE rfl
  replace h110 := h110.mv hE rfl
  replace h114 := h114.mv hE rfl
  clear hE
  obtain ⟨a119, c120, hp, h121⟩ := hp
  obtain ⟨r118, hr⟩ : ∃ r, ref24_Numbers (gi l_ i_) word [0, 0, 0, 0] [1000000, 1000000, 1000000, 1000000] end_ = r := ⟨_, rfl⟩
  replace hm := hm r118 hr
  rw [hr] at hp h121
  clear hr
  subst hp
  replace hm := hm (h121.sm kr)
  refine eP T hS ⟨[(8, Sl a119 r118.1 c120), (9, I r118.2.1), (10, I r118.2.2)], []⟩ fun a hS => ?_
  refine wret ?_
  exact fin T hS hO (fun c => c) rfl (r := [.slice a119 r118.1.length c120, .int .i64 r118.2.1, .int .i64 r118.2.2]) kr (fun χ' hM hC => ⟨(r118.1, r118.2.1, r118.2.2), hm, a119, c120, rfl, h121.m0 hM⟩)
theorem C45 (k46 : S46) (v : ∀ (l_ : List (List Ref05_Token)) (i_ : Int) (word : List UInt8) (end_ : Int), preL l_ i_ word end_ → VC45 l_ i_ word end_ (fun r => r = ref24_line l_ i_ word end_)) : S45 := by
 intro w χ l_ i_ word end_ a1 c1   hp h1
 refine (W45 k46 w χ l_ i_ word end_ a1 c1   _ (v l_ i_ word end_ hp) h1).mono ?_
 rintro _ _ _ _ ⟨r, rfl, h⟩
 exact h
/-- replevin/replevinref24.Take -/
theorem W21 (k35 : S35) (k45 : S45) (w0 : World) (χ0 : Nat → Nat) (l_ : List (List Ref05_Token)) (end_ : Int) (a1 : Option Addr) (c1 : Nat) (Q : Api_Object × Int × Int × Int → Prop) (hm : VC21 l_ end_ Q) (h1 : RS (tSlice tRef05_Token) w0 χ0 a1 l_ c1) :
  Ret Tryd.prog 21 #[.slice a1 l_.length c1, .int .i64 end_] xnone w0 χ0 (fun w χ' v => ∃ r, Q r ∧ ∃ (ra1 : Option Addr) (rc1 : Nat), v = .tuple #[.agg #[.int .i64 r.1.States, .int .i64 r.1.Kinds, .int .i64 r.1.Init, .slice ra1 r.1.Rows.length rc1], .int .i64 r.2.1, .int .i64 r.2.2.1, .int .i64 r.2.2.2] ∧ RS tApi_Row w χ' ra1 r.1.Rows rc1) := by
 unfold VC21 at hm
 replace hm := hm (h1.sm kr)
 refine enter Tryd.func21 rfl (vals := [.slice a1 l_.length c1, .int .i64 end_]) kr ?_
 intro ρ a hS hO hM
 replace h1 := h1.m0 hM
 clear hM
 refine rM T hS ⟨[(0, Sl a1 l_ c1), (1, I end_), (4, Pt 5 0)], [(5, (25, [I 0, I 0, I 0, V (.slice none 0 0)]))]⟩ fun ρ a w234 χ235 hS hE hr => ?_
 replace hO := hO.mv hE rfl rfl
 replace h1 := h1.mv hE rfl
 clear hE hr
 refine regO ?_
 refine oP T hS 2 ⟨[(0, Sl a1 l_ c1), (1, I end_), (4, Pt 5 0), (18, Sl a1 l_ c1), (19, I end_)], [(5, (25, [I 0, I 0, I 0, V (.slice none 0 0)]))]⟩ fun a hS => ?_
 obtain ⟨hq, hm⟩ := hm
 refine op1 (call hS kr kr hb45 kr (fun _ _ => rfl) (k45 _ _ l_ 0 ([111, 98, 106, 101, 99, 116] : List UInt8) end_ a1 c1 hq h1) ?_)
 intro v101 a w102 χ103 hE hp hS
 clear hq
 replace hO := hO.mv hE rfl rfl
 replace h1 := h1.mv hE rfl
 clear hE
 obtain ⟨a105, c106, hp, h107⟩ := hp
 obtain ⟨r104, hr⟩ : ∃ r, ref24_line l_ 0 ([111, 98, 106, 101, 99, 116] : List UInt8) end_ = r := ⟨_, rfl⟩
 replace hm := hm r104 hr
 rw [hr] at hp h107
 clear hr
 subst hp
 replace hm := hm (h107.sm kr)
 refine eP T hS ⟨[(0, Sl a1 l_ c1), (1, I end_), (4, Pt 5 0), (8, Sl a105 r104.1 c106), (9, I r104.2.1), (10, I r104.2.2)], [(5, (25, [I 0, I 0, I 0, V (.slice none 0 0)]))]⟩ fun a hS => ?_
 refine wseq ?_
 refine rP T hS ⟨[(0, Sl a1 l_ c1), (1, I end_), (4, Pt 5 0), (8, Sl a105 r104.1 c106), (9, I r104.2.1), (10, I r104.2.2), (25, B (r104.2.2 != 0))], [(5, (25, [I 0, I 0, I 0, V (.slice none 0 0)]))]⟩ fun a hS => ?_
 refine wcond hS (b := (r104.2.2 != 0)) kr (fun hb => ?_) (fun hb => ?_)
 ·replace hm := hm.1 hb
  refine rM T hS ⟨[(4, Pt 5 0), (5, I 0), (6, I r104.2.1), (7, I r104.2.2)], [(5, (25, [I 0, I 0, I 0, V (.slice none 0 0)]))]⟩ fun ρ a w108 χ109 hS hE hr => ?_
  replace hO := hO.mv hE rfl rfl
  clear hE hr
  refine wret ?_
  exact fin T hS hO (fun c => c) rfl (r := [.agg #[.int .i64 0, .int .i64 0, .int .i64 0, .slice none 0 0], .int .i64 0, .int .i64 r104.2.1, .int .i64 r104.2.2]) kr (fun χ' hM hC => ⟨((⟨0, 0, 0, []⟩ : Api_Object), 0, r104.2.1, r104.2.2), hm, none, 0, rfl, RS.empty _ _ _⟩)
 ·replace hm := hm.2 hb
  refine wskip ?_
  refine drawnSX [5] mixed hS ?_
  intro w110 χ111 hS hE hD hH
  replace hO := hO.mv hE rfl rfl
  replace h1 := h1.mv hE rfl
  replace h107 := h107.mv hE rfl
  clear hE
  refine tk T [0, 3, 6] [5] hS hH #[true, false, false, true, false, false, true, false, false, false, false, false] 9 ⟨[(0, Sl a1 l_ c1), (1, I end_), (4, Pt 5 0), (8, Sl a105 r104.1 c106), (29, Sl a105 r104.1 c106), (32, Sl a105 r104.1 c106), (35, Sl a105 r104.1 c106)], [(5, (25, [I 0, I 0, I 0, V (.slice none 0 0)]))]⟩ fun a hS => ?_
  obtain ⟨hq, hm⟩ := hm
  refine dindex (e := 3) (k := .i64) T 1 hS kr kr kr (by rfl) kr hH kr kr h107 kr kr hq.1 hq.2 ?_
  intro A112 a h113 hS
  clear hq
  have h113b := h113.here
  refine dload1 T 2 hS kr kr kr (by rfl) kr hH kr h113 h113b rfl kr ?_
  intro v114 a hv hS
  cases hv
  obtain ⟨hq, hm⟩ := hm
  refine dindex (e := 3) (k := .i64) T 4 hS kr kr kr (by rfl) kr hH kr kr h107 kr kr hq.1 hq.2 ?_
  intro A115 a h116 hS
  clear hq
  have h116b := h116.here
  refine dload1 T 5 hS kr kr kr (by rfl) kr hH kr h116 h116b rfl kr ?_
  intro v117 a hv hS
  cases hv
  obtain ⟨hq, hm⟩ := hm
  refine dindex (e := 3) (k := .i64) T 7 hS kr kr kr (by rfl) kr hH kr kr h107 kr kr hq.1 hq.2 ?_
  intro A118 a h119 hS
  clear hq
  have h119b := h119.here
  refine dload1 T 8 hS kr kr kr (by rfl) kr hH kr h119 h119b rfl kr ?_
  intro v120 a hv hS
  cases hv
  refine tk T [9] [5] hS hH #[true, true, true, true, true, true, true, true, true, true, false, false] 2 ⟨[(0, Sl a1 l_ c1), (1, I end_), (4, Pt 5 0), (8, Sl a105 r104.1 c106), (38, V (.agg #[.int .i64 (gi r104.1 0), .int .i64 (gi r104.1 1), .int .i64 (gi r104.1 2), .slice none 0 0]))], [(5, (25, [I 0, I 0, I 0, V (.slice none 0 0)]))]⟩ fun a hS => ?_
  replace hS := hS.sl ⟨[(0, Sl a1 l_ c1), (1, I end_), (4, Pt 5 0), (8, Sl a105 r104.1 c106), (38, V (.agg #[.int .i64 (gi r104.1 0), .int .i64 (gi r104.1 1), .int .i64 (gi r104.1 2), .slice none 0 0]))], [(5, (25, [I 0, I 0, I 0, V (.slice none 0 0)]))]⟩
  refine only 10 kr (by rfl) (box1 T hS kr kr kr (sy' := ⟨[(11, Pt 12 0), (0, Sl a1 l_ c1), (1, I end_), (4, Pt 5 0), (8, Sl a105 r104.1 c106), (38, V (.agg #[.int .i64 (gi r104.1 0), .int .i64 (gi r104.1 1), .int .i64 (gi r104.1 2), .slice none 0 0]))], [(12, (25, [I 0, I 0, I 0, V (.slice none 0 0)])), (5, (25, [I 0, I 0, I 0, V (.slice none 0 0)]))]⟩) kr ?_)
  intro ρ a w121 χ122 hS hE hr123
  replace hO := hO.mv hE rfl rfl
  replace hD := hD.ev hE rfl
  replace h1 := h1.mv hE rfl
  replace h107 := h107.mv hE rfl
  replace h113 := h113.mv hE rfl
  replace h116 := h116.mv hE rfl
  replace h119 := h119.mv hE rfl
  clear hE
  replace hS := hS.sl ⟨[(0, Sl a1 l_ c1), (1, I end_), (4, Pt 5 0), (8, Sl a105 r104.1 c106), (38, V (.agg #[.int .i64 (gi r104.1 0), .int .i64 (gi r104.1 1), .int .i64 (gi r104.1 2), .slice none 0 0])), (11, Pt 12 0)], [(5, (25, [I 0, I 0, I 0, V (.slice none 0 0)])), (12, (25, [I 0, I 0, I 0, V (.slice none 0 0)]))]⟩
  refine andH ((Hold.of hS (bks := [5]) kr hD).rho hr123 kr) ?_
  intro hH
  replace hS := hS.sl ⟨[(0, Sl a1 l_ c1), (1, I end_), (4, Pt 5 0), (8, Sl a105 r104.1 c106), (38, V (.agg #[.int .i64 (gi r104.1 0), .int .i64 (gi r104.1 1), .int .i64 (gi r104.1 2), .slice none 0 0])), (11, Pt 12 0)], [(5, (25, [I 0, I 0, I 0, V (.slice none 0 0)])), (12, (25, [I 0, I 0, I 0, V (.slice none 0 0)]))]⟩
  refine only 11 kr (by rfl) (store1 T hS kr kr (sy' := ⟨[(0, Sl a1 l_ c1), (1, I end_), (4, Pt 5 0), (8, Sl a105 r104.1 c106), (38, V (.agg #[.int .i64 (gi r104.1 0), .int .i64 (gi r104.1 1), .int .i64 (gi r104.1 2), .slice none 0 0])), (11, Pt 12 0)], [(12, (25, [I (gi r104.1 0), I (gi r104.1 1), I (gi r104.1 2), V (.slice none 0 0)])), (5, (25, [I 0, I 0, I 0, V (.slice none 0 0)])), (12, (25, [I 0, I 0, I 0, V (.slice none 0 0)]))]⟩) kr ?_)
  intro a w124 χ125 hS hE
  replace hO := hO.mv hE rfl rfl
  replace hD := hD.ev hE rfl
  replace h1 := h1.mv hE rfl
  replace h107 := h107.mv hE rfl
  replace h113 := h113.mv hE rfl
  replace h116 := h116.mv hE rfl
  replace h119 := h119.mv hE rfl
  clear hE
  replace hS := hS.sl ⟨[(0, Sl a1 l_ c1), (1, I end_), (4, Pt 5 0), (8, Sl a105 r104.1 c106), (38, V (.agg #[.int .i64 (gi r104.1 0), .int .i64 (gi r104.1 1), .int .i64 (gi r104.1 2), .slice none 0 0])), (11, Pt 12 0)], [(5, (25, [I 0, I 0, I 0, V (.slice none 0 0)])), (12, (25, [I (gi r104.1 0), I (gi r104.1 1), I (gi r104.1 2), V (.slice none 0 0)]))]⟩
  refine andH ((Hold.of hS (bks := [5]) kr hD).rho hr123 kr) ?_
  intro hH
  refine drawnDone kr ?_
  clear hD hH
  replace hS := hS.sl ⟨[(0, Sl a1 l_ c1), (1, I end_), (4, Pt 5 0), (8, Sl a105 r104.1 c106), (11, Pt 12 0)], [(5, (25, [I 0, I 0, I 0, V (.slice none 0 0)])), (12, (25, [I (gi r104.1 0), I (gi r104.1 1), I (gi r104.1 2), V (.slice none 0 0)]))]⟩
  refine wcut (fun a w => ∃ (ρ : Nat → Nat) (χ : Nat → Nat) (x_128 : Int) (x_129 : Int) (x_130 : Int) (x_131 : List Api_Row) (a132 : Option Addr) (c133 : Nat), VC21_J1 l_ end_ Q r104 x_128 x_129 x_130 x_131 ∧ St Tryd.f21.ntmps ⟨[(0, Sl a1 l_ c1), (1, I end_), (4, Pt 5 0), (8, Sl a105 r104.1 c106), (11, Pt 12 0)], [(5, (25, [I 0, I 0, I 0, V (.slice none 0 0)])), (12, (25, [I x_128, I x_129, I x_130, Sl a132 x_131 c133]))]⟩ ρ a w χ ∧ Old w0 χ0 w χ ∧ RS (tSlice tRef05_Token) w χ a1 l_ c1 ∧ RS tI w χ a105 r104.1 c106 ∧ OS tApi_Row 99 w χ 1061 a132 x_131 c133) ?_ ?_
  ·refine rP T hS ⟨[(0, Sl a1 l_ c1), (1, I end_), (4, Pt 5 0), (8, Sl a105 r104.1 c106), (11, Pt 12 0), (12, I 1)], [(5, (25, [I 0, I 0, I 0, V (.slice none 0 0)])), (12, (25, [I (gi r104.1 0), I (gi r104.1 1), I (gi r104.1 2), V (.slice none 0 0)]))]⟩ fun a hS => ?_
   refine wblock ?_
   obtain ⟨I1, μ1, hm0, hm⟩ := hm
   refine wloop (σ := Int × Int × Int × Int × (List Api_Row)) (fun s a w => ∃ (ρ : Nat → Nat) (χ : Nat → Nat) (a170 : Option Addr) (c171 : Nat), I1 s.1 s.2.1 s.2.2.1 s.2.2.2.1 s.2.2.2.2 ∧ St Tryd.f21.ntmps ⟨[(0, Sl a1 l_ c1), (1, I end_), (4, Pt 5 0), (8, Sl a105 r104.1 c106), (11, Pt 12 0), (12, I s.1)], [(5, (25, [I 0, I 0, I 0, V (.slice none 0 0)])), (12, (25, [I s.2.1, I s.2.2.1, I s.2.2.2.1, Sl a170 s.2.2.2.2 c171]))]⟩ ρ a w χ ∧ Old w0 χ0 w χ ∧ RS (tSlice tRef05_Token) w χ a1 l_ c1 ∧ RS tI w χ a105 r104.1 c106 ∧ OS tApi_Row 99 w χ 1061 a170 s.2.2.2.2 c171) (fun s => μ1 s.1 s.2.1 s.2.2.1 s.2.2.2.1 s.2.2.2.2) (⟨1, gi r104.1 0, gi r104.1 1, gi r104.1 2, []⟩) ?_ ?_
   ·exact ⟨ρ, _, none, 0, hm0, hS.sl _, hO, h1, h107, (OS.nil _ _ _ _ _)⟩
   ·rintro ⟨i_165, x_166, x_167, x_168, x_169⟩ a w231 ⟨ρ, χ230, a170, c171, hI, hS, hO, h163, h164, h172⟩
    replace hm := hm i_165 x_166 x_167 x_168 x_169 hI
    clear hI hm0
    refine wseq ?_
    refine regO ?_
    refine oP T hS 2 ⟨[(0, Sl a1 l_ c1), (1, I end_), (4, Pt 5 0), (8, Sl a105 r104.1 c106), (11, Pt 12 0), (12, I i_165), (39, I i_165), (40, Sl a105 r104.1 c106)], [(5, (25, [I 0, I 0, I 0, V (.slice none 0 0)])), (12, (25, [I x_166, I x_167, I x_168, Sl a170 x_169 c171]))]⟩ fun a hS => ?_
    obtain ⟨hq, hm⟩ := hm
    refine op1 (index (e := 3) (k := .i64) T hS kr kr kr kr h164 kr kr hq.1 hq.2 ?_)
    intro A173 a h174 hS
    clear hq
    refine op1 (load1 T hS kr kr kr h174 rfl kr ?_)
    intro v175 a hv hS
    cases hv
    refine eP T hS ⟨[(0, Sl a1 l_ c1), (1, I end_), (4, Pt 5 0), (8, Sl a105 r104.1 c106), (11, Pt 12 0), (12, I i_165), (43, B (decide (i_165 ≤ (gi r104.1 3))))], [(5, (25, [I 0, I 0, I 0, V (.slice none 0 0)])), (12, (25, [I x_166, I x_167, I x_168, Sl a170 x_169 c171]))]⟩ fun a hS => ?_
    refine wcond hS (b := decide (i_165 ≤ (gi r104.1 3))) kr (fun hb => ?_) (fun hb => ?_)
    ·replace hm := hm.1 hb
     refine wskip ?_
     refine wseq ?_
     refine wblock ?_
     refine regO ?_
     refine oP T hS 3 ⟨[(0, Sl a1 l_ c1), (1, I end_), (4, Pt 5 0), (8, Sl a105 r104.1 c106), (11, Pt 12 0), (12, I i_165), (47, Sl a1 l_ c1), (48, I i_165), (49, I end_)], [(5, (25, [I 0, I 0, I 0, V (.slice none 0 0)])), (12, (25, [I x_166, I x_167, I x_168, Sl a170 x_169 c171]))]⟩ fun a hS => ?_
     obtain ⟨hq, hm⟩ := hm
     refine op1 (call hS kr kr hb45 kr (fun _ _ => rfl) (k45 _ _ l_ i_165 ([114, 111, 119] : List UInt8) end_ a1 c1 hq h163) ?_)
     intro v176 a w177 χ178 hE hp hS
     clear hq
     replace hO := hO.mv hE rfl rfl
     replace h163 := h163.mv hE rfl
     replace h164 := h164.mv hE rfl
     replace h172 := h172.mv hE rfl rfl
     clear hE
     obtain ⟨a180, c181, hp, h182⟩ := hp
     obtain ⟨r179, hr⟩ : ∃ r, ref24_line l_ i_165 ([114, 111, 119] : List UInt8) end_ = r := ⟨_, rfl⟩
     replace hm := hm r179 hr
     rw [hr] at hp h182
     clear hr
     subst hp
     replace hm := hm (h182.sm kr)
     refine eP T hS ⟨[(0, Sl a1 l_ c1), (1, I end_), (4, Pt 5 0), (8, Sl a105 r104.1 c106), (11, Pt 12 0), (12, I i_165), (13, Sl a180 r179.1 c181), (14, I r179.2.1), (15, I r179.2.2)], [(5, (25, [I 0, I 0, I 0, V (.slice none 0 0)])), (12, (25, [I x_166, I x_167, I x_168, Sl a170 x_169 c171]))]⟩ fun a hS => ?_
     refine wseq ?_
     refine rP T hS ⟨[(0, Sl a1 l_ c1), (1, I end_), (4, Pt 5 0), (8, Sl a105 r104.1 c106), (11, Pt 12 0), (12, I i_165), (13, Sl a180 r179.1 c181), (14, I r179.2.1), (15, I r179.2.2), (55, B (r179.2.2 != 0))], [(5, (25, [I 0, I 0, I 0, V (.slice none 0 0)])), (12, (25, [I x_166, I x_167, I x_168, Sl a170 x_169 c171]))]⟩ fun a hS => ?_
     refine wcond hS (b := (r179.2.2 != 0)) kr (fun hb => ?_) (fun hb => ?_)
     ·replace hm := hm.1 hb
      refine rM T hS ⟨[(4, Pt 5 0), (5, I 0), (6, I r179.2.1), (7, I r179.2.2)], [(5, (25, [I 0, I 0, I 0, V (.slice none 0 0)]))]⟩ fun ρ a w183 χ184 hS hE hr => ?_
      replace hO := hO.mv hE rfl rfl
      clear hE hr
      refine wret ?_
      exact fin T hS hO (fun c => c) rfl (r := [.agg #[.int .i64 0, .int .i64 0, .int .i64 0, .slice none 0 0], .int .i64 0, .int .i64 r179.2.1, .int .i64 r179.2.2]) kr (fun χ' hM hC => ⟨((⟨0, 0, 0, []⟩ : Api_Object), 0, r179.2.1, r179.2.2), hm, none, 0, rfl, RS.empty _ _ _⟩)
     ·replace hm := hm.2 hb
      refine wskip ?_
      refine drawnX [5] mixed hS ?_
      intro w185 χ186 hS hE hD hH
      replace hO := hO.mv hE rfl rfl
      replace h163 := h163.mv hE rfl
      replace h164 := h164.mv hE rfl
      replace h172 := h172.mv hE rfl rfl
      replace h182 := h182.mv hE rfl
      clear hE
      refine tk T [0, 2, 5, 8, 11] [5] hS hH #[true, false, true, false, false, true, false, false, true, false, false, true, false, false, false, false, false, false, false] 14 ⟨[(0, Sl a1 l_ c1), (1, I end_), (4, Pt 5 0), (8, Sl a105 r104.1 c106), (11, Pt 12 0), (12, I i_165), (59, Pt 12 3), (61, Sl a180 r179.1 c181), (64, Sl a180 r179.1 c181), (67, Sl a180 r179.1 c181), (70, Sl a180 r179.1 c181)], [(5, (25, [I 0, I 0, I 0, V (.slice none 0 0)])), (12, (25, [I x_166, I x_167, I x_168, Sl a170 x_169 c171]))]⟩ fun a hS => ?_
      obtain ⟨hq, hm⟩ := hm
      refine dindex (e := 3) (k := .i64) T 3 hS kr kr kr (by rfl) kr hH kr kr h182 kr kr hq.1 hq.2 ?_
      intro A187 a h188 hS
      clear hq
      have h188b := h188.here
      refine dload1 T 4 hS kr kr kr (by rfl) kr hH kr h188 h188b rfl kr ?_
      intro v189 a hv hS
      cases hv
      obtain ⟨hq, hm⟩ := hm
      refine dindex (e := 3) (k := .i64) T 6 hS kr kr kr (by rfl) kr hH kr kr h182 kr kr hq.1 hq.2 ?_
      intro A190 a h191 hS
      clear hq
      have h191b := h191.here
      refine dload1 T 7 hS kr kr kr (by rfl) kr hH kr h191 h191b rfl kr ?_
      intro v192 a hv hS
      cases hv
      obtain ⟨hq, hm⟩ := hm
      refine dindex (e := 3) (k := .i64) T 9 hS kr kr kr (by rfl) kr hH kr kr h182 kr kr hq.1 hq.2 ?_
      intro A193 a h194 hS
      clear hq
      have h194b := h194.here
      refine dload1 T 10 hS kr kr kr (by rfl) kr hH kr h194 h194b rfl kr ?_
      intro v195 a hv hS
      cases hv
      obtain ⟨hq, hm⟩ := hm
      refine dindex (e := 3) (k := .i64) T 12 hS kr kr kr (by rfl) kr hH kr kr h182 kr kr hq.1 hq.2 ?_
      intro A196 a h197 hS
      clear hq
      have h197b := h197.here
      refine dload1 T 13 hS kr kr kr (by rfl) kr hH kr h197 h197b rfl kr ?_
      intro v198 a hv hS
      cases hv
      refine tk T [14] [5] hS hH #[true, false, true, true, true, true, true, true, true, true, true, true, true, true, true, false, false, false, false] 5 ⟨[(0, Sl a1 l_ c1), (1, I end_), (4, Pt 5 0), (8, Sl a105 r104.1 c106), (11, Pt 12 0), (12, I i_165), (59, Pt 12 3), (73, V (.agg #[.int .i64 (gi r179.1 0), .int .i64 (gi r179.1 1), .int .i64 (gi r179.1 2), .int .i64 (gi r179.1 3)]))], [(5, (25, [I 0, I 0, I 0, V (.slice none 0 0)])), (12, (25, [I x_166, I x_167, I x_168, Sl a170 x_169 c171]))]⟩ fun a hS => ?_
      refine drcut (fun a w => ∃ (χ : Nat → Nat) (a211 : Option Addr) (c212 : Nat), St Tryd.f21.ntmps ⟨[(0, Sl a1 l_ c1), (1, I end_), (4, Pt 5 0), (8, Sl a105 r104.1 c106), (11, Pt 12 0), (12, I i_165), (60, Sl a170 x_169 c171), (74, Sl a211 [(⟨gi r179.1 0, gi r179.1 1, gi r179.1 2, gi r179.1 3⟩ : Api_Row)] c212)], [(5, (25, [I 0, I 0, I 0, V (.slice none 0 0)])), (12, (25, [I x_166, I x_167, I x_168, Sl a170 x_169 c171]))]⟩ ρ a w χ ∧ Old w0 χ0 w χ ∧ M0 w185 χ186 w χ ∧ Hold w185 χ186 (filt [5] ⟨[(0, Sl a1 l_ c1), (1, I end_), (4, Pt 5 0), (8, Sl a105 r104.1 c106), (11, Pt 12 0), (12, I i_165), (13, Sl a180 r179.1 c181)], [(5, (25, [I 0, I 0, I 0, V (.slice none 0 0)])), (12, (25, [I x_166, I x_167, I x_168, Sl a170 x_169 c171]))]⟩) ρ w ∧ RS (tSlice tRef05_Token) w χ a1 l_ c1 ∧ RS tI w χ a105 r104.1 c106 ∧ OS tApi_Row 99 w χ 1061 a170 x_169 c171 ∧ RS tApi_Row w χ a211 [(⟨gi r179.1 0, gi r179.1 1, gi r179.1 2, gi r179.1 3⟩ : Api_Row)] c212) #[true, true, true, true, true, true, true, true, true, true, true, true, true, true, true, true, false, false, false] 3 ?_ (fun H => ?_)
      ·rintro a w222 ⟨χ221, a211, c212, hS, hO, hD, hH, h207, h208, h209, h210⟩
       obtain ⟨hq, hm⟩ := hm
       obtain ⟨news, hN⟩ := h210.src
       refine only 16 kr (by rfl) (append (E := 99) (T := tApi_Row) (col := 1061) (xs := x_169) T hS kr kr kr kr h209 hN kr kr kr kr hq ?_)
       intro a226 c227 a w223 χ224 hE h225 hS
       clear hq hN
       clear h209
       replace hO := hO.mv hE rfl rfl
       replace hD := hD.ev hE rfl
       replace h207 := h207.mv hE rfl
       replace h208 := h208.mv hE rfl
       replace h210 := h210.mv hE rfl
       clear hE
       replace hS := hS.sl ⟨[(0, Sl a1 l_ c1), (1, I end_), (4, Pt 5 0), (8, Sl a105 r104.1 c106), (11, Pt 12 0), (12, I i_165), (74, Sl a211 [(⟨gi r179.1 0, gi r179.1 1, gi r179.1 2, gi r179.1 3⟩ : Api_Row)] c212), (75, Sl a226 (x_169 ++ [(⟨gi r179.1 0, gi r179.1 1, gi r179.1 2, gi r179.1 3⟩ : Api_Row)]) c227)], [(5, (25, [I 0, I 0, I 0, V (.slice none 0 0)])), (12, (25, [I x_166, I x_167, I x_168, Sl a170 x_169 c171]))]⟩
       refine andH (Hold.of hS (bks := [5]) kr hD) ?_
       intro hH
       refine tk T [17] [5] hS hH #[true, true, true, true, true, true, true, true, true, true, true, true, true, true, true, true, true, true, false] 1 ⟨[(0, Sl a1 l_ c1), (1, I end_), (4, Pt 5 0), (8, Sl a105 r104.1 c106), (11, Pt 12 0), (12, I i_165), (75, Sl a226 (x_169 ++ [(⟨gi r179.1 0, gi r179.1 1, gi r179.1 2, gi r179.1 3⟩ : Api_Row)]) c227), (76, Pt 12 3)], [(5, (25, [I 0, I 0, I 0, V (.slice none 0 0)])), (12, (25, [I x_166, I x_167, I x_168, Sl a170 x_169 c171]))]⟩ fun a hS => ?_
       replace hS := hS.sl ⟨[(0, Sl a1 l_ c1), (1, I end_), (4, Pt 5 0), (8, Sl a105 r104.1 c106), (11, Pt 12 0), (12, I i_165), (75, Sl a226 (x_169 ++ [(⟨gi r179.1 0, gi r179.1 1, gi r179.1 2, gi r179.1 3⟩ : Api_Row)]) c227), (76, Pt 12 3)], [(5, (25, [I 0, I 0, I 0, V (.slice none 0 0)])), (12, (25, [I x_166, I x_167, I x_168, Sl a170 x_169 c171]))]⟩
       refine only 18 kr (by rfl) (store1 T hS kr kr (sy' := ⟨[(0, Sl a1 l_ c1), (1, I end_), (4, Pt 5 0), (8, Sl a105 r104.1 c106), (11, Pt 12 0), (12, I i_165), (75, Sl a226 (x_169 ++ [(⟨gi r179.1 0, gi r179.1 1, gi r179.1 2, gi r179.1 3⟩ : Api_Row)]) c227), (76, Pt 12 3)], [(12, (25, [I x_166, I x_167, I x_168, Sl a226 (x_169 ++ [(⟨gi r179.1 0, gi r179.1 1, gi r179.1 2, gi r179.1 3⟩ : Api_Row)]) c227])), (5, (25, [I 0, I 0, I 0, V (.slice none 0 0)])), (12, (25, [I x_166, I x_167, I x_168, Sl a170 x_169 c171]))]⟩) kr ?_)
       intro a w228 χ229 hS hE
       replace hO := hO.mv hE rfl rfl
       replace hD := hD.ev hE rfl
       replace h207 := h207.mv hE rfl
       replace h208 := h208.mv hE rfl
       replace h210 := h210.mv hE rfl
       replace h225 := h225.mv hE rfl rfl
       clear hE
       replace hS := hS.sl ⟨[(0, Sl a1 l_ c1), (1, I end_), (4, Pt 5 0), (8, Sl a105 r104.1 c106), (11, Pt 12 0), (12, I i_165), (75, Sl a226 (x_169 ++ [(⟨gi r179.1 0, gi r179.1 1, gi r179.1 2, gi r179.1 3⟩ : Api_Row)]) c227), (76, Pt 12 3)], [(5, (25, [I 0, I 0, I 0, V (.slice none 0 0)])), (12, (25, [I x_166, I x_167, I x_168, Sl a226 (x_169 ++ [(⟨gi r179.1 0, gi r179.1 1, gi r179.1 2, gi r179.1 3⟩ : Api_Row)]) c227]))]⟩
       refine andH (Hold.of hS (bks := [5]) kr hD) ?_
       intro hH
       refine drawnDone kr ?_
       clear hD hH
       replace hS := hS.sl ⟨[(0, Sl a1 l_ c1), (1, I end_), (4, Pt 5 0), (8, Sl a105 r104.1 c106), (11, Pt 12 0), (12, I i_165)], [(5, (25, [I 0, I 0, I 0, V (.slice none 0 0)])), (12, (25, [I x_166, I x_167, I x_168, Sl a226 (x_169 ++ [(⟨gi r179.1 0, gi r179.1 1, gi r179.1 2, gi r179.1 3⟩ : Api_Row)]) c227]))]⟩
       refine region (eP T hS ⟨[(0, Sl a1 l_ c1), (1, I end_), (4, Pt 5 0), (8, Sl a105 r104.1 c106), (11, Pt 12 0), (12, I (IntKind.i64.wrap (i_165 + 1)))], [(5, (25, [I 0, I 0, I 0, V (.slice none 0 0)])), (12, (25, [I x_166, I x_167, I x_168, Sl a226 (x_169 ++ [(⟨gi r179.1 0, gi r179.1 1, gi r179.1 2, gi r179.1 3⟩ : Api_Row)]) c227]))]⟩ fun a hS => ?_)
       exact ⟨⟨IntKind.i64.wrap (i_165 + 1), x_166, x_167, x_168, x_169 ++ [(⟨gi r179.1 0, gi r179.1 1, gi r179.1 2, gi r179.1 3⟩ : Api_Row)]⟩, ⟨ρ, _, a226, c227, hm.1, hS.sl _, hO, h207, h208, h225⟩, hm.2⟩
      ·clear hm
       refine anyOf (is := [1, 15]) kr (by decide) ?_
       intro i hi
       rcases mem2 hi with rfl | rfl
       ·refine oneOp (by rfl) (plain1 T hS kr kr kr (sv := Sl a170 x_169 c171) kr ?_)
        intro a hS
        refine andH (Hold.of hS (bks := [5]) kr hD) ?_
        intro hH
        refine only 15 kr (by rfl) (lit (E := 99) (col := 0) (T := tApi_Row) (vals := [.agg #[.int .i64 (gi r179.1 0), .int .i64 (gi r179.1 1), .int .i64 (gi r179.1 2), .int .i64 (gi r179.1 3)]]) (ys := [(⟨gi r179.1 0, gi r179.1 1, gi r179.1 2, gi r179.1 3⟩ : Api_Row)]) T hS kr kr kr kr (by exact ⟨rfl, trivial⟩) rfl kr kr kr kr ?_)
        intro b213 a w214 χ215 hE h216 hN hS
        clear hN
        replace hO := hO.mv hE rfl rfl
        replace hD := hD.ev hE rfl
        replace h163 := h163.mv hE rfl
        replace h164 := h164.mv hE rfl
        replace h172 := h172.mv hE rfl rfl
        replace h182 := h182.mv hE rfl
        replace h188 := h188.mv hE rfl
        replace h191 := h191.mv hE rfl
        replace h194 := h194.mv hE rfl
        replace h197 := h197.mv hE rfl
        clear hE
        replace h216 := h216.rs0
        refine andH (Hold.of hS (bks := [5]) kr hD) ?_
        intro hH
        exact H _ _ ⟨_, (some ⟨b213, 0, none⟩), 1, hS.sl _, hO, hD, hH, h163, h164, h172, h216⟩
       ·refine oneOp (by rfl) (lit (E := 99) (col := 0) (T := tApi_Row) (vals := [.agg #[.int .i64 (gi r179.1 0), .int .i64 (gi r179.1 1), .int .i64 (gi r179.1 2), .int .i64 (gi r179.1 3)]]) (ys := [(⟨gi r179.1 0, gi r179.1 1, gi r179.1 2, gi r179.1 3⟩ : Api_Row)]) T hS kr kr kr kr (by exact ⟨rfl, trivial⟩) rfl kr kr kr kr ?_)
        intro b217 a w218 χ219 hE h220 hN hS
        clear hN
        replace hO := hO.mv hE rfl rfl
        replace hD := hD.ev hE rfl
        replace h163 := h163.mv hE rfl
        replace h164 := h164.mv hE rfl
        replace h172 := h172.mv hE rfl rfl
        replace h182 := h182.mv hE rfl
        replace h188 := h188.mv hE rfl
        replace h191 := h191.mv hE rfl
        replace h194 := h194.mv hE rfl
        replace h197 := h197.mv hE rfl
        clear hE
        replace h220 := h220.rs0
        refine andH (Hold.of hS (bks := [5]) kr hD) ?_
        intro hH
        refine only 1 kr (by rfl) (plain1 T hS kr kr kr (sv := Sl a170 x_169 c171) kr ?_)
        intro a hS
        refine andH (Hold.of hS (bks := [5]) kr hD) ?_
        intro hH
        exact H _ _ ⟨_, (some ⟨b217, 0, none⟩), 1, hS.sl _, hO, hD, hH, h163, h164, h172, h220⟩
    ·replace hm := hm.2 hb
     refine wexit (by rfl) ?_
     exact ⟨ρ, _, x_166, x_167, x_168, x_169, a170, c171, hm, hS.sl _, hO, h163, h164, h172⟩
  ·rintro a w233 ⟨ρ, χ232, x_128, x_129, x_130, x_131, a132, c133, hm, hS, hO, h126, h127, h134⟩
   unfold VC21_J1 at hm
   refine regO ?_
   refine oP T hS 1 ⟨[(0, Sl a1 l_ c1), (1, I end_), (4, Pt 5 0), (8, Sl a105 r104.1 c106), (11, Pt 12 0), (78, V (.agg #[.int .i64 x_128, .int .i64 x_129, .int .i64 x_130, .slice a132 x_131.length c133]))], [(5, (25, [I 0, I 0, I 0, V (.slice none 0 0)])), (12, (25, [I x_128, I x_129, I x_130, Sl a132 x_131 c133]))]⟩ fun a hS => ?_
   refine op1 (call hS kr kr hb35 kr (fun _ _ => rfl) (Ret.unlend (k35 _ (lend 1061 _) (⟨x_128, x_129, x_130, x_131⟩ : Api_Object) a132 c133 h134.lend)) ?_)
   intro v135 a w136 χ137 hE hp hS
   replace hO := hO.mv hE rfl rfl
   replace h126 := h126.mv hE rfl
   replace h127 := h127.mv hE rfl
   replace h134 := h134.mv hE rfl rfl
   clear hE
   obtain ⟨_, hp⟩ := hp
   obtain ⟨r138, hr⟩ : ∃ r, ref23_Check (⟨x_128, x_129, x_130, x_131⟩ : Api_Object) = r := ⟨_, rfl⟩
   replace hm := hm r138 hr
   rw [hr] at hp
   clear hr
   subst hp
   refine eP T hS ⟨[(0, Sl a1 l_ c1), (1, I end_), (4, Pt 5 0), (8, Sl a105 r104.1 c106), (10, I r138.2), (11, Pt 12 0), (16, I r138.1)], [(5, (25, [I 0, I 0, I 0, V (.slice none 0 0)])), (12, (25, [I x_128, I x_129, I x_130, Sl a132 x_131 c133]))]⟩ fun a hS => ?_
   refine wseq ?_
   refine rP T hS ⟨[(0, Sl a1 l_ c1), (1, I end_), (4, Pt 5 0), (8, Sl a105 r104.1 c106), (10, I r138.2), (11, Pt 12 0), (16, I r138.1), (83, B (r138.2 != 0))], [(5, (25, [I 0, I 0, I 0, V (.slice none 0 0)])), (12, (25, [I x_128, I x_129, I x_130, Sl a132 x_131 c133]))]⟩ fun a hS => ?_
   refine wcond hS (b := (r138.2 != 0)) kr (fun hb => ?_) (fun hb => ?_)
   ·replace hm := hm.1 hb
    replace hS := hS.sl ⟨[(0, Sl a1 l_ c1), (4, Pt 5 0), (10, I r138.2), (16, I r138.1)], [(5, (25, [I 0, I 0, I 0, V (.slice none 0 0)]))]⟩
    refine drawnSX [] mixed hS ?_
    intro w139 χ140 hS hE hD hH
    replace hO := hO.mv hE rfl rfl
    replace h126 := h126.mv hE rfl
    clear hE
    refine tk T [0, 1, 2, 9, 3] [] hS hH #[true, true, true, true, false, false, false, false, false, true, false, false, false, false] 9 ⟨[(4, Pt 5 0), (84, V (.agg #[.int .i64 0, .int .i64 0, .int .i64 0, .slice none 0 0])), (85, Sl a1 l_ c1), (87, I (IntKind.i64.wrap (r138.1 + 1))), (93, I r138.2)], [(5, (25, [I 0, I 0, I 0, V (.slice none 0 0)]))]⟩ fun a hS => ?_
    obtain ⟨hq, hm⟩ := hm
    refine dindex (e := 64) (k := .i64) T 4 hS kr kr kr (by rfl) kr hH kr kr h126 kr kr hq.1 hq.2 ?_
    intro A141 a h142 hS
    clear hq
    have h142b := h142.here
    refine dload1 T 5 hS kr kr kr (by rfl) kr hH kr h142 h142b rfl kr ?_
    intro v143 a hv hS
    obtain ⟨a144, c145, hv, h146⟩ := hv
    cases hv
    replace hm := hm (h146.sm kr)
    obtain ⟨hq, hm⟩ := hm
    refine dindex (e := 102) (k := .i64) T 6 hS kr kr kr (by rfl) kr hH kr kr h146 kr kr hq.1 hq.2 ?_
    intro A147 a h148 hS
    clear hq
    have h148b := h148.here
    refine dfieldA (off := 1) (fsz := 1) (ft := 3) (TF := tI) (y := (gi (gi l_ (IntKind.i64.wrap (r138.1 + 1))) 0).At) 7 T hS kr kr kr (by rfl) kr hH kr h148 kr kr kr (fun cs h => Ref05_Token_f1 h) ?_
    intro A149 a h150 hbl hS
    have h150b := h148b
    rw [← hbl] at h150b
    clear hbl
    refine dload1 T 8 hS kr kr kr (by rfl) kr hH kr h150 h150b rfl kr ?_
    intro v151 a hv hS
    cases hv
    replace hS := hS.sl ⟨[(4, Pt 5 0), (84, V (.agg #[.int .i64 0, .int .i64 0, .int .i64 0, .slice none 0 0])), (85, Sl a1 l_ c1), (87, I (IntKind.i64.wrap (r138.1 + 1))), (93, I r138.2), (88, V (.pointer (some A141))), (89, Sl a144 (gi l_ (IntKind.i64.wrap (r138.1 + 1))) c145), (90, V (.pointer (some A147))), (91, V (.pointer (some A149))), (92, I ((gi (gi l_ (IntKind.i64.wrap (r138.1 + 1))) 0).At))], [(5, (25, [I 0, I 0, I 0, V (.slice none 0 0)]))]⟩
    refine only 10 kr (by rfl) (store1 T hS kr kr (sy' := ⟨[(4, Pt 5 0), (84, V (.agg #[.int .i64 0, .int .i64 0, .int .i64 0, .slice none 0 0])), (85, Sl a1 l_ c1), (87, I (IntKind.i64.wrap (r138.1 + 1))), (93, I r138.2), (88, V (.pointer (some A141))), (89, Sl a144 (gi l_ (IntKind.i64.wrap (r138.1 + 1))) c145), (90, V (.pointer (some A147))), (91, V (.pointer (some A149))), (92, I ((gi (gi l_ (IntKind.i64.wrap (r138.1 + 1))) 0).At))], [(5, (25, [I 0, I 0, I 0, V (.slice none 0 0)])), (5, (25, [I 0, I 0, I 0, V (.slice none 0 0)]))]⟩) kr ?_)
    intro a w152 χ153 hS hE
    replace hO := hO.mv hE rfl rfl
    replace hD := hD.ev hE rfl
    replace h126 := h126.mv hE rfl
    replace h142 := h142.mv hE rfl
    replace h146 := h146.mv hE rfl
    replace h148 := h148.mv hE rfl
    replace h150 := h150.mv hE rfl
    clear hE
    replace hS := hS.sl ⟨[(4, Pt 5 0), (84, V (.agg #[.int .i64 0, .int .i64 0, .int .i64 0, .slice none 0 0])), (85, Sl a1 l_ c1), (87, I (IntKind.i64.wrap (r138.1 + 1))), (93, I r138.2), (88, V (.pointer (some A141))), (89, Sl a144 (gi l_ (IntKind.i64.wrap (r138.1 + 1))) c145), (90, V (.pointer (some A147))), (91, V (.pointer (some A149))), (92, I ((gi (gi l_ (IntKind.i64.wrap (r138.1 + 1))) 0).At))], [(5, (25, [I 0, I 0, I 0, V (.slice none 0 0)]))]⟩
    refine andH (Hold.of hS (bks := []) kr hD) ?_
    intro hH
    refine tk T [11, 12, 13] [] hS hH #[true, true, true, true, true, true, true, true, true, true, true, true, true, true] 0 ⟨[(4, Pt 5 0), (5, I 0), (6, I ((gi (gi l_ (IntKind.i64.wrap (r138.1 + 1))) 0).At)), (7, I r138.2)], [(5, (25, [I 0, I 0, I 0, V (.slice none 0 0)]))]⟩ fun a hS => ?_
    refine drawnDone kr ?_
    clear hD hH
    replace hS := hS.sl ⟨[(4, Pt 5 0), (5, I 0), (6, I ((gi (gi l_ (IntKind.i64.wrap (r138.1 + 1))) 0).At)), (7, I r138.2)], [(5, (25, [I 0, I 0, I 0, V (.slice none 0 0)]))]⟩
    refine wret ?_
    exact fin T hS hO (fun c => c) rfl (r := [.agg #[.int .i64 0, .int .i64 0, .int .i64 0, .slice none 0 0], .int .i64 0, .int .i64 ((gi (gi l_ (IntKind.i64.wrap (r138.1 + 1))) 0).At), .int .i64 r138.2]) kr (fun χ' hM hC => ⟨((⟨0, 0, 0, []⟩ : Api_Object), 0, (gi (gi l_ (IntKind.i64.wrap (r138.1 + 1))) 0).At, r138.2), hm, none, 0, rfl, RS.empty _ _ _⟩)
   ·replace hm := hm.2 hb
    refine wskip ?_
    refine drawnSX [12] mixed hS ?_
    intro w154 χ155 hS hE hD hH
    replace hO := hO.mv hE rfl rfl
    replace h127 := h127.mv hE rfl
    replace h134 := h134.mv hE rfl rfl
    clear hE
    refine tk T [0, 1, 5] [12] hS hH #[true, true, false, false, false, true, false, false, false, false] 7 ⟨[(4, Pt 5 0), (94, V (.agg #[.int .i64 x_128, .int .i64 x_129, .int .i64 x_130, .slice a132 x_131.length c133])), (95, Sl a105 r104.1 c106), (99, I end_)], [(5, (25, [I 0, I 0, I 0, V (.slice none 0 0)])), (12, (25, [I x_128, I x_129, I x_130, Sl a132 x_131 c133]))]⟩ fun a hS => ?_
    obtain ⟨hq, hm⟩ := hm
    refine dindex (e := 3) (k := .i64) T 2 hS kr kr kr (by rfl) kr hH kr kr h127 kr kr hq.1 hq.2 ?_
    intro A156 a h157 hS
    clear hq
    have h157b := h157.here
    refine dload1 T 3 hS kr kr kr (by rfl) kr hH kr h157 h157b rfl kr ?_
    intro v158 a hv hS
    cases hv
    refine tk T [4] [12] hS hH #[true, true, true, true, true, true, false, false, false, false] 4 ⟨[(4, Pt 5 0), (94, V (.agg #[.int .i64 x_128, .int .i64 x_129, .int .i64 x_130, .slice a132 x_131.length c133])), (98, I (IntKind.i64.wrap ((gi r104.1 3) + 1))), (99, I end_)], [(5, (25, [I 0, I 0, I 0, V (.slice none 0 0)])), (12, (25, [I x_128, I x_129, I x_130, Sl a132 x_131 c133]))]⟩ fun a hS => ?_
    replace hS := hS.sl ⟨[(4, Pt 5 0), (94, V (.agg #[.int .i64 x_128, .int .i64 x_129, .int .i64 x_130, .slice a132 x_131.length c133])), (98, I (IntKind.i64.wrap ((gi r104.1 3) + 1))), (99, I end_)], [(5, (25, [I 0, I 0, I 0, V (.slice none 0 0)])), (12, (25, [I x_128, I x_129, I x_130, Sl a132 x_131 c133]))]⟩
    refine only 6 kr (by rfl) (store1 T hS kr kr (sy' := ⟨[(4, Pt 5 0), (94, V (.agg #[.int .i64 x_128, .int .i64 x_129, .int .i64 x_130, .slice a132 x_131.length c133])), (98, I (IntKind.i64.wrap ((gi r104.1 3) + 1))), (99, I end_)], [(5, (25, [I x_128, I x_129, I x_130, Sl a132 x_131 c133])), (5, (25, [I 0, I 0, I 0, V (.slice none 0 0)])), (12, (25, [I x_128, I x_129, I x_130, Sl a132 x_131 c133]))]⟩) kr ?_)
    intro a w159 χ160 hS hE
    replace hO := hO.mv hE rfl rfl
    replace hD := hD.ev hE rfl
    replace h127 := h127.mv hE rfl
    replace h134 := h134.mv hE rfl rfl
    replace h157 := h157.mv hE rfl
    clear hE
    replace hS := hS.sl ⟨[(4, Pt 5 0), (94, V (.agg #[.int .i64 x_128, .int .i64 x_129, .int .i64 x_130, .slice a132 x_131.length c133])), (98, I (IntKind.i64.wrap ((gi r104.1 3) + 1))), (99, I end_)], [(5, (25, [I x_128, I x_129, I x_130, Sl a132 x_131 c133])), (12, (25, [I x_128, I x_129, I x_130, Sl a132 x_131 c133]))]⟩
    refine andH (Hold.of hS (bks := [12]) kr hD) ?_
    intro hH
    refine tk T [7, 8, 9] [12] hS hH #[true, true, true, true, true, true, true, true, true, true] 0 ⟨[(4, Pt 5 0), (5, I (IntKind.i64.wrap ((gi r104.1 3) + 1))), (6, I end_), (7, I 0)], [(5, (25, [I x_128, I x_129, I x_130, Sl a132 x_131 c133])), (12, (25, [I x_128, I x_129, I x_130, Sl a132 x_131 c133]))]⟩ fun a hS => ?_
    refine drawnDone kr ?_
    clear hD hH
    replace hS := hS.sl ⟨[(4, Pt 5 0), (5, I (IntKind.i64.wrap ((gi r104.1 3) + 1))), (6, I end_), (7, I 0)], [(5, (25, [I x_128, I x_129, I x_130, Sl a132 x_131 c133]))]⟩
    refine wret ?_
    obtain ⟨χ161, hE, hF⟩ := h134.freeze (by decide)
    replace hS := hS.ev hE (xone_box kr)
    replace hO := hO.mv hE rfl rfl
    have h162 := hF; clear hE hF
    exact fin T hS hO (fun c => c) rfl (r := [.agg #[.int .i64 x_128, .int .i64 x_129, .int .i64 x_130, .slice a132 x_131.length c133], .int .i64 (IntKind.i64.wrap ((gi r104.1 3) + 1)), .int .i64 end_, .int .i64 0]) kr (fun χ' hM hC => ⟨((⟨x_128, x_129, x_130, x_131⟩ : Api_Object), IntKind.i64.wrap ((gi r104.1 3) + 1), end_, 0), hm, a132, c133, rfl, h162.m0 hM⟩)
theorem C21 (k35 : S35) (k45 : S45) (v : ∀ (l_ : List (List Ref05_Token)) (end_ : Int), preRT l_ end_ → VC21 l_ end_ (fun r => r = ref24_Take l_ end_)) : S21 := by
 intro w χ l_ end_ a1 c1   hp h1
 refine (W21 k35 k45 w χ l_ end_ a1 c1   _ (v l_ end_ hp) h1).mono ?_
 rintro _ _ _ _ ⟨r, rfl, h⟩
 exact h
end Go.Proofs.YtcjldfbgccmpkaaDoor
