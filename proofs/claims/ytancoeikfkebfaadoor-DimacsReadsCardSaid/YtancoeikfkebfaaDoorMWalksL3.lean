/- Walks: each function returns what its condition asks. Condition: the contracts of its callees, handed in. -/
import Derived.Test.YtancoeikfkebfaaDoorMWalksS
set_option linter.all false
namespace Go.Proofs.YtancoeikfkebfaaDoor
open Go Go.Sv
set_option maxHeartbeats 1000000
/-- replevin/replevinref05.gap -/
theorem W56 (w0 : World) (χ0 : Nat → Nat) (b_ : Int) (Q : Bool → Prop) (hm : VC56 b_ Q) :
  Ret Tryd.prog 56 #[.int .u8 b_] xnone w0 χ0 (fun w χ' v => ∃ r, Q r ∧ v = .bool r) := by
 unfold VC56 at hm
 refine enter Tryd.func56 rfl (vals := [.int .u8 b_]) kr ?_
 intro ρ a hS hO hM
 clear hM
 refine rP T hS ⟨[(0, V (.int .u8 b_))], []⟩ fun a hS => ?_
 refine rP T hS ⟨[(2, B (((b_ == 32) || (b_ == 9)) || (b_ == 13)))], []⟩ (sp := [5, 9]) fun a hS => ?_
 refine wret ?_
 exact fin T hS hO (fun c => c) rfl (r := [.bool (((b_ == 32) || (b_ == 9)) || (b_ == 13))]) kr (fun χ' hM hC => ⟨(((b_ == 32) || (b_ == 9)) || (b_ == 13)), hm, rfl⟩)
theorem C56 (v : ∀ (b_ : Int), VC56 b_ (fun r => r = ref05_gap b_)) : S56 := by
 intro w χ b_    
 refine (W56 w χ b_    _ (v b_)).mono ?_
 rintro _ _ _ _ ⟨r, rfl, h⟩
 exact h
/-- replevin/replevinref05.Lines -/
theorem W42 (k56 : S56) (w0 : World) (χ0 : Nat → Nat) (s_ : List UInt8) (Q : (List (List Ref05_Token)) → Prop) (hm : VC42 s_ Q) :
  Ret Tryd.prog 42 #[.string (bs s_)] xnone w0 χ0 (fun w χ' v => ∃ r, Q r ∧ ∃ (ra1 : Option Addr) (rc1 : Nat), v = .slice ra1 r.length rc1 ∧ RS (tSlice tRef05_Token) w χ' ra1 r rc1) := by
 unfold VC42 at hm
 refine enter Tryd.func42 rfl (vals := [.string (bs s_)]) kr ?_
 intro ρ a hS hO hM
 clear hM
 refine rP T hS ⟨[(0, Z s_)], []⟩ fun a hS => ?_
 refine rP T hS ⟨[(0, Z s_), (3, V (.slice none 0 0))], []⟩ fun a hS => ?_
 refine rP T hS ⟨[(0, Z s_), (3, V (.slice none 0 0)), (4, I 0)], []⟩ fun a hS => ?_
 refine wcut (fun a w => ∃ (ρ : Nat → Nat) (χ : Nat → Nat) (out_101 : List (List Ref05_Token)) (a102 : Option Addr) (c103 : Nat), VC42_J1 Q out_101 ∧ St Tryd.f42.ntmps ⟨[(3, Sl a102 out_101 c103)], []⟩ ρ a w χ ∧ Old w0 χ0 w χ ∧ OS (tSlice tRef05_Token) 61 w χ 1003 a102 out_101 c103) ?_ ?_
 ·refine wblock ?_
  obtain ⟨I1, μ1, hm0, hm⟩ := hm
  refine wloop (σ := (List (List Ref05_Token)) × Int) (fun s a w => ∃ (ρ : Nat → Nat) (χ : Nat → Nat) (a108 : Option Addr) (c109 : Nat), I1 s.1 s.2 ∧ St Tryd.f42.ntmps ⟨[(0, Z s_), (3, Sl a108 s.1 c109), (4, I s.2)], []⟩ ρ a w χ ∧ Old w0 χ0 w χ ∧ OS (tSlice tRef05_Token) 61 w χ 1003 a108 s.1 c109) (fun s => μ1 s.1 s.2) (⟨[], 0⟩) ?_ ?_
  ·exact ⟨ρ, _, none, 0, hm0, hS.sl _, hO, (OS.nil _ _ _ _ _)⟩
  ·rintro ⟨out_107, at_111⟩ a w234 ⟨ρ, χ233, a108, c109, hI, hS, hO, h110⟩
   replace hm := hm out_107 at_111 hI
   clear hI hm0
   refine wseq ?_
   refine rP T hS ⟨[(0, Z s_), (3, Sl a108 out_107 c109), (4, I at_111), (13, B (decide (at_111 < ((s_.length : Nat) : Int))))], []⟩ fun a hS => ?_
   refine wcond hS (b := decide (at_111 < ((s_.length : Nat) : Int))) kr (fun hb => ?_) (fun hb => ?_)
   ·replace hm := hm.1 hb
    refine wskip ?_
    refine wblock ?_
    refine rP T hS ⟨[(0, Z s_), (3, Sl a108 out_107 c109), (4, I at_111), (5, I at_111)], []⟩ fun a hS => ?_
    refine wcut (fun a w => ∃ (ρ : Nat → Nat) (χ : Nat → Nat) (out_112 : List (List Ref05_Token)) (end_116 : Int) (a113 : Option Addr) (c114 : Nat), VC42_J2 s_ I1 μ1 out_107 at_111 out_112 end_116 ∧ St Tryd.f42.ntmps ⟨[(0, Z s_), (3, Sl a113 out_112 c114), (4, I at_111), (5, I end_116)], []⟩ ρ a w χ ∧ Old w0 χ0 w χ ∧ OS (tSlice tRef05_Token) 61 w χ 1003 a113 out_112 c114) ?_ ?_
    ·refine wblock ?_
     obtain ⟨I4, μ4, hm0, hm⟩ := hm
     refine wloop (σ := (List (List Ref05_Token)) × Int) (fun s a w => ∃ (ρ : Nat → Nat) (χ : Nat → Nat) (a218 : Option Addr) (c219 : Nat), I4 s.1 s.2 ∧ St Tryd.f42.ntmps ⟨[(0, Z s_), (3, Sl a218 s.1 c219), (4, I at_111), (5, I s.2)], []⟩ ρ a w χ ∧ Old w0 χ0 w χ ∧ OS (tSlice tRef05_Token) 61 w χ 1003 a218 s.1 c219) (fun s => μ4 s.1 s.2) (⟨out_107, at_111⟩) ?_ ?_
     ·exact ⟨ρ, _, a108, c109, hm0, hS.sl _, hO, h110⟩
     ·rintro ⟨out_217, end_221⟩ a w230 ⟨ρ, χ229, a218, c219, hI, hS, hO, h220⟩
      replace hm := hm out_217 end_221 hI
      clear hI hm0
      refine wseq ?_
      refine wcut (fun a w => ∃ (ρ : Nat → Nat) (χ : Nat → Nat) (out_222 : List (List Ref05_Token)) (x_226 : Bool) (a223 : Option Addr) (c224 : Nat), VC42_J8 s_ I1 μ1 out_107 at_111 I4 μ4 out_217 end_221 out_222 x_226 ∧ St Tryd.f42.ntmps ⟨[(0, Z s_), (3, Sl a223 out_222 c224), (4, I at_111), (5, I end_221), (24, B x_226)], []⟩ ρ a w χ ∧ Old w0 χ0 w χ ∧ OS (tSlice tRef05_Token) 61 w χ 1003 a223 out_222 c224) ?_ ?_
      ·refine region ?_
       refine oP T hS 5 ⟨[(0, Z s_), (3, Sl a218 out_217 c219), (4, I at_111), (5, I end_221), (19, B (decide (end_221 < ((s_.length : Nat) : Int))))], []⟩ fun a hS => ?_
       rcases Bool.eq_false_or_eq_true (decide (end_221 < ((s_.length : Nat) : Int))) with hb | hb
       ·replace hS := hS.lit (t := 19) kr hb
        replace hm := hm.1 hb
        refine oP T hS 2 ⟨[(0, Z s_), (3, Sl a218 out_217 c219), (4, I at_111), (5, I end_221), (19, B true), (20, Z s_), (21, I end_221)], []⟩ fun a hS => ?_
        obtain ⟨hq, hm⟩ := hm
        refine op1 (sindex (k := .i64) T hS kr kr kr kr kr hq.1 hq.2 ?_)
        intro a hS
        clear hq
        refine eP T hS ⟨[(0, Z s_), (3, Sl a218 out_217 c219), (4, I at_111), (5, I end_221), (20, Z s_), (21, I end_221), (22, V (.int .u8 ((gi s_ end_221).toNat : Int))), (23, B (((gi s_ end_221).toNat : Int) != 10)), (24, B (((gi s_ end_221).toNat : Int) != 10))], []⟩ fun a hS => ?_
        exact ⟨ρ, _, out_217, (((gi s_ end_221).toNat : Int) != 10), a218, c219, hm, hS.sl _, hO, h220⟩
       ·replace hS := hS.lit (t := 19) kr hb
        replace hm := hm.2 hb
        refine eP T hS ⟨[(0, Z s_), (3, Sl a218 out_217 c219), (4, I at_111), (5, I end_221), (24, B false)], []⟩ fun a hS => ?_
        exact ⟨ρ, _, out_217, false, a218, c219, hm, hS.sl _, hO, h220⟩
      ·rintro a w228 ⟨ρ, χ227, out_222, x_226, a223, c224, hm, hS, hO, h225⟩
       unfold VC42_J8 at hm
       refine wcond hS (b := x_226) kr (fun hb => ?_) (fun hb => ?_)
       ·replace hm := hm.1 hb
        refine wskip ?_
        refine wblock ?_
        refine region (eP T hS ⟨[(0, Z s_), (3, Sl a223 out_222 c224), (4, I at_111), (5, I (IntKind.i64.wrap (end_221 + 1)))], []⟩ fun a hS => ?_)
        exact ⟨⟨out_222, IntKind.i64.wrap (end_221 + 1)⟩, ⟨ρ, _, a223, c224, hm.1, hS.sl _, hO, h225⟩, hm.2⟩
       ·replace hm := hm.2 hb
        refine wexit (by rfl) ?_
        exact ⟨ρ, _, out_222, end_221, a223, c224, hm, hS.sl _, hO, h225⟩
    ·rintro a w232 ⟨ρ, χ231, out_112, end_116, a113, c114, hm, hS, hO, h115⟩
     unfold VC42_J2 at hm
     refine rP T hS ⟨[(0, Z s_), (3, Sl a113 out_112 c114), (4, I at_111), (5, I end_116), (6, V (.slice none 0 0))], []⟩ fun a hS => ?_
     refine wcut (fun a w => ∃ (ρ : Nat → Nat) (χ : Nat → Nat) (out_117 : List (List Ref05_Token)) (remark_121 : Bool) (a118 : Option Addr) (c119 : Nat), VC42_J3 s_ I1 μ1 out_107 at_111 end_116 out_117 remark_121 ∧ St Tryd.f42.ntmps ⟨[(0, Z s_), (3, Sl a118 out_117 c119), (4, I at_111), (5, I end_116), (6, V (.slice none 0 0)), (7, B remark_121)], []⟩ ρ a w χ ∧ Old w0 χ0 w χ ∧ OS (tSlice tRef05_Token) 61 w χ 1003 a118 out_117 c119) ?_ ?_
     ·refine region ?_
      refine oP T hS 3 ⟨[(0, Z s_), (3, Sl a113 out_112 c114), (4, I at_111), (5, I end_116), (6, V (.slice none 0 0)), (27, Z s_), (28, I at_111), (29, I end_116)], []⟩ fun a hS => ?_
      obtain ⟨hq, hm⟩ := hm
      refine op1 (sslice2 (kl := .i64) (kh := .i64) (s := s_) T hS kr kr kr kr kr kr hq.1 hq.2.1 hq.2.2 ?_)
      intro a hS
      clear hq
      refine oP T hS 2 ⟨[(0, Z s_), (3, Sl a113 out_112 c114), (4, I at_111), (5, I end_116), (6, V (.slice none 0 0)), (32, B (((s_.take end_116.toNat).drop at_111.toNat) == ([99] : List UInt8)))], []⟩ fun a hS => ?_
      rcases Bool.eq_false_or_eq_true (((s_.take end_116.toNat).drop at_111.toNat) == ([99] : List UInt8)) with hb | hb
      ·replace hS := hS.lit (t := 32) kr hb
       replace hm := hm.1 hb
       refine eP T hS ⟨[(0, Z s_), (3, Sl a113 out_112 c114), (4, I at_111), (5, I end_116), (6, V (.slice none 0 0)), (7, B true)], []⟩ fun a hS => ?_
       exact ⟨ρ, _, out_112, true, a113, c114, hm, hS.sl _, hO, h115⟩
      ·replace hS := hS.lit (t := 32) kr hb
       replace hm := hm.2 hb
       refine oP T hS 5 ⟨[(0, Z s_), (3, Sl a113 out_112 c114), (4, I at_111), (5, I end_116), (6, V (.slice none 0 0)), (32, B false), (33, I end_116), (34, I at_111), (35, I (IntKind.i64.wrap (end_116 - at_111))), (36, B (decide ((IntKind.i64.wrap (end_116 - at_111)) ≥ 2))), (37, B (decide ((IntKind.i64.wrap (end_116 - at_111)) ≥ 2)))], []⟩ fun a hS => ?_
       rcases Bool.eq_false_or_eq_true (decide ((IntKind.i64.wrap (end_116 - at_111)) ≥ 2)) with hb | hb
       ·replace hS := hS.lit (t := 37) kr hb
        replace hm := hm.1 hb
        refine oP T hS 4 ⟨[(0, Z s_), (3, Sl a113 out_112 c114), (4, I at_111), (5, I end_116), (6, V (.slice none 0 0)), (32, B false), (33, I end_116), (34, I at_111), (35, I (IntKind.i64.wrap (end_116 - at_111))), (36, B (decide ((IntKind.i64.wrap (end_116 - at_111)) ≥ 2))), (37, B true), (38, Z s_), (39, I at_111), (40, I at_111), (41, I (IntKind.i64.wrap (at_111 + 2)))], []⟩ fun a hS => ?_
        obtain ⟨hq, hm⟩ := hm
        refine op1 (sslice2 (kl := .i64) (kh := .i64) (s := s_) T hS kr kr kr kr kr kr hq.1 hq.2.1 hq.2.2 ?_)
        intro a hS
        clear hq
        refine eP T hS ⟨[(0, Z s_), (3, Sl a113 out_112 c114), (4, I at_111), (5, I end_116), (6, V (.slice none 0 0)), (7, B (((s_.take (IntKind.i64.wrap (at_111 + 2)).toNat).drop at_111.toNat) == ([99, 32] : List UInt8))), (33, I end_116), (34, I at_111), (35, I (IntKind.i64.wrap (end_116 - at_111))), (36, B (decide ((IntKind.i64.wrap (end_116 - at_111)) ≥ 2))), (37, B true), (38, Z s_), (39, I at_111), (40, I at_111), (41, I (IntKind.i64.wrap (at_111 + 2))), (42, Z ((s_.take (IntKind.i64.wrap (at_111 + 2)).toNat).drop at_111.toNat)), (43, B (((s_.take (IntKind.i64.wrap (at_111 + 2)).toNat).drop at_111.toNat) == ([99, 32] : List UInt8))), (44, B (((s_.take (IntKind.i64.wrap (at_111 + 2)).toNat).drop at_111.toNat) == ([99, 32] : List UInt8)))], []⟩ fun a hS => ?_
        exact ⟨ρ, _, out_112, (((s_.take (IntKind.i64.wrap (at_111 + 2)).toNat).drop at_111.toNat) == ([99, 32] : List UInt8)), a113, c114, hm, hS.sl _, hO, h115⟩
       ·replace hS := hS.lit (t := 37) kr hb
        replace hm := hm.2 hb
        refine eP T hS ⟨[(0, Z s_), (3, Sl a113 out_112 c114), (4, I at_111), (5, I end_116), (6, V (.slice none 0 0)), (7, B false), (33, I end_116), (34, I at_111), (35, I (IntKind.i64.wrap (end_116 - at_111))), (36, B (decide ((IntKind.i64.wrap (end_116 - at_111)) ≥ 2))), (37, B false), (44, B false)], []⟩ fun a hS => ?_
        exact ⟨ρ, _, out_112, false, a113, c114, hm, hS.sl _, hO, h115⟩
     ·rintro a w216 ⟨ρ, χ215, out_117, remark_121, a118, c119, hm, hS, hO, h120⟩
      unfold VC42_J3 at hm
      refine wcut (fun a w => ∃ (ρ : Nat → Nat) (χ : Nat → Nat) (out_122 : List (List Ref05_Token)) (row_126 : List Ref05_Token) (a123 : Option Addr) (c124 : Nat) (a127 : Option Addr) (c128 : Nat), VC42_J4 I1 μ1 out_107 at_111 end_116 out_122 row_126 ∧ St Tryd.f42.ntmps ⟨[(0, Z s_), (3, Sl a123 out_122 c124), (5, I end_116), (6, Sl a127 row_126 c128)], []⟩ ρ a w χ ∧ Old w0 χ0 w χ ∧ OS (tSlice tRef05_Token) 61 w χ 1003 a123 out_122 c124 ∧ OS tRef05_Token 64 w χ 1007 a127 row_126 c128) ?_ ?_
      ·refine rP T hS ⟨[(0, Z s_), (3, Sl a118 out_117 c119), (5, I end_116), (6, V (.slice none 0 0)), (7, B remark_121), (8, I at_111)], []⟩ fun a hS => ?_
       refine wblock ?_
       obtain ⟨I2, μ2, hm0, hm⟩ := hm
       refine wloop (σ := (List (List Ref05_Token)) × (List Ref05_Token) × Int) (fun s a w => ∃ (ρ : Nat → Nat) (χ : Nat → Nat) (a142 : Option Addr) (c143 : Nat) (a146 : Option Addr) (c147 : Nat), I2 s.1 s.2.1 s.2.2 ∧ St Tryd.f42.ntmps ⟨[(0, Z s_), (3, Sl a142 s.1 c143), (5, I end_116), (6, Sl a146 s.2.1 c147), (7, B remark_121), (8, I s.2.2)], []⟩ ρ a w χ ∧ Old w0 χ0 w χ ∧ OS (tSlice tRef05_Token) 61 w χ 1003 a142 s.1 c143 ∧ OS tRef05_Token 64 w χ 1007 a146 s.2.1 c147) (fun s => μ2 s.1 s.2.1 s.2.2) (⟨out_117, [], at_111⟩) ?_ ?_
       ·exact ⟨ρ, _, a118, c119, none, 0, hm0, hS.sl _, hO, h120, (OS.nil _ _ _ _ _)⟩
       ·rintro ⟨out_141, row_145, i_149⟩ a w212 ⟨ρ, χ211, a142, c143, a146, c147, hI, hS, hO, h144, h148⟩
        replace hm := hm out_141 row_145 i_149 hI
        clear hI hm0
        refine wseq ?_
        refine rP T hS ⟨[(0, Z s_), (3, Sl a142 out_141 c143), (5, I end_116), (6, Sl a146 row_145 c147), (7, B remark_121), (8, I i_149), (53, B ((decide (i_149 < end_116)) && (!remark_121)))], []⟩ (sp := [50]) fun a hS => ?_
        refine wcond hS (b := ((decide (i_149 < end_116)) && (!remark_121))) kr (fun hb => ?_) (fun hb => ?_)
        ·replace hm := hm.1 hb
         refine wskip ?_
         refine wcut (fun a w => ∃ (ρ : Nat → Nat) (χ : Nat → Nat) (out_150 : List (List Ref05_Token)) (row_154 : List Ref05_Token) (i_158 : Int) (a151 : Option Addr) (c152 : Nat) (a155 : Option Addr) (c156 : Nat), VC42_J5 I2 μ2 out_141 row_145 i_149 out_150 row_154 i_158 ∧ St Tryd.f42.ntmps ⟨[(0, Z s_), (3, Sl a151 out_150 c152), (5, I end_116), (6, Sl a155 row_154 c156), (7, B remark_121), (8, I i_158)], []⟩ ρ a w χ ∧ Old w0 χ0 w χ ∧ OS (tSlice tRef05_Token) 61 w χ 1003 a151 out_150 c152 ∧ OS tRef05_Token 64 w χ 1007 a155 row_154 c156) ?_ ?_
         ·refine wblock ?_
          refine wseq ?_
          refine regO ?_
          refine oP T hS 2 ⟨[(0, Z s_), (3, Sl a142 out_141 c143), (5, I end_116), (6, Sl a146 row_145 c147), (7, B remark_121), (8, I i_149), (56, Z s_), (57, I i_149)], []⟩ fun a hS => ?_
          obtain ⟨hq, hm⟩ := hm
          refine op1 (sindex (k := .i64) T hS kr kr kr kr kr hq.1 hq.2 ?_)
          intro a hS
          clear hq
          refine op1 (call hS kr kr hb56 kr (fun _ _ => rfl) (k56 _ _ ((gi s_ i_149).toNat : Int)) ?_)
          intro v159 a w160 χ161 hE hp hS
          replace hO := hO.mv hE rfl rfl
          replace h144 := h144.mv hE rfl rfl
          replace h148 := h148.mv hE rfl rfl
          clear hE
          obtain ⟨r162, hr⟩ : ∃ r, ref05_gap ((gi s_ i_149).toNat : Int) = r := ⟨_, rfl⟩
          replace hm := hm r162 hr
          rw [hr] at hp
          clear hr
          subst hp
          refine doneK ?_
          refine wcond hS (b := r162) kr (fun hb => ?_) (fun hb => ?_)
          ·replace hm := hm.1 hb
           refine wexit (by rfl) ?_
           exact ⟨ρ, _, out_141, row_145, i_149, a142, c143, a146, c147, hm, hS.sl _, hO, h144, h148⟩
          ·replace hm := hm.2 hb
           refine wskip ?_
           refine rP T hS ⟨[(0, Z s_), (3, Sl a142 out_141 c143), (5, I end_116), (6, Sl a146 row_145 c147), (7, B remark_121), (8, I i_149), (9, I i_149)], []⟩ fun a hS => ?_
           refine wcut (fun a w => ∃ (ρ : Nat → Nat) (χ : Nat → Nat) (out_163 : List (List Ref05_Token)) (row_167 : List Ref05_Token) (k_171 : Int) (a164 : Option Addr) (c165 : Nat) (a168 : Option Addr) (c169 : Nat), VC42_J6 s_ I2 μ2 out_141 row_145 i_149 out_163 row_167 k_171 ∧ St Tryd.f42.ntmps ⟨[(0, Z s_), (3, Sl a164 out_163 c165), (5, I end_116), (6, Sl a168 row_167 c169), (7, B remark_121), (8, I i_149), (9, I k_171)], []⟩ ρ a w χ ∧ Old w0 χ0 w χ ∧ OS (tSlice tRef05_Token) 61 w χ 1003 a164 out_163 c165 ∧ OS tRef05_Token 64 w χ 1007 a168 row_167 c169) ?_ ?_
           ·refine wblock ?_
            obtain ⟨I3, μ3, hm0, hm⟩ := hm
            refine wloop (σ := (List (List Ref05_Token)) × (List Ref05_Token) × Int) (fun s a w => ∃ (ρ : Nat → Nat) (χ : Nat → Nat) (a182 : Option Addr) (c183 : Nat) (a186 : Option Addr) (c187 : Nat), I3 s.1 s.2.1 s.2.2 ∧ St Tryd.f42.ntmps ⟨[(0, Z s_), (3, Sl a182 s.1 c183), (5, I end_116), (6, Sl a186 s.2.1 c187), (7, B remark_121), (8, I i_149), (9, I s.2.2)], []⟩ ρ a w χ ∧ Old w0 χ0 w χ ∧ OS (tSlice tRef05_Token) 61 w χ 1003 a182 s.1 c183 ∧ OS tRef05_Token 64 w χ 1007 a186 s.2.1 c187) (fun s => μ3 s.1 s.2.1 s.2.2) (⟨out_141, row_145, i_149⟩) ?_ ?_
            ·exact ⟨ρ, _, a142, c143, a146, c147, hm0, hS.sl _, hO, h144, h148⟩
            ·rintro ⟨out_181, row_185, k_189⟩ a w206 ⟨ρ, χ205, a182, c183, a186, c187, hI, hS, hO, h184, h188⟩
             replace hm := hm out_181 row_185 k_189 hI
             clear hI hm0
             refine wseq ?_
             refine wcut (fun a w => ∃ (ρ : Nat → Nat) (χ : Nat → Nat) (out_190 : List (List Ref05_Token)) (row_194 : List Ref05_Token) (x_198 : Bool) (a191 : Option Addr) (c192 : Nat) (a195 : Option Addr) (c196 : Nat), VC42_J7 s_ I2 μ2 out_141 row_145 i_149 I3 μ3 out_181 row_185 k_189 out_190 row_194 x_198 ∧ St Tryd.f42.ntmps ⟨[(0, Z s_), (3, Sl a191 out_190 c192), (5, I end_116), (6, Sl a195 row_194 c196), (7, B remark_121), (8, I i_149), (9, I k_189), (70, B x_198)], []⟩ ρ a w χ ∧ Old w0 χ0 w χ ∧ OS (tSlice tRef05_Token) 61 w χ 1003 a191 out_190 c192 ∧ OS tRef05_Token 64 w χ 1007 a195 row_194 c196) ?_ ?_
             ·refine region ?_
              refine oP T hS 4 ⟨[(0, Z s_), (3, Sl a182 out_181 c183), (5, I end_116), (6, Sl a186 row_185 c187), (7, B remark_121), (8, I i_149), (9, I k_189), (64, B (decide (k_189 < end_116)))], []⟩ fun a hS => ?_
              rcases Bool.eq_false_or_eq_true (decide (k_189 < end_116)) with hb | hb
              ·replace hS := hS.lit (t := 64) kr hb
               replace hm := hm.1 hb
               refine oP T hS 2 ⟨[(0, Z s_), (3, Sl a182 out_181 c183), (5, I end_116), (6, Sl a186 row_185 c187), (7, B remark_121), (8, I i_149), (9, I k_189), (64, B true), (65, Z s_), (66, I k_189)], []⟩ fun a hS => ?_
               obtain ⟨hq, hm⟩ := hm
               refine op1 (sindex (k := .i64) T hS kr kr kr kr kr hq.1 hq.2 ?_)
               intro a hS
               clear hq
               refine op1 (call hS kr kr hb56 kr (fun _ _ => rfl) (k56 _ _ ((gi s_ k_189).toNat : Int)) ?_)
               intro v199 a w200 χ201 hE hp hS
               replace hO := hO.mv hE rfl rfl
               replace h184 := h184.mv hE rfl rfl
               replace h188 := h188.mv hE rfl rfl
               clear hE
               obtain ⟨r202, hr⟩ : ∃ r, ref05_gap ((gi s_ k_189).toNat : Int) = r := ⟨_, rfl⟩
               replace hm := hm r202 hr
               rw [hr] at hp
               clear hr
               subst hp
               refine eP T hS ⟨[(0, Z s_), (3, Sl a182 out_181 c183), (5, I end_116), (6, Sl a186 row_185 c187), (7, B remark_121), (8, I i_149), (9, I k_189), (65, Z s_), (66, I k_189), (67, V (.int .u8 ((gi s_ k_189).toNat : Int))), (68, B r202), (69, B (!r202)), (70, B (!r202))], []⟩ fun a hS => ?_
               exact ⟨ρ, _, out_181, row_185, (!r202), a182, c183, a186, c187, hm, hS.sl _, hO, h184, h188⟩
              ·replace hS := hS.lit (t := 64) kr hb
               replace hm := hm.2 hb
               refine eP T hS ⟨[(0, Z s_), (3, Sl a182 out_181 c183), (5, I end_116), (6, Sl a186 row_185 c187), (7, B remark_121), (8, I i_149), (9, I k_189), (70, B false)], []⟩ fun a hS => ?_
               exact ⟨ρ, _, out_181, row_185, false, a182, c183, a186, c187, hm, hS.sl _, hO, h184, h188⟩
             ·rintro a w204 ⟨ρ, χ203, out_190, row_194, x_198, a191, c192, a195, c196, hm, hS, hO, h193, h197⟩
              unfold VC42_J7 at hm
              refine wcond hS (b := x_198) kr (fun hb => ?_) (fun hb => ?_)
              ·replace hm := hm.1 hb
               refine wskip ?_
               refine wblock ?_
               refine region (eP T hS ⟨[(0, Z s_), (3, Sl a191 out_190 c192), (5, I end_116), (6, Sl a195 row_194 c196), (7, B remark_121), (8, I i_149), (9, I (IntKind.i64.wrap (k_189 + 1)))], []⟩ fun a hS => ?_)
               exact ⟨⟨out_190, row_194, IntKind.i64.wrap (k_189 + 1)⟩, ⟨ρ, _, a191, c192, a195, c196, hm.1, hS.sl _, hO, h193, h197⟩, hm.2⟩
              ·replace hm := hm.2 hb
               refine wexit (by rfl) ?_
               exact ⟨ρ, _, out_190, row_194, k_189, a191, c192, a195, c196, hm, hS.sl _, hO, h193, h197⟩
           ·rintro a w208 ⟨ρ, χ207, out_163, row_167, k_171, a164, c165, a168, c169, hm, hS, hO, h166, h170⟩
            unfold VC42_J6 at hm
            refine regO ?_
            refine oP T hS 8 ⟨[(0, Z s_), (3, Sl a164 out_163 c165), (5, I end_116), (6, Sl a168 row_167 c169), (7, B remark_121), (9, I k_171), (73, Sl a168 row_167 c169), (76, I (IntKind.i64.wrap (((out_163.length : Nat) : Int) + 1))), (77, I i_149), (78, Z s_), (79, I i_149), (80, I k_171)], []⟩ fun a hS => ?_
            obtain ⟨hq, hm⟩ := hm
            refine op1 (sslice2 (kl := .i64) (kh := .i64) (s := s_) T hS kr kr kr kr kr kr hq.1 hq.2.1 hq.2.2 ?_)
            intro a hS
            clear hq
            refine oP T hS 1 ⟨[(0, Z s_), (3, Sl a164 out_163 c165), (5, I end_116), (6, Sl a168 row_167 c169), (7, B remark_121), (9, I k_171), (73, Sl a168 row_167 c169), (82, V (.agg #[.int .i64 (IntKind.i64.wrap (((out_163.length : Nat) : Int) + 1)), .int .i64 i_149, .string (bs ((s_.take k_171.toNat).drop i_149.toNat))]))], []⟩ fun a hS => ?_
            refine op1 (lit (E := 64) (col := 0) (T := tRef05_Token) (vals := [.agg #[.int .i64 (IntKind.i64.wrap (((out_163.length : Nat) : Int) + 1)), .int .i64 i_149, .string (bs ((s_.take k_171.toNat).drop i_149.toNat))]]) (ys := [(⟨IntKind.i64.wrap (((out_163.length : Nat) : Int) + 1), i_149, ((s_.take k_171.toNat).drop i_149.toNat)⟩ : Ref05_Token)]) T hS kr kr kr kr (by exact ⟨rfl, trivial⟩) rfl kr kr kr kr ?_)
            intro b172 a w173 χ174 hE h175 hN hS
            clear hN
            replace hO := hO.mv hE rfl rfl
            replace h166 := h166.mv hE rfl rfl
            replace h170 := h170.mv hE rfl rfl
            clear hE
            replace h175 := h175.rs0
            obtain ⟨hq, hm⟩ := hm
            obtain ⟨news, hN⟩ := h175.src
            refine op1 (append (E := 64) (T := tRef05_Token) (col := 1007) (xs := row_167) T hS kr kr kr kr h170 hN kr kr kr kr hq ?_)
            intro a179 c180 a w176 χ177 hE h178 hS
            clear hq hN
            clear h170
            replace hO := hO.mv hE rfl rfl
            replace h166 := h166.mv hE rfl rfl
            replace h175 := h175.mv hE rfl
            clear hE
            refine eP T hS ⟨[(0, Z s_), (3, Sl a164 out_163 c165), (5, I end_116), (6, Sl a179 (row_167 ++ [(⟨IntKind.i64.wrap (((out_163.length : Nat) : Int) + 1), i_149, ((s_.take k_171.toNat).drop i_149.toNat)⟩ : Ref05_Token)]) c180), (7, B remark_121), (9, I k_171)], []⟩ fun a hS => ?_
            refine region (eP T hS ⟨[(0, Z s_), (3, Sl a164 out_163 c165), (5, I end_116), (6, Sl a179 (row_167 ++ [(⟨IntKind.i64.wrap (((out_163.length : Nat) : Int) + 1), i_149, ((s_.take k_171.toNat).drop i_149.toNat)⟩ : Ref05_Token)]) c180), (7, B remark_121), (8, I k_171)], []⟩ fun a hS => ?_)
            exact ⟨ρ, _, out_163, row_167 ++ [(⟨IntKind.i64.wrap (((out_163.length : Nat) : Int) + 1), i_149, ((s_.take k_171.toNat).drop i_149.toNat)⟩ : Ref05_Token)], k_171, a164, c165, a179, c180, hm, hS.sl _, hO, h166, h178⟩
         ·rintro a w210 ⟨ρ, χ209, out_150, row_154, i_158, a151, c152, a155, c156, hm, hS, hO, h153, h157⟩
          unfold VC42_J5 at hm
          refine region (eP T hS ⟨[(0, Z s_), (3, Sl a151 out_150 c152), (5, I end_116), (6, Sl a155 row_154 c156), (7, B remark_121), (8, I (IntKind.i64.wrap (i_158 + 1)))], []⟩ fun a hS => ?_)
          exact ⟨⟨out_150, row_154, IntKind.i64.wrap (i_158 + 1)⟩, ⟨ρ, _, a151, c152, a155, c156, hm.1, hS.sl _, hO, h153, h157⟩, hm.2⟩
        ·replace hm := hm.2 hb
         refine wexit (by rfl) ?_
         exact ⟨ρ, _, out_141, row_145, a142, c143, a146, c147, hm, hS.sl _, hO, h144, h148⟩
      ·rintro a w214 ⟨ρ, χ213, out_122, row_126, a123, c124, a127, c128, hm, hS, hO, h125, h129⟩
       unfold VC42_J4 at hm
       refine regO ?_
       refine oP T hS 2 ⟨[(0, Z s_), (3, Sl a123 out_122 c124), (5, I end_116), (86, Sl a123 out_122 c124), (87, Sl a127 row_126 c128)], []⟩ fun a hS => ?_
       obtain ⟨χ130, hE, hF⟩ := h129.freeze (by decide)
       replace hS := hS.ev hE (xone_box kr)
       replace hO := hO.mv hE rfl rfl
       replace h125 := h125.mv hE rfl rfl
       have h131 := hF; clear hE hF
       refine op1 (lit (E := 61) (col := 0) (T := (tSlice tRef05_Token)) (vals := [.slice a127 row_126.length c128]) (ys := [row_126]) T hS kr kr kr kr (by exact ⟨⟨a127, c128, rfl, h131⟩, trivial⟩) rfl kr kr kr kr ?_)
       intro b132 a w133 χ134 hE h135 hN hS
       clear hN
       replace hO := hO.mv hE rfl rfl
       replace h125 := h125.mv hE rfl rfl
       replace h131 := h131.mv hE rfl
       clear hE
       replace h135 := h135.rs0
       obtain ⟨hq, hm⟩ := hm
       obtain ⟨news, hN⟩ := h135.src
       refine op1 (append (E := 61) (T := (tSlice tRef05_Token)) (col := 1003) (xs := out_122) T hS kr kr kr kr h125 hN kr kr kr kr hq ?_)
       intro a139 c140 a w136 χ137 hE h138 hS
       clear hq hN
       clear h125
       replace hO := hO.mv hE rfl rfl
       replace h131 := h131.mv hE rfl
       replace h135 := h135.mv hE rfl
       clear hE
       refine eP T hS ⟨[(0, Z s_), (3, Sl a139 (out_122 ++ [row_126]) c140), (5, I end_116)], []⟩ fun a hS => ?_
       refine region (eP T hS ⟨[(0, Z s_), (3, Sl a139 (out_122 ++ [row_126]) c140), (4, I (IntKind.i64.wrap (end_116 + 1)))], []⟩ fun a hS => ?_)
       exact ⟨⟨out_122 ++ [row_126], IntKind.i64.wrap (end_116 + 1)⟩, ⟨ρ, _, a139, c140, hm.1, hS.sl _, hO, h138⟩, hm.2⟩
   ·replace hm := hm.2 hb
    refine wexit (by rfl) ?_
    exact ⟨ρ, _, out_107, a108, c109, hm, hS.sl _, hO, h110⟩
 ·rintro a w236 ⟨ρ, χ235, out_101, a102, c103, hm, hS, hO, h104⟩
  unfold VC42_J1 at hm
  refine rP T hS ⟨[(2, Sl a102 out_101 c103)], []⟩ fun a hS => ?_
  refine wret ?_
  obtain ⟨χ105, hE, hF⟩ := h104.freeze (by decide)
  replace hS := hS.ev hE (xone_box kr)
  replace hO := hO.mv hE rfl rfl
  have h106 := hF; clear hE hF
  exact fin T hS hO (fun c => c) rfl (r := [.slice a102 out_101.length c103]) kr (fun χ' hM hC => ⟨out_101, hm, a102, c103, rfl, h106.m0 hM⟩)
theorem C42 (k56 : S56) (v : ∀ (s_ : List UInt8), len1 s_ → VC42 s_ (fun r => r = ref05_Lines s_)) : S42 := by
 intro w χ s_    hp 
 refine (W42 k56 w χ s_    _ (v s_ hp)).mono ?_
 rintro _ _ _ _ ⟨r, rfl, h⟩
 exact h
/-- replevin/replevinref05.Number -/
theorem W25 (k30 : S30) (w0 : World) (χ0 : Nat → Nat) (s_ : List UInt8) (lo : Int) (hi : Int) (Q : Int × Int → Prop) (hm : VC25 s_ lo hi Q) :
  Ret Tryd.prog 25 #[.string (bs s_), .int .i64 lo, .int .i64 hi] xnone w0 χ0 (fun w χ' v => ∃ r, Q r ∧ v = .tuple #[.int .i64 r.1, .int .i64 r.2]) := by
 unfold VC25 at hm
 refine enter Tryd.func25 rfl (vals := [.string (bs s_), .int .i64 lo, .int .i64 hi]) kr ?_
 intro ρ a hS hO hM
 clear hM
 refine rP T hS ⟨[(0, Z s_), (1, I lo), (2, I hi)], []⟩ fun a hS => ?_
 refine rP T hS ⟨[(0, Z s_), (1, I lo), (2, I hi), (8, I 0)], []⟩ fun a hS => ?_
 refine wcut (fun a w => ∃ (ρ : Nat → Nat) (χ : Nat → Nat) (from_101 : Int), VC25_J1 s_ lo hi Q from_101 ∧ St Tryd.f25.ntmps ⟨[(0, Z s_), (1, I lo), (2, I hi), (8, I from_101)], []⟩ ρ a w χ ∧ Old w0 χ0 w χ) ?_ ?_
 ·refine wcut (fun a w => ∃ (ρ : Nat → Nat) (χ : Nat → Nat) (x_127 : Bool), VC25_J7 s_ lo hi Q x_127 ∧ St Tryd.f25.ntmps ⟨[(0, Z s_), (1, I lo), (2, I hi), (8, I 0), (20, B x_127)], []⟩ ρ a w χ ∧ Old w0 χ0 w χ) ?_ ?_
  ·refine region ?_
   refine oP T hS 4 ⟨[(0, Z s_), (1, I lo), (2, I hi), (8, I 0), (16, B (decide (((s_.length : Nat) : Int) > 0)))], []⟩ fun a hS => ?_
   rcases Bool.eq_false_or_eq_true (decide (((s_.length : Nat) : Int) > 0)) with hb | hb
   ·replace hS := hS.lit (t := 16) kr hb
    replace hm := hm.1 hb
    refine oP T hS 1 ⟨[(0, Z s_), (1, I lo), (2, I hi), (8, I 0), (16, B true), (17, Z s_)], []⟩ fun a hS => ?_
    obtain ⟨hq, hm⟩ := hm
    refine op1 (sindex (k := .i64) T hS kr kr kr kr kr hq.1 hq.2 ?_)
    intro a hS
    clear hq
    refine eP T hS ⟨[(0, Z s_), (1, I lo), (2, I hi), (8, I 0), (20, B (((gi s_ 0).toNat : Int) == 45))], []⟩ fun a hS => ?_
    exact ⟨ρ, _, (((gi s_ 0).toNat : Int) == 45), hm, hS.sl _, hO⟩
   ·replace hS := hS.lit (t := 16) kr hb
    replace hm := hm.2 hb
    refine eP T hS ⟨[(0, Z s_), (1, I lo), (2, I hi), (8, I 0), (20, B false)], []⟩ fun a hS => ?_
    exact ⟨ρ, _, false, hm, hS.sl _, hO⟩
  ·rintro a w129 ⟨ρ, χ128, x_127, hm, hS, hO⟩
   unfold VC25_J7 at hm
   refine wcond hS (b := x_127) kr (fun hb => ?_) (fun hb => ?_)
   ·replace hm := hm.1 hb
    refine region (eP T hS ⟨[(0, Z s_), (1, I lo), (2, I hi), (8, I 1)], []⟩ fun a hS => ?_)
    exact ⟨ρ, _, 1, hm, hS.sl _, hO⟩
   ·replace hm := hm.2 hb
    refine wskip ?_
    exact ⟨ρ, _, 0, hm, hS.sl _, hO⟩
 ·rintro a w131 ⟨ρ, χ130, from_101, hm, hS, hO⟩
  unfold VC25_J1 at hm
  refine wseq ?_
  refine wcut (fun a w => ∃ (ρ : Nat → Nat) (χ : Nat → Nat) (x_102 : Bool), VC25_J2 s_ lo hi Q from_101 x_102 ∧ St Tryd.f25.ntmps ⟨[(0, Z s_), (1, I lo), (2, I hi), (8, I from_101), (35, B x_102)], []⟩ ρ a w χ ∧ Old w0 χ0 w χ) ?_ ?_
  ·refine region ?_
   refine oP T hS 5 ⟨[(0, Z s_), (1, I lo), (2, I hi), (8, I from_101), (25, B (from_101 == ((s_.length : Nat) : Int)))], []⟩ fun a hS => ?_
   rcases Bool.eq_false_or_eq_true (from_101 == ((s_.length : Nat) : Int)) with hb | hb
   ·replace hS := hS.lit (t := 25) kr hb
    replace hm := hm.1 hb
    refine eP T hS ⟨[(0, Z s_), (1, I lo), (2, I hi), (8, I from_101), (35, B true)], []⟩ fun a hS => ?_
    exact ⟨ρ, _, true, hm, hS.sl _, hO⟩
   ·replace hS := hS.lit (t := 25) kr hb
    replace hm := hm.2 hb
    refine oP T hS 2 ⟨[(0, Z s_), (1, I lo), (2, I hi), (8, I from_101), (25, B false), (26, Z s_), (27, I from_101)], []⟩ fun a hS => ?_
    obtain ⟨hq, hm⟩ := hm
    refine op1 (sindex (k := .i64) T hS kr kr kr kr kr hq.1 hq.2 ?_)
    intro a hS
    clear hq
    refine eP T hS ⟨[(0, Z s_), (1, I lo), (2, I hi), (8, I from_101), (35, B ((((gi s_ from_101).toNat : Int) == 48) && (decide (((s_.length : Nat) : Int) > 1))))], []⟩ (sp := [30]) fun a hS => ?_
    exact ⟨ρ, _, ((((gi s_ from_101).toNat : Int) == 48) && (decide (((s_.length : Nat) : Int) > 1))), hm, hS.sl _, hO⟩
  ·rintro a w126 ⟨ρ, χ125, x_102, hm, hS, hO⟩
   unfold VC25_J2 at hm
   refine wcond hS (b := x_102) kr (fun hb => ?_) (fun hb => ?_)
   ·replace hm := hm.1 hb
    refine rP T hS ⟨[(6, I 0), (7, I 5)], []⟩ fun a hS => ?_
    refine wret ?_
    exact fin T hS hO (fun c => c) rfl (r := [.int .i64 0, .int .i64 5]) kr (fun χ' hM hC => ⟨(0, 5), hm, rfl⟩)
   ·replace hm := hm.2 hb
    refine wskip ?_
    refine wcut (fun a w => ∃ (ρ : Nat → Nat) (χ : Nat → Nat), VC25_J3 s_ lo hi Q from_101 ∧ St Tryd.f25.ntmps ⟨[(0, Z s_), (1, I lo), (2, I hi), (8, I from_101)], []⟩ ρ a w χ ∧ Old w0 χ0 w χ) ?_ ?_
    ·refine rP T hS ⟨[(0, Z s_), (1, I lo), (2, I hi), (8, I from_101), (9, I from_101)], []⟩ fun a hS => ?_
     refine wblock ?_
     obtain ⟨I2, μ2, hm0, hm⟩ := hm
     refine wloop (σ := Int) (fun s a w => ∃ (ρ : Nat → Nat) (χ : Nat → Nat), I2 s ∧ St Tryd.f25.ntmps ⟨[(0, Z s_), (1, I lo), (2, I hi), (8, I from_101), (9, I s)], []⟩ ρ a w χ ∧ Old w0 χ0 w χ) (fun s => μ2 s) (from_101) ?_ ?_
     ·exact ⟨ρ, _, hm0, hS.sl _, hO⟩
     ·rintro i_117 a w122 ⟨ρ, χ121, hI, hS, hO⟩
      replace hm := hm i_117 hI
      clear hI hm0
      refine wseq ?_
      refine rP T hS ⟨[(0, Z s_), (1, I lo), (2, I hi), (8, I from_101), (9, I i_117), (40, B (decide (i_117 < ((s_.length : Nat) : Int))))], []⟩ fun a hS => ?_
      refine wcond hS (b := decide (i_117 < ((s_.length : Nat) : Int))) kr (fun hb => ?_) (fun hb => ?_)
      ·replace hm := hm.1 hb
       refine wskip ?_
       refine wseq ?_
       refine wblock ?_
       refine wcut (fun a w => ∃ (ρ : Nat → Nat) (χ : Nat → Nat) (x_118 : Bool), VC25_J6 Q I2 μ2 i_117 x_118 ∧ St Tryd.f25.ntmps ⟨[(0, Z s_), (1, I lo), (2, I hi), (8, I from_101), (9, I i_117), (52, B x_118)], []⟩ ρ a w χ ∧ Old w0 χ0 w χ) ?_ ?_
       ·refine region ?_
        refine oP T hS 2 ⟨[(0, Z s_), (1, I lo), (2, I hi), (8, I from_101), (9, I i_117), (43, Z s_), (44, I i_117)], []⟩ fun a hS => ?_
        obtain ⟨hq, hm⟩ := hm
        refine op1 (sindex (k := .i64) T hS kr kr kr kr kr hq.1 hq.2 ?_)
        intro a hS
        clear hq
        refine oP T hS 2 ⟨[(0, Z s_), (1, I lo), (2, I hi), (8, I from_101), (9, I i_117), (47, B (decide (((gi s_ i_117).toNat : Int) < 48)))], []⟩ fun a hS => ?_
        rcases Bool.eq_false_or_eq_true (decide (((gi s_ i_117).toNat : Int) < 48)) with hb | hb
        ·replace hS := hS.lit (t := 47) kr hb
         replace hm := hm.1 hb
         refine eP T hS ⟨[(0, Z s_), (1, I lo), (2, I hi), (8, I from_101), (9, I i_117), (52, B true)], []⟩ fun a hS => ?_
         exact ⟨ρ, _, true, hm, hS.sl _, hO⟩
        ·replace hS := hS.lit (t := 47) kr hb
         replace hm := hm.2 hb
         refine oP T hS 2 ⟨[(0, Z s_), (1, I lo), (2, I hi), (8, I from_101), (9, I i_117), (47, B false), (48, Z s_), (49, I i_117)], []⟩ fun a hS => ?_
         obtain ⟨hq, hm⟩ := hm
         refine op1 (sindex (k := .i64) T hS kr kr kr kr kr hq.1 hq.2 ?_)
         intro a hS
         clear hq
         refine eP T hS ⟨[(0, Z s_), (1, I lo), (2, I hi), (8, I from_101), (9, I i_117), (48, Z s_), (49, I i_117), (50, V (.int .u8 ((gi s_ i_117).toNat : Int))), (51, B (decide (((gi s_ i_117).toNat : Int) > 57))), (52, B (decide (((gi s_ i_117).toNat : Int) > 57)))], []⟩ fun a hS => ?_
         exact ⟨ρ, _, decide (((gi s_ i_117).toNat : Int) > 57), hm, hS.sl _, hO⟩
       ·rintro a w120 ⟨ρ, χ119, x_118, hm, hS, hO⟩
        unfold VC25_J6 at hm
        refine wcond hS (b := x_118) kr (fun hb => ?_) (fun hb => ?_)
        ·replace hm := hm.1 hb
         refine rP T hS ⟨[(6, I 0), (7, I 5)], []⟩ fun a hS => ?_
         refine wret ?_
         exact fin T hS hO (fun c => c) rfl (r := [.int .i64 0, .int .i64 5]) kr (fun χ' hM hC => ⟨(0, 5), hm, rfl⟩)
        ·replace hm := hm.2 hb
         refine wskip ?_
         refine region (eP T hS ⟨[(0, Z s_), (1, I lo), (2, I hi), (8, I from_101), (9, I (IntKind.i64.wrap (i_117 + 1)))], []⟩ fun a hS => ?_)
         exact ⟨IntKind.i64.wrap (i_117 + 1), ⟨ρ, _, hm.1, hS.sl _, hO⟩, hm.2⟩
      ·replace hm := hm.2 hb
       refine wexit (by rfl) ?_
       exact ⟨ρ, _, hm, hS.sl _, hO⟩
    ·rintro a w124 ⟨ρ, χ123, hm, hS, hO⟩
     unfold VC25_J3 at hm
     refine wseq ?_
     refine rP T hS ⟨[(0, Z s_), (1, I lo), (2, I hi), (8, I from_101), (57, B (decide ((IntKind.i64.wrap (((s_.length : Nat) : Int) - from_101)) > 19)))], []⟩ fun a hS => ?_
     refine wcond hS (b := decide ((IntKind.i64.wrap (((s_.length : Nat) : Int) - from_101)) > 19)) kr (fun hb => ?_) (fun hb => ?_)
     ·replace hm := hm.1 hb
      refine rP T hS ⟨[(6, I 0), (7, I 7)], []⟩ fun a hS => ?_
      refine wret ?_
      exact fin T hS hO (fun c => c) rfl (r := [.int .i64 0, .int .i64 7]) kr (fun χ' hM hC => ⟨(0, 7), hm, rfl⟩)
     ·replace hm := hm.2 hb
      refine wskip ?_
      refine rP T hS ⟨[(0, Z s_), (1, I lo), (2, I hi), (8, I from_101), (10, I 0)], []⟩ fun a hS => ?_
      refine wcut (fun a w => ∃ (ρ : Nat → Nat) (χ : Nat → Nat) (n_103 : Int), VC25_J4 s_ lo hi Q n_103 ∧ St Tryd.f25.ntmps ⟨[(0, Z s_), (1, I lo), (2, I hi), (10, I n_103)], []⟩ ρ a w χ ∧ Old w0 χ0 w χ) ?_ ?_
      ·refine rP T hS ⟨[(0, Z s_), (1, I lo), (2, I hi), (8, I from_101), (10, I 0), (11, I from_101)], []⟩ fun a hS => ?_
       refine wblock ?_
       obtain ⟨I1, μ1, hm0, hm⟩ := hm
       refine wloop (σ := Int × Int) (fun s a w => ∃ (ρ : Nat → Nat) (χ : Nat → Nat), I1 s.1 s.2 ∧ St Tryd.f25.ntmps ⟨[(0, Z s_), (1, I lo), (2, I hi), (8, I from_101), (10, I s.1), (11, I s.2)], []⟩ ρ a w χ ∧ Old w0 χ0 w χ) (fun s => μ1 s.1 s.2) (⟨0, from_101⟩) ?_ ?_
       ·exact ⟨ρ, _, hm0, hS.sl _, hO⟩
       ·rintro ⟨n_108, i_109⟩ a w114 ⟨ρ, χ113, hI, hS, hO⟩
        replace hm := hm n_108 i_109 hI
        clear hI hm0
        refine wseq ?_
        refine rP T hS ⟨[(0, Z s_), (1, I lo), (2, I hi), (8, I from_101), (10, I n_108), (11, I i_109), (62, B (decide (i_109 < ((s_.length : Nat) : Int))))], []⟩ fun a hS => ?_
        refine wcond hS (b := decide (i_109 < ((s_.length : Nat) : Int))) kr (fun hb => ?_) (fun hb => ?_)
        ·replace hm := hm.1 hb
         refine wskip ?_
         refine wseq ?_
         refine wblock ?_
         refine regO ?_
         refine oP T hS 2 ⟨[(0, Z s_), (1, I lo), (2, I hi), (8, I from_101), (10, I n_108), (11, I i_109), (65, Z s_), (66, I i_109)], []⟩ fun a hS => ?_
         obtain ⟨hq, hm⟩ := hm
         refine op1 (sindex (k := .i64) T hS kr kr kr kr kr hq.1 hq.2 ?_)
         intro a hS
         clear hq
         refine eP T hS ⟨[(0, Z s_), (1, I lo), (2, I hi), (8, I from_101), (10, I n_108), (11, I i_109), (12, I (IntKind.i64.wrap ((IntKind.i64.wrap ((gi s_ i_109).toNat : Int)) - 48)))], []⟩ fun a hS => ?_
         refine wcut (fun a w => ∃ (ρ : Nat → Nat) (χ : Nat → Nat) (d_110 : Int), VC25_J5 I1 μ1 n_108 i_109 d_110 ∧ St Tryd.f25.ntmps ⟨[(0, Z s_), (1, I lo), (2, I hi), (8, I from_101), (10, I n_108), (11, I i_109), (12, I d_110)], []⟩ ρ a w χ ∧ Old w0 χ0 w χ) ?_ ?_
         ·refine rP T hS ⟨[(0, Z s_), (1, I lo), (2, I hi), (8, I from_101), (10, I n_108), (11, I i_109), (12, I (IntKind.i64.wrap ((IntKind.i64.wrap ((gi s_ i_109).toNat : Int)) - 48))), (71, B (from_101 == 1))], []⟩ fun a hS => ?_
          refine wcond hS (b := (from_101 == 1)) kr (fun hb => ?_) (fun hb => ?_)
          ·replace hm := hm.1 hb
           refine region (eP T hS ⟨[(0, Z s_), (1, I lo), (2, I hi), (8, I from_101), (10, I n_108), (11, I i_109), (12, I (IntKind.i64.wrap (0 - (IntKind.i64.wrap ((IntKind.i64.wrap ((gi s_ i_109).toNat : Int)) - 48)))))], []⟩ fun a hS => ?_)
           exact ⟨ρ, _, IntKind.i64.wrap (0 - (IntKind.i64.wrap ((IntKind.i64.wrap ((gi s_ i_109).toNat : Int)) - 48))), hm, hS.sl _, hO⟩
          ·replace hm := hm.2 hb
           refine wskip ?_
           exact ⟨ρ, _, IntKind.i64.wrap ((IntKind.i64.wrap ((gi s_ i_109).toNat : Int)) - 48), hm, hS.sl _, hO⟩
         ·rintro a w112 ⟨ρ, χ111, d_110, hm, hS, hO⟩
          unfold VC25_J5 at hm
          refine region (eP T hS ⟨[(0, Z s_), (1, I lo), (2, I hi), (8, I from_101), (10, I (IntKind.i64.wrap ((IntKind.i64.wrap (10 * n_108)) + d_110))), (11, I i_109)], []⟩ fun a hS => ?_)
          refine region (eP T hS ⟨[(0, Z s_), (1, I lo), (2, I hi), (8, I from_101), (10, I (IntKind.i64.wrap ((IntKind.i64.wrap (10 * n_108)) + d_110))), (11, I (IntKind.i64.wrap (i_109 + 1)))], []⟩ fun a hS => ?_)
          exact ⟨⟨IntKind.i64.wrap ((IntKind.i64.wrap (10 * n_108)) + d_110), IntKind.i64.wrap (i_109 + 1)⟩, ⟨ρ, _, hm.1, hS.sl _, hO⟩, hm.2⟩
        ·replace hm := hm.2 hb
         refine wexit (by rfl) ?_
         exact ⟨ρ, _, n_108, hm, hS.sl _, hO⟩
      ·rintro a w116 ⟨ρ, χ115, n_103, hm, hS, hO⟩
       unfold VC25_J4 at hm
       refine wseq ?_
       refine regO ?_
       refine oP T hS 1 ⟨[(0, Z s_), (1, I lo), (2, I hi), (10, I n_103), (78, I n_103)], []⟩ fun a hS => ?_
       obtain ⟨hq, hm⟩ := hm
       refine op1 (call hS kr kr hb30 kr (fun _ _ => rfl) (k30 _ _ n_103 hq) ?_)
       intro v104 a w105 χ106 hE hp hS
       clear hq
       replace hO := hO.mv hE rfl rfl
       clear hE
       obtain ⟨r107, hr⟩ : ∃ r, ref05_Digits n_103 = r := ⟨_, rfl⟩
       replace hm := hm r107 hr
       rw [hr] at hp
       clear hr
       subst hp
       refine eP T hS ⟨[(10, I n_103), (91, B (((!(r107 == s_)) || (decide (n_103 < lo))) || (decide (n_103 > hi))))], []⟩ (sp := [82, 87]) fun a hS => ?_
       refine wcond hS (b := (((!(r107 == s_)) || (decide (n_103 < lo))) || (decide (n_103 > hi)))) kr (fun hb => ?_) (fun hb => ?_)
       ·replace hm := hm.1 hb
        refine rP T hS ⟨[(6, I 0), (7, I 7)], []⟩ fun a hS => ?_
        refine wret ?_
        exact fin T hS hO (fun c => c) rfl (r := [.int .i64 0, .int .i64 7]) kr (fun χ' hM hC => ⟨(0, 7), hm, rfl⟩)
       ·replace hm := hm.2 hb
        refine wskip ?_
        refine rP T hS ⟨[(6, I n_103), (7, I 0)], []⟩ fun a hS => ?_
        refine wret ?_
        exact fin T hS hO (fun c => c) rfl (r := [.int .i64 n_103, .int .i64 0]) kr (fun χ' hM hC => ⟨(n_103, 0), hm, rfl⟩)
theorem C25 (k30 : S30) (v : ∀ (s_ : List UInt8) (lo : Int) (hi : Int), preNum s_ lo hi → VC25 s_ lo hi (fun r => r = ref05_Number s_ lo hi)) : S25 := by
 intro w χ s_ lo hi    hp 
 refine (W25 k30 w χ s_ lo hi    _ (v s_ lo hi hp)).mono ?_
 rintro _ _ _ _ ⟨r, rfl, h⟩
 exact h
/-- replevin/replevinref06.All -/
theorem W24 (k42 : S42) (w0 : World) (χ0 : Nat → Nat) (s_ : List UInt8) (Q : (List Ref05_Token) → Prop) (hm : VC24 s_ Q) :
  Ret Tryd.prog 24 #[.string (bs s_)] xnone w0 χ0 (fun w χ' v => ∃ r, Q r ∧ ∃ (ra1 : Option Addr) (rc1 : Nat), v = .slice ra1 r.length rc1 ∧ RS tRef05_Token w χ' ra1 r rc1) := by
 unfold VC24 at hm
 refine enter Tryd.func24 rfl (vals := [.string (bs s_)]) kr ?_
 intro ρ a hS hO hM
 clear hM
 refine rP T hS ⟨[(0, Z s_)], []⟩ fun a hS => ?_
 refine rP T hS ⟨[(0, Z s_), (3, V (.slice none 0 0))], []⟩ fun a hS => ?_
 refine regO ?_
 refine oP T hS 1 ⟨[(3, V (.slice none 0 0)), (7, Z s_)], []⟩ fun a hS => ?_
 obtain ⟨hq, hm⟩ := hm
 refine op1 (call hS kr kr hb42 kr (fun _ _ => rfl) (k42 _ _ s_ hq) ?_)
 intro v101 a w102 χ103 hE hp hS
 clear hq
 replace hO := hO.mv hE rfl rfl
 clear hE
 obtain ⟨a105, c106, hp, h107⟩ := hp
 obtain ⟨r104, hr⟩ : ∃ r, ref05_Lines s_ = r := ⟨_, rfl⟩
 replace hm := hm r104 hr
 rw [hr] at hp h107
 clear hr
 subst hp
 replace hm := hm (h107.sm kr)
 refine eP T hS ⟨[(3, V (.slice none 0 0)), (4, Sl a105 r104 c106)], []⟩ fun a hS => ?_
 refine wcut (fun a w => ∃ (ρ : Nat → Nat) (χ : Nat → Nat) (out_108 : List Ref05_Token) (a109 : Option Addr) (c110 : Nat), VC24_J1 Q out_108 ∧ St Tryd.f24.ntmps ⟨[(3, Sl a109 out_108 c110)], []⟩ ρ a w χ ∧ Old w0 χ0 w χ ∧ OS tRef05_Token 64 w χ 1003 a109 out_108 c110) ?_ ?_
 ·refine rP T hS ⟨[(3, V (.slice none 0 0)), (4, Sl a105 r104 c106), (5, I 0)], []⟩ fun a hS => ?_
  refine wblock ?_
  obtain ⟨I1, μ1, hm0, hm⟩ := hm
  refine wloop (σ := (List Ref05_Token) × Int) (fun s a w => ∃ (ρ : Nat → Nat) (χ : Nat → Nat) (a115 : Option Addr) (c116 : Nat), I1 s.1 s.2 ∧ St Tryd.f24.ntmps ⟨[(3, Sl a115 s.1 c116), (4, Sl a105 r104 c106), (5, I s.2)], []⟩ ρ a w χ ∧ Old w0 χ0 w χ ∧ OS tRef05_Token 64 w χ 1003 a115 s.1 c116 ∧ RS (tSlice tRef05_Token) w χ a105 r104 c106) (fun s => μ1 s.1 s.2) (⟨[], 0⟩) ?_ ?_
  ·exact ⟨ρ, _, none, 0, hm0, hS.sl _, hO, (OS.nil _ _ _ _ _), h107⟩
  ·rintro ⟨out_114, i_119⟩ a w160 ⟨ρ, χ159, a115, c116, hI, hS, hO, h117, h118⟩
   replace hm := hm out_114 i_119 hI
   clear hI hm0
   refine wseq ?_
   refine rP T hS ⟨[(3, Sl a115 out_114 c116), (4, Sl a105 r104 c106), (5, I i_119), (12, B (decide (i_119 < ((r104.length : Nat) : Int))))], []⟩ fun a hS => ?_
   refine wcond hS (b := decide (i_119 < ((r104.length : Nat) : Int))) kr (fun hb => ?_) (fun hb => ?_)
   ·replace hm := hm.1 hb
    refine wskip ?_
    refine wcut (fun a w => ∃ (ρ : Nat → Nat) (χ : Nat → Nat) (out_120 : List Ref05_Token) (a121 : Option Addr) (c122 : Nat), VC24_J2 I1 μ1 out_114 i_119 out_120 ∧ St Tryd.f24.ntmps ⟨[(3, Sl a121 out_120 c122), (4, Sl a105 r104 c106), (5, I i_119)], []⟩ ρ a w χ ∧ Old w0 χ0 w χ ∧ OS tRef05_Token 64 w χ 1003 a121 out_120 c122 ∧ RS (tSlice tRef05_Token) w χ a105 r104 c106) ?_ ?_
    ·refine wblock ?_
     refine rP T hS ⟨[(3, Sl a115 out_114 c116), (4, Sl a105 r104 c106), (5, I i_119), (6, I 0)], []⟩ fun a hS => ?_
     refine wblock ?_
     obtain ⟨I2, μ2, hm0, hm⟩ := hm
     refine wloop (σ := (List Ref05_Token) × Int) (fun s a w => ∃ (ρ : Nat → Nat) (χ : Nat → Nat) (a126 : Option Addr) (c127 : Nat), I2 s.1 s.2 ∧ St Tryd.f24.ntmps ⟨[(3, Sl a126 s.1 c127), (4, Sl a105 r104 c106), (5, I i_119), (6, I s.2)], []⟩ ρ a w χ ∧ Old w0 χ0 w χ ∧ OS tRef05_Token 64 w χ 1003 a126 s.1 c127 ∧ RS (tSlice tRef05_Token) w χ a105 r104 c106) (fun s => μ2 s.1 s.2) (⟨out_114, 0⟩) ?_ ?_
     ·exact ⟨ρ, _, a115, c116, hm0, hS.sl _, hO, h117, h118⟩
     ·rintro ⟨out_125, k_130⟩ a w156 ⟨ρ, χ155, a126, c127, hI, hS, hO, h128, h129⟩
      replace hm := hm out_125 k_130 hI
      clear hI hm0
      refine wseq ?_
      refine regO ?_
      refine oP T hS 3 ⟨[(3, Sl a126 out_125 c127), (4, Sl a105 r104 c106), (5, I i_119), (6, I k_130), (15, I k_130), (16, Sl a105 r104 c106), (17, I i_119)], []⟩ fun a hS => ?_
      obtain ⟨hq, hm⟩ := hm
      refine op1 (index (e := 61) (k := .i64) T hS kr kr kr kr h129 kr kr hq.1 hq.2 ?_)
      intro A131 a h132 hS
      clear hq
      refine op1 (load1 T hS kr kr kr h132 rfl kr ?_)
      intro v133 a hv hS
      obtain ⟨a134, c135, hv, h136⟩ := hv
      cases hv
      replace hm := hm (h136.sm kr)
      refine eP T hS ⟨[(3, Sl a126 out_125 c127), (4, Sl a105 r104 c106), (5, I i_119), (6, I k_130), (21, B (decide (k_130 < (((gi r104 i_119).length : Nat) : Int))))], []⟩ fun a hS => ?_
      refine wcond hS (b := decide (k_130 < (((gi r104 i_119).length : Nat) : Int))) kr (fun hb => ?_) (fun hb => ?_)
      ·replace hm := hm.1 hb
       refine wskip ?_
       refine wseq ?_
       refine wblock ?_
       refine region ?_
       refine oP T hS 3 ⟨[(3, Sl a126 out_125 c127), (4, Sl a105 r104 c106), (5, I i_119), (6, I k_130), (24, Sl a126 out_125 c127), (25, Sl a105 r104 c106), (26, I i_119)], []⟩ fun a hS => ?_
       obtain ⟨hq, hm⟩ := hm
       refine op1 (index (e := 61) (k := .i64) T hS kr kr kr kr h129 kr kr hq.1 hq.2 ?_)
       intro A137 a h138 hS
       clear hq
       refine op1 (load1 T hS kr kr kr h138 rfl kr ?_)
       intro v139 a hv hS
       obtain ⟨a140, c141, hv, h142⟩ := hv
       cases hv
       replace hm := hm (h142.sm kr)
       refine oP T hS 1 ⟨[(3, Sl a126 out_125 c127), (4, Sl a105 r104 c106), (5, I i_119), (6, I k_130), (24, Sl a126 out_125 c127), (28, Sl a140 (gi r104 i_119) c141), (29, I k_130)], []⟩ fun a hS => ?_
       obtain ⟨hq, hm⟩ := hm
       refine op1 (index (e := 64) (k := .i64) T hS kr kr kr kr h142 kr kr hq.1 hq.2 ?_)
       intro A143 a h144 hS
       clear hq
       refine op1 (loadA T hS kr kr kr h144 kr kr ?_)
       intro v145 a hv hS
       subst hv
       refine op1 (lit (E := 64) (col := 0) (T := tRef05_Token) (vals := [.agg #[.int .i64 ((gi (gi r104 i_119) k_130).Line), .int .i64 ((gi (gi r104 i_119) k_130).At), .string (bs ((gi (gi r104 i_119) k_130).Text))]]) (ys := [gi (gi r104 i_119) k_130]) T hS kr kr kr kr (by exact ⟨rfl, trivial⟩) rfl kr kr kr kr ?_)
       intro b146 a w147 χ148 hE h149 hN hS
       clear hN
       replace hO := hO.mv hE rfl rfl
       replace h128 := h128.mv hE rfl rfl
       replace h129 := h129.mv hE rfl
       replace h142 := h142.mv hE rfl
       replace h144 := h144.mv hE rfl
       clear hE
       replace h149 := h149.rs0
       obtain ⟨hq, hm⟩ := hm
       obtain ⟨news, hN⟩ := h149.src
       refine op1 (append (E := 64) (T := tRef05_Token) (col := 1003) (xs := out_125) T hS kr kr kr kr h128 hN kr kr kr kr hq ?_)
       intro a153 c154 a w150 χ151 hE h152 hS
       clear hq hN
       clear h128
       replace hO := hO.mv hE rfl rfl
       replace h129 := h129.mv hE rfl
       replace h142 := h142.mv hE rfl
       replace h144 := h144.mv hE rfl
       replace h149 := h149.mv hE rfl
       clear hE
       refine eP T hS ⟨[(3, Sl a153 (out_125 ++ [gi (gi r104 i_119) k_130]) c154), (4, Sl a105 r104 c106), (5, I i_119), (6, I k_130)], []⟩ fun a hS => ?_
       refine region (eP T hS ⟨[(3, Sl a153 (out_125 ++ [gi (gi r104 i_119) k_130]) c154), (4, Sl a105 r104 c106), (5, I i_119), (6, I (IntKind.i64.wrap (k_130 + 1)))], []⟩ fun a hS => ?_)
       exact ⟨⟨out_125 ++ [gi (gi r104 i_119) k_130], IntKind.i64.wrap (k_130 + 1)⟩, ⟨ρ, _, a153, c154, hm.1, hS.sl _, hO, h152, h129⟩, hm.2⟩
      ·replace hm := hm.2 hb
       refine wexit (by rfl) ?_
       exact ⟨ρ, _, out_125, a126, c127, hm, hS.sl _, hO, h128, h129⟩
    ·rintro a w158 ⟨ρ, χ157, out_120, a121, c122, hm, hS, hO, h123, h124⟩
     unfold VC24_J2 at hm
     refine region (eP T hS ⟨[(3, Sl a121 out_120 c122), (4, Sl a105 r104 c106), (5, I (IntKind.i64.wrap (i_119 + 1)))], []⟩ fun a hS => ?_)
     exact ⟨⟨out_120, IntKind.i64.wrap (i_119 + 1)⟩, ⟨ρ, _, a121, c122, hm.1, hS.sl _, hO, h123, h124⟩, hm.2⟩
   ·replace hm := hm.2 hb
    refine wexit (by rfl) ?_
    exact ⟨ρ, _, out_114, a115, c116, hm, hS.sl _, hO, h117⟩
 ·rintro a w162 ⟨ρ, χ161, out_108, a109, c110, hm, hS, hO, h111⟩
  unfold VC24_J1 at hm
  refine rP T hS ⟨[(2, Sl a109 out_108 c110)], []⟩ fun a hS => ?_
  refine wret ?_
  obtain ⟨χ112, hE, hF⟩ := h111.freeze (by decide)
  replace hS := hS.ev hE (xone_box kr)
  replace hO := hO.mv hE rfl rfl
  have h113 := hF; clear hE hF
  exact fin T hS hO (fun c => c) rfl (r := [.slice a109 out_108.length c110]) kr (fun χ' hM hC => ⟨out_108, hm, a109, c110, rfl, h113.m0 hM⟩)
theorem C24 (k42 : S42) (v : ∀ (s_ : List UInt8), len1 s_ → VC24 s_ (fun r => r = ref06_All s_)) : S24 := by
 intro w χ s_    hp 
 refine (W24 k42 w χ s_    _ (v s_ hp)).mono ?_
 rintro _ _ _ _ ⟨r, rfl, h⟩
 exact h
/-- replevin/replevinref06.Parse -/
theorem W9 (k24 : S24) (k25 : S25) (k26 : S26) (w0 : World) (χ0 : Nat → Nat) (s_ : List UInt8) (Q : Api_Formula × Int × Int → Prop) (hm : VC9 s_ Q) :
  Ret Tryd.prog 9 #[.string (bs s_)] xnone w0 χ0 (fun w χ' v => ∃ r, Q r ∧ ∃ (ra1 : Option Addr) (rc1 : Nat), v = .tuple #[.agg #[.int .i64 r.1.Vars, .slice ra1 r.1.Clauses.length rc1], .int .i64 r.2.1, .int .i64 r.2.2] ∧ RS (tSlice tI) w χ' ra1 r.1.Clauses rc1) := by
 unfold VC9 at hm
 refine enter Tryd.func9 rfl (vals := [.string (bs s_)]) kr ?_
 intro ρ a hS hO hM
 clear hM
 refine rM T hS ⟨[(0, Z s_), (2, Pt 3 0)], [(3, (25, [I 0, V (.slice none 0 0)]))]⟩ fun ρ a w316 χ317 hS hE hr => ?_
 replace hO := hO.mv hE rfl rfl
 clear hE hr
 refine wseq ?_
 refine rP T hS ⟨[(0, Z s_), (2, Pt 3 0), (17, B (decide (((s_.length : Nat) : Int) > 1000000)))], [(3, (25, [I 0, V (.slice none 0 0)]))]⟩ fun a hS => ?_
 refine wcond hS (b := decide (((s_.length : Nat) : Int) > 1000000)) kr (fun hb => ?_) (fun hb => ?_)
 ·replace hm := hm.1 hb
  refine rM T hS ⟨[(2, Pt 3 0), (3, I 0), (4, I 3)], [(3, (25, [I 0, V (.slice none 0 0)]))]⟩ fun ρ a w101 χ102 hS hE hr => ?_
  replace hO := hO.mv hE rfl rfl
  clear hE hr
  refine wret ?_
  exact fin T hS hO (fun c => c) rfl (r := [.agg #[.int .i64 0, .slice none 0 0], .int .i64 0, .int .i64 3]) kr (fun χ' hM hC => ⟨((⟨0, []⟩ : Api_Formula), 0, 3), hm, none, 0, rfl, RS.empty _ _ _⟩)
 ·replace hm := hm.2 hb
  refine wskip ?_
  refine regO ?_
  refine oP T hS 1 ⟨[(0, Z s_), (2, Pt 3 0), (19, Z s_)], [(3, (25, [I 0, V (.slice none 0 0)]))]⟩ fun a hS => ?_
  obtain ⟨hq, hm⟩ := hm
  refine op1 (call hS kr kr hb24 kr (fun _ _ => rfl) (k24 _ _ s_ hq) ?_)
  intro v103 a w104 χ105 hE hp hS
  clear hq
  replace hO := hO.mv hE rfl rfl
  clear hE
  obtain ⟨a107, c108, hp, h109⟩ := hp
  obtain ⟨r106, hr⟩ : ∃ r, ref06_All s_ = r := ⟨_, rfl⟩
  replace hm := hm r106 hr
  rw [hr] at hp h109
  clear hr
  subst hp
  replace hm := hm (h109.sm kr)
  refine eP T hS ⟨[(0, Z s_), (2, Pt 3 0), (5, Sl a107 r106 c108)], [(3, (25, [I 0, V (.slice none 0 0)]))]⟩ fun a hS => ?_
  refine rM T hS ⟨[(0, Z s_), (2, Pt 3 0), (5, Sl a107 r106 c108), (6, Pt 7 0)], [(3, (25, [I 0, V (.slice none 0 0)])), (7, (63, [I 0, I 0]))]⟩ fun ρ a w314 χ315 hS hE hr => ?_
  replace hO := hO.mv hE rfl rfl
  replace h109 := h109.mv hE rfl
  clear hE hr
  refine wcut (fun a w => ∃ (ρ : Nat → Nat) (χ : Nat → Nat) (x_111 : Int) (x_112 : Int), VC9_J1 s_ Q r106 x_111 x_112 ∧ St Tryd.f9.ntmps ⟨[(0, Z s_), (2, Pt 3 0), (5, Sl a107 r106 c108), (6, Pt 7 0)], [(3, (25, [I 0, V (.slice none 0 0)])), (7, (63, [I x_111, I x_112]))]⟩ ρ a w χ ∧ Old w0 χ0 w χ ∧ RS tRef05_Token w χ a107 r106 c108) ?_ ?_
  ·refine rP T hS ⟨[(0, Z s_), (2, Pt 3 0), (5, Sl a107 r106 c108), (6, Pt 7 0), (7, I 0)], [(3, (25, [I 0, V (.slice none 0 0)])), (7, (63, [I 0, I 0]))]⟩ fun a hS => ?_
   refine wblock ?_
   obtain ⟨I2, μ2, hm0, hm⟩ := hm
   refine wloop (σ := Int × Int × Int) (fun s a w => ∃ (ρ : Nat → Nat) (χ : Nat → Nat), I2 s.1 s.2.1 s.2.2 ∧ St Tryd.f9.ntmps ⟨[(0, Z s_), (2, Pt 3 0), (5, Sl a107 r106 c108), (6, Pt 7 0), (7, I s.1)], [(3, (25, [I 0, V (.slice none 0 0)])), (7, (63, [I s.2.1, I s.2.2]))]⟩ ρ a w χ ∧ Old w0 χ0 w χ ∧ RS tRef05_Token w χ a107 r106 c108) (fun s => μ2 s.1 s.2.1 s.2.2) (⟨0, 0, 0⟩) ?_ ?_
   ·exact ⟨ρ, _, hm0, hS.sl _, hO, h109⟩
   ·rintro ⟨i_250, x_251, x_252⟩ a w311 ⟨ρ, χ310, hI, hS, hO, h249⟩
    replace hm := hm i_250 x_251 x_252 hI
    clear hI hm0
    refine wseq ?_
    refine rP T hS ⟨[(0, Z s_), (2, Pt 3 0), (5, Sl a107 r106 c108), (6, Pt 7 0), (7, I i_250), (22, B (decide (i_250 < 4)))], [(3, (25, [I 0, V (.slice none 0 0)])), (7, (63, [I x_251, I x_252]))]⟩ fun a hS => ?_
    refine wcond hS (b := decide (i_250 < 4)) kr (fun hb => ?_) (fun hb => ?_)
    ·replace hm := hm.1 hb
     refine wskip ?_
     refine wcut (fun a w => ∃ (ρ : Nat → Nat) (χ : Nat → Nat) (x_254 : Int) (x_255 : Int), VC9_J4 I2 μ2 i_250 x_251 x_252 x_254 x_255 ∧ St Tryd.f9.ntmps ⟨[(0, Z s_), (2, Pt 3 0), (5, Sl a107 r106 c108), (6, Pt 7 0), (7, I i_250)], [(3, (25, [I 0, V (.slice none 0 0)])), (7, (63, [I x_254, I x_255]))]⟩ ρ a w χ ∧ Old w0 χ0 w χ ∧ RS tRef05_Token w χ a107 r106 c108) ?_ ?_
     ·refine wblock ?_
      refine wseq ?_
      refine rP T hS ⟨[(0, Z s_), (2, Pt 3 0), (5, Sl a107 r106 c108), (6, Pt 7 0), (7, I i_250), (28, B (decide (i_250 ≥ ((r106.length : Nat) : Int))))], [(3, (25, [I 0, V (.slice none 0 0)])), (7, (63, [I x_251, I x_252]))]⟩ fun a hS => ?_
      refine wcond hS (b := decide (i_250 ≥ ((r106.length : Nat) : Int))) kr (fun hb => ?_) (fun hb => ?_)
      ·replace hm := hm.1 hb
       refine rM T hS ⟨[(2, Pt 3 0), (3, I ((s_.length : Nat) : Int)), (4, I 4)], [(3, (25, [I 0, V (.slice none 0 0)]))]⟩ fun ρ a w256 χ257 hS hE hr => ?_
       replace hO := hO.mv hE rfl rfl
       clear hE hr
       refine wret ?_
       exact fin T hS hO (fun c => c) rfl (r := [.agg #[.int .i64 0, .slice none 0 0], .int .i64 ((s_.length : Nat) : Int), .int .i64 4]) kr (fun χ' hM hC => ⟨((⟨0, []⟩ : Api_Formula), ((s_.length : Nat) : Int), 4), hm, none, 0, rfl, RS.empty _ _ _⟩)
      ·replace hm := hm.2 hb
       refine wskip ?_
       refine wseq ?_
       refine wcut (fun a w => ∃ (ρ : Nat → Nat) (χ : Nat → Nat) (x_259 : Bool), VC9_J5 Q r106 I2 μ2 i_250 x_251 x_252 x_259 ∧ St Tryd.f9.ntmps ⟨[(0, Z s_), (2, Pt 3 0), (5, Sl a107 r106 c108), (6, Pt 7 0), (7, I i_250), (51, B x_259)], [(3, (25, [I 0, V (.slice none 0 0)])), (7, (63, [I x_251, I x_252]))]⟩ ρ a w χ ∧ Old w0 χ0 w χ ∧ RS tRef05_Token w χ a107 r106 c108) ?_ ?_
       ·refine region ?_
        refine oP T hS 3 ⟨[(0, Z s_), (2, Pt 3 0), (5, Sl a107 r106 c108), (6, Pt 7 0), (7, I i_250), (34, B (i_250 == 0))], [(3, (25, [I 0, V (.slice none 0 0)])), (7, (63, [I x_251, I x_252]))]⟩ fun a hS => ?_
        rcases Bool.eq_false_or_eq_true (i_250 == 0) with hb | hb
        ·replace hS := hS.lit (t := 34) kr hb
         replace hm := hm.1 hb
         refine oP T hS 1 ⟨[(0, Z s_), (2, Pt 3 0), (5, Sl a107 r106 c108), (6, Pt 7 0), (7, I i_250), (34, B true), (35, Sl a107 r106 c108)], [(3, (25, [I 0, V (.slice none 0 0)])), (7, (63, [I x_251, I x_252]))]⟩ fun a hS => ?_
         obtain ⟨hq, hm⟩ := hm
         refine op1 (index (e := 64) (k := .i64) T hS kr kr kr kr h249 kr kr hq.1 hq.2 ?_)
         intro A291 a h292 hS
         clear hq
         refine op1 (fieldA (off := 2) (fsz := 1) (ft := 9) (TF := tStr) (y := (gi r106 0).Text) T hS kr kr kr h292 kr kr kr (fun cs h => Ref05_Token_f2 h) ?_)
         intro A293 a h294 hS
         refine op1 (load1 T hS kr kr kr h294 rfl kr ?_)
         intro v295 a hv hS
         cases hv
         refine oP T hS 3 ⟨[(0, Z s_), (2, Pt 3 0), (5, Sl a107 r106 c108), (6, Pt 7 0), (7, I i_250), (35, Sl a107 r106 c108), (36, V (.pointer (some A291))), (37, V (.pointer (some A293))), (38, Z ((gi r106 0).Text)), (39, B (!(((gi r106 0).Text) == ([112] : List UInt8)))), (41, B (!(((gi r106 0).Text) == ([112] : List UInt8))))], [(3, (25, [I 0, V (.slice none 0 0)])), (7, (63, [I x_251, I x_252]))]⟩ fun a hS => ?_
         rcases Bool.eq_false_or_eq_true (!(((gi r106 0).Text) == ([112] : List UInt8))) with hb | hb
         ·replace hS := hS.lit (t := 41) kr hb
          replace hm := hm.1 hb
          refine eP T hS ⟨[(0, Z s_), (2, Pt 3 0), (5, Sl a107 r106 c108), (6, Pt 7 0), (7, I i_250), (35, Sl a107 r106 c108), (36, V (.pointer (some A291))), (37, V (.pointer (some A293))), (38, Z ((gi r106 0).Text)), (39, B (!(((gi r106 0).Text) == ([112] : List UInt8)))), (51, B true)], [(3, (25, [I 0, V (.slice none 0 0)])), (7, (63, [I x_251, I x_252]))]⟩ fun a hS => ?_
          exact ⟨ρ, _, true, hm, hS.sl _, hO, h249⟩
         ·replace hS := hS.lit (t := 41) kr hb
          replace hm := hm.2 hb
          refine oP T hS 3 ⟨[(0, Z s_), (2, Pt 3 0), (5, Sl a107 r106 c108), (6, Pt 7 0), (7, I i_250), (35, Sl a107 r106 c108), (36, V (.pointer (some A291))), (37, V (.pointer (some A293))), (38, Z ((gi r106 0).Text)), (39, B (!(((gi r106 0).Text) == ([112] : List UInt8)))), (41, B false), (42, I i_250), (43, B (i_250 == 1)), (44, B (i_250 == 1))], [(3, (25, [I 0, V (.slice none 0 0)])), (7, (63, [I x_251, I x_252]))]⟩ fun a hS => ?_
          rcases Bool.eq_false_or_eq_true (i_250 == 1) with hb | hb
          ·replace hS := hS.lit (t := 44) kr hb
           replace hm := hm.1 hb
           refine oP T hS 1 ⟨[(0, Z s_), (2, Pt 3 0), (5, Sl a107 r106 c108), (6, Pt 7 0), (7, I i_250), (35, Sl a107 r106 c108), (36, V (.pointer (some A291))), (37, V (.pointer (some A293))), (38, Z ((gi r106 0).Text)), (39, B (!(((gi r106 0).Text) == ([112] : List UInt8)))), (41, B false), (42, I i_250), (43, B (i_250 == 1)), (44, B true), (45, Sl a107 r106 c108)], [(3, (25, [I 0, V (.slice none 0 0)])), (7, (63, [I x_251, I x_252]))]⟩ fun a hS => ?_
           obtain ⟨hq, hm⟩ := hm
           refine op1 (index (e := 64) (k := .i64) T hS kr kr kr kr h249 kr kr hq.1 hq.2 ?_)
           intro A296 a h297 hS
           clear hq
           refine op1 (fieldA (off := 2) (fsz := 1) (ft := 9) (TF := tStr) (y := (gi r106 1).Text) T hS kr kr kr h297 kr kr kr (fun cs h => Ref05_Token_f2 h) ?_)
           intro A298 a h299 hS
           refine op1 (load1 T hS kr kr kr h299 rfl kr ?_)
           intro v300 a hv hS
           cases hv
           refine eP T hS ⟨[(0, Z s_), (2, Pt 3 0), (5, Sl a107 r106 c108), (6, Pt 7 0), (7, I i_250), (35, Sl a107 r106 c108), (36, V (.pointer (some A291))), (37, V (.pointer (some A293))), (38, Z ((gi r106 0).Text)), (39, B (!(((gi r106 0).Text) == ([112] : List UInt8)))), (42, I i_250), (43, B (i_250 == 1)), (44, B true), (45, Sl a107 r106 c108), (46, V (.pointer (some A296))), (47, V (.pointer (some A298))), (48, Z ((gi r106 1).Text)), (49, B (!(((gi r106 1).Text) == ([99, 110, 102] : List UInt8)))), (50, B (!(((gi r106 1).Text) == ([99, 110, 102] : List UInt8)))), (51, B (!(((gi r106 1).Text) == ([99, 110, 102] : List UInt8))))], [(3, (25, [I 0, V (.slice none 0 0)])), (7, (63, [I x_251, I x_252]))]⟩ fun a hS => ?_
           exact ⟨ρ, _, (!(((gi r106 1).Text) == ([99, 110, 102] : List UInt8))), hm, hS.sl _, hO, h249⟩
          ·replace hS := hS.lit (t := 44) kr hb
           replace hm := hm.2 hb
           refine eP T hS ⟨[(0, Z s_), (2, Pt 3 0), (5, Sl a107 r106 c108), (6, Pt 7 0), (7, I i_250), (35, Sl a107 r106 c108), (36, V (.pointer (some A291))), (37, V (.pointer (some A293))), (38, Z ((gi r106 0).Text)), (39, B (!(((gi r106 0).Text) == ([112] : List UInt8)))), (42, I i_250), (43, B (i_250 == 1)), (44, B false), (50, B false), (51, B false)], [(3, (25, [I 0, V (.slice none 0 0)])), (7, (63, [I x_251, I x_252]))]⟩ fun a hS => ?_
           exact ⟨ρ, _, false, hm, hS.sl _, hO, h249⟩
        ·replace hS := hS.lit (t := 34) kr hb
         replace hm := hm.2 hb
         refine oP T hS 10 ⟨[(0, Z s_), (2, Pt 3 0), (5, Sl a107 r106 c108), (6, Pt 7 0), (7, I i_250), (41, B false), (42, I i_250), (43, B (i_250 == 1)), (44, B (i_250 == 1))], [(3, (25, [I 0, V (.slice none 0 0)])), (7, (63, [I x_251, I x_252]))]⟩ fun a hS => ?_
         rcases Bool.eq_false_or_eq_true (i_250 == 1) with hb | hb
         ·replace hS := hS.lit (t := 44) kr hb
          replace hm := hm.1 hb
          refine oP T hS 1 ⟨[(0, Z s_), (2, Pt 3 0), (5, Sl a107 r106 c108), (6, Pt 7 0), (7, I i_250), (41, B false), (42, I i_250), (43, B (i_250 == 1)), (44, B true), (45, Sl a107 r106 c108)], [(3, (25, [I 0, V (.slice none 0 0)])), (7, (63, [I x_251, I x_252]))]⟩ fun a hS => ?_
          obtain ⟨hq, hm⟩ := hm
          refine op1 (index (e := 64) (k := .i64) T hS kr kr kr kr h249 kr kr hq.1 hq.2 ?_)
          intro A301 a h302 hS
          clear hq
          refine op1 (fieldA (off := 2) (fsz := 1) (ft := 9) (TF := tStr) (y := (gi r106 1).Text) T hS kr kr kr h302 kr kr kr (fun cs h => Ref05_Token_f2 h) ?_)
          intro A303 a h304 hS
          refine op1 (load1 T hS kr kr kr h304 rfl kr ?_)
          intro v305 a hv hS
          cases hv
          refine eP T hS ⟨[(0, Z s_), (2, Pt 3 0), (5, Sl a107 r106 c108), (6, Pt 7 0), (7, I i_250), (42, I i_250), (43, B (i_250 == 1)), (44, B true), (45, Sl a107 r106 c108), (46, V (.pointer (some A301))), (47, V (.pointer (some A303))), (48, Z ((gi r106 1).Text)), (49, B (!(((gi r106 1).Text) == ([99, 110, 102] : List UInt8)))), (50, B (!(((gi r106 1).Text) == ([99, 110, 102] : List UInt8)))), (51, B (!(((gi r106 1).Text) == ([99, 110, 102] : List UInt8))))], [(3, (25, [I 0, V (.slice none 0 0)])), (7, (63, [I x_251, I x_252]))]⟩ fun a hS => ?_
          exact ⟨ρ, _, (!(((gi r106 1).Text) == ([99, 110, 102] : List UInt8))), hm, hS.sl _, hO, h249⟩
         ·replace hS := hS.lit (t := 44) kr hb
          replace hm := hm.2 hb
          refine eP T hS ⟨[(0, Z s_), (2, Pt 3 0), (5, Sl a107 r106 c108), (6, Pt 7 0), (7, I i_250), (42, I i_250), (43, B (i_250 == 1)), (44, B false), (50, B false), (51, B false)], [(3, (25, [I 0, V (.slice none 0 0)])), (7, (63, [I x_251, I x_252]))]⟩ fun a hS => ?_
          exact ⟨ρ, _, false, hm, hS.sl _, hO, h249⟩
       ·rintro a w307 ⟨ρ, χ306, x_259, hm, hS, hO, h258⟩
        unfold VC9_J5 at hm
        refine wcond hS (b := x_259) kr (fun hb => ?_) (fun hb => ?_)
        ·replace hm := hm.1 hb
         replace hS := hS.sl ⟨[(2, Pt 3 0), (5, Sl a107 r106 c108), (7, I i_250)], [(3, (25, [I 0, V (.slice none 0 0)]))]⟩
         refine drawnSX [] mixed hS ?_
         intro w260 χ261 hS hE hD hH
         replace hO := hO.mv hE rfl rfl
         replace h258 := h258.mv hE rfl
         clear hE
         refine tk T [0, 1, 2] [] hS hH #[true, true, true, false, false, false, false, false, false] 6 ⟨[(2, Pt 3 0), (52, V (.agg #[.int .i64 0, .slice none 0 0])), (53, Sl a107 r106 c108), (54, I i_250)], [(3, (25, [I 0, V (.slice none 0 0)]))]⟩ fun a hS => ?_
         obtain ⟨hq, hm⟩ := hm
         refine dindex (e := 64) (k := .i64) T 3 hS kr kr kr (by rfl) kr hH kr kr h258 kr kr hq.1 hq.2 ?_
         intro A262 a h263 hS
         clear hq
         have h263b := h263.here
         refine dfieldA (off := 1) (fsz := 1) (ft := 3) (TF := tI) (y := (gi r106 i_250).At) 4 T hS kr kr kr (by rfl) kr hH kr h263 kr kr kr (fun cs h => Ref05_Token_f1 h) ?_
         intro A264 a h265 hbl hS
         have h265b := h263b
         rw [← hbl] at h265b
         clear hbl
         refine dload1 T 5 hS kr kr kr (by rfl) kr hH kr h265 h265b rfl kr ?_
         intro v266 a hv hS
         cases hv
         replace hS := hS.sl ⟨[(2, Pt 3 0), (52, V (.agg #[.int .i64 0, .slice none 0 0])), (53, Sl a107 r106 c108), (54, I i_250), (55, V (.pointer (some A262))), (56, V (.pointer (some A264))), (57, I ((gi r106 i_250).At))], [(3, (25, [I 0, V (.slice none 0 0)]))]⟩
         refine only 6 kr (by rfl) (store1 T hS kr kr (sy' := ⟨[(2, Pt 3 0), (52, V (.agg #[.int .i64 0, .slice none 0 0])), (53, Sl a107 r106 c108), (54, I i_250), (55, V (.pointer (some A262))), (56, V (.pointer (some A264))), (57, I ((gi r106 i_250).At))], [(3, (25, [I 0, V (.slice none 0 0)])), (3, (25, [I 0, V (.slice none 0 0)]))]⟩) kr ?_)
         intro a w267 χ268 hS hE
         replace hO := hO.mv hE rfl rfl
         replace hD := hD.ev hE rfl
         replace h258 := h258.mv hE rfl
         replace h263 := h263.mv hE rfl
         replace h265 := h265.mv hE rfl
         clear hE
         replace hS := hS.sl ⟨[(2, Pt 3 0), (52, V (.agg #[.int .i64 0, .slice none 0 0])), (53, Sl a107 r106 c108), (54, I i_250), (55, V (.pointer (some A262))), (56, V (.pointer (some A264))), (57, I ((gi r106 i_250).At))], [(3, (25, [I 0, V (.slice none 0 0)]))]⟩
         refine andH (Hold.of hS (bks := []) kr hD) ?_
         intro hH
         refine tk T [7, 8] [] hS hH #[true, true, true, true, true, true, true, true, true] 0 ⟨[(2, Pt 3 0), (3, I ((gi r106 i_250).At)), (4, I 8)], [(3, (25, [I 0, V (.slice none 0 0)]))]⟩ fun a hS => ?_
         refine drawnDone kr ?_
         clear hD hH
         replace hS := hS.sl ⟨[(2, Pt 3 0), (3, I ((gi r106 i_250).At)), (4, I 8)], [(3, (25, [I 0, V (.slice none 0 0)]))]⟩
         refine wret ?_
         exact fin T hS hO (fun c => c) rfl (r := [.agg #[.int .i64 0, .slice none 0 0], .int .i64 ((gi r106 i_250).At), .int .i64 8]) kr (fun χ' hM hC => ⟨((⟨0, []⟩ : Api_Formula), (gi r106 i_250).At, 8), hm, none, 0, rfl, RS.empty _ _ _⟩)
        ·replace hm := hm.2 hb
         refine wskip ?_
         refine rP T hS ⟨[(0, Z s_), (2, Pt 3 0), (5, Sl a107 r106 c108), (6, Pt 7 0), (7, I i_250), (59, B (decide (i_250 ≥ 2)))], [(3, (25, [I 0, V (.slice none 0 0)])), (7, (63, [I x_251, I x_252]))]⟩ fun a hS => ?_
         refine wcond hS (b := decide (i_250 ≥ 2)) kr (fun hb => ?_) (fun hb => ?_)
         ·replace hm := hm.1 hb
          refine regO ?_
          refine oP T hS 2 ⟨[(0, Z s_), (2, Pt 3 0), (5, Sl a107 r106 c108), (6, Pt 7 0), (7, I i_250), (61, Sl a107 r106 c108), (62, I i_250)], [(3, (25, [I 0, V (.slice none 0 0)])), (7, (63, [I x_251, I x_252]))]⟩ fun a hS => ?_
          obtain ⟨hq, hm⟩ := hm
          refine op1 (index (e := 64) (k := .i64) T hS kr kr kr kr h258 kr kr hq.1 hq.2 ?_)
          intro A269 a h270 hS
          clear hq
          refine op1 (fieldA (off := 2) (fsz := 1) (ft := 9) (TF := tStr) (y := (gi r106 i_250).Text) T hS kr kr kr h270 kr kr kr (fun cs h => Ref05_Token_f2 h) ?_)
          intro A271 a h272 hS
          refine op1 (load1 T hS kr kr kr h272 rfl kr ?_)
          intro v273 a hv hS
          cases hv
          refine oP T hS 4 ⟨[(0, Z s_), (2, Pt 3 0), (5, Sl a107 r106 c108), (6, Pt 7 0), (7, I i_250), (65, Z ((gi r106 i_250).Text)), (69, I (IntKind.i64.wrap (100000 + (IntKind.i64.wrap (900000 * (IntKind.i64.wrap (i_250 - 2)))))))], [(3, (25, [I 0, V (.slice none 0 0)])), (7, (63, [I x_251, I x_252]))]⟩ fun a hS => ?_
          obtain ⟨hq, hm⟩ := hm
          refine op1 (call hS kr kr hb25 kr (fun _ _ => rfl) (k25 _ _ ((gi r106 i_250).Text) 0 (IntKind.i64.wrap (100000 + (IntKind.i64.wrap (900000 * (IntKind.i64.wrap (i_250 - 2)))))) hq) ?_)
          intro v274 a w275 χ276 hE hp hS
          clear hq
          replace hO := hO.mv hE rfl rfl
          replace h258 := h258.mv hE rfl
          clear hE
          obtain ⟨r277, hr⟩ : ∃ r, ref05_Number ((gi r106 i_250).Text) 0 (IntKind.i64.wrap (100000 + (IntKind.i64.wrap (900000 * (IntKind.i64.wrap (i_250 - 2)))))) = r := ⟨_, rfl⟩
          replace hm := hm r277 hr
          rw [hr] at hp
          clear hr
          subst hp
          refine eP T hS ⟨[(0, Z s_), (2, Pt 3 0), (5, Sl a107 r106 c108), (6, Pt 7 0), (7, I i_250), (8, I r277.1), (9, I r277.2)], [(3, (25, [I 0, V (.slice none 0 0)])), (7, (63, [I x_251, I x_252]))]⟩ fun a hS => ?_
          refine wseq ?_
          refine rP T hS ⟨[(0, Z s_), (2, Pt 3 0), (5, Sl a107 r106 c108), (6, Pt 7 0), (7, I i_250), (8, I r277.1), (9, I r277.2), (74, B (r277.2 != 0))], [(3, (25, [I 0, V (.slice none 0 0)])), (7, (63, [I x_251, I x_252]))]⟩ fun a hS => ?_
          refine wcond hS (b := (r277.2 != 0)) kr (fun hb => ?_) (fun hb => ?_)
          ·replace hm := hm.1 hb
           replace hS := hS.sl ⟨[(2, Pt 3 0), (5, Sl a107 r106 c108), (7, I i_250), (9, I r277.2)], [(3, (25, [I 0, V (.slice none 0 0)]))]⟩
           refine drawnSX [] mixed hS ?_
           intro w278 χ279 hS hE hD hH
           replace hO := hO.mv hE rfl rfl
           replace h258 := h258.mv hE rfl
           clear hE
           refine tk T [0, 1, 2, 6] [] hS hH #[true, true, true, false, false, false, true, false, false, false] 6 ⟨[(2, Pt 3 0), (75, V (.agg #[.int .i64 0, .slice none 0 0])), (76, Sl a107 r106 c108), (77, I i_250), (81, I r277.2)], [(3, (25, [I 0, V (.slice none 0 0)]))]⟩ fun a hS => ?_
           obtain ⟨hq, hm⟩ := hm
           refine dindex (e := 64) (k := .i64) T 3 hS kr kr kr (by rfl) kr hH kr kr h258 kr kr hq.1 hq.2 ?_
           intro A280 a h281 hS
           clear hq
           have h281b := h281.here
           refine dfieldA (off := 1) (fsz := 1) (ft := 3) (TF := tI) (y := (gi r106 i_250).At) 4 T hS kr kr kr (by rfl) kr hH kr h281 kr kr kr (fun cs h => Ref05_Token_f1 h) ?_
           intro A282 a h283 hbl hS
           have h283b := h281b
           rw [← hbl] at h283b
           clear hbl
           refine dload1 T 5 hS kr kr kr (by rfl) kr hH kr h283 h283b rfl kr ?_
           intro v284 a hv hS
           cases hv
           replace hS := hS.sl ⟨[(2, Pt 3 0), (75, V (.agg #[.int .i64 0, .slice none 0 0])), (76, Sl a107 r106 c108), (77, I i_250), (81, I r277.2), (78, V (.pointer (some A280))), (79, V (.pointer (some A282))), (80, I ((gi r106 i_250).At))], [(3, (25, [I 0, V (.slice none 0 0)]))]⟩
           refine only 7 kr (by rfl) (store1 T hS kr kr (sy' := ⟨[(2, Pt 3 0), (75, V (.agg #[.int .i64 0, .slice none 0 0])), (76, Sl a107 r106 c108), (77, I i_250), (81, I r277.2), (78, V (.pointer (some A280))), (79, V (.pointer (some A282))), (80, I ((gi r106 i_250).At))], [(3, (25, [I 0, V (.slice none 0 0)])), (3, (25, [I 0, V (.slice none 0 0)]))]⟩) kr ?_)
           intro a w285 χ286 hS hE
           replace hO := hO.mv hE rfl rfl
           replace hD := hD.ev hE rfl
           replace h258 := h258.mv hE rfl
           replace h281 := h281.mv hE rfl
           replace h283 := h283.mv hE rfl
           clear hE
           replace hS := hS.sl ⟨[(2, Pt 3 0), (75, V (.agg #[.int .i64 0, .slice none 0 0])), (76, Sl a107 r106 c108), (77, I i_250), (81, I r277.2), (78, V (.pointer (some A280))), (79, V (.pointer (some A282))), (80, I ((gi r106 i_250).At))], [(3, (25, [I 0, V (.slice none 0 0)]))]⟩
           refine andH (Hold.of hS (bks := []) kr hD) ?_
           intro hH
           refine tk T [8, 9] [] hS hH #[true, true, true, true, true, true, true, true, true, true] 0 ⟨[(2, Pt 3 0), (3, I ((gi r106 i_250).At)), (4, I r277.2)], [(3, (25, [I 0, V (.slice none 0 0)]))]⟩ fun a hS => ?_
           refine drawnDone kr ?_
           clear hD hH
           replace hS := hS.sl ⟨[(2, Pt 3 0), (3, I ((gi r106 i_250).At)), (4, I r277.2)], [(3, (25, [I 0, V (.slice none 0 0)]))]⟩
           refine wret ?_
           exact fin T hS hO (fun c => c) rfl (r := [.agg #[.int .i64 0, .slice none 0 0], .int .i64 ((gi r106 i_250).At), .int .i64 r277.2]) kr (fun χ' hM hC => ⟨((⟨0, []⟩ : Api_Formula), (gi r106 i_250).At, r277.2), hm, none, 0, rfl, RS.empty _ _ _⟩)
          ·replace hm := hm.2 hb
           refine wskip ?_
           refine region ?_
           refine oP T hS 3 ⟨[(0, Z s_), (2, Pt 3 0), (5, Sl a107 r106 c108), (6, Pt 7 0), (7, I i_250), (83, I (IntKind.i64.wrap (i_250 - 2))), (84, I r277.1)], [(3, (25, [I 0, V (.slice none 0 0)])), (7, (63, [I x_251, I x_252]))]⟩ fun a hS => ?_
           obtain ⟨hq, hm⟩ := hm
           rcases (by have := hq.1; have := hq.2; omega : (IntKind.i64.wrap (i_250 - 2)) = 0 ∨ (IntKind.i64.wrap (i_250 - 2)) = 1) with hb | hb
           ·replace hS := hS.conv (t := 83) (x := .int .i64 (IntKind.i64.wrap (i_250 - 2))) (y := .int .i64 0) kr (by rw [hb])
            replace hm := hm.1 hb
            clear hq
            refine eM T hS ⟨[(0, Z s_), (2, Pt 3 0), (5, Sl a107 r106 c108), (6, Pt 7 0), (7, I i_250)], [(3, (25, [I 0, V (.slice none 0 0)])), (7, (63, [I r277.1, I x_252]))]⟩ fun ρ a w287 χ288 hS hE hr => ?_
            replace hO := hO.mv hE rfl rfl
            replace h258 := h258.mv hE rfl
            clear hE hr
            exact ⟨ρ, _, r277.1, x_252, hm, hS.sl _, hO, h258⟩
           ·replace hS := hS.conv (t := 83) (x := .int .i64 (IntKind.i64.wrap (i_250 - 2))) (y := .int .i64 1) kr (by rw [hb])
            replace hm := hm.2 hb
            clear hq
            refine eM T hS ⟨[(0, Z s_), (2, Pt 3 0), (5, Sl a107 r106 c108), (6, Pt 7 0), (7, I i_250)], [(3, (25, [I 0, V (.slice none 0 0)])), (7, (63, [I x_251, I r277.1]))]⟩ fun ρ a w289 χ290 hS hE hr => ?_
            replace hO := hO.mv hE rfl rfl
            replace h258 := h258.mv hE rfl
            clear hE hr
            exact ⟨ρ, _, x_251, r277.1, hm, hS.sl _, hO, h258⟩
         ·replace hm := hm.2 hb
          refine wskip ?_
          exact ⟨ρ, _, x_251, x_252, hm, hS.sl _, hO, h258⟩
     ·rintro a w309 ⟨ρ, χ308, x_254, x_255, hm, hS, hO, h253⟩
      unfold VC9_J4 at hm
      refine region (eP T hS ⟨[(0, Z s_), (2, Pt 3 0), (5, Sl a107 r106 c108), (6, Pt 7 0), (7, I (IntKind.i64.wrap (i_250 + 1)))], [(3, (25, [I 0, V (.slice none 0 0)])), (7, (63, [I x_254, I x_255]))]⟩ fun a hS => ?_)
      exact ⟨⟨IntKind.i64.wrap (i_250 + 1), x_254, x_255⟩, ⟨ρ, _, hm.1, hS.sl _, hO, h253⟩, hm.2⟩
    ·replace hm := hm.2 hb
     refine wexit (by rfl) ?_
     exact ⟨ρ, _, x_251, x_252, hm, hS.sl _, hO, h249⟩
  ·rintro a w313 ⟨ρ, χ312, x_111, x_112, hm, hS, hO, h110⟩
   unfold VC9_J1 at hm
   refine rM T hS ⟨[(0, Z s_), (2, Pt 3 0), (5, Sl a107 r106 c108), (6, Pt 7 0), (10, Pt 11 0)], [(3, (25, [I 0, V (.slice none 0 0)])), (7, (63, [I x_111, I x_112])), (11, (25, [I x_111, V (.slice none 0 0)]))]⟩ fun ρ a w247 χ248 hS hE hr => ?_
   replace hO := hO.mv hE rfl rfl
   replace h110 := h110.mv hE rfl
   clear hE hr
   refine rP T hS ⟨[(0, Z s_), (2, Pt 3 0), (5, Sl a107 r106 c108), (6, Pt 7 0), (10, Pt 11 0), (11, V (.slice none 0 0))], [(3, (25, [I 0, V (.slice none 0 0)])), (7, (63, [I x_111, I x_112])), (11, (25, [I x_111, V (.slice none 0 0)]))]⟩ fun a hS => ?_
   refine wcut (fun a w => ∃ (ρ : Nat → Nat) (χ : Nat → Nat) (x_113 : Int) (x_114 : List (List Int)) (a115 : Option Addr) (c116 : Nat), VC9_J2 s_ Q x_112 x_113 x_114 ∧ St Tryd.f9.ntmps ⟨[(0, Z s_), (2, Pt 3 0), (6, Pt 7 0), (10, Pt 11 0)], [(3, (25, [I 0, V (.slice none 0 0)])), (7, (63, [I x_111, I x_112])), (11, (25, [I x_113, Sl a115 x_114 c116]))]⟩ ρ a w χ ∧ Old w0 χ0 w χ ∧ OS (tSlice tI) 49 w χ 1097 a115 x_114 c116) ?_ ?_
   ·refine rP T hS ⟨[(0, Z s_), (2, Pt 3 0), (5, Sl a107 r106 c108), (6, Pt 7 0), (10, Pt 11 0), (11, V (.slice none 0 0)), (12, I 4)], [(3, (25, [I 0, V (.slice none 0 0)])), (7, (63, [I x_111, I x_112])), (11, (25, [I x_111, V (.slice none 0 0)]))]⟩ fun a hS => ?_
    refine wblock ?_
    obtain ⟨I1, μ1, hm0, hm⟩ := hm
    refine wloop (σ := (List Int) × Int × Int × (List (List Int))) (fun s a w => ∃ (ρ : Nat → Nat) (χ : Nat → Nat) (a126 : Option Addr) (c127 : Nat) (a132 : Option Addr) (c133 : Nat), I1 s.1 s.2.1 s.2.2.1 s.2.2.2 ∧ St Tryd.f9.ntmps ⟨[(0, Z s_), (2, Pt 3 0), (5, Sl a107 r106 c108), (6, Pt 7 0), (10, Pt 11 0), (11, Sl a126 s.1 c127), (12, I s.2.1)], [(3, (25, [I 0, V (.slice none 0 0)])), (7, (63, [I x_111, I x_112])), (11, (25, [I s.2.2.1, Sl a132 s.2.2.2 c133]))]⟩ ρ a w χ ∧ Old w0 χ0 w χ ∧ RS tRef05_Token w χ a107 r106 c108 ∧ OS tI 3 w χ 1012 a126 s.1 c127 ∧ OS (tSlice tI) 49 w χ 1097 a132 s.2.2.2 c133) (fun s => μ1 s.1 s.2.1 s.2.2.1 s.2.2.2) (⟨[], 4, x_111, []⟩) ?_ ?_
    ·exact ⟨ρ, _, none, 0, none, 0, hm0, hS.sl _, hO, h110, (OS.nil _ _ _ _ _), (OS.nil _ _ _ _ _)⟩
    ·rintro ⟨c_125, i_129, x_130, x_131⟩ a w244 ⟨ρ, χ243, a126, c127, a132, c133, hI, hS, hO, h124, h128, h134⟩
     replace hm := hm c_125 i_129 x_130 x_131 hI
     clear hI hm0
     refine wseq ?_
     refine rP T hS ⟨[(0, Z s_), (2, Pt 3 0), (5, Sl a107 r106 c108), (6, Pt 7 0), (10, Pt 11 0), (11, Sl a126 c_125 c127), (12, I i_129), (92, B (decide (i_129 < ((r106.length : Nat) : Int))))], [(3, (25, [I 0, V (.slice none 0 0)])), (7, (63, [I x_111, I x_112])), (11, (25, [I x_130, Sl a132 x_131 c133]))]⟩ fun a hS => ?_
     refine wcond hS (b := decide (i_129 < ((r106.length : Nat) : Int))) kr (fun hb => ?_) (fun hb => ?_)
     ·replace hm := hm.1 hb
      refine wskip ?_
      refine wcut (fun a w => ∃ (ρ : Nat → Nat) (χ : Nat → Nat) (c_136 : List Int) (x_140 : List (List Int)) (a137 : Option Addr) (c138 : Nat) (a141 : Option Addr) (c142 : Nat), VC9_J3 I1 μ1 c_125 i_129 x_130 x_131 c_136 x_140 ∧ St Tryd.f9.ntmps ⟨[(0, Z s_), (2, Pt 3 0), (5, Sl a107 r106 c108), (6, Pt 7 0), (10, Pt 11 0), (11, Sl a137 c_136 c138), (12, I i_129)], [(3, (25, [I 0, V (.slice none 0 0)])), (7, (63, [I x_111, I x_112])), (11, (25, [I x_130, Sl a141 x_140 c142]))]⟩ ρ a w χ ∧ Old w0 χ0 w χ ∧ RS tRef05_Token w χ a107 r106 c108 ∧ OS tI 3 w χ 1012 a137 c_136 c138 ∧ OS (tSlice tI) 49 w χ 1097 a141 x_140 c142) ?_ ?_
      ·refine wblock ?_
       refine wseq ?_
       refine rP T hS ⟨[(0, Z s_), (2, Pt 3 0), (5, Sl a107 r106 c108), (6, Pt 7 0), (10, Pt 11 0), (11, Sl a126 c_125 c127), (12, I i_129), (100, B (((x_131.length : Nat) : Int) == x_112))], [(3, (25, [I 0, V (.slice none 0 0)])), (7, (63, [I x_111, I x_112])), (11, (25, [I x_130, Sl a132 x_131 c133]))]⟩ fun a hS => ?_
       refine wcond hS (b := (((x_131.length : Nat) : Int) == x_112)) kr (fun hb => ?_) (fun hb => ?_)
       ·replace hm := hm.1 hb
        replace hS := hS.sl ⟨[(2, Pt 3 0), (5, Sl a107 r106 c108), (12, I i_129)], [(3, (25, [I 0, V (.slice none 0 0)]))]⟩
        refine drawnSX [] mixed hS ?_
        intro w144 χ145 hS hE hD hH
        replace hO := hO.mv hE rfl rfl
        replace h124 := h124.mv hE rfl
        clear hE
        refine tk T [0, 1, 2] [] hS hH #[true, true, true, false, false, false, false, false, false] 6 ⟨[(2, Pt 3 0), (101, V (.agg #[.int .i64 0, .slice none 0 0])), (102, Sl a107 r106 c108), (103, I i_129)], [(3, (25, [I 0, V (.slice none 0 0)]))]⟩ fun a hS => ?_
        obtain ⟨hq, hm⟩ := hm
        refine dindex (e := 64) (k := .i64) T 3 hS kr kr kr (by rfl) kr hH kr kr h124 kr kr hq.1 hq.2 ?_
        intro A146 a h147 hS
        clear hq
        have h147b := h147.here
        refine dfieldA (off := 1) (fsz := 1) (ft := 3) (TF := tI) (y := (gi r106 i_129).At) 4 T hS kr kr kr (by rfl) kr hH kr h147 kr kr kr (fun cs h => Ref05_Token_f1 h) ?_
        intro A148 a h149 hbl hS
        have h149b := h147b
        rw [← hbl] at h149b
        clear hbl
        refine dload1 T 5 hS kr kr kr (by rfl) kr hH kr h149 h149b rfl kr ?_
        intro v150 a hv hS
        cases hv
        replace hS := hS.sl ⟨[(2, Pt 3 0), (101, V (.agg #[.int .i64 0, .slice none 0 0])), (102, Sl a107 r106 c108), (103, I i_129), (104, V (.pointer (some A146))), (105, V (.pointer (some A148))), (106, I ((gi r106 i_129).At))], [(3, (25, [I 0, V (.slice none 0 0)]))]⟩
        refine only 6 kr (by rfl) (store1 T hS kr kr (sy' := ⟨[(2, Pt 3 0), (101, V (.agg #[.int .i64 0, .slice none 0 0])), (102, Sl a107 r106 c108), (103, I i_129), (104, V (.pointer (some A146))), (105, V (.pointer (some A148))), (106, I ((gi r106 i_129).At))], [(3, (25, [I 0, V (.slice none 0 0)])), (3, (25, [I 0, V (.slice none 0 0)]))]⟩) kr ?_)
        intro a w151 χ152 hS hE
        replace hO := hO.mv hE rfl rfl
        replace hD := hD.ev hE rfl
        replace h124 := h124.mv hE rfl
        replace h147 := h147.mv hE rfl
        replace h149 := h149.mv hE rfl
        clear hE
        replace hS := hS.sl ⟨[(2, Pt 3 0), (101, V (.agg #[.int .i64 0, .slice none 0 0])), (102, Sl a107 r106 c108), (103, I i_129), (104, V (.pointer (some A146))), (105, V (.pointer (some A148))), (106, I ((gi r106 i_129).At))], [(3, (25, [I 0, V (.slice none 0 0)]))]⟩
        refine andH (Hold.of hS (bks := []) kr hD) ?_
        intro hH
        refine tk T [7, 8] [] hS hH #[true, true, true, true, true, true, true, true, true] 0 ⟨[(2, Pt 3 0), (3, I ((gi r106 i_129).At)), (4, I 6)], [(3, (25, [I 0, V (.slice none 0 0)]))]⟩ fun a hS => ?_
        refine drawnDone kr ?_
        clear hD hH
        replace hS := hS.sl ⟨[(2, Pt 3 0), (3, I ((gi r106 i_129).At)), (4, I 6)], [(3, (25, [I 0, V (.slice none 0 0)]))]⟩
        refine wret ?_
        exact fin T hS hO (fun c => c) rfl (r := [.agg #[.int .i64 0, .slice none 0 0], .int .i64 ((gi r106 i_129).At), .int .i64 6]) kr (fun χ' hM hC => ⟨((⟨0, []⟩ : Api_Formula), (gi r106 i_129).At, 6), hm, none, 0, rfl, RS.empty _ _ _⟩)
       ·replace hm := hm.2 hb
        refine wskip ?_
        refine drawnSX [3, 7, 11] mixed hS ?_
        intro w153 χ154 hS hE hD hH
        replace hO := hO.mv hE rfl rfl
        replace h124 := h124.mv hE rfl
        replace h128 := h128.mv hE rfl rfl
        replace h134 := h134.mv hE rfl rfl
        clear hE
        refine tk T [0, 1, 5, 8, 6, 9, 7] [3, 7, 11] hS hH #[true, true, false, false, false, true, true, true, true, true, false, false, false, false, false, false] 9 ⟨[(0, Z s_), (2, Pt 3 0), (5, Sl a107 r106 c108), (6, Pt 7 0), (10, Pt 11 0), (11, Sl a126 c_125 c127), (12, I i_129), (108, Sl a107 r106 c108), (109, I i_129), (115, I (IntKind.i64.wrap (0 - x_111))), (117, I x_111)], [(3, (25, [I 0, V (.slice none 0 0)])), (7, (63, [I x_111, I x_112])), (11, (25, [I x_130, Sl a132 x_131 c133]))]⟩ fun a hS => ?_
        obtain ⟨hq, hm⟩ := hm
        refine dindex (e := 64) (k := .i64) T 2 hS kr kr kr (by rfl) kr hH kr kr h124 kr kr hq.1 hq.2 ?_
        intro A155 a h156 hS
        clear hq
        have h156b := h156.here
        refine dfieldA (off := 2) (fsz := 1) (ft := 9) (TF := tStr) (y := (gi r106 i_129).Text) 3 T hS kr kr kr (by rfl) kr hH kr h156 kr kr kr (fun cs h => Ref05_Token_f2 h) ?_
        intro A157 a h158 hbl hS
        have h158b := h156b
        rw [← hbl] at h158b
        clear hbl
        refine dload1 T 4 hS kr kr kr (by rfl) kr hH kr h158 h158b rfl kr ?_
        intro v159 a hv hS
        cases hv
        obtain ⟨hq, hm⟩ := hm
        refine only 10 kr (by rfl) (call hS kr kr hb25 kr (fun _ _ => rfl) (k25 _ _ ((gi r106 i_129).Text) (IntKind.i64.wrap (0 - x_111)) x_111 hq) ?_)
        intro v160 a w161 χ162 hE hp hS
        clear hq
        replace hO := hO.mv hE rfl rfl
        replace hD := hD.ev hE rfl
        replace h124 := h124.mv hE rfl
        replace h128 := h128.mv hE rfl rfl
        replace h134 := h134.mv hE rfl rfl
        replace h156 := h156.mv hE rfl
        replace h158 := h158.mv hE rfl
        clear hE
        obtain ⟨r163, hr⟩ : ∃ r, ref05_Number ((gi r106 i_129).Text) (IntKind.i64.wrap (0 - x_111)) x_111 = r := ⟨_, rfl⟩
        replace hm := hm r163 hr
        rw [hr] at hp
        clear hr
        subst hp
        replace hS := hS.sl ⟨[(0, Z s_), (2, Pt 3 0), (5, Sl a107 r106 c108), (6, Pt 7 0), (10, Pt 11 0), (11, Sl a126 c_125 c127), (12, I i_129), (108, Sl a107 r106 c108), (109, I i_129), (115, I (IntKind.i64.wrap (0 - x_111))), (117, I x_111), (110, V (.pointer (some A155))), (111, V (.pointer (some A157))), (112, Z ((gi r106 i_129).Text)), (118, V (.tuple #[.int .i64 r163.1, .int .i64 r163.2]))], [(3, (25, [I 0, V (.slice none 0 0)])), (7, (63, [I x_111, I x_112])), (11, (25, [I x_130, Sl a132 x_131 c133]))]⟩
        refine andH (Hold.of hS (bks := [3, 7, 11]) kr hD) ?_
        intro hH
        refine tk T [11, 12, 13, 14, 15] [3, 7, 11] hS hH #[true, true, true, true, true, true, true, true, true, true, true, true, true, true, true, true] 0 ⟨[(0, Z s_), (2, Pt 3 0), (5, Sl a107 r106 c108), (6, Pt 7 0), (10, Pt 11 0), (11, Sl a126 c_125 c127), (12, I i_129), (13, I r163.1), (14, I r163.2)], [(3, (25, [I 0, V (.slice none 0 0)])), (7, (63, [I x_111, I x_112])), (11, (25, [I x_130, Sl a132 x_131 c133]))]⟩ fun a hS => ?_
        refine drawnDone kr ?_
        clear hD hH
        replace hS := hS.sl ⟨[(0, Z s_), (2, Pt 3 0), (5, Sl a107 r106 c108), (6, Pt 7 0), (10, Pt 11 0), (11, Sl a126 c_125 c127), (12, I i_129), (13, I r163.1), (14, I r163.2)], [(3, (25, [I 0, V (.slice none 0 0)])), (7, (63, [I x_111, I x_112])), (11, (25, [I x_130, Sl a132 x_131 c133]))]⟩
        refine wseq ?_
        refine rP T hS ⟨[(0, Z s_), (2, Pt 3 0), (5, Sl a107 r106 c108), (6, Pt 7 0), (10, Pt 11 0), (11, Sl a126 c_125 c127), (12, I i_129), (13, I r163.1), (14, I r163.2), (122, B (r163.2 != 0))], [(3, (25, [I 0, V (.slice none 0 0)])), (7, (63, [I x_111, I x_112])), (11, (25, [I x_130, Sl a132 x_131 c133]))]⟩ fun a hS => ?_
        refine wcond hS (b := (r163.2 != 0)) kr (fun hb => ?_) (fun hb => ?_)
        ·replace hm := hm.1 hb
         replace hS := hS.sl ⟨[(2, Pt 3 0), (5, Sl a107 r106 c108), (12, I i_129), (14, I r163.2)], [(3, (25, [I 0, V (.slice none 0 0)]))]⟩
         refine drawnSX [] mixed hS ?_
         intro w164 χ165 hS hE hD hH
         replace hO := hO.mv hE rfl rfl
         replace h124 := h124.mv hE rfl
         clear hE
         refine tk T [0, 1, 2, 6] [] hS hH #[true, true, true, false, false, false, true, false, false, false] 6 ⟨[(2, Pt 3 0), (123, V (.agg #[.int .i64 0, .slice none 0 0])), (124, Sl a107 r106 c108), (125, I i_129), (129, I r163.2)], [(3, (25, [I 0, V (.slice none 0 0)]))]⟩ fun a hS => ?_
         obtain ⟨hq, hm⟩ := hm
         refine dindex (e := 64) (k := .i64) T 3 hS kr kr kr (by rfl) kr hH kr kr h124 kr kr hq.1 hq.2 ?_
         intro A166 a h167 hS
         clear hq
         have h167b := h167.here
         refine dfieldA (off := 1) (fsz := 1) (ft := 3) (TF := tI) (y := (gi r106 i_129).At) 4 T hS kr kr kr (by rfl) kr hH kr h167 kr kr kr (fun cs h => Ref05_Token_f1 h) ?_
         intro A168 a h169 hbl hS
         have h169b := h167b
         rw [← hbl] at h169b
         clear hbl
         refine dload1 T 5 hS kr kr kr (by rfl) kr hH kr h169 h169b rfl kr ?_
         intro v170 a hv hS
         cases hv
         replace hS := hS.sl ⟨[(2, Pt 3 0), (123, V (.agg #[.int .i64 0, .slice none 0 0])), (124, Sl a107 r106 c108), (125, I i_129), (129, I r163.2), (126, V (.pointer (some A166))), (127, V (.pointer (some A168))), (128, I ((gi r106 i_129).At))], [(3, (25, [I 0, V (.slice none 0 0)]))]⟩
         refine only 7 kr (by rfl) (store1 T hS kr kr (sy' := ⟨[(2, Pt 3 0), (123, V (.agg #[.int .i64 0, .slice none 0 0])), (124, Sl a107 r106 c108), (125, I i_129), (129, I r163.2), (126, V (.pointer (some A166))), (127, V (.pointer (some A168))), (128, I ((gi r106 i_129).At))], [(3, (25, [I 0, V (.slice none 0 0)])), (3, (25, [I 0, V (.slice none 0 0)]))]⟩) kr ?_)
         intro a w171 χ172 hS hE
         replace hO := hO.mv hE rfl rfl
         replace hD := hD.ev hE rfl
         replace h124 := h124.mv hE rfl
         replace h167 := h167.mv hE rfl
         replace h169 := h169.mv hE rfl
         clear hE
         replace hS := hS.sl ⟨[(2, Pt 3 0), (123, V (.agg #[.int .i64 0, .slice none 0 0])), (124, Sl a107 r106 c108), (125, I i_129), (129, I r163.2), (126, V (.pointer (some A166))), (127, V (.pointer (some A168))), (128, I ((gi r106 i_129).At))], [(3, (25, [I 0, V (.slice none 0 0)]))]⟩
         refine andH (Hold.of hS (bks := []) kr hD) ?_
         intro hH
         refine tk T [8, 9] [] hS hH #[true, true, true, true, true, true, true, true, true, true] 0 ⟨[(2, Pt 3 0), (3, I ((gi r106 i_129).At)), (4, I r163.2)], [(3, (25, [I 0, V (.slice none 0 0)]))]⟩ fun a hS => ?_
         refine drawnDone kr ?_
         clear hD hH
         replace hS := hS.sl ⟨[(2, Pt 3 0), (3, I ((gi r106 i_129).At)), (4, I r163.2)], [(3, (25, [I 0, V (.slice none 0 0)]))]⟩
         refine wret ?_
         exact fin T hS hO (fun c => c) rfl (r := [.agg #[.int .i64 0, .slice none 0 0], .int .i64 ((gi r106 i_129).At), .int .i64 r163.2]) kr (fun χ' hM hC => ⟨((⟨0, []⟩ : Api_Formula), (gi r106 i_129).At, r163.2), hm, none, 0, rfl, RS.empty _ _ _⟩)
        ·replace hm := hm.2 hb
         refine wskip ?_
         refine wseq ?_
         refine rP T hS ⟨[(0, Z s_), (2, Pt 3 0), (5, Sl a107 r106 c108), (6, Pt 7 0), (10, Pt 11 0), (11, Sl a126 c_125 c127), (12, I i_129), (13, I r163.1), (131, B (r163.1 == 0))], [(3, (25, [I 0, V (.slice none 0 0)])), (7, (63, [I x_111, I x_112])), (11, (25, [I x_130, Sl a132 x_131 c133]))]⟩ fun a hS => ?_
         refine wcond hS (b := (r163.1 == 0)) kr (fun hb => ?_) (fun hb => ?_)
         ·replace hm := hm.1 hb
          refine regO ?_
          refine oP T hS 3 ⟨[(0, Z s_), (2, Pt 3 0), (5, Sl a107 r106 c108), (6, Pt 7 0), (10, Pt 11 0), (12, I i_129), (133, Sl a132 x_131 c133), (134, Sl a126 c_125 c127)], [(3, (25, [I 0, V (.slice none 0 0)])), (7, (63, [I x_111, I x_112])), (11, (25, [I x_130, Sl a132 x_131 c133]))]⟩ fun a hS => ?_
          obtain ⟨χ173, hE, hF⟩ := h128.freeze (by decide)
          replace hS := hS.ev hE (xone_box kr)
          replace hO := hO.mv hE rfl rfl
          replace h124 := h124.mv hE rfl
          replace h134 := h134.mv hE rfl rfl
          have h174 := hF; clear hE hF
          refine op1 (lit (E := 49) (col := 0) (T := (tSlice tI)) (vals := [.slice a126 c_125.length c127]) (ys := [c_125]) T hS kr kr kr kr (by exact ⟨⟨a126, c127, rfl, h174⟩, trivial⟩) rfl kr kr kr kr ?_)
          intro b175 a w176 χ177 hE h178 hN hS
          clear hN
          replace hO := hO.mv hE rfl rfl
          replace h124 := h124.mv hE rfl
          replace h134 := h134.mv hE rfl rfl
          replace h174 := h174.mv hE rfl
          clear hE
          replace h178 := h178.rs0
          obtain ⟨hq, hm⟩ := hm
          obtain ⟨news, hN⟩ := h178.src
          refine op1 (append (E := 49) (T := (tSlice tI)) (col := 1097) (xs := x_131) T hS kr kr kr kr h134 hN kr kr kr kr hq ?_)
          intro a182 c183 a w179 χ180 hE h181 hS
          clear hq hN
          clear h134
          replace hO := hO.mv hE rfl rfl
          replace h124 := h124.mv hE rfl
          replace h174 := h174.mv hE rfl
          replace h178 := h178.mv hE rfl
          clear hE
          refine eM T hS ⟨[(0, Z s_), (2, Pt 3 0), (5, Sl a107 r106 c108), (6, Pt 7 0), (10, Pt 11 0), (12, I i_129)], [(3, (25, [I 0, V (.slice none 0 0)])), (7, (63, [I x_111, I x_112])), (11, (25, [I x_130, Sl a182 (x_131 ++ [c_125]) c183]))]⟩ fun ρ a w184 χ185 hS hE hr => ?_
          replace hO := hO.mv hE rfl rfl
          replace h124 := h124.mv hE rfl
          replace h181 := h181.mv hE rfl rfl
          clear hE hr
          refine rP T hS ⟨[(0, Z s_), (2, Pt 3 0), (5, Sl a107 r106 c108), (6, Pt 7 0), (10, Pt 11 0), (11, V (.slice none 0 0)), (12, I i_129)], [(3, (25, [I 0, V (.slice none 0 0)])), (7, (63, [I x_111, I x_112])), (11, (25, [I x_130, Sl a182 (x_131 ++ [c_125]) c183]))]⟩ fun a hS => ?_
          refine wexit (by rfl) ?_
          exact ⟨ρ, _, [], x_131 ++ [c_125], none, 0, a182, c183, hm, hS.sl _, hO, h124, (OS.nil _ _ _ _ _), h181⟩
         ·replace hm := hm.2 hb
          refine wskip ?_
          refine wseq ?_
          refine rP T hS ⟨[(0, Z s_), (2, Pt 3 0), (5, Sl a107 r106 c108), (6, Pt 7 0), (10, Pt 11 0), (11, Sl a126 c_125 c127), (12, I i_129), (13, I r163.1), (140, B (((c_125.length : Nat) : Int) == 1000))], [(3, (25, [I 0, V (.slice none 0 0)])), (7, (63, [I x_111, I x_112])), (11, (25, [I x_130, Sl a132 x_131 c133]))]⟩ fun a hS => ?_
          refine wcond hS (b := (((c_125.length : Nat) : Int) == 1000)) kr (fun hb => ?_) (fun hb => ?_)
          ·replace hm := hm.1 hb
           replace hS := hS.sl ⟨[(2, Pt 3 0), (5, Sl a107 r106 c108), (12, I i_129)], [(3, (25, [I 0, V (.slice none 0 0)]))]⟩
           refine drawnSX [] mixed hS ?_
           intro w186 χ187 hS hE hD hH
           replace hO := hO.mv hE rfl rfl
           replace h124 := h124.mv hE rfl
           clear hE
           refine tk T [0, 1, 2] [] hS hH #[true, true, true, false, false, false, false, false, false] 6 ⟨[(2, Pt 3 0), (141, V (.agg #[.int .i64 0, .slice none 0 0])), (142, Sl a107 r106 c108), (143, I i_129)], [(3, (25, [I 0, V (.slice none 0 0)]))]⟩ fun a hS => ?_
           obtain ⟨hq, hm⟩ := hm
           refine dindex (e := 64) (k := .i64) T 3 hS kr kr kr (by rfl) kr hH kr kr h124 kr kr hq.1 hq.2 ?_
           intro A188 a h189 hS
           clear hq
           have h189b := h189.here
           refine dfieldA (off := 1) (fsz := 1) (ft := 3) (TF := tI) (y := (gi r106 i_129).At) 4 T hS kr kr kr (by rfl) kr hH kr h189 kr kr kr (fun cs h => Ref05_Token_f1 h) ?_
           intro A190 a h191 hbl hS
           have h191b := h189b
           rw [← hbl] at h191b
           clear hbl
           refine dload1 T 5 hS kr kr kr (by rfl) kr hH kr h191 h191b rfl kr ?_
           intro v192 a hv hS
           cases hv
           replace hS := hS.sl ⟨[(2, Pt 3 0), (141, V (.agg #[.int .i64 0, .slice none 0 0])), (142, Sl a107 r106 c108), (143, I i_129), (144, V (.pointer (some A188))), (145, V (.pointer (some A190))), (146, I ((gi r106 i_129).At))], [(3, (25, [I 0, V (.slice none 0 0)]))]⟩
           refine only 6 kr (by rfl) (store1 T hS kr kr (sy' := ⟨[(2, Pt 3 0), (141, V (.agg #[.int .i64 0, .slice none 0 0])), (142, Sl a107 r106 c108), (143, I i_129), (144, V (.pointer (some A188))), (145, V (.pointer (some A190))), (146, I ((gi r106 i_129).At))], [(3, (25, [I 0, V (.slice none 0 0)])), (3, (25, [I 0, V (.slice none 0 0)]))]⟩) kr ?_)
           intro a w193 χ194 hS hE
           replace hO := hO.mv hE rfl rfl
           replace hD := hD.ev hE rfl
           replace h124 := h124.mv hE rfl
           replace h189 := h189.mv hE rfl
           replace h191 := h191.mv hE rfl
           clear hE
           replace hS := hS.sl ⟨[(2, Pt 3 0), (141, V (.agg #[.int .i64 0, .slice none 0 0])), (142, Sl a107 r106 c108), (143, I i_129), (144, V (.pointer (some A188))), (145, V (.pointer (some A190))), (146, I ((gi r106 i_129).At))], [(3, (25, [I 0, V (.slice none 0 0)]))]⟩
           refine andH (Hold.of hS (bks := []) kr hD) ?_
           intro hH
           refine tk T [7, 8] [] hS hH #[true, true, true, true, true, true, true, true, true] 0 ⟨[(2, Pt 3 0), (3, I ((gi r106 i_129).At)), (4, I 3)], [(3, (25, [I 0, V (.slice none 0 0)]))]⟩ fun a hS => ?_
           refine drawnDone kr ?_
           clear hD hH
           replace hS := hS.sl ⟨[(2, Pt 3 0), (3, I ((gi r106 i_129).At)), (4, I 3)], [(3, (25, [I 0, V (.slice none 0 0)]))]⟩
           refine wret ?_
           exact fin T hS hO (fun c => c) rfl (r := [.agg #[.int .i64 0, .slice none 0 0], .int .i64 ((gi r106 i_129).At), .int .i64 3]) kr (fun χ' hM hC => ⟨((⟨0, []⟩ : Api_Formula), (gi r106 i_129).At, 3), hm, none, 0, rfl, RS.empty _ _ _⟩)
          ·replace hm := hm.2 hb
           refine wskip ?_
           refine wseq ?_
           refine regO ?_
           refine oP T hS 2 ⟨[(0, Z s_), (2, Pt 3 0), (5, Sl a107 r106 c108), (6, Pt 7 0), (10, Pt 11 0), (11, Sl a126 c_125 c127), (12, I i_129), (13, I r163.1), (147, Sl a126 c_125 c127), (148, I r163.1)], [(3, (25, [I 0, V (.slice none 0 0)])), (7, (63, [I x_111, I x_112])), (11, (25, [I x_130, Sl a132 x_131 c133]))]⟩ fun a hS => ?_
           refine op1 (call hS kr kr hb26 kr (fun _ _ => rfl) (Ret.unlend (k26 _ (lend 1012 _) c_125 r163.1 a126 c127 h128.lend)) ?_)
           intro v195 a w196 χ197 hE hp hS
           replace hO := hO.mv hE rfl rfl
           replace h124 := h124.mv hE rfl
           replace h128 := h128.mv hE rfl rfl
           replace h134 := h134.mv hE rfl rfl
           clear hE
           obtain ⟨_, hp⟩ := hp
           obtain ⟨r198, hr⟩ : ∃ r, ref01_Has c_125 r163.1 = r := ⟨_, rfl⟩
           replace hm := hm r198 hr
           rw [hr] at hp
           clear hr
           subst hp
           refine doneK ?_
           refine wcond hS (b := r198) kr (fun hb => ?_) (fun hb => ?_)
           ·replace hm := hm.1 hb
            replace hS := hS.sl ⟨[(2, Pt 3 0), (5, Sl a107 r106 c108), (12, I i_129)], [(3, (25, [I 0, V (.slice none 0 0)]))]⟩
            refine drawnSX [] mixed hS ?_
            intro w199 χ200 hS hE hD hH
            replace hO := hO.mv hE rfl rfl
            replace h124 := h124.mv hE rfl
            clear hE
            refine tk T [0, 1, 2] [] hS hH #[true, true, true, false, false, false, false, false, false] 6 ⟨[(2, Pt 3 0), (150, V (.agg #[.int .i64 0, .slice none 0 0])), (151, Sl a107 r106 c108), (152, I i_129)], [(3, (25, [I 0, V (.slice none 0 0)]))]⟩ fun a hS => ?_
            obtain ⟨hq, hm⟩ := hm
            refine dindex (e := 64) (k := .i64) T 3 hS kr kr kr (by rfl) kr hH kr kr h124 kr kr hq.1 hq.2 ?_
            intro A201 a h202 hS
            clear hq
            have h202b := h202.here
            refine dfieldA (off := 1) (fsz := 1) (ft := 3) (TF := tI) (y := (gi r106 i_129).At) 4 T hS kr kr kr (by rfl) kr hH kr h202 kr kr kr (fun cs h => Ref05_Token_f1 h) ?_
            intro A203 a h204 hbl hS
            have h204b := h202b
            rw [← hbl] at h204b
            clear hbl
            refine dload1 T 5 hS kr kr kr (by rfl) kr hH kr h204 h204b rfl kr ?_
            intro v205 a hv hS
            cases hv
            replace hS := hS.sl ⟨[(2, Pt 3 0), (150, V (.agg #[.int .i64 0, .slice none 0 0])), (151, Sl a107 r106 c108), (152, I i_129), (153, V (.pointer (some A201))), (154, V (.pointer (some A203))), (155, I ((gi r106 i_129).At))], [(3, (25, [I 0, V (.slice none 0 0)]))]⟩
            refine only 6 kr (by rfl) (store1 T hS kr kr (sy' := ⟨[(2, Pt 3 0), (150, V (.agg #[.int .i64 0, .slice none 0 0])), (151, Sl a107 r106 c108), (152, I i_129), (153, V (.pointer (some A201))), (154, V (.pointer (some A203))), (155, I ((gi r106 i_129).At))], [(3, (25, [I 0, V (.slice none 0 0)])), (3, (25, [I 0, V (.slice none 0 0)]))]⟩) kr ?_)
            intro a w206 χ207 hS hE
            replace hO := hO.mv hE rfl rfl
            replace hD := hD.ev hE rfl
            replace h124 := h124.mv hE rfl
            replace h202 := h202.mv hE rfl
            replace h204 := h204.mv hE rfl
            clear hE
            replace hS := hS.sl ⟨[(2, Pt 3 0), (150, V (.agg #[.int .i64 0, .slice none 0 0])), (151, Sl a107 r106 c108), (152, I i_129), (153, V (.pointer (some A201))), (154, V (.pointer (some A203))), (155, I ((gi r106 i_129).At))], [(3, (25, [I 0, V (.slice none 0 0)]))]⟩
            refine andH (Hold.of hS (bks := []) kr hD) ?_
            intro hH
            refine tk T [7, 8] [] hS hH #[true, true, true, true, true, true, true, true, true] 0 ⟨[(2, Pt 3 0), (3, I ((gi r106 i_129).At)), (4, I 21)], [(3, (25, [I 0, V (.slice none 0 0)]))]⟩ fun a hS => ?_
            refine drawnDone kr ?_
            clear hD hH
            replace hS := hS.sl ⟨[(2, Pt 3 0), (3, I ((gi r106 i_129).At)), (4, I 21)], [(3, (25, [I 0, V (.slice none 0 0)]))]⟩
            refine wret ?_
            exact fin T hS hO (fun c => c) rfl (r := [.agg #[.int .i64 0, .slice none 0 0], .int .i64 ((gi r106 i_129).At), .int .i64 21]) kr (fun χ' hM hC => ⟨((⟨0, []⟩ : Api_Formula), (gi r106 i_129).At, 21), hm, none, 0, rfl, RS.empty _ _ _⟩)
           ·replace hm := hm.2 hb
            refine wskip ?_
            refine wseq ?_
            refine regO ?_
            refine oP T hS 3 ⟨[(0, Z s_), (2, Pt 3 0), (5, Sl a107 r106 c108), (6, Pt 7 0), (10, Pt 11 0), (11, Sl a126 c_125 c127), (12, I i_129), (13, I r163.1), (156, Sl a126 c_125 c127), (158, I (IntKind.i64.wrap (0 - r163.1)))], [(3, (25, [I 0, V (.slice none 0 0)])), (7, (63, [I x_111, I x_112])), (11, (25, [I x_130, Sl a132 x_131 c133]))]⟩ fun a hS => ?_
            refine op1 (call hS kr kr hb26 kr (fun _ _ => rfl) (Ret.unlend (k26 _ (lend 1012 _) c_125 (IntKind.i64.wrap (0 - r163.1)) a126 c127 h128.lend)) ?_)
            intro v208 a w209 χ210 hE hp hS
            replace hO := hO.mv hE rfl rfl
            replace h124 := h124.mv hE rfl
            replace h128 := h128.mv hE rfl rfl
            replace h134 := h134.mv hE rfl rfl
            clear hE
            obtain ⟨_, hp⟩ := hp
            obtain ⟨r211, hr⟩ : ∃ r, ref01_Has c_125 (IntKind.i64.wrap (0 - r163.1)) = r := ⟨_, rfl⟩
            replace hm := hm r211 hr
            rw [hr] at hp
            clear hr
            subst hp
            refine doneK ?_
            refine wcond hS (b := r211) kr (fun hb => ?_) (fun hb => ?_)
            ·replace hm := hm.1 hb
             replace hS := hS.sl ⟨[(2, Pt 3 0), (5, Sl a107 r106 c108), (12, I i_129)], [(3, (25, [I 0, V (.slice none 0 0)]))]⟩
             refine drawnSX [] mixed hS ?_
             intro w212 χ213 hS hE hD hH
             replace hO := hO.mv hE rfl rfl
             replace h124 := h124.mv hE rfl
             clear hE
             refine tk T [0, 1, 2] [] hS hH #[true, true, true, false, false, false, false, false, false] 6 ⟨[(2, Pt 3 0), (160, V (.agg #[.int .i64 0, .slice none 0 0])), (161, Sl a107 r106 c108), (162, I i_129)], [(3, (25, [I 0, V (.slice none 0 0)]))]⟩ fun a hS => ?_
             obtain ⟨hq, hm⟩ := hm
             refine dindex (e := 64) (k := .i64) T 3 hS kr kr kr (by rfl) kr hH kr kr h124 kr kr hq.1 hq.2 ?_
             intro A214 a h215 hS
             clear hq
             have h215b := h215.here
             refine dfieldA (off := 1) (fsz := 1) (ft := 3) (TF := tI) (y := (gi r106 i_129).At) 4 T hS kr kr kr (by rfl) kr hH kr h215 kr kr kr (fun cs h => Ref05_Token_f1 h) ?_
             intro A216 a h217 hbl hS
             have h217b := h215b
             rw [← hbl] at h217b
             clear hbl
             refine dload1 T 5 hS kr kr kr (by rfl) kr hH kr h217 h217b rfl kr ?_
             intro v218 a hv hS
             cases hv
             replace hS := hS.sl ⟨[(2, Pt 3 0), (160, V (.agg #[.int .i64 0, .slice none 0 0])), (161, Sl a107 r106 c108), (162, I i_129), (163, V (.pointer (some A214))), (164, V (.pointer (some A216))), (165, I ((gi r106 i_129).At))], [(3, (25, [I 0, V (.slice none 0 0)]))]⟩
             refine only 6 kr (by rfl) (store1 T hS kr kr (sy' := ⟨[(2, Pt 3 0), (160, V (.agg #[.int .i64 0, .slice none 0 0])), (161, Sl a107 r106 c108), (162, I i_129), (163, V (.pointer (some A214))), (164, V (.pointer (some A216))), (165, I ((gi r106 i_129).At))], [(3, (25, [I 0, V (.slice none 0 0)])), (3, (25, [I 0, V (.slice none 0 0)]))]⟩) kr ?_)
             intro a w219 χ220 hS hE
             replace hO := hO.mv hE rfl rfl
             replace hD := hD.ev hE rfl
             replace h124 := h124.mv hE rfl
             replace h215 := h215.mv hE rfl
             replace h217 := h217.mv hE rfl
             clear hE
             replace hS := hS.sl ⟨[(2, Pt 3 0), (160, V (.agg #[.int .i64 0, .slice none 0 0])), (161, Sl a107 r106 c108), (162, I i_129), (163, V (.pointer (some A214))), (164, V (.pointer (some A216))), (165, I ((gi r106 i_129).At))], [(3, (25, [I 0, V (.slice none 0 0)]))]⟩
             refine andH (Hold.of hS (bks := []) kr hD) ?_
             intro hH
             refine tk T [7, 8] [] hS hH #[true, true, true, true, true, true, true, true, true] 0 ⟨[(2, Pt 3 0), (3, I ((gi r106 i_129).At)), (4, I 11)], [(3, (25, [I 0, V (.slice none 0 0)]))]⟩ fun a hS => ?_
             refine drawnDone kr ?_
             clear hD hH
             replace hS := hS.sl ⟨[(2, Pt 3 0), (3, I ((gi r106 i_129).At)), (4, I 11)], [(3, (25, [I 0, V (.slice none 0 0)]))]⟩
             refine wret ?_
             exact fin T hS hO (fun c => c) rfl (r := [.agg #[.int .i64 0, .slice none 0 0], .int .i64 ((gi r106 i_129).At), .int .i64 11]) kr (fun χ' hM hC => ⟨((⟨0, []⟩ : Api_Formula), (gi r106 i_129).At, 11), hm, none, 0, rfl, RS.empty _ _ _⟩)
            ·replace hm := hm.2 hb
             refine wskip ?_
             refine region ?_
             obtain ⟨χ221, hE, hF⟩ := h128.freeze (by decide)
             replace hS := hS.ev hE (xone_box kr)
             replace hO := hO.mv hE rfl rfl
             replace h124 := h124.mv hE rfl
             replace h134 := h134.mv hE rfl rfl
             have h222 := hF; clear hE hF
             refine op1 (lit (E := 3) (col := 1012) (T := tI) (vals := []) (ys := ([] : List Int)) T hS kr kr kr kr trivial rfl kr kr kr kr ?_)
             intro b223 a w224 χ225 hE h226 hN hS
             clear hN
             replace hO := hO.mv hE rfl rfl
             replace h124 := h124.mv hE rfl
             replace h134 := h134.mv hE rfl rfl
             replace h222 := h222.mv hE rfl
             clear hE
             refine oP T hS 1 ⟨[(0, Z s_), (2, Pt 3 0), (5, Sl a107 r106 c108), (6, Pt 7 0), (10, Pt 11 0), (11, Sl a126 c_125 c127), (12, I i_129), (13, I r163.1), (166, Sl (some ⟨b223, 0, none⟩) ([] : List Int) 0), (167, Sl a126 c_125 c127)], [(3, (25, [I 0, V (.slice none 0 0)])), (7, (63, [I x_111, I x_112])), (11, (25, [I x_130, Sl a132 x_131 c133]))]⟩ fun a hS => ?_
             obtain ⟨hq, hm⟩ := hm
             obtain ⟨news, hN⟩ := h222.src
             refine op1 (append (E := 3) (T := tI) (col := 1012) (xs := ([] : List Int)) T hS kr kr kr kr h226 hN kr kr kr kr hq ?_)
             intro a230 c231 a w227 χ228 hE h229 hS
             clear hq hN
             clear h226
             replace hO := hO.mv hE rfl rfl
             replace h124 := h124.mv hE rfl
             replace h134 := h134.mv hE rfl rfl
             replace h222 := h222.mv hE rfl
             clear hE
             refine oP T hS 1 ⟨[(0, Z s_), (2, Pt 3 0), (5, Sl a107 r106 c108), (6, Pt 7 0), (10, Pt 11 0), (11, Sl a126 c_125 c127), (12, I i_129), (168, Sl a230 (([] : List Int) ++ c_125) c231), (169, I r163.1)], [(3, (25, [I 0, V (.slice none 0 0)])), (7, (63, [I x_111, I x_112])), (11, (25, [I x_130, Sl a132 x_131 c133]))]⟩ fun a hS => ?_
             refine op1 (lit (E := 3) (col := 0) (T := tI) (vals := [.int .i64 r163.1]) (ys := [r163.1]) T hS kr kr kr kr (by exact ⟨rfl, trivial⟩) rfl kr kr kr kr ?_)
             intro b232 a w233 χ234 hE h235 hN hS
             clear hN
             replace hO := hO.mv hE rfl rfl
             replace h124 := h124.mv hE rfl
             replace h134 := h134.mv hE rfl rfl
             replace h222 := h222.mv hE rfl
             replace h229 := h229.mv hE rfl rfl
             clear hE
             replace h235 := h235.rs0
             obtain ⟨hq, hm⟩ := hm
             obtain ⟨news, hN⟩ := h235.src
             refine op1 (append (E := 3) (T := tI) (col := 1012) (xs := ([] : List Int) ++ c_125) T hS kr kr kr kr h229 hN kr kr kr kr hq ?_)
             intro a239 c240 a w236 χ237 hE h238 hS
             clear hq hN
             clear h229
             replace hO := hO.mv hE rfl rfl
             replace h124 := h124.mv hE rfl
             replace h134 := h134.mv hE rfl rfl
             replace h222 := h222.mv hE rfl
             replace h235 := h235.mv hE rfl
             clear hE
             refine eP T hS ⟨[(0, Z s_), (2, Pt 3 0), (5, Sl a107 r106 c108), (6, Pt 7 0), (10, Pt 11 0), (11, Sl a239 ((([] : List Int) ++ c_125) ++ [r163.1]) c240), (12, I i_129)], [(3, (25, [I 0, V (.slice none 0 0)])), (7, (63, [I x_111, I x_112])), (11, (25, [I x_130, Sl a132 x_131 c133]))]⟩ fun a hS => ?_
             exact ⟨ρ, _, (([] : List Int) ++ c_125) ++ [r163.1], x_131, a239, c240, a132, c133, hm, hS.sl _, hO, h124, h238, h134⟩
      ·rintro a w242 ⟨ρ, χ241, c_136, x_140, a137, c138, a141, c142, hm, hS, hO, h135, h139, h143⟩
       unfold VC9_J3 at hm
       refine region (eP T hS ⟨[(0, Z s_), (2, Pt 3 0), (5, Sl a107 r106 c108), (6, Pt 7 0), (10, Pt 11 0), (11, Sl a137 c_136 c138), (12, I (IntKind.i64.wrap (i_129 + 1)))], [(3, (25, [I 0, V (.slice none 0 0)])), (7, (63, [I x_111, I x_112])), (11, (25, [I x_130, Sl a141 x_140 c142]))]⟩ fun a hS => ?_)
       exact ⟨⟨c_136, IntKind.i64.wrap (i_129 + 1), x_130, x_140⟩, ⟨ρ, _, a137, c138, a141, c142, hm.1, hS.sl _, hO, h135, h139, h143⟩, hm.2⟩
     ·replace hm := hm.2 hb
      refine wexit (by rfl) ?_
      exact ⟨ρ, _, x_130, x_131, a132, c133, hm, hS.sl _, hO, h134⟩
   ·rintro a w246 ⟨ρ, χ245, x_113, x_114, a115, c116, hm, hS, hO, h117⟩
    unfold VC9_J2 at hm
    refine wseq ?_
    refine rP T hS ⟨[(0, Z s_), (2, Pt 3 0), (10, Pt 11 0), (177, B (decide (((x_114.length : Nat) : Int) < x_112)))], [(3, (25, [I 0, V (.slice none 0 0)])), (11, (25, [I x_113, Sl a115 x_114 c116]))]⟩ fun a hS => ?_
    refine wcond hS (b := decide (((x_114.length : Nat) : Int) < x_112)) kr (fun hb => ?_) (fun hb => ?_)
    ·replace hm := hm.1 hb
     refine rM T hS ⟨[(2, Pt 3 0), (3, I ((s_.length : Nat) : Int)), (4, I 4)], [(3, (25, [I 0, V (.slice none 0 0)]))]⟩ fun ρ a w118 χ119 hS hE hr => ?_
     replace hO := hO.mv hE rfl rfl
     clear hE hr
     refine wret ?_
     exact fin T hS hO (fun c => c) rfl (r := [.agg #[.int .i64 0, .slice none 0 0], .int .i64 ((s_.length : Nat) : Int), .int .i64 4]) kr (fun χ' hM hC => ⟨((⟨0, []⟩ : Api_Formula), ((s_.length : Nat) : Int), 4), hm, none, 0, rfl, RS.empty _ _ _⟩)
    ·replace hm := hm.2 hb
     refine wskip ?_
     refine rM T hS ⟨[(2, Pt 3 0), (3, I ((s_.length : Nat) : Int)), (4, I 0)], [(3, (25, [I x_113, Sl a115 x_114 c116]))]⟩ fun ρ a w122 χ123 hS hE hr => ?_
     replace hO := hO.mv hE rfl rfl
     replace h117 := h117.mv hE rfl rfl
     clear hE hr
     refine wret ?_
     obtain ⟨χ120, hE, hF⟩ := h117.freeze (by decide)
     replace hS := hS.ev hE (xone_box kr)
     replace hO := hO.mv hE rfl rfl
     have h121 := hF; clear hE hF
     exact fin T hS hO (fun c => c) rfl (r := [.agg #[.int .i64 x_113, .slice a115 x_114.length c116], .int .i64 ((s_.length : Nat) : Int), .int .i64 0]) kr (fun χ' hM hC => ⟨((⟨x_113, x_114⟩ : Api_Formula), ((s_.length : Nat) : Int), 0), hm, a115, c116, rfl, h121.m0 hM⟩)
theorem C9 (k24 : S24) (k25 : S25) (k26 : S26) (v : ∀ (s_ : List UInt8), VC9 s_ (fun r => r = ref06_Parse s_)) : S9 := by
 intro w χ s_    
 refine (W9 k24 k25 k26 w χ s_    _ (v s_)).mono ?_
 rintro _ _ _ _ ⟨r, rfl, h⟩
 exact h
/-- replevin/replevinlaw06.DimacsReads -/
theorem W3 (k10 : S10) (k7 : S7) (k8 : S8) (k9 : S9) (w0 : World) (χ0 : Nat → Nat) (s_ : List UInt8) (Q : Bool → Prop) (hm : VC3 s_ Q) (hAmb : Amb w0 χ0) :
  Ret Tryd.prog 3 #[.string (bs s_)] xnone w0 χ0 (fun w χ' v => ∃ r, Q r ∧ v = .bool r) := by
 unfold VC3 at hm
 refine enter Tryd.func3 rfl (vals := [.string (bs s_)]) kr ?_
 intro ρ a hS hO hM
 replace hAmb := hAmb.m0 hM
 clear hM
 refine rP T hS ⟨[(0, Z s_)], []⟩ fun a hS => ?_
 refine wseq ?_
 refine rP T hS ⟨[(0, Z s_), (11, B (decide (((s_.length : Nat) : Int) > 3000)))], []⟩ fun a hS => ?_
 refine wcond hS (b := decide (((s_.length : Nat) : Int) > 3000)) kr (fun hb => ?_) (fun hb => ?_)
 ·replace hm := hm.1 hb
  refine regO ?_
  refine op1 (call hS kr kr hb7 kr (fun _ _ => rfl) (k7 _ _ hAmb) ?_)
  intro v101 a w102 χ103 hE hp hS
  replace hO := hO.mv hE rfl rfl
  replace hAmb := hAmb.mv hE rfl
  clear hE
  obtain ⟨r104, hr⟩ : ∃ r, law06_awake = r := ⟨_, rfl⟩
  replace hm := hm r104 hr
  rw [hr] at hp
  clear hr
  subst hp
  refine eP T hS ⟨[(2, B r104)], []⟩ fun a hS => ?_
  refine wret ?_
  exact fin T hS hO (fun c => c) rfl (r := [.bool r104]) kr (fun χ' hM hC => ⟨r104, hm, rfl⟩)
 ·replace hm := hm.2 hb
  refine wskip ?_
  refine regO ?_
  refine oP T hS 1 ⟨[(0, Z s_), (14, Z s_)], []⟩ fun a hS => ?_
  refine op1 (call hS kr kr hb8 kr (fun _ _ => rfl) (k8 _ _ s_) ?_)
  intro v105 a w106 χ107 hE hp hS
  replace hO := hO.mv hE rfl rfl
  replace hAmb := hAmb.mv hE rfl
  clear hE
  obtain ⟨a109, c110, hp, h111⟩ := hp
  obtain ⟨r108, hr⟩ : ∃ r, dimacs_Parse s_ = r := ⟨_, rfl⟩
  replace hm := hm r108 hr
  rw [hr] at hp h111
  clear hr
  subst hp
  replace hm := hm (h111.sm kr)
  refine eM T hS ⟨[(0, Z s_), (3, Pt 4 0), (4, I r108.2.1), (5, I r108.2.2)], [(4, (25, [I r108.1.Vars, Sl a109 r108.1.Clauses c110]))]⟩ fun ρ a w129 χ130 hS hE hr => ?_
  replace hO := hO.mv hE rfl rfl
  replace hAmb := hAmb.mv hE rfl
  replace h111 := h111.mv hE rfl
  clear hE hr
  refine regO ?_
  refine oP T hS 1 ⟨[(3, Pt 4 0), (4, I r108.2.1), (5, I r108.2.2), (20, Z s_)], [(4, (25, [I r108.1.Vars, Sl a109 r108.1.Clauses c110]))]⟩ fun a hS => ?_
  refine op1 (call hS kr kr hb9 kr (fun _ _ => rfl) (k9 _ _ s_) ?_)
  intro v112 a w113 χ114 hE hp hS
  replace hO := hO.mv hE rfl rfl
  replace hAmb := hAmb.mv hE rfl
  replace h111 := h111.mv hE rfl
  clear hE
  obtain ⟨a116, c117, hp, h118⟩ := hp
  obtain ⟨r115, hr⟩ : ∃ r, ref06_Parse s_ = r := ⟨_, rfl⟩
  replace hm := hm r115 hr
  rw [hr] at hp h118
  clear hr
  subst hp
  replace hm := hm (h118.sm kr)
  refine eM T hS ⟨[(3, Pt 4 0), (4, I r108.2.1), (5, I r108.2.2), (6, Pt 7 0), (7, I r115.2.1), (8, I r115.2.2)], [(4, (25, [I r108.1.Vars, Sl a109 r108.1.Clauses c110])), (7, (25, [I r115.1.Vars, Sl a116 r115.1.Clauses c117]))]⟩ fun ρ a w127 χ128 hS hE hr => ?_
  replace hO := hO.mv hE rfl rfl
  replace hAmb := hAmb.mv hE rfl
  replace h111 := h111.mv hE rfl
  replace h118 := h118.mv hE rfl
  clear hE hr
  refine regO ?_
  refine oP T hS 2 ⟨[(4, I r108.2.1), (5, I r108.2.2), (7, I r115.2.1), (8, I r115.2.2), (25, V (.agg #[.int .i64 r108.1.Vars, .slice a109 r108.1.Clauses.length c110])), (26, V (.agg #[.int .i64 r115.1.Vars, .slice a116 r115.1.Clauses.length c117]))], []⟩ fun a hS => ?_
  refine op1 (call hS kr kr hb10 kr (fun _ _ => rfl) (k10 _ _ r108.1 r115.1 a109 c110 a116 c117 h111 h118) ?_)
  intro v119 a w120 χ121 hE hp hS
  replace hO := hO.mv hE rfl rfl
  replace hAmb := hAmb.mv hE rfl
  replace h111 := h111.mv hE rfl
  replace h118 := h118.mv hE rfl
  clear hE
  obtain ⟨r122, hr⟩ : ∃ r, ref04_Same r108.1 r115.1 = r := ⟨_, rfl⟩
  replace hm := hm r122 hr
  rw [hr] at hp
  clear hr
  subst hp
  refine oP T hS 11 ⟨[(38, B ((r122 && (r108.2.1 == r115.2.1)) && (r108.2.2 == r115.2.2)))], []⟩ (sp := [28, 33]) fun a hS => ?_
  rcases Bool.eq_false_or_eq_true ((r122 && (r108.2.1 == r115.2.1)) && (r108.2.2 == r115.2.2)) with hb | hb
  ·replace hS := hS.lit (t := 38) kr hb
   replace hm := hm.1 hb
   refine op1 (call hS kr kr hb7 kr (fun _ _ => rfl) (k7 _ _ hAmb) ?_)
   intro v123 a w124 χ125 hE hp hS
   replace hO := hO.mv hE rfl rfl
   replace hAmb := hAmb.mv hE rfl
   clear hE
   obtain ⟨r126, hr⟩ : ∃ r, law06_awake = r := ⟨_, rfl⟩
   replace hm := hm r126 hr
   rw [hr] at hp
   clear hr
   subst hp
   refine eP T hS ⟨[(2, B r126)], []⟩ fun a hS => ?_
   refine wret ?_
   exact fin T hS hO (fun c => c) rfl (r := [.bool r126]) kr (fun χ' hM hC => ⟨r126, hm, rfl⟩)
  ·replace hS := hS.lit (t := 38) kr hb
   replace hm := hm.2 hb
   refine eP T hS ⟨[(2, B false)], []⟩ fun a hS => ?_
   refine wret ?_
   exact fin T hS hO (fun c => c) rfl (r := [.bool false]) kr (fun χ' hM hC => ⟨false, hm, rfl⟩)
end Go.Proofs.YtancoeikfkebfaaDoor
