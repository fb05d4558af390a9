/- Walks: each function returns what its condition asks. Condition: the contracts of its callees, handed in. -/
import Derived.Test.YtomodhnocjmfpaaQWalksS
set_option linter.all false
namespace Go.Proofs.Ytomodhnocjmfpaa
open Go Go.Sv
set_option maxHeartbeats 1000000
/-- replevin/oper.Free -/
theorem W31 (k48 : S48) (k49 : S49) (w0 : World) (χ0 : Nat → Nat) (l_ : List Api_Oper) (done : List Bool) (a1 : Option Addr) (c1 : Nat) (a2 : Option Addr) (c2 : Nat) (Q : (List Int) → Prop) (hm : VC31 l_ done Q) (h1 : RS tApi_Oper w0 χ0 a1 l_ c1) (h2 : RS tBool w0 χ0 a2 done c2) :
  Ret Try.prog 31 #[.slice a1 l_.length c1, .slice a2 done.length c2] xnone w0 χ0 (fun w χ' v => ∃ r, Q r ∧ ∃ (ra1 : Option Addr) (rc1 : Nat), v = .slice ra1 r.length rc1 ∧ RS tI w χ' ra1 r rc1) := by
 unfold VC31 at hm
 replace hm := hm (h1.sm kr)
 replace hm := hm (h2.sm kr)
 refine enter Try.func31 rfl (vals := [.slice a1 l_.length c1, .slice a2 done.length c2]) kr ?_
 intro ρ a hS hO hM
 replace h1 := h1.m0 hM
 replace h2 := h2.m0 hM
 clear hM
 refine rM T hS ⟨[(0, Sl a1 l_ c1), (3, Pt 4 0)], [(4, (68, [Sl a2 done c2]))]⟩ fun ρ a w194 χ195 hS hE hr => ?_
 replace hO := hO.mv hE rfl rfl
 replace h1 := h1.mv hE rfl
 replace h2 := h2.mv hE rfl
 clear hE hr
 refine rP T hS ⟨[(0, Sl a1 l_ c1), (5, .f (.func 48) [] [.p 4 0])], [(4, (68, [Sl a2 done c2]))]⟩ fun a hS => ?_
 refine rP T hS ⟨[(0, Sl a1 l_ c1), (5, .f (.func 48) [] [.p 4 0]), (6, V (.slice none 0 0))], [(4, (68, [Sl a2 done c2]))]⟩ fun a hS => ?_
 refine wcut (fun a w => ∃ (ρ : Nat → Nat) (χ : Nat → Nat) (out_101 : List Int) (a102 : Option Addr) (c103 : Nat), VC31_J1 Q out_101 ∧ St Try.f31.ntmps ⟨[(6, Sl a102 out_101 c103)], []⟩ ρ a w χ ∧ Old w0 χ0 w χ ∧ OS tI 3 w χ 1005 a102 out_101 c103) ?_ ?_
 ·refine rP T hS ⟨[(0, Sl a1 l_ c1), (5, .f (.func 48) [] [.p 4 0]), (6, V (.slice none 0 0)), (13, Sl a1 l_ c1), (14, I ((l_.length : Nat) : Int)), (15, I 0)], [(4, (68, [Sl a2 done c2]))]⟩ fun a hS => ?_
  refine wblock ?_
  obtain ⟨I1, μ1, hm0, hm⟩ := hm
  refine wloop (σ := (List Int) × Int) (fun s a w => ∃ (ρ : Nat → Nat) (χ : Nat → Nat) (a109 : Option Addr) (c110 : Nat), I1 s.1 s.2 ∧ St Try.f31.ntmps ⟨[(0, Sl a1 l_ c1), (5, .f (.func 48) [] [.p 4 0]), (6, Sl a109 s.1 c110), (13, Sl a1 l_ c1), (14, I ((l_.length : Nat) : Int)), (15, I s.2)], [(4, (68, [Sl a2 done c2]))]⟩ ρ a w χ ∧ Old w0 χ0 w χ ∧ RS tApi_Oper w χ a1 l_ c1 ∧ OS tI 3 w χ 1005 a109 s.1 c110 ∧ RS tApi_Oper w χ a1 l_ c1 ∧ RS tBool w χ a2 done c2) (fun s => μ1 s.1 s.2) (⟨[], 0⟩) ?_ ?_
  ·exact ⟨ρ, _, none, 0, hm0, hS.sl _, hO, h1, (OS.nil _ _ _ _ _), h1, h2⟩
  ·rintro ⟨out_108, x_113⟩ a w191 ⟨ρ, χ190, a109, c110, hI, hS, hO, h107, h111, h112, h114⟩
   replace hm := hm out_108 x_113 hI
   clear hI hm0
   refine rP T hS ⟨[(0, Sl a1 l_ c1), (5, .f (.func 48) [] [.p 4 0]), (6, Sl a109 out_108 c110), (13, Sl a1 l_ c1), (14, I ((l_.length : Nat) : Int)), (15, I x_113), (16, B (decide (x_113 < ((l_.length : Nat) : Int))))], [(4, (68, [Sl a2 done c2]))]⟩ fun a hS => ?_
   refine wseq ?_
   refine wcond hS (b := decide (x_113 < ((l_.length : Nat) : Int))) kr (fun hb => ?_) (fun hb => ?_)
   ·replace hm := hm.1 hb
    refine wskip ?_
    refine wcut (fun a w => ∃ (ρ : Nat → Nat) (χ : Nat → Nat) (out_116 : List Int) (a117 : Option Addr) (c118 : Nat), VC31_J2 I1 μ1 out_108 x_113 out_116 ∧ St Try.f31.ntmps ⟨[(0, Sl a1 l_ c1), (5, .f (.func 48) [] [.p 4 0]), (6, Sl a117 out_116 c118), (13, Sl a1 l_ c1), (14, I ((l_.length : Nat) : Int)), (15, I x_113)], [(4, (68, [Sl a2 done c2]))]⟩ ρ a w χ ∧ Old w0 χ0 w χ ∧ RS tApi_Oper w χ a1 l_ c1 ∧ OS tI 3 w χ 1005 a117 out_116 c118 ∧ RS tApi_Oper w χ a1 l_ c1 ∧ RS tBool w χ a2 done c2) ?_ ?_
    ·refine wblock ?_
     refine regO ?_
     refine oP T hS 1 ⟨[(0, Sl a1 l_ c1), (5, .f (.func 48) [] [.p 4 0]), (6, Sl a109 out_108 c110), (13, Sl a1 l_ c1), (14, I ((l_.length : Nat) : Int)), (15, I x_113), (17, I x_113)], [(4, (68, [Sl a2 done c2]))]⟩ fun a hS => ?_
     obtain ⟨hq, hm⟩ := hm
     refine op1 (index (e := 45) (k := .i64) T hS kr kr kr kr h112 kr kr hq.1 hq.2 ?_)
     intro A122 a h123 hS
     clear hq
     refine op1 (loadA T hS kr kr kr h123 kr kr ?_)
     intro v124 a hv hS
     subst hv
     refine eM T hS ⟨[(0, Sl a1 l_ c1), (5, .f (.func 48) [] [.p 4 0]), (6, Sl a109 out_108 c110), (7, I x_113), (8, Pt 9 0), (13, Sl a1 l_ c1), (14, I ((l_.length : Nat) : Int)), (15, I x_113)], [(4, (68, [Sl a2 done c2])), (9, (45, [I ((gi l_ x_113).Prc), I ((gi l_ x_113).Kind), I ((gi l_ x_113).Start), I ((gi l_ x_113).End), I ((gi l_ x_113).Result)]))]⟩ fun ρ a w186 χ187 hS hE hr => ?_
     replace hO := hO.mv hE rfl rfl
     replace h107 := h107.mv hE rfl
     replace h111 := h111.mv hE rfl rfl
     replace h112 := h112.mv hE rfl
     replace h114 := h114.mv hE rfl
     clear hE hr
     refine regO ?_
     refine oP T hS 2 ⟨[(0, Sl a1 l_ c1), (5, .f (.func 48) [] [.p 4 0]), (6, Sl a109 out_108 c110), (7, I x_113), (8, Pt 9 0), (13, Sl a1 l_ c1), (14, I ((l_.length : Nat) : Int)), (15, I x_113), (20, .f (.func 48) [] [.p 4 0]), (21, I x_113)], [(4, (68, [Sl a2 done c2])), (9, (45, [I ((gi l_ x_113).Prc), I ((gi l_ x_113).Kind), I ((gi l_ x_113).Start), I ((gi l_ x_113).End), I ((gi l_ x_113).Result)]))]⟩ fun a hS => ?_
     obtain ⟨hq, hm⟩ := hm
     refine op1 (callCR (fi := []) (cp := [.p 4 0]) hS kr kr hb48 kr kr (k48 _ _ x_113 done a2 c2 (ρ 4) 4 hq h114 (hS.cell (id := 4) (t := 68) (cs := [Sl a2 done c2]) kr) ⟨by decide, by decide⟩) ?_)
     intro v125 a w126 χ127 hE hp hS
     clear hq
     replace hO := hO.mv hE rfl rfl
     replace h107 := h107.mv hE rfl
     replace h111 := h111.mv hE rfl rfl
     replace h112 := h112.mv hE rfl
     replace h114 := h114.mv hE rfl
     clear hE
     obtain ⟨hp, hc129⟩ := hp
     obtain ⟨r128, hr⟩ : ∃ r, oper_Free_1 x_113 done = r := ⟨_, rfl⟩
     replace hm := hm r128 hr
     rw [hr] at hp
     clear hr
     subst hp
     replace hS := hS.addbox (id := 4) (t := 68) (cs := [Sl a2 done c2]) kr hc129
     clear hc129
     refine eP T hS ⟨[(0, Sl a1 l_ c1), (5, .f (.func 48) [] [.p 4 0]), (6, Sl a109 out_108 c110), (7, I x_113), (8, Pt 9 0), (9, B (!r128)), (13, Sl a1 l_ c1), (14, I ((l_.length : Nat) : Int)), (15, I x_113)], [(4, (68, [Sl a2 done c2])), (9, (45, [I ((gi l_ x_113).Prc), I ((gi l_ x_113).Kind), I ((gi l_ x_113).Start), I ((gi l_ x_113).End), I ((gi l_ x_113).Result)]))]⟩ fun a hS => ?_
     refine wcut (fun a w => ∃ (ρ : Nat → Nat) (χ : Nat → Nat) (out_131 : List Int) (free_135 : Bool) (a132 : Option Addr) (c133 : Nat), VC31_J3 I1 μ1 out_108 x_113 out_131 free_135 ∧ St Try.f31.ntmps ⟨[(0, Sl a1 l_ c1), (5, .f (.func 48) [] [.p 4 0]), (6, Sl a132 out_131 c133), (7, I x_113), (9, B free_135), (13, Sl a1 l_ c1), (14, I ((l_.length : Nat) : Int)), (15, I x_113)], [(4, (68, [Sl a2 done c2]))]⟩ ρ a w χ ∧ Old w0 χ0 w χ ∧ RS tApi_Oper w χ a1 l_ c1 ∧ OS tI 3 w χ 1005 a132 out_131 c133 ∧ RS tApi_Oper w χ a1 l_ c1 ∧ RS tBool w χ a2 done c2) ?_ ?_
     ·refine rP T hS ⟨[(0, Sl a1 l_ c1), (5, .f (.func 48) [] [.p 4 0]), (6, Sl a109 out_108 c110), (7, I x_113), (8, Pt 9 0), (9, B (!r128)), (13, Sl a1 l_ c1), (14, I ((l_.length : Nat) : Int)), (15, I x_113), (24, Sl a1 l_ c1), (25, I ((l_.length : Nat) : Int)), (26, I 0)], [(4, (68, [Sl a2 done c2])), (9, (45, [I ((gi l_ x_113).Prc), I ((gi l_ x_113).Kind), I ((gi l_ x_113).Start), I ((gi l_ x_113).End), I ((gi l_ x_113).Result)]))]⟩ fun a hS => ?_
      refine wblock ?_
      obtain ⟨I2, μ2, hm0, hm⟩ := hm
      refine wloop (σ := (List Int) × Bool × Int) (fun s a w => ∃ (ρ : Nat → Nat) (χ : Nat → Nat) (a149 : Option Addr) (c150 : Nat), I2 s.1 s.2.1 s.2.2 ∧ St Try.f31.ntmps ⟨[(0, Sl a1 l_ c1), (5, .f (.func 48) [] [.p 4 0]), (6, Sl a149 s.1 c150), (7, I x_113), (8, Pt 9 0), (9, B s.2.1), (13, Sl a1 l_ c1), (14, I ((l_.length : Nat) : Int)), (15, I x_113), (24, Sl a1 l_ c1), (25, I ((l_.length : Nat) : Int)), (26, I s.2.2)], [(4, (68, [Sl a2 done c2])), (9, (45, [I ((gi l_ x_113).Prc), I ((gi l_ x_113).Kind), I ((gi l_ x_113).Start), I ((gi l_ x_113).End), I ((gi l_ x_113).Result)]))]⟩ ρ a w χ ∧ Old w0 χ0 w χ ∧ RS tApi_Oper w χ a1 l_ c1 ∧ OS tI 3 w χ 1005 a149 s.1 c150 ∧ RS tApi_Oper w χ a1 l_ c1 ∧ RS tApi_Oper w χ a1 l_ c1 ∧ RS tBool w χ a2 done c2) (fun s => μ2 s.1 s.2.1 s.2.2) (⟨out_108, (!r128), 0⟩) ?_ ?_
      ·exact ⟨ρ, _, a109, c110, hm0, hS.sl _, hO, h107, h111, h112, h107, h114⟩
      ·rintro ⟨out_148, free_152, x_155⟩ a w183 ⟨ρ, χ182, a149, c150, hI, hS, hO, h147, h151, h153, h154, h156⟩
       replace hm := hm out_148 free_152 x_155 hI
       clear hI hm0
       refine rP T hS ⟨[(0, Sl a1 l_ c1), (5, .f (.func 48) [] [.p 4 0]), (6, Sl a149 out_148 c150), (7, I x_113), (8, Pt 9 0), (9, B free_152), (13, Sl a1 l_ c1), (14, I ((l_.length : Nat) : Int)), (15, I x_113), (24, Sl a1 l_ c1), (25, I ((l_.length : Nat) : Int)), (26, I x_155), (27, B (decide (x_155 < ((l_.length : Nat) : Int))))], [(4, (68, [Sl a2 done c2])), (9, (45, [I ((gi l_ x_113).Prc), I ((gi l_ x_113).Kind), I ((gi l_ x_113).Start), I ((gi l_ x_113).End), I ((gi l_ x_113).Result)]))]⟩ fun a hS => ?_
       refine wseq ?_
       refine wcond hS (b := decide (x_155 < ((l_.length : Nat) : Int))) kr (fun hb => ?_) (fun hb => ?_)
       ·replace hm := hm.1 hb
        refine wskip ?_
        refine wcut (fun a w => ∃ (ρ : Nat → Nat) (χ : Nat → Nat) (out_158 : List Int) (free_162 : Bool) (a159 : Option Addr) (c160 : Nat), VC31_J4 I2 μ2 out_148 free_152 x_155 out_158 free_162 ∧ St Try.f31.ntmps ⟨[(0, Sl a1 l_ c1), (5, .f (.func 48) [] [.p 4 0]), (6, Sl a159 out_158 c160), (7, I x_113), (8, Pt 9 0), (9, B free_162), (13, Sl a1 l_ c1), (14, I ((l_.length : Nat) : Int)), (15, I x_113), (24, Sl a1 l_ c1), (25, I ((l_.length : Nat) : Int)), (26, I x_155)], [(4, (68, [Sl a2 done c2])), (9, (45, [I ((gi l_ x_113).Prc), I ((gi l_ x_113).Kind), I ((gi l_ x_113).Start), I ((gi l_ x_113).End), I ((gi l_ x_113).Result)]))]⟩ ρ a w χ ∧ Old w0 χ0 w χ ∧ RS tApi_Oper w χ a1 l_ c1 ∧ OS tI 3 w χ 1005 a159 out_158 c160 ∧ RS tApi_Oper w χ a1 l_ c1 ∧ RS tApi_Oper w χ a1 l_ c1 ∧ RS tBool w χ a2 done c2) ?_ ?_
        ·refine wblock ?_
         refine regO ?_
         refine oP T hS 1 ⟨[(0, Sl a1 l_ c1), (5, .f (.func 48) [] [.p 4 0]), (6, Sl a149 out_148 c150), (7, I x_113), (8, Pt 9 0), (9, B free_152), (13, Sl a1 l_ c1), (14, I ((l_.length : Nat) : Int)), (15, I x_113), (24, Sl a1 l_ c1), (25, I ((l_.length : Nat) : Int)), (26, I x_155), (28, I x_155)], [(4, (68, [Sl a2 done c2])), (9, (45, [I ((gi l_ x_113).Prc), I ((gi l_ x_113).Kind), I ((gi l_ x_113).Start), I ((gi l_ x_113).End), I ((gi l_ x_113).Result)]))]⟩ fun a hS => ?_
         obtain ⟨hq, hm⟩ := hm
         refine op1 (index (e := 45) (k := .i64) T hS kr kr kr kr h154 kr kr hq.1 hq.2 ?_)
         intro A166 a h167 hS
         clear hq
         refine op1 (loadA T hS kr kr kr h167 kr kr ?_)
         intro v168 a hv hS
         subst hv
         refine eM T hS ⟨[(0, Sl a1 l_ c1), (5, .f (.func 48) [] [.p 4 0]), (6, Sl a149 out_148 c150), (7, I x_113), (8, Pt 9 0), (9, B free_152), (10, I x_155), (11, Pt 12 0), (13, Sl a1 l_ c1), (14, I ((l_.length : Nat) : Int)), (15, I x_113), (24, Sl a1 l_ c1), (25, I ((l_.length : Nat) : Int)), (26, I x_155)], [(4, (68, [Sl a2 done c2])), (9, (45, [I ((gi l_ x_113).Prc), I ((gi l_ x_113).Kind), I ((gi l_ x_113).Start), I ((gi l_ x_113).End), I ((gi l_ x_113).Result)])), (12, (45, [I ((gi l_ x_155).Prc), I ((gi l_ x_155).Kind), I ((gi l_ x_155).Start), I ((gi l_ x_155).End), I ((gi l_ x_155).Result)]))]⟩ fun ρ a w178 χ179 hS hE hr => ?_
         replace hO := hO.mv hE rfl rfl
         replace h147 := h147.mv hE rfl
         replace h151 := h151.mv hE rfl rfl
         replace h153 := h153.mv hE rfl
         replace h154 := h154.mv hE rfl
         replace h156 := h156.mv hE rfl
         clear hE hr
         refine region ?_
         refine oP T hS 2 ⟨[(0, Sl a1 l_ c1), (5, .f (.func 48) [] [.p 4 0]), (6, Sl a149 out_148 c150), (7, I x_113), (8, Pt 9 0), (9, B free_152), (10, I x_155), (11, Pt 12 0), (13, Sl a1 l_ c1), (14, I ((l_.length : Nat) : Int)), (15, I x_113), (24, Sl a1 l_ c1), (25, I ((l_.length : Nat) : Int)), (26, I x_155), (32, B free_152)], [(4, (68, [Sl a2 done c2])), (9, (45, [I ((gi l_ x_113).Prc), I ((gi l_ x_113).Kind), I ((gi l_ x_113).Start), I ((gi l_ x_113).End), I ((gi l_ x_113).Result)])), (12, (45, [I ((gi l_ x_155).Prc), I ((gi l_ x_155).Kind), I ((gi l_ x_155).Start), I ((gi l_ x_155).End), I ((gi l_ x_155).Result)]))]⟩ fun a hS => ?_
         rcases Bool.eq_false_or_eq_true free_152 with hb | hb
         ·replace hS := hS.lit (t := 32) kr hb
          replace hm := hm.1 hb
          refine oP T hS 2 ⟨[(0, Sl a1 l_ c1), (5, .f (.func 48) [] [.p 4 0]), (6, Sl a149 out_148 c150), (7, I x_113), (8, Pt 9 0), (9, B free_152), (11, Pt 12 0), (13, Sl a1 l_ c1), (14, I ((l_.length : Nat) : Int)), (15, I x_113), (24, Sl a1 l_ c1), (25, I ((l_.length : Nat) : Int)), (26, I x_155), (32, B true), (33, .f (.func 48) [] [.p 4 0]), (34, I x_155)], [(4, (68, [Sl a2 done c2])), (9, (45, [I ((gi l_ x_113).Prc), I ((gi l_ x_113).Kind), I ((gi l_ x_113).Start), I ((gi l_ x_113).End), I ((gi l_ x_113).Result)])), (12, (45, [I ((gi l_ x_155).Prc), I ((gi l_ x_155).Kind), I ((gi l_ x_155).Start), I ((gi l_ x_155).End), I ((gi l_ x_155).Result)]))]⟩ fun a hS => ?_
          obtain ⟨hq, hm⟩ := hm
          refine op1 (callCR (fi := []) (cp := [.p 4 0]) hS kr kr hb48 kr kr (k48 _ _ x_155 done a2 c2 (ρ 4) 4 hq h156 (hS.cell (id := 4) (t := 68) (cs := [Sl a2 done c2]) kr) ⟨by decide, by decide⟩) ?_)
          intro v169 a w170 χ171 hE hp hS
          clear hq
          replace hO := hO.mv hE rfl rfl
          replace h147 := h147.mv hE rfl
          replace h151 := h151.mv hE rfl rfl
          replace h153 := h153.mv hE rfl
          replace h154 := h154.mv hE rfl
          replace h156 := h156.mv hE rfl
          clear hE
          obtain ⟨hp, hc173⟩ := hp
          obtain ⟨r172, hr⟩ : ∃ r, oper_Free_1 x_155 done = r := ⟨_, rfl⟩
          replace hm := hm r172 hr
          rw [hr] at hp
          clear hr
          subst hp
          replace hS := hS.addbox (id := 4) (t := 68) (cs := [Sl a2 done c2]) kr hc173
          clear hc173
          refine oP T hS 1 ⟨[(0, Sl a1 l_ c1), (5, .f (.func 48) [] [.p 4 0]), (6, Sl a149 out_148 c150), (7, I x_113), (8, Pt 9 0), (9, B free_152), (11, Pt 12 0), (13, Sl a1 l_ c1), (14, I ((l_.length : Nat) : Int)), (15, I x_113), (24, Sl a1 l_ c1), (25, I ((l_.length : Nat) : Int)), (26, I x_155), (32, B true), (33, .f (.func 48) [] [.p 4 0]), (34, I x_155), (35, B r172), (36, B r172)], [(4, (68, [Sl a2 done c2])), (9, (45, [I ((gi l_ x_113).Prc), I ((gi l_ x_113).Kind), I ((gi l_ x_113).Start), I ((gi l_ x_113).End), I ((gi l_ x_113).Result)])), (12, (45, [I ((gi l_ x_155).Prc), I ((gi l_ x_155).Kind), I ((gi l_ x_155).Start), I ((gi l_ x_155).End), I ((gi l_ x_155).Result)]))]⟩ fun a hS => ?_
          rcases Bool.eq_false_or_eq_true r172 with hb | hb
          ·replace hS := hS.lit (t := 36) kr hb
           replace hm := hm.1 hb
           refine eP T hS ⟨[(0, Sl a1 l_ c1), (5, .f (.func 48) [] [.p 4 0]), (6, Sl a149 out_148 c150), (7, I x_113), (8, Pt 9 0), (9, B true), (13, Sl a1 l_ c1), (14, I ((l_.length : Nat) : Int)), (15, I x_113), (24, Sl a1 l_ c1), (25, I ((l_.length : Nat) : Int)), (26, I x_155), (33, .f (.func 48) [] [.p 4 0]), (34, I x_155), (35, B r172), (36, B true), (41, B true)], [(4, (68, [Sl a2 done c2])), (9, (45, [I ((gi l_ x_113).Prc), I ((gi l_ x_113).Kind), I ((gi l_ x_113).Start), I ((gi l_ x_113).End), I ((gi l_ x_113).Result)]))]⟩ fun a hS => ?_
           exact ⟨ρ, _, out_148, true, a149, c150, hm, hS.sl _, hO, h147, h151, h153, h154, h156⟩
          ·replace hS := hS.lit (t := 36) kr hb
           replace hm := hm.2 hb
           refine oP T hS 2 ⟨[(0, Sl a1 l_ c1), (5, .f (.func 48) [] [.p 4 0]), (6, Sl a149 out_148 c150), (7, I x_113), (8, Pt 9 0), (9, B free_152), (13, Sl a1 l_ c1), (14, I ((l_.length : Nat) : Int)), (15, I x_113), (24, Sl a1 l_ c1), (25, I ((l_.length : Nat) : Int)), (26, I x_155), (32, B true), (33, .f (.func 48) [] [.p 4 0]), (34, I x_155), (35, B r172), (36, B false), (37, V (.agg #[.int .i64 ((gi l_ x_155).Prc), .int .i64 ((gi l_ x_155).Kind), .int .i64 ((gi l_ x_155).Start), .int .i64 ((gi l_ x_155).End), .int .i64 ((gi l_ x_155).Result)])), (38, V (.agg #[.int .i64 ((gi l_ x_113).Prc), .int .i64 ((gi l_ x_113).Kind), .int .i64 ((gi l_ x_113).Start), .int .i64 ((gi l_ x_113).End), .int .i64 ((gi l_ x_113).Result)]))], [(4, (68, [Sl a2 done c2])), (9, (45, [I ((gi l_ x_113).Prc), I ((gi l_ x_113).Kind), I ((gi l_ x_113).Start), I ((gi l_ x_113).End), I ((gi l_ x_113).Result)]))]⟩ fun a hS => ?_
           refine op1 (call hS kr kr hb49 kr (fun _ _ => rfl) (k49 _ _ (gi l_ x_155) (gi l_ x_113)) ?_)
           intro v174 a w175 χ176 hE hp hS
           replace hO := hO.mv hE rfl rfl
           replace h147 := h147.mv hE rfl
           replace h151 := h151.mv hE rfl rfl
           replace h153 := h153.mv hE rfl
           replace h154 := h154.mv hE rfl
           replace h156 := h156.mv hE rfl
           clear hE
           obtain ⟨r177, hr⟩ : ∃ r, oper_Ahead (gi l_ x_155) (gi l_ x_113) = r := ⟨_, rfl⟩
           replace hm := hm r177 hr
           rw [hr] at hp
           clear hr
           subst hp
           refine eP T hS ⟨[(0, Sl a1 l_ c1), (5, .f (.func 48) [] [.p 4 0]), (6, Sl a149 out_148 c150), (7, I x_113), (8, Pt 9 0), (9, B (!r177)), (13, Sl a1 l_ c1), (14, I ((l_.length : Nat) : Int)), (15, I x_113), (24, Sl a1 l_ c1), (25, I ((l_.length : Nat) : Int)), (26, I x_155), (33, .f (.func 48) [] [.p 4 0]), (34, I x_155), (35, B r172), (36, B false), (37, V (.agg #[.int .i64 ((gi l_ x_155).Prc), .int .i64 ((gi l_ x_155).Kind), .int .i64 ((gi l_ x_155).Start), .int .i64 ((gi l_ x_155).End), .int .i64 ((gi l_ x_155).Result)])), (38, V (.agg #[.int .i64 ((gi l_ x_113).Prc), .int .i64 ((gi l_ x_113).Kind), .int .i64 ((gi l_ x_113).Start), .int .i64 ((gi l_ x_113).End), .int .i64 ((gi l_ x_113).Result)])), (39, B r177), (40, B (!r177)), (41, B (!r177))], [(4, (68, [Sl a2 done c2])), (9, (45, [I ((gi l_ x_113).Prc), I ((gi l_ x_113).Kind), I ((gi l_ x_113).Start), I ((gi l_ x_113).End), I ((gi l_ x_113).Result)]))]⟩ fun a hS => ?_
           exact ⟨ρ, _, out_148, (!r177), a149, c150, hm, hS.sl _, hO, h147, h151, h153, h154, h156⟩
         ·replace hS := hS.lit (t := 32) kr hb
          replace hm := hm.2 hb
          refine eP T hS ⟨[(0, Sl a1 l_ c1), (5, .f (.func 48) [] [.p 4 0]), (6, Sl a149 out_148 c150), (7, I x_113), (8, Pt 9 0), (9, B false), (13, Sl a1 l_ c1), (14, I ((l_.length : Nat) : Int)), (15, I x_113), (24, Sl a1 l_ c1), (25, I ((l_.length : Nat) : Int)), (26, I x_155)], [(4, (68, [Sl a2 done c2])), (9, (45, [I ((gi l_ x_113).Prc), I ((gi l_ x_113).Kind), I ((gi l_ x_113).Start), I ((gi l_ x_113).End), I ((gi l_ x_113).Result)]))]⟩ fun a hS => ?_
          exact ⟨ρ, _, out_148, false, a149, c150, hm, hS.sl _, hO, h147, h151, h153, h154, h156⟩
        ·rintro a w181 ⟨ρ, χ180, out_158, free_162, a159, c160, hm, hS, hO, h157, h161, h163, h164, h165⟩
         unfold VC31_J4 at hm
         refine region (eP T hS ⟨[(0, Sl a1 l_ c1), (5, .f (.func 48) [] [.p 4 0]), (6, Sl a159 out_158 c160), (7, I x_113), (8, Pt 9 0), (9, B free_162), (13, Sl a1 l_ c1), (14, I ((l_.length : Nat) : Int)), (15, I x_113), (24, Sl a1 l_ c1), (25, I ((l_.length : Nat) : Int)), (26, I (IntKind.i64.wrap (x_155 + 1)))], [(4, (68, [Sl a2 done c2])), (9, (45, [I ((gi l_ x_113).Prc), I ((gi l_ x_113).Kind), I ((gi l_ x_113).Start), I ((gi l_ x_113).End), I ((gi l_ x_113).Result)]))]⟩ fun a hS => ?_)
         exact ⟨⟨out_158, free_162, IntKind.i64.wrap (x_155 + 1)⟩, ⟨ρ, _, a159, c160, hm.1, hS.sl _, hO, h157, h161, h163, h164, h165⟩, hm.2⟩
       ·replace hm := hm.2 hb
        refine wexit (by rfl) ?_
        exact ⟨ρ, _, out_148, free_152, a149, c150, hm, hS.sl _, hO, h147, h151, h153, h156⟩
     ·rintro a w185 ⟨ρ, χ184, out_131, free_135, a132, c133, hm, hS, hO, h130, h134, h136, h137⟩
      unfold VC31_J3 at hm
      refine rP T hS ⟨[(0, Sl a1 l_ c1), (5, .f (.func 48) [] [.p 4 0]), (6, Sl a132 out_131 c133), (7, I x_113), (13, Sl a1 l_ c1), (14, I ((l_.length : Nat) : Int)), (15, I x_113), (44, B free_135)], [(4, (68, [Sl a2 done c2]))]⟩ fun a hS => ?_
      refine wcond hS (b := free_135) kr (fun hb => ?_) (fun hb => ?_)
      ·replace hm := hm.1 hb
       refine region ?_
       refine oP T hS 2 ⟨[(0, Sl a1 l_ c1), (5, .f (.func 48) [] [.p 4 0]), (6, Sl a132 out_131 c133), (13, Sl a1 l_ c1), (14, I ((l_.length : Nat) : Int)), (15, I x_113), (45, Sl a132 out_131 c133), (46, I x_113)], [(4, (68, [Sl a2 done c2]))]⟩ fun a hS => ?_
       refine op1 (lit (E := 3) (col := 0) (T := tI) (vals := [.int .i64 x_113]) (ys := [x_113]) T hS kr kr kr kr (by exact ⟨rfl, trivial⟩) rfl kr kr kr kr ?_)
       intro b138 a w139 χ140 hE h141 hN hS
       clear hN
       replace hO := hO.mv hE rfl rfl
       replace h130 := h130.mv hE rfl
       replace h134 := h134.mv hE rfl rfl
       replace h136 := h136.mv hE rfl
       replace h137 := h137.mv hE rfl
       clear hE
       replace h141 := h141.rs0
       obtain ⟨hq, hm⟩ := hm
       obtain ⟨news, hN⟩ := h141.src
       refine op1 (append (E := 3) (T := tI) (col := 1005) (xs := out_131) T hS kr kr kr kr h134 hN kr kr kr kr hq ?_)
       intro a145 c146 a w142 χ143 hE h144 hS
       clear hq hN
       clear h134
       replace hO := hO.mv hE rfl rfl
       replace h130 := h130.mv hE rfl
       replace h136 := h136.mv hE rfl
       replace h137 := h137.mv hE rfl
       replace h141 := h141.mv hE rfl
       clear hE
       refine eP T hS ⟨[(0, Sl a1 l_ c1), (5, .f (.func 48) [] [.p 4 0]), (6, Sl a145 (out_131 ++ [x_113]) c146), (13, Sl a1 l_ c1), (14, I ((l_.length : Nat) : Int)), (15, I x_113)], [(4, (68, [Sl a2 done c2]))]⟩ fun a hS => ?_
       exact ⟨ρ, _, out_131 ++ [x_113], a145, c146, hm, hS.sl _, hO, h130, h144, h136, h137⟩
      ·replace hm := hm.2 hb
       refine wskip ?_
       exact ⟨ρ, _, out_131, a132, c133, hm, hS.sl _, hO, h130, h134, h136, h137⟩
    ·rintro a w189 ⟨ρ, χ188, out_116, a117, c118, hm, hS, hO, h115, h119, h120, h121⟩
     unfold VC31_J2 at hm
     refine region (eP T hS ⟨[(0, Sl a1 l_ c1), (5, .f (.func 48) [] [.p 4 0]), (6, Sl a117 out_116 c118), (13, Sl a1 l_ c1), (14, I ((l_.length : Nat) : Int)), (15, I (IntKind.i64.wrap (x_113 + 1)))], [(4, (68, [Sl a2 done c2]))]⟩ fun a hS => ?_)
     exact ⟨⟨out_116, IntKind.i64.wrap (x_113 + 1)⟩, ⟨ρ, _, a117, c118, hm.1, hS.sl _, hO, h115, h119, h120, h121⟩, hm.2⟩
   ·replace hm := hm.2 hb
    refine wexit (by rfl) ?_
    exact ⟨ρ, _, out_108, a109, c110, hm, hS.sl _, hO, h111⟩
 ·rintro a w193 ⟨ρ, χ192, out_101, a102, c103, hm, hS, hO, h104⟩
  unfold VC31_J1 at hm
  refine rP T hS ⟨[(4, Sl a102 out_101 c103)], []⟩ fun a hS => ?_
  refine wret ?_
  obtain ⟨χ105, hE, hF⟩ := h104.freeze (by decide)
  replace hS := hS.ev hE (xone_box kr)
  replace hO := hO.mv hE rfl rfl
  have h106 := hF; clear hE hF
  exact fin T hS hO (fun c => c) rfl (r := [.slice a102 out_101.length c103]) kr (fun χ' hM hC => ⟨out_101, hm, a102, c103, rfl, h106.m0 hM⟩)
theorem C31 (k48 : S48) (k49 : S49) (v : ∀ (l_ : List Api_Oper) (done : List Bool), preFr l_ done → VC31 l_ done (fun r => r = oper_Free l_ done)) : S31 := by
 intro w χ l_ done a1 c1 a2 c2   hp h1 h2
 refine (W31 k48 k49 w χ l_ done a1 c1 a2 c2   _ (v l_ done hp) h1 h2).mono ?_
 rintro _ _ _ _ ⟨r, rfl, h⟩
 exact h
/-- replevin/search.Next -/
theorem W18 (k30 : S30) (k31 : S31) (k32 : S32) (w0 : World) (χ0 : Nat → Nat) (o_ : Api_Object) (l_ : List Api_Oper) (state : Int) (done : List Bool) (a1 : Option Addr) (c1 : Nat) (a2 : Option Addr) (c2 : Nat) (a3 : Option Addr) (c3 : Nat) (col1 : Nat) (Q : (List Api_Pick) → Prop) (hm : VC18 o_ l_ state done Q) (h1 : RS tApi_Row w0 χ0 a1 o_.Rows c1) (h2 : RS tApi_Oper w0 χ0 a2 l_ c2) (h3 : RS tBool w0 χ0 a3 done c3) :
  Ret Try.prog 18 #[.agg #[.int .i64 o_.States, .int .i64 o_.Kinds, .int .i64 o_.Init, .slice a1 o_.Rows.length c1], .slice a2 l_.length c2, .int .i64 state, .slice a3 done.length c3] xnone w0 χ0 (fun w χ' v => ∃ r, Q r ∧ ∃ (ra1 : Option Addr) (rc1 : Nat), v = .slice ra1 r.length rc1 ∧ OS tApi_Pick 51 w χ' col1 ra1 r rc1) := by
 unfold VC18 at hm
 replace hm := hm (h1.sm kr)
 replace hm := hm (h2.sm kr)
 replace hm := hm (h3.sm kr)
 refine enter Try.func18 rfl (vals := [.agg #[.int .i64 o_.States, .int .i64 o_.Kinds, .int .i64 o_.Init, .slice a1 o_.Rows.length c1], .slice a2 l_.length c2, .int .i64 state, .slice a3 done.length c3]) kr ?_
 intro ρ a hS hO hM
 replace h1 := h1.m0 hM
 replace h2 := h2.m0 hM
 replace h3 := h3.m0 hM
 clear hM
 refine rM T hS ⟨[(1, Sl a2 l_ c2), (2, I state), (3, Sl a3 done c3), (4, Pt 5 0)], [(5, (24, [I o_.States, I o_.Kinds, I o_.Init, Sl a1 o_.Rows c1]))]⟩ fun ρ a w180 χ181 hS hE hr => ?_
 replace hO := hO.mv hE rfl rfl
 replace h1 := h1.mv hE rfl
 replace h2 := h2.mv hE rfl
 replace h3 := h3.mv hE rfl
 clear hE hr
 refine wseq ?_
 refine regO ?_
 refine oP T hS 1 ⟨[(1, Sl a2 l_ c2), (2, I state), (3, Sl a3 done c3), (4, Pt 5 0), (18, V (.agg #[.int .i64 o_.States, .int .i64 o_.Kinds, .int .i64 o_.Init, .slice a1 o_.Rows.length c1]))], [(5, (24, [I o_.States, I o_.Kinds, I o_.Init, Sl a1 o_.Rows c1]))]⟩ fun a hS => ?_
 obtain ⟨hq, hm⟩ := hm
 refine op1 (call hS kr kr hb30 kr (fun _ _ => rfl) (k30 _ _ o_ a1 c1 hq h1) ?_)
 intro v101 a w102 χ103 hE hp hS
 clear hq
 replace hO := hO.mv hE rfl rfl
 replace h1 := h1.mv hE rfl
 replace h2 := h2.mv hE rfl
 replace h3 := h3.mv hE rfl
 clear hE
 obtain ⟨r104, hr⟩ : ∃ r, object_Check o_ = r := ⟨_, rfl⟩
 replace hm := hm r104 hr
 rw [hr] at hp
 clear hr
 subst hp
 refine eP T hS ⟨[(1, Sl a2 l_ c2), (2, I state), (3, Sl a3 done c3), (4, Pt 5 0), (10, I r104.2)], [(5, (24, [I o_.States, I o_.Kinds, I o_.Init, Sl a1 o_.Rows c1]))]⟩ fun a hS => ?_
 refine rP T hS ⟨[(1, Sl a2 l_ c2), (2, I state), (3, Sl a3 done c3), (4, Pt 5 0), (23, B (r104.2 != 0))], [(5, (24, [I o_.States, I o_.Kinds, I o_.Init, Sl a1 o_.Rows c1]))]⟩ fun a hS => ?_
 refine wcond hS (b := (r104.2 != 0)) kr (fun hb => ?_) (fun hb => ?_)
 ·replace hm := hm.1 hb
  refine rP T hS ⟨[(8, V (.slice none 0 0))], []⟩ fun a hS => ?_
  refine wret ?_
  exact fin T hS hO (fun c => c) rfl (r := [.slice none 0 0]) kr (fun χ' hM hC => ⟨[], hm, none, 0, rfl, OS.nil _ _ _ _ _⟩)
 ·replace hm := hm.2 hb
  refine wskip ?_
  refine rP T hS ⟨[(1, Sl a2 l_ c2), (2, I state), (3, Sl a3 done c3), (4, Pt 5 0), (11, V (.slice none 0 0))], [(5, (24, [I o_.States, I o_.Kinds, I o_.Init, Sl a1 o_.Rows c1]))]⟩ fun a hS => ?_
  refine wcut (fun a w => ∃ (ρ : Nat → Nat) (χ : Nat → Nat) (out_105 : List Api_Pick) (a106 : Option Addr) (c107 : Nat), VC18_J1 Q out_105 ∧ St Try.f18.ntmps ⟨[(11, Sl a106 out_105 c107)], []⟩ ρ a w χ ∧ Old w0 χ0 w χ ∧ OS tApi_Pick 51 w χ 1009 a106 out_105 c107) ?_ ?_
  ·refine regO ?_
   refine oP T hS 2 ⟨[(1, Sl a2 l_ c2), (2, I state), (4, Pt 5 0), (11, V (.slice none 0 0)), (24, Sl a2 l_ c2), (25, Sl a3 done c3)], [(5, (24, [I o_.States, I o_.Kinds, I o_.Init, Sl a1 o_.Rows c1]))]⟩ fun a hS => ?_
   obtain ⟨hq, hm⟩ := hm
   refine op1 (call hS kr kr hb31 kr (fun _ _ => rfl) (k31 _ _ l_ done a2 c2 a3 c3 hq h2 h3) ?_)
   intro v109 a w110 χ111 hE hp hS
   clear hq
   replace hO := hO.mv hE rfl rfl
   replace h1 := h1.mv hE rfl
   replace h2 := h2.mv hE rfl
   replace h3 := h3.mv hE rfl
   clear hE
   obtain ⟨a113, c114, hp, h115⟩ := hp
   obtain ⟨r112, hr⟩ : ∃ r, oper_Free l_ done = r := ⟨_, rfl⟩
   replace hm := hm r112 hr
   rw [hr] at hp h115
   clear hr
   subst hp
   replace hm := hm (h115.sm kr)
   refine eP T hS ⟨[(1, Sl a2 l_ c2), (2, I state), (4, Pt 5 0), (11, V (.slice none 0 0)), (26, Sl a113 r112 c114), (27, I ((r112.length : Nat) : Int)), (28, I 0)], [(5, (24, [I o_.States, I o_.Kinds, I o_.Init, Sl a1 o_.Rows c1]))]⟩ fun a hS => ?_
   refine wblock ?_
   obtain ⟨I1, μ1, hm0, hm⟩ := hm
   refine wloop (σ := (List Api_Pick) × Int) (fun s a w => ∃ (ρ : Nat → Nat) (χ : Nat → Nat) (a118 : Option Addr) (c119 : Nat), I1 s.1 s.2 ∧ St Try.f18.ntmps ⟨[(1, Sl a2 l_ c2), (2, I state), (4, Pt 5 0), (11, Sl a118 s.1 c119), (26, Sl a113 r112 c114), (27, I ((r112.length : Nat) : Int)), (28, I s.2)], [(5, (24, [I o_.States, I o_.Kinds, I o_.Init, Sl a1 o_.Rows c1]))]⟩ ρ a w χ ∧ Old w0 χ0 w χ ∧ RS tApi_Oper w χ a2 l_ c2 ∧ OS tApi_Pick 51 w χ 1009 a118 s.1 c119 ∧ RS tI w χ a113 r112 c114 ∧ RS tApi_Row w χ a1 o_.Rows c1) (fun s => μ1 s.1 s.2) (⟨[], 0⟩) ?_ ?_
   ·exact ⟨ρ, _, none, 0, hm0, hS.sl _, hO, h2, (OS.nil _ _ _ _ _), h115, h1⟩
   ·rintro ⟨out_117, x_122⟩ a w177 ⟨ρ, χ176, a118, c119, hI, hS, hO, h116, h120, h121, h123⟩
    replace hm := hm out_117 x_122 hI
    clear hI hm0
    refine rP T hS ⟨[(1, Sl a2 l_ c2), (2, I state), (4, Pt 5 0), (11, Sl a118 out_117 c119), (26, Sl a113 r112 c114), (27, I ((r112.length : Nat) : Int)), (28, I x_122), (29, B (decide (x_122 < ((r112.length : Nat) : Int))))], [(5, (24, [I o_.States, I o_.Kinds, I o_.Init, Sl a1 o_.Rows c1]))]⟩ fun a hS => ?_
    refine wseq ?_
    refine wcond hS (b := decide (x_122 < ((r112.length : Nat) : Int))) kr (fun hb => ?_) (fun hb => ?_)
    ·replace hm := hm.1 hb
     refine wskip ?_
     refine wcut (fun a w => ∃ (ρ : Nat → Nat) (χ : Nat → Nat) (out_125 : List Api_Pick) (a126 : Option Addr) (c127 : Nat), VC18_J2 I1 μ1 out_117 x_122 out_125 ∧ St Try.f18.ntmps ⟨[(1, Sl a2 l_ c2), (2, I state), (4, Pt 5 0), (11, Sl a126 out_125 c127), (26, Sl a113 r112 c114), (27, I ((r112.length : Nat) : Int)), (28, I x_122)], [(5, (24, [I o_.States, I o_.Kinds, I o_.Init, Sl a1 o_.Rows c1]))]⟩ ρ a w χ ∧ Old w0 χ0 w χ ∧ RS tApi_Oper w χ a2 l_ c2 ∧ OS tApi_Pick 51 w χ 1009 a126 out_125 c127 ∧ RS tI w χ a113 r112 c114 ∧ RS tApi_Row w χ a1 o_.Rows c1) ?_ ?_
     ·refine wblock ?_
      refine regO ?_
      obtain ⟨hq, hm⟩ := hm
      refine op1 (index (e := 3) (k := .i64) T hS kr kr kr kr h121 kr kr hq.1 hq.2 ?_)
      intro A131 a h132 hS
      clear hq
      refine op1 (load1 T hS kr kr kr h132 rfl kr ?_)
      intro v133 a hv hS
      cases hv
      refine eP T hS ⟨[(1, Sl a2 l_ c2), (2, I state), (4, Pt 5 0), (11, Sl a118 out_117 c119), (13, I (gi r112 x_122)), (26, Sl a113 r112 c114), (27, I ((r112.length : Nat) : Int)), (28, I x_122)], [(5, (24, [I o_.States, I o_.Kinds, I o_.Init, Sl a1 o_.Rows c1]))]⟩ fun a hS => ?_
      refine drawnSX [5] mixed hS ?_
      intro w134 χ135 hS hE hD hH
      replace hO := hO.mv hE rfl rfl
      replace h116 := h116.mv hE rfl
      replace h120 := h120.mv hE rfl rfl
      replace h121 := h121.mv hE rfl
      replace h123 := h123.mv hE rfl
      clear hE
      refine tk T [0, 1, 2, 3] [5] hS hH #[true, true, true, true, false, false, false, false, false, false, false, false, false, false, false] 11 ⟨[(1, Sl a2 l_ c2), (2, I state), (4, Pt 5 0), (11, Sl a118 out_117 c119), (13, I (gi r112 x_122)), (26, Sl a113 r112 c114), (27, I ((r112.length : Nat) : Int)), (28, I x_122), (33, V (.agg #[.int .i64 o_.States, .int .i64 o_.Kinds, .int .i64 o_.Init, .slice a1 o_.Rows.length c1])), (34, I state), (35, Sl a2 l_ c2), (36, I (gi r112 x_122))], [(5, (24, [I o_.States, I o_.Kinds, I o_.Init, Sl a1 o_.Rows c1]))]⟩ fun a hS => ?_
      obtain ⟨hq, hm⟩ := hm
      refine dindex (e := 45) (k := .i64) T 4 hS kr kr kr (by rfl) kr hH kr kr h116 kr kr hq.1 hq.2 ?_
      intro A136 a h137 hS
      clear hq
      have h137b := h137.here
      refine dfieldA (off := 1) (fsz := 1) (ft := 3) (TF := tI) (y := (gi l_ (gi r112 x_122)).Kind) 5 T hS kr kr kr (by rfl) kr hH kr h137 kr kr kr (fun cs h => Api_Oper_f1 h) ?_
      intro A138 a h139 hbl hS
      have h139b := h137b
      rw [← hbl] at h139b
      clear hbl
      refine dload1 T 6 hS kr kr kr (by rfl) kr hH kr h139 h139b rfl kr ?_
      intro v140 a hv hS
      cases hv
      refine only 7 kr (by rfl) (call hS kr kr hb32 kr (fun _ _ => rfl) (k32 _ _ o_ state ((gi l_ (gi r112 x_122)).Kind) a1 c1 h123) ?_)
      intro v141 a w142 χ143 hE hp hS
      replace hO := hO.mv hE rfl rfl
      replace hD := hD.ev hE rfl
      replace h116 := h116.mv hE rfl
      replace h120 := h120.mv hE rfl rfl
      replace h121 := h121.mv hE rfl
      replace h123 := h123.mv hE rfl
      replace h137 := h137.mv hE rfl
      replace h139 := h139.mv hE rfl
      clear hE
      obtain ⟨r144, hr⟩ : ∃ r, object_Move o_ state ((gi l_ (gi r112 x_122)).Kind) = r := ⟨_, rfl⟩
      replace hm := hm r144 hr
      rw [hr] at hp
      clear hr
      subst hp
      replace hS := hS.sl ⟨[(1, Sl a2 l_ c2), (2, I state), (4, Pt 5 0), (11, Sl a118 out_117 c119), (13, I (gi r112 x_122)), (26, Sl a113 r112 c114), (27, I ((r112.length : Nat) : Int)), (28, I x_122), (33, V (.agg #[.int .i64 o_.States, .int .i64 o_.Kinds, .int .i64 o_.Init, .slice a1 o_.Rows.length c1])), (34, I state), (35, Sl a2 l_ c2), (36, I (gi r112 x_122)), (37, V (.pointer (some A136))), (38, V (.pointer (some A138))), (39, I ((gi l_ (gi r112 x_122)).Kind)), (40, V (.tuple #[.int .i64 r144.1, .int .i64 r144.2.1, .bool r144.2.2]))], [(5, (24, [I o_.States, I o_.Kinds, I o_.Init, Sl a1 o_.Rows c1]))]⟩
      refine andH (Hold.of hS (bks := [5]) kr hD) ?_
      intro hH
      refine tk T [8, 9, 10, 11, 12, 13, 14] [5] hS hH #[true, true, true, true, true, true, true, true, true, true, true, true, true, true, true] 0 ⟨[(1, Sl a2 l_ c2), (2, I state), (4, Pt 5 0), (11, Sl a118 out_117 c119), (13, I (gi r112 x_122)), (15, I r144.2.1), (16, B r144.2.2), (26, Sl a113 r112 c114), (27, I ((r112.length : Nat) : Int)), (28, I x_122)], [(5, (24, [I o_.States, I o_.Kinds, I o_.Init, Sl a1 o_.Rows c1]))]⟩ fun a hS => ?_
      refine drawnDone kr ?_
      clear hD hH
      replace hS := hS.sl ⟨[(1, Sl a2 l_ c2), (2, I state), (4, Pt 5 0), (11, Sl a118 out_117 c119), (13, I (gi r112 x_122)), (15, I r144.2.1), (16, B r144.2.2), (26, Sl a113 r112 c114), (27, I ((r112.length : Nat) : Int)), (28, I x_122)], [(5, (24, [I o_.States, I o_.Kinds, I o_.Init, Sl a1 o_.Rows c1]))]⟩
      refine wcut (fun a w => ∃ (ρ : Nat → Nat) (χ : Nat → Nat) (out_146 : List Api_Pick) (x_151 : Bool) (a147 : Option Addr) (c148 : Nat), VC18_J3 r112 I1 μ1 out_117 x_122 r144 out_146 x_151 ∧ St Try.f18.ntmps ⟨[(1, Sl a2 l_ c2), (2, I state), (4, Pt 5 0), (11, Sl a147 out_146 c148), (13, I (gi r112 x_122)), (15, I r144.2.1), (26, Sl a113 r112 c114), (27, I ((r112.length : Nat) : Int)), (28, I x_122), (61, B x_151)], [(5, (24, [I o_.States, I o_.Kinds, I o_.Init, Sl a1 o_.Rows c1]))]⟩ ρ a w χ ∧ Old w0 χ0 w χ ∧ RS tApi_Oper w χ a2 l_ c2 ∧ OS tApi_Pick 51 w χ 1009 a147 out_146 c148 ∧ RS tI w χ a113 r112 c114 ∧ RS tApi_Row w χ a1 o_.Rows c1) ?_ ?_
      ·refine region ?_
       refine oP T hS 2 ⟨[(1, Sl a2 l_ c2), (2, I state), (4, Pt 5 0), (11, Sl a118 out_117 c119), (13, I (gi r112 x_122)), (15, I r144.2.1), (26, Sl a113 r112 c114), (27, I ((r112.length : Nat) : Int)), (28, I x_122), (45, B r144.2.2)], [(5, (24, [I o_.States, I o_.Kinds, I o_.Init, Sl a1 o_.Rows c1]))]⟩ fun a hS => ?_
       rcases Bool.eq_false_or_eq_true r144.2.2 with hb | hb
       ·replace hS := hS.lit (t := 45) kr hb
        replace hm := hm.1 hb
        refine oP T hS 2 ⟨[(1, Sl a2 l_ c2), (2, I state), (4, Pt 5 0), (11, Sl a118 out_117 c119), (13, I (gi r112 x_122)), (15, I r144.2.1), (26, Sl a113 r112 c114), (27, I ((r112.length : Nat) : Int)), (28, I x_122), (45, B true), (46, Sl a2 l_ c2), (47, I (gi r112 x_122))], [(5, (24, [I o_.States, I o_.Kinds, I o_.Init, Sl a1 o_.Rows c1]))]⟩ fun a hS => ?_
        obtain ⟨hq, hm⟩ := hm
        refine op1 (index (e := 45) (k := .i64) T hS kr kr kr kr h116 kr kr hq.1 hq.2 ?_)
        intro A162 a h163 hS
        clear hq
        refine op1 (fieldA (off := 3) (fsz := 1) (ft := 3) (TF := tI) (y := (gi l_ (gi r112 x_122)).End) T hS kr kr kr h163 kr kr kr (fun cs h => Api_Oper_f3 h) ?_)
        intro A164 a h165 hS
        refine op1 (load1 T hS kr kr kr h165 rfl kr ?_)
        intro v166 a hv hS
        cases hv
        refine oP T hS 2 ⟨[(1, Sl a2 l_ c2), (2, I state), (4, Pt 5 0), (11, Sl a118 out_117 c119), (13, I (gi r112 x_122)), (15, I r144.2.1), (26, Sl a113 r112 c114), (27, I ((r112.length : Nat) : Int)), (28, I x_122), (45, B true), (46, Sl a2 l_ c2), (47, I (gi r112 x_122)), (48, V (.pointer (some A162))), (49, V (.pointer (some A164))), (50, I ((gi l_ (gi r112 x_122)).End)), (51, B (((gi l_ (gi r112 x_122)).End) == (-1))), (52, B (((gi l_ (gi r112 x_122)).End) == (-1)))], [(5, (24, [I o_.States, I o_.Kinds, I o_.Init, Sl a1 o_.Rows c1]))]⟩ fun a hS => ?_
        rcases Bool.eq_false_or_eq_true (((gi l_ (gi r112 x_122)).End) == (-1)) with hb | hb
        ·replace hS := hS.lit (t := 52) kr hb
         replace hm := hm.1 hb
         refine eP T hS ⟨[(1, Sl a2 l_ c2), (2, I state), (4, Pt 5 0), (11, Sl a118 out_117 c119), (13, I (gi r112 x_122)), (15, I r144.2.1), (26, Sl a113 r112 c114), (27, I ((r112.length : Nat) : Int)), (28, I x_122), (46, Sl a2 l_ c2), (47, I (gi r112 x_122)), (48, V (.pointer (some A162))), (49, V (.pointer (some A164))), (50, I ((gi l_ (gi r112 x_122)).End)), (51, B (((gi l_ (gi r112 x_122)).End) == (-1))), (52, B true), (60, B true), (61, B true)], [(5, (24, [I o_.States, I o_.Kinds, I o_.Init, Sl a1 o_.Rows c1]))]⟩ fun a hS => ?_
         exact ⟨ρ, _, out_117, true, a118, c119, hm, hS.sl _, hO, h116, h120, h121, h123⟩
        ·replace hS := hS.lit (t := 52) kr hb
         replace hm := hm.2 hb
         refine oP T hS 2 ⟨[(1, Sl a2 l_ c2), (2, I state), (4, Pt 5 0), (11, Sl a118 out_117 c119), (13, I (gi r112 x_122)), (15, I r144.2.1), (26, Sl a113 r112 c114), (27, I ((r112.length : Nat) : Int)), (28, I x_122), (45, B true), (46, Sl a2 l_ c2), (47, I (gi r112 x_122)), (48, V (.pointer (some A162))), (49, V (.pointer (some A164))), (50, I ((gi l_ (gi r112 x_122)).End)), (51, B (((gi l_ (gi r112 x_122)).End) == (-1))), (52, B false), (53, Sl a2 l_ c2), (54, I (gi r112 x_122))], [(5, (24, [I o_.States, I o_.Kinds, I o_.Init, Sl a1 o_.Rows c1]))]⟩ fun a hS => ?_
         obtain ⟨hq, hm⟩ := hm
         refine op1 (index (e := 45) (k := .i64) T hS kr kr kr kr h116 kr kr hq.1 hq.2 ?_)
         intro A167 a h168 hS
         clear hq
         refine op1 (fieldA (off := 4) (fsz := 1) (ft := 3) (TF := tI) (y := (gi l_ (gi r112 x_122)).Result) T hS kr kr kr h168 kr kr kr (fun cs h => Api_Oper_f4 h) ?_)
         intro A169 a h170 hS
         refine op1 (load1 T hS kr kr kr h170 rfl kr ?_)
         intro v171 a hv hS
         cases hv
         refine eP T hS ⟨[(1, Sl a2 l_ c2), (2, I state), (4, Pt 5 0), (11, Sl a118 out_117 c119), (13, I (gi r112 x_122)), (15, I r144.2.1), (26, Sl a113 r112 c114), (27, I ((r112.length : Nat) : Int)), (28, I x_122), (46, Sl a2 l_ c2), (47, I (gi r112 x_122)), (48, V (.pointer (some A162))), (49, V (.pointer (some A164))), (50, I ((gi l_ (gi r112 x_122)).End)), (51, B (((gi l_ (gi r112 x_122)).End) == (-1))), (52, B false), (53, Sl a2 l_ c2), (54, I (gi r112 x_122)), (55, V (.pointer (some A167))), (56, V (.pointer (some A169))), (57, I ((gi l_ (gi r112 x_122)).Result)), (58, I r144.2.1), (59, B (((gi l_ (gi r112 x_122)).Result) == r144.2.1)), (60, B (((gi l_ (gi r112 x_122)).Result) == r144.2.1)), (61, B (((gi l_ (gi r112 x_122)).Result) == r144.2.1))], [(5, (24, [I o_.States, I o_.Kinds, I o_.Init, Sl a1 o_.Rows c1]))]⟩ fun a hS => ?_
         exact ⟨ρ, _, out_117, (((gi l_ (gi r112 x_122)).Result) == r144.2.1), a118, c119, hm, hS.sl _, hO, h116, h120, h121, h123⟩
       ·replace hS := hS.lit (t := 45) kr hb
        replace hm := hm.2 hb
        refine eP T hS ⟨[(1, Sl a2 l_ c2), (2, I state), (4, Pt 5 0), (11, Sl a118 out_117 c119), (13, I (gi r112 x_122)), (15, I r144.2.1), (26, Sl a113 r112 c114), (27, I ((r112.length : Nat) : Int)), (28, I x_122), (61, B false)], [(5, (24, [I o_.States, I o_.Kinds, I o_.Init, Sl a1 o_.Rows c1]))]⟩ fun a hS => ?_
        exact ⟨ρ, _, out_117, false, a118, c119, hm, hS.sl _, hO, h116, h120, h121, h123⟩
      ·rintro a w173 ⟨ρ, χ172, out_146, x_151, a147, c148, hm, hS, hO, h145, h149, h150, h152⟩
       unfold VC18_J3 at hm
       refine wcond hS (b := x_151) kr (fun hb => ?_) (fun hb => ?_)
       ·replace hm := hm.1 hb
        refine region ?_
        refine oP T hS 4 ⟨[(1, Sl a2 l_ c2), (2, I state), (4, Pt 5 0), (11, Sl a147 out_146 c148), (26, Sl a113 r112 c114), (27, I ((r112.length : Nat) : Int)), (28, I x_122), (62, Sl a147 out_146 c148), (65, V (.agg #[.int .i64 (gi r112 x_122), .int .i64 r144.2.1]))], [(5, (24, [I o_.States, I o_.Kinds, I o_.Init, Sl a1 o_.Rows c1]))]⟩ fun a hS => ?_
        refine op1 (lit (E := 51) (col := 0) (T := tApi_Pick) (vals := [.agg #[.int .i64 (gi r112 x_122), .int .i64 r144.2.1]]) (ys := [(⟨gi r112 x_122, r144.2.1⟩ : Api_Pick)]) T hS kr kr kr kr (by exact ⟨rfl, trivial⟩) rfl kr kr kr kr ?_)
        intro b153 a w154 χ155 hE h156 hN hS
        clear hN
        replace hO := hO.mv hE rfl rfl
        replace h145 := h145.mv hE rfl
        replace h149 := h149.mv hE rfl rfl
        replace h150 := h150.mv hE rfl
        replace h152 := h152.mv hE rfl
        clear hE
        replace h156 := h156.rs0
        obtain ⟨hq, hm⟩ := hm
        obtain ⟨news, hN⟩ := h156.src
        refine op1 (append (E := 51) (T := tApi_Pick) (col := 1009) (xs := out_146) T hS kr kr kr kr h149 hN kr kr kr kr hq ?_)
        intro a160 c161 a w157 χ158 hE h159 hS
        clear hq hN
        clear h149
        replace hO := hO.mv hE rfl rfl
        replace h145 := h145.mv hE rfl
        replace h150 := h150.mv hE rfl
        replace h152 := h152.mv hE rfl
        replace h156 := h156.mv hE rfl
        clear hE
        refine eP T hS ⟨[(1, Sl a2 l_ c2), (2, I state), (4, Pt 5 0), (11, Sl a160 (out_146 ++ [(⟨gi r112 x_122, r144.2.1⟩ : Api_Pick)]) c161), (26, Sl a113 r112 c114), (27, I ((r112.length : Nat) : Int)), (28, I x_122)], [(5, (24, [I o_.States, I o_.Kinds, I o_.Init, Sl a1 o_.Rows c1]))]⟩ fun a hS => ?_
        exact ⟨ρ, _, out_146 ++ [(⟨gi r112 x_122, r144.2.1⟩ : Api_Pick)], a160, c161, hm, hS.sl _, hO, h145, h159, h150, h152⟩
       ·replace hm := hm.2 hb
        refine wskip ?_
        exact ⟨ρ, _, out_146, a147, c148, hm, hS.sl _, hO, h145, h149, h150, h152⟩
     ·rintro a w175 ⟨ρ, χ174, out_125, a126, c127, hm, hS, hO, h124, h128, h129, h130⟩
      unfold VC18_J2 at hm
      refine region (eP T hS ⟨[(1, Sl a2 l_ c2), (2, I state), (4, Pt 5 0), (11, Sl a126 out_125 c127), (26, Sl a113 r112 c114), (27, I ((r112.length : Nat) : Int)), (28, I (IntKind.i64.wrap (x_122 + 1)))], [(5, (24, [I o_.States, I o_.Kinds, I o_.Init, Sl a1 o_.Rows c1]))]⟩ fun a hS => ?_)
      exact ⟨⟨out_125, IntKind.i64.wrap (x_122 + 1)⟩, ⟨ρ, _, a126, c127, hm.1, hS.sl _, hO, h124, h128, h129, h130⟩, hm.2⟩
    ·replace hm := hm.2 hb
     refine wexit (by rfl) ?_
     exact ⟨ρ, _, out_117, a118, c119, hm, hS.sl _, hO, h120⟩
  ·rintro a w179 ⟨ρ, χ178, out_105, a106, c107, hm, hS, hO, h108⟩
   unfold VC18_J1 at hm
   refine rP T hS ⟨[(8, Sl a106 out_105 c107)], []⟩ fun a hS => ?_
   refine wret ?_
   exact fin T hS hO (fun c => (bif Nat.beq c 1009 then col1 else c)) rfl (r := [.slice a106 out_105.length c107]) kr (fun χ' hM hC => ⟨out_105, hm, a106, c107, rfl, (OS.out (f := (fun c => (bif Nat.beq c 1009 then col1 else c))) h108 hM hC kr)⟩)
theorem C18 (k30 : S30) (k31 : S31) (k32 : S32) (v : ∀ (o_ : Api_Object) (l_ : List Api_Oper) (state : Int) (done : List Bool), preNx o_ l_ state done → VC18 o_ l_ state done (fun r => r = search_Next o_ l_ state done)) : S18 := by
 intro w χ o_ l_ state done a1 c1 a2 c2 a3 c3 col1  hp h1 h2 h3
 refine (W18 k30 k31 k32 w χ o_ l_ state done a1 c1 a2 c2 a3 c3 col1  _ (v o_ l_ state done hp) h1 h2 h3).mono ?_
 rintro _ _ _ _ ⟨r, rfl, h⟩
 exact h
/-- replevin/search.check -/
theorem W19 (k30 : S30) (k33 : S33) (w0 : World) (χ0 : Nat → Nat) (o_ : Api_Object) (l_ : List Api_Oper) (most : Int) (a1 : Option Addr) (c1 : Nat) (a2 : Option Addr) (c2 : Nat) (Q : Int → Prop) (hm : VC19 o_ l_ most Q) (h1 : RS tApi_Row w0 χ0 a1 o_.Rows c1) (h2 : RS tApi_Oper w0 χ0 a2 l_ c2) :
  Ret Try.prog 19 #[.agg #[.int .i64 o_.States, .int .i64 o_.Kinds, .int .i64 o_.Init, .slice a1 o_.Rows.length c1], .slice a2 l_.length c2, .int .i64 most] xnone w0 χ0 (fun w χ' v => ∃ r, Q r ∧ v = .int .i64 r) := by
 unfold VC19 at hm
 replace hm := hm (h1.sm kr)
 replace hm := hm (h2.sm kr)
 refine enter Try.func19 rfl (vals := [.agg #[.int .i64 o_.States, .int .i64 o_.Kinds, .int .i64 o_.Init, .slice a1 o_.Rows.length c1], .slice a2 l_.length c2, .int .i64 most]) kr ?_
 intro ρ a hS hO hM
 replace h1 := h1.m0 hM
 replace h2 := h2.m0 hM
 clear hM
 refine rM T hS ⟨[(1, Sl a2 l_ c2), (2, I most), (3, Pt 4 0)], [(4, (24, [I o_.States, I o_.Kinds, I o_.Init, Sl a1 o_.Rows c1]))]⟩ fun ρ a w109 χ110 hS hE hr => ?_
 replace hO := hO.mv hE rfl rfl
 replace h1 := h1.mv hE rfl
 replace h2 := h2.mv hE rfl
 clear hE hr
 refine regO ?_
 refine oP T hS 1 ⟨[(1, Sl a2 l_ c2), (2, I most), (12, V (.agg #[.int .i64 o_.States, .int .i64 o_.Kinds, .int .i64 o_.Init, .slice a1 o_.Rows.length c1]))], []⟩ fun a hS => ?_
 obtain ⟨hq, hm⟩ := hm
 refine op1 (call hS kr kr hb30 kr (fun _ _ => rfl) (k30 _ _ o_ a1 c1 hq h1) ?_)
 intro v101 a w102 χ103 hE hp hS
 clear hq
 replace hO := hO.mv hE rfl rfl
 replace h1 := h1.mv hE rfl
 replace h2 := h2.mv hE rfl
 clear hE
 obtain ⟨r104, hr⟩ : ∃ r, object_Check o_ = r := ⟨_, rfl⟩
 replace hm := hm r104 hr
 rw [hr] at hp
 clear hr
 subst hp
 refine eP T hS ⟨[(1, Sl a2 l_ c2), (2, I most), (8, I r104.2)], []⟩ fun a hS => ?_
 refine regO ?_
 refine oP T hS 1 ⟨[(1, Sl a2 l_ c2), (2, I most), (8, I r104.2), (17, Sl a2 l_ c2)], []⟩ fun a hS => ?_
 refine op1 (call hS kr kr hb33 kr (fun _ _ => rfl) (k33 _ _ l_ a2 c2 h2) ?_)
 intro v105 a w106 χ107 hE hp hS
 replace hO := hO.mv hE rfl rfl
 replace h2 := h2.mv hE rfl
 clear hE
 obtain ⟨r108, hr⟩ : ∃ r, oper_Check l_ = r := ⟨_, rfl⟩
 replace hm := hm r108 hr
 rw [hr] at hp
 clear hr
 subst hp
 refine eP T hS ⟨[(1, Sl a2 l_ c2), (2, I most), (8, I r104.2), (10, I r108.2)], []⟩ fun a hS => ?_
 refine wseq ?_
 refine wblock ?_
 refine rP T hS ⟨[(1, Sl a2 l_ c2), (2, I most), (21, B ((r104.2 != 0) || (r108.2 != 0)))], []⟩ (sp := [24]) fun a hS => ?_
 refine wcond hS (b := ((r104.2 != 0) || (r108.2 != 0))) kr (fun hb => ?_) (fun hb => ?_)
 ·replace hm := hm.1 hb
  refine rP T hS ⟨[(6, I 2)], []⟩ fun a hS => ?_
  refine wret ?_
  exact fin T hS hO (fun c => c) rfl (r := [.int .i64 2]) kr (fun χ' hM hC => ⟨2, hm, rfl⟩)
 ·replace hm := hm.2 hb
  refine rP T hS ⟨[(28, B (decide (((l_.length : Nat) : Int) > most)))], []⟩ fun a hS => ?_
  refine wcond hS (b := decide (((l_.length : Nat) : Int) > most)) kr (fun hb => ?_) (fun hb => ?_)
  ·replace hm := hm.1 hb
   refine rP T hS ⟨[(6, I 3)], []⟩ fun a hS => ?_
   refine wret ?_
   exact fin T hS hO (fun c => c) rfl (r := [.int .i64 3]) kr (fun χ' hM hC => ⟨3, hm, rfl⟩)
  ·replace hm := hm.2 hb
   refine wskip ?_
   refine rP T hS ⟨[(6, I 0)], []⟩ fun a hS => ?_
   refine wret ?_
   exact fin T hS hO (fun c => c) rfl (r := [.int .i64 0]) kr (fun χ' hM hC => ⟨0, hm, rfl⟩)
theorem C19 (k30 : S30) (k33 : S33) (v : ∀ (o_ : Api_Object) (l_ : List Api_Oper) (most : Int), preCk o_ l_ most → VC19 o_ l_ most (fun r => r = search_check o_ l_ most)) : S19 := by
 intro w χ o_ l_ most a1 c1 a2 c2   hp h1 h2
 refine (W19 k30 k33 w χ o_ l_ most a1 c1 a2 c2   _ (v o_ l_ most hp) h1 h2).mono ?_
 rintro _ _ _ _ ⟨r, rfl, h⟩
 exact h
/-- slices.Clone[[]replevin/api.Pick,replevin/api.Pick] -/
theorem W37 (w0 : World) (χ0 : Nat → Nat) (s_ : List Api_Pick) (a1 : Option Addr) (c1 : Nat) (col1 : Nat) (Q : (List Api_Pick) → Prop) (hm : VC37 s_ Q) (h1 : RS tApi_Pick w0 χ0 a1 s_ c1) :
  Ret Try.prog 37 #[.slice a1 s_.length c1] xnone w0 χ0 (fun w χ' v => ∃ r, Q r ∧ ∃ (ra1 : Option Addr) (rc1 : Nat), v = .slice ra1 r.length rc1 ∧ OS tApi_Pick 51 w χ' col1 ra1 r rc1) := by
 unfold VC37 at hm
 replace hm := hm (h1.sm kr)
 refine enter Try.func37 rfl (vals := [.slice a1 s_.length c1]) kr ?_
 intro ρ a hS hO hM
 replace h1 := h1.m0 hM
 clear hM
 refine rP T hS ⟨[(0, Sl a1 s_ c1)], []⟩ fun a hS => ?_
 refine wseq ?_
 refine regO ?_
 refine oP T hS 1 ⟨[(0, Sl a1 s_ c1), (3, Sl a1 s_ c1)], []⟩ fun a hS => ?_
 obtain ⟨b101, hb102⟩ : ∃ q : Bool, a1.isNone = q := ⟨_, rfl⟩
 replace hm := hm b101 (h1.nilE hb102)
 refine op1 (eqNil (e := 51) (m := s_.length) (c := c1) hS kr kr kr kr Try.underlying28 hb102 ?_)
 intro a hS
 clear hb102
 refine doneK ?_
 refine wcond hS (b := b101) kr (fun hb => ?_) (fun hb => ?_)
 ·replace hm := hm.1 hb
  refine rP T hS ⟨[(2, V (.slice none 0 0))], []⟩ fun a hS => ?_
  refine wret ?_
  exact fin T hS hO (fun c => c) rfl (r := [.slice none 0 0]) kr (fun χ' hM hC => ⟨[], hm, none, 0, rfl, OS.nil _ _ _ _ _⟩)
 ·replace hm := hm.2 hb
  refine wskip ?_
  refine regO ?_
  refine op1 (lit (E := 51) (col := 1003) (T := tApi_Pick) (vals := []) (ys := ([] : List Api_Pick)) T hS kr kr kr kr trivial rfl kr kr kr kr ?_)
  intro b103 a w104 χ105 hE h106 hN hS
  clear hN
  replace hO := hO.mv hE rfl rfl
  replace h1 := h1.mv hE rfl
  clear hE
  refine oP T hS 1 ⟨[(5, Sl (some ⟨b103, 0, none⟩) ([] : List Api_Pick) 0), (6, Sl a1 s_ c1)], []⟩ fun a hS => ?_
  obtain ⟨hq, hm⟩ := hm
  obtain ⟨news, hN⟩ := h1.src
  refine op1 (append (E := 51) (T := tApi_Pick) (col := 1003) (xs := ([] : List Api_Pick)) T hS kr kr kr kr h106 hN kr kr kr kr hq ?_)
  intro a110 c111 a w107 χ108 hE h109 hS
  clear hq hN
  clear h106
  replace hO := hO.mv hE rfl rfl
  replace h1 := h1.mv hE rfl
  clear hE
  refine eP T hS ⟨[(2, Sl a110 (([] : List Api_Pick) ++ s_) c111)], []⟩ fun a hS => ?_
  refine wret ?_
  exact fin T hS hO (fun c => (bif Nat.beq c 1003 then col1 else c)) rfl (r := [.slice a110 (([] : List Api_Pick) ++ s_).length c111]) kr (fun χ' hM hC => ⟨(([] : List Api_Pick) ++ s_), hm, a110, c111, rfl, (OS.out (f := (fun c => (bif Nat.beq c 1003 then col1 else c))) h109 hM hC kr)⟩)
theorem C37 (v : ∀ (s_ : List Api_Pick), preCl s_ → VC37 s_ (fun r => r = slices_Clone_api_Pick_api_Pick s_)) : S37 := by
 intro w χ s_ a1 c1 col1  hp h1
 refine (W37 w χ s_ a1 c1 col1  _ (v s_ hp) h1).mono ?_
 rintro _ _ _ _ ⟨r, rfl, h⟩
 exact h
/-- (*replevin/search.seeker).here -/
theorem W35 (w0 : World) (χ0 : Nat → Nat) (state : Int) (cap1 : Search_seeker) (a1 : Option Addr) (c1 : Nat) (a2 : Option Addr) (c2 : Nat) (a3 : Option Addr) (c3 : Nat) (r4 : Nat) (m4 : Nat) (b1 : Nat) (i1 : Nat) (Q : Search_spot → Prop) (hm : VC35 state cap1 Q) (h1 : RS tApi_Row w0 χ0 a1 cap1.o.Rows c1) (h2 : RS tApi_Oper w0 χ0 a2 cap1.l c2) (h3 : RS tBool w0 χ0 a3 cap1.done c3) (h4 : OMS kvSearch_spot tI false w0 χ0 m4 r4 cap1.failed) (hc1 : Cell w0 χ0 b1 i1 76 [.int .i64 cap1.o.States, .int .i64 cap1.o.Kinds, .int .i64 cap1.o.Init, .slice a1 cap1.o.Rows.length c1, .slice a2 cap1.l.length c2, .slice a3 cap1.done.length c3, .map (some r4)]) (hA : Apart [i1, m4]) :
  Ret Try.prog 35 #[.pointer (some ⟨b1, 0, none⟩), .int .i64 state] (pR [i1, m4]) w0 χ0 (fun w χ' v => ∃ r, Q r ∧ v = .agg #[.int .u32 r.done, .int .i64 r.state] ∧ Cell w χ' b1 i1 76 [.int .i64 cap1.o.States, .int .i64 cap1.o.Kinds, .int .i64 cap1.o.Init, .slice a1 cap1.o.Rows.length c1, .slice a2 cap1.l.length c2, .slice a3 cap1.done.length c3, .map (some r4)] ∧ OMS kvSearch_spot tI false w χ' m4 r4 cap1.failed) := by
 unfold VC35 at hm
 replace hm := hm (h1.sm kr)
 replace hm := hm (h2.sm kr)
 replace hm := hm (h3.sm kr)
 refine enterR Try.func35 rfl (f0of [(i1, 901), (m4, 2004)]) (fun id => (bif Nat.beq id 901 then b1 else 0)) (args := [Pt 901 0, I state]) (bxs := [(901, (76, [I cap1.o.States, I cap1.o.Kinds, I cap1.o.Init, Sl a1 cap1.o.Rows c1, Sl a2 cap1.l c2, Sl a3 cap1.done c3, V (.map (some r4))]))]) kr rfl (BoxesOK.cons kr (hc1.map (f0of_at 0 hA.1 rfl)) BoxesOK.nil) (f0of_0 (fun q hq => (hA.2 q.1 (List.mem_map.2 ⟨q, hq, rfl⟩)).1)) ?_
 intro a hS hO hM
 have hP : Pin [(901, b1)] (fun id => (bif Nat.beq id 901 then b1 else 0)) := by intro q hq; simp at hq; rcases hq with rfl <;> rfl
 generalize (fun id => (bif Nat.beq id 901 then b1 else 0)) = ρ at hS hP
 clear hc1
 replace h1 := h1.m0 hM
 replace h2 := h2.m0 hM
 replace h3 := h3.m0 hM
 replace h4 := h4.map (f := f0of [(i1, 901), (m4, 2004)]) (f0of_at 1 hA.1 rfl) hM
 clear hM
 refine rM T hS ⟨[(0, Pt 901 0), (1, I state), (4, Pt 5 0)], [(5, (79, [V (.int .u32 0), I 0])), (901, (76, [I cap1.o.States, I cap1.o.Kinds, I cap1.o.Init, Sl a1 cap1.o.Rows c1, Sl a2 cap1.l c2, Sl a3 cap1.done c3, V (.map (some r4))]))]⟩ fun ρ a w138 χ139 hS hE hr => ?_
 replace hO := hO.mv hE rfl rfl
 replace h1 := h1.mv hE rfl
 replace h2 := h2.mv hE rfl
 replace h3 := h3.mv hE rfl
 replace h4 := h4.mv hE rfl rfl
 replace hP := hP.mv hr kr
 clear hE hr
 refine rM T hS ⟨[(0, Pt 901 0), (4, Pt 5 0), (5, Pt 6 0)], [(5, (79, [V (.int .u32 0), I 0])), (6, (79, [V (.int .u32 0), I state])), (901, (76, [I cap1.o.States, I cap1.o.Kinds, I cap1.o.Init, Sl a1 cap1.o.Rows c1, Sl a2 cap1.l c2, Sl a3 cap1.done c3, V (.map (some r4))]))]⟩ fun ρ a w136 χ137 hS hE hr => ?_
 replace hO := hO.mv hE rfl rfl
 replace h1 := h1.mv hE rfl
 replace h2 := h2.mv hE rfl
 replace h3 := h3.mv hE rfl
 replace h4 := h4.mv hE rfl rfl
 replace hP := hP.mv hr kr
 clear hE hr
 refine wcut (fun a w => ∃ (ρ : Nat → Nat) (χ : Nat → Nat) (x_101 : Int) (x_102 : Int), VC35_J1 Q x_101 x_102 ∧ St Try.f35.ntmps ⟨[(4, Pt 5 0), (5, Pt 6 0)], [(5, (79, [V (.int .u32 0), I 0])), (6, (79, [V (.int .u32 x_101), I x_102])), (901, (76, [I cap1.o.States, I cap1.o.Kinds, I cap1.o.Init, Sl a1 cap1.o.Rows c1, Sl a2 cap1.l c2, Sl a3 cap1.done c3, V (.map (some r4))]))]⟩ ρ a w χ ∧ OldR (f0of [(i1, 901), (m4, 2004)]) w0 χ0 w χ ∧ Pin [(901, b1)] ρ ∧ RS tApi_Row w χ a1 cap1.o.Rows c1 ∧ RS tApi_Oper w χ a2 cap1.l c2 ∧ RS tBool w χ a3 cap1.done c3 ∧ OMS kvSearch_spot tI false w χ 2004 r4 cap1.failed) ?_ ?_
 ·refine rP T hS ⟨[(4, Pt 5 0), (5, Pt 6 0), (13, Sl a3 cap1.done c3), (14, I ((cap1.done.length : Nat) : Int)), (15, I 0)], [(5, (79, [V (.int .u32 0), I 0])), (6, (79, [V (.int .u32 0), I state])), (901, (76, [I cap1.o.States, I cap1.o.Kinds, I cap1.o.Init, Sl a1 cap1.o.Rows c1, Sl a2 cap1.l c2, Sl a3 cap1.done c3, V (.map (some r4))]))]⟩ fun a hS => ?_
  refine wblock ?_
  obtain ⟨I1, μ1, hm0, hm⟩ := hm
  refine wloop (σ := Int × Int × Int) (fun s a w => ∃ (ρ : Nat → Nat) (χ : Nat → Nat), I1 s.1 s.2.1 s.2.2 ∧ St Try.f35.ntmps ⟨[(4, Pt 5 0), (5, Pt 6 0), (13, Sl a3 cap1.done c3), (14, I ((cap1.done.length : Nat) : Int)), (15, I s.1)], [(5, (79, [V (.int .u32 0), I 0])), (6, (79, [V (.int .u32 s.2.1), I s.2.2])), (901, (76, [I cap1.o.States, I cap1.o.Kinds, I cap1.o.Init, Sl a1 cap1.o.Rows c1, Sl a2 cap1.l c2, Sl a3 cap1.done c3, V (.map (some r4))]))]⟩ ρ a w χ ∧ OldR (f0of [(i1, 901), (m4, 2004)]) w0 χ0 w χ ∧ Pin [(901, b1)] ρ ∧ RS tBool w χ a3 cap1.done c3 ∧ RS tApi_Row w χ a1 cap1.o.Rows c1 ∧ RS tApi_Oper w χ a2 cap1.l c2 ∧ RS tBool w χ a3 cap1.done c3 ∧ OMS kvSearch_spot tI false w χ 2004 r4 cap1.failed) (fun s => μ1 s.1 s.2.1 s.2.2) (⟨0, 0, state⟩) ?_ ?_
  ·exact ⟨ρ, _, hm0, hS.sl _, hO, hP, h3, h1, h2, h3, h4⟩
  ·rintro ⟨x_110, x_111, x_112⟩ a w133 ⟨ρ, χ132, hI, hS, hO, hP, h109, h113, h114, h115, h116⟩
   replace hm := hm x_110 x_111 x_112 hI
   clear hI hm0
   refine rP T hS ⟨[(4, Pt 5 0), (5, Pt 6 0), (13, Sl a3 cap1.done c3), (14, I ((cap1.done.length : Nat) : Int)), (15, I x_110), (16, B (decide (x_110 < ((cap1.done.length : Nat) : Int))))], [(5, (79, [V (.int .u32 0), I 0])), (6, (79, [V (.int .u32 x_111), I x_112])), (901, (76, [I cap1.o.States, I cap1.o.Kinds, I cap1.o.Init, Sl a1 cap1.o.Rows c1, Sl a2 cap1.l c2, Sl a3 cap1.done c3, V (.map (some r4))]))]⟩ fun a hS => ?_
   refine wseq ?_
   refine wcond hS (b := decide (x_110 < ((cap1.done.length : Nat) : Int))) kr (fun hb => ?_) (fun hb => ?_)
   ·replace hm := hm.1 hb
    refine wskip ?_
    refine wcut (fun a w => ∃ (ρ : Nat → Nat) (χ : Nat → Nat) (x_118 : Int), VC35_J2 I1 μ1 x_110 x_111 x_112 x_118 ∧ St Try.f35.ntmps ⟨[(4, Pt 5 0), (5, Pt 6 0), (13, Sl a3 cap1.done c3), (14, I ((cap1.done.length : Nat) : Int)), (15, I x_110)], [(5, (79, [V (.int .u32 0), I 0])), (6, (79, [V (.int .u32 x_118), I x_112])), (901, (76, [I cap1.o.States, I cap1.o.Kinds, I cap1.o.Init, Sl a1 cap1.o.Rows c1, Sl a2 cap1.l c2, Sl a3 cap1.done c3, V (.map (some r4))]))]⟩ ρ a w χ ∧ OldR (f0of [(i1, 901), (m4, 2004)]) w0 χ0 w χ ∧ Pin [(901, b1)] ρ ∧ RS tBool w χ a3 cap1.done c3 ∧ RS tApi_Row w χ a1 cap1.o.Rows c1 ∧ RS tApi_Oper w χ a2 cap1.l c2 ∧ RS tBool w χ a3 cap1.done c3 ∧ OMS kvSearch_spot tI false w χ 2004 r4 cap1.failed) ?_ ?_
    ·refine wblock ?_
     refine regO ?_
     refine oP T hS 1 ⟨[(4, Pt 5 0), (5, Pt 6 0), (13, Sl a3 cap1.done c3), (14, I ((cap1.done.length : Nat) : Int)), (15, I x_110), (17, I x_110)], [(5, (79, [V (.int .u32 0), I 0])), (6, (79, [V (.int .u32 x_111), I x_112])), (901, (76, [I cap1.o.States, I cap1.o.Kinds, I cap1.o.Init, Sl a1 cap1.o.Rows c1, Sl a2 cap1.l c2, Sl a3 cap1.done c3, V (.map (some r4))]))]⟩ fun a hS => ?_
     obtain ⟨hq, hm⟩ := hm
     refine op1 (index (e := 4) (k := .i64) T hS kr kr kr kr h109 kr kr hq.1 hq.2 ?_)
     intro A123 a h124 hS
     clear hq
     refine op1 (load1 T hS kr kr kr h124 rfl kr ?_)
     intro v125 a hv hS
     cases hv
     refine eP T hS ⟨[(4, Pt 5 0), (5, Pt 6 0), (6, I x_110), (7, B (gi cap1.done x_110)), (13, Sl a3 cap1.done c3), (14, I ((cap1.done.length : Nat) : Int)), (15, I x_110)], [(5, (79, [V (.int .u32 0), I 0])), (6, (79, [V (.int .u32 x_111), I x_112])), (901, (76, [I cap1.o.States, I cap1.o.Kinds, I cap1.o.Init, Sl a1 cap1.o.Rows c1, Sl a2 cap1.l c2, Sl a3 cap1.done c3, V (.map (some r4))]))]⟩ fun a hS => ?_
     refine rP T hS ⟨[(4, Pt 5 0), (5, Pt 6 0), (6, I x_110), (13, Sl a3 cap1.done c3), (14, I ((cap1.done.length : Nat) : Int)), (15, I x_110), (20, B (gi cap1.done x_110))], [(5, (79, [V (.int .u32 0), I 0])), (6, (79, [V (.int .u32 x_111), I x_112])), (901, (76, [I cap1.o.States, I cap1.o.Kinds, I cap1.o.Init, Sl a1 cap1.o.Rows c1, Sl a2 cap1.l c2, Sl a3 cap1.done c3, V (.map (some r4))]))]⟩ fun a hS => ?_
     refine wcond hS (b := gi cap1.done x_110) kr (fun hb => ?_) (fun hb => ?_)
     ·replace hm := hm.1 hb
      refine drawnX [5, 901] mixed hS ?_
      intro w126 χ127 hS hE hD hH
      replace hO := hO.mv hE rfl rfl
      replace h109 := h109.mv hE rfl
      replace h113 := h113.mv hE rfl
      replace h114 := h114.mv hE rfl
      replace h115 := h115.mv hE rfl
      replace h116 := h116.mv hE rfl rfl
      clear hE
      refine tk T [0, 2] [5, 901] hS hH #[true, false, true, false, false, false, false] 5 ⟨[(4, Pt 5 0), (5, Pt 6 0), (13, Sl a3 cap1.done c3), (14, I ((cap1.done.length : Nat) : Int)), (15, I x_110), (21, Pt 6 0), (23, I x_110)], [(5, (79, [V (.int .u32 0), I 0])), (6, (79, [V (.int .u32 x_111), I x_112])), (901, (76, [I cap1.o.States, I cap1.o.Kinds, I cap1.o.Init, Sl a1 cap1.o.Rows c1, Sl a2 cap1.l c2, Sl a3 cap1.done c3, V (.map (some r4))]))]⟩ fun a hS => ?_
      obtain ⟨hq, hm⟩ := hm
      refine dshlV (k := .u32) (k2 := .i64) (p := 1) (q := x_110) 3 hS kr kr kr (by rfl) kr hH kr kr hq ?_
      intro a hS
      clear hq
      refine only 1 kr (by rfl) (plain1 T hS kr kr kr (sv := V (.int .u32 x_111)) kr ?_)
      intro a hS
      refine andH (Hold.of hS (bks := [5, 901]) kr hD) ?_
      intro hH
      refine tk T [4, 5] [5, 901] hS hH #[true, true, true, true, true, true, false] 1 ⟨[(4, Pt 5 0), (5, Pt 6 0), (13, Sl a3 cap1.done c3), (14, I ((cap1.done.length : Nat) : Int)), (15, I x_110), (25, V (.int .u32 (IntKind.u32.wrap ((BitVec.ofInt IntKind.u32.bits x_111 ||| BitVec.ofInt IntKind.u32.bits (IntKind.u32.wrap (1 * 2 ^ (min x_110.toNat IntKind.u32.bits)))).toNat : Int)))), (26, Pt 6 0)], [(5, (79, [V (.int .u32 0), I 0])), (6, (79, [V (.int .u32 x_111), I x_112])), (901, (76, [I cap1.o.States, I cap1.o.Kinds, I cap1.o.Init, Sl a1 cap1.o.Rows c1, Sl a2 cap1.l c2, Sl a3 cap1.done c3, V (.map (some r4))]))]⟩ fun a hS => ?_
      replace hS := hS.sl ⟨[(4, Pt 5 0), (5, Pt 6 0), (13, Sl a3 cap1.done c3), (14, I ((cap1.done.length : Nat) : Int)), (15, I x_110), (25, V (.int .u32 (IntKind.u32.wrap ((BitVec.ofInt IntKind.u32.bits x_111 ||| BitVec.ofInt IntKind.u32.bits (IntKind.u32.wrap (1 * 2 ^ (min x_110.toNat IntKind.u32.bits)))).toNat : Int)))), (26, Pt 6 0)], [(5, (79, [V (.int .u32 0), I 0])), (6, (79, [V (.int .u32 x_111), I x_112])), (901, (76, [I cap1.o.States, I cap1.o.Kinds, I cap1.o.Init, Sl a1 cap1.o.Rows c1, Sl a2 cap1.l c2, Sl a3 cap1.done c3, V (.map (some r4))]))]⟩
      refine only 6 kr (by rfl) (store1 T hS kr kr (sy' := ⟨[(4, Pt 5 0), (5, Pt 6 0), (13, Sl a3 cap1.done c3), (14, I ((cap1.done.length : Nat) : Int)), (15, I x_110), (25, V (.int .u32 (IntKind.u32.wrap ((BitVec.ofInt IntKind.u32.bits x_111 ||| BitVec.ofInt IntKind.u32.bits (IntKind.u32.wrap (1 * 2 ^ (min x_110.toNat IntKind.u32.bits)))).toNat : Int)))), (26, Pt 6 0)], [(6, (79, [V (.int .u32 (IntKind.u32.wrap ((BitVec.ofInt IntKind.u32.bits x_111 ||| BitVec.ofInt IntKind.u32.bits (IntKind.u32.wrap (1 * 2 ^ (min x_110.toNat IntKind.u32.bits)))).toNat : Int))), I x_112])), (5, (79, [V (.int .u32 0), I 0])), (6, (79, [V (.int .u32 x_111), I x_112])), (901, (76, [I cap1.o.States, I cap1.o.Kinds, I cap1.o.Init, Sl a1 cap1.o.Rows c1, Sl a2 cap1.l c2, Sl a3 cap1.done c3, V (.map (some r4))]))]⟩) kr ?_)
      intro a w128 χ129 hS hE
      replace hO := hO.mv hE rfl rfl
      replace hD := hD.ev hE rfl
      replace h109 := h109.mv hE rfl
      replace h113 := h113.mv hE rfl
      replace h114 := h114.mv hE rfl
      replace h115 := h115.mv hE rfl
      replace h116 := h116.mv hE rfl rfl
      clear hE
      replace hS := hS.sl ⟨[(4, Pt 5 0), (5, Pt 6 0), (13, Sl a3 cap1.done c3), (14, I ((cap1.done.length : Nat) : Int)), (15, I x_110), (25, V (.int .u32 (IntKind.u32.wrap ((BitVec.ofInt IntKind.u32.bits x_111 ||| BitVec.ofInt IntKind.u32.bits (IntKind.u32.wrap (1 * 2 ^ (min x_110.toNat IntKind.u32.bits)))).toNat : Int)))), (26, Pt 6 0)], [(5, (79, [V (.int .u32 0), I 0])), (6, (79, [V (.int .u32 (IntKind.u32.wrap ((BitVec.ofInt IntKind.u32.bits x_111 ||| BitVec.ofInt IntKind.u32.bits (IntKind.u32.wrap (1 * 2 ^ (min x_110.toNat IntKind.u32.bits)))).toNat : Int))), I x_112])), (901, (76, [I cap1.o.States, I cap1.o.Kinds, I cap1.o.Init, Sl a1 cap1.o.Rows c1, Sl a2 cap1.l c2, Sl a3 cap1.done c3, V (.map (some r4))]))]⟩
      refine andH (Hold.of hS (bks := [5, 901]) kr hD) ?_
      intro hH
      refine drawnDone kr ?_
      clear hD hH
      replace hS := hS.sl ⟨[(4, Pt 5 0), (5, Pt 6 0), (13, Sl a3 cap1.done c3), (14, I ((cap1.done.length : Nat) : Int)), (15, I x_110)], [(5, (79, [V (.int .u32 0), I 0])), (6, (79, [V (.int .u32 (IntKind.u32.wrap ((BitVec.ofInt IntKind.u32.bits x_111 ||| BitVec.ofInt IntKind.u32.bits (IntKind.u32.wrap (1 * 2 ^ (min x_110.toNat IntKind.u32.bits)))).toNat : Int))), I x_112])), (901, (76, [I cap1.o.States, I cap1.o.Kinds, I cap1.o.Init, Sl a1 cap1.o.Rows c1, Sl a2 cap1.l c2, Sl a3 cap1.done c3, V (.map (some r4))]))]⟩
      exact ⟨ρ, _, IntKind.u32.wrap ((BitVec.ofInt IntKind.u32.bits x_111 ||| BitVec.ofInt IntKind.u32.bits (IntKind.u32.wrap (1 * 2 ^ (min x_110.toNat IntKind.u32.bits)))).toNat : Int), hm, hS.sl _, hO, hP, h109, h113, h114, h115, h116⟩
     ·replace hm := hm.2 hb
      refine wskip ?_
      exact ⟨ρ, _, x_111, hm, hS.sl _, hO, hP, h109, h113, h114, h115, h116⟩
    ·rintro a w131 ⟨ρ, χ130, x_118, hm, hS, hO, hP, h117, h119, h120, h121, h122⟩
     unfold VC35_J2 at hm
     refine region (eP T hS ⟨[(4, Pt 5 0), (5, Pt 6 0), (13, Sl a3 cap1.done c3), (14, I ((cap1.done.length : Nat) : Int)), (15, I (IntKind.i64.wrap (x_110 + 1)))], [(5, (79, [V (.int .u32 0), I 0])), (6, (79, [V (.int .u32 x_118), I x_112])), (901, (76, [I cap1.o.States, I cap1.o.Kinds, I cap1.o.Init, Sl a1 cap1.o.Rows c1, Sl a2 cap1.l c2, Sl a3 cap1.done c3, V (.map (some r4))]))]⟩ fun a hS => ?_)
     exact ⟨⟨IntKind.i64.wrap (x_110 + 1), x_118, x_112⟩, ⟨ρ, _, hm.1, hS.sl _, hO, hP, h117, h119, h120, h121, h122⟩, hm.2⟩
   ·replace hm := hm.2 hb
    refine wexit (by rfl) ?_
    exact ⟨ρ, _, x_111, x_112, hm, hS.sl _, hO, hP, h113, h114, h115, h116⟩
 ·rintro a w135 ⟨ρ, χ134, x_101, x_102, hm, hS, hO, hP, h103, h104, h105, h106⟩
  unfold VC35_J1 at hm
  refine rM T hS ⟨[(4, Pt 5 0)], [(5, (79, [V (.int .u32 x_101), I x_102])), (901, (76, [I cap1.o.States, I cap1.o.Kinds, I cap1.o.Init, Sl a1 cap1.o.Rows c1, Sl a2 cap1.l c2, Sl a3 cap1.done c3, V (.map (some r4))]))]⟩ fun ρ a w107 χ108 hS hE hr => ?_
  replace hO := hO.mv hE rfl rfl
  replace h103 := h103.mv hE rfl
  replace h104 := h104.mv hE rfl
  replace h105 := h105.mv hE rfl
  replace h106 := h106.mv hE rfl rfl
  replace hP := hP.mv hr kr
  clear hE hr
  refine wret ?_
  exact finR T hS hO (fun c h => f0of_zero kr h) (fun c h => f0of_else (l := [(i1, 901), (m4, 2004)]) h) (f1of [(i1, 901), (m4, 2004)]) rfl (r := [.agg #[.int .u32 x_101, .int .i64 x_102]]) kr (fun χ' hM hC => ⟨(⟨x_101, x_102⟩ : Search_spot), hm, rfl, ((hS.cell (id := 901) (t := 76) (cs := [I cap1.o.States, I cap1.o.Kinds, I cap1.o.Init, Sl a1 cap1.o.Rows c1, Sl a2 cap1.l c2, Sl a3 cap1.done c3, V (.map (some r4))]) kr).out (f := (f1of [(i1, 901), (m4, 2004)])) hC kr kr (hP.at 0 rfl)), (h106.out (f := (f1of [(i1, 901), (m4, 2004)])) hM hC kr kr)⟩)
theorem C35 (v : ∀ (state : Int) (cap1 : Search_seeker), VC35 state cap1 (fun r => r = search_seeker_here state cap1)) : S35 := by
 intro w χ state cap1 a1 c1 a2 c2 a3 c3 r4 m4  b1 i1 h1 h2 h3 h4 hc1 hA
 refine (W35 w χ state cap1 a1 c1 a2 c2 a3 c3 r4 m4  b1 i1 _ (v state cap1) h1 h2 h3 h4 hc1 hA).mono ?_
 rintro _ _ _ _ ⟨r, rfl, h⟩
 exact h
/-- (*replevin/search.seeker).whole -/
theorem W34 (w0 : World) (χ0 : Nat → Nat) (cap1 : Search_seeker) (a1 : Option Addr) (c1 : Nat) (a2 : Option Addr) (c2 : Nat) (a3 : Option Addr) (c3 : Nat) (r4 : Nat) (m4 : Nat) (b1 : Nat) (i1 : Nat) (Q : Bool → Prop) (hm : VC34 cap1 Q) (h1 : RS tApi_Row w0 χ0 a1 cap1.o.Rows c1) (h2 : RS tApi_Oper w0 χ0 a2 cap1.l c2) (h3 : RS tBool w0 χ0 a3 cap1.done c3) (h4 : OMS kvSearch_spot tI false w0 χ0 m4 r4 cap1.failed) (hc1 : Cell w0 χ0 b1 i1 76 [.int .i64 cap1.o.States, .int .i64 cap1.o.Kinds, .int .i64 cap1.o.Init, .slice a1 cap1.o.Rows.length c1, .slice a2 cap1.l.length c2, .slice a3 cap1.done.length c3, .map (some r4)]) (hA : Apart [i1, m4]) :
  Ret Try.prog 34 #[.pointer (some ⟨b1, 0, none⟩)] (pR [i1, m4]) w0 χ0 (fun w χ' v => ∃ r, Q r ∧ v = .bool r ∧ Cell w χ' b1 i1 76 [.int .i64 cap1.o.States, .int .i64 cap1.o.Kinds, .int .i64 cap1.o.Init, .slice a1 cap1.o.Rows.length c1, .slice a2 cap1.l.length c2, .slice a3 cap1.done.length c3, .map (some r4)] ∧ OMS kvSearch_spot tI false w χ' m4 r4 cap1.failed) := by
 unfold VC34 at hm
 replace hm := hm (h1.sm kr)
 replace hm := hm (h2.sm kr)
 replace hm := hm (h3.sm kr)
 refine enterR Try.func34 rfl (f0of [(i1, 901), (m4, 2004)]) (fun id => (bif Nat.beq id 901 then b1 else 0)) (args := [Pt 901 0]) (bxs := [(901, (76, [I cap1.o.States, I cap1.o.Kinds, I cap1.o.Init, Sl a1 cap1.o.Rows c1, Sl a2 cap1.l c2, Sl a3 cap1.done c3, V (.map (some r4))]))]) kr rfl (BoxesOK.cons kr (hc1.map (f0of_at 0 hA.1 rfl)) BoxesOK.nil) (f0of_0 (fun q hq => (hA.2 q.1 (List.mem_map.2 ⟨q, hq, rfl⟩)).1)) ?_
 intro a hS hO hM
 have hP : Pin [(901, b1)] (fun id => (bif Nat.beq id 901 then b1 else 0)) := by intro q hq; simp at hq; rcases hq with rfl <;> rfl
 generalize (fun id => (bif Nat.beq id 901 then b1 else 0)) = ρ at hS hP
 clear hc1
 replace h1 := h1.m0 hM
 replace h2 := h2.m0 hM
 replace h3 := h3.m0 hM
 replace h4 := h4.map (f := f0of [(i1, 901), (m4, 2004)]) (f0of_at 1 hA.1 rfl) hM
 clear hM
 refine rP T hS ⟨[(0, Pt 901 0)], [(901, (76, [I cap1.o.States, I cap1.o.Kinds, I cap1.o.Init, Sl a1 cap1.o.Rows c1, Sl a2 cap1.l c2, Sl a3 cap1.done c3, V (.map (some r4))]))]⟩ fun a hS => ?_
 refine wcut (fun a w => ∃ (ρ : Nat → Nat) (χ : Nat → Nat), VC34_J1 Q ∧ St Try.f34.ntmps ⟨[], [(901, (76, [I cap1.o.States, I cap1.o.Kinds, I cap1.o.Init, Sl a1 cap1.o.Rows c1, Sl a2 cap1.l c2, Sl a3 cap1.done c3, V (.map (some r4))]))]⟩ ρ a w χ ∧ OldR (f0of [(i1, 901), (m4, 2004)]) w0 χ0 w χ ∧ Pin [(901, b1)] ρ ∧ RS tApi_Row w χ a1 cap1.o.Rows c1 ∧ RS tApi_Oper w χ a2 cap1.l c2 ∧ RS tBool w χ a3 cap1.done c3 ∧ OMS kvSearch_spot tI false w χ 2004 r4 cap1.failed) ?_ ?_
 ·refine rP T hS ⟨[(0, Pt 901 0), (8, Sl a2 cap1.l c2), (9, I ((cap1.l.length : Nat) : Int)), (10, I 0)], [(901, (76, [I cap1.o.States, I cap1.o.Kinds, I cap1.o.Init, Sl a1 cap1.o.Rows c1, Sl a2 cap1.l c2, Sl a3 cap1.done c3, V (.map (some r4))]))]⟩ fun a hS => ?_
  refine wblock ?_
  obtain ⟨I1, μ1, hm0, hm⟩ := hm
  refine wloop (σ := Int) (fun s a w => ∃ (ρ : Nat → Nat) (χ : Nat → Nat), I1 s ∧ St Try.f34.ntmps ⟨[(0, Pt 901 0), (8, Sl a2 cap1.l c2), (9, I ((cap1.l.length : Nat) : Int)), (10, I s)], [(901, (76, [I cap1.o.States, I cap1.o.Kinds, I cap1.o.Init, Sl a1 cap1.o.Rows c1, Sl a2 cap1.l c2, Sl a3 cap1.done c3, V (.map (some r4))]))]⟩ ρ a w χ ∧ OldR (f0of [(i1, 901), (m4, 2004)]) w0 χ0 w χ ∧ Pin [(901, b1)] ρ ∧ RS tApi_Oper w χ a2 cap1.l c2 ∧ RS tApi_Row w χ a1 cap1.o.Rows c1 ∧ RS tApi_Oper w χ a2 cap1.l c2 ∧ RS tBool w χ a3 cap1.done c3 ∧ OMS kvSearch_spot tI false w χ 2004 r4 cap1.failed) (fun s => μ1 s) (0) ?_ ?_
  ·exact ⟨ρ, _, hm0, hS.sl _, hO, hP, h2, h1, h2, h3, h4⟩
  ·rintro x_106 a w128 ⟨ρ, χ127, hI, hS, hO, hP, h105, h107, h108, h109, h110⟩
   replace hm := hm x_106 hI
   clear hI hm0
   refine rP T hS ⟨[(0, Pt 901 0), (8, Sl a2 cap1.l c2), (9, I ((cap1.l.length : Nat) : Int)), (10, I x_106), (11, B (decide (x_106 < ((cap1.l.length : Nat) : Int))))], [(901, (76, [I cap1.o.States, I cap1.o.Kinds, I cap1.o.Init, Sl a1 cap1.o.Rows c1, Sl a2 cap1.l c2, Sl a3 cap1.done c3, V (.map (some r4))]))]⟩ fun a hS => ?_
   refine wseq ?_
   refine wcond hS (b := decide (x_106 < ((cap1.l.length : Nat) : Int))) kr (fun hb => ?_) (fun hb => ?_)
   ·replace hm := hm.1 hb
    refine wskip ?_
    refine wseq ?_
    refine wblock ?_
    refine regO ?_
    refine oP T hS 1 ⟨[(0, Pt 901 0), (8, Sl a2 cap1.l c2), (9, I ((cap1.l.length : Nat) : Int)), (10, I x_106), (12, I x_106)], [(901, (76, [I cap1.o.States, I cap1.o.Kinds, I cap1.o.Init, Sl a1 cap1.o.Rows c1, Sl a2 cap1.l c2, Sl a3 cap1.done c3, V (.map (some r4))]))]⟩ fun a hS => ?_
    obtain ⟨hq, hm⟩ := hm
    refine op1 (index (e := 45) (k := .i64) T hS kr kr kr kr h105 kr kr hq.1 hq.2 ?_)
    intro A111 a h112 hS
    clear hq
    refine op1 (loadA T hS kr kr kr h112 kr kr ?_)
    intro v113 a hv hS
    subst hv
    refine eM T hS ⟨[(0, Pt 901 0), (3, I x_106), (4, Pt 5 0), (8, Sl a2 cap1.l c2), (9, I ((cap1.l.length : Nat) : Int)), (10, I x_106)], [(5, (45, [I ((gi cap1.l x_106).Prc), I ((gi cap1.l x_106).Kind), I ((gi cap1.l x_106).Start), I ((gi cap1.l x_106).End), I ((gi cap1.l x_106).Result)])), (901, (76, [I cap1.o.States, I cap1.o.Kinds, I cap1.o.Init, Sl a1 cap1.o.Rows c1, Sl a2 cap1.l c2, Sl a3 cap1.done c3, V (.map (some r4))]))]⟩ fun ρ a w125 χ126 hS hE hr => ?_
    replace hO := hO.mv hE rfl rfl
    replace h105 := h105.mv hE rfl
    replace h107 := h107.mv hE rfl
    replace h108 := h108.mv hE rfl
    replace h109 := h109.mv hE rfl
    replace h110 := h110.mv hE rfl rfl
    replace hP := hP.mv hr kr
    clear hE hr
    refine wcut (fun a w => ∃ (ρ : Nat → Nat) (χ : Nat → Nat) (x_115 : Bool), VC34_J2 Q I1 μ1 x_106 x_115 ∧ St Try.f34.ntmps ⟨[(0, Pt 901 0), (8, Sl a2 cap1.l c2), (9, I ((cap1.l.length : Nat) : Int)), (10, I x_106), (27, B x_115)], [(901, (76, [I cap1.o.States, I cap1.o.Kinds, I cap1.o.Init, Sl a1 cap1.o.Rows c1, Sl a2 cap1.l c2, Sl a3 cap1.done c3, V (.map (some r4))]))]⟩ ρ a w χ ∧ OldR (f0of [(i1, 901), (m4, 2004)]) w0 χ0 w χ ∧ Pin [(901, b1)] ρ ∧ RS tApi_Oper w χ a2 cap1.l c2 ∧ RS tApi_Row w χ a1 cap1.o.Rows c1 ∧ RS tApi_Oper w χ a2 cap1.l c2 ∧ RS tBool w χ a3 cap1.done c3 ∧ OMS kvSearch_spot tI false w χ 2004 r4 cap1.failed) ?_ ?_
    ·refine region ?_
     refine oP T hS 4 ⟨[(0, Pt 901 0), (3, I x_106), (8, Sl a2 cap1.l c2), (9, I ((cap1.l.length : Nat) : Int)), (10, I x_106), (18, B (((gi cap1.l x_106).End) != (-1)))], [(901, (76, [I cap1.o.States, I cap1.o.Kinds, I cap1.o.Init, Sl a1 cap1.o.Rows c1, Sl a2 cap1.l c2, Sl a3 cap1.done c3, V (.map (some r4))]))]⟩ fun a hS => ?_
     rcases Bool.eq_false_or_eq_true (((gi cap1.l x_106).End) != (-1)) with hb | hb
     ·replace hS := hS.lit (t := 18) kr hb
      replace hm := hm.1 hb
      refine oP T hS 5 ⟨[(0, Pt 901 0), (8, Sl a2 cap1.l c2), (9, I ((cap1.l.length : Nat) : Int)), (10, I x_106), (18, B true), (19, Pt 901 0), (20, Pt 901 0), (21, Pt 901 5), (22, Sl a3 cap1.done c3), (23, I x_106)], [(901, (76, [I cap1.o.States, I cap1.o.Kinds, I cap1.o.Init, Sl a1 cap1.o.Rows c1, Sl a2 cap1.l c2, Sl a3 cap1.done c3, V (.map (some r4))]))]⟩ fun a hS => ?_
      obtain ⟨hq, hm⟩ := hm
      refine op1 (index (e := 4) (k := .i64) T hS kr kr kr kr h109 kr kr hq.1 hq.2 ?_)
      intro A120 a h121 hS
      clear hq
      refine op1 (load1 T hS kr kr kr h121 rfl kr ?_)
      intro v122 a hv hS
      cases hv
      refine eP T hS ⟨[(0, Pt 901 0), (8, Sl a2 cap1.l c2), (9, I ((cap1.l.length : Nat) : Int)), (10, I x_106), (19, Pt 901 0), (20, Pt 901 0), (21, Pt 901 5), (22, Sl a3 cap1.done c3), (23, I x_106), (24, V (.pointer (some A120))), (25, B (gi cap1.done x_106)), (26, B (!(gi cap1.done x_106))), (27, B (!(gi cap1.done x_106)))], [(901, (76, [I cap1.o.States, I cap1.o.Kinds, I cap1.o.Init, Sl a1 cap1.o.Rows c1, Sl a2 cap1.l c2, Sl a3 cap1.done c3, V (.map (some r4))]))]⟩ fun a hS => ?_
      exact ⟨ρ, _, (!(gi cap1.done x_106)), hm, hS.sl _, hO, hP, h105, h107, h108, h109, h110⟩
     ·replace hS := hS.lit (t := 18) kr hb
      replace hm := hm.2 hb
      refine eP T hS ⟨[(0, Pt 901 0), (8, Sl a2 cap1.l c2), (9, I ((cap1.l.length : Nat) : Int)), (10, I x_106), (27, B false)], [(901, (76, [I cap1.o.States, I cap1.o.Kinds, I cap1.o.Init, Sl a1 cap1.o.Rows c1, Sl a2 cap1.l c2, Sl a3 cap1.done c3, V (.map (some r4))]))]⟩ fun a hS => ?_
      exact ⟨ρ, _, false, hm, hS.sl _, hO, hP, h105, h107, h108, h109, h110⟩
    ·rintro a w124 ⟨ρ, χ123, x_115, hm, hS, hO, hP, h114, h116, h117, h118, h119⟩
     unfold VC34_J2 at hm
     refine wcond hS (b := x_115) kr (fun hb => ?_) (fun hb => ?_)
     ·replace hm := hm.1 hb
      refine rP T hS ⟨[(2, B false)], [(901, (76, [I cap1.o.States, I cap1.o.Kinds, I cap1.o.Init, Sl a1 cap1.o.Rows c1, Sl a2 cap1.l c2, Sl a3 cap1.done c3, V (.map (some r4))]))]⟩ fun a hS => ?_
      refine wret ?_
      exact finR T hS hO (fun c h => f0of_zero kr h) (fun c h => f0of_else (l := [(i1, 901), (m4, 2004)]) h) (f1of [(i1, 901), (m4, 2004)]) rfl (r := [.bool false]) kr (fun χ' hM hC => ⟨false, hm, rfl, ((hS.cell (id := 901) (t := 76) (cs := [I cap1.o.States, I cap1.o.Kinds, I cap1.o.Init, Sl a1 cap1.o.Rows c1, Sl a2 cap1.l c2, Sl a3 cap1.done c3, V (.map (some r4))]) kr).out (f := (f1of [(i1, 901), (m4, 2004)])) hC kr kr (hP.at 0 rfl)), (h119.out (f := (f1of [(i1, 901), (m4, 2004)])) hM hC kr kr)⟩)
     ·replace hm := hm.2 hb
      refine wskip ?_
      refine region (eP T hS ⟨[(0, Pt 901 0), (8, Sl a2 cap1.l c2), (9, I ((cap1.l.length : Nat) : Int)), (10, I (IntKind.i64.wrap (x_106 + 1)))], [(901, (76, [I cap1.o.States, I cap1.o.Kinds, I cap1.o.Init, Sl a1 cap1.o.Rows c1, Sl a2 cap1.l c2, Sl a3 cap1.done c3, V (.map (some r4))]))]⟩ fun a hS => ?_)
      exact ⟨IntKind.i64.wrap (x_106 + 1), ⟨ρ, _, hm.1, hS.sl _, hO, hP, h114, h116, h117, h118, h119⟩, hm.2⟩
   ·replace hm := hm.2 hb
    refine wexit (by rfl) ?_
    exact ⟨ρ, _, hm, hS.sl _, hO, hP, h107, h108, h109, h110⟩
 ·rintro a w130 ⟨ρ, χ129, hm, hS, hO, hP, h101, h102, h103, h104⟩
  unfold VC34_J1 at hm
  refine rP T hS ⟨[(2, B true)], [(901, (76, [I cap1.o.States, I cap1.o.Kinds, I cap1.o.Init, Sl a1 cap1.o.Rows c1, Sl a2 cap1.l c2, Sl a3 cap1.done c3, V (.map (some r4))]))]⟩ fun a hS => ?_
  refine wret ?_
  exact finR T hS hO (fun c h => f0of_zero kr h) (fun c h => f0of_else (l := [(i1, 901), (m4, 2004)]) h) (f1of [(i1, 901), (m4, 2004)]) rfl (r := [.bool true]) kr (fun χ' hM hC => ⟨true, hm, rfl, ((hS.cell (id := 901) (t := 76) (cs := [I cap1.o.States, I cap1.o.Kinds, I cap1.o.Init, Sl a1 cap1.o.Rows c1, Sl a2 cap1.l c2, Sl a3 cap1.done c3, V (.map (some r4))]) kr).out (f := (f1of [(i1, 901), (m4, 2004)])) hC kr kr (hP.at 0 rfl)), (h104.out (f := (f1of [(i1, 901), (m4, 2004)])) hM hC kr kr)⟩)
theorem C34 (v : ∀ (cap1 : Search_seeker), preWh cap1 → VC34 cap1 (fun r => r = search_seeker_whole cap1)) : S34 := by
 intro w χ cap1 a1 c1 a2 c2 a3 c3 r4 m4  b1 i1 hp h1 h2 h3 h4 hc1 hA
 refine (W34 w χ cap1 a1 c1 a2 c2 a3 c3 r4 m4  b1 i1 _ (v cap1 hp) h1 h2 h3 h4 hc1 hA).mono ?_
 rintro _ _ _ _ ⟨r, rfl, h⟩
 exact h
/-- (*replevin/search.seeker).first$1 -/
theorem W36 (N : Nat) (k21 : S21N N) (k32 : S32) (k37 : S37) (w0 : World) (χ0 : Nat → Nat) (p_ : Api_Pick) (cap2 : Search_seeker) (cap3 : Int) (cap4 : List Api_Pick) (a1 : Option Addr) (c1 : Nat) (a2 : Option Addr) (c2 : Nat) (a3 : Option Addr) (c3 : Nat) (m3 : Nat) (r4 : Nat) (m4 : Nat) (a5 : Option Addr) (c5 : Nat) (b1 : Nat) (i1 : Nat) (b2 : Nat) (i2 : Nat) (b3 : Nat) (i3 : Nat) (b4 : Nat) (i4 : Nat) (Q : (List Api_Pick) × Bool × Search_seeker → Prop) (hm : VC36 N p_ cap2 cap3 cap4 Q) (h1 : RS tApi_Row w0 χ0 a1 cap2.o.Rows c1) (h2 : RS tApi_Oper w0 χ0 a2 cap2.l c2) (h3 : OS tBool 4 w0 χ0 m3 a3 cap2.done c3) (h4 : OMS kvSearch_spot tI false w0 χ0 m4 r4 cap2.failed) (h5 : RS tApi_Pick w0 χ0 a5 cap4 c5) (hc1 : Cell w0 χ0 b1 i1 53 [.pointer (some ⟨b2, 0, none⟩)]) (hc2 : Cell w0 χ0 b2 i2 76 [.int .i64 cap2.o.States, .int .i64 cap2.o.Kinds, .int .i64 cap2.o.Init, .slice a1 cap2.o.Rows.length c1, .slice a2 cap2.l.length c2, .slice a3 cap2.done.length c3, .map (some r4)]) (hc3 : Cell w0 χ0 b3 i3 3 [.int .i64 cap3]) (hc4 : Cell w0 χ0 b4 i4 28 [.slice a5 cap4.length c5]) (hA : Apart [i1, i2, i3, i4, m3, m4]) :
  Ret Try.prog 36 #[.agg #[.int .i64 p_.Oper, .int .i64 p_.Result], .pointer (some ⟨b1, 0, none⟩), .pointer (some ⟨b3, 0, none⟩), .pointer (some ⟨b4, 0, none⟩)] (pR [i1, i2, i3, i4, m3, m4]) w0 χ0 (fun w χ' v => ∃ r, Q r ∧ ∃ (ra1 : Option Addr) (rc1 : Nat) (ra2 : Option Addr) (rc2 : Nat) (ra3 : Option Addr) (rc3 : Nat) (ra4 : Option Addr) (rc4 : Nat), v = .tuple #[.slice ra1 r.1.length rc1, .bool r.2.1] ∧ RS tApi_Pick w χ' ra1 r.1 rc1 ∧ RS tApi_Row w χ' ra2 r.2.2.o.Rows rc2 ∧ RS tApi_Oper w χ' ra3 r.2.2.l rc3 ∧ OS tBool 4 w χ' m3 ra4 r.2.2.done rc4 ∧ Cell w χ' b1 i1 53 [.pointer (some ⟨b2, 0, none⟩)] ∧ Cell w χ' b2 i2 76 [.int .i64 r.2.2.o.States, .int .i64 r.2.2.o.Kinds, .int .i64 r.2.2.o.Init, .slice ra2 r.2.2.o.Rows.length rc2, .slice ra3 r.2.2.l.length rc3, .slice ra4 r.2.2.done.length rc4, .map (some r4)] ∧ OMS kvSearch_spot tI false w χ' m4 r4 r.2.2.failed ∧ Cell w χ' b3 i3 3 [.int .i64 cap3] ∧ Cell w χ' b4 i4 28 [.slice a5 cap4.length c5]) := by
 unfold VC36 at hm
 replace hm := hm (h1.sm kr)
 replace hm := hm (h2.sm kr)
 replace hm := hm (h3.sm kr)
 replace hm := hm (h5.sm kr)
 refine enterR Try.func36 rfl (f0of [(i1, 901), (i2, 902), (i3, 903), (i4, 904), (m3, 2003), (m4, 2004)]) (fun id => (bif Nat.beq id 901 then b1 else (bif Nat.beq id 902 then b2 else (bif Nat.beq id 903 then b3 else (bif Nat.beq id 904 then b4 else 0))))) (args := [V (.agg #[.int .i64 p_.Oper, .int .i64 p_.Result]), Pt 901 0, Pt 903 0, Pt 904 0]) (bxs := [(901, (53, [Pt 902 0])), (902, (76, [I cap2.o.States, I cap2.o.Kinds, I cap2.o.Init, Sl a1 cap2.o.Rows c1, Sl a2 cap2.l c2, Sl a3 cap2.done c3, V (.map (some r4))])), (903, (3, [I cap3])), (904, (28, [Sl a5 cap4 c5]))]) kr rfl (BoxesOK.cons kr (hc1.map (f0of_at 0 hA.1 rfl)) (BoxesOK.cons kr (hc2.map (f0of_at 1 hA.1 rfl)) (BoxesOK.cons kr (hc3.map (f0of_at 2 hA.1 rfl)) (BoxesOK.cons kr (hc4.map (f0of_at 3 hA.1 rfl)) BoxesOK.nil)))) (f0of_0 (fun q hq => (hA.2 q.1 (List.mem_map.2 ⟨q, hq, rfl⟩)).1)) ?_
 intro a hS hO hM
 have hP : Pin [(901, b1), (902, b2), (903, b3), (904, b4)] (fun id => (bif Nat.beq id 901 then b1 else (bif Nat.beq id 902 then b2 else (bif Nat.beq id 903 then b3 else (bif Nat.beq id 904 then b4 else 0))))) := by intro q hq; simp at hq; rcases hq with rfl | rfl | rfl | rfl <;> rfl
 generalize (fun id => (bif Nat.beq id 901 then b1 else (bif Nat.beq id 902 then b2 else (bif Nat.beq id 903 then b3 else (bif Nat.beq id 904 then b4 else 0))))) = ρ at hS hP
 clear hc1 hc2 hc3 hc4
 replace h1 := h1.m0 hM
 replace h2 := h2.m0 hM
 replace h3 := h3.map (f := f0of [(i1, 901), (i2, 902), (i3, 903), (i4, 904), (m3, 2003), (m4, 2004)]) (f0of_at 4 hA.1 rfl) hM
 replace h4 := h4.map (f := f0of [(i1, 901), (i2, 902), (i3, 903), (i4, 904), (m3, 2003), (m4, 2004)]) (f0of_at 5 hA.1 rfl) hM
 replace h5 := h5.m0 hM
 clear hM
 refine rM T hS ⟨[(1, Pt 901 0), (2, Pt 903 0), (3, Pt 904 0), (4, Pt 5 0)], [(5, (51, [I p_.Oper, I p_.Result])), (901, (53, [Pt 902 0])), (902, (76, [I cap2.o.States, I cap2.o.Kinds, I cap2.o.Init, Sl a1 cap2.o.Rows c1, Sl a2 cap2.l c2, Sl a3 cap2.done c3, V (.map (some r4))])), (903, (3, [I cap3])), (904, (28, [Sl a5 cap4 c5]))]⟩ fun ρ a w214 χ215 hS hE hr => ?_
 replace hO := hO.mv hE rfl rfl
 replace h1 := h1.mv hE rfl
 replace h2 := h2.mv hE rfl
 replace h3 := h3.mv hE rfl rfl
 replace h4 := h4.mv hE rfl rfl
 replace h5 := h5.mv hE rfl
 replace hP := hP.mv hr kr
 clear hE hr
 refine drawnSX [5, 901, 902, 903, 904] mixed hS ?_
 intro w101 χ102 hS hE hD hH
 replace hO := hO.mv hE rfl rfl
 replace h1 := h1.mv hE rfl
 replace h2 := h2.mv hE rfl
 replace h3 := h3.mv hE rfl rfl
 replace h4 := h4.mv hE rfl rfl
 replace h5 := h5.mv hE rfl
 clear hE
 refine tk T [0, 4, 5, 9, 1, 6, 10, 2, 7, 3, 8] [5, 901, 902, 903, 904] hS hH #[true, true, true, true, true, true, true, true, true, true, true, false, false, false, false, false, false, false, false, false, false, false] 11 ⟨[(1, Pt 901 0), (3, Pt 904 0), (4, Pt 5 0), (16, V (.agg #[.int .i64 cap2.o.States, .int .i64 cap2.o.Kinds, .int .i64 cap2.o.Init, .slice a1 cap2.o.Rows.length c1])), (17, I cap3), (21, Sl a2 cap2.l c2), (23, I p_.Oper)], [(5, (51, [I p_.Oper, I p_.Result])), (901, (53, [Pt 902 0])), (902, (76, [I cap2.o.States, I cap2.o.Kinds, I cap2.o.Init, Sl a1 cap2.o.Rows c1, Sl a2 cap2.l c2, Sl a3 cap2.done c3, V (.map (some r4))])), (903, (3, [I cap3])), (904, (28, [Sl a5 cap4 c5]))]⟩ fun a hS => ?_
 obtain ⟨hq, hm⟩ := hm
 refine dindex (e := 45) (k := .i64) T 11 hS kr kr kr (by rfl) kr hH kr kr h2 kr kr hq.1 hq.2 ?_
 intro A103 a h104 hS
 clear hq
 have h104b := h104.here
 refine dfieldA (off := 1) (fsz := 1) (ft := 3) (TF := tI) (y := (gi cap2.l p_.Oper).Kind) 12 T hS kr kr kr (by rfl) kr hH kr h104 kr kr kr (fun cs h => Api_Oper_f1 h) ?_
 intro A105 a h106 hbl hS
 have h106b := h104b
 rw [← hbl] at h106b
 clear hbl
 refine dload1 T 13 hS kr kr kr (by rfl) kr hH kr h106 h106b rfl kr ?_
 intro v107 a hv hS
 cases hv
 refine only 14 kr (by rfl) (call hS kr kr hb32 kr (fun _ _ => rfl) (k32 _ _ cap2.o cap3 ((gi cap2.l p_.Oper).Kind) a1 c1 h1) ?_)
 intro v108 a w109 χ110 hE hp hS
 replace hO := hO.mv hE rfl rfl
 replace hD := hD.ev hE rfl
 replace h1 := h1.mv hE rfl
 replace h2 := h2.mv hE rfl
 replace h3 := h3.mv hE rfl rfl
 replace h4 := h4.mv hE rfl rfl
 replace h5 := h5.mv hE rfl
 replace h104 := h104.mv hE rfl
 replace h106 := h106.mv hE rfl
 clear hE
 obtain ⟨r111, hr⟩ : ∃ r, object_Move cap2.o cap3 ((gi cap2.l p_.Oper).Kind) = r := ⟨_, rfl⟩
 replace hm := hm r111 hr
 rw [hr] at hp
 clear hr
 subst hp
 replace hS := hS.sl ⟨[(1, Pt 901 0), (3, Pt 904 0), (4, Pt 5 0), (16, V (.agg #[.int .i64 cap2.o.States, .int .i64 cap2.o.Kinds, .int .i64 cap2.o.Init, .slice a1 cap2.o.Rows.length c1])), (17, I cap3), (21, Sl a2 cap2.l c2), (23, I p_.Oper), (24, V (.pointer (some A103))), (25, V (.pointer (some A105))), (26, I ((gi cap2.l p_.Oper).Kind)), (27, V (.tuple #[.int .i64 r111.1, .int .i64 r111.2.1, .bool r111.2.2]))], [(5, (51, [I p_.Oper, I p_.Result])), (901, (53, [Pt 902 0])), (902, (76, [I cap2.o.States, I cap2.o.Kinds, I cap2.o.Init, Sl a1 cap2.o.Rows c1, Sl a2 cap2.l c2, Sl a3 cap2.done c3, V (.map (some r4))])), (903, (3, [I cap3])), (904, (28, [Sl a5 cap4 c5]))]⟩
 refine andH (Hold.of hS (bks := [5, 901, 902, 903, 904]) kr hD) ?_
 intro hH
 refine tk T [15, 16, 17, 18, 19, 20, 21] [5, 901, 902, 903, 904] hS hH #[true, true, true, true, true, true, true, true, true, true, true, true, true, true, true, true, true, true, true, true, true, true] 0 ⟨[(1, Pt 901 0), (3, Pt 904 0), (4, Pt 5 0), (7, I r111.1)], [(5, (51, [I p_.Oper, I p_.Result])), (901, (53, [Pt 902 0])), (902, (76, [I cap2.o.States, I cap2.o.Kinds, I cap2.o.Init, Sl a1 cap2.o.Rows c1, Sl a2 cap2.l c2, Sl a3 cap2.done c3, V (.map (some r4))])), (903, (3, [I cap3])), (904, (28, [Sl a5 cap4 c5]))]⟩ fun a hS => ?_
 refine drawnDone kr ?_
 clear hD hH
 replace hS := hS.sl ⟨[(1, Pt 901 0), (3, Pt 904 0), (4, Pt 5 0), (7, I r111.1)], [(5, (51, [I p_.Oper, I p_.Result])), (901, (53, [Pt 902 0])), (902, (76, [I cap2.o.States, I cap2.o.Kinds, I cap2.o.Init, Sl a1 cap2.o.Rows c1, Sl a2 cap2.l c2, Sl a3 cap2.done c3, V (.map (some r4))])), (903, (3, [I cap3])), (904, (28, [Sl a5 cap4 c5]))]⟩
 refine drawnSX [5, 901, 902, 903, 904] mixed hS ?_
 intro w112 χ113 hS hE hD hH
 replace hO := hO.mv hE rfl rfl
 replace h1 := h1.mv hE rfl
 replace h2 := h2.mv hE rfl
 replace h3 := h3.mv hE rfl rfl
 replace h4 := h4.mv hE rfl rfl
 replace h5 := h5.mv hE rfl
 clear hE
 refine tk T [0, 4, 1, 5, 2, 3] [5, 901, 902, 903, 904] hS hH #[true, true, true, true, true, true, false, false] 2 ⟨[(1, Pt 901 0), (3, Pt 904 0), (4, Pt 5 0), (7, I r111.1), (34, Sl a3 cap2.done c3), (36, I p_.Oper)], [(5, (51, [I p_.Oper, I p_.Result])), (901, (53, [Pt 902 0])), (902, (76, [I cap2.o.States, I cap2.o.Kinds, I cap2.o.Init, Sl a1 cap2.o.Rows c1, Sl a2 cap2.l c2, Sl a3 cap2.done c3, V (.map (some r4))])), (903, (3, [I cap3])), (904, (28, [Sl a5 cap4 c5]))]⟩ fun a hS => ?_
 obtain ⟨hq117, hm⟩ := hm
 refine only 6 kr (by rfl) (indexX (E := 4) (k := .i64) T hS kr kr kr kr h3 kr kr hq117.1 hq117.2 ?_)
 intro A114 a h116 h115 hS
 refine andH (Hold.of hS (bks := [5, 901, 902, 903, 904]) kr hD) ?_
 intro hH
 refine only 7 kr (by rfl) (storeO (x := true) (v := B true) (i := p_.Oper.toNat) (E := 4) (xs := cap2.done) T hS kr kr kr kr h3 h116 (by have := hq117.1; have := hq117.2; omega) kr (fun _ _ _ => rfl) ?_)
 intro a w118 hE h119 hS
 clear h3 h116 h115 hq117
 replace hO := hO.mv hE rfl rfl
 replace hD := hD.ev hE rfl
 replace h1 := h1.mv hE rfl
 replace h2 := h2.mv hE rfl
 replace h4 := h4.mv hE rfl rfl
 replace h5 := h5.mv hE rfl
 clear hE
 replace hS := hS.conv (t := 34) (y := .slice a3 (cap2.done.set p_.Oper.toNat true).length c3) kr (by rw [List.length_set])
 refine andH (Hold.of hS (bks := [5, 901, 902, 903, 904]) kr hD) ?_
 intro hH
 have hx120 := hS.cell (id := 902) (t := 76) (cs := [I cap2.o.States, I cap2.o.Kinds, I cap2.o.Init, Sl a1 cap2.o.Rows c1, Sl a2 cap2.l c2, Sl a3 cap2.done c3, V (.map (some r4))]) kr
 replace hx120 := hx120.conv (vals' := [.int .i64 cap2.o.States, .int .i64 cap2.o.Kinds, .int .i64 cap2.o.Init, .slice a1 cap2.o.Rows.length c1, .slice a2 cap2.l.length c2, .slice a3 (cap2.done.set p_.Oper.toNat true).length c3, .map (some r4)]) (by rw [List.length_set]; rfl)
 replace hS := hS.addbox (id := 902) (t := 76) (cs := [I cap2.o.States, I cap2.o.Kinds, I cap2.o.Init, Sl a1 cap2.o.Rows c1, Sl a2 cap2.l c2, Sl a3 (cap2.done.set p_.Oper.toNat true) c3, V (.map (some r4))]) kr hx120
 clear hx120
 refine drawnDone kr ?_
 clear hD hH
 replace hS := hS.sl ⟨[(1, Pt 901 0), (3, Pt 904 0), (4, Pt 5 0), (7, I r111.1)], [(5, (51, [I p_.Oper, I p_.Result])), (901, (53, [Pt 902 0])), (902, (76, [I cap2.o.States, I cap2.o.Kinds, I cap2.o.Init, Sl a1 cap2.o.Rows c1, Sl a2 cap2.l c2, Sl a3 (cap2.done.set p_.Oper.toNat true) c3, V (.map (some r4))])), (903, (3, [I cap3])), (904, (28, [Sl a5 cap4 c5]))]⟩
 refine drawnSX [5, 901, 903, 904] mixed hS ?_
 intro w121 χ122 hS hE hD hH
 replace hO := hO.mv hE rfl rfl
 replace h1 := h1.mv hE rfl
 replace h2 := h2.mv hE rfl
 replace h4 := h4.mv hE rfl rfl
 replace h5 := h5.mv hE rfl
 replace h119 := h119.mv hE rfl rfl
 clear hE
 refine tk T [0, 1, 2, 4] [5, 901, 903, 904] hS hH #[true, true, true, false, true, false, false, false, false, false, false, false, false] 9 ⟨[(1, Pt 901 0), (4, Pt 5 0), (39, Pt 902 0), (40, I r111.1), (41, Sl a5 cap4 c5), (43, V (.agg #[.int .i64 p_.Oper, .int .i64 p_.Result]))], [(5, (51, [I p_.Oper, I p_.Result])), (901, (53, [Pt 902 0])), (902, (76, [I cap2.o.States, I cap2.o.Kinds, I cap2.o.Init, Sl a1 cap2.o.Rows c1, Sl a2 cap2.l c2, Sl a3 (cap2.done.set p_.Oper.toNat true) c3, V (.map (some r4))])), (903, (3, [I cap3])), (904, (28, [Sl a5 cap4 c5]))]⟩ fun a hS => ?_
 obtain ⟨hgp3, hm⟩ := hm
 obtain ⟨r126, hgr3⟩ : ∃ r, slices_Clone_api_Pick_api_Pick cap4 = r := ⟨_, rfl⟩
 replace hm := hm r126 hgr3
 refine drcut (fun a w => ∃ (χ : Nat → Nat) (a146 : Option Addr) (c147 : Nat) (a149 : Option Addr) (c150 : Nat), St Try.f36.ntmps ⟨[(1, Pt 901 0), (4, Pt 5 0), (39, Pt 902 0), (40, I r111.1), (42, Sl a146 r126 c147), (44, Sl a149 [p_] c150)], [(5, (51, [I p_.Oper, I p_.Result])), (901, (53, [Pt 902 0])), (902, (76, [I cap2.o.States, I cap2.o.Kinds, I cap2.o.Init, Sl a1 cap2.o.Rows c1, Sl a2 cap2.l c2, Sl a3 (cap2.done.set p_.Oper.toNat true) c3, V (.map (some r4))])), (903, (3, [I cap3])), (904, (28, [Sl a5 cap4 c5]))]⟩ ρ a w χ ∧ OldR (f0of [(i1, 901), (i2, 902), (i3, 903), (i4, 904), (m3, 2003), (m4, 2004)]) w0 χ0 w χ ∧ M0 w121 χ122 w χ ∧ Hold w121 χ122 (filt [5, 901, 903, 904] ⟨[(1, Pt 901 0), (3, Pt 904 0), (4, Pt 5 0), (7, I r111.1)], [(5, (51, [I p_.Oper, I p_.Result])), (901, (53, [Pt 902 0])), (902, (76, [I cap2.o.States, I cap2.o.Kinds, I cap2.o.Init, Sl a1 cap2.o.Rows c1, Sl a2 cap2.l c2, Sl a3 (cap2.done.set p_.Oper.toNat true) c3, V (.map (some r4))])), (903, (3, [I cap3])), (904, (28, [Sl a5 cap4 c5]))]⟩) ρ w ∧ OS tApi_Pick 51 w χ 1043 a146 r126 c147 ∧ RS tApi_Pick w χ a149 [p_] c150 ∧ RS tApi_Row w χ a1 cap2.o.Rows c1 ∧ RS tApi_Oper w χ a2 cap2.l c2 ∧ OS tBool 4 w χ 2003 a3 (cap2.done.set p_.Oper.toNat true) c3 ∧ OMS kvSearch_spot tI false w χ 2004 r4 cap2.failed ∧ RS tApi_Pick w χ a5 cap4 c5) #[true, true, true, true, true, true, false, false, false, false, false, false, false] 7 ?_ (fun H => ?_)
 ·rintro a w179 ⟨χ178, a146, c147, a149, c150, hS, hO, hD, hH, h145, h148, h151, h152, h153, h154, h155⟩
  replace hm := hm (h145.sm kr)
  clear hgp3 hgr3
  obtain ⟨hq, hm⟩ := hm
  obtain ⟨news, hN⟩ := h148.src
  refine only 6 kr (by rfl) (append (E := 51) (T := tApi_Pick) (col := 1043) (xs := r126) T hS kr kr kr kr h145 hN kr kr kr kr hq ?_)
  intro a183 c184 a w180 χ181 hE h182 hS
  clear hq hN
  clear h145
  replace hO := hO.mv hE rfl rfl
  replace hD := hD.ev hE rfl
  replace h148 := h148.mv hE rfl
  replace h151 := h151.mv hE rfl
  replace h152 := h152.mv hE rfl
  replace h153 := h153.mv hE rfl rfl
  replace h154 := h154.mv hE rfl rfl
  replace h155 := h155.mv hE rfl
  clear hE
  replace hS := hS.sl ⟨[(1, Pt 901 0), (4, Pt 5 0), (39, Pt 902 0), (40, I r111.1), (44, Sl a149 [p_] c150), (45, Sl a183 (r126 ++ [p_]) c184)], [(5, (51, [I p_.Oper, I p_.Result])), (901, (53, [Pt 902 0])), (902, (76, [I cap2.o.States, I cap2.o.Kinds, I cap2.o.Init, Sl a1 cap2.o.Rows c1, Sl a2 cap2.l c2, Sl a3 (cap2.done.set p_.Oper.toNat true) c3, V (.map (some r4))])), (903, (3, [I cap3])), (904, (28, [Sl a5 cap4 c5]))]⟩
  refine andH (Hold.of hS (bks := [5, 901, 903, 904]) kr hD) ?_
  intro hH
  obtain ⟨χ185, hE, hF⟩ := h182.freeze (by decide)
  replace hS := hS.ev hE (xone_box kr)
  replace hO := hO.mv hE rfl rfl
  replace hD := hD.ev hE rfl
  replace h148 := h148.mv hE rfl
  replace h151 := h151.mv hE rfl
  replace h152 := h152.mv hE rfl
  replace h153 := h153.mv hE rfl rfl
  replace h154 := h154.mv hE rfl rfl
  replace h155 := h155.mv hE rfl
  have h186 := hF; clear hE hF
  obtain ⟨hq, hm⟩ := hm
  refine only 7 kr (by rfl) (callR hS kr kr hb21 kr (k21 _ _ r111.1 (r126 ++ [p_]) (⟨cap2.o, cap2.l, (cap2.done.set p_.Oper.toNat true), cap2.failed⟩ : Search_seeker) a183 c184 a1 c1 a2 c2 a3 c3 2003 r4 2004 (ρ 902) 902 hq.1 hq.2 h186 h151 h152 h153 h154 (hS.cell (id := 902) (t := 76) (cs := [I cap2.o.States, I cap2.o.Kinds, I cap2.o.Init, Sl a1 cap2.o.Rows c1, Sl a2 cap2.l c2, Sl a3 (cap2.done.set p_.Oper.toNat true) c3, V (.map (some r4))]) kr) ⟨by decide, by decide⟩) ?_)
  intro v187 a w188 χ189 hE hp hS
  clear hq
  clear h154
  clear h153
  replace hO := hO.mv hE rfl rfl
  replace hD := hD.ev hE rfl
  replace h148 := h148.mv hE rfl
  replace h151 := h151.mv hE rfl
  replace h152 := h152.mv hE rfl
  replace h155 := h155.mv hE rfl
  replace h186 := h186.mv hE rfl
  clear hE
  obtain ⟨a191, c192, a194, c195, a197, c198, a200, c201, hp, h193, h196, h199, h202, hc204, h203⟩ := hp
  obtain ⟨r190, hr⟩ : ∃ r, search_seeker_first r111.1 (r126 ++ [p_]) (⟨cap2.o, cap2.l, (cap2.done.set p_.Oper.toNat true), cap2.failed⟩ : Search_seeker) = r := ⟨_, rfl⟩
  replace hm := hm r190 hr
  rw [hr] at hp h193 h196 h199 h202 hc204 h203
  clear hr
  subst hp
  replace hm := hm (h193.sm kr)
  replace hm := hm (h196.sm kr)
  replace hm := hm (h199.sm kr)
  replace hm := hm (h202.sm kr)
  replace hS := hS.addbox (id := 902) (t := 76) (cs := [I r190.2.2.o.States, I r190.2.2.o.Kinds, I r190.2.2.o.Init, Sl a194 r190.2.2.o.Rows c195, Sl a197 r190.2.2.l c198, Sl a200 r190.2.2.done c201, V (.map (some r4))]) kr hc204
  clear hc204
  replace hS := hS.sl ⟨[(1, Pt 901 0), (4, Pt 5 0), (39, Pt 902 0), (40, I r111.1), (44, Sl a149 [p_] c150), (45, Sl a183 (r126 ++ [p_]) c184), (46, V (.tuple #[.slice a191 r190.1.length c192, .bool r190.2.1]))], [(5, (51, [I p_.Oper, I p_.Result])), (901, (53, [Pt 902 0])), (902, (76, [I r190.2.2.o.States, I r190.2.2.o.Kinds, I r190.2.2.o.Init, Sl a194 r190.2.2.o.Rows c195, Sl a197 r190.2.2.l c198, Sl a200 r190.2.2.done c201, V (.map (some r4))])), (903, (3, [I cap3])), (904, (28, [Sl a5 cap4 c5]))]⟩
  refine andH (Hold.of hS (bks := [5, 901, 903, 904]) kr hD) ?_
  intro hH
  refine tk T [8, 9, 10, 11, 12] [5, 901, 903, 904] hS hH #[true, true, true, true, true, true, true, true, true, true, true, true, true] 0 ⟨[(1, Pt 901 0), (4, Pt 5 0), (10, Sl a191 r190.1 c192), (11, B r190.2.1)], [(5, (51, [I p_.Oper, I p_.Result])), (901, (53, [Pt 902 0])), (902, (76, [I r190.2.2.o.States, I r190.2.2.o.Kinds, I r190.2.2.o.Init, Sl a194 r190.2.2.o.Rows c195, Sl a197 r190.2.2.l c198, Sl a200 r190.2.2.done c201, V (.map (some r4))])), (903, (3, [I cap3])), (904, (28, [Sl a5 cap4 c5]))]⟩ fun a hS => ?_
  refine drawnDone kr ?_
  clear hD hH
  replace hS := hS.sl ⟨[(1, Pt 901 0), (4, Pt 5 0), (10, Sl a191 r190.1 c192), (11, B r190.2.1)], [(5, (51, [I p_.Oper, I p_.Result])), (901, (53, [Pt 902 0])), (902, (76, [I r190.2.2.o.States, I r190.2.2.o.Kinds, I r190.2.2.o.Init, Sl a194 r190.2.2.o.Rows c195, Sl a197 r190.2.2.l c198, Sl a200 r190.2.2.done c201, V (.map (some r4))])), (903, (3, [I cap3])), (904, (28, [Sl a5 cap4 c5]))]⟩
  refine drawnSX [5, 901, 902, 903, 904] mixed hS ?_
  intro w205 χ206 hS hE hD hH
  replace hO := hO.mv hE rfl rfl
  replace h155 := h155.mv hE rfl
  replace h203 := h203.mv hE rfl rfl
  replace h193 := h193.mv hE rfl
  replace h196 := h196.mv hE rfl
  replace h199 := h199.mv hE rfl
  replace h202 := h202.mv hE rfl rfl
  clear hE
  refine tk T [0, 4, 1, 5, 2, 3] [5, 901, 902, 903, 904] hS hH #[true, true, true, true, true, true, false, false] 2 ⟨[(10, Sl a191 r190.1 c192), (11, B r190.2.1), (52, Sl a200 r190.2.2.done c201), (54, I p_.Oper)], [(5, (51, [I p_.Oper, I p_.Result])), (901, (53, [Pt 902 0])), (902, (76, [I r190.2.2.o.States, I r190.2.2.o.Kinds, I r190.2.2.o.Init, Sl a194 r190.2.2.o.Rows c195, Sl a197 r190.2.2.l c198, Sl a200 r190.2.2.done c201, V (.map (some r4))])), (903, (3, [I cap3])), (904, (28, [Sl a5 cap4 c5]))]⟩ fun a hS => ?_
  obtain ⟨hq210, hm⟩ := hm
  refine only 6 kr (by rfl) (indexX (E := 4) (k := .i64) T hS kr kr kr kr h202 kr kr hq210.1 hq210.2 ?_)
  intro A207 a h209 h208 hS
  refine andH (Hold.of hS (bks := [5, 901, 902, 903, 904]) kr hD) ?_
  intro hH
  refine only 7 kr (by rfl) (storeO (x := false) (v := B false) (i := p_.Oper.toNat) (E := 4) (xs := r190.2.2.done) T hS kr kr kr kr h202 h209 (by have := hq210.1; have := hq210.2; omega) kr (fun _ _ _ => rfl) ?_)
  intro a w211 hE h212 hS
  clear h202 h209 h208 hq210
  replace hO := hO.mv hE rfl rfl
  replace hD := hD.ev hE rfl
  replace h155 := h155.mv hE rfl
  replace h203 := h203.mv hE rfl rfl
  replace h193 := h193.mv hE rfl
  replace h196 := h196.mv hE rfl
  replace h199 := h199.mv hE rfl
  clear hE
  replace hS := hS.conv (t := 52) (y := .slice a200 (r190.2.2.done.set p_.Oper.toNat false).length c201) kr (by rw [List.length_set])
  refine andH (Hold.of hS (bks := [5, 901, 902, 903, 904]) kr hD) ?_
  intro hH
  have hx213 := hS.cell (id := 902) (t := 76) (cs := [I r190.2.2.o.States, I r190.2.2.o.Kinds, I r190.2.2.o.Init, Sl a194 r190.2.2.o.Rows c195, Sl a197 r190.2.2.l c198, Sl a200 r190.2.2.done c201, V (.map (some r4))]) kr
  replace hx213 := hx213.conv (vals' := [.int .i64 r190.2.2.o.States, .int .i64 r190.2.2.o.Kinds, .int .i64 r190.2.2.o.Init, .slice a194 r190.2.2.o.Rows.length c195, .slice a197 r190.2.2.l.length c198, .slice a200 (r190.2.2.done.set p_.Oper.toNat false).length c201, .map (some r4)]) (by rw [List.length_set]; rfl)
  replace hS := hS.addbox (id := 902) (t := 76) (cs := [I r190.2.2.o.States, I r190.2.2.o.Kinds, I r190.2.2.o.Init, Sl a194 r190.2.2.o.Rows c195, Sl a197 r190.2.2.l c198, Sl a200 (r190.2.2.done.set p_.Oper.toNat false) c201, V (.map (some r4))]) kr hx213
  clear hx213
  refine drawnDone kr ?_
  clear hD hH
  replace hS := hS.sl ⟨[(10, Sl a191 r190.1 c192), (11, B r190.2.1)], [(901, (53, [Pt 902 0])), (902, (76, [I r190.2.2.o.States, I r190.2.2.o.Kinds, I r190.2.2.o.Init, Sl a194 r190.2.2.o.Rows c195, Sl a197 r190.2.2.l c198, Sl a200 (r190.2.2.done.set p_.Oper.toNat false) c201, V (.map (some r4))])), (903, (3, [I cap3])), (904, (28, [Sl a5 cap4 c5]))]⟩
  refine rP T hS ⟨[(5, Sl a191 r190.1 c192), (6, B r190.2.1)], [(901, (53, [Pt 902 0])), (902, (76, [I r190.2.2.o.States, I r190.2.2.o.Kinds, I r190.2.2.o.Init, Sl a194 r190.2.2.o.Rows c195, Sl a197 r190.2.2.l c198, Sl a200 (r190.2.2.done.set p_.Oper.toNat false) c201, V (.map (some r4))])), (903, (3, [I cap3])), (904, (28, [Sl a5 cap4 c5]))]⟩ fun a hS => ?_
  refine wret ?_
  exact finR T hS hO (fun c h => f0of_zero kr h) (fun c h => f0of_else (l := [(i1, 901), (i2, 902), (i3, 903), (i4, 904), (m3, 2003), (m4, 2004)]) h) (f1of [(i1, 901), (i2, 902), (i3, 903), (i4, 904), (m3, 2003), (m4, 2004)]) rfl (r := [.slice a191 r190.1.length c192, .bool r190.2.1]) kr (fun χ' hM hC => ⟨(r190.1, r190.2.1, (⟨r190.2.2.o, r190.2.2.l, (r190.2.2.done.set p_.Oper.toNat false), r190.2.2.failed⟩ : Search_seeker)), hm, a191, c192, a194, c195, a197, c198, a200, c201, rfl, h193.m0 hM, h196.m0 hM, h199.m0 hM, (OS.out (f := (f1of [(i1, 901), (i2, 902), (i3, 903), (i4, 904), (m3, 2003), (m4, 2004)])) h212 hM hC kr), (Cell.ptr (id := 902) ((hS.cell (id := 901) (t := 53) (cs := [Pt 902 0]) kr).out (f := (f1of [(i1, 901), (i2, 902), (i3, 903), (i4, 904), (m3, 2003), (m4, 2004)])) hC kr kr (hP.at 0 rfl)) (hP.at 1 rfl)), ((hS.cell (id := 902) (t := 76) (cs := [I r190.2.2.o.States, I r190.2.2.o.Kinds, I r190.2.2.o.Init, Sl a194 r190.2.2.o.Rows c195, Sl a197 r190.2.2.l c198, Sl a200 (r190.2.2.done.set p_.Oper.toNat false) c201, V (.map (some r4))]) kr).out (f := (f1of [(i1, 901), (i2, 902), (i3, 903), (i4, 904), (m3, 2003), (m4, 2004)])) hC kr kr (hP.at 1 rfl)), (h203.out (f := (f1of [(i1, 901), (i2, 902), (i3, 903), (i4, 904), (m3, 2003), (m4, 2004)])) hM hC kr kr), ((hS.cell (id := 903) (t := 3) (cs := [I cap3]) kr).out (f := (f1of [(i1, 901), (i2, 902), (i3, 903), (i4, 904), (m3, 2003), (m4, 2004)])) hC kr kr (hP.at 2 rfl)), ((hS.cell (id := 904) (t := 28) (cs := [Sl a5 cap4 c5]) kr).out (f := (f1of [(i1, 901), (i2, 902), (i3, 903), (i4, 904), (m3, 2003), (m4, 2004)])) hC kr kr (hP.at 3 rfl))⟩)
 ·clear hm
  refine anyOf (is := [3, 5]) kr (by decide) ?_
  intro i hi
  rcases mem2 hi with rfl | rfl
  ·have hq := hgp3
   refine oneOp (by rfl) (call hS kr kr hb37 kr (fun _ _ => rfl) (k37 _ _ cap4 a5 c5 1043 hq h5) ?_)
   intro v156 a w157 χ158 hE hp hS
   clear hq
   replace hO := hO.mv hE rfl rfl
   replace hD := hD.ev hE rfl
   replace h1 := h1.mv hE rfl
   replace h2 := h2.mv hE rfl
   replace h4 := h4.mv hE rfl rfl
   replace h5 := h5.mv hE rfl
   replace h119 := h119.mv hE rfl rfl
   clear hE
   obtain ⟨a160, c161, hp, h162⟩ := hp
   rw [hgr3] at hp h162
   subst hp
   replace hS := hS.sl ⟨[(1, Pt 901 0), (4, Pt 5 0), (39, Pt 902 0), (40, I r111.1), (41, Sl a5 cap4 c5), (43, V (.agg #[.int .i64 p_.Oper, .int .i64 p_.Result])), (42, Sl a160 r126 c161)], [(5, (51, [I p_.Oper, I p_.Result])), (901, (53, [Pt 902 0])), (902, (76, [I cap2.o.States, I cap2.o.Kinds, I cap2.o.Init, Sl a1 cap2.o.Rows c1, Sl a2 cap2.l c2, Sl a3 (cap2.done.set p_.Oper.toNat true) c3, V (.map (some r4))])), (903, (3, [I cap3])), (904, (28, [Sl a5 cap4 c5]))]⟩
   refine andH (Hold.of hS (bks := [5, 901, 903, 904]) kr hD) ?_
   intro hH
   refine only 5 kr (by rfl) (lit (E := 51) (col := 0) (T := tApi_Pick) (vals := [.agg #[.int .i64 p_.Oper, .int .i64 p_.Result]]) (ys := [p_]) T hS kr kr kr kr (by exact ⟨rfl, trivial⟩) rfl kr kr kr kr ?_)
   intro b163 a w164 χ165 hE h166 hN hS
   clear hN
   replace hO := hO.mv hE rfl rfl
   replace hD := hD.ev hE rfl
   replace h1 := h1.mv hE rfl
   replace h2 := h2.mv hE rfl
   replace h4 := h4.mv hE rfl rfl
   replace h5 := h5.mv hE rfl
   replace h119 := h119.mv hE rfl rfl
   replace h162 := h162.mv hE rfl rfl
   clear hE
   replace h166 := h166.rs0
   refine andH (Hold.of hS (bks := [5, 901, 903, 904]) kr hD) ?_
   intro hH
   exact H _ _ ⟨_, a160, c161, (some ⟨b163, 0, none⟩), 1, hS.sl _, hO, hD, hH, h162, h166, h1, h2, h119, h4, h5⟩
  ·refine oneOp (by rfl) (lit (E := 51) (col := 0) (T := tApi_Pick) (vals := [.agg #[.int .i64 p_.Oper, .int .i64 p_.Result]]) (ys := [p_]) T hS kr kr kr kr (by exact ⟨rfl, trivial⟩) rfl kr kr kr kr ?_)
   intro b167 a w168 χ169 hE h170 hN hS
   clear hN
   replace hO := hO.mv hE rfl rfl
   replace hD := hD.ev hE rfl
   replace h1 := h1.mv hE rfl
   replace h2 := h2.mv hE rfl
   replace h4 := h4.mv hE rfl rfl
   replace h5 := h5.mv hE rfl
   replace h119 := h119.mv hE rfl rfl
   clear hE
   replace h170 := h170.rs0
   refine andH (Hold.of hS (bks := [5, 901, 903, 904]) kr hD) ?_
   intro hH
   have hq := hgp3
   refine only 3 kr (by rfl) (call hS kr kr hb37 kr (fun _ _ => rfl) (k37 _ _ cap4 a5 c5 1043 hq h5) ?_)
   intro v171 a w172 χ173 hE hp hS
   clear hq
   replace hO := hO.mv hE rfl rfl
   replace hD := hD.ev hE rfl
   replace h1 := h1.mv hE rfl
   replace h2 := h2.mv hE rfl
   replace h4 := h4.mv hE rfl rfl
   replace h5 := h5.mv hE rfl
   replace h119 := h119.mv hE rfl rfl
   replace h170 := h170.mv hE rfl
   clear hE
   obtain ⟨a175, c176, hp, h177⟩ := hp
   rw [hgr3] at hp h177
   subst hp
   replace hS := hS.sl ⟨[(1, Pt 901 0), (4, Pt 5 0), (39, Pt 902 0), (40, I r111.1), (41, Sl a5 cap4 c5), (43, V (.agg #[.int .i64 p_.Oper, .int .i64 p_.Result])), (44, Sl (some ⟨b167, 0, none⟩) [p_] 1), (42, Sl a175 r126 c176)], [(5, (51, [I p_.Oper, I p_.Result])), (901, (53, [Pt 902 0])), (902, (76, [I cap2.o.States, I cap2.o.Kinds, I cap2.o.Init, Sl a1 cap2.o.Rows c1, Sl a2 cap2.l c2, Sl a3 (cap2.done.set p_.Oper.toNat true) c3, V (.map (some r4))])), (903, (3, [I cap3])), (904, (28, [Sl a5 cap4 c5]))]⟩
   refine andH (Hold.of hS (bks := [5, 901, 903, 904]) kr hD) ?_
   intro hH
   exact H _ _ ⟨_, a175, c176, (some ⟨b167, 0, none⟩), 1, hS.sl _, hO, hD, hH, h177, h170, h1, h2, h119, h4, h5⟩
theorem C36 (N : Nat) (k21 : S21N N) (k32 : S32) (k37 : S37) (v : ∀ (p_ : Api_Pick) (cap2 : Search_seeker) (cap3 : Int) (cap4 : List Api_Pick), preTr p_ cap2 cap3 cap4 → mTry p_ cap2 cap3 cap4 < N + 1 → VC36 N p_ cap2 cap3 cap4 (fun r => r = search_seeker_first_1 p_ cap2 cap3 cap4)) : S36N (N + 1) := by
 intro w χ p_ cap2 cap3 cap4 a1 c1 a2 c2 a3 c3 m3 r4 m4 a5 c5  b1 i1 b2 i2 b3 i3 b4 i4 hp hms h1 h2 h3 h4 h5 hc1 hc2 hc3 hc4 hA
 refine (W36 N k21 k32 k37 w χ p_ cap2 cap3 cap4 a1 c1 a2 c2 a3 c3 m3 r4 m4 a5 c5  b1 i1 b2 i2 b3 i3 b4 i4 _ (v p_ cap2 cap3 cap4 hp hms) h1 h2 h3 h4 h5 hc1 hc2 hc3 hc4 hA).mono ?_
 rintro _ _ _ _ ⟨r, rfl, h⟩
 exact h
end Go.Proofs.Ytomodhnocjmfpaa
