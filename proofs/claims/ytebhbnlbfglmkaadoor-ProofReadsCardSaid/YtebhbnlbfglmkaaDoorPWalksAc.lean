/- Walks: each function returns what its condition asks. Condition: the contracts of its callees, handed in. -/
import Derived.Test.YtebhbnlbfglmkaaDoorPWalksS
set_option linter.all false
namespace Go.Proofs.YtebhbnlbfglmkaaDoor
open Go Go.Sv
set_option maxHeartbeats 1000000
/-- replevin/proof.Split -/
theorem W16 (w0 : World) (χ0 : Nat → Nat) (hints : List Int) (a1 : Option Addr) (c1 : Nat) (Q : (List Int) × (List (List Int)) → Prop) (hm : VC16 hints Q) (h1 : RS tI w0 χ0 a1 hints c1) :
  Ret Tryd.prog 16 #[.slice a1 hints.length c1] xnone w0 χ0 (fun w χ' v => ∃ r, Q r ∧ ∃ (ra1 : Option Addr) (rc1 : Nat) (ra2 : Option Addr) (rc2 : Nat), v = .tuple #[.slice ra1 r.1.length rc1, .slice ra2 r.2.length rc2] ∧ RS tI w χ' ra1 r.1 rc1 ∧ RS (tSlice tI) w χ' ra2 r.2 rc2) := by
 unfold VC16 at hm
 replace hm := hm (h1.sm kr)
 refine enter Tryd.func16 rfl (vals := [.slice a1 hints.length c1]) kr ?_
 intro ρ a hS hO hM
 replace h1 := h1.m0 hM
 clear hM
 refine rP T hS ⟨[(0, Sl a1 hints c1), (2, V (.slice none 0 0)), (3, V (.slice none 0 0))], []⟩ fun a hS => ?_
 refine wcut (fun a w => ∃ (ρ : Nat → Nat) (χ : Nat → Nat) (ahead_101 : List Int) (groups_105 : List (List Int)) (a102 : Option Addr) (c103 : Nat) (a106 : Option Addr) (vs107 : List Value) (c108 : Nat), VC16_J1 Q ahead_101 groups_105 ∧ St Tryd.f16.ntmps ⟨[(2, Sl a102 ahead_101 c103), (3, Sl a106 groups_105 c108)], []⟩ ρ a w χ ∧ Old w0 χ0 w χ ∧ OS tI 3 w χ 1003 a102 ahead_101 c103 ∧ OS tRaw 31 w χ 1004 a106 vs107 c108 ∧ RW tI 3 w χ 1990 vs107 groups_105) ?_ ?_
 ·refine rP T hS ⟨[(2, V (.slice none 0 0)), (3, V (.slice none 0 0)), (7, Sl a1 hints c1), (8, I ((hints.length : Nat) : Int)), (9, I 0)], []⟩ fun a hS => ?_
  refine wblock ?_
  obtain ⟨I1, μ1, hm0, hm⟩ := hm
  refine wloop (σ := (List Int) × (List (List Int)) × Int) (fun s a w => ∃ (ρ : Nat → Nat) (χ : Nat → Nat) (a118 : Option Addr) (c119 : Nat) (a122 : Option Addr) (vs123 : List Value) (c124 : Nat), I1 s.1 s.2.1 s.2.2 ∧ St Tryd.f16.ntmps ⟨[(2, Sl a118 s.1 c119), (3, Sl a122 s.2.1 c124), (7, Sl a1 hints c1), (8, I ((hints.length : Nat) : Int)), (9, I s.2.2)], []⟩ ρ a w χ ∧ Old w0 χ0 w χ ∧ OS tI 3 w χ 1003 a118 s.1 c119 ∧ OS tRaw 31 w χ 1004 a122 vs123 c124 ∧ RW tI 3 w χ 1990 vs123 s.2.1 ∧ RS tI w χ a1 hints c1) (fun s => μ1 s.1 s.2.1 s.2.2) (⟨[], [], 0⟩) ?_ ?_
  ·exact ⟨ρ, _, none, 0, none, [], 0, hm0, hS.sl _, hO, (OS.nil _ _ _ _ _), (OS.nil _ _ _ _ _), (RW.nil _ _ _ _ _), h1⟩
  ·rintro ⟨ahead_117, groups_121, x_128⟩ a w199 ⟨ρ, χ198, a118, c119, a122, vs123, c124, hI, hS, hO, h120, h125, h126, h127⟩
   replace hm := hm ahead_117 groups_121 x_128 hI
   clear hI hm0
   refine rP T hS ⟨[(2, Sl a118 ahead_117 c119), (3, Sl a122 groups_121 c124), (7, Sl a1 hints c1), (8, I ((hints.length : Nat) : Int)), (9, I x_128), (10, B (decide (x_128 < ((hints.length : Nat) : Int))))], []⟩ fun a hS => ?_
   refine wseq ?_
   refine wcond hS (b := decide (x_128 < ((hints.length : Nat) : Int))) kr (fun hb => ?_) (fun hb => ?_)
   ·replace hm := hm.1 hb
    refine wskip ?_
    refine wcut (fun a w => ∃ (ρ : Nat → Nat) (χ : Nat → Nat) (ahead_129 : List Int) (groups_133 : List (List Int)) (a130 : Option Addr) (c131 : Nat) (a134 : Option Addr) (vs135 : List Value) (c136 : Nat), VC16_J2 I1 μ1 ahead_117 groups_121 x_128 ahead_129 groups_133 ∧ St Tryd.f16.ntmps ⟨[(2, Sl a130 ahead_129 c131), (3, Sl a134 groups_133 c136), (7, Sl a1 hints c1), (8, I ((hints.length : Nat) : Int)), (9, I x_128)], []⟩ ρ a w χ ∧ Old w0 χ0 w χ ∧ OS tI 3 w χ 1003 a130 ahead_129 c131 ∧ OS tRaw 31 w χ 1004 a134 vs135 c136 ∧ RW tI 3 w χ 1990 vs135 groups_133 ∧ RS tI w χ a1 hints c1) ?_ ?_
    ·refine wblock ?_
     refine regO ?_
     obtain ⟨hq, hm⟩ := hm
     refine op1 (index (e := 3) (k := .i64) T hS kr kr kr kr h127 kr kr hq.1 hq.2 ?_)
     intro A140 a h141 hS
     clear hq
     refine op1 (load1 T hS kr kr kr h141 rfl kr ?_)
     intro v142 a hv hS
     cases hv
     refine eP T hS ⟨[(2, Sl a118 ahead_117 c119), (3, Sl a122 groups_121 c124), (5, I (gi hints x_128)), (7, Sl a1 hints c1), (8, I ((hints.length : Nat) : Int)), (9, I x_128)], []⟩ fun a hS => ?_
     refine rP T hS ⟨[(2, Sl a118 ahead_117 c119), (3, Sl a122 groups_121 c124), (5, I (gi hints x_128)), (6, I (IntKind.i64.wrap (((groups_121.length : Nat) : Int) - 1))), (7, Sl a1 hints c1), (8, I ((hints.length : Nat) : Int)), (9, I x_128)], []⟩ fun a hS => ?_
     refine wblock ?_
     refine rP T hS ⟨[(2, Sl a118 ahead_117 c119), (3, Sl a122 groups_121 c124), (5, I (gi hints x_128)), (6, I (IntKind.i64.wrap (((groups_121.length : Nat) : Int) - 1))), (7, Sl a1 hints c1), (8, I ((hints.length : Nat) : Int)), (9, I x_128), (26, B (decide ((gi hints x_128) < 0)))], []⟩ fun a hS => ?_
     refine wcond hS (b := decide ((gi hints x_128) < 0)) kr (fun hb => ?_) (fun hb => ?_)
     ·replace hm := hm.1 hb
      refine region ?_
      refine oP T hS 2 ⟨[(2, Sl a118 ahead_117 c119), (3, Sl a122 groups_121 c124), (7, Sl a1 hints c1), (8, I ((hints.length : Nat) : Int)), (9, I x_128), (29, Sl a122 groups_121 c124), (30, I (gi hints x_128))], []⟩ fun a hS => ?_
      obtain ⟨χ143, hE, hF⟩ := h126.freeze (by decide)
      clear h126
      replace hS := hS.ev hE (xone_box kr)
      replace hO := hO.mv hE rfl rfl
      replace h120 := h120.mv hE rfl rfl
      replace h125 := h125.mv hE rfl rfl
      replace h127 := h127.mv hE rfl
      have h144 := hF
      clear hE hF
      refine op1 (lit (E := 3) (col := 1990) (T := tI) (vals := [.int .i64 (gi hints x_128)]) (ys := [gi hints x_128]) T hS kr kr kr kr (by exact ⟨rfl, trivial⟩) rfl kr kr kr kr ?_)
      intro b145 a w146 χ147 hE h148 hN hS
      clear hN
      replace hO := hO.mv hE rfl rfl
      replace h120 := h120.mv hE rfl rfl
      replace h125 := h125.mv hE rfl rfl
      replace h127 := h127.mv hE rfl
      replace h144 := h144.mv hE rfl
      clear hE
      refine op1 (lit (E := 31) (col := 0) (T := tRaw) (vals := [.slice (some ⟨b145, 0, none⟩) [gi hints x_128].length 1]) (ys := [.slice (some ⟨b145, 0, none⟩) [gi hints x_128].length 1]) T hS kr kr kr kr (by exact ⟨⟨rfl, rfl⟩, trivial⟩) rfl kr kr kr kr ?_)
      intro b149 a w150 χ151 hE h152 hN hS
      clear hN
      replace hO := hO.mv hE rfl rfl
      replace h120 := h120.mv hE rfl rfl
      replace h125 := h125.mv hE rfl rfl
      replace h127 := h127.mv hE rfl
      replace h144 := h144.mv hE rfl
      replace h148 := h148.mv hE rfl rfl
      clear hE
      replace h152 := h152.rs0
      obtain ⟨hq, hm⟩ := hm
      have hRF := h144
      replace hS := hS.conv (t := 29) (x := .slice a122 groups_121.length c124) (y := .slice a122 vs123.length c124) kr (by rw [hRF.len])
      have hvl := hRF.len
      obtain ⟨news, hN⟩ := h152.src
      refine op1 (append (E := 31) (T := tRaw) (col := 1004) (xs := vs123) (ys := [Value.slice (some ⟨b145, 0, none⟩) [gi hints x_128].length 1]) T hS kr kr kr kr h125 hN kr kr kr kr (by rw [hvl]; exact hq) ?_)
      intro a157 c158 a w153 χ154 hE h155 hS
      clear hq hN
      clear h125 h144
      replace hO := hO.mv hE rfl rfl
      replace h120 := h120.mv hE rfl rfl
      replace h127 := h127.mv hE rfl
      replace h148 := h148.mv hE rfl rfl
      replace h152 := h152.mv hE rfl
      replace hRF := hRF.mv hE rfl
      clear hE
      have h156 := RF.push rfl h148 hRF
      clear hRF hvl h148
      replace hS := hS.conv (t := 33) (x := .slice a157 (vs123 ++ [Value.slice (some ⟨b145, 0, none⟩) [gi hints x_128].length 1]).length c158) (y := .slice a157 (groups_121 ++ [[gi hints x_128]]).length c158) kr (by rw [h156.len])
      refine eP T hS ⟨[(2, Sl a118 ahead_117 c119), (3, Sl a157 (groups_121 ++ [[gi hints x_128]]) c158), (7, Sl a1 hints c1), (8, I ((hints.length : Nat) : Int)), (9, I x_128)], []⟩ fun a hS => ?_
      exact ⟨ρ, _, ahead_117, groups_121 ++ [[gi hints x_128]], a118, c119, a157, (vs123 ++ [Value.slice (some ⟨b145, 0, none⟩) [gi hints x_128].length 1]), c158, hm, hS.sl _, hO, h120, h155, h156, h127⟩
     ·replace hm := hm.2 hb
      refine rP T hS ⟨[(2, Sl a118 ahead_117 c119), (3, Sl a122 groups_121 c124), (5, I (gi hints x_128)), (6, I (IntKind.i64.wrap (((groups_121.length : Nat) : Int) - 1))), (7, Sl a1 hints c1), (8, I ((hints.length : Nat) : Int)), (9, I x_128), (34, B (decide ((IntKind.i64.wrap (((groups_121.length : Nat) : Int) - 1)) < 0)))], []⟩ fun a hS => ?_
      refine wcond hS (b := decide ((IntKind.i64.wrap (((groups_121.length : Nat) : Int) - 1)) < 0)) kr (fun hb => ?_) (fun hb => ?_)
      ·replace hm := hm.1 hb
       refine region ?_
       refine oP T hS 2 ⟨[(2, Sl a118 ahead_117 c119), (3, Sl a122 groups_121 c124), (7, Sl a1 hints c1), (8, I ((hints.length : Nat) : Int)), (9, I x_128), (37, Sl a118 ahead_117 c119), (38, I (gi hints x_128))], []⟩ fun a hS => ?_
       refine op1 (lit (E := 3) (col := 0) (T := tI) (vals := [.int .i64 (gi hints x_128)]) (ys := [gi hints x_128]) T hS kr kr kr kr (by exact ⟨rfl, trivial⟩) rfl kr kr kr kr ?_)
       intro b159 a w160 χ161 hE h162 hN hS
       clear hN
       replace hO := hO.mv hE rfl rfl
       replace h120 := h120.mv hE rfl rfl
       replace h125 := h125.mv hE rfl rfl
       replace h126 := h126.mv hE rfl rfl
       replace h127 := h127.mv hE rfl
       clear hE
       replace h162 := h162.rs0
       obtain ⟨hq, hm⟩ := hm
       obtain ⟨news, hN⟩ := h162.src
       refine op1 (append (E := 3) (T := tI) (col := 1003) (xs := ahead_117) T hS kr kr kr kr h120 hN kr kr kr kr hq ?_)
       intro a166 c167 a w163 χ164 hE h165 hS
       clear hq hN
       clear h120
       replace hO := hO.mv hE rfl rfl
       replace h125 := h125.mv hE rfl rfl
       replace h126 := h126.mv hE rfl rfl
       replace h127 := h127.mv hE rfl
       replace h162 := h162.mv hE rfl
       clear hE
       refine eP T hS ⟨[(2, Sl a166 (ahead_117 ++ [gi hints x_128]) c167), (3, Sl a122 groups_121 c124), (7, Sl a1 hints c1), (8, I ((hints.length : Nat) : Int)), (9, I x_128)], []⟩ fun a hS => ?_
       exact ⟨ρ, _, ahead_117 ++ [gi hints x_128], groups_121, a166, c167, a122, vs123, c124, hm, hS.sl _, hO, h165, h125, h126, h127⟩
      ·replace hm := hm.2 hb
       refine region ?_
       refine oP T hS 4 ⟨[(2, Sl a118 ahead_117 c119), (3, Sl a122 groups_121 c124), (5, I (gi hints x_128)), (7, Sl a1 hints c1), (8, I ((hints.length : Nat) : Int)), (9, I x_128), (16, Sl a122 groups_121 c124), (17, I (IntKind.i64.wrap (((groups_121.length : Nat) : Int) - 1))), (18, Sl a122 groups_121 c124), (19, I (IntKind.i64.wrap (((groups_121.length : Nat) : Int) - 1)))], []⟩ fun a hS => ?_
       obtain ⟨hq171, hm⟩ := hm
       have hl172 : vs123.length = groups_121.length := h126.len
       replace hS := hS.conv (t := 18) (x := .slice a122 groups_121.length c124) (y := .slice a122 vs123.length c124) kr (by rw [hl172])
       refine op1 (indexX (E := 31) (k := .i64) (T := tRaw) (xs := vs123) T hS kr kr kr kr h125 kr kr hq171.1 (by have := hq171.2; rw [hl172]; omega) ?_)
       intro A168 a h169 h170 hS
       replace hS := hS.conv (t := 18) (x := .slice a122 vs123.length c124) (y := .slice a122 groups_121.length c124) kr (by rw [hl172])
       clear hl172
       refine op1 (load1X T hS kr kr kr h170 rfl kr ?_)
       intro v173 a hv hS
       clear h170 h169
       obtain ⟨hv, -⟩ := hv
       injection hv with hv _
       subst hv
       obtain ⟨vs174, a175, c176, evs, h177, h178, eg⟩ := h126.openAt hq171.1 hq171.2
       rw [eg] at hS
       clear h126
       subst evs
       clear eg
       refine oP T hS 1 ⟨[(2, Sl a118 ahead_117 c119), (3, Sl a122 groups_121 c124), (7, Sl a1 hints c1), (8, I ((hints.length : Nat) : Int)), (9, I x_128), (16, Sl a122 groups_121 c124), (17, I (IntKind.i64.wrap (((groups_121.length : Nat) : Int) - 1))), (21, Sl a175 (gi groups_121 (IntKind.i64.wrap (((groups_121.length : Nat) : Int) - 1))) c176), (22, I (gi hints x_128))], []⟩ fun a hS => ?_
       refine op1 (lit (E := 3) (col := 0) (T := tI) (vals := [.int .i64 (gi hints x_128)]) (ys := [gi hints x_128]) T hS kr kr kr kr (by exact ⟨rfl, trivial⟩) rfl kr kr kr kr ?_)
       intro b179 a w180 χ181 hE h182 hN hS
       clear hN
       replace hO := hO.mv hE rfl rfl
       replace h120 := h120.mv hE rfl rfl
       replace h125 := h125.mv hE rfl rfl
       replace h127 := h127.mv hE rfl
       replace h177 := h177.mv hE rfl
       replace h178 := h178.mv hE rfl rfl
       clear hE
       replace h182 := h182.rs0
       obtain ⟨hq, hm⟩ := hm
       obtain ⟨news, hN⟩ := h182.src
       refine op1 (append (E := 3) (T := tI) (col := 1990) (xs := gi groups_121 (IntKind.i64.wrap (((groups_121.length : Nat) : Int) - 1))) T hS kr kr kr kr h178 hN kr kr kr kr hq ?_)
       intro a186 c187 a w183 χ184 hE h185 hS
       clear hq hN
       clear h178
       replace hO := hO.mv hE rfl rfl
       replace h120 := h120.mv hE rfl rfl
       replace h125 := h125.mv hE rfl rfl
       replace h127 := h127.mv hE rfl
       replace h177 := h177.mv hE rfl
       replace h182 := h182.mv hE rfl
       clear hE
       obtain ⟨hq191, hm⟩ := hm
       have hl192 : (vs174 ++ [Value.slice a175 (gi groups_121 (IntKind.i64.wrap (((groups_121.length : Nat) : Int) - 1))).length c176]).length = groups_121.length := (by have h9 := h177.len; have h8 := hq191.1; have h7 := hq191.2; simp at h9 ⊢; omega)
       replace hS := hS.conv (t := 16) (x := .slice a122 groups_121.length c124) (y := .slice a122 (vs174 ++ [Value.slice a175 (gi groups_121 (IntKind.i64.wrap (((groups_121.length : Nat) : Int) - 1))).length c176]).length c124) kr (by rw [hl192])
       refine op1 (indexX (E := 31) (k := .i64) (T := tRaw) (xs := vs174 ++ [Value.slice a175 (gi groups_121 (IntKind.i64.wrap (((groups_121.length : Nat) : Int) - 1))).length c176]) T hS kr kr kr kr h125 kr kr hq191.1 (by have := hq191.2; rw [hl192]; omega) ?_)
       intro A188 a h189 h190 hS
       replace hS := hS.conv (t := 16) (x := .slice a122 (vs174 ++ [Value.slice a175 (gi groups_121 (IntKind.i64.wrap (((groups_121.length : Nat) : Int) - 1))).length c176]).length c124) (y := .slice a122 groups_121.length c124) kr (by rw [hl192])
       clear hl192
       have hvl : (IntKind.i64.wrap (((groups_121.length : Nat) : Int) - 1)).toNat = vs174.length := by have h9 := h177.len; have h8 := hq191.1; have h7 := hq191.2; simp at h9; omega
       refine op1 (storeO (x := Value.slice a186 ((gi groups_121 (IntKind.i64.wrap (((groups_121.length : Nat) : Int) - 1))) ++ [gi hints x_128]).length c187) (v := V (Value.slice a186 ((gi groups_121 (IntKind.i64.wrap (((groups_121.length : Nat) : Int) - 1))) ++ [gi hints x_128]).length c187)) (i := (IntKind.i64.wrap (((groups_121.length : Nat) : Int) - 1)).toNat) (E := 31) (xs := vs174 ++ [Value.slice a175 (gi groups_121 (IntKind.i64.wrap (((groups_121.length : Nat) : Int) - 1))).length c176]) (T := tRaw) T hS kr kr kr kr h125 h189 (by simp; omega) kr (fun _ _ _ => ⟨rfl, rfl⟩) ?_)
       intro a w193 hE h194 hS
       clear h125 h189 h190
       replace hO := hO.mv hE rfl rfl
       replace h120 := h120.mv hE rfl rfl
       replace h127 := h127.mv hE rfl
       replace h177 := h177.mv hE rfl
       replace h182 := h182.mv hE rfl
       replace h185 := h185.mv hE rfl rfl
       clear hE
       rw [set_last hvl] at h194
       have h195 := RF.push rfl h185 h177
       clear h185 h177 hvl
       replace hS := hS.conv (t := 3) (x := .slice a122 groups_121.length c124) (y := .slice a122 (groups_121.dropLast ++ [(gi groups_121 (IntKind.i64.wrap (((groups_121.length : Nat) : Int) - 1))) ++ [gi hints x_128]]).length c124) kr (by have h8 := hq191.1; have h7 := hq191.2; congr 1; simp <;> omega)
       replace hS := hS.conv (t := 16) (x := .slice a122 groups_121.length c124) (y := .slice a122 (groups_121.dropLast ++ [(gi groups_121 (IntKind.i64.wrap (((groups_121.length : Nat) : Int) - 1))) ++ [gi hints x_128]]).length c124) kr (by have h8 := hq191.1; have h7 := hq191.2; congr 1; simp <;> omega)
       refine doneK ?_
       exact ⟨ρ, _, ahead_117, groups_121.dropLast ++ [(gi groups_121 (IntKind.i64.wrap (((groups_121.length : Nat) : Int) - 1))) ++ [gi hints x_128]], a118, c119, a122, (vs174 ++ [Value.slice a186 ((gi groups_121 (IntKind.i64.wrap (((groups_121.length : Nat) : Int) - 1))) ++ [gi hints x_128]).length c187]), c124, hm, hS.sl _, hO, h120, h194, h195, h127⟩
    ·rintro a w197 ⟨ρ, χ196, ahead_129, groups_133, a130, c131, a134, vs135, c136, hm, hS, hO, h132, h137, h138, h139⟩
     unfold VC16_J2 at hm
     refine region (eP T hS ⟨[(2, Sl a130 ahead_129 c131), (3, Sl a134 groups_133 c136), (7, Sl a1 hints c1), (8, I ((hints.length : Nat) : Int)), (9, I (IntKind.i64.wrap (x_128 + 1)))], []⟩ fun a hS => ?_)
     exact ⟨⟨ahead_129, groups_133, IntKind.i64.wrap (x_128 + 1)⟩, ⟨ρ, _, a130, c131, a134, vs135, c136, hm.1, hS.sl _, hO, h132, h137, h138, h139⟩, hm.2⟩
   ·replace hm := hm.2 hb
    refine wexit (by rfl) ?_
    exact ⟨ρ, _, ahead_117, groups_121, a118, c119, a122, vs123, c124, hm, hS.sl _, hO, h120, h125, h126⟩
 ·rintro a w201 ⟨ρ, χ200, ahead_101, groups_105, a102, c103, a106, vs107, c108, hm, hS, hO, h104, h109, h110⟩
  unfold VC16_J1 at hm
  refine rP T hS ⟨[(2, Sl a102 ahead_101 c103), (3, Sl a106 groups_105 c108)], []⟩ fun a hS => ?_
  refine wret ?_
  obtain ⟨χ111, hE, hF⟩ := h110.freeze (by decide)
  clear h110
  replace hS := hS.ev hE (xone_box kr)
  replace hO := hO.mv hE rfl rfl
  replace h104 := h104.mv hE rfl rfl
  replace h109 := h109.mv hE rfl rfl
  have h112 := RF.rows h109 hF
  clear hE hF h109
  obtain ⟨χ113, hE, hF⟩ := h104.freeze (by decide)
  replace hS := hS.ev hE (xone_box kr)
  replace hO := hO.mv hE rfl rfl
  replace h112 := h112.mv hE rfl rfl
  have h114 := hF; clear hE hF
  obtain ⟨χ115, hE, hF⟩ := h112.freeze (by decide)
  replace hS := hS.ev hE (xone_box kr)
  replace hO := hO.mv hE rfl rfl
  replace h114 := h114.mv hE rfl
  have h116 := hF; clear hE hF
  exact fin T hS hO (fun c => c) rfl (r := [.slice a102 ahead_101.length c103, .slice a106 groups_105.length c108]) kr (fun χ' hM hC => ⟨(ahead_101, groups_105), hm, a102, c103, a106, c108, rfl, h114.m0 hM, h116.m0 hM⟩)
theorem C16 (v : ∀ (hints : List Int), preSp hints → VC16 hints (fun r => r = proof_Split hints)) : S16 := by
 intro w χ hints a1 c1   hp h1
 refine (W16 w χ hints a1 c1   _ (v hints hp) h1).mono ?_
 rintro _ _ _ _ ⟨r, rfl, h⟩
 exact h
/-- replevin/replevinlaw10.awake -/
theorem W7 (k12 : S12) (k14 : S14) (k16 : S16) (k18 : S18) (k19 : S19) (k8 : S8) (w0 : World) (χ0 : Nat → Nat) (Q : Bool → Prop) (hm : VC7 Q) (hAmb : Amb w0 χ0) :
  Ret Tryd.prog 7 #[] xnone w0 χ0 (fun w χ' v => ∃ r, Q r ∧ v = .bool r) := by
 unfold VC7 at hm
 refine enter Tryd.func7 rfl (vals := []) kr ?_
 intro ρ a hS hO hM
 replace hAmb := hAmb.m0 hM
 clear hM
 refine rP T hS ⟨[], []⟩ fun a hS => ?_
 refine regO ?_
 refine op1 (call hS kr kr hb8 kr (fun _ _ => rfl) (k8 _ _ ([53, 32, 49, 32, 45, 50, 32, 48, 32, 51, 32, 45, 52, 32, 48, 10, 53, 32, 100, 32, 49, 32, 50, 32, 48, 10] : List UInt8)) ?_)
 intro v101 a w102 χ103 hE hp hS
 replace hO := hO.mv hE rfl rfl
 replace hAmb := hAmb.mv hE rfl
 clear hE
 obtain ⟨a105, c106, hp, h107⟩ := hp
 obtain ⟨r104, hr⟩ : ∃ r, proof_Parse ([53, 32, 49, 32, 45, 50, 32, 48, 32, 51, 32, 45, 52, 32, 48, 10, 53, 32, 100, 32, 49, 32, 50, 32, 48, 10] : List UInt8) = r := ⟨_, rfl⟩
 replace hm := hm r104 hr
 rw [hr] at hp h107
 clear hr
 subst hp
 replace hm := hm (h107.sm kr)
 refine eP T hS ⟨[(1, Sl a105 r104.1 c106), (2, I r104.2.1), (3, I r104.2.2)], []⟩ fun a hS => ?_
 refine regO ?_
 refine op1 (call hS kr kr hb8 kr (fun _ _ => rfl) (k8 _ _ ([53, 32, 49, 32, 45, 50, 32, 48, 32, 51] : List UInt8)) ?_)
 intro v108 a w109 χ110 hE hp hS
 replace hO := hO.mv hE rfl rfl
 replace hAmb := hAmb.mv hE rfl
 replace h107 := h107.mv hE rfl
 clear hE
 obtain ⟨a112, c113, hp, h114⟩ := hp
 obtain ⟨r111, hr⟩ : ∃ r, proof_Parse ([53, 32, 49, 32, 45, 50, 32, 48, 32, 51] : List UInt8) = r := ⟨_, rfl⟩
 replace hm := hm r111 hr
 rw [hr] at hp h114
 clear hr
 subst hp
 replace hm := hm (h114.sm kr)
 refine eP T hS ⟨[(1, Sl a105 r104.1 c106), (2, I r104.2.1), (3, I r104.2.2), (5, I r111.2.1), (6, I r111.2.2)], []⟩ fun a hS => ?_
 refine regO ?_
 refine op1 (call hS kr kr hb8 kr (fun _ _ => rfl) (k8 _ _ ([53, 32, 49, 32, 49, 32, 48, 32, 48] : List UInt8)) ?_)
 intro v115 a w116 χ117 hE hp hS
 replace hO := hO.mv hE rfl rfl
 replace hAmb := hAmb.mv hE rfl
 replace h107 := h107.mv hE rfl
 clear hE
 obtain ⟨a119, c120, hp, h121⟩ := hp
 obtain ⟨r118, hr⟩ : ∃ r, proof_Parse ([53, 32, 49, 32, 49, 32, 48, 32, 48] : List UInt8) = r := ⟨_, rfl⟩
 replace hm := hm r118 hr
 rw [hr] at hp h121
 clear hr
 subst hp
 replace hm := hm (h121.sm kr)
 refine eP T hS ⟨[(1, Sl a105 r104.1 c106), (2, I r104.2.1), (3, I r104.2.2), (5, I r111.2.1), (6, I r111.2.2), (8, I r118.2.1), (9, I r118.2.2)], []⟩ fun a hS => ?_
 refine regO ?_
 refine oP T hS 1 ⟨[(1, Sl a105 r104.1 c106), (2, I r104.2.1), (3, I r104.2.2), (5, I r111.2.1), (6, I r111.2.2), (8, I r118.2.1), (9, I r118.2.2), (34, Sl a105 r104.1 c106)], []⟩ fun a hS => ?_
 refine op1 (call hS kr kr hb14 kr (fun _ _ => rfl) (k14 _ _ r104.1 a105 c106 h107 hAmb) ?_)
 intro v122 a w123 χ124 hE hp hS
 replace hO := hO.mv hE rfl rfl
 replace hAmb := hAmb.mv hE rfl
 replace h107 := h107.mv hE rfl
 clear hE
 obtain ⟨r125, hr⟩ : ∃ r, proof_Print r104.1 = r := ⟨_, rfl⟩
 replace hm := hm r125 hr
 rw [hr] at hp
 clear hr
 subst hp
 refine eP T hS ⟨[(1, Sl a105 r104.1 c106), (2, I r104.2.1), (3, I r104.2.2), (5, I r111.2.1), (6, I r111.2.2), (8, I r118.2.1), (9, I r118.2.2), (10, Z r125.1), (11, I r125.2)], []⟩ fun a hS => ?_
 refine regO ?_
 refine op1 (lit (E := 3) (col := 0) (T := tI) (vals := [.int .i64 1, .int .i64 2, .int .i64 (-3), .int .i64 4, .int .i64 (-5)]) (ys := [1, 2, (-3), 4, (-5)]) T hS kr kr kr kr (by exact ⟨rfl, rfl, rfl, rfl, rfl, trivial⟩) rfl kr kr kr kr ?_)
 intro b126 a w127 χ128 hE h129 hN hS
 clear hN
 replace hO := hO.mv hE rfl rfl
 replace hAmb := hAmb.mv hE rfl
 replace h107 := h107.mv hE rfl
 clear hE
 replace h129 := h129.rs0
 obtain ⟨hq, hm⟩ := hm
 refine op1 (call hS kr kr hb16 kr (fun _ _ => rfl) (k16 _ _ [1, 2, (-3), 4, (-5)] (some ⟨b126, 0, none⟩) 5 hq h129) ?_)
 intro v130 a w131 χ132 hE hp hS
 clear hq
 replace hO := hO.mv hE rfl rfl
 replace hAmb := hAmb.mv hE rfl
 replace h107 := h107.mv hE rfl
 replace h129 := h129.mv hE rfl
 clear hE
 obtain ⟨a134, c135, a137, c138, hp, h136, h139⟩ := hp
 obtain ⟨r133, hr⟩ : ∃ r, proof_Split [1, 2, (-3), 4, (-5)] = r := ⟨_, rfl⟩
 replace hm := hm r133 hr
 rw [hr] at hp h136 h139
 clear hr
 subst hp
 replace hm := hm (h136.sm kr)
 replace hm := hm (h139.sm kr)
 refine eP T hS ⟨[(1, Sl a105 r104.1 c106), (2, I r104.2.1), (3, I r104.2.2), (5, I r111.2.1), (6, I r111.2.2), (8, I r118.2.1), (9, I r118.2.2), (10, Z r125.1), (11, I r125.2), (12, Sl a134 r133.1 c135), (13, Sl a137 r133.2 c138)], []⟩ fun a hS => ?_
 refine wseq ?_
 refine rP T hS ⟨[(1, Sl a105 r104.1 c106), (2, I r104.2.1), (3, I r104.2.2), (5, I r111.2.1), (6, I r111.2.2), (8, I r118.2.1), (9, I r118.2.2), (10, Z r125.1), (11, I r125.2), (12, Sl a134 r133.1 c135), (13, Sl a137 r133.2 c138), (50, B ((((r104.1.length : Nat) : Int) != 2) || (((r133.2.length : Nat) : Int) != 2)))], []⟩ (sp := [46]) fun a hS => ?_
 refine wcond hS (b := ((((r104.1.length : Nat) : Int) != 2) || (((r133.2.length : Nat) : Int) != 2))) kr (fun hb => ?_) (fun hb => ?_)
 ·replace hm := hm.1 hb
  refine rP T hS ⟨[(0, B false)], []⟩ fun a hS => ?_
  refine wret ?_
  exact fin T hS hO (fun c => c) rfl (r := [.bool false]) kr (fun χ' hM hC => ⟨false, hm, rfl⟩)
 ·replace hm := hm.2 hb
  refine wskip ?_
  refine regO ?_
  refine oP T hS 1 ⟨[(1, Sl a105 r104.1 c106), (2, I r104.2.1), (3, I r104.2.2), (5, I r111.2.1), (6, I r111.2.2), (8, I r118.2.1), (9, I r118.2.2), (10, Z r125.1), (11, I r125.2), (12, Sl a134 r133.1 c135), (13, Sl a137 r133.2 c138), (52, Sl a105 r104.1 c106)], []⟩ fun a hS => ?_
  refine op1 (call hS kr kr hb12 kr (fun _ _ => rfl) (k12 _ _ r104.1 a105 c106 h107) ?_)
  intro v140 a w141 χ142 hE hp hS
  replace hO := hO.mv hE rfl rfl
  replace hAmb := hAmb.mv hE rfl
  replace h107 := h107.mv hE rfl
  replace h136 := h136.mv hE rfl
  replace h139 := h139.mv hE rfl
  clear hE
  obtain ⟨r143, hr⟩ : ∃ r, proof_Check r104.1 = r := ⟨_, rfl⟩
  replace hm := hm r143 hr
  rw [hr] at hp
  clear hr
  subst hp
  refine eP T hS ⟨[(1, Sl a105 r104.1 c106), (2, I r104.2.1), (3, I r104.2.2), (5, I r111.2.1), (6, I r111.2.2), (8, I r118.2.1), (9, I r118.2.2), (10, Z r125.1), (11, I r125.2), (12, Sl a134 r133.1 c135), (13, Sl a137 r133.2 c138), (14, I r143.1), (15, I r143.2)], []⟩ fun a hS => ?_
  refine regO ?_
  refine oP T hS 1 ⟨[(1, Sl a105 r104.1 c106), (2, I r104.2.1), (3, I r104.2.2), (5, I r111.2.1), (6, I r111.2.2), (8, I r118.2.1), (9, I r118.2.2), (10, Z r125.1), (11, I r125.2), (12, Sl a134 r133.1 c135), (13, Sl a137 r133.2 c138), (14, I r143.1), (15, I r143.2), (57, V (.agg #[.int .i64 1, .int .i64 0, .slice none 0 0, .slice none 0 0]))], []⟩ fun a hS => ?_
  refine op1 (lit (E := 52) (col := 0) (T := tApi_Step) (vals := [.agg #[.int .i64 1, .int .i64 0, .slice none 0 0, .slice none 0 0]]) (ys := [(⟨1, 0, [], []⟩ : Api_Step)]) T hS kr kr kr kr (by exact ⟨⟨none, 0, none, 0, rfl, RS.empty _ _ _, RS.empty _ _ _⟩, trivial⟩) rfl kr kr kr kr ?_)
  intro b144 a w145 χ146 hE h147 hN hS
  clear hN
  replace hO := hO.mv hE rfl rfl
  replace hAmb := hAmb.mv hE rfl
  replace h107 := h107.mv hE rfl
  replace h136 := h136.mv hE rfl
  replace h139 := h139.mv hE rfl
  clear hE
  replace h147 := h147.rs0
  refine op1 (call hS kr kr hb12 kr (fun _ _ => rfl) (k12 _ _ [(⟨1, 0, [], []⟩ : Api_Step)] (some ⟨b144, 0, none⟩) 1 h147) ?_)
  intro v148 a w149 χ150 hE hp hS
  replace hO := hO.mv hE rfl rfl
  replace hAmb := hAmb.mv hE rfl
  replace h107 := h107.mv hE rfl
  replace h136 := h136.mv hE rfl
  replace h139 := h139.mv hE rfl
  replace h147 := h147.mv hE rfl
  clear hE
  obtain ⟨r151, hr⟩ : ∃ r, proof_Check [(⟨1, 0, [], []⟩ : Api_Step)] = r := ⟨_, rfl⟩
  replace hm := hm r151 hr
  rw [hr] at hp
  clear hr
  subst hp
  refine eP T hS ⟨[(1, Sl a105 r104.1 c106), (2, I r104.2.1), (3, I r104.2.2), (5, I r111.2.1), (6, I r111.2.2), (8, I r118.2.1), (9, I r118.2.2), (10, Z r125.1), (11, I r125.2), (12, Sl a134 r133.1 c135), (13, Sl a137 r133.2 c138), (14, I r143.1), (15, I r143.2), (17, I r151.2)], []⟩ fun a hS => ?_
  refine regO ?_
  refine oP T hS 7 ⟨[(1, Sl a105 r104.1 c106), (5, I r111.2.1), (6, I r111.2.2), (8, I r118.2.1), (9, I r118.2.2), (10, Z r125.1), (11, I r125.2), (12, Sl a134 r133.1 c135), (13, Sl a137 r133.2 c138), (14, I r143.1), (15, I r143.2), (17, I r151.2), (68, B ((r104.2.1 == 26) && (r104.2.2 == 0)))], []⟩ (sp := [64]) fun a hS => ?_
  rcases Bool.eq_false_or_eq_true ((r104.2.1 == 26) && (r104.2.2 == 0)) with hb | hb
  ·replace hS := hS.lit (t := 68) kr hb
   replace hm := hm.1 hb
   refine oP T hS 1 ⟨[(1, Sl a105 r104.1 c106), (5, I r111.2.1), (6, I r111.2.2), (8, I r118.2.1), (9, I r118.2.2), (10, Z r125.1), (11, I r125.2), (12, Sl a134 r133.1 c135), (13, Sl a137 r133.2 c138), (14, I r143.1), (15, I r143.2), (17, I r151.2), (68, B true), (69, Sl a105 r104.1 c106)], []⟩ fun a hS => ?_
   obtain ⟨hq, hm⟩ := hm
   refine op1 (index (e := 52) (k := .i64) T hS kr kr kr kr h107 kr kr hq.1 hq.2 ?_)
   intro A152 a h153 hS
   clear hq
   refine op1 (fieldA (off := 1) (fsz := 1) (ft := 3) (TF := tI) (y := (gi r104.1 0).Id) T hS kr kr kr h153 kr kr kr (fun cs h => Api_Step_f1 h) ?_)
   intro A154 a h155 hS
   refine op1 (load1 T hS kr kr kr h155 rfl kr ?_)
   intro v156 a hv hS
   cases hv
   refine oP T hS 3 ⟨[(1, Sl a105 r104.1 c106), (5, I r111.2.1), (6, I r111.2.2), (8, I r118.2.1), (9, I r118.2.2), (10, Z r125.1), (11, I r125.2), (12, Sl a134 r133.1 c135), (13, Sl a137 r133.2 c138), (14, I r143.1), (15, I r143.2), (17, I r151.2), (75, B (((gi r104.1 0).Id) == 5))], []⟩ fun a hS => ?_
   rcases Bool.eq_false_or_eq_true (((gi r104.1 0).Id) == 5) with hb | hb
   ·replace hS := hS.lit (t := 75) kr hb
    replace hm := hm.1 hb
    refine oP T hS 1 ⟨[(1, Sl a105 r104.1 c106), (5, I r111.2.1), (6, I r111.2.2), (8, I r118.2.1), (9, I r118.2.2), (10, Z r125.1), (11, I r125.2), (12, Sl a134 r133.1 c135), (13, Sl a137 r133.2 c138), (14, I r143.1), (15, I r143.2), (17, I r151.2), (75, B true), (76, Sl a105 r104.1 c106)], []⟩ fun a hS => ?_
    obtain ⟨hq, hm⟩ := hm
    refine op1 (index (e := 52) (k := .i64) T hS kr kr kr kr h107 kr kr hq.1 hq.2 ?_)
    intro A157 a h158 hS
    clear hq
    refine op1 (fieldA (off := 0) (fsz := 1) (ft := 3) (TF := tI) (y := (gi r104.1 1).Kind) T hS kr kr kr h158 kr kr kr (fun cs h => Api_Step_f0 h) ?_)
    intro A159 a h160 hS
    refine op1 (load1 T hS kr kr kr h160 rfl kr ?_)
    intro v161 a hv hS
    cases hv
    refine oP T hS 27 ⟨[(1, Sl a105 r104.1 c106), (12, Sl a134 r133.1 c135), (13, Sl a137 r133.2 c138), (14, I r143.1), (15, I r143.2), (17, I r151.2), (106, B (((((((((gi r104.1 1).Kind) == 2) && (r111.2.1 == 10)) && (r111.2.2 == 4)) && (r118.2.1 == 4)) && (r118.2.2 == 21)) && (r125.2 == 0)) && (r125.1 == ([53, 32, 49, 32, 45, 50, 32, 48, 32, 51, 32, 45, 52, 32, 48, 10, 53, 32, 100, 32, 49, 32, 50, 32, 48, 10] : List UInt8))))], []⟩ (sp := [82, 86, 90, 94, 98, 102]) fun a hS => ?_
    rcases Bool.eq_false_or_eq_true (((((((((gi r104.1 1).Kind) == 2) && (r111.2.1 == 10)) && (r111.2.2 == 4)) && (r118.2.1 == 4)) && (r118.2.2 == 21)) && (r125.2 == 0)) && (r125.1 == ([53, 32, 49, 32, 45, 50, 32, 48, 32, 51, 32, 45, 52, 32, 48, 10, 53, 32, 100, 32, 49, 32, 50, 32, 48, 10] : List UInt8))) with hb | hb
    ·replace hS := hS.lit (t := 106) kr hb
     replace hm := hm.1 hb
     refine oP T hS 1 ⟨[(1, Sl a105 r104.1 c106), (13, Sl a137 r133.2 c138), (14, I r143.1), (15, I r143.2), (17, I r151.2), (106, B true), (107, Sl a134 r133.1 c135)], []⟩ fun a hS => ?_
     refine op1 (lit (E := 3) (col := 0) (T := tI) (vals := [.int .i64 1, .int .i64 2]) (ys := [1, 2]) T hS kr kr kr kr (by exact ⟨rfl, rfl, trivial⟩) rfl kr kr kr kr ?_)
     intro b162 a w163 χ164 hE h165 hN hS
     clear hN
     replace hO := hO.mv hE rfl rfl
     replace hAmb := hAmb.mv hE rfl
     replace h107 := h107.mv hE rfl
     replace h136 := h136.mv hE rfl
     replace h139 := h139.mv hE rfl
     clear hE
     replace h165 := h165.rs0
     refine op1 (call hS kr kr hb19 kr (fun _ _ => rfl) (k19 _ _ r133.1 [1, 2] a134 c135 (some ⟨b162, 0, none⟩) 2 h136 h165) ?_)
     intro v166 a w167 χ168 hE hp hS
     replace hO := hO.mv hE rfl rfl
     replace hAmb := hAmb.mv hE rfl
     replace h107 := h107.mv hE rfl
     replace h136 := h136.mv hE rfl
     replace h139 := h139.mv hE rfl
     replace h165 := h165.mv hE rfl
     clear hE
     obtain ⟨r169, hr⟩ : ∃ r, ref01_SameInts r133.1 [1, 2] = r := ⟨_, rfl⟩
     replace hm := hm r169 hr
     rw [hr] at hp
     clear hr
     subst hp
     refine oP T hS 2 ⟨[(1, Sl a105 r104.1 c106), (13, Sl a137 r133.2 c138), (14, I r143.1), (15, I r143.2), (17, I r151.2), (111, B r169)], []⟩ fun a hS => ?_
     rcases Bool.eq_false_or_eq_true r169 with hb | hb
     ·replace hS := hS.lit (t := 111) kr hb
      replace hm := hm.1 hb
      refine oP T hS 1 ⟨[(1, Sl a105 r104.1 c106), (13, Sl a137 r133.2 c138), (14, I r143.1), (15, I r143.2), (17, I r151.2), (111, B true), (112, Sl a137 r133.2 c138)], []⟩ fun a hS => ?_
      obtain ⟨hq, hm⟩ := hm
      refine op1 (index (e := 31) (k := .i64) T hS kr kr kr kr h139 kr kr hq.1 hq.2 ?_)
      intro A170 a h171 hS
      clear hq
      refine op1 (load1 T hS kr kr kr h171 rfl kr ?_)
      intro v172 a hv hS
      obtain ⟨a173, c174, hv, h175⟩ := hv
      cases hv
      replace hm := hm (h175.sm kr)
      refine op1 (lit (E := 3) (col := 0) (T := tI) (vals := [.int .i64 (-3), .int .i64 4]) (ys := [(-3), 4]) T hS kr kr kr kr (by exact ⟨rfl, rfl, trivial⟩) rfl kr kr kr kr ?_)
      intro b176 a w177 χ178 hE h179 hN hS
      clear hN
      replace hO := hO.mv hE rfl rfl
      replace hAmb := hAmb.mv hE rfl
      replace h107 := h107.mv hE rfl
      replace h139 := h139.mv hE rfl
      replace h171 := h171.mv hE rfl
      replace h175 := h175.mv hE rfl
      clear hE
      replace h179 := h179.rs0
      refine op1 (call hS kr kr hb19 kr (fun _ _ => rfl) (k19 _ _ (gi r133.2 0) [(-3), 4] a173 c174 (some ⟨b176, 0, none⟩) 2 h175 h179) ?_)
      intro v180 a w181 χ182 hE hp hS
      replace hO := hO.mv hE rfl rfl
      replace hAmb := hAmb.mv hE rfl
      replace h107 := h107.mv hE rfl
      replace h139 := h139.mv hE rfl
      replace h171 := h171.mv hE rfl
      replace h175 := h175.mv hE rfl
      replace h179 := h179.mv hE rfl
      clear hE
      obtain ⟨r183, hr⟩ : ∃ r, ref01_SameInts (gi r133.2 0) [(-3), 4] = r := ⟨_, rfl⟩
      replace hm := hm r183 hr
      rw [hr] at hp
      clear hr
      subst hp
      refine oP T hS 2 ⟨[(1, Sl a105 r104.1 c106), (13, Sl a137 r133.2 c138), (14, I r143.1), (15, I r143.2), (17, I r151.2), (118, B r183)], []⟩ fun a hS => ?_
      rcases Bool.eq_false_or_eq_true r183 with hb | hb
      ·replace hS := hS.lit (t := 118) kr hb
       replace hm := hm.1 hb
       refine oP T hS 1 ⟨[(1, Sl a105 r104.1 c106), (14, I r143.1), (15, I r143.2), (17, I r151.2), (118, B true), (119, Sl a137 r133.2 c138)], []⟩ fun a hS => ?_
       obtain ⟨hq, hm⟩ := hm
       refine op1 (index (e := 31) (k := .i64) T hS kr kr kr kr h139 kr kr hq.1 hq.2 ?_)
       intro A184 a h185 hS
       clear hq
       refine op1 (load1 T hS kr kr kr h185 rfl kr ?_)
       intro v186 a hv hS
       obtain ⟨a187, c188, hv, h189⟩ := hv
       cases hv
       replace hm := hm (h189.sm kr)
       refine op1 (lit (E := 3) (col := 0) (T := tI) (vals := [.int .i64 (-5)]) (ys := [(-5)]) T hS kr kr kr kr (by exact ⟨rfl, trivial⟩) rfl kr kr kr kr ?_)
       intro b190 a w191 χ192 hE h193 hN hS
       clear hN
       replace hO := hO.mv hE rfl rfl
       replace hAmb := hAmb.mv hE rfl
       replace h107 := h107.mv hE rfl
       replace h139 := h139.mv hE rfl
       replace h185 := h185.mv hE rfl
       replace h189 := h189.mv hE rfl
       clear hE
       replace h193 := h193.rs0
       refine op1 (call hS kr kr hb19 kr (fun _ _ => rfl) (k19 _ _ (gi r133.2 1) [(-5)] a187 c188 (some ⟨b190, 0, none⟩) 1 h189 h193) ?_)
       intro v194 a w195 χ196 hE hp hS
       replace hO := hO.mv hE rfl rfl
       replace hAmb := hAmb.mv hE rfl
       replace h107 := h107.mv hE rfl
       replace h139 := h139.mv hE rfl
       replace h185 := h185.mv hE rfl
       replace h189 := h189.mv hE rfl
       replace h193 := h193.mv hE rfl
       clear hE
       obtain ⟨r197, hr⟩ : ∃ r, ref01_SameInts (gi r133.2 1) [(-5)] = r := ⟨_, rfl⟩
       replace hm := hm r197 hr
       rw [hr] at hp
       clear hr
       subst hp
       refine oP T hS 14 ⟨[(1, Sl a105 r104.1 c106), (137, B (((r197 && (r143.1 == 2)) && (r143.2 == 0)) && (r151.2 == 2)))], []⟩ (sp := [125, 129, 133]) fun a hS => ?_
       rcases Bool.eq_false_or_eq_true (((r197 && (r143.1 == 2)) && (r143.2 == 0)) && (r151.2 == 2)) with hb | hb
       ·replace hS := hS.lit (t := 137) kr hb
        replace hm := hm.1 hb
        refine oP T hS 2 ⟨[(1, Sl a105 r104.1 c106), (137, B true), (138, Sl a105 r104.1 c106), (139, Sl a105 r104.1 c106)], []⟩ fun a hS => ?_
        refine op1 (call hS kr kr hb18 kr (fun _ _ => rfl) (k18 _ _ r104.1 r104.1 a105 c106 a105 c106 h107 h107) ?_)
        intro v198 a w199 χ200 hE hp hS
        replace hO := hO.mv hE rfl rfl
        replace hAmb := hAmb.mv hE rfl
        replace h107 := h107.mv hE rfl
        clear hE
        obtain ⟨r201, hr⟩ : ∃ r, proof_Same r104.1 r104.1 = r := ⟨_, rfl⟩
        replace hm := hm r201 hr
        rw [hr] at hp
        clear hr
        subst hp
        refine oP T hS 2 ⟨[(1, Sl a105 r104.1 c106), (142, B r201)], []⟩ fun a hS => ?_
        rcases Bool.eq_false_or_eq_true r201 with hb | hb
        ·replace hS := hS.lit (t := 142) kr hb
         replace hm := hm.1 hb
         refine oP T hS 2 ⟨[(142, B true), (143, Sl a105 r104.1 c106), (144, Sl a105 r104.1 c106)], []⟩ fun a hS => ?_
         obtain ⟨hq, hm⟩ := hm
         refine op1 (slice0 (E := 52) (kh := .i64) T hS kr kr kr kr h107 kr kr hq.1 hq.2 ?_)
         intro a202 c203 a h204 hS
         clear hq
         refine op1 (call hS kr kr hb18 kr (fun _ _ => rfl) (k18 _ _ r104.1 (r104.1.take (1 : Int).toNat) a105 c106 a202 c203 h107 h204) ?_)
         intro v205 a w206 χ207 hE hp hS
         replace hO := hO.mv hE rfl rfl
         replace hAmb := hAmb.mv hE rfl
         replace h107 := h107.mv hE rfl
         replace h204 := h204.mv hE rfl
         clear hE
         obtain ⟨r208, hr⟩ : ∃ r, proof_Same r104.1 (r104.1.take (1 : Int).toNat) = r := ⟨_, rfl⟩
         replace hm := hm r208 hr
         rw [hr] at hp
         clear hr
         subst hp
         refine eP T hS ⟨[(0, B (!r208))], []⟩ fun a hS => ?_
         refine wret ?_
         exact fin T hS hO (fun c => c) rfl (r := [.bool (!r208)]) kr (fun χ' hM hC => ⟨(!r208), hm, rfl⟩)
        ·replace hS := hS.lit (t := 142) kr hb
         replace hm := hm.2 hb
         refine eP T hS ⟨[(0, B false)], []⟩ fun a hS => ?_
         refine wret ?_
         exact fin T hS hO (fun c => c) rfl (r := [.bool false]) kr (fun χ' hM hC => ⟨false, hm, rfl⟩)
       ·replace hS := hS.lit (t := 137) kr hb
        replace hm := hm.2 hb
        refine eP T hS ⟨[(0, B false)], []⟩ fun a hS => ?_
        refine wret ?_
        exact fin T hS hO (fun c => c) rfl (r := [.bool false]) kr (fun χ' hM hC => ⟨false, hm, rfl⟩)
      ·replace hS := hS.lit (t := 118) kr hb
       replace hm := hm.2 hb
       refine eP T hS ⟨[(0, B false)], []⟩ fun a hS => ?_
       refine wret ?_
       exact fin T hS hO (fun c => c) rfl (r := [.bool false]) kr (fun χ' hM hC => ⟨false, hm, rfl⟩)
     ·replace hS := hS.lit (t := 111) kr hb
      replace hm := hm.2 hb
      refine eP T hS ⟨[(0, B false)], []⟩ fun a hS => ?_
      refine wret ?_
      exact fin T hS hO (fun c => c) rfl (r := [.bool false]) kr (fun χ' hM hC => ⟨false, hm, rfl⟩)
    ·replace hS := hS.lit (t := 106) kr hb
     replace hm := hm.2 hb
     refine eP T hS ⟨[(0, B false)], []⟩ fun a hS => ?_
     refine wret ?_
     exact fin T hS hO (fun c => c) rfl (r := [.bool false]) kr (fun χ' hM hC => ⟨false, hm, rfl⟩)
   ·replace hS := hS.lit (t := 75) kr hb
    replace hm := hm.2 hb
    refine eP T hS ⟨[(0, B false)], []⟩ fun a hS => ?_
    refine wret ?_
    exact fin T hS hO (fun c => c) rfl (r := [.bool false]) kr (fun χ' hM hC => ⟨false, hm, rfl⟩)
  ·replace hS := hS.lit (t := 68) kr hb
   replace hm := hm.2 hb
   refine eP T hS ⟨[(0, B false)], []⟩ fun a hS => ?_
   refine wret ?_
   exact fin T hS hO (fun c => c) rfl (r := [.bool false]) kr (fun χ' hM hC => ⟨false, hm, rfl⟩)
theorem C7 (k12 : S12) (k14 : S14) (k16 : S16) (k18 : S18) (k19 : S19) (k8 : S8) (v : ∀ (_ : Unit), VC7 (fun r => r = law10_awake)) : S7 := by
 intro w χ     hAmb
 refine (W7 k12 k14 k16 k18 k19 k8 w χ     _ (v ()) hAmb).mono ?_
 rintro _ _ _ _ ⟨r, rfl, h⟩
 exact h
end Go.Proofs.YtebhbnlbfglmkaaDoor
