/- Walks: each function returns what its condition asks. Condition: the contracts of its callees, handed in. -/
import Derived.Test.YtomodhnocjmfpaaQWalksS
set_option linter.all false
namespace Go.Proofs.Ytomodhnocjmfpaa
open Go Go.Sv
set_option maxHeartbeats 1000000
/-- replevin/witness.those -/
theorem W55 (k60 : S60) (k65 : S65) (w0 : World) (χ0 : Nat → Nat) (l_ : List Api_Oper) (picks : List Api_Pick) (pending : Bool) (a1 : Option Addr) (c1 : Nat) (a2 : Option Addr) (c2 : Nat) (Q : (List Int) → Prop) (hm : VC55 l_ picks pending Q) (h1 : RS tApi_Oper w0 χ0 a1 l_ c1) (h2 : RS tApi_Pick w0 χ0 a2 picks c2) :
  Ret Try.prog 55 #[.slice a1 l_.length c1, .slice a2 picks.length c2, .bool pending] xnone w0 χ0 (fun w χ' v => ∃ r, Q r ∧ ∃ (ra1 : Option Addr) (rc1 : Nat), v = .slice ra1 r.length rc1 ∧ RS tI w χ' ra1 r rc1) := by
 unfold VC55 at hm
 replace hm := hm (h1.sm kr)
 replace hm := hm (h2.sm kr)
 refine enter Try.func55 rfl (vals := [.slice a1 l_.length c1, .slice a2 picks.length c2, .bool pending]) kr ?_
 intro ρ a hS hO hM
 replace h1 := h1.m0 hM
 replace h2 := h2.m0 hM
 clear hM
 refine rP T hS ⟨[(0, Sl a1 l_ c1), (1, Sl a2 picks c2), (2, B pending)], []⟩ fun a hS => ?_
 refine regO ?_
 refine oP T hS 1 ⟨[(0, Sl a1 l_ c1), (2, B pending), (11, Sl a2 picks c2)], []⟩ fun a hS => ?_
 refine op1 (call hS kr kr hb60 kr (fun _ _ => rfl) (k60 _ _ picks a2 c2 2106 701 h2) ?_)
 intro v101 a w102 χ103 hE hp hS
 replace hO := hO.mv hE rfl rfl
 replace h1 := h1.mv hE rfl
 replace h2 := h2.mv hE rfl
 clear hE
 obtain ⟨r106, b107, hp, hc108, h105⟩ := hp
 obtain ⟨r104, hr⟩ : ∃ r, witness_absent picks = r := ⟨_, rfl⟩
 replace hm := hm r104 hr
 rw [hr] at h105
 clear hr
 subst hp
 replace hS := hS.newbox (id := 701) (t := 96) (cs := [V (.map (some r106))]) kr kr hc108 rfl
 replace hS := hS.convS (t := 12) (x := V (.func (.func 65) #[] #[.pointer (some ⟨b107, 0, none⟩)])) (y := .f (.func 65) [] [.p 701 0]) kr rfl
 generalize (upd ρ 701 b107) = ρ at hS
 clear hc108
 refine eP T hS ⟨[(0, Sl a1 l_ c1), (2, B pending), (7, .f (.func 65) [] [.p 701 0])], [(701, (96, [V (.map (some r106))]))]⟩ fun a hS => ?_
 refine rP T hS ⟨[(0, Sl a1 l_ c1), (2, B pending), (7, .f (.func 65) [] [.p 701 0]), (8, V (.slice none 0 0))], [(701, (96, [V (.map (some r106))]))]⟩ fun a hS => ?_
 refine wcut (fun a w => ∃ (ρ : Nat → Nat) (χ : Nat → Nat) (out_109 : List Int) (a110 : Option Addr) (c111 : Nat), VC55_J1 Q out_109 ∧ St Try.f55.ntmps ⟨[(8, Sl a110 out_109 c111)], []⟩ ρ a w χ ∧ Old w0 χ0 w χ ∧ OS tI 3 w χ 1007 a110 out_109 c111) ?_ ?_
 ·refine rP T hS ⟨[(2, B pending), (7, .f (.func 65) [] [.p 701 0]), (8, V (.slice none 0 0)), (13, Sl a1 l_ c1), (14, I ((l_.length : Nat) : Int)), (15, I 0)], [(701, (96, [V (.map (some r106))]))]⟩ fun a hS => ?_
  refine wblock ?_
  obtain ⟨I1, μ1, hm0, hm⟩ := hm
  refine wloop (σ := (List Int) × Int) (fun s a w => ∃ (ρ : Nat → Nat) (χ : Nat → Nat) (a116 : Option Addr) (c117 : Nat), I1 s.1 s.2 ∧ St Try.f55.ntmps ⟨[(2, B pending), (7, .f (.func 65) [] [.p 701 0]), (8, Sl a116 s.1 c117), (13, Sl a1 l_ c1), (14, I ((l_.length : Nat) : Int)), (15, I s.2)], [(701, (96, [V (.map (some r106))]))]⟩ ρ a w χ ∧ Old w0 χ0 w χ ∧ OS tI 3 w χ 1007 a116 s.1 c117 ∧ RS tApi_Oper w χ a1 l_ c1 ∧ OM kI tI false w χ 2106 r106 r104) (fun s => μ1 s.1 s.2) (⟨[], 0⟩) ?_ ?_
  ·exact ⟨ρ, _, none, 0, hm0, hS.sl _, hO, (OS.nil _ _ _ _ _), h1, h105⟩
  ·rintro ⟨out_115, x_120⟩ a w160 ⟨ρ, χ159, a116, c117, hI, hS, hO, h118, h119, h121⟩
   replace hm := hm out_115 x_120 hI
   clear hI hm0
   refine rP T hS ⟨[(2, B pending), (7, .f (.func 65) [] [.p 701 0]), (8, Sl a116 out_115 c117), (13, Sl a1 l_ c1), (14, I ((l_.length : Nat) : Int)), (15, I x_120), (16, B (decide (x_120 < ((l_.length : Nat) : Int))))], [(701, (96, [V (.map (some r106))]))]⟩ fun a hS => ?_
   refine wseq ?_
   refine wcond hS (b := decide (x_120 < ((l_.length : Nat) : Int))) kr (fun hb => ?_) (fun hb => ?_)
   ·replace hm := hm.1 hb
    refine wskip ?_
    refine wcut (fun a w => ∃ (ρ : Nat → Nat) (χ : Nat → Nat) (out_122 : List Int) (a123 : Option Addr) (c124 : Nat), VC55_J2 I1 μ1 out_115 x_120 out_122 ∧ St Try.f55.ntmps ⟨[(2, B pending), (7, .f (.func 65) [] [.p 701 0]), (8, Sl a123 out_122 c124), (13, Sl a1 l_ c1), (14, I ((l_.length : Nat) : Int)), (15, I x_120)], [(701, (96, [V (.map (some r106))]))]⟩ ρ a w χ ∧ Old w0 χ0 w χ ∧ OS tI 3 w χ 1007 a123 out_122 c124 ∧ RS tApi_Oper w χ a1 l_ c1 ∧ OM kI tI false w χ 2106 r106 r104) ?_ ?_
    ·refine wblock ?_
     refine regO ?_
     refine oP T hS 1 ⟨[(2, B pending), (7, .f (.func 65) [] [.p 701 0]), (8, Sl a116 out_115 c117), (13, Sl a1 l_ c1), (14, I ((l_.length : Nat) : Int)), (15, I x_120), (17, I x_120)], [(701, (96, [V (.map (some r106))]))]⟩ fun a hS => ?_
     obtain ⟨hq, hm⟩ := hm
     refine op1 (index (e := 45) (k := .i64) T hS kr kr kr kr h119 kr kr hq.1 hq.2 ?_)
     intro A128 a h129 hS
     clear hq
     refine op1 (loadA T hS kr kr kr h129 kr kr ?_)
     intro v130 a hv hS
     subst hv
     refine eM T hS ⟨[(2, B pending), (7, .f (.func 65) [] [.p 701 0]), (8, Sl a116 out_115 c117), (9, I x_120), (10, Pt 11 0), (13, Sl a1 l_ c1), (14, I ((l_.length : Nat) : Int)), (15, I x_120)], [(11, (45, [I ((gi l_ x_120).Prc), I ((gi l_ x_120).Kind), I ((gi l_ x_120).Start), I ((gi l_ x_120).End), I ((gi l_ x_120).Result)])), (701, (96, [V (.map (some r106))]))]⟩ fun ρ a w155 χ156 hS hE hr => ?_
     replace hO := hO.mv hE rfl rfl
     replace h118 := h118.mv hE rfl rfl
     replace h119 := h119.mv hE rfl
     replace h121 := h121.mv hE rfl rfl
     clear hE hr
     refine wcut (fun a w => ∃ (ρ : Nat → Nat) (χ : Nat → Nat) (out_131 : List Int) (x_136 : Bool) (a132 : Option Addr) (c133 : Nat), VC55_J3 I1 μ1 out_115 x_120 out_131 x_136 ∧ St Try.f55.ntmps ⟨[(2, B pending), (7, .f (.func 65) [] [.p 701 0]), (8, Sl a132 out_131 c133), (9, I x_120), (13, Sl a1 l_ c1), (14, I ((l_.length : Nat) : Int)), (15, I x_120), (29, B x_136)], [(701, (96, [V (.map (some r106))]))]⟩ ρ a w χ ∧ Old w0 χ0 w χ ∧ OS tI 3 w χ 1007 a132 out_131 c133 ∧ RS tApi_Oper w χ a1 l_ c1 ∧ OM kI tI false w χ 2106 r106 r104) ?_ ?_
     ·refine region ?_
      refine oP T hS 6 ⟨[(2, B pending), (7, .f (.func 65) [] [.p 701 0]), (8, Sl a116 out_115 c117), (9, I x_120), (13, Sl a1 l_ c1), (14, I ((l_.length : Nat) : Int)), (15, I x_120), (25, B ((((gi l_ x_120).End) == (-1)) == pending))], [(701, (96, [V (.map (some r106))]))]⟩ fun a hS => ?_
      rcases Bool.eq_false_or_eq_true ((((gi l_ x_120).End) == (-1)) == pending) with hb | hb
      ·replace hS := hS.lit (t := 25) kr hb
       replace hm := hm.1 hb
       refine oP T hS 2 ⟨[(2, B pending), (7, .f (.func 65) [] [.p 701 0]), (8, Sl a116 out_115 c117), (9, I x_120), (13, Sl a1 l_ c1), (14, I ((l_.length : Nat) : Int)), (15, I x_120), (25, B true), (26, .f (.func 65) [] [.p 701 0]), (27, I x_120)], [(701, (96, [V (.map (some r106))]))]⟩ fun a hS => ?_
       refine op1 (callCR (fi := []) (cp := [.p 701 0]) hS kr kr hb65 kr kr (k65 _ _ x_120 r104 r106 2106 (ρ 701) 701 h121 (hS.cell (id := 701) (t := 96) (cs := [V (.map (some r106))]) kr) ⟨by decide, by decide⟩) ?_)
       intro v147 a w148 χ149 hE hp hS
       clear h121
       replace hO := hO.mv hE rfl rfl
       replace h118 := h118.mv hE rfl rfl
       replace h119 := h119.mv hE rfl
       clear hE
       obtain ⟨hp, hc151, h152⟩ := hp
       obtain ⟨r150, hr⟩ : ∃ r, witness_absent_1 x_120 r104 = r := ⟨_, rfl⟩
       replace hm := hm r150 hr
       rw [hr] at hp
       clear hr
       subst hp
       replace hS := hS.addbox (id := 701) (t := 96) (cs := [V (.map (some r106))]) kr hc151
       clear hc151
       refine eP T hS ⟨[(2, B pending), (7, .f (.func 65) [] [.p 701 0]), (8, Sl a116 out_115 c117), (9, I x_120), (13, Sl a1 l_ c1), (14, I ((l_.length : Nat) : Int)), (15, I x_120), (26, .f (.func 65) [] [.p 701 0]), (27, I x_120), (28, B r150), (29, B r150)], [(701, (96, [V (.map (some r106))]))]⟩ fun a hS => ?_
       exact ⟨ρ, _, out_115, r150, a116, c117, hm, hS.sl _, hO, h118, h119, h152⟩
      ·replace hS := hS.lit (t := 25) kr hb
       replace hm := hm.2 hb
       refine eP T hS ⟨[(2, B pending), (7, .f (.func 65) [] [.p 701 0]), (8, Sl a116 out_115 c117), (9, I x_120), (13, Sl a1 l_ c1), (14, I ((l_.length : Nat) : Int)), (15, I x_120), (29, B false)], [(701, (96, [V (.map (some r106))]))]⟩ fun a hS => ?_
       exact ⟨ρ, _, out_115, false, a116, c117, hm, hS.sl _, hO, h118, h119, h121⟩
     ·rintro a w154 ⟨ρ, χ153, out_131, x_136, a132, c133, hm, hS, hO, h134, h135, h137⟩
      unfold VC55_J3 at hm
      refine wcond hS (b := x_136) kr (fun hb => ?_) (fun hb => ?_)
      ·replace hm := hm.1 hb
       refine region ?_
       refine oP T hS 2 ⟨[(2, B pending), (7, .f (.func 65) [] [.p 701 0]), (8, Sl a132 out_131 c133), (13, Sl a1 l_ c1), (14, I ((l_.length : Nat) : Int)), (15, I x_120), (30, Sl a132 out_131 c133), (31, I x_120)], [(701, (96, [V (.map (some r106))]))]⟩ fun a hS => ?_
       refine op1 (lit (E := 3) (col := 0) (T := tI) (vals := [.int .i64 x_120]) (ys := [x_120]) T hS kr kr kr kr (by exact ⟨rfl, trivial⟩) rfl kr kr kr kr ?_)
       intro b138 a w139 χ140 hE h141 hN hS
       clear hN
       replace hO := hO.mv hE rfl rfl
       replace h134 := h134.mv hE rfl rfl
       replace h135 := h135.mv hE rfl
       replace h137 := h137.mv hE rfl rfl
       clear hE
       replace h141 := h141.rs0
       obtain ⟨hq, hm⟩ := hm
       obtain ⟨news, hN⟩ := h141.src
       refine op1 (append (E := 3) (T := tI) (col := 1007) (xs := out_131) T hS kr kr kr kr h134 hN kr kr kr kr hq ?_)
       intro a145 c146 a w142 χ143 hE h144 hS
       clear hq hN
       clear h134
       replace hO := hO.mv hE rfl rfl
       replace h135 := h135.mv hE rfl
       replace h137 := h137.mv hE rfl rfl
       replace h141 := h141.mv hE rfl
       clear hE
       refine eP T hS ⟨[(2, B pending), (7, .f (.func 65) [] [.p 701 0]), (8, Sl a145 (out_131 ++ [x_120]) c146), (13, Sl a1 l_ c1), (14, I ((l_.length : Nat) : Int)), (15, I x_120)], [(701, (96, [V (.map (some r106))]))]⟩ fun a hS => ?_
       exact ⟨ρ, _, out_131 ++ [x_120], a145, c146, hm, hS.sl _, hO, h144, h135, h137⟩
      ·replace hm := hm.2 hb
       refine wskip ?_
       exact ⟨ρ, _, out_131, a132, c133, hm, hS.sl _, hO, h134, h135, h137⟩
    ·rintro a w158 ⟨ρ, χ157, out_122, a123, c124, hm, hS, hO, h125, h126, h127⟩
     unfold VC55_J2 at hm
     refine region (eP T hS ⟨[(2, B pending), (7, .f (.func 65) [] [.p 701 0]), (8, Sl a123 out_122 c124), (13, Sl a1 l_ c1), (14, I ((l_.length : Nat) : Int)), (15, I (IntKind.i64.wrap (x_120 + 1)))], [(701, (96, [V (.map (some r106))]))]⟩ fun a hS => ?_)
     exact ⟨⟨out_122, IntKind.i64.wrap (x_120 + 1)⟩, ⟨ρ, _, a123, c124, hm.1, hS.sl _, hO, h125, h126, h127⟩, hm.2⟩
   ·replace hm := hm.2 hb
    refine wexit (by rfl) ?_
    exact ⟨ρ, _, out_115, a116, c117, hm, hS.sl _, hO, h118⟩
 ·rintro a w162 ⟨ρ, χ161, out_109, a110, c111, hm, hS, hO, h112⟩
  unfold VC55_J1 at hm
  refine rP T hS ⟨[(6, Sl a110 out_109 c111)], []⟩ fun a hS => ?_
  refine wret ?_
  obtain ⟨χ113, hE, hF⟩ := h112.freeze (by decide)
  replace hS := hS.ev hE (xone_box kr)
  replace hO := hO.mv hE rfl rfl
  have h114 := hF; clear hE hF
  exact fin T hS hO (fun c => c) rfl (r := [.slice a110 out_109.length c111]) kr (fun χ' hM hC => ⟨out_109, hm, a110, c111, rfl, h114.m0 hM⟩)
theorem C55 (k60 : S60) (k65 : S65) (v : ∀ (l_ : List Api_Oper) (picks : List Api_Pick) (pending : Bool), preT3 l_ picks pending → VC55 l_ picks pending (fun r => r = witness_those l_ picks pending)) : S55 := by
 intro w χ l_ picks pending a1 c1 a2 c2   hp h1 h2
 refine (W55 k60 k65 w χ l_ picks pending a1 c1 a2 c2   _ (v l_ picks pending hp) h1 h2).mono ?_
 rintro _ _ _ _ ⟨r, rfl, h⟩
 exact h
/-- replevin/witness.Missing -/
theorem W45 (k55 : S55) (w0 : World) (χ0 : Nat → Nat) (l_ : List Api_Oper) (picks : List Api_Pick) (a1 : Option Addr) (c1 : Nat) (a2 : Option Addr) (c2 : Nat) (Q : (List Int) → Prop) (hm : VC45 l_ picks Q) (h1 : RS tApi_Oper w0 χ0 a1 l_ c1) (h2 : RS tApi_Pick w0 χ0 a2 picks c2) :
  Ret Try.prog 45 #[.slice a1 l_.length c1, .slice a2 picks.length c2] xnone w0 χ0 (fun w χ' v => ∃ r, Q r ∧ ∃ (ra1 : Option Addr) (rc1 : Nat), v = .slice ra1 r.length rc1 ∧ RS tI w χ' ra1 r rc1) := by
 unfold VC45 at hm
 replace hm := hm (h1.sm kr)
 replace hm := hm (h2.sm kr)
 refine enter Try.func45 rfl (vals := [.slice a1 l_.length c1, .slice a2 picks.length c2]) kr ?_
 intro ρ a hS hO hM
 replace h1 := h1.m0 hM
 replace h2 := h2.m0 hM
 clear hM
 refine rP T hS ⟨[(0, Sl a1 l_ c1), (1, Sl a2 picks c2)], []⟩ fun a hS => ?_
 refine regO ?_
 refine oP T hS 2 ⟨[(5, Sl a1 l_ c1), (6, Sl a2 picks c2)], []⟩ fun a hS => ?_
 obtain ⟨hq, hm⟩ := hm
 refine op1 (call hS kr kr hb55 kr (fun _ _ => rfl) (k55 _ _ l_ picks false a1 c1 a2 c2 hq h1 h2) ?_)
 intro v101 a w102 χ103 hE hp hS
 clear hq
 replace hO := hO.mv hE rfl rfl
 replace h1 := h1.mv hE rfl
 replace h2 := h2.mv hE rfl
 clear hE
 obtain ⟨a105, c106, hp, h107⟩ := hp
 obtain ⟨r104, hr⟩ : ∃ r, witness_those l_ picks false = r := ⟨_, rfl⟩
 replace hm := hm r104 hr
 rw [hr] at hp h107
 clear hr
 subst hp
 replace hm := hm (h107.sm kr)
 refine eP T hS ⟨[(4, Sl a105 r104 c106)], []⟩ fun a hS => ?_
 refine wret ?_
 exact fin T hS hO (fun c => c) rfl (r := [.slice a105 r104.length c106]) kr (fun χ' hM hC => ⟨r104, hm, a105, c106, rfl, h107.m0 hM⟩)
theorem C45 (k55 : S55) (v : ∀ (l_ : List Api_Oper) (picks : List Api_Pick), preT2 l_ picks → VC45 l_ picks (fun r => r = witness_Missing l_ picks)) : S45 := by
 intro w χ l_ picks a1 c1 a2 c2   hp h1 h2
 refine (W45 k55 w χ l_ picks a1 c1 a2 c2   _ (v l_ picks hp) h1 h2).mono ?_
 rintro _ _ _ _ ⟨r, rfl, h⟩
 exact h
/-- replevin/oper.Ahead -/
theorem W49 (w0 : World) (χ0 : Nat → Nat) (a_ : Api_Oper) (b_ : Api_Oper) (Q : Bool → Prop) (hm : VC49 a_ b_ Q) :
  Ret Try.prog 49 #[.agg #[.int .i64 a_.Prc, .int .i64 a_.Kind, .int .i64 a_.Start, .int .i64 a_.End, .int .i64 a_.Result], .agg #[.int .i64 b_.Prc, .int .i64 b_.Kind, .int .i64 b_.Start, .int .i64 b_.End, .int .i64 b_.Result]] xnone w0 χ0 (fun w χ' v => ∃ r, Q r ∧ v = .bool r) := by
 unfold VC49 at hm
 refine enter Try.func49 rfl (vals := [.agg #[.int .i64 a_.Prc, .int .i64 a_.Kind, .int .i64 a_.Start, .int .i64 a_.End, .int .i64 a_.Result], .agg #[.int .i64 b_.Prc, .int .i64 b_.Kind, .int .i64 b_.Start, .int .i64 b_.End, .int .i64 b_.Result]]) kr ?_
 intro ρ a hS hO hM
 clear hM
 refine rM T hS ⟨[(2, Pt 3 0), (3, Pt 4 0)], [(3, (45, [I a_.Prc, I a_.Kind, I a_.Start, I a_.End, I a_.Result])), (4, (45, [I b_.Prc, I b_.Kind, I b_.Start, I b_.End, I b_.Result]))]⟩ fun ρ a w101 χ102 hS hE hr => ?_
 replace hO := hO.mv hE rfl rfl
 clear hE hr
 refine rP T hS ⟨[(4, B ((decide (a_.End ≥ 0)) && (decide (a_.End < b_.Start))))], []⟩ (sp := [8]) fun a hS => ?_
 refine wret ?_
 exact fin T hS hO (fun c => c) rfl (r := [.bool ((decide (a_.End ≥ 0)) && (decide (a_.End < b_.Start)))]) kr (fun χ' hM hC => ⟨((decide (a_.End ≥ 0)) && (decide (a_.End < b_.Start))), hm, rfl⟩)
theorem C49 (v : ∀ (a_ : Api_Oper) (b_ : Api_Oper), VC49 a_ b_ (fun r => r = oper_Ahead a_ b_)) : S49 := by
 intro w χ a_ b_    
 refine (W49 w χ a_ b_    _ (v a_ b_)).mono ?_
 rintro _ _ _ _ ⟨r, rfl, h⟩
 exact h
/-- replevin/witness.Order -/
theorem W44 (k49 : S49) (w0 : World) (χ0 : Nat → Nat) (l_ : List Api_Oper) (picks : List Api_Pick) (a1 : Option Addr) (c1 : Nat) (a2 : Option Addr) (c2 : Nat) (Q : Int → Prop) (hm : VC44 l_ picks Q) (h1 : RS tApi_Oper w0 χ0 a1 l_ c1) (h2 : RS tApi_Pick w0 χ0 a2 picks c2) :
  Ret Try.prog 44 #[.slice a1 l_.length c1, .slice a2 picks.length c2] xnone w0 χ0 (fun w χ' v => ∃ r, Q r ∧ v = .int .i64 r) := by
 unfold VC44 at hm
 replace hm := hm (h1.sm kr)
 replace hm := hm (h2.sm kr)
 refine enter Try.func44 rfl (vals := [.slice a1 l_.length c1, .slice a2 picks.length c2]) kr ?_
 intro ρ a hS hO hM
 replace h1 := h1.m0 hM
 replace h2 := h2.m0 hM
 clear hM
 refine rP T hS ⟨[(0, Sl a1 l_ c1), (1, Sl a2 picks c2)], []⟩ fun a hS => ?_
 refine wscope (by rfl) ?_
 refine regO ?_
 refine op1 (mkmap kI tI false 1011 hS kr kr ?_)
 intro r101 a w102 χ103 hE h104 hS
 replace hO := hO.mv hE rfl rfl
 replace h1 := h1.mv hE rfl
 replace h2 := h2.mv hE rfl
 clear hE
 refine eP T hS ⟨[(0, Sl a1 l_ c1), (1, Sl a2 picks c2), (5, V (.map (some r101)))], []⟩ fun a hS => ?_
 refine wseq ?_
 refine wlabel ?_
 refine wcut (fun a w => ∃ (ρ : Nat → Nat) (χ : Nat → Nat), VC44_J1 Q ∧ St Try.f44.ntmps ⟨[], []⟩ ρ a w χ ∧ Old w0 χ0 w χ) ?_ ?_
 ·refine rP T hS ⟨[(0, Sl a1 l_ c1), (5, V (.map (some r101))), (11, Sl a2 picks c2), (12, I ((picks.length : Nat) : Int)), (13, I 0)], []⟩ fun a hS => ?_
  refine wblock ?_
  obtain ⟨I1, μ1, hm0, hm⟩ := hm
  refine wloop (σ := (List (Int × Int)) × Int) (fun s a w => ∃ (ρ : Nat → Nat) (χ : Nat → Nat), I1 s.1 s.2 ∧ St Try.f44.ntmps ⟨[(0, Sl a1 l_ c1), (5, V (.map (some r101))), (11, Sl a2 picks c2), (12, I ((picks.length : Nat) : Int)), (13, I s.2)], []⟩ ρ a w χ ∧ Old w0 χ0 w χ ∧ RS tApi_Oper w χ a1 l_ c1 ∧ OM kI tI false w χ 1011 r101 s.1 ∧ RS tApi_Pick w χ a2 picks c2) (fun s => μ1 s.1 s.2) (⟨([] : List (Int × Int)), 0⟩) ?_ ?_
  ·exact ⟨ρ, _, hm0, hS.sl _, hO, h1, h104, h2⟩
  ·rintro ⟨there_106, x_109⟩ a w159 ⟨ρ, χ158, hI, hS, hO, h105, h107, h108⟩
   replace hm := hm there_106 x_109 hI
   clear hI hm0
   refine rP T hS ⟨[(0, Sl a1 l_ c1), (5, V (.map (some r101))), (11, Sl a2 picks c2), (12, I ((picks.length : Nat) : Int)), (13, I x_109), (14, B (decide (x_109 < ((picks.length : Nat) : Int))))], []⟩ fun a hS => ?_
   refine wseq ?_
   refine wcond hS (b := decide (x_109 < ((picks.length : Nat) : Int))) kr (fun hb => ?_) (fun hb => ?_)
   ·replace hm := hm.1 hb
    refine wskip ?_
    refine wcut (fun a w => ∃ (ρ : Nat → Nat) (χ : Nat → Nat) (there_111 : List (Int × Int)), VC44_J2 I1 μ1 there_106 x_109 there_111 ∧ St Try.f44.ntmps ⟨[(0, Sl a1 l_ c1), (5, V (.map (some r101))), (11, Sl a2 picks c2), (12, I ((picks.length : Nat) : Int)), (13, I x_109)], []⟩ ρ a w χ ∧ Old w0 χ0 w χ ∧ RS tApi_Oper w χ a1 l_ c1 ∧ OM kI tI false w χ 1011 r101 there_111 ∧ RS tApi_Pick w χ a2 picks c2) ?_ ?_
    ·refine wblock ?_
     refine regO ?_
     refine oP T hS 1 ⟨[(0, Sl a1 l_ c1), (5, V (.map (some r101))), (11, Sl a2 picks c2), (12, I ((picks.length : Nat) : Int)), (13, I x_109), (15, I x_109)], []⟩ fun a hS => ?_
     obtain ⟨hq, hm⟩ := hm
     refine op1 (index (e := 51) (k := .i64) T hS kr kr kr kr h108 kr kr hq.1 hq.2 ?_)
     intro A114 a h115 hS
     clear hq
     refine op1 (loadA T hS kr kr kr h115 kr kr ?_)
     intro v116 a hv hS
     subst hv
     refine eM T hS ⟨[(0, Sl a1 l_ c1), (5, V (.map (some r101))), (6, I x_109), (7, Pt 8 0), (11, Sl a2 picks c2), (12, I ((picks.length : Nat) : Int)), (13, I x_109)], [(8, (51, [I ((gi picks x_109).Oper), I ((gi picks x_109).Result)]))]⟩ fun ρ a w154 χ155 hS hE hr => ?_
     replace hO := hO.mv hE rfl rfl
     replace h105 := h105.mv hE rfl
     replace h107 := h107.mv hE rfl rfl
     replace h108 := h108.mv hE rfl
     clear hE hr
     refine wseq ?_
     refine rP T hS ⟨[(0, Sl a1 l_ c1), (5, V (.map (some r101))), (6, I x_109), (7, Pt 8 0), (11, Sl a2 picks c2), (12, I ((picks.length : Nat) : Int)), (13, I x_109), (27, B ((decide (((gi picks x_109).Oper) < 0)) || (decide (((gi picks x_109).Oper) ≥ ((l_.length : Nat) : Int)))))], [(8, (51, [I ((gi picks x_109).Oper), I ((gi picks x_109).Result)]))]⟩ (sp := [21]) fun a hS => ?_
     refine wcond hS (b := ((decide (((gi picks x_109).Oper) < 0)) || (decide (((gi picks x_109).Oper) ≥ ((l_.length : Nat) : Int))))) kr (fun hb => ?_) (fun hb => ?_)
     ·replace hm := hm.1 hb
      refine wexit (by rfl) ?_
      exact ⟨ρ, _, there_106, hm, hS.sl _, hO, h105, h107, h108⟩
     ·replace hm := hm.2 hb
      refine wskip ?_
      refine wcut (fun a w => ∃ (ρ : Nat → Nat) (χ : Nat → Nat), VC44_J3 picks I1 μ1 there_106 x_109 ∧ St Try.f44.ntmps ⟨[(0, Sl a1 l_ c1), (5, V (.map (some r101))), (7, Pt 8 0), (11, Sl a2 picks c2), (12, I ((picks.length : Nat) : Int)), (13, I x_109)], [(8, (51, [I ((gi picks x_109).Oper), I ((gi picks x_109).Result)]))]⟩ ρ a w χ ∧ Old w0 χ0 w χ ∧ RS tApi_Oper w χ a1 l_ c1 ∧ OM kI tI false w χ 1011 r101 there_106 ∧ RS tApi_Pick w χ a2 picks c2) ?_ ?_
      ·refine rP T hS ⟨[(0, Sl a1 l_ c1), (5, V (.map (some r101))), (6, I x_109), (7, Pt 8 0), (11, Sl a2 picks c2), (12, I ((picks.length : Nat) : Int)), (13, I x_109), (28, Sl a1 l_ c1), (29, I ((l_.length : Nat) : Int)), (30, I 0)], [(8, (51, [I ((gi picks x_109).Oper), I ((gi picks x_109).Result)]))]⟩ fun a hS => ?_
       refine wblock ?_
       obtain ⟨I2, μ2, hm0, hm⟩ := hm
       refine wloop (σ := Int) (fun s a w => ∃ (ρ : Nat → Nat) (χ : Nat → Nat), I2 s ∧ St Try.f44.ntmps ⟨[(0, Sl a1 l_ c1), (5, V (.map (some r101))), (6, I x_109), (7, Pt 8 0), (11, Sl a2 picks c2), (12, I ((picks.length : Nat) : Int)), (13, I x_109), (28, Sl a1 l_ c1), (29, I ((l_.length : Nat) : Int)), (30, I s)], [(8, (51, [I ((gi picks x_109).Oper), I ((gi picks x_109).Result)]))]⟩ ρ a w χ ∧ Old w0 χ0 w χ ∧ RS tApi_Oper w χ a1 l_ c1 ∧ OM kI tI false w χ 1011 r101 there_106 ∧ RS tApi_Pick w χ a2 picks c2 ∧ RS tApi_Oper w χ a1 l_ c1) (fun s => μ2 s) (0) ?_ ?_
       ·exact ⟨ρ, _, hm0, hS.sl _, hO, h105, h107, h108, h105⟩
       ·rintro x_127 a w151 ⟨ρ, χ150, hI, hS, hO, h123, h124, h125, h126⟩
        replace hm := hm x_127 hI
        clear hI hm0
        refine rP T hS ⟨[(0, Sl a1 l_ c1), (5, V (.map (some r101))), (6, I x_109), (7, Pt 8 0), (11, Sl a2 picks c2), (12, I ((picks.length : Nat) : Int)), (13, I x_109), (28, Sl a1 l_ c1), (29, I ((l_.length : Nat) : Int)), (30, I x_127), (31, B (decide (x_127 < ((l_.length : Nat) : Int))))], [(8, (51, [I ((gi picks x_109).Oper), I ((gi picks x_109).Result)]))]⟩ fun a hS => ?_
        refine wseq ?_
        refine wcond hS (b := decide (x_127 < ((l_.length : Nat) : Int))) kr (fun hb => ?_) (fun hb => ?_)
        ·replace hm := hm.1 hb
         refine wskip ?_
         refine wseq ?_
         refine wblock ?_
         refine regO ?_
         refine oP T hS 1 ⟨[(0, Sl a1 l_ c1), (5, V (.map (some r101))), (6, I x_109), (7, Pt 8 0), (11, Sl a2 picks c2), (12, I ((picks.length : Nat) : Int)), (13, I x_109), (28, Sl a1 l_ c1), (29, I ((l_.length : Nat) : Int)), (30, I x_127), (32, I x_127)], [(8, (51, [I ((gi picks x_109).Oper), I ((gi picks x_109).Result)]))]⟩ fun a hS => ?_
         obtain ⟨hq, hm⟩ := hm
         refine op1 (index (e := 45) (k := .i64) T hS kr kr kr kr h126 kr kr hq.1 hq.2 ?_)
         intro A128 a h129 hS
         clear hq
         refine op1 (loadA T hS kr kr kr h129 kr kr ?_)
         intro v130 a hv hS
         subst hv
         refine eM T hS ⟨[(0, Sl a1 l_ c1), (5, V (.map (some r101))), (6, I x_109), (7, Pt 8 0), (8, I x_127), (9, Pt 10 0), (11, Sl a2 picks c2), (12, I ((picks.length : Nat) : Int)), (13, I x_109), (28, Sl a1 l_ c1), (29, I ((l_.length : Nat) : Int)), (30, I x_127)], [(8, (51, [I ((gi picks x_109).Oper), I ((gi picks x_109).Result)])), (10, (45, [I ((gi l_ x_127).Prc), I ((gi l_ x_127).Kind), I ((gi l_ x_127).Start), I ((gi l_ x_127).End), I ((gi l_ x_127).Result)]))]⟩ fun ρ a w148 χ149 hS hE hr => ?_
         replace hO := hO.mv hE rfl rfl
         replace h123 := h123.mv hE rfl
         replace h124 := h124.mv hE rfl rfl
         replace h125 := h125.mv hE rfl
         replace h126 := h126.mv hE rfl
         clear hE hr
         refine wcut (fun a w => ∃ (ρ : Nat → Nat) (χ : Nat → Nat) (x_135 : Bool), VC44_J4 Q x_109 I2 μ2 x_127 x_135 ∧ St Try.f44.ntmps ⟨[(0, Sl a1 l_ c1), (5, V (.map (some r101))), (6, I x_109), (7, Pt 8 0), (11, Sl a2 picks c2), (12, I ((picks.length : Nat) : Int)), (13, I x_109), (28, Sl a1 l_ c1), (29, I ((l_.length : Nat) : Int)), (30, I x_127), (47, B x_135)], [(8, (51, [I ((gi picks x_109).Oper), I ((gi picks x_109).Result)]))]⟩ ρ a w χ ∧ Old w0 χ0 w χ ∧ RS tApi_Oper w χ a1 l_ c1 ∧ OM kI tI false w χ 1011 r101 there_106 ∧ RS tApi_Pick w χ a2 picks c2 ∧ RS tApi_Oper w χ a1 l_ c1) ?_ ?_
         ·refine drawnX [8, 10] mixed hS ?_
          intro w136 χ137 hS hE hD hH
          replace hO := hO.mv hE rfl rfl
          replace h123 := h123.mv hE rfl
          replace h124 := h124.mv hE rfl rfl
          replace h125 := h125.mv hE rfl
          replace h126 := h126.mv hE rfl
          clear hE
          refine tk T [0, 1, 2, 3] [8, 10] hS hH #[true, true, true, true, false, false, false, false, false, false, false, false, false] 9 ⟨[(0, Sl a1 l_ c1), (5, V (.map (some r101))), (6, I x_109), (7, Pt 8 0), (8, I x_127), (11, Sl a2 picks c2), (12, I ((picks.length : Nat) : Int)), (13, I x_109), (28, Sl a1 l_ c1), (29, I ((l_.length : Nat) : Int)), (30, I x_127), (35, V (.agg #[.int .i64 ((gi l_ x_127).Prc), .int .i64 ((gi l_ x_127).Kind), .int .i64 ((gi l_ x_127).Start), .int .i64 ((gi l_ x_127).End), .int .i64 ((gi l_ x_127).Result)])), (36, Sl a1 l_ c1), (38, I ((gi picks x_109).Oper))], [(8, (51, [I ((gi picks x_109).Oper), I ((gi picks x_109).Result)])), (10, (45, [I ((gi l_ x_127).Prc), I ((gi l_ x_127).Kind), I ((gi l_ x_127).Start), I ((gi l_ x_127).End), I ((gi l_ x_127).Result)]))]⟩ fun a hS => ?_
          obtain ⟨hq, hm⟩ := hm
          refine dindex (e := 45) (k := .i64) T 4 hS kr kr kr (by rfl) kr hH kr kr h123 kr kr hq.1 hq.2 ?_
          intro A138 a h139 hS
          clear hq
          have h139b := h139.here
          refine dloadA T 5 hS kr kr kr (by rfl) kr hH kr h139 h139b kr kr ?_
          intro v140 a hv hS
          subst hv
          refine only 6 kr (by rfl) (call hS kr kr hb49 kr (fun _ _ => rfl) (k49 _ _ (gi l_ x_127) (gi l_ ((gi picks x_109).Oper))) ?_)
          intro v141 a w142 χ143 hE hp hS
          replace hO := hO.mv hE rfl rfl
          replace hD := hD.ev hE rfl
          replace h123 := h123.mv hE rfl
          replace h124 := h124.mv hE rfl rfl
          replace h125 := h125.mv hE rfl
          replace h126 := h126.mv hE rfl
          replace h139 := h139.mv hE rfl
          clear hE
          obtain ⟨r144, hr⟩ : ∃ r, oper_Ahead (gi l_ x_127) (gi l_ ((gi picks x_109).Oper)) = r := ⟨_, rfl⟩
          replace hm := hm r144 hr
          rw [hr] at hp
          clear hr
          subst hp
          replace hS := hS.sl ⟨[(0, Sl a1 l_ c1), (5, V (.map (some r101))), (6, I x_109), (7, Pt 8 0), (8, I x_127), (11, Sl a2 picks c2), (12, I ((picks.length : Nat) : Int)), (13, I x_109), (28, Sl a1 l_ c1), (29, I ((l_.length : Nat) : Int)), (30, I x_127), (35, V (.agg #[.int .i64 ((gi l_ x_127).Prc), .int .i64 ((gi l_ x_127).Kind), .int .i64 ((gi l_ x_127).Start), .int .i64 ((gi l_ x_127).End), .int .i64 ((gi l_ x_127).Result)])), (36, Sl a1 l_ c1), (38, I ((gi picks x_109).Oper)), (39, V (.pointer (some A138))), (40, V (.agg #[.int .i64 ((gi l_ ((gi picks x_109).Oper)).Prc), .int .i64 ((gi l_ ((gi picks x_109).Oper)).Kind), .int .i64 ((gi l_ ((gi picks x_109).Oper)).Start), .int .i64 ((gi l_ ((gi picks x_109).Oper)).End), .int .i64 ((gi l_ ((gi picks x_109).Oper)).Result)])), (41, B r144)], [(8, (51, [I ((gi picks x_109).Oper), I ((gi picks x_109).Result)])), (10, (45, [I ((gi l_ x_127).Prc), I ((gi l_ x_127).Kind), I ((gi l_ x_127).Start), I ((gi l_ x_127).End), I ((gi l_ x_127).Result)]))]⟩
          refine andH (Hold.of hS (bks := [8, 10]) kr hD) ?_
          intro hH
          refine tk T [7] [8, 10] hS hH #[true, true, true, true, true, true, true, true, false, false, false, false, false] 5 ⟨[(0, Sl a1 l_ c1), (5, V (.map (some r101))), (6, I x_109), (7, Pt 8 0), (8, I x_127), (11, Sl a2 picks c2), (12, I ((picks.length : Nat) : Int)), (13, I x_109), (28, Sl a1 l_ c1), (29, I ((l_.length : Nat) : Int)), (30, I x_127), (42, B r144)], [(8, (51, [I ((gi picks x_109).Oper), I ((gi picks x_109).Result)])), (10, (45, [I ((gi l_ x_127).Prc), I ((gi l_ x_127).Kind), I ((gi l_ x_127).Start), I ((gi l_ x_127).End), I ((gi l_ x_127).Result)]))]⟩ fun a hS => ?_
          rcases Bool.eq_false_or_eq_true r144 with hb | hb
          ·replace hS := hS.lit (t := 42) kr hb
           replace hm := hm.1 hb
           refine tk T [8, 9] [8, 10] hS hH #[true, true, true, true, true, true, true, true, true, true, false, false, false] 3 ⟨[(0, Sl a1 l_ c1), (5, V (.map (some r101))), (6, I x_109), (7, Pt 8 0), (11, Sl a2 picks c2), (12, I ((picks.length : Nat) : Int)), (13, I x_109), (28, Sl a1 l_ c1), (29, I ((l_.length : Nat) : Int)), (30, I x_127), (42, B true), (43, V (.map (some r101))), (44, I x_127)], [(8, (51, [I ((gi picks x_109).Oper), I ((gi picks x_109).Result)])), (10, (45, [I ((gi l_ x_127).Prc), I ((gi l_ x_127).Kind), I ((gi l_ x_127).Start), I ((gi l_ x_127).End), I ((gi l_ x_127).Result)]))]⟩ fun a hS => ?_
           refine only 10 kr (by rfl) (mlook kI tI false (zv := .int .i64 0) (z := 0) x_127 hS kr kr kr kr Try.underlying96 Try.underlying3 kr rfl h124 ?_)
           intro v145 a hv hS
           replace hv : tI.R _ _ [v145] _ := hv
           cases hv
           refine andH (Hold.of hS (bks := [8, 10]) kr hD) ?_
           intro hH
           refine tk T [11, 12] [8, 10] hS hH #[true, true, true, true, true, true, true, true, true, true, true, true, true] 0 ⟨[(0, Sl a1 l_ c1), (5, V (.map (some r101))), (6, I x_109), (7, Pt 8 0), (11, Sl a2 picks c2), (12, I ((picks.length : Nat) : Int)), (13, I x_109), (28, Sl a1 l_ c1), (29, I ((l_.length : Nat) : Int)), (30, I x_127), (43, V (.map (some r101))), (44, I x_127), (45, I ((mget there_106 x_127).getD 0)), (46, B (((mget there_106 x_127).getD 0) == 0)), (47, B (((mget there_106 x_127).getD 0) == 0))], [(8, (51, [I ((gi picks x_109).Oper), I ((gi picks x_109).Result)])), (10, (45, [I ((gi l_ x_127).Prc), I ((gi l_ x_127).Kind), I ((gi l_ x_127).Start), I ((gi l_ x_127).End), I ((gi l_ x_127).Result)]))]⟩ fun a hS => ?_
           refine drawnDone kr ?_
           clear hD hH
           replace hS := hS.sl ⟨[(0, Sl a1 l_ c1), (5, V (.map (some r101))), (6, I x_109), (7, Pt 8 0), (11, Sl a2 picks c2), (12, I ((picks.length : Nat) : Int)), (13, I x_109), (28, Sl a1 l_ c1), (29, I ((l_.length : Nat) : Int)), (30, I x_127), (43, V (.map (some r101))), (44, I x_127), (45, I ((mget there_106 x_127).getD 0)), (46, B (((mget there_106 x_127).getD 0) == 0)), (47, B (((mget there_106 x_127).getD 0) == 0))], [(8, (51, [I ((gi picks x_109).Oper), I ((gi picks x_109).Result)]))]⟩
           exact ⟨ρ, _, (((mget there_106 x_127).getD 0) == 0), hm, hS.sl _, hO, h123, h124, h125, h126⟩
          ·replace hS := hS.lit (t := 42) kr hb
           replace hm := hm.2 hb
           refine tk T [8, 9, 10, 11, 12] [8, 10] hS hH #[true, true, true, true, true, true, true, true, true, true, true, true, true] 0 ⟨[(0, Sl a1 l_ c1), (5, V (.map (some r101))), (6, I x_109), (7, Pt 8 0), (11, Sl a2 picks c2), (12, I ((picks.length : Nat) : Int)), (13, I x_109), (28, Sl a1 l_ c1), (29, I ((l_.length : Nat) : Int)), (30, I x_127), (43, V undef), (44, V undef), (45, V undef), (46, V undef), (47, B false)], [(8, (51, [I ((gi picks x_109).Oper), I ((gi picks x_109).Result)])), (10, (45, [I ((gi l_ x_127).Prc), I ((gi l_ x_127).Kind), I ((gi l_ x_127).Start), I ((gi l_ x_127).End), I ((gi l_ x_127).Result)]))]⟩ fun a hS => ?_
           refine drawnDone kr ?_
           clear hD hH
           replace hS := hS.sl ⟨[(0, Sl a1 l_ c1), (5, V (.map (some r101))), (6, I x_109), (7, Pt 8 0), (11, Sl a2 picks c2), (12, I ((picks.length : Nat) : Int)), (13, I x_109), (28, Sl a1 l_ c1), (29, I ((l_.length : Nat) : Int)), (30, I x_127), (47, B false)], [(8, (51, [I ((gi picks x_109).Oper), I ((gi picks x_109).Result)]))]⟩
           exact ⟨ρ, _, false, hm, hS.sl _, hO, h123, h124, h125, h126⟩
         ·rintro a w147 ⟨ρ, χ146, x_135, hm, hS, hO, h131, h132, h133, h134⟩
          unfold VC44_J4 at hm
          refine wcond hS (b := x_135) kr (fun hb => ?_) (fun hb => ?_)
          ·replace hm := hm.1 hb
           refine rP T hS ⟨[(4, I x_109)], []⟩ fun a hS => ?_
           refine wret ?_
           exact fin T hS hO (fun c => c) rfl (r := [.int .i64 x_109]) kr (fun χ' hM hC => ⟨x_109, hm, rfl⟩)
          ·replace hm := hm.2 hb
           refine wskip ?_
           refine region (eP T hS ⟨[(0, Sl a1 l_ c1), (5, V (.map (some r101))), (6, I x_109), (7, Pt 8 0), (11, Sl a2 picks c2), (12, I ((picks.length : Nat) : Int)), (13, I x_109), (28, Sl a1 l_ c1), (29, I ((l_.length : Nat) : Int)), (30, I (IntKind.i64.wrap (x_127 + 1)))], [(8, (51, [I ((gi picks x_109).Oper), I ((gi picks x_109).Result)]))]⟩ fun a hS => ?_)
           exact ⟨IntKind.i64.wrap (x_127 + 1), ⟨ρ, _, hm.1, hS.sl _, hO, h131, h132, h133, h134⟩, hm.2⟩
        ·replace hm := hm.2 hb
         refine wexit (by rfl) ?_
         exact ⟨ρ, _, hm, hS.sl _, hO, h123, h124, h125⟩
      ·rintro a w153 ⟨ρ, χ152, hm, hS, hO, h117, h118, h119⟩
       unfold VC44_J3 at hm
       refine region ?_
       refine oP T hS 3 ⟨[(0, Sl a1 l_ c1), (5, V (.map (some r101))), (11, Sl a2 picks c2), (12, I ((picks.length : Nat) : Int)), (13, I x_109), (50, V (.map (some r101))), (52, I ((gi picks x_109).Oper))], []⟩ fun a hS => ?_
       refine op1 (mlook kI tI false (zv := .int .i64 0) (z := 0) ((gi picks x_109).Oper) hS kr kr kr kr Try.underlying96 Try.underlying3 kr rfl h118 ?_)
       intro v120 a hv hS
       replace hv : tI.R _ _ [v120] _ := hv
       cases hv
       refine oP T hS 1 ⟨[(0, Sl a1 l_ c1), (5, V (.map (some r101))), (11, Sl a2 picks c2), (12, I ((picks.length : Nat) : Int)), (13, I x_109), (50, V (.map (some r101))), (52, I ((gi picks x_109).Oper)), (54, I (IntKind.i64.wrap (((mget there_106 ((gi picks x_109).Oper)).getD 0) + 1)))], []⟩ fun a hS => ?_
       refine op1 (mset kI tI false (v := I (IntKind.i64.wrap (((mget there_106 ((gi picks x_109).Oper)).getD 0) + 1))) (u := IntKind.i64.wrap (((mget there_106 ((gi picks x_109).Oper)).getD 0) + 1)) ((gi picks x_109).Oper) hS kr kr kr kr Try.underlying96 Try.underlying3 kr h118 rfl ?_)
       intro a w121 hE h122 hS
       clear h118
       replace hO := hO.mv hE rfl rfl
       replace h117 := h117.mv hE rfl
       replace h119 := h119.mv hE rfl
       clear hE
       refine doneK ?_
       exact ⟨ρ, _, mput there_106 ((gi picks x_109).Oper) (IntKind.i64.wrap (((mget there_106 ((gi picks x_109).Oper)).getD 0) + 1)), hm, hS.sl _, hO, h117, h122, h119⟩
    ·rintro a w157 ⟨ρ, χ156, there_111, hm, hS, hO, h110, h112, h113⟩
     unfold VC44_J2 at hm
     refine region (eP T hS ⟨[(0, Sl a1 l_ c1), (5, V (.map (some r101))), (11, Sl a2 picks c2), (12, I ((picks.length : Nat) : Int)), (13, I (IntKind.i64.wrap (x_109 + 1)))], []⟩ fun a hS => ?_)
     exact ⟨⟨there_111, IntKind.i64.wrap (x_109 + 1)⟩, ⟨ρ, _, hm.1, hS.sl _, hO, h110, h112, h113⟩, hm.2⟩
   ·replace hm := hm.2 hb
    refine wexit (by rfl) ?_
    exact ⟨ρ, _, hm, hS.sl _, hO⟩
 ·rintro a w161 ⟨ρ, χ160, hm, hS, hO⟩
  unfold VC44_J1 at hm
  refine rP T hS ⟨[(4, I (-1))], []⟩ fun a hS => ?_
  refine wret ?_
  exact fin T hS hO (fun c => c) rfl (r := [.int .i64 (-1)]) kr (fun χ' hM hC => ⟨(-1), hm, rfl⟩)
theorem C44 (k49 : S49) (v : ∀ (l_ : List Api_Oper) (picks : List Api_Pick), VC44 l_ picks (fun r => r = witness_Order l_ picks)) : S44 := by
 intro w χ l_ picks a1 c1 a2 c2   h1 h2
 refine (W44 k49 w χ l_ picks a1 c1 a2 c2   _ (v l_ picks) h1 h2).mono ?_
 rintro _ _ _ _ ⟨r, rfl, h⟩
 exact h
/-- replevin/oper.ended -/
theorem W57 (w0 : World) (χ0 : Nat → Nat) (o_ : Api_Oper) (Q : Bool → Prop) (hm : VC57 o_ Q) :
  Ret Try.prog 57 #[.agg #[.int .i64 o_.Prc, .int .i64 o_.Kind, .int .i64 o_.Start, .int .i64 o_.End, .int .i64 o_.Result]] xnone w0 χ0 (fun w χ' v => ∃ r, Q r ∧ v = .bool r) := by
 unfold VC57 at hm
 refine enter Try.func57 rfl (vals := [.agg #[.int .i64 o_.Prc, .int .i64 o_.Kind, .int .i64 o_.Start, .int .i64 o_.End, .int .i64 o_.Result]]) kr ?_
 intro ρ a hS hO hM
 clear hM
 refine rM T hS ⟨[(1, Pt 2 0)], [(2, (45, [I o_.Prc, I o_.Kind, I o_.Start, I o_.End, I o_.Result]))]⟩ fun ρ a w101 χ102 hS hE hr => ?_
 replace hO := hO.mv hE rfl rfl
 clear hE hr
 refine wseq ?_
 refine rP T hS ⟨[(1, Pt 2 0), (5, B (o_.End == (-1)))], [(2, (45, [I o_.Prc, I o_.Kind, I o_.Start, I o_.End, I o_.Result]))]⟩ fun a hS => ?_
 refine wcond hS (b := (o_.End == (-1))) kr (fun hb => ?_) (fun hb => ?_)
 ·replace hm := hm.1 hb
  refine rP T hS ⟨[(2, B (o_.Result == (-1)))], []⟩ fun a hS => ?_
  refine wret ?_
  exact fin T hS hO (fun c => c) rfl (r := [.bool (o_.Result == (-1))]) kr (fun χ' hM hC => ⟨(o_.Result == (-1)), hm, rfl⟩)
 ·replace hm := hm.2 hb
  refine wskip ?_
  refine rP T hS ⟨[(2, B ((((decide (o_.End > o_.Start)) && (decide (o_.End ≤ 9999))) && (decide (o_.Result ≥ 0))) && (decide (o_.Result ≤ 1000000))))], []⟩ (sp := [14, 19, 24]) fun a hS => ?_
  refine wret ?_
  exact fin T hS hO (fun c => c) rfl (r := [.bool ((((decide (o_.End > o_.Start)) && (decide (o_.End ≤ 9999))) && (decide (o_.Result ≥ 0))) && (decide (o_.Result ≤ 1000000)))]) kr (fun χ' hM hC => ⟨((((decide (o_.End > o_.Start)) && (decide (o_.End ≤ 9999))) && (decide (o_.Result ≥ 0))) && (decide (o_.Result ≤ 1000000))), hm, rfl⟩)
theorem C57 (v : ∀ (o_ : Api_Oper), VC57 o_ (fun r => r = oper_ended o_)) : S57 := by
 intro w χ o_    
 refine (W57 w χ o_    _ (v o_)).mono ?_
 rintro _ _ _ _ ⟨r, rfl, h⟩
 exact h
/-- replevin/oper.alone -/
theorem W52 (k57 : S57) (w0 : World) (χ0 : Nat → Nat) (o_ : Api_Oper) (Q : Int → Prop) (hm : VC52 o_ Q) :
  Ret Try.prog 52 #[.agg #[.int .i64 o_.Prc, .int .i64 o_.Kind, .int .i64 o_.Start, .int .i64 o_.End, .int .i64 o_.Result]] xnone w0 χ0 (fun w χ' v => ∃ r, Q r ∧ v = .int .i64 r) := by
 unfold VC52 at hm
 refine enter Try.func52 rfl (vals := [.agg #[.int .i64 o_.Prc, .int .i64 o_.Kind, .int .i64 o_.Start, .int .i64 o_.End, .int .i64 o_.Result]]) kr ?_
 intro ρ a hS hO hM
 clear hM
 refine rM T hS ⟨[(1, Pt 2 0)], [(2, (45, [I o_.Prc, I o_.Kind, I o_.Start, I o_.End, I o_.Result]))]⟩ fun ρ a w105 χ106 hS hE hr => ?_
 replace hO := hO.mv hE rfl rfl
 clear hE hr
 refine wseq ?_
 refine wblock ?_
 refine rP T hS ⟨[(1, Pt 2 0), (3, B ((((decide (o_.Prc < 1)) || (decide (o_.Prc > 1000))) || (decide (o_.Start < 0))) || (decide (o_.Start > 9999))))], [(2, (45, [I o_.Prc, I o_.Kind, I o_.Start, I o_.End, I o_.Result]))]⟩ (sp := [7, 12, 17]) fun a hS => ?_
 refine wcond hS (b := ((((decide (o_.Prc < 1)) || (decide (o_.Prc > 1000))) || (decide (o_.Start < 0))) || (decide (o_.Start > 9999)))) kr (fun hb => ?_) (fun hb => ?_)
 ·replace hm := hm.1 hb
  refine rP T hS ⟨[(2, I 2)], []⟩ fun a hS => ?_
  refine wret ?_
  exact fin T hS hO (fun c => c) rfl (r := [.int .i64 2]) kr (fun χ' hM hC => ⟨2, hm, rfl⟩)
 ·replace hm := hm.2 hb
  refine rP T hS ⟨[(1, Pt 2 0), (22, B ((decide (o_.Kind < 0)) || (decide (o_.Kind ≥ 64))))], [(2, (45, [I o_.Prc, I o_.Kind, I o_.Start, I o_.End, I o_.Result]))]⟩ (sp := [26]) fun a hS => ?_
  refine wcond hS (b := ((decide (o_.Kind < 0)) || (decide (o_.Kind ≥ 64)))) kr (fun hb => ?_) (fun hb => ?_)
  ·replace hm := hm.1 hb
   refine rP T hS ⟨[(2, I 31)], []⟩ fun a hS => ?_
   refine wret ?_
   exact fin T hS hO (fun c => c) rfl (r := [.int .i64 31]) kr (fun χ' hM hC => ⟨31, hm, rfl⟩)
  ·replace hm := hm.2 hb
   refine regO ?_
   refine oP T hS 1 ⟨[(32, V (.agg #[.int .i64 o_.Prc, .int .i64 o_.Kind, .int .i64 o_.Start, .int .i64 o_.End, .int .i64 o_.Result]))], []⟩ fun a hS => ?_
   refine op1 (call hS kr kr hb57 kr (fun _ _ => rfl) (k57 _ _ o_) ?_)
   intro v101 a w102 χ103 hE hp hS
   replace hO := hO.mv hE rfl rfl
   clear hE
   obtain ⟨r104, hr⟩ : ∃ r, oper_ended o_ = r := ⟨_, rfl⟩
   replace hm := hm r104 hr
   rw [hr] at hp
   clear hr
   subst hp
   refine eP T hS ⟨[(31, B (!r104))], []⟩ fun a hS => ?_
   refine wcond hS (b := (!r104)) kr (fun hb => ?_) (fun hb => ?_)
   ·replace hm := hm.1 hb
    refine rP T hS ⟨[(2, I 7)], []⟩ fun a hS => ?_
    refine wret ?_
    exact fin T hS hO (fun c => c) rfl (r := [.int .i64 7]) kr (fun χ' hM hC => ⟨7, hm, rfl⟩)
   ·replace hm := hm.2 hb
    refine wskip ?_
    refine rP T hS ⟨[(2, I 0)], []⟩ fun a hS => ?_
    refine wret ?_
    exact fin T hS hO (fun c => c) rfl (r := [.int .i64 0]) kr (fun χ' hM hC => ⟨0, hm, rfl⟩)
theorem C52 (k57 : S57) (v : ∀ (o_ : Api_Oper), VC52 o_ (fun r => r = oper_alone o_)) : S52 := by
 intro w χ o_    
 refine (W52 k57 w χ o_    _ (v o_)).mono ?_
 rintro _ _ _ _ ⟨r, rfl, h⟩
 exact h
/-- replevin/oper.Check -/
theorem W33 (k49 : S49) (k52 : S52) (w0 : World) (χ0 : Nat → Nat) (l_ : List Api_Oper) (a1 : Option Addr) (c1 : Nat) (Q : Int × Int → Prop) (hm : VC33 l_ Q) (h1 : RS tApi_Oper w0 χ0 a1 l_ c1) :
  Ret Try.prog 33 #[.slice a1 l_.length c1] xnone w0 χ0 (fun w χ' v => ∃ r, Q r ∧ v = .tuple #[.int .i64 r.1, .int .i64 r.2]) := by
 unfold VC33 at hm
 replace hm := hm (h1.sm kr)
 refine enter Try.func33 rfl (vals := [.slice a1 l_.length c1]) kr ?_
 intro ρ a hS hO hM
 replace h1 := h1.m0 hM
 clear hM
 refine rP T hS ⟨[(0, Sl a1 l_ c1)], []⟩ fun a hS => ?_
 refine wseq ?_
 refine rP T hS ⟨[(0, Sl a1 l_ c1), (13, B (decide (((l_.length : Nat) : Int) > 5000)))], []⟩ fun a hS => ?_
 refine wcond hS (b := decide (((l_.length : Nat) : Int) > 5000)) kr (fun hb => ?_) (fun hb => ?_)
 ·replace hm := hm.1 hb
  refine rP T hS ⟨[(2, I 0), (3, I 3)], []⟩ fun a hS => ?_
  refine wret ?_
  exact fin T hS hO (fun c => c) rfl (r := [.int .i64 0, .int .i64 3]) kr (fun χ' hM hC => ⟨(0, 3), hm, rfl⟩)
 ·replace hm := hm.2 hb
  refine wskip ?_
  refine regO ?_
  refine op1 (mkmap kI tI false 1015 hS kr kr ?_)
  intro r101 a w102 χ103 hE h104 hS
  replace hO := hO.mv hE rfl rfl
  replace h1 := h1.mv hE rfl
  clear hE
  refine eP T hS ⟨[(0, Sl a1 l_ c1), (4, V (.map (some r101)))], []⟩ fun a hS => ?_
  refine regO ?_
  refine op1 (mkmap kI tApi_Oper true 1016 hS kr kr ?_)
  intro r105 a w106 χ107 hE h108 hS
  replace hO := hO.mv hE rfl rfl
  replace h1 := h1.mv hE rfl
  replace h104 := h104.mv hE rfl rfl
  clear hE
  refine eP T hS ⟨[(0, Sl a1 l_ c1), (4, V (.map (some r101))), (5, V (.map (some r105)))], []⟩ fun a hS => ?_
  refine wcut (fun a w => ∃ (ρ : Nat → Nat) (χ : Nat → Nat), VC33_J1 l_ Q ∧ St Try.f33.ntmps ⟨[(0, Sl a1 l_ c1)], []⟩ ρ a w χ ∧ Old w0 χ0 w χ ∧ RS tApi_Oper w χ a1 l_ c1) ?_ ?_
  ·refine rP T hS ⟨[(0, Sl a1 l_ c1), (4, V (.map (some r101))), (5, V (.map (some r105))), (16, Sl a1 l_ c1), (17, I ((l_.length : Nat) : Int)), (18, I 0)], []⟩ fun a hS => ?_
   refine wblock ?_
   obtain ⟨I1, μ1, hm0, hm⟩ := hm
   refine wloop (σ := (List (Int × Int)) × (List (Int × Api_Oper)) × Int) (fun s a w => ∃ (ρ : Nat → Nat) (χ : Nat → Nat), I1 s.1 s.2.1 s.2.2 ∧ St Try.f33.ntmps ⟨[(0, Sl a1 l_ c1), (4, V (.map (some r101))), (5, V (.map (some r105))), (16, Sl a1 l_ c1), (17, I ((l_.length : Nat) : Int)), (18, I s.2.2)], []⟩ ρ a w χ ∧ Old w0 χ0 w χ ∧ RS tApi_Oper w χ a1 l_ c1 ∧ OM kI tI false w χ 1015 r101 s.1 ∧ OM kI tApi_Oper true w χ 1016 r105 s.2.1 ∧ RS tApi_Oper w χ a1 l_ c1) (fun s => μ1 s.1 s.2.1 s.2.2) (⟨([] : List (Int × Int)), ([] : List (Int × Api_Oper)), 0⟩) ?_ ?_
   ·exact ⟨ρ, _, hm0, hS.sl _, hO, h1, h104, h108, h1⟩
   ·rintro ⟨used_111, latest_113, x_116⟩ a w174 ⟨ρ, χ173, hI, hS, hO, h110, h112, h114, h115⟩
    replace hm := hm used_111 latest_113 x_116 hI
    clear hI hm0
    refine rP T hS ⟨[(0, Sl a1 l_ c1), (4, V (.map (some r101))), (5, V (.map (some r105))), (16, Sl a1 l_ c1), (17, I ((l_.length : Nat) : Int)), (18, I x_116), (19, B (decide (x_116 < ((l_.length : Nat) : Int))))], []⟩ fun a hS => ?_
    refine wseq ?_
    refine wcond hS (b := decide (x_116 < ((l_.length : Nat) : Int))) kr (fun hb => ?_) (fun hb => ?_)
    ·replace hm := hm.1 hb
     refine wskip ?_
     refine wcut (fun a w => ∃ (ρ : Nat → Nat) (χ : Nat → Nat) (used_118 : List (Int × Int)), VC33_J2 l_ I1 μ1 used_111 latest_113 x_116 used_118 ∧ St Try.f33.ntmps ⟨[(0, Sl a1 l_ c1), (4, V (.map (some r101))), (5, V (.map (some r105))), (16, Sl a1 l_ c1), (17, I ((l_.length : Nat) : Int)), (18, I x_116)], []⟩ ρ a w χ ∧ Old w0 χ0 w χ ∧ RS tApi_Oper w χ a1 l_ c1 ∧ OM kI tI false w χ 1015 r101 used_118 ∧ OM kI tApi_Oper true w χ 1016 r105 (mput latest_113 ((gi l_ x_116).Prc) (gi l_ x_116)) ∧ RS tApi_Oper w χ a1 l_ c1) ?_ ?_
     ·refine wblock ?_
      refine regO ?_
      refine oP T hS 1 ⟨[(0, Sl a1 l_ c1), (4, V (.map (some r101))), (5, V (.map (some r105))), (16, Sl a1 l_ c1), (17, I ((l_.length : Nat) : Int)), (18, I x_116), (20, I x_116)], []⟩ fun a hS => ?_
      obtain ⟨hq, hm⟩ := hm
      refine op1 (index (e := 45) (k := .i64) T hS kr kr kr kr h115 kr kr hq.1 hq.2 ?_)
      intro A122 a h123 hS
      clear hq
      refine op1 (loadA T hS kr kr kr h123 kr kr ?_)
      intro v124 a hv hS
      subst hv
      refine eM T hS ⟨[(0, Sl a1 l_ c1), (4, V (.map (some r101))), (5, V (.map (some r105))), (6, I x_116), (7, Pt 8 0), (16, Sl a1 l_ c1), (17, I ((l_.length : Nat) : Int)), (18, I x_116)], [(8, (45, [I ((gi l_ x_116).Prc), I ((gi l_ x_116).Kind), I ((gi l_ x_116).Start), I ((gi l_ x_116).End), I ((gi l_ x_116).Result)]))]⟩ fun ρ a w169 χ170 hS hE hr => ?_
      replace hO := hO.mv hE rfl rfl
      replace h110 := h110.mv hE rfl
      replace h112 := h112.mv hE rfl rfl
      replace h114 := h114.mv hE rfl rfl
      replace h115 := h115.mv hE rfl
      clear hE hr
      refine wseq ?_
      refine regO ?_
      refine oP T hS 1 ⟨[(0, Sl a1 l_ c1), (4, V (.map (some r101))), (5, V (.map (some r105))), (6, I x_116), (7, Pt 8 0), (16, Sl a1 l_ c1), (17, I ((l_.length : Nat) : Int)), (18, I x_116), (23, V (.agg #[.int .i64 ((gi l_ x_116).Prc), .int .i64 ((gi l_ x_116).Kind), .int .i64 ((gi l_ x_116).Start), .int .i64 ((gi l_ x_116).End), .int .i64 ((gi l_ x_116).Result)]))], [(8, (45, [I ((gi l_ x_116).Prc), I ((gi l_ x_116).Kind), I ((gi l_ x_116).Start), I ((gi l_ x_116).End), I ((gi l_ x_116).Result)]))]⟩ fun a hS => ?_
      refine op1 (call hS kr kr hb52 kr (fun _ _ => rfl) (k52 _ _ (gi l_ x_116)) ?_)
      intro v125 a w126 χ127 hE hp hS
      replace hO := hO.mv hE rfl rfl
      replace h110 := h110.mv hE rfl
      replace h112 := h112.mv hE rfl rfl
      replace h114 := h114.mv hE rfl rfl
      replace h115 := h115.mv hE rfl
      clear hE
      obtain ⟨r128, hr⟩ : ∃ r, oper_alone (gi l_ x_116) = r := ⟨_, rfl⟩
      replace hm := hm r128 hr
      rw [hr] at hp
      clear hr
      subst hp
      refine eP T hS ⟨[(0, Sl a1 l_ c1), (4, V (.map (some r101))), (5, V (.map (some r105))), (6, I x_116), (7, Pt 8 0), (8, I r128), (16, Sl a1 l_ c1), (17, I ((l_.length : Nat) : Int)), (18, I x_116)], [(8, (45, [I ((gi l_ x_116).Prc), I ((gi l_ x_116).Kind), I ((gi l_ x_116).Start), I ((gi l_ x_116).End), I ((gi l_ x_116).Result)]))]⟩ fun a hS => ?_
      refine rP T hS ⟨[(0, Sl a1 l_ c1), (4, V (.map (some r101))), (5, V (.map (some r105))), (6, I x_116), (7, Pt 8 0), (8, I r128), (16, Sl a1 l_ c1), (17, I ((l_.length : Nat) : Int)), (18, I x_116), (26, B (r128 != 0))], [(8, (45, [I ((gi l_ x_116).Prc), I ((gi l_ x_116).Kind), I ((gi l_ x_116).Start), I ((gi l_ x_116).End), I ((gi l_ x_116).Result)]))]⟩ fun a hS => ?_
      refine wcond hS (b := (r128 != 0)) kr (fun hb => ?_) (fun hb => ?_)
      ·replace hm := hm.1 hb
       refine rP T hS ⟨[(2, I x_116), (3, I r128)], []⟩ fun a hS => ?_
       refine wret ?_
       exact fin T hS hO (fun c => c) rfl (r := [.int .i64 x_116, .int .i64 r128]) kr (fun χ' hM hC => ⟨(x_116, r128), hm, rfl⟩)
      ·replace hm := hm.2 hb
       refine wskip ?_
       refine wseq ?_
       refine wcut (fun a w => ∃ (ρ : Nat → Nat) (χ : Nat → Nat) (x_133 : Bool), VC33_J3 l_ Q I1 μ1 used_111 latest_113 x_116 x_133 ∧ St Try.f33.ntmps ⟨[(0, Sl a1 l_ c1), (4, V (.map (some r101))), (5, V (.map (some r105))), (6, I x_116), (7, Pt 8 0), (16, Sl a1 l_ c1), (17, I ((l_.length : Nat) : Int)), (18, I x_116), (60, B x_133)], [(8, (45, [I ((gi l_ x_116).Prc), I ((gi l_ x_116).Kind), I ((gi l_ x_116).Start), I ((gi l_ x_116).End), I ((gi l_ x_116).Result)]))]⟩ ρ a w χ ∧ Old w0 χ0 w χ ∧ RS tApi_Oper w χ a1 l_ c1 ∧ OM kI tI false w χ 1015 r101 used_111 ∧ OM kI tApi_Oper true w χ 1016 r105 latest_113 ∧ RS tApi_Oper w χ a1 l_ c1) ?_ ?_
       ·refine drawnX [8] mixed hS ?_
        intro w156 χ157 hS hE hD hH
        replace hO := hO.mv hE rfl rfl
        replace h110 := h110.mv hE rfl
        replace h112 := h112.mv hE rfl rfl
        replace h114 := h114.mv hE rfl rfl
        replace h115 := h115.mv hE rfl
        clear hE
        refine take T [0, 1, 2] [8] [0, 4, 5, 6, 7, 16, 17, 18, 31] hS kr kr kr hH (listed' := #[true, true, true, false, false, false, false, false, false, false, false, false, false, false, false, false, false, false, false, false, false, false, false, false, false, false, false, false, false, false, false, false]) (fuel := 29) (sy' := ⟨[(0, Sl a1 l_ c1), (4, V (.map (some r101))), (5, V (.map (some r105))), (6, I x_116), (7, Pt 8 0), (16, Sl a1 l_ c1), (17, I ((l_.length : Nat) : Int)), (18, I x_116), (31, B (decide (x_116 > 0)))], [(8, (45, [I ((gi l_ x_116).Prc), I ((gi l_ x_116).Kind), I ((gi l_ x_116).Start), I ((gi l_ x_116).End), I ((gi l_ x_116).Result)]))]⟩) (by as_aux_lemma => kernel_rfl) (by rfl) ?_
        intro a hS
        rcases Bool.eq_false_or_eq_true (decide (x_116 > 0)) with hb | hb
        ·replace hS := hS.lit (t := 31) kr hb
         replace hm := hm.1 hb
         refine take T [3, 5, 6, 4, 7] [8] [0, 4, 5, 6, 7, 16, 17, 18, 31, 32, 33, 34, 35, 36] hS kr kr kr hH (listed' := #[true, true, true, true, true, true, true, true, false, false, false, false, false, false, false, false, false, false, false, false, false, false, false, false, false, false, false, false, false, false, false, false]) (fuel := 24) (sy' := ⟨[(0, Sl a1 l_ c1), (4, V (.map (some r101))), (5, V (.map (some r105))), (6, I x_116), (7, Pt 8 0), (16, Sl a1 l_ c1), (17, I ((l_.length : Nat) : Int)), (18, I x_116), (31, B true), (32, Pt 8 2), (33, I ((gi l_ x_116).Start)), (34, Sl a1 l_ c1), (35, I x_116), (36, I (IntKind.i64.wrap (x_116 - 1)))], [(8, (45, [I ((gi l_ x_116).Prc), I ((gi l_ x_116).Kind), I ((gi l_ x_116).Start), I ((gi l_ x_116).End), I ((gi l_ x_116).Result)]))]⟩) (by as_aux_lemma => kernel_rfl) (by rfl) ?_
         intro a hS
         obtain ⟨hq, hm⟩ := hm
         refine dindex (e := 45) (k := .i64) T 8 hS kr kr kr (by rfl) kr hH kr kr h110 kr kr hq.1 hq.2 ?_
         intro A158 a h159 hS
         clear hq
         have h159b := h159.here
         refine dfieldA (off := 2) (fsz := 1) (ft := 3) (TF := tI) (y := (gi l_ (IntKind.i64.wrap (x_116 - 1))).Start) 9 T hS kr kr kr (by rfl) kr hH kr h159 kr kr kr (fun cs h => Api_Oper_f2 h) ?_
         intro A160 a h161 hbl hS
         have h161b := h159b
         rw [← hbl] at h161b
         clear hbl
         refine dload1 T 10 hS kr kr kr (by rfl) kr hH kr h161 h161b rfl kr ?_
         intro v162 a hv hS
         cases hv
         refine take T [11, 12, 13] [8] [0, 4, 5, 6, 7, 16, 17, 18, 32, 33, 34, 35, 36, 37, 38, 39, 40, 42] hS kr kr kr hH (listed' := #[true, true, true, true, true, true, true, true, true, true, true, true, true, true, false, false, false, false, false, false, false, false, false, false, false, false, false, false, false, false, false, false]) (fuel := 18) (sy' := ⟨[(0, Sl a1 l_ c1), (4, V (.map (some r101))), (5, V (.map (some r105))), (6, I x_116), (7, Pt 8 0), (16, Sl a1 l_ c1), (17, I ((l_.length : Nat) : Int)), (18, I x_116), (32, Pt 8 2), (33, I ((gi l_ x_116).Start)), (34, Sl a1 l_ c1), (35, I x_116), (36, I (IntKind.i64.wrap (x_116 - 1))), (37, V (.pointer (some A158))), (38, V (.pointer (some A160))), (39, I ((gi l_ (IntKind.i64.wrap (x_116 - 1))).Start)), (40, B (decide (((gi l_ x_116).Start) ≤ ((gi l_ (IntKind.i64.wrap (x_116 - 1))).Start)))), (42, B (decide (((gi l_ x_116).Start) ≤ ((gi l_ (IntKind.i64.wrap (x_116 - 1))).Start))))], [(8, (45, [I ((gi l_ x_116).Prc), I ((gi l_ x_116).Kind), I ((gi l_ x_116).Start), I ((gi l_ x_116).End), I ((gi l_ x_116).Result)]))]⟩) (by as_aux_lemma => kernel_rfl) (by rfl) ?_
         intro a hS
         rcases Bool.eq_false_or_eq_true (decide (((gi l_ x_116).Start) ≤ ((gi l_ (IntKind.i64.wrap (x_116 - 1))).Start))) with hb | hb
         ·replace hS := hS.lit (t := 42) kr hb
          replace hm := hm.1 hb
          refine take T [14, 15, 16, 17, 18, 19, 20, 21, 22, 23, 24, 25, 26, 27, 28, 29, 30, 31] [8] [0, 4, 5, 6, 7, 16, 17, 18, 32, 33, 34, 35, 36, 37, 38, 39, 40, 43, 44, 45, 46, 47, 50, 51, 52, 53, 54, 55, 56, 57, 58, 59, 60] hS kr kr kr hH (listed' := #[true, true, true, true, true, true, true, true, true, true, true, true, true, true, true, true, true, true, true, true, true, true, true, true, true, true, true, true, true, true, true, true]) (fuel := 0) (sy' := ⟨[(0, Sl a1 l_ c1), (4, V (.map (some r101))), (5, V (.map (some r105))), (6, I x_116), (7, Pt 8 0), (16, Sl a1 l_ c1), (17, I ((l_.length : Nat) : Int)), (18, I x_116), (32, Pt 8 2), (33, I ((gi l_ x_116).Start)), (34, Sl a1 l_ c1), (35, I x_116), (36, I (IntKind.i64.wrap (x_116 - 1))), (37, V (.pointer (some A158))), (38, V (.pointer (some A160))), (39, I ((gi l_ (IntKind.i64.wrap (x_116 - 1))).Start)), (40, B (decide (((gi l_ x_116).Start) ≤ ((gi l_ (IntKind.i64.wrap (x_116 - 1))).Start)))), (43, V undef), (44, V undef), (45, V undef), (46, V undef), (47, V undef), (50, V undef), (51, V undef), (52, V undef), (53, V undef), (54, V undef), (55, V undef), (56, V undef), (57, V undef), (58, V undef), (59, V undef), (60, B true)], [(8, (45, [I ((gi l_ x_116).Prc), I ((gi l_ x_116).Kind), I ((gi l_ x_116).Start), I ((gi l_ x_116).End), I ((gi l_ x_116).Result)]))]⟩) (by as_aux_lemma => kernel_rfl) (by rfl) ?_
          intro a hS
          refine drawnDone kr ?_
          clear hD hH
          replace hS := hS.sl ⟨[(0, Sl a1 l_ c1), (4, V (.map (some r101))), (5, V (.map (some r105))), (6, I x_116), (7, Pt 8 0), (16, Sl a1 l_ c1), (17, I ((l_.length : Nat) : Int)), (18, I x_116), (32, Pt 8 2), (33, I ((gi l_ x_116).Start)), (34, Sl a1 l_ c1), (35, I x_116), (36, I (IntKind.i64.wrap (x_116 - 1))), (37, V (.pointer (some A158))), (38, V (.pointer (some A160))), (39, I ((gi l_ (IntKind.i64.wrap (x_116 - 1))).Start)), (40, B (decide (((gi l_ x_116).Start) ≤ ((gi l_ (IntKind.i64.wrap (x_116 - 1))).Start)))), (60, B true)], [(8, (45, [I ((gi l_ x_116).Prc), I ((gi l_ x_116).Kind), I ((gi l_ x_116).Start), I ((gi l_ x_116).End), I ((gi l_ x_116).Result)]))]⟩
          exact ⟨ρ, _, true, hm, hS.sl _, hO, h110, h112, h114, h115⟩
         ·replace hS := hS.lit (t := 42) kr hb
          replace hm := hm.2 hb
          refine take T [14, 15, 16] [8] [0, 4, 5, 6, 7, 16, 17, 18, 32, 33, 34, 35, 36, 37, 38, 39, 40, 42, 43, 44, 45] hS kr kr kr hH (listed' := #[true, true, true, true, true, true, true, true, true, true, true, true, true, true, true, true, true, false, false, false, false, false, false, false, false, false, false, false, false, false, false, false]) (fuel := 15) (sy' := ⟨[(0, Sl a1 l_ c1), (4, V (.map (some r101))), (5, V (.map (some r105))), (6, I x_116), (7, Pt 8 0), (16, Sl a1 l_ c1), (17, I ((l_.length : Nat) : Int)), (18, I x_116), (32, Pt 8 2), (33, I ((gi l_ x_116).Start)), (34, Sl a1 l_ c1), (35, I x_116), (36, I (IntKind.i64.wrap (x_116 - 1))), (37, V (.pointer (some A158))), (38, V (.pointer (some A160))), (39, I ((gi l_ (IntKind.i64.wrap (x_116 - 1))).Start)), (40, B (decide (((gi l_ x_116).Start) ≤ ((gi l_ (IntKind.i64.wrap (x_116 - 1))).Start)))), (42, B false), (43, V (.map (some r101))), (44, Pt 8 2), (45, I ((gi l_ x_116).Start))], [(8, (45, [I ((gi l_ x_116).Prc), I ((gi l_ x_116).Kind), I ((gi l_ x_116).Start), I ((gi l_ x_116).End), I ((gi l_ x_116).Result)]))]⟩) (by as_aux_lemma => kernel_rfl) (by rfl) ?_
          intro a hS
          refine only 17 kr (by rfl) (mlook kI tI false (zv := .int .i64 0) (z := 0) ((gi l_ x_116).Start) hS kr kr kr kr Try.underlying96 Try.underlying3 kr rfl h112 ?_)
          intro v163 a hv hS
          replace hv : tI.R _ _ [v163] _ := hv
          cases hv
          refine andH (Hold.of hS (bks := [8]) kr hD) ?_
          intro hH
          refine take T [18, 19, 20] [8] [0, 4, 5, 6, 7, 16, 17, 18, 32, 33, 34, 35, 36, 37, 38, 39, 40, 43, 44, 45, 46, 47, 49] hS kr kr kr hH (listed' := #[true, true, true, true, true, true, true, true, true, true, true, true, true, true, true, true, true, true, true, true, true, false, false, false, false, false, false, false, false, false, false, false]) (fuel := 11) (sy' := ⟨[(0, Sl a1 l_ c1), (4, V (.map (some r101))), (5, V (.map (some r105))), (6, I x_116), (7, Pt 8 0), (16, Sl a1 l_ c1), (17, I ((l_.length : Nat) : Int)), (18, I x_116), (32, Pt 8 2), (33, I ((gi l_ x_116).Start)), (34, Sl a1 l_ c1), (35, I x_116), (36, I (IntKind.i64.wrap (x_116 - 1))), (37, V (.pointer (some A158))), (38, V (.pointer (some A160))), (39, I ((gi l_ (IntKind.i64.wrap (x_116 - 1))).Start)), (40, B (decide (((gi l_ x_116).Start) ≤ ((gi l_ (IntKind.i64.wrap (x_116 - 1))).Start)))), (43, V (.map (some r101))), (44, Pt 8 2), (45, I ((gi l_ x_116).Start)), (46, I ((mget used_111 ((gi l_ x_116).Start)).getD 0)), (47, B (decide (((mget used_111 ((gi l_ x_116).Start)).getD 0) > 0))), (49, B (decide (((mget used_111 ((gi l_ x_116).Start)).getD 0) > 0)))], [(8, (45, [I ((gi l_ x_116).Prc), I ((gi l_ x_116).Kind), I ((gi l_ x_116).Start), I ((gi l_ x_116).End), I ((gi l_ x_116).Result)]))]⟩) (by as_aux_lemma => kernel_rfl) (by rfl) ?_
          intro a hS
          rcases Bool.eq_false_or_eq_true (decide (((mget used_111 ((gi l_ x_116).Start)).getD 0) > 0)) with hb | hb
          ·replace hS := hS.lit (t := 49) kr hb
           replace hm := hm.1 hb
           refine take T [21, 22, 23, 24, 25, 26, 27, 28, 29, 30, 31] [8] [0, 4, 5, 6, 7, 16, 17, 18, 32, 33, 34, 35, 36, 37, 38, 39, 40, 43, 44, 45, 46, 47, 50, 51, 52, 53, 54, 55, 56, 57, 58, 59, 60] hS kr kr kr hH (listed' := #[true, true, true, true, true, true, true, true, true, true, true, true, true, true, true, true, true, true, true, true, true, true, true, true, true, true, true, true, true, true, true, true]) (fuel := 0) (sy' := ⟨[(0, Sl a1 l_ c1), (4, V (.map (some r101))), (5, V (.map (some r105))), (6, I x_116), (7, Pt 8 0), (16, Sl a1 l_ c1), (17, I ((l_.length : Nat) : Int)), (18, I x_116), (32, Pt 8 2), (33, I ((gi l_ x_116).Start)), (34, Sl a1 l_ c1), (35, I x_116), (36, I (IntKind.i64.wrap (x_116 - 1))), (37, V (.pointer (some A158))), (38, V (.pointer (some A160))), (39, I ((gi l_ (IntKind.i64.wrap (x_116 - 1))).Start)), (40, B (decide (((gi l_ x_116).Start) ≤ ((gi l_ (IntKind.i64.wrap (x_116 - 1))).Start)))), (43, V (.map (some r101))), (44, Pt 8 2), (45, I ((gi l_ x_116).Start)), (46, I ((mget used_111 ((gi l_ x_116).Start)).getD 0)), (47, B (decide (((mget used_111 ((gi l_ x_116).Start)).getD 0) > 0))), (50, V undef), (51, V undef), (52, V undef), (53, V undef), (54, V undef), (55, V undef), (56, V undef), (57, V undef), (58, V undef), (59, V undef), (60, B true)], [(8, (45, [I ((gi l_ x_116).Prc), I ((gi l_ x_116).Kind), I ((gi l_ x_116).Start), I ((gi l_ x_116).End), I ((gi l_ x_116).Result)]))]⟩) (by as_aux_lemma => kernel_rfl) (by rfl) ?_
           intro a hS
           refine drawnDone kr ?_
           clear hD hH
           replace hS := hS.sl ⟨[(0, Sl a1 l_ c1), (4, V (.map (some r101))), (5, V (.map (some r105))), (6, I x_116), (7, Pt 8 0), (16, Sl a1 l_ c1), (17, I ((l_.length : Nat) : Int)), (18, I x_116), (32, Pt 8 2), (33, I ((gi l_ x_116).Start)), (34, Sl a1 l_ c1), (35, I x_116), (36, I (IntKind.i64.wrap (x_116 - 1))), (37, V (.pointer (some A158))), (38, V (.pointer (some A160))), (39, I ((gi l_ (IntKind.i64.wrap (x_116 - 1))).Start)), (40, B (decide (((gi l_ x_116).Start) ≤ ((gi l_ (IntKind.i64.wrap (x_116 - 1))).Start)))), (43, V (.map (some r101))), (44, Pt 8 2), (45, I ((gi l_ x_116).Start)), (46, I ((mget used_111 ((gi l_ x_116).Start)).getD 0)), (47, B (decide (((mget used_111 ((gi l_ x_116).Start)).getD 0) > 0))), (60, B true)], [(8, (45, [I ((gi l_ x_116).Prc), I ((gi l_ x_116).Kind), I ((gi l_ x_116).Start), I ((gi l_ x_116).End), I ((gi l_ x_116).Result)]))]⟩
           exact ⟨ρ, _, true, hm, hS.sl _, hO, h110, h112, h114, h115⟩
          ·replace hS := hS.lit (t := 49) kr hb
           replace hm := hm.2 hb
           refine take T [21, 22, 23, 24] [8] [0, 4, 5, 6, 7, 16, 17, 18, 32, 33, 34, 35, 36, 37, 38, 39, 40, 43, 44, 45, 46, 47, 49, 50, 51, 52, 53] hS kr kr kr hH (listed' := #[true, true, true, true, true, true, true, true, true, true, true, true, true, true, true, true, true, true, true, true, true, true, true, true, true, false, false, false, false, false, false, false]) (fuel := 7) (sy' := ⟨[(0, Sl a1 l_ c1), (4, V (.map (some r101))), (5, V (.map (some r105))), (6, I x_116), (7, Pt 8 0), (16, Sl a1 l_ c1), (17, I ((l_.length : Nat) : Int)), (18, I x_116), (32, Pt 8 2), (33, I ((gi l_ x_116).Start)), (34, Sl a1 l_ c1), (35, I x_116), (36, I (IntKind.i64.wrap (x_116 - 1))), (37, V (.pointer (some A158))), (38, V (.pointer (some A160))), (39, I ((gi l_ (IntKind.i64.wrap (x_116 - 1))).Start)), (40, B (decide (((gi l_ x_116).Start) ≤ ((gi l_ (IntKind.i64.wrap (x_116 - 1))).Start)))), (43, V (.map (some r101))), (44, Pt 8 2), (45, I ((gi l_ x_116).Start)), (46, I ((mget used_111 ((gi l_ x_116).Start)).getD 0)), (47, B (decide (((mget used_111 ((gi l_ x_116).Start)).getD 0) > 0))), (49, B false), (50, Pt 8 3), (51, I ((gi l_ x_116).End)), (52, B (decide (((gi l_ x_116).End) ≥ 0))), (53, B (decide (((gi l_ x_116).End) ≥ 0)))], [(8, (45, [I ((gi l_ x_116).Prc), I ((gi l_ x_116).Kind), I ((gi l_ x_116).Start), I ((gi l_ x_116).End), I ((gi l_ x_116).Result)]))]⟩) (by as_aux_lemma => kernel_rfl) (by rfl) ?_
           intro a hS
           rcases Bool.eq_false_or_eq_true (decide (((gi l_ x_116).End) ≥ 0)) with hb | hb
           ·replace hS := hS.lit (t := 53) kr hb
            replace hm := hm.1 hb
            refine take T [25, 26, 27] [8] [0, 4, 5, 6, 7, 16, 17, 18, 32, 33, 34, 35, 36, 37, 38, 39, 40, 43, 44, 45, 46, 47, 49, 50, 51, 52, 53, 54, 55, 56] hS kr kr kr hH (listed' := #[true, true, true, true, true, true, true, true, true, true, true, true, true, true, true, true, true, true, true, true, true, true, true, true, true, true, true, true, false, false, false, false]) (fuel := 4) (sy' := ⟨[(0, Sl a1 l_ c1), (4, V (.map (some r101))), (5, V (.map (some r105))), (6, I x_116), (7, Pt 8 0), (16, Sl a1 l_ c1), (17, I ((l_.length : Nat) : Int)), (18, I x_116), (32, Pt 8 2), (33, I ((gi l_ x_116).Start)), (34, Sl a1 l_ c1), (35, I x_116), (36, I (IntKind.i64.wrap (x_116 - 1))), (37, V (.pointer (some A158))), (38, V (.pointer (some A160))), (39, I ((gi l_ (IntKind.i64.wrap (x_116 - 1))).Start)), (40, B (decide (((gi l_ x_116).Start) ≤ ((gi l_ (IntKind.i64.wrap (x_116 - 1))).Start)))), (43, V (.map (some r101))), (44, Pt 8 2), (45, I ((gi l_ x_116).Start)), (46, I ((mget used_111 ((gi l_ x_116).Start)).getD 0)), (47, B (decide (((mget used_111 ((gi l_ x_116).Start)).getD 0) > 0))), (49, B false), (50, Pt 8 3), (51, I ((gi l_ x_116).End)), (52, B (decide (((gi l_ x_116).End) ≥ 0))), (53, B true), (54, V (.map (some r101))), (55, Pt 8 3), (56, I ((gi l_ x_116).End))], [(8, (45, [I ((gi l_ x_116).Prc), I ((gi l_ x_116).Kind), I ((gi l_ x_116).Start), I ((gi l_ x_116).End), I ((gi l_ x_116).Result)]))]⟩) (by as_aux_lemma => kernel_rfl) (by rfl) ?_
            intro a hS
            refine only 28 kr (by rfl) (mlook kI tI false (zv := .int .i64 0) (z := 0) ((gi l_ x_116).End) hS kr kr kr kr Try.underlying96 Try.underlying3 kr rfl h112 ?_)
            intro v164 a hv hS
            replace hv : tI.R _ _ [v164] _ := hv
            cases hv
            refine andH (Hold.of hS (bks := [8]) kr hD) ?_
            intro hH
            refine take T [29, 30, 31] [8] [0, 4, 5, 6, 7, 16, 17, 18, 32, 33, 34, 35, 36, 37, 38, 39, 40, 43, 44, 45, 46, 47, 50, 51, 52, 53, 54, 55, 56, 57, 58, 59, 60] hS kr kr kr hH (listed' := #[true, true, true, true, true, true, true, true, true, true, true, true, true, true, true, true, true, true, true, true, true, true, true, true, true, true, true, true, true, true, true, true]) (fuel := 0) (sy' := ⟨[(0, Sl a1 l_ c1), (4, V (.map (some r101))), (5, V (.map (some r105))), (6, I x_116), (7, Pt 8 0), (16, Sl a1 l_ c1), (17, I ((l_.length : Nat) : Int)), (18, I x_116), (32, Pt 8 2), (33, I ((gi l_ x_116).Start)), (34, Sl a1 l_ c1), (35, I x_116), (36, I (IntKind.i64.wrap (x_116 - 1))), (37, V (.pointer (some A158))), (38, V (.pointer (some A160))), (39, I ((gi l_ (IntKind.i64.wrap (x_116 - 1))).Start)), (40, B (decide (((gi l_ x_116).Start) ≤ ((gi l_ (IntKind.i64.wrap (x_116 - 1))).Start)))), (43, V (.map (some r101))), (44, Pt 8 2), (45, I ((gi l_ x_116).Start)), (46, I ((mget used_111 ((gi l_ x_116).Start)).getD 0)), (47, B (decide (((mget used_111 ((gi l_ x_116).Start)).getD 0) > 0))), (50, Pt 8 3), (51, I ((gi l_ x_116).End)), (52, B (decide (((gi l_ x_116).End) ≥ 0))), (53, B true), (54, V (.map (some r101))), (55, Pt 8 3), (56, I ((gi l_ x_116).End)), (57, I ((mget used_111 ((gi l_ x_116).End)).getD 0)), (58, B (decide (((mget used_111 ((gi l_ x_116).End)).getD 0) > 0))), (59, B (decide (((mget used_111 ((gi l_ x_116).End)).getD 0) > 0))), (60, B (decide (((mget used_111 ((gi l_ x_116).End)).getD 0) > 0)))], [(8, (45, [I ((gi l_ x_116).Prc), I ((gi l_ x_116).Kind), I ((gi l_ x_116).Start), I ((gi l_ x_116).End), I ((gi l_ x_116).Result)]))]⟩) (by as_aux_lemma => kernel_rfl) (by rfl) ?_
            intro a hS
            refine drawnDone kr ?_
            clear hD hH
            replace hS := hS.sl ⟨[(0, Sl a1 l_ c1), (4, V (.map (some r101))), (5, V (.map (some r105))), (6, I x_116), (7, Pt 8 0), (16, Sl a1 l_ c1), (17, I ((l_.length : Nat) : Int)), (18, I x_116), (32, Pt 8 2), (33, I ((gi l_ x_116).Start)), (34, Sl a1 l_ c1), (35, I x_116), (36, I (IntKind.i64.wrap (x_116 - 1))), (37, V (.pointer (some A158))), (38, V (.pointer (some A160))), (39, I ((gi l_ (IntKind.i64.wrap (x_116 - 1))).Start)), (40, B (decide (((gi l_ x_116).Start) ≤ ((gi l_ (IntKind.i64.wrap (x_116 - 1))).Start)))), (43, V (.map (some r101))), (44, Pt 8 2), (45, I ((gi l_ x_116).Start)), (46, I ((mget used_111 ((gi l_ x_116).Start)).getD 0)), (47, B (decide (((mget used_111 ((gi l_ x_116).Start)).getD 0) > 0))), (50, Pt 8 3), (51, I ((gi l_ x_116).End)), (52, B (decide (((gi l_ x_116).End) ≥ 0))), (53, B true), (54, V (.map (some r101))), (55, Pt 8 3), (56, I ((gi l_ x_116).End)), (57, I ((mget used_111 ((gi l_ x_116).End)).getD 0)), (58, B (decide (((mget used_111 ((gi l_ x_116).End)).getD 0) > 0))), (59, B (decide (((mget used_111 ((gi l_ x_116).End)).getD 0) > 0))), (60, B (decide (((mget used_111 ((gi l_ x_116).End)).getD 0) > 0)))], [(8, (45, [I ((gi l_ x_116).Prc), I ((gi l_ x_116).Kind), I ((gi l_ x_116).Start), I ((gi l_ x_116).End), I ((gi l_ x_116).Result)]))]⟩
            exact ⟨ρ, _, decide (((mget used_111 ((gi l_ x_116).End)).getD 0) > 0), hm, hS.sl _, hO, h110, h112, h114, h115⟩
           ·replace hS := hS.lit (t := 53) kr hb
            replace hm := hm.2 hb
            refine take T [25, 26, 27, 28, 29, 30, 31] [8] [0, 4, 5, 6, 7, 16, 17, 18, 32, 33, 34, 35, 36, 37, 38, 39, 40, 43, 44, 45, 46, 47, 50, 51, 52, 53, 54, 55, 56, 57, 58, 59, 60] hS kr kr kr hH (listed' := #[true, true, true, true, true, true, true, true, true, true, true, true, true, true, true, true, true, true, true, true, true, true, true, true, true, true, true, true, true, true, true, true]) (fuel := 0) (sy' := ⟨[(0, Sl a1 l_ c1), (4, V (.map (some r101))), (5, V (.map (some r105))), (6, I x_116), (7, Pt 8 0), (16, Sl a1 l_ c1), (17, I ((l_.length : Nat) : Int)), (18, I x_116), (32, Pt 8 2), (33, I ((gi l_ x_116).Start)), (34, Sl a1 l_ c1), (35, I x_116), (36, I (IntKind.i64.wrap (x_116 - 1))), (37, V (.pointer (some A158))), (38, V (.pointer (some A160))), (39, I ((gi l_ (IntKind.i64.wrap (x_116 - 1))).Start)), (40, B (decide (((gi l_ x_116).Start) ≤ ((gi l_ (IntKind.i64.wrap (x_116 - 1))).Start)))), (43, V (.map (some r101))), (44, Pt 8 2), (45, I ((gi l_ x_116).Start)), (46, I ((mget used_111 ((gi l_ x_116).Start)).getD 0)), (47, B (decide (((mget used_111 ((gi l_ x_116).Start)).getD 0) > 0))), (50, Pt 8 3), (51, I ((gi l_ x_116).End)), (52, B (decide (((gi l_ x_116).End) ≥ 0))), (53, B false), (54, V undef), (55, V undef), (56, V undef), (57, V undef), (58, V undef), (59, B false), (60, B false)], [(8, (45, [I ((gi l_ x_116).Prc), I ((gi l_ x_116).Kind), I ((gi l_ x_116).Start), I ((gi l_ x_116).End), I ((gi l_ x_116).Result)]))]⟩) (by as_aux_lemma => kernel_rfl) (by rfl) ?_
            intro a hS
            refine drawnDone kr ?_
            clear hD hH
            replace hS := hS.sl ⟨[(0, Sl a1 l_ c1), (4, V (.map (some r101))), (5, V (.map (some r105))), (6, I x_116), (7, Pt 8 0), (16, Sl a1 l_ c1), (17, I ((l_.length : Nat) : Int)), (18, I x_116), (32, Pt 8 2), (33, I ((gi l_ x_116).Start)), (34, Sl a1 l_ c1), (35, I x_116), (36, I (IntKind.i64.wrap (x_116 - 1))), (37, V (.pointer (some A158))), (38, V (.pointer (some A160))), (39, I ((gi l_ (IntKind.i64.wrap (x_116 - 1))).Start)), (40, B (decide (((gi l_ x_116).Start) ≤ ((gi l_ (IntKind.i64.wrap (x_116 - 1))).Start)))), (43, V (.map (some r101))), (44, Pt 8 2), (45, I ((gi l_ x_116).Start)), (46, I ((mget used_111 ((gi l_ x_116).Start)).getD 0)), (47, B (decide (((mget used_111 ((gi l_ x_116).Start)).getD 0) > 0))), (50, Pt 8 3), (51, I ((gi l_ x_116).End)), (52, B (decide (((gi l_ x_116).End) ≥ 0))), (53, B false), (59, B false), (60, B false)], [(8, (45, [I ((gi l_ x_116).Prc), I ((gi l_ x_116).Kind), I ((gi l_ x_116).Start), I ((gi l_ x_116).End), I ((gi l_ x_116).Result)]))]⟩
            exact ⟨ρ, _, false, hm, hS.sl _, hO, h110, h112, h114, h115⟩
        ·replace hS := hS.lit (t := 31) kr hb
         replace hm := hm.2 hb
         refine take T [3, 5, 6, 4, 7, 8, 9, 10, 11, 12, 13, 14, 15, 16] [8] [0, 4, 5, 6, 7, 16, 17, 18, 32, 33, 34, 35, 36, 37, 38, 39, 40, 42, 43, 44, 45] hS kr kr kr hH (listed' := #[true, true, true, true, true, true, true, true, true, true, true, true, true, true, true, true, true, false, false, false, false, false, false, false, false, false, false, false, false, false, false, false]) (fuel := 15) (sy' := ⟨[(0, Sl a1 l_ c1), (4, V (.map (some r101))), (5, V (.map (some r105))), (6, I x_116), (7, Pt 8 0), (16, Sl a1 l_ c1), (17, I ((l_.length : Nat) : Int)), (18, I x_116), (32, V undef), (33, V undef), (34, V undef), (35, V undef), (36, V undef), (37, V undef), (38, V undef), (39, V undef), (40, V undef), (42, B false), (43, V (.map (some r101))), (44, Pt 8 2), (45, I ((gi l_ x_116).Start))], [(8, (45, [I ((gi l_ x_116).Prc), I ((gi l_ x_116).Kind), I ((gi l_ x_116).Start), I ((gi l_ x_116).End), I ((gi l_ x_116).Result)]))]⟩) (by as_aux_lemma => kernel_rfl) (by rfl) ?_
         intro a hS
         refine only 17 kr (by rfl) (mlook kI tI false (zv := .int .i64 0) (z := 0) ((gi l_ x_116).Start) hS kr kr kr kr Try.underlying96 Try.underlying3 kr rfl h112 ?_)
         intro v165 a hv hS
         replace hv : tI.R _ _ [v165] _ := hv
         cases hv
         refine andH (Hold.of hS (bks := [8]) kr hD) ?_
         intro hH
         refine take T [18, 19, 20] [8] [0, 4, 5, 6, 7, 16, 17, 18, 32, 33, 34, 35, 36, 37, 38, 39, 40, 43, 44, 45, 46, 47, 49] hS kr kr kr hH (listed' := #[true, true, true, true, true, true, true, true, true, true, true, true, true, true, true, true, true, true, true, true, true, false, false, false, false, false, false, false, false, false, false, false]) (fuel := 11) (sy' := ⟨[(0, Sl a1 l_ c1), (4, V (.map (some r101))), (5, V (.map (some r105))), (6, I x_116), (7, Pt 8 0), (16, Sl a1 l_ c1), (17, I ((l_.length : Nat) : Int)), (18, I x_116), (32, V undef), (33, V undef), (34, V undef), (35, V undef), (36, V undef), (37, V undef), (38, V undef), (39, V undef), (40, V undef), (43, V (.map (some r101))), (44, Pt 8 2), (45, I ((gi l_ x_116).Start)), (46, I ((mget used_111 ((gi l_ x_116).Start)).getD 0)), (47, B (decide (((mget used_111 ((gi l_ x_116).Start)).getD 0) > 0))), (49, B (decide (((mget used_111 ((gi l_ x_116).Start)).getD 0) > 0)))], [(8, (45, [I ((gi l_ x_116).Prc), I ((gi l_ x_116).Kind), I ((gi l_ x_116).Start), I ((gi l_ x_116).End), I ((gi l_ x_116).Result)]))]⟩) (by as_aux_lemma => kernel_rfl) (by rfl) ?_
         intro a hS
         rcases Bool.eq_false_or_eq_true (decide (((mget used_111 ((gi l_ x_116).Start)).getD 0) > 0)) with hb | hb
         ·replace hS := hS.lit (t := 49) kr hb
          replace hm := hm.1 hb
          refine take T [21, 22, 23, 24, 25, 26, 27, 28, 29, 30, 31] [8] [0, 4, 5, 6, 7, 16, 17, 18, 32, 33, 34, 35, 36, 37, 38, 39, 40, 43, 44, 45, 46, 47, 50, 51, 52, 53, 54, 55, 56, 57, 58, 59, 60] hS kr kr kr hH (listed' := #[true, true, true, true, true, true, true, true, true, true, true, true, true, true, true, true, true, true, true, true, true, true, true, true, true, true, true, true, true, true, true, true]) (fuel := 0) (sy' := ⟨[(0, Sl a1 l_ c1), (4, V (.map (some r101))), (5, V (.map (some r105))), (6, I x_116), (7, Pt 8 0), (16, Sl a1 l_ c1), (17, I ((l_.length : Nat) : Int)), (18, I x_116), (32, V undef), (33, V undef), (34, V undef), (35, V undef), (36, V undef), (37, V undef), (38, V undef), (39, V undef), (40, V undef), (43, V (.map (some r101))), (44, Pt 8 2), (45, I ((gi l_ x_116).Start)), (46, I ((mget used_111 ((gi l_ x_116).Start)).getD 0)), (47, B (decide (((mget used_111 ((gi l_ x_116).Start)).getD 0) > 0))), (50, V undef), (51, V undef), (52, V undef), (53, V undef), (54, V undef), (55, V undef), (56, V undef), (57, V undef), (58, V undef), (59, V undef), (60, B true)], [(8, (45, [I ((gi l_ x_116).Prc), I ((gi l_ x_116).Kind), I ((gi l_ x_116).Start), I ((gi l_ x_116).End), I ((gi l_ x_116).Result)]))]⟩) (by as_aux_lemma => kernel_rfl) (by rfl) ?_
          intro a hS
          refine drawnDone kr ?_
          clear hD hH
          replace hS := hS.sl ⟨[(0, Sl a1 l_ c1), (4, V (.map (some r101))), (5, V (.map (some r105))), (6, I x_116), (7, Pt 8 0), (16, Sl a1 l_ c1), (17, I ((l_.length : Nat) : Int)), (18, I x_116), (43, V (.map (some r101))), (44, Pt 8 2), (45, I ((gi l_ x_116).Start)), (46, I ((mget used_111 ((gi l_ x_116).Start)).getD 0)), (47, B (decide (((mget used_111 ((gi l_ x_116).Start)).getD 0) > 0))), (60, B true)], [(8, (45, [I ((gi l_ x_116).Prc), I ((gi l_ x_116).Kind), I ((gi l_ x_116).Start), I ((gi l_ x_116).End), I ((gi l_ x_116).Result)]))]⟩
          exact ⟨ρ, _, true, hm, hS.sl _, hO, h110, h112, h114, h115⟩
         ·replace hS := hS.lit (t := 49) kr hb
          replace hm := hm.2 hb
          refine take T [21, 22, 23, 24] [8] [0, 4, 5, 6, 7, 16, 17, 18, 32, 33, 34, 35, 36, 37, 38, 39, 40, 43, 44, 45, 46, 47, 49, 50, 51, 52, 53] hS kr kr kr hH (listed' := #[true, true, true, true, true, true, true, true, true, true, true, true, true, true, true, true, true, true, true, true, true, true, true, true, true, false, false, false, false, false, false, false]) (fuel := 7) (sy' := ⟨[(0, Sl a1 l_ c1), (4, V (.map (some r101))), (5, V (.map (some r105))), (6, I x_116), (7, Pt 8 0), (16, Sl a1 l_ c1), (17, I ((l_.length : Nat) : Int)), (18, I x_116), (32, V undef), (33, V undef), (34, V undef), (35, V undef), (36, V undef), (37, V undef), (38, V undef), (39, V undef), (40, V undef), (43, V (.map (some r101))), (44, Pt 8 2), (45, I ((gi l_ x_116).Start)), (46, I ((mget used_111 ((gi l_ x_116).Start)).getD 0)), (47, B (decide (((mget used_111 ((gi l_ x_116).Start)).getD 0) > 0))), (49, B false), (50, Pt 8 3), (51, I ((gi l_ x_116).End)), (52, B (decide (((gi l_ x_116).End) ≥ 0))), (53, B (decide (((gi l_ x_116).End) ≥ 0)))], [(8, (45, [I ((gi l_ x_116).Prc), I ((gi l_ x_116).Kind), I ((gi l_ x_116).Start), I ((gi l_ x_116).End), I ((gi l_ x_116).Result)]))]⟩) (by as_aux_lemma => kernel_rfl) (by rfl) ?_
          intro a hS
          rcases Bool.eq_false_or_eq_true (decide (((gi l_ x_116).End) ≥ 0)) with hb | hb
          ·replace hS := hS.lit (t := 53) kr hb
           replace hm := hm.1 hb
           refine take T [25, 26, 27] [8] [0, 4, 5, 6, 7, 16, 17, 18, 32, 33, 34, 35, 36, 37, 38, 39, 40, 43, 44, 45, 46, 47, 49, 50, 51, 52, 53, 54, 55, 56] hS kr kr kr hH (listed' := #[true, true, true, true, true, true, true, true, true, true, true, true, true, true, true, true, true, true, true, true, true, true, true, true, true, true, true, true, false, false, false, false]) (fuel := 4) (sy' := ⟨[(0, Sl a1 l_ c1), (4, V (.map (some r101))), (5, V (.map (some r105))), (6, I x_116), (7, Pt 8 0), (16, Sl a1 l_ c1), (17, I ((l_.length : Nat) : Int)), (18, I x_116), (32, V undef), (33, V undef), (34, V undef), (35, V undef), (36, V undef), (37, V undef), (38, V undef), (39, V undef), (40, V undef), (43, V (.map (some r101))), (44, Pt 8 2), (45, I ((gi l_ x_116).Start)), (46, I ((mget used_111 ((gi l_ x_116).Start)).getD 0)), (47, B (decide (((mget used_111 ((gi l_ x_116).Start)).getD 0) > 0))), (49, B false), (50, Pt 8 3), (51, I ((gi l_ x_116).End)), (52, B (decide (((gi l_ x_116).End) ≥ 0))), (53, B true), (54, V (.map (some r101))), (55, Pt 8 3), (56, I ((gi l_ x_116).End))], [(8, (45, [I ((gi l_ x_116).Prc), I ((gi l_ x_116).Kind), I ((gi l_ x_116).Start), I ((gi l_ x_116).End), I ((gi l_ x_116).Result)]))]⟩) (by as_aux_lemma => kernel_rfl) (by rfl) ?_
           intro a hS
           refine only 28 kr (by rfl) (mlook kI tI false (zv := .int .i64 0) (z := 0) ((gi l_ x_116).End) hS kr kr kr kr Try.underlying96 Try.underlying3 kr rfl h112 ?_)
           intro v166 a hv hS
           replace hv : tI.R _ _ [v166] _ := hv
           cases hv
           refine andH (Hold.of hS (bks := [8]) kr hD) ?_
           intro hH
           refine take T [29, 30, 31] [8] [0, 4, 5, 6, 7, 16, 17, 18, 32, 33, 34, 35, 36, 37, 38, 39, 40, 43, 44, 45, 46, 47, 50, 51, 52, 53, 54, 55, 56, 57, 58, 59, 60] hS kr kr kr hH (listed' := #[true, true, true, true, true, true, true, true, true, true, true, true, true, true, true, true, true, true, true, true, true, true, true, true, true, true, true, true, true, true, true, true]) (fuel := 0) (sy' := ⟨[(0, Sl a1 l_ c1), (4, V (.map (some r101))), (5, V (.map (some r105))), (6, I x_116), (7, Pt 8 0), (16, Sl a1 l_ c1), (17, I ((l_.length : Nat) : Int)), (18, I x_116), (32, V undef), (33, V undef), (34, V undef), (35, V undef), (36, V undef), (37, V undef), (38, V undef), (39, V undef), (40, V undef), (43, V (.map (some r101))), (44, Pt 8 2), (45, I ((gi l_ x_116).Start)), (46, I ((mget used_111 ((gi l_ x_116).Start)).getD 0)), (47, B (decide (((mget used_111 ((gi l_ x_116).Start)).getD 0) > 0))), (50, Pt 8 3), (51, I ((gi l_ x_116).End)), (52, B (decide (((gi l_ x_116).End) ≥ 0))), (53, B true), (54, V (.map (some r101))), (55, Pt 8 3), (56, I ((gi l_ x_116).End)), (57, I ((mget used_111 ((gi l_ x_116).End)).getD 0)), (58, B (decide (((mget used_111 ((gi l_ x_116).End)).getD 0) > 0))), (59, B (decide (((mget used_111 ((gi l_ x_116).End)).getD 0) > 0))), (60, B (decide (((mget used_111 ((gi l_ x_116).End)).getD 0) > 0)))], [(8, (45, [I ((gi l_ x_116).Prc), I ((gi l_ x_116).Kind), I ((gi l_ x_116).Start), I ((gi l_ x_116).End), I ((gi l_ x_116).Result)]))]⟩) (by as_aux_lemma => kernel_rfl) (by rfl) ?_
           intro a hS
           refine drawnDone kr ?_
           clear hD hH
           replace hS := hS.sl ⟨[(0, Sl a1 l_ c1), (4, V (.map (some r101))), (5, V (.map (some r105))), (6, I x_116), (7, Pt 8 0), (16, Sl a1 l_ c1), (17, I ((l_.length : Nat) : Int)), (18, I x_116), (43, V (.map (some r101))), (44, Pt 8 2), (45, I ((gi l_ x_116).Start)), (46, I ((mget used_111 ((gi l_ x_116).Start)).getD 0)), (47, B (decide (((mget used_111 ((gi l_ x_116).Start)).getD 0) > 0))), (50, Pt 8 3), (51, I ((gi l_ x_116).End)), (52, B (decide (((gi l_ x_116).End) ≥ 0))), (53, B true), (54, V (.map (some r101))), (55, Pt 8 3), (56, I ((gi l_ x_116).End)), (57, I ((mget used_111 ((gi l_ x_116).End)).getD 0)), (58, B (decide (((mget used_111 ((gi l_ x_116).End)).getD 0) > 0))), (59, B (decide (((mget used_111 ((gi l_ x_116).End)).getD 0) > 0))), (60, B (decide (((mget used_111 ((gi l_ x_116).End)).getD 0) > 0)))], [(8, (45, [I ((gi l_ x_116).Prc), I ((gi l_ x_116).Kind), I ((gi l_ x_116).Start), I ((gi l_ x_116).End), I ((gi l_ x_116).Result)]))]⟩
           exact ⟨ρ, _, decide (((mget used_111 ((gi l_ x_116).End)).getD 0) > 0), hm, hS.sl _, hO, h110, h112, h114, h115⟩
          ·replace hS := hS.lit (t := 53) kr hb
           replace hm := hm.2 hb
           refine take T [25, 26, 27, 28, 29, 30, 31] [8] [0, 4, 5, 6, 7, 16, 17, 18, 32, 33, 34, 35, 36, 37, 38, 39, 40, 43, 44, 45, 46, 47, 50, 51, 52, 53, 54, 55, 56, 57, 58, 59, 60] hS kr kr kr hH (listed' := #[true, true, true, true, true, true, true, true, true, true, true, true, true, true, true, true, true, true, true, true, true, true, true, true, true, true, true, true, true, true, true, true]) (fuel := 0) (sy' := ⟨[(0, Sl a1 l_ c1), (4, V (.map (some r101))), (5, V (.map (some r105))), (6, I x_116), (7, Pt 8 0), (16, Sl a1 l_ c1), (17, I ((l_.length : Nat) : Int)), (18, I x_116), (32, V undef), (33, V undef), (34, V undef), (35, V undef), (36, V undef), (37, V undef), (38, V undef), (39, V undef), (40, V undef), (43, V (.map (some r101))), (44, Pt 8 2), (45, I ((gi l_ x_116).Start)), (46, I ((mget used_111 ((gi l_ x_116).Start)).getD 0)), (47, B (decide (((mget used_111 ((gi l_ x_116).Start)).getD 0) > 0))), (50, Pt 8 3), (51, I ((gi l_ x_116).End)), (52, B (decide (((gi l_ x_116).End) ≥ 0))), (53, B false), (54, V undef), (55, V undef), (56, V undef), (57, V undef), (58, V undef), (59, B false), (60, B false)], [(8, (45, [I ((gi l_ x_116).Prc), I ((gi l_ x_116).Kind), I ((gi l_ x_116).Start), I ((gi l_ x_116).End), I ((gi l_ x_116).Result)]))]⟩) (by as_aux_lemma => kernel_rfl) (by rfl) ?_
           intro a hS
           refine drawnDone kr ?_
           clear hD hH
           replace hS := hS.sl ⟨[(0, Sl a1 l_ c1), (4, V (.map (some r101))), (5, V (.map (some r105))), (6, I x_116), (7, Pt 8 0), (16, Sl a1 l_ c1), (17, I ((l_.length : Nat) : Int)), (18, I x_116), (43, V (.map (some r101))), (44, Pt 8 2), (45, I ((gi l_ x_116).Start)), (46, I ((mget used_111 ((gi l_ x_116).Start)).getD 0)), (47, B (decide (((mget used_111 ((gi l_ x_116).Start)).getD 0) > 0))), (50, Pt 8 3), (51, I ((gi l_ x_116).End)), (52, B (decide (((gi l_ x_116).End) ≥ 0))), (53, B false), (59, B false), (60, B false)], [(8, (45, [I ((gi l_ x_116).Prc), I ((gi l_ x_116).Kind), I ((gi l_ x_116).Start), I ((gi l_ x_116).End), I ((gi l_ x_116).Result)]))]⟩
           exact ⟨ρ, _, false, hm, hS.sl _, hO, h110, h112, h114, h115⟩
       ·rintro a w168 ⟨ρ, χ167, x_133, hm, hS, hO, h129, h130, h131, h132⟩
        unfold VC33_J3 at hm
        refine wcond hS (b := x_133) kr (fun hb => ?_) (fun hb => ?_)
        ·replace hm := hm.1 hb
         refine rP T hS ⟨[(2, I x_116), (3, I 32)], []⟩ fun a hS => ?_
         refine wret ?_
         exact fin T hS hO (fun c => c) rfl (r := [.int .i64 x_116, .int .i64 32]) kr (fun χ' hM hC => ⟨(x_116, 32), hm, rfl⟩)
        ·replace hm := hm.2 hb
         refine wskip ?_
         refine wseq ?_
         refine regO ?_
         refine oP T hS 3 ⟨[(0, Sl a1 l_ c1), (4, V (.map (some r101))), (5, V (.map (some r105))), (6, I x_116), (7, Pt 8 0), (16, Sl a1 l_ c1), (17, I ((l_.length : Nat) : Int)), (18, I x_116), (63, V (.map (some r105))), (65, I ((gi l_ x_116).Prc))], [(8, (45, [I ((gi l_ x_116).Prc), I ((gi l_ x_116).Kind), I ((gi l_ x_116).Start), I ((gi l_ x_116).End), I ((gi l_ x_116).Result)]))]⟩ fun a hS => ?_
         refine op1 (mlook2 kI tApi_Oper true (zv := .agg #[.int .i64 0, .int .i64 0, .int .i64 0, .int .i64 0, .int .i64 0]) (z := (⟨0, 0, 0, 0, 0⟩ : Api_Oper)) ((gi l_ x_116).Prc) hS kr kr kr kr Try.underlying97 Try.underlying3 kr ⟨_, rfl, rfl⟩ h131 ?_)
         intro v134 a hv hS
         obtain ⟨_, rfl, hv⟩ := hv
         cases hv
         refine eM T hS ⟨[(0, Sl a1 l_ c1), (4, V (.map (some r101))), (5, V (.map (some r105))), (6, I x_116), (7, Pt 8 0), (9, Pt 10 0), (10, B ((mget latest_113 ((gi l_ x_116).Prc)).isSome)), (16, Sl a1 l_ c1), (17, I ((l_.length : Nat) : Int)), (18, I x_116)], [(8, (45, [I ((gi l_ x_116).Prc), I ((gi l_ x_116).Kind), I ((gi l_ x_116).Start), I ((gi l_ x_116).End), I ((gi l_ x_116).Result)])), (10, (45, [I (((mget latest_113 ((gi l_ x_116).Prc)).getD (⟨0, 0, 0, 0, 0⟩ : Api_Oper)).Prc), I (((mget latest_113 ((gi l_ x_116).Prc)).getD (⟨0, 0, 0, 0, 0⟩ : Api_Oper)).Kind), I (((mget latest_113 ((gi l_ x_116).Prc)).getD (⟨0, 0, 0, 0, 0⟩ : Api_Oper)).Start), I (((mget latest_113 ((gi l_ x_116).Prc)).getD (⟨0, 0, 0, 0, 0⟩ : Api_Oper)).End), I (((mget latest_113 ((gi l_ x_116).Prc)).getD (⟨0, 0, 0, 0, 0⟩ : Api_Oper)).Result)]))]⟩ fun ρ a w154 χ155 hS hE hr => ?_
         replace hO := hO.mv hE rfl rfl
         replace h129 := h129.mv hE rfl
         replace h130 := h130.mv hE rfl rfl
         replace h131 := h131.mv hE rfl rfl
         replace h132 := h132.mv hE rfl
         clear hE hr
         refine wcut (fun a w => ∃ (ρ : Nat → Nat) (χ : Nat → Nat) (x_139 : Bool), VC33_J4 l_ Q I1 μ1 used_111 latest_113 x_116 x_139 ∧ St Try.f33.ntmps ⟨[(0, Sl a1 l_ c1), (4, V (.map (some r101))), (5, V (.map (some r105))), (6, I x_116), (7, Pt 8 0), (16, Sl a1 l_ c1), (17, I ((l_.length : Nat) : Int)), (18, I x_116), (75, B x_139)], [(8, (45, [I ((gi l_ x_116).Prc), I ((gi l_ x_116).Kind), I ((gi l_ x_116).Start), I ((gi l_ x_116).End), I ((gi l_ x_116).Result)]))]⟩ ρ a w χ ∧ Old w0 χ0 w χ ∧ RS tApi_Oper w χ a1 l_ c1 ∧ OM kI tI false w χ 1015 r101 used_111 ∧ OM kI tApi_Oper true w χ 1016 r105 latest_113 ∧ RS tApi_Oper w χ a1 l_ c1) ?_ ?_
         ·refine region ?_
          refine oP T hS 2 ⟨[(0, Sl a1 l_ c1), (4, V (.map (some r101))), (5, V (.map (some r105))), (6, I x_116), (7, Pt 8 0), (9, Pt 10 0), (16, Sl a1 l_ c1), (17, I ((l_.length : Nat) : Int)), (18, I x_116), (70, B ((mget latest_113 ((gi l_ x_116).Prc)).isSome))], [(8, (45, [I ((gi l_ x_116).Prc), I ((gi l_ x_116).Kind), I ((gi l_ x_116).Start), I ((gi l_ x_116).End), I ((gi l_ x_116).Result)])), (10, (45, [I (((mget latest_113 ((gi l_ x_116).Prc)).getD (⟨0, 0, 0, 0, 0⟩ : Api_Oper)).Prc), I (((mget latest_113 ((gi l_ x_116).Prc)).getD (⟨0, 0, 0, 0, 0⟩ : Api_Oper)).Kind), I (((mget latest_113 ((gi l_ x_116).Prc)).getD (⟨0, 0, 0, 0, 0⟩ : Api_Oper)).Start), I (((mget latest_113 ((gi l_ x_116).Prc)).getD (⟨0, 0, 0, 0, 0⟩ : Api_Oper)).End), I (((mget latest_113 ((gi l_ x_116).Prc)).getD (⟨0, 0, 0, 0, 0⟩ : Api_Oper)).Result)]))]⟩ fun a hS => ?_
          rcases Bool.eq_false_or_eq_true ((mget latest_113 ((gi l_ x_116).Prc)).isSome) with hb | hb
          ·replace hS := hS.lit (t := 70) kr hb
           replace hm := hm.1 hb
           refine oP T hS 2 ⟨[(0, Sl a1 l_ c1), (4, V (.map (some r101))), (5, V (.map (some r105))), (6, I x_116), (7, Pt 8 0), (16, Sl a1 l_ c1), (17, I ((l_.length : Nat) : Int)), (18, I x_116), (70, B true), (71, V (.agg #[.int .i64 (((mget latest_113 ((gi l_ x_116).Prc)).getD (⟨0, 0, 0, 0, 0⟩ : Api_Oper)).Prc), .int .i64 (((mget latest_113 ((gi l_ x_116).Prc)).getD (⟨0, 0, 0, 0, 0⟩ : Api_Oper)).Kind), .int .i64 (((mget latest_113 ((gi l_ x_116).Prc)).getD (⟨0, 0, 0, 0, 0⟩ : Api_Oper)).Start), .int .i64 (((mget latest_113 ((gi l_ x_116).Prc)).getD (⟨0, 0, 0, 0, 0⟩ : Api_Oper)).End), .int .i64 (((mget latest_113 ((gi l_ x_116).Prc)).getD (⟨0, 0, 0, 0, 0⟩ : Api_Oper)).Result)])), (72, V (.agg #[.int .i64 ((gi l_ x_116).Prc), .int .i64 ((gi l_ x_116).Kind), .int .i64 ((gi l_ x_116).Start), .int .i64 ((gi l_ x_116).End), .int .i64 ((gi l_ x_116).Result)]))], [(8, (45, [I ((gi l_ x_116).Prc), I ((gi l_ x_116).Kind), I ((gi l_ x_116).Start), I ((gi l_ x_116).End), I ((gi l_ x_116).Result)]))]⟩ fun a hS => ?_
           refine op1 (call hS kr kr hb49 kr (fun _ _ => rfl) (k49 _ _ ((mget latest_113 ((gi l_ x_116).Prc)).getD (⟨0, 0, 0, 0, 0⟩ : Api_Oper)) (gi l_ x_116)) ?_)
           intro v148 a w149 χ150 hE hp hS
           replace hO := hO.mv hE rfl rfl
           replace h129 := h129.mv hE rfl
           replace h130 := h130.mv hE rfl rfl
           replace h131 := h131.mv hE rfl rfl
           replace h132 := h132.mv hE rfl
           clear hE
           obtain ⟨r151, hr⟩ : ∃ r, oper_Ahead ((mget latest_113 ((gi l_ x_116).Prc)).getD (⟨0, 0, 0, 0, 0⟩ : Api_Oper)) (gi l_ x_116) = r := ⟨_, rfl⟩
           replace hm := hm r151 hr
           rw [hr] at hp
           clear hr
           subst hp
           refine eP T hS ⟨[(0, Sl a1 l_ c1), (4, V (.map (some r101))), (5, V (.map (some r105))), (6, I x_116), (7, Pt 8 0), (16, Sl a1 l_ c1), (17, I ((l_.length : Nat) : Int)), (18, I x_116), (71, V (.agg #[.int .i64 (((mget latest_113 ((gi l_ x_116).Prc)).getD (⟨0, 0, 0, 0, 0⟩ : Api_Oper)).Prc), .int .i64 (((mget latest_113 ((gi l_ x_116).Prc)).getD (⟨0, 0, 0, 0, 0⟩ : Api_Oper)).Kind), .int .i64 (((mget latest_113 ((gi l_ x_116).Prc)).getD (⟨0, 0, 0, 0, 0⟩ : Api_Oper)).Start), .int .i64 (((mget latest_113 ((gi l_ x_116).Prc)).getD (⟨0, 0, 0, 0, 0⟩ : Api_Oper)).End), .int .i64 (((mget latest_113 ((gi l_ x_116).Prc)).getD (⟨0, 0, 0, 0, 0⟩ : Api_Oper)).Result)])), (72, V (.agg #[.int .i64 ((gi l_ x_116).Prc), .int .i64 ((gi l_ x_116).Kind), .int .i64 ((gi l_ x_116).Start), .int .i64 ((gi l_ x_116).End), .int .i64 ((gi l_ x_116).Result)])), (73, B r151), (74, B (!r151)), (75, B (!r151))], [(8, (45, [I ((gi l_ x_116).Prc), I ((gi l_ x_116).Kind), I ((gi l_ x_116).Start), I ((gi l_ x_116).End), I ((gi l_ x_116).Result)]))]⟩ fun a hS => ?_
           exact ⟨ρ, _, (!r151), hm, hS.sl _, hO, h129, h130, h131, h132⟩
          ·replace hS := hS.lit (t := 70) kr hb
           replace hm := hm.2 hb
           refine eP T hS ⟨[(0, Sl a1 l_ c1), (4, V (.map (some r101))), (5, V (.map (some r105))), (6, I x_116), (7, Pt 8 0), (16, Sl a1 l_ c1), (17, I ((l_.length : Nat) : Int)), (18, I x_116), (75, B false)], [(8, (45, [I ((gi l_ x_116).Prc), I ((gi l_ x_116).Kind), I ((gi l_ x_116).Start), I ((gi l_ x_116).End), I ((gi l_ x_116).Result)]))]⟩ fun a hS => ?_
           exact ⟨ρ, _, false, hm, hS.sl _, hO, h129, h130, h131, h132⟩
         ·rintro a w153 ⟨ρ, χ152, x_139, hm, hS, hO, h135, h136, h137, h138⟩
          unfold VC33_J4 at hm
          refine wcond hS (b := x_139) kr (fun hb => ?_) (fun hb => ?_)
          ·replace hm := hm.1 hb
           refine rP T hS ⟨[(2, I x_116), (3, I 33)], []⟩ fun a hS => ?_
           refine wret ?_
           exact fin T hS hO (fun c => c) rfl (r := [.int .i64 x_116, .int .i64 33]) kr (fun χ' hM hC => ⟨(x_116, 33), hm, rfl⟩)
          ·replace hm := hm.2 hb
           refine wskip ?_
           refine regO ?_
           refine oP T hS 3 ⟨[(0, Sl a1 l_ c1), (4, V (.map (some r101))), (5, V (.map (some r105))), (7, Pt 8 0), (16, Sl a1 l_ c1), (17, I ((l_.length : Nat) : Int)), (18, I x_116), (77, V (.map (some r101))), (79, I ((gi l_ x_116).Start))], [(8, (45, [I ((gi l_ x_116).Prc), I ((gi l_ x_116).Kind), I ((gi l_ x_116).Start), I ((gi l_ x_116).End), I ((gi l_ x_116).Result)]))]⟩ fun a hS => ?_
           refine op1 (mlook kI tI false (zv := .int .i64 0) (z := 0) ((gi l_ x_116).Start) hS kr kr kr kr Try.underlying96 Try.underlying3 kr rfl h136 ?_)
           intro v140 a hv hS
           replace hv : tI.R _ _ [v140] _ := hv
           cases hv
           refine oP T hS 1 ⟨[(0, Sl a1 l_ c1), (4, V (.map (some r101))), (5, V (.map (some r105))), (7, Pt 8 0), (16, Sl a1 l_ c1), (17, I ((l_.length : Nat) : Int)), (18, I x_116), (77, V (.map (some r101))), (79, I ((gi l_ x_116).Start)), (81, I (IntKind.i64.wrap (((mget used_111 ((gi l_ x_116).Start)).getD 0) + 1)))], [(8, (45, [I ((gi l_ x_116).Prc), I ((gi l_ x_116).Kind), I ((gi l_ x_116).Start), I ((gi l_ x_116).End), I ((gi l_ x_116).Result)]))]⟩ fun a hS => ?_
           refine op1 (mset kI tI false (v := I (IntKind.i64.wrap (((mget used_111 ((gi l_ x_116).Start)).getD 0) + 1))) (u := IntKind.i64.wrap (((mget used_111 ((gi l_ x_116).Start)).getD 0) + 1)) ((gi l_ x_116).Start) hS kr kr kr kr Try.underlying96 Try.underlying3 kr h136 rfl ?_)
           intro a w141 hE h142 hS
           clear h136
           replace hO := hO.mv hE rfl rfl
           replace h135 := h135.mv hE rfl
           replace h137 := h137.mv hE rfl rfl
           replace h138 := h138.mv hE rfl
           clear hE
           refine doneK ?_
           refine regO ?_
           refine oP T hS 4 ⟨[(0, Sl a1 l_ c1), (4, V (.map (some r101))), (5, V (.map (some r105))), (7, Pt 8 0), (16, Sl a1 l_ c1), (17, I ((l_.length : Nat) : Int)), (18, I x_116), (82, V (.map (some r105))), (84, I ((gi l_ x_116).Prc)), (85, V (.agg #[.int .i64 ((gi l_ x_116).Prc), .int .i64 ((gi l_ x_116).Kind), .int .i64 ((gi l_ x_116).Start), .int .i64 ((gi l_ x_116).End), .int .i64 ((gi l_ x_116).Result)]))], [(8, (45, [I ((gi l_ x_116).Prc), I ((gi l_ x_116).Kind), I ((gi l_ x_116).Start), I ((gi l_ x_116).End), I ((gi l_ x_116).Result)]))]⟩ fun a hS => ?_
           refine op1 (mset kI tApi_Oper true (v := V (.agg #[.int .i64 ((gi l_ x_116).Prc), .int .i64 ((gi l_ x_116).Kind), .int .i64 ((gi l_ x_116).Start), .int .i64 ((gi l_ x_116).End), .int .i64 ((gi l_ x_116).Result)])) (u := (gi l_ x_116)) ((gi l_ x_116).Prc) hS kr kr kr kr Try.underlying97 Try.underlying3 kr h137 ⟨_, rfl, rfl⟩ ?_)
           intro a w143 hE h144 hS
           clear h137
           replace hO := hO.mv hE rfl rfl
           replace h135 := h135.mv hE rfl
           replace h138 := h138.mv hE rfl
           replace h142 := h142.mv hE rfl rfl
           clear hE
           refine doneK ?_
           refine rP T hS ⟨[(0, Sl a1 l_ c1), (4, V (.map (some r101))), (5, V (.map (some r105))), (7, Pt 8 0), (16, Sl a1 l_ c1), (17, I ((l_.length : Nat) : Int)), (18, I x_116), (88, B (decide (((gi l_ x_116).End) ≥ 0)))], [(8, (45, [I ((gi l_ x_116).Prc), I ((gi l_ x_116).Kind), I ((gi l_ x_116).Start), I ((gi l_ x_116).End), I ((gi l_ x_116).Result)]))]⟩ fun a hS => ?_
           refine wcond hS (b := decide (((gi l_ x_116).End) ≥ 0)) kr (fun hb => ?_) (fun hb => ?_)
           ·replace hm := hm.1 hb
            refine region ?_
            refine oP T hS 3 ⟨[(0, Sl a1 l_ c1), (4, V (.map (some r101))), (5, V (.map (some r105))), (16, Sl a1 l_ c1), (17, I ((l_.length : Nat) : Int)), (18, I x_116), (89, V (.map (some r101))), (91, I ((gi l_ x_116).End))], []⟩ fun a hS => ?_
            refine op1 (mlook kI tI false (zv := .int .i64 0) (z := 0) ((gi l_ x_116).End) hS kr kr kr kr Try.underlying96 Try.underlying3 kr rfl h142 ?_)
            intro v145 a hv hS
            replace hv : tI.R _ _ [v145] _ := hv
            cases hv
            refine oP T hS 1 ⟨[(0, Sl a1 l_ c1), (4, V (.map (some r101))), (5, V (.map (some r105))), (16, Sl a1 l_ c1), (17, I ((l_.length : Nat) : Int)), (18, I x_116), (89, V (.map (some r101))), (91, I ((gi l_ x_116).End)), (93, I (IntKind.i64.wrap (((mget (mput used_111 ((gi l_ x_116).Start) (IntKind.i64.wrap (((mget used_111 ((gi l_ x_116).Start)).getD 0) + 1))) ((gi l_ x_116).End)).getD 0) + 1)))], []⟩ fun a hS => ?_
            refine op1 (mset kI tI false (v := I (IntKind.i64.wrap (((mget (mput used_111 ((gi l_ x_116).Start) (IntKind.i64.wrap (((mget used_111 ((gi l_ x_116).Start)).getD 0) + 1))) ((gi l_ x_116).End)).getD 0) + 1))) (u := IntKind.i64.wrap (((mget (mput used_111 ((gi l_ x_116).Start) (IntKind.i64.wrap (((mget used_111 ((gi l_ x_116).Start)).getD 0) + 1))) ((gi l_ x_116).End)).getD 0) + 1)) ((gi l_ x_116).End) hS kr kr kr kr Try.underlying96 Try.underlying3 kr h142 rfl ?_)
            intro a w146 hE h147 hS
            clear h142
            replace hO := hO.mv hE rfl rfl
            replace h135 := h135.mv hE rfl
            replace h138 := h138.mv hE rfl
            replace h144 := h144.mv hE rfl rfl
            clear hE
            refine doneK ?_
            exact ⟨ρ, _, mput (mput used_111 ((gi l_ x_116).Start) (IntKind.i64.wrap (((mget used_111 ((gi l_ x_116).Start)).getD 0) + 1))) ((gi l_ x_116).End) (IntKind.i64.wrap (((mget (mput used_111 ((gi l_ x_116).Start) (IntKind.i64.wrap (((mget used_111 ((gi l_ x_116).Start)).getD 0) + 1))) ((gi l_ x_116).End)).getD 0) + 1)), hm, hS.sl _, hO, h135, h147, h144, h138⟩
           ·replace hm := hm.2 hb
            refine wskip ?_
            exact ⟨ρ, _, mput used_111 ((gi l_ x_116).Start) (IntKind.i64.wrap (((mget used_111 ((gi l_ x_116).Start)).getD 0) + 1)), hm, hS.sl _, hO, h135, h142, h144, h138⟩
     ·rintro a w172 ⟨ρ, χ171, used_118, hm, hS, hO, h117, h119, h120, h121⟩
      unfold VC33_J2 at hm
      refine region (eP T hS ⟨[(0, Sl a1 l_ c1), (4, V (.map (some r101))), (5, V (.map (some r105))), (16, Sl a1 l_ c1), (17, I ((l_.length : Nat) : Int)), (18, I (IntKind.i64.wrap (x_116 + 1)))], []⟩ fun a hS => ?_)
      exact ⟨⟨used_118, mput latest_113 ((gi l_ x_116).Prc) (gi l_ x_116), IntKind.i64.wrap (x_116 + 1)⟩, ⟨ρ, _, hm.1, hS.sl _, hO, h117, h119, h120, h121⟩, hm.2⟩
    ·replace hm := hm.2 hb
     refine wexit (by rfl) ?_
     exact ⟨ρ, _, hm, hS.sl _, hO, h110⟩
  ·rintro a w176 ⟨ρ, χ175, hm, hS, hO, h109⟩
   unfold VC33_J1 at hm
   refine rP T hS ⟨[(2, I ((l_.length : Nat) : Int)), (3, I 0)], []⟩ fun a hS => ?_
   refine wret ?_
   exact fin T hS hO (fun c => c) rfl (r := [.int .i64 ((l_.length : Nat) : Int), .int .i64 0]) kr (fun χ' hM hC => ⟨(((l_.length : Nat) : Int), 0), hm, rfl⟩)
theorem C33 (k49 : S49) (k52 : S52) (v : ∀ (l_ : List Api_Oper), VC33 l_ (fun r => r = oper_Check l_)) : S33 := by
 intro w χ l_ a1 c1   h1
 refine (W33 k49 k52 w χ l_ a1 c1   _ (v l_) h1).mono ?_
 rintro _ _ _ _ ⟨r, rfl, h⟩
 exact h
/-- replevin/witness.Check -/
theorem W29 (k30 : S30) (k33 : S33) (k43 : S43) (k44 : S44) (k45 : S45) (w0 : World) (χ0 : Nat → Nat) (o_ : Api_Object) (l_ : List Api_Oper) (picks : List Api_Pick) (a1 : Option Addr) (c1 : Nat) (a2 : Option Addr) (c2 : Nat) (a3 : Option Addr) (c3 : Nat) (Q : Int × Int → Prop) (hm : VC29 o_ l_ picks Q) (h1 : RS tApi_Row w0 χ0 a1 o_.Rows c1) (h2 : RS tApi_Oper w0 χ0 a2 l_ c2) (h3 : RS tApi_Pick w0 χ0 a3 picks c3) :
  Ret Try.prog 29 #[.agg #[.int .i64 o_.States, .int .i64 o_.Kinds, .int .i64 o_.Init, .slice a1 o_.Rows.length c1], .slice a2 l_.length c2, .slice a3 picks.length c3] xnone w0 χ0 (fun w χ' v => ∃ r, Q r ∧ v = .tuple #[.int .i64 r.1, .int .i64 r.2]) := by
 unfold VC29 at hm
 replace hm := hm (h1.sm kr)
 replace hm := hm (h2.sm kr)
 replace hm := hm (h3.sm kr)
 refine enter Try.func29 rfl (vals := [.agg #[.int .i64 o_.States, .int .i64 o_.Kinds, .int .i64 o_.Init, .slice a1 o_.Rows.length c1], .slice a2 l_.length c2, .slice a3 picks.length c3]) kr ?_
 intro ρ a hS hO hM
 replace h1 := h1.m0 hM
 replace h2 := h2.m0 hM
 replace h3 := h3.m0 hM
 clear hM
 refine rM T hS ⟨[(1, Sl a2 l_ c2), (2, Sl a3 picks c3), (3, Pt 4 0)], [(4, (24, [I o_.States, I o_.Kinds, I o_.Init, Sl a1 o_.Rows c1]))]⟩ fun ρ a w127 χ128 hS hE hr => ?_
 replace hO := hO.mv hE rfl rfl
 replace h1 := h1.mv hE rfl
 replace h2 := h2.mv hE rfl
 replace h3 := h3.mv hE rfl
 clear hE hr
 refine regO ?_
 refine oP T hS 1 ⟨[(1, Sl a2 l_ c2), (2, Sl a3 picks c3), (3, Pt 4 0), (18, V (.agg #[.int .i64 o_.States, .int .i64 o_.Kinds, .int .i64 o_.Init, .slice a1 o_.Rows.length c1]))], [(4, (24, [I o_.States, I o_.Kinds, I o_.Init, Sl a1 o_.Rows c1]))]⟩ fun a hS => ?_
 obtain ⟨hq, hm⟩ := hm
 refine op1 (call hS kr kr hb30 kr (fun _ _ => rfl) (k30 _ _ o_ a1 c1 hq h1) ?_)
 intro v101 a w102 χ103 hE hp hS
 clear hq
 replace hO := hO.mv hE rfl rfl
 replace h1 := h1.mv hE rfl
 replace h2 := h2.mv hE rfl
 replace h3 := h3.mv hE rfl
 clear hE
 obtain ⟨r104, hr⟩ : ∃ r, object_Check o_ = r := ⟨_, rfl⟩
 replace hm := hm r104 hr
 rw [hr] at hp
 clear hr
 subst hp
 refine eP T hS ⟨[(1, Sl a2 l_ c2), (2, Sl a3 picks c3), (3, Pt 4 0), (9, I r104.2)], [(4, (24, [I o_.States, I o_.Kinds, I o_.Init, Sl a1 o_.Rows c1]))]⟩ fun a hS => ?_
 refine regO ?_
 refine oP T hS 1 ⟨[(1, Sl a2 l_ c2), (2, Sl a3 picks c3), (3, Pt 4 0), (9, I r104.2), (23, Sl a2 l_ c2)], [(4, (24, [I o_.States, I o_.Kinds, I o_.Init, Sl a1 o_.Rows c1]))]⟩ fun a hS => ?_
 refine op1 (call hS kr kr hb33 kr (fun _ _ => rfl) (k33 _ _ l_ a2 c2 h2) ?_)
 intro v105 a w106 χ107 hE hp hS
 replace hO := hO.mv hE rfl rfl
 replace h1 := h1.mv hE rfl
 replace h2 := h2.mv hE rfl
 replace h3 := h3.mv hE rfl
 clear hE
 obtain ⟨r108, hr⟩ : ∃ r, oper_Check l_ = r := ⟨_, rfl⟩
 replace hm := hm r108 hr
 rw [hr] at hp
 clear hr
 subst hp
 refine eP T hS ⟨[(1, Sl a2 l_ c2), (2, Sl a3 picks c3), (3, Pt 4 0), (9, I r104.2), (11, I r108.2)], [(4, (24, [I o_.States, I o_.Kinds, I o_.Init, Sl a1 o_.Rows c1]))]⟩ fun a hS => ?_
 refine wseq ?_
 refine rP T hS ⟨[(1, Sl a2 l_ c2), (2, Sl a3 picks c3), (3, Pt 4 0), (32, B ((r104.2 != 0) || (r108.2 != 0)))], [(4, (24, [I o_.States, I o_.Kinds, I o_.Init, Sl a1 o_.Rows c1]))]⟩ (sp := [29]) fun a hS => ?_
 refine wcond hS (b := ((r104.2 != 0) || (r108.2 != 0))) kr (fun hb => ?_) (fun hb => ?_)
 ·replace hm := hm.1 hb
  refine rP T hS ⟨[(6, I (-1)), (7, I 2)], []⟩ fun a hS => ?_
  refine wret ?_
  exact fin T hS hO (fun c => c) rfl (r := [.int .i64 (-1), .int .i64 2]) kr (fun χ' hM hC => ⟨((-1), 2), hm, rfl⟩)
 ·replace hm := hm.2 hb
  refine wskip ?_
  refine wseq ?_
  refine regO ?_
  refine oP T hS 3 ⟨[(1, Sl a2 l_ c2), (2, Sl a3 picks c3), (34, V (.agg #[.int .i64 o_.States, .int .i64 o_.Kinds, .int .i64 o_.Init, .slice a1 o_.Rows.length c1])), (35, Sl a2 l_ c2), (36, Sl a3 picks c3)], []⟩ fun a hS => ?_
  obtain ⟨hq, hm⟩ := hm
  refine op1 (call hS kr kr hb43 kr (fun _ _ => rfl) (k43 _ _ o_ l_ picks a1 c1 a2 c2 a3 c3 hq h1 h2 h3) ?_)
  intro v109 a w110 χ111 hE hp hS
  clear hq
  replace hO := hO.mv hE rfl rfl
  replace h1 := h1.mv hE rfl
  replace h2 := h2.mv hE rfl
  replace h3 := h3.mv hE rfl
  clear hE
  obtain ⟨r112, hr⟩ : ∃ r, run_Picks o_ l_ picks = r := ⟨_, rfl⟩
  replace hm := hm r112 hr
  rw [hr] at hp
  clear hr
  subst hp
  refine eP T hS ⟨[(1, Sl a2 l_ c2), (2, Sl a3 picks c3), (13, I r112.2.1), (14, I r112.2.2)], []⟩ fun a hS => ?_
  refine rP T hS ⟨[(1, Sl a2 l_ c2), (2, Sl a3 picks c3), (13, I r112.2.1), (14, I r112.2.2), (42, B (r112.2.2 != 0))], []⟩ fun a hS => ?_
  refine wcond hS (b := (r112.2.2 != 0)) kr (fun hb => ?_) (fun hb => ?_)
  ·replace hm := hm.1 hb
   refine rP T hS ⟨[(6, I r112.2.1), (7, I r112.2.2)], []⟩ fun a hS => ?_
   refine wret ?_
   exact fin T hS hO (fun c => c) rfl (r := [.int .i64 r112.2.1, .int .i64 r112.2.2]) kr (fun χ' hM hC => ⟨(r112.2.1, r112.2.2), hm, rfl⟩)
  ·replace hm := hm.2 hb
   refine wskip ?_
   refine wseq ?_
   refine regO ?_
   refine oP T hS 2 ⟨[(1, Sl a2 l_ c2), (2, Sl a3 picks c3), (45, Sl a2 l_ c2), (46, Sl a3 picks c3)], []⟩ fun a hS => ?_
   refine op1 (call hS kr kr hb44 kr (fun _ _ => rfl) (k44 _ _ l_ picks a2 c2 a3 c3 h2 h3) ?_)
   intro v113 a w114 χ115 hE hp hS
   replace hO := hO.mv hE rfl rfl
   replace h2 := h2.mv hE rfl
   replace h3 := h3.mv hE rfl
   clear hE
   obtain ⟨r116, hr⟩ : ∃ r, witness_Order l_ picks = r := ⟨_, rfl⟩
   replace hm := hm r116 hr
   rw [hr] at hp
   clear hr
   subst hp
   refine eP T hS ⟨[(1, Sl a2 l_ c2), (2, Sl a3 picks c3), (15, I r116)], []⟩ fun a hS => ?_
   refine rP T hS ⟨[(1, Sl a2 l_ c2), (2, Sl a3 picks c3), (15, I r116), (49, B (decide (r116 ≥ 0)))], []⟩ fun a hS => ?_
   refine wcond hS (b := decide (r116 ≥ 0)) kr (fun hb => ?_) (fun hb => ?_)
   ·replace hm := hm.1 hb
    refine rP T hS ⟨[(6, I r116), (7, I 42)], []⟩ fun a hS => ?_
    refine wret ?_
    exact fin T hS hO (fun c => c) rfl (r := [.int .i64 r116, .int .i64 42]) kr (fun χ' hM hC => ⟨(r116, 42), hm, rfl⟩)
   ·replace hm := hm.2 hb
    refine wskip ?_
    refine wseq ?_
    refine regO ?_
    refine oP T hS 2 ⟨[(2, Sl a3 picks c3), (51, Sl a2 l_ c2), (52, Sl a3 picks c3)], []⟩ fun a hS => ?_
    obtain ⟨hq, hm⟩ := hm
    refine op1 (call hS kr kr hb45 kr (fun _ _ => rfl) (k45 _ _ l_ picks a2 c2 a3 c3 hq h2 h3) ?_)
    intro v117 a w118 χ119 hE hp hS
    clear hq
    replace hO := hO.mv hE rfl rfl
    replace h2 := h2.mv hE rfl
    replace h3 := h3.mv hE rfl
    clear hE
    obtain ⟨a121, c122, hp, h123⟩ := hp
    obtain ⟨r120, hr⟩ : ∃ r, witness_Missing l_ picks = r := ⟨_, rfl⟩
    replace hm := hm r120 hr
    rw [hr] at hp h123
    clear hr
    subst hp
    replace hm := hm (h123.sm kr)
    refine eP T hS ⟨[(2, Sl a3 picks c3), (16, Sl a121 r120 c122)], []⟩ fun a hS => ?_
    refine rP T hS ⟨[(2, Sl a3 picks c3), (16, Sl a121 r120 c122), (56, B (decide (((r120.length : Nat) : Int) > 0)))], []⟩ fun a hS => ?_
    refine wcond hS (b := decide (((r120.length : Nat) : Int) > 0)) kr (fun hb => ?_) (fun hb => ?_)
    ·replace hm := hm.1 hb
     refine regO ?_
     refine oP T hS 1 ⟨[(57, Sl a121 r120 c122)], []⟩ fun a hS => ?_
     obtain ⟨hq, hm⟩ := hm
     refine op1 (index (e := 3) (k := .i64) T hS kr kr kr kr h123 kr kr hq.1 hq.2 ?_)
     intro A124 a h125 hS
     clear hq
     refine op1 (load1 T hS kr kr kr h125 rfl kr ?_)
     intro v126 a hv hS
     cases hv
     refine eP T hS ⟨[(6, I (gi r120 0)), (7, I 41)], []⟩ fun a hS => ?_
     refine wret ?_
     exact fin T hS hO (fun c => c) rfl (r := [.int .i64 (gi r120 0), .int .i64 41]) kr (fun χ' hM hC => ⟨(gi r120 0, 41), hm, rfl⟩)
    ·replace hm := hm.2 hb
     refine wskip ?_
     refine rP T hS ⟨[(6, I ((picks.length : Nat) : Int)), (7, I 0)], []⟩ fun a hS => ?_
     refine wret ?_
     exact fin T hS hO (fun c => c) rfl (r := [.int .i64 ((picks.length : Nat) : Int), .int .i64 0]) kr (fun χ' hM hC => ⟨(((picks.length : Nat) : Int), 0), hm, rfl⟩)
theorem C29 (k30 : S30) (k33 : S33) (k43 : S43) (k44 : S44) (k45 : S45) (v : ∀ (o_ : Api_Object) (l_ : List Api_Oper) (picks : List Api_Pick), preO2 o_ l_ picks → VC29 o_ l_ picks (fun r => r = witness_Check o_ l_ picks)) : S29 := by
 intro w χ o_ l_ picks a1 c1 a2 c2 a3 c3   hp h1 h2 h3
 refine (W29 k30 k33 k43 k44 k45 w χ o_ l_ picks a1 c1 a2 c2 a3 c3   _ (v o_ l_ picks hp) h1 h2 h3).mono ?_
 rintro _ _ _ _ ⟨r, rfl, h⟩
 exact h
/-- replevin/witness.Is -/
theorem W15 (k29 : S29) (w0 : World) (χ0 : Nat → Nat) (o_ : Api_Object) (l_ : List Api_Oper) (picks : List Api_Pick) (a1 : Option Addr) (c1 : Nat) (a2 : Option Addr) (c2 : Nat) (a3 : Option Addr) (c3 : Nat) (Q : Bool → Prop) (hm : VC15 o_ l_ picks Q) (h1 : RS tApi_Row w0 χ0 a1 o_.Rows c1) (h2 : RS tApi_Oper w0 χ0 a2 l_ c2) (h3 : RS tApi_Pick w0 χ0 a3 picks c3) :
  Ret Try.prog 15 #[.agg #[.int .i64 o_.States, .int .i64 o_.Kinds, .int .i64 o_.Init, .slice a1 o_.Rows.length c1], .slice a2 l_.length c2, .slice a3 picks.length c3] xnone w0 χ0 (fun w χ' v => ∃ r, Q r ∧ v = .bool r) := by
 unfold VC15 at hm
 replace hm := hm (h1.sm kr)
 replace hm := hm (h2.sm kr)
 replace hm := hm (h3.sm kr)
 refine enter Try.func15 rfl (vals := [.agg #[.int .i64 o_.States, .int .i64 o_.Kinds, .int .i64 o_.Init, .slice a1 o_.Rows.length c1], .slice a2 l_.length c2, .slice a3 picks.length c3]) kr ?_
 intro ρ a hS hO hM
 replace h1 := h1.m0 hM
 replace h2 := h2.m0 hM
 replace h3 := h3.m0 hM
 clear hM
 refine rM T hS ⟨[(1, Sl a2 l_ c2), (2, Sl a3 picks c3), (3, Pt 4 0)], [(4, (24, [I o_.States, I o_.Kinds, I o_.Init, Sl a1 o_.Rows c1]))]⟩ fun ρ a w105 χ106 hS hE hr => ?_
 replace hO := hO.mv hE rfl rfl
 replace h1 := h1.mv hE rfl
 replace h2 := h2.mv hE rfl
 replace h3 := h3.mv hE rfl
 clear hE hr
 refine regO ?_
 refine oP T hS 3 ⟨[(10, V (.agg #[.int .i64 o_.States, .int .i64 o_.Kinds, .int .i64 o_.Init, .slice a1 o_.Rows.length c1])), (11, Sl a2 l_ c2), (12, Sl a3 picks c3)], []⟩ fun a hS => ?_
 obtain ⟨hq, hm⟩ := hm
 refine op1 (call hS kr kr hb29 kr (fun _ _ => rfl) (k29 _ _ o_ l_ picks a1 c1 a2 c2 a3 c3 hq h1 h2 h3) ?_)
 intro v101 a w102 χ103 hE hp hS
 clear hq
 replace hO := hO.mv hE rfl rfl
 replace h1 := h1.mv hE rfl
 replace h2 := h2.mv hE rfl
 replace h3 := h3.mv hE rfl
 clear hE
 obtain ⟨r104, hr⟩ : ∃ r, witness_Check o_ l_ picks = r := ⟨_, rfl⟩
 replace hm := hm r104 hr
 rw [hr] at hp
 clear hr
 subst hp
 refine eP T hS ⟨[(8, I r104.2)], []⟩ fun a hS => ?_
 refine rP T hS ⟨[(6, B (r104.2 == 0))], []⟩ fun a hS => ?_
 refine wret ?_
 exact fin T hS hO (fun c => c) rfl (r := [.bool (r104.2 == 0)]) kr (fun χ' hM hC => ⟨(r104.2 == 0), hm, rfl⟩)
theorem C15 (k29 : S29) (v : ∀ (o_ : Api_Object) (l_ : List Api_Oper) (picks : List Api_Pick), preO2 o_ l_ picks → VC15 o_ l_ picks (fun r => r = witness_Is o_ l_ picks)) : S15 := by
 intro w χ o_ l_ picks a1 c1 a2 c2 a3 c3   hp h1 h2 h3
 refine (W15 k29 w χ o_ l_ picks a1 c1 a2 c2 a3 c3   _ (v o_ l_ picks hp) h1 h2 h3).mono ?_
 rintro _ _ _ _ ⟨r, rfl, h⟩
 exact h
/-- replevin/replevinref28.Same -/
theorem W14 (w0 : World) (χ0 : Nat → Nat) (a_ : List Api_Pick) (b_ : List Api_Pick) (a1 : Option Addr) (c1 : Nat) (a2 : Option Addr) (c2 : Nat) (Q : Bool → Prop) (hm : VC14 a_ b_ Q) (h1 : RS tApi_Pick w0 χ0 a1 a_ c1) (h2 : RS tApi_Pick w0 χ0 a2 b_ c2) :
  Ret Try.prog 14 #[.slice a1 a_.length c1, .slice a2 b_.length c2] xnone w0 χ0 (fun w χ' v => ∃ r, Q r ∧ v = .bool r) := by
 unfold VC14 at hm
 replace hm := hm (h1.sm kr)
 replace hm := hm (h2.sm kr)
 refine enter Try.func14 rfl (vals := [.slice a1 a_.length c1, .slice a2 b_.length c2]) kr ?_
 intro ρ a hS hO hM
 replace h1 := h1.m0 hM
 replace h2 := h2.m0 hM
 clear hM
 refine rP T hS ⟨[(0, Sl a1 a_ c1), (1, Sl a2 b_ c2)], []⟩ fun a hS => ?_
 refine wseq ?_
 refine rP T hS ⟨[(0, Sl a1 a_ c1), (1, Sl a2 b_ c2), (10, B (((a_.length : Nat) : Int) != ((b_.length : Nat) : Int)))], []⟩ fun a hS => ?_
 refine wcond hS (b := (((a_.length : Nat) : Int) != ((b_.length : Nat) : Int))) kr (fun hb => ?_) (fun hb => ?_)
 ·replace hm := hm.1 hb
  refine rP T hS ⟨[(4, B false)], []⟩ fun a hS => ?_
  refine wret ?_
  exact fin T hS hO (fun c => c) rfl (r := [.bool false]) kr (fun χ' hM hC => ⟨false, hm, rfl⟩)
 ·replace hm := hm.2 hb
  refine wskip ?_
  refine wcut (fun a w => ∃ (ρ : Nat → Nat) (χ : Nat → Nat), VC14_J1 Q ∧ St Try.f14.ntmps ⟨[], []⟩ ρ a w χ ∧ Old w0 χ0 w χ) ?_ ?_
  ·refine rP T hS ⟨[(0, Sl a1 a_ c1), (1, Sl a2 b_ c2), (5, I 0)], []⟩ fun a hS => ?_
   refine wblock ?_
   obtain ⟨I1, μ1, hm0, hm⟩ := hm
   refine wloop (σ := Int) (fun s a w => ∃ (ρ : Nat → Nat) (χ : Nat → Nat), I1 s ∧ St Try.f14.ntmps ⟨[(0, Sl a1 a_ c1), (1, Sl a2 b_ c2), (5, I s)], []⟩ ρ a w χ ∧ Old w0 χ0 w χ ∧ RS tApi_Pick w χ a1 a_ c1 ∧ RS tApi_Pick w χ a2 b_ c2) (fun s => μ1 s) (0) ?_ ?_
   ·exact ⟨ρ, _, hm0, hS.sl _, hO, h1, h2⟩
   ·rintro i_103 a w113 ⟨ρ, χ112, hI, hS, hO, h101, h102⟩
    replace hm := hm i_103 hI
    clear hI hm0
    refine wseq ?_
    refine rP T hS ⟨[(0, Sl a1 a_ c1), (1, Sl a2 b_ c2), (5, I i_103), (14, B (decide (i_103 < ((a_.length : Nat) : Int))))], []⟩ fun a hS => ?_
    refine wcond hS (b := decide (i_103 < ((a_.length : Nat) : Int))) kr (fun hb => ?_) (fun hb => ?_)
    ·replace hm := hm.1 hb
     refine wskip ?_
     refine wseq ?_
     refine wblock ?_
     refine drawnSX [] mixed hS ?_
     intro w104 χ105 hS hE hD hH
     replace hO := hO.mv hE rfl rfl
     replace h101 := h101.mv hE rfl
     replace h102 := h102.mv hE rfl
     clear hE
     refine tk T [0, 1, 4, 5] [] hS hH #[true, true, false, false, true, true, false, false, false] 5 ⟨[(0, Sl a1 a_ c1), (1, Sl a2 b_ c2), (5, I i_103), (17, Sl a1 a_ c1), (18, I i_103), (21, Sl a2 b_ c2), (22, I i_103)], []⟩ fun a hS => ?_
     obtain ⟨hq, hm⟩ := hm
     refine dindex (e := 51) (k := .i64) T 2 hS kr kr kr (by rfl) kr hH kr kr h101 kr kr hq.1 hq.2 ?_
     intro A106 a h107 hS
     clear hq
     have h107b := h107.here
     refine dloadA T 3 hS kr kr kr (by rfl) kr hH kr h107 h107b kr kr ?_
     intro v108 a hv hS
     subst hv
     obtain ⟨hq, hm⟩ := hm
     refine dindex (e := 51) (k := .i64) T 6 hS kr kr kr (by rfl) kr hH kr kr h102 kr kr hq.1 hq.2 ?_
     intro A109 a h110 hS
     clear hq
     have h110b := h110.here
     refine dloadA T 7 hS kr kr kr (by rfl) kr hH kr h110 h110b kr kr ?_
     intro v111 a hv hS
     subst hv
     refine dstructEq (op := .neq) (xs := [.int .i64 ((gi a_ i_103).Oper), .int .i64 ((gi a_ i_103).Result)]) (ys := [.int .i64 ((gi b_ i_103).Oper), .int .i64 ((gi b_ i_103).Result)]) (r := (((gi a_ i_103).Oper) == ((gi b_ i_103).Oper) && (((gi a_ i_103).Result) == ((gi b_ i_103).Result) && true))) (b := (!(((gi a_ i_103).Oper) == ((gi b_ i_103).Oper) && (((gi a_ i_103).Result) == ((gi b_ i_103).Result) && true)))) 8 T hS kr kr kr (by rfl) kr hH kr kr kr kr kr kr ?_
     intro a hS
     refine drawnDone kr ?_
     clear hD hH
     replace hS := hS.sl ⟨[(0, Sl a1 a_ c1), (1, Sl a2 b_ c2), (5, I i_103), (25, B (!(((gi a_ i_103).Oper) == ((gi b_ i_103).Oper) && (((gi a_ i_103).Result) == ((gi b_ i_103).Result) && true))))], []⟩
     refine wcond hS (b := (!(((gi a_ i_103).Oper) == ((gi b_ i_103).Oper) && (((gi a_ i_103).Result) == ((gi b_ i_103).Result) && true)))) kr (fun hb => ?_) (fun hb => ?_)
     ·replace hm := hm.1 hb
      refine rP T hS ⟨[(4, B false)], []⟩ fun a hS => ?_
      refine wret ?_
      exact fin T hS hO (fun c => c) rfl (r := [.bool false]) kr (fun χ' hM hC => ⟨false, hm, rfl⟩)
     ·replace hm := hm.2 hb
      refine wskip ?_
      refine region (eP T hS ⟨[(0, Sl a1 a_ c1), (1, Sl a2 b_ c2), (5, I (IntKind.i64.wrap (i_103 + 1)))], []⟩ fun a hS => ?_)
      exact ⟨IntKind.i64.wrap (i_103 + 1), ⟨ρ, _, hm.1, hS.sl _, hO, h101, h102⟩, hm.2⟩
    ·replace hm := hm.2 hb
     refine wexit (by rfl) ?_
     exact ⟨ρ, _, hm, hS.sl _, hO⟩
  ·rintro a w115 ⟨ρ, χ114, hm, hS, hO⟩
   unfold VC14_J1 at hm
   refine rP T hS ⟨[(4, B true)], []⟩ fun a hS => ?_
   refine wret ?_
   exact fin T hS hO (fun c => c) rfl (r := [.bool true]) kr (fun χ' hM hC => ⟨true, hm, rfl⟩)
theorem C14 (v : ∀ (a_ : List Api_Pick) (b_ : List Api_Pick), VC14 a_ b_ (fun r => r = ref28_Same a_ b_)) : S14 := by
 intro w χ a_ b_ a1 c1 a2 c2   h1 h2
 refine (W14 w χ a_ b_ a1 c1 a2 c2   _ (v a_ b_) h1 h2).mono ?_
 rintro _ _ _ _ ⟨r, rfl, h⟩
 exact h
/-- replevin/oper.Free$1 -/
theorem W48 (w0 : World) (χ0 : Nat → Nat) (i_ : Int) (cap1 : List Bool) (a1 : Option Addr) (c1 : Nat) (b1 : Nat) (i1 : Nat) (Q : Bool → Prop) (hm : VC48 i_ cap1 Q) (h1 : RS tBool w0 χ0 a1 cap1 c1) (hc1 : Cell w0 χ0 b1 i1 68 [.slice a1 cap1.length c1]) (hA : Apart [i1]) :
  Ret Try.prog 48 #[.int .i64 i_, .pointer (some ⟨b1, 0, none⟩)] (pR [i1]) w0 χ0 (fun w χ' v => ∃ r, Q r ∧ v = .bool r ∧ Cell w χ' b1 i1 68 [.slice a1 cap1.length c1]) := by
 unfold VC48 at hm
 replace hm := hm (h1.sm kr)
 refine enterR Try.func48 rfl (f0of [(i1, 901)]) (fun id => (bif Nat.beq id 901 then b1 else 0)) (args := [I i_, Pt 901 0]) (bxs := [(901, (68, [Sl a1 cap1 c1]))]) kr rfl (BoxesOK.cons kr (hc1.map (f0of_at 0 hA.1 rfl)) BoxesOK.nil) (f0of_0 (fun q hq => (hA.2 q.1 (List.mem_map.2 ⟨q, hq, rfl⟩)).1)) ?_
 intro a hS hO hM
 have hP : Pin [(901, b1)] (fun id => (bif Nat.beq id 901 then b1 else 0)) := by intro q hq; simp at hq; rcases hq with rfl <;> rfl
 generalize (fun id => (bif Nat.beq id 901 then b1 else 0)) = ρ at hS hP
 clear hc1
 replace h1 := h1.m0 hM
 clear hM
 refine rP T hS ⟨[(0, I i_), (1, Pt 901 0)], [(901, (68, [Sl a1 cap1 c1]))]⟩ fun a hS => ?_
 refine regO ?_
 refine oP T hS 5 ⟨[(0, I i_), (1, Pt 901 0), (8, B (decide (i_ < ((cap1.length : Nat) : Int))))], [(901, (68, [Sl a1 cap1 c1]))]⟩ fun a hS => ?_
 rcases Bool.eq_false_or_eq_true (decide (i_ < ((cap1.length : Nat) : Int))) with hb | hb
 ·replace hS := hS.lit (t := 8) kr hb
  replace hm := hm.1 hb
  refine oP T hS 2 ⟨[(8, B true), (9, Sl a1 cap1 c1), (10, I i_)], [(901, (68, [Sl a1 cap1 c1]))]⟩ fun a hS => ?_
  obtain ⟨hq, hm⟩ := hm
  refine op1 (index (e := 4) (k := .i64) T hS kr kr kr kr h1 kr kr hq.1 hq.2 ?_)
  intro A101 a h102 hS
  clear hq
  refine op1 (load1 T hS kr kr kr h102 rfl kr ?_)
  intro v103 a hv hS
  cases hv
  refine eP T hS ⟨[(3, B (gi cap1 i_))], [(901, (68, [Sl a1 cap1 c1]))]⟩ fun a hS => ?_
  refine wret ?_
  exact finR T hS hO (fun c h => f0of_zero kr h) (fun c h => f0of_else (l := [(i1, 901)]) h) (f1of [(i1, 901)]) rfl (r := [.bool (gi cap1 i_)]) kr (fun χ' hM hC => ⟨(gi cap1 i_), hm, rfl, ((hS.cell (id := 901) (t := 68) (cs := [Sl a1 cap1 c1]) kr).out (f := (f1of [(i1, 901)])) hC kr kr (hP.at 0 rfl))⟩)
 ·replace hS := hS.lit (t := 8) kr hb
  replace hm := hm.2 hb
  refine eP T hS ⟨[(3, B false)], [(901, (68, [Sl a1 cap1 c1]))]⟩ fun a hS => ?_
  refine wret ?_
  exact finR T hS hO (fun c h => f0of_zero kr h) (fun c h => f0of_else (l := [(i1, 901)]) h) (f1of [(i1, 901)]) rfl (r := [.bool false]) kr (fun χ' hM hC => ⟨false, hm, rfl, ((hS.cell (id := 901) (t := 68) (cs := [Sl a1 cap1 c1]) kr).out (f := (f1of [(i1, 901)])) hC kr kr (hP.at 0 rfl))⟩)
theorem C48 (v : ∀ (i_ : Int) (cap1 : List Bool), preF1 i_ cap1 → VC48 i_ cap1 (fun r => r = oper_Free_1 i_ cap1)) : S48 := by
 intro w χ i_ cap1 a1 c1  b1 i1 hp h1 hc1 hA
 refine (W48 w χ i_ cap1 a1 c1  b1 i1 _ (v i_ cap1 hp) h1 hc1 hA).mono ?_
 rintro _ _ _ _ ⟨r, rfl, h⟩
 exact h
end Go.Proofs.Ytomodhnocjmfpaa
