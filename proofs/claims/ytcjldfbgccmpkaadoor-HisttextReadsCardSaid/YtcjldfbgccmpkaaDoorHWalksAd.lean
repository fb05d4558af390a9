/- Walks: each function returns what its condition asks. Condition: the contracts of its callees, handed in. -/
import Derived.Test.YtcjldfbgccmpkaaDoorHWalksS
set_option linter.all false
namespace Go.Proofs.YtcjldfbgccmpkaaDoor
open Go Go.Sv
set_option maxHeartbeats 1000000
/-- replevin/histtext.line -/
theorem W27 (k54 : S54) (w0 : World) (χ0 : Nat → Nat) (words : List (List UInt8)) (a1 : Option Addr) (c1 : Nat) (Q : (List UInt8) → Prop) (hm : VC27 words Q) (h1 : RS tStr w0 χ0 a1 words c1) :
  Ret Tryd.prog 27 #[.slice a1 words.length c1] xnone w0 χ0 (fun w χ' v => ∃ r, Q r ∧ v = .string (bs r)) := by
 unfold VC27 at hm
 replace hm := hm (h1.sm kr)
 refine enter Tryd.func27 rfl (vals := [.slice a1 words.length c1]) kr ?_
 intro ρ a hS hO hM
 replace h1 := h1.m0 hM
 clear hM
 refine rP T hS ⟨[(0, Sl a1 words c1)], []⟩ fun a hS => ?_
 refine regO ?_
 refine oP T hS 1 ⟨[(3, Sl a1 words c1)], []⟩ fun a hS => ?_
 obtain ⟨hq, hm⟩ := hm
 refine op1 (call hS kr kr hb54 kr (fun _ _ => rfl) (k54 _ _ words ([32] : List UInt8) a1 c1 hq h1) ?_)
 intro v101 a w102 χ103 hE hp hS
 clear hq
 replace hO := hO.mv hE rfl rfl
 replace h1 := h1.mv hE rfl
 clear hE
 obtain ⟨r104, hr⟩ : ∃ r, strings_Join words ([32] : List UInt8) = r := ⟨_, rfl⟩
 replace hm := hm r104 hr
 rw [hr] at hp
 clear hr
 subst hp
 obtain ⟨hq, hm⟩ := hm
 refine op1 (sadd (p := r104) (q := ([10] : List UInt8)) hS kr kr kr kr hq ?_)
 intro a hS
 clear hq
 refine eP T hS ⟨[(2, Z (r104 ++ ([10] : List UInt8)))], []⟩ fun a hS => ?_
 refine wret ?_
 exact fin T hS hO (fun c => c) rfl (r := [.string (bs (r104 ++ ([10] : List UInt8)))]) kr (fun χ' hM hC => ⟨(r104 ++ ([10] : List UInt8)), hm, rfl⟩)
theorem C27 (k54 : S54) (v : ∀ (words : List (List UInt8)), preLi words → VC27 words (fun r => r = histtext_line words)) : S27 := by
 intro w χ words a1 c1   hp h1
 refine (W27 k54 w χ words a1 c1   _ (v words hp) h1).mono ?_
 rintro _ _ _ _ ⟨r, rfl, h⟩
 exact h
/-- replevin/histtext.Print -/
theorem W12 (k14 : S14) (k25 : S25) (k27 : S27) (k28 : S28) (w0 : World) (χ0 : Nat → Nat) (c_ : Histtext_Case) (a1 : Option Addr) (c1 : Nat) (a2 : Option Addr) (c2 : Nat) (Q : (List UInt8) × Int → Prop) (hm : VC12 c_ Q) (h1 : RS tApi_Row w0 χ0 a1 c_.Object.Rows c1) (h2 : RS tApi_Event w0 χ0 a2 c_.Events c2) (hAmb : Amb w0 χ0) :
  Ret Tryd.prog 12 #[.agg #[.int .i64 c_.Object.States, .int .i64 c_.Object.Kinds, .int .i64 c_.Object.Init, .slice a1 c_.Object.Rows.length c1, .slice a2 c_.Events.length c2]] xnone w0 χ0 (fun w χ' v => ∃ r, Q r ∧ v = .tuple #[.string (bs r.1), .int .i64 r.2]) := by
 unfold VC12 at hm
 replace hm := hm (h1.sm kr)
 replace hm := hm (h2.sm kr)
 refine enter Tryd.func12 rfl (vals := [.agg #[.int .i64 c_.Object.States, .int .i64 c_.Object.Kinds, .int .i64 c_.Object.Init, .slice a1 c_.Object.Rows.length c1, .slice a2 c_.Events.length c2]]) kr ?_
 intro ρ a hS hO hM
 replace h1 := h1.m0 hM
 replace h2 := h2.m0 hM
 replace hAmb := hAmb.m0 hM
 clear hM
 refine rM T hS ⟨[(1, Pt 2 0)], [(2, (28, [I c_.Object.States, I c_.Object.Kinds, I c_.Object.Init, Sl a1 c_.Object.Rows c1, Sl a2 c_.Events c2]))]⟩ fun ρ a w163 χ164 hS hE hr => ?_
 replace hO := hO.mv hE rfl rfl
 replace h1 := h1.mv hE rfl
 replace h2 := h2.mv hE rfl
 replace hAmb := hAmb.mv hE rfl
 clear hE hr
 refine wseq ?_
 refine regO ?_
 refine oP T hS 1 ⟨[(1, Pt 2 0), (11, V (.agg #[.int .i64 c_.Object.States, .int .i64 c_.Object.Kinds, .int .i64 c_.Object.Init, .slice a1 c_.Object.Rows.length c1, .slice a2 c_.Events.length c2]))], [(2, (28, [I c_.Object.States, I c_.Object.Kinds, I c_.Object.Init, Sl a1 c_.Object.Rows c1, Sl a2 c_.Events c2]))]⟩ fun a hS => ?_
 obtain ⟨hq, hm⟩ := hm
 refine op1 (call hS kr kr hb14 kr (fun _ _ => rfl) (k14 _ _ c_ a1 c1 a2 c2 hq h1 h2) ?_)
 intro v101 a w102 χ103 hE hp hS
 clear hq
 replace hO := hO.mv hE rfl rfl
 replace h1 := h1.mv hE rfl
 replace h2 := h2.mv hE rfl
 replace hAmb := hAmb.mv hE rfl
 clear hE
 obtain ⟨r104, hr⟩ : ∃ r, histtext_Check c_ = r := ⟨_, rfl⟩
 replace hm := hm r104 hr
 rw [hr] at hp
 clear hr
 subst hp
 refine eP T hS ⟨[(1, Pt 2 0), (4, I r104)], [(2, (28, [I c_.Object.States, I c_.Object.Kinds, I c_.Object.Init, Sl a1 c_.Object.Rows c1, Sl a2 c_.Events c2]))]⟩ fun a hS => ?_
 refine rP T hS ⟨[(1, Pt 2 0), (4, I r104), (14, B (r104 != 0))], [(2, (28, [I c_.Object.States, I c_.Object.Kinds, I c_.Object.Init, Sl a1 c_.Object.Rows c1, Sl a2 c_.Events c2]))]⟩ fun a hS => ?_
 refine wcond hS (b := (r104 != 0)) kr (fun hb => ?_) (fun hb => ?_)
 ·replace hm := hm.1 hb
  refine rP T hS ⟨[(2, Z ([] : List UInt8)), (3, I r104)], []⟩ fun a hS => ?_
  refine wret ?_
  exact fin T hS hO (fun c => c) rfl (r := [.string (bs ([] : List UInt8)), .int .i64 r104]) kr (fun χ' hM hC => ⟨(([] : List UInt8), r104), hm, rfl⟩)
 ·replace hm := hm.2 hb
  refine wskip ?_
  refine regO ?_
  refine oP T hS 2 ⟨[(1, Pt 2 0), (18, V (.agg #[.int .i64 c_.Object.States, .int .i64 c_.Object.Kinds, .int .i64 c_.Object.Init, .slice a1 c_.Object.Rows.length c1]))], [(2, (28, [I c_.Object.States, I c_.Object.Kinds, I c_.Object.Init, Sl a1 c_.Object.Rows c1, Sl a2 c_.Events c2]))]⟩ fun a hS => ?_
  obtain ⟨hq, hm⟩ := hm
  refine op1 (call hS kr kr hb25 kr (fun _ _ => rfl) (k25 _ _ c_.Object a1 c1 hq h1 hAmb) ?_)
  intro v105 a w106 χ107 hE hp hS
  clear hq
  replace hO := hO.mv hE rfl rfl
  replace h1 := h1.mv hE rfl
  replace h2 := h2.mv hE rfl
  replace hAmb := hAmb.mv hE rfl
  clear hE
  obtain ⟨r108, hr⟩ : ∃ r, objtext_Print c_.Object = r := ⟨_, rfl⟩
  replace hm := hm r108 hr
  rw [hr] at hp
  clear hr
  subst hp
  refine eP T hS ⟨[(1, Pt 2 0), (5, Z r108.1)], [(2, (28, [I c_.Object.States, I c_.Object.Kinds, I c_.Object.Init, Sl a1 c_.Object.Rows c1, Sl a2 c_.Events c2]))]⟩ fun a hS => ?_
  refine regO ?_
  refine op1 (mkbldN T 71  1008 hS kr kr kr ?_)
  intro r109 a w110 χ111 hE h112 hS
  replace hO := hO.mv hE rfl rfl
  replace h1 := h1.mv hE rfl
  replace h2 := h2.mv hE rfl
  replace hAmb := hAmb.mv hE rfl
  clear hE
  refine doneK ?_
  refine regO ?_
  refine oP T hS 1 ⟨[(1, Pt 2 0), (7, V (.pointer (some ⟨r109, 0, none⟩))), (22, Z r108.1)], [(2, (28, [I c_.Object.States, I c_.Object.Kinds, I c_.Object.Init, Sl a1 c_.Object.Rows c1, Sl a2 c_.Events c2]))]⟩ fun a hS => ?_
  obtain ⟨hq, hm⟩ := hm
  refine op1 (call hS kr kr hb26 kr (xone_box kr) (ws r109 1008 ([] : List UInt8) r108.1 _ _ (h112.bl 5) hq) ?_)
  intro v116 a w113 χ114 hE hp hS
  clear hq
  clear h112
  replace hO := hO.mv hE rfl rfl
  replace h1 := h1.mv hE rfl
  replace h2 := h2.mv hE rfl
  replace hAmb := hAmb.mv hE rfl
  clear hE
  obtain ⟨hp, h115⟩ := hp
  subst hp
  refine doneK ?_
  refine wcut (fun a w => ∃ (ρ : Nat → Nat) (χ : Nat → Nat) (b_117 : List UInt8), VC12_J1 Q b_117 ∧ St Tryd.f12.ntmps ⟨[(7, V (.pointer (some ⟨r109, 0, none⟩)))], []⟩ ρ a w χ ∧ Old w0 χ0 w χ ∧ BL 71 5 w χ 1008 r109 b_117 ∧ Amb w χ) ?_ ?_
  ·refine rP T hS ⟨[(7, V (.pointer (some ⟨r109, 0, none⟩))), (25, Sl a2 c_.Events c2), (26, I ((c_.Events.length : Nat) : Int)), (27, I 0)], []⟩ fun a hS => ?_
   refine wblock ?_
   obtain ⟨I1, μ1, hm0, hm⟩ := hm
   refine wloop (σ := (List UInt8) × Int) (fun s a w => ∃ (ρ : Nat → Nat) (χ : Nat → Nat), I1 s.1 s.2 ∧ St Tryd.f12.ntmps ⟨[(7, V (.pointer (some ⟨r109, 0, none⟩))), (25, Sl a2 c_.Events c2), (26, I ((c_.Events.length : Nat) : Int)), (27, I s.2)], []⟩ ρ a w χ ∧ Old w0 χ0 w χ ∧ BL 71 5 w χ 1008 r109 s.1 ∧ RS tApi_Event w χ a2 c_.Events c2 ∧ Amb w χ) (fun s => μ1 s.1 s.2) (⟨([] : List UInt8) ++ r108.1, 0⟩) ?_ ?_
   ·exact ⟨ρ, _, hm0, hS.sl _, hO, h115, h2, hAmb⟩
   ·rintro ⟨b_123, x_126⟩ a w160 ⟨ρ, χ159, hI, hS, hO, h124, h125, hAmb⟩
    replace hm := hm b_123 x_126 hI
    clear hI hm0
    refine rP T hS ⟨[(7, V (.pointer (some ⟨r109, 0, none⟩))), (25, Sl a2 c_.Events c2), (26, I ((c_.Events.length : Nat) : Int)), (27, I x_126), (28, B (decide (x_126 < ((c_.Events.length : Nat) : Int))))], []⟩ fun a hS => ?_
    refine wseq ?_
    refine wcond hS (b := decide (x_126 < ((c_.Events.length : Nat) : Int))) kr (fun hb => ?_) (fun hb => ?_)
    ·replace hm := hm.1 hb
     refine wskip ?_
     refine wseq ?_
     refine wblock ?_
     refine regO ?_
     obtain ⟨hq, hm⟩ := hm
     refine op1 (index (e := 51) (k := .i64) T hS kr kr kr kr h125 kr kr hq.1 hq.2 ?_)
     intro A127 a h128 hS
     clear hq
     refine op1 (loadA T hS kr kr kr h128 kr kr ?_)
     intro v129 a hv hS
     subst hv
     refine eM T hS ⟨[(7, V (.pointer (some ⟨r109, 0, none⟩))), (9, Pt 10 0), (25, Sl a2 c_.Events c2), (26, I ((c_.Events.length : Nat) : Int)), (27, I x_126)], [(10, (51, [I ((gi c_.Events x_126).What), I ((gi c_.Events x_126).Prc), I ((gi c_.Events x_126).N)]))]⟩ fun ρ a w157 χ158 hS hE hr => ?_
     replace hO := hO.mv hE rfl rfl
     replace h124 := h124.mv hE rfl rfl
     replace h125 := h125.mv hE rfl
     replace hAmb := hAmb.mv hE rfl
     clear hE hr
     refine rP T hS ⟨[(7, V (.pointer (some ⟨r109, 0, none⟩))), (9, Pt 10 0), (10, Z ([114, 101, 116] : List UInt8)), (25, Sl a2 c_.Events c2), (26, I ((c_.Events.length : Nat) : Int)), (27, I x_126)], [(10, (51, [I ((gi c_.Events x_126).What), I ((gi c_.Events x_126).Prc), I ((gi c_.Events x_126).N)]))]⟩ fun a hS => ?_
     refine wcut (fun a w => ∃ (ρ : Nat → Nat) (χ : Nat → Nat) (word_131 : List UInt8), VC12_J2 c_ I1 μ1 b_123 x_126 word_131 ∧ St Tryd.f12.ntmps ⟨[(7, V (.pointer (some ⟨r109, 0, none⟩))), (9, Pt 10 0), (10, Z word_131), (25, Sl a2 c_.Events c2), (26, I ((c_.Events.length : Nat) : Int)), (27, I x_126)], [(10, (51, [I ((gi c_.Events x_126).What), I ((gi c_.Events x_126).Prc), I ((gi c_.Events x_126).N)]))]⟩ ρ a w χ ∧ Old w0 χ0 w χ ∧ BL 71 5 w χ 1008 r109 b_123 ∧ RS tApi_Event w χ a2 c_.Events c2 ∧ Amb w χ) ?_ ?_
     ·refine rP T hS ⟨[(7, V (.pointer (some ⟨r109, 0, none⟩))), (9, Pt 10 0), (10, Z ([114, 101, 116] : List UInt8)), (25, Sl a2 c_.Events c2), (26, I ((c_.Events.length : Nat) : Int)), (27, I x_126), (33, B (((gi c_.Events x_126).What) == 1))], [(10, (51, [I ((gi c_.Events x_126).What), I ((gi c_.Events x_126).Prc), I ((gi c_.Events x_126).N)]))]⟩ fun a hS => ?_
      refine wcond hS (b := (((gi c_.Events x_126).What) == 1)) kr (fun hb => ?_) (fun hb => ?_)
      ·replace hm := hm.1 hb
       refine region (eP T hS ⟨[(7, V (.pointer (some ⟨r109, 0, none⟩))), (9, Pt 10 0), (10, Z ([99, 97, 108, 108] : List UInt8)), (25, Sl a2 c_.Events c2), (26, I ((c_.Events.length : Nat) : Int)), (27, I x_126)], [(10, (51, [I ((gi c_.Events x_126).What), I ((gi c_.Events x_126).Prc), I ((gi c_.Events x_126).N)]))]⟩ fun a hS => ?_)
       exact ⟨ρ, _, ([99, 97, 108, 108] : List UInt8), hm, hS.sl _, hO, h124, h125, hAmb⟩
      ·replace hm := hm.2 hb
       refine wskip ?_
       exact ⟨ρ, _, ([114, 101, 116] : List UInt8), hm, hS.sl _, hO, h124, h125, hAmb⟩
     ·rintro a w156 ⟨ρ, χ155, word_131, hm, hS, hO, h130, h132, hAmb⟩
      unfold VC12_J2 at hm
      refine drawnX [10] mixed hS ?_
      intro w133 χ134 hS hE hD hH
      replace hO := hO.mv hE rfl rfl
      replace h130 := h130.mv hE rfl rfl
      replace h132 := h132.mv hE rfl
      replace hAmb := hAmb.mv hE rfl
      clear hE
      refine tk T [0, 1, 4, 2, 5] [10] hS hH #[true, true, true, false, true, true, false, false, false, false] 5 ⟨[(7, V (.pointer (some ⟨r109, 0, none⟩))), (25, Sl a2 c_.Events c2), (26, I ((c_.Events.length : Nat) : Int)), (27, I x_126), (34, Z word_131), (36, I ((gi c_.Events x_126).Prc)), (39, I ((gi c_.Events x_126).N))], [(10, (51, [I ((gi c_.Events x_126).What), I ((gi c_.Events x_126).Prc), I ((gi c_.Events x_126).N)]))]⟩ fun a hS => ?_
      obtain ⟨hq, hm⟩ := hm
      refine only 3 kr (by rfl) (call hS kr kr hb28 kr (fun _ _ => rfl) (k28 _ _ ((gi c_.Events x_126).Prc) hq hAmb) ?_)
      intro v135 a w136 χ137 hE hp hS
      clear hq
      replace hO := hO.mv hE rfl rfl
      replace hD := hD.ev hE rfl
      replace h130 := h130.mv hE rfl rfl
      replace h132 := h132.mv hE rfl
      replace hAmb := hAmb.mv hE rfl
      clear hE
      obtain ⟨r138, hr⟩ : ∃ r, token_Digits ((gi c_.Events x_126).Prc) = r := ⟨_, rfl⟩
      replace hm := hm r138 hr
      rw [hr] at hp
      clear hr
      subst hp
      replace hS := hS.sl ⟨[(7, V (.pointer (some ⟨r109, 0, none⟩))), (25, Sl a2 c_.Events c2), (26, I ((c_.Events.length : Nat) : Int)), (27, I x_126), (34, Z word_131), (36, I ((gi c_.Events x_126).Prc)), (39, I ((gi c_.Events x_126).N)), (37, Z r138)], [(10, (51, [I ((gi c_.Events x_126).What), I ((gi c_.Events x_126).Prc), I ((gi c_.Events x_126).N)]))]⟩
      refine andH (Hold.of hS (bks := [10]) kr hD) ?_
      intro hH
      obtain ⟨hq, hm⟩ := hm
      refine only 6 kr (by rfl) (call hS kr kr hb28 kr (fun _ _ => rfl) (k28 _ _ ((gi c_.Events x_126).N) hq hAmb) ?_)
      intro v139 a w140 χ141 hE hp hS
      clear hq
      replace hO := hO.mv hE rfl rfl
      replace hD := hD.ev hE rfl
      replace h130 := h130.mv hE rfl rfl
      replace h132 := h132.mv hE rfl
      replace hAmb := hAmb.mv hE rfl
      clear hE
      obtain ⟨r142, hr⟩ : ∃ r, token_Digits ((gi c_.Events x_126).N) = r := ⟨_, rfl⟩
      replace hm := hm r142 hr
      rw [hr] at hp
      clear hr
      subst hp
      replace hS := hS.sl ⟨[(7, V (.pointer (some ⟨r109, 0, none⟩))), (25, Sl a2 c_.Events c2), (26, I ((c_.Events.length : Nat) : Int)), (27, I x_126), (34, Z word_131), (36, I ((gi c_.Events x_126).Prc)), (39, I ((gi c_.Events x_126).N)), (37, Z r138), (40, Z r142)], [(10, (51, [I ((gi c_.Events x_126).What), I ((gi c_.Events x_126).Prc), I ((gi c_.Events x_126).N)]))]⟩
      refine andH (Hold.of hS (bks := [10]) kr hD) ?_
      intro hH
      refine only 7 kr (by rfl) (lit (E := 9) (col := 0) (T := tStr) (vals := [.string (bs word_131), .string (bs r138), .string (bs r142)]) (ys := [word_131, r138, r142]) T hS kr kr kr kr (by exact ⟨rfl, rfl, rfl, trivial⟩) rfl kr kr kr kr ?_)
      intro b143 a w144 χ145 hE h146 hN hS
      clear hN
      replace hO := hO.mv hE rfl rfl
      replace hD := hD.ev hE rfl
      replace h130 := h130.mv hE rfl rfl
      replace h132 := h132.mv hE rfl
      replace hAmb := hAmb.mv hE rfl
      clear hE
      replace h146 := h146.rs0
      refine andH (Hold.of hS (bks := [10]) kr hD) ?_
      intro hH
      obtain ⟨hq, hm⟩ := hm
      refine only 8 kr (by rfl) (call hS kr kr hb27 kr (fun _ _ => rfl) (k27 _ _ [word_131, r138, r142] (some ⟨b143, 0, none⟩) 3 hq h146) ?_)
      intro v147 a w148 χ149 hE hp hS
      clear hq
      replace hO := hO.mv hE rfl rfl
      replace hD := hD.ev hE rfl
      replace h130 := h130.mv hE rfl rfl
      replace h132 := h132.mv hE rfl
      replace hAmb := hAmb.mv hE rfl
      replace h146 := h146.mv hE rfl
      clear hE
      obtain ⟨r150, hr⟩ : ∃ r, histtext_line [word_131, r138, r142] = r := ⟨_, rfl⟩
      replace hm := hm r150 hr
      rw [hr] at hp
      clear hr
      subst hp
      replace hS := hS.sl ⟨[(7, V (.pointer (some ⟨r109, 0, none⟩))), (25, Sl a2 c_.Events c2), (26, I ((c_.Events.length : Nat) : Int)), (27, I x_126), (34, Z word_131), (36, I ((gi c_.Events x_126).Prc)), (39, I ((gi c_.Events x_126).N)), (37, Z r138), (40, Z r142), (41, Sl (some ⟨b143, 0, none⟩) [word_131, r138, r142] 3), (42, Z r150)], [(10, (51, [I ((gi c_.Events x_126).What), I ((gi c_.Events x_126).Prc), I ((gi c_.Events x_126).N)]))]⟩
      refine andH (Hold.of hS (bks := [10]) kr hD) ?_
      intro hH
      obtain ⟨hq, hm⟩ := hm
      refine only 9 kr (by rfl) (call hS kr kr hb26 kr (xone_box kr) (ws r109 1008 b_123 r150 _ _ h130 hq) ?_)
      intro v154 a w151 χ152 hE hp hS
      clear hq
      clear h130
      replace hO := hO.mv hE rfl rfl
      replace hD := hD.ev hE rfl
      replace h132 := h132.mv hE rfl
      replace hAmb := hAmb.mv hE rfl
      replace h146 := h146.mv hE rfl
      clear hE
      obtain ⟨hp, h153⟩ := hp
      subst hp
      replace hS := hS.sl ⟨[(7, V (.pointer (some ⟨r109, 0, none⟩))), (25, Sl a2 c_.Events c2), (26, I ((c_.Events.length : Nat) : Int)), (27, I x_126), (34, Z word_131), (36, I ((gi c_.Events x_126).Prc)), (39, I ((gi c_.Events x_126).N)), (37, Z r138), (40, Z r142), (41, Sl (some ⟨b143, 0, none⟩) [word_131, r138, r142] 3), (42, Z r150), (43, V (.tuple #[.int .i64 ((r150.length : Nat) : Int), .nilIface]))], [(10, (51, [I ((gi c_.Events x_126).What), I ((gi c_.Events x_126).Prc), I ((gi c_.Events x_126).N)]))]⟩
      refine andH (Hold.of hS (bks := [10]) kr hD) ?_
      intro hH
      refine drawnDone kr ?_
      clear hD hH
      replace hS := hS.sl ⟨[(7, V (.pointer (some ⟨r109, 0, none⟩))), (25, Sl a2 c_.Events c2), (26, I ((c_.Events.length : Nat) : Int)), (27, I x_126)], []⟩
      refine region (eP T hS ⟨[(7, V (.pointer (some ⟨r109, 0, none⟩))), (25, Sl a2 c_.Events c2), (26, I ((c_.Events.length : Nat) : Int)), (27, I (IntKind.i64.wrap (x_126 + 1)))], []⟩ fun a hS => ?_)
      exact ⟨⟨b_123 ++ r150, IntKind.i64.wrap (x_126 + 1)⟩, ⟨ρ, _, hm.1, hS.sl _, hO, h153, h132, hAmb⟩, hm.2⟩
    ·replace hm := hm.2 hb
     refine wexit (by rfl) ?_
     exact ⟨ρ, _, b_123, hm, hS.sl _, hO, h124, hAmb⟩
  ·rintro a w162 ⟨ρ, χ161, b_117, hm, hS, hO, h118, hAmb⟩
   unfold VC12_J1 at hm
   refine regO ?_
   refine op1 (call hS kr kr hb29 kr (xone_box kr) (st r109 1008 b_117 _ _ h118) ?_)
   intro v122 a w119 χ120 hE hp hS
   clear h118
   replace hO := hO.mv hE rfl rfl
   replace hAmb := hAmb.mv hE rfl
   clear hE
   subst hp
   refine eP T hS ⟨[(2, Z b_117), (3, I 0)], []⟩ fun a hS => ?_
   refine wret ?_
   exact fin T hS hO (fun c => c) rfl (r := [.string (bs b_117), .int .i64 0]) kr (fun χ' hM hC => ⟨(b_117, 0), hm, rfl⟩)
theorem C12 (k14 : S14) (k25 : S25) (k27 : S27) (k28 : S28) (v : ∀ (c_ : Histtext_Case), preHp c_ → VC12 c_ (fun r => r = histtext_Print c_)) : S12 := by
 intro w χ c_ a1 c1 a2 c2   hp h1 h2 hAmb
 refine (W12 k14 k25 k27 k28 w χ c_ a1 c1 a2 c2   _ (v c_ hp) h1 h2 hAmb).mono ?_
 rintro _ _ _ _ ⟨r, rfl, h⟩
 exact h
/-- replevin/replevinlaw26.awake -/
theorem W7 (k12 : S12) (k14 : S14) (k8 : S8) (w0 : World) (χ0 : Nat → Nat) (Q : Bool → Prop) (hm : VC7 Q) (hAmb : Amb w0 χ0) :
  Ret Tryd.prog 7 #[] xnone w0 χ0 (fun w χ' v => ∃ r, Q r ∧ v = .bool r) := by
 unfold VC7 at hm
 refine enter Tryd.func7 rfl (vals := []) kr ?_
 intro ρ a hS hO hM
 replace hAmb := hAmb.m0 hM
 clear hM
 refine rP T hS ⟨[], []⟩ fun a hS => ?_
 refine regO ?_
 refine op1 (call hS kr kr hb8 kr (fun _ _ => rfl) (k8 _ _ ([111, 98, 106, 101, 99, 116, 32, 49, 32, 49, 32, 48, 32, 49, 10, 114, 111, 119, 32, 48, 32, 48, 32, 48, 32, 55, 10, 99, 97, 108, 108, 32, 49, 32, 48, 10, 114, 101, 116, 32, 49, 32, 55, 10] : List UInt8)) ?_)
 intro v101 a w102 χ103 hE hp hS
 replace hO := hO.mv hE rfl rfl
 replace hAmb := hAmb.mv hE rfl
 clear hE
 obtain ⟨a105, c106, a108, c109, hp, h107, h110⟩ := hp
 obtain ⟨r104, hr⟩ : ∃ r, histtext_Parse ([111, 98, 106, 101, 99, 116, 32, 49, 32, 49, 32, 48, 32, 49, 10, 114, 111, 119, 32, 48, 32, 48, 32, 48, 32, 55, 10, 99, 97, 108, 108, 32, 49, 32, 48, 10, 114, 101, 116, 32, 49, 32, 55, 10] : List UInt8) = r := ⟨_, rfl⟩
 replace hm := hm r104 hr
 rw [hr] at hp h107 h110
 clear hr
 subst hp
 replace hm := hm (h107.sm kr)
 replace hm := hm (h110.sm kr)
 refine eM T hS ⟨[(1, Pt 2 0), (2, I r104.2.1), (3, I r104.2.2)], [(2, (28, [I r104.1.Object.States, I r104.1.Object.Kinds, I r104.1.Object.Init, Sl a105 r104.1.Object.Rows c106, Sl a108 r104.1.Events c109]))]⟩ fun ρ a w150 χ151 hS hE hr => ?_
 replace hO := hO.mv hE rfl rfl
 replace hAmb := hAmb.mv hE rfl
 replace h107 := h107.mv hE rfl
 replace h110 := h110.mv hE rfl
 clear hE hr
 refine regO ?_
 refine oP T hS 1 ⟨[(1, Pt 2 0), (2, I r104.2.1), (3, I r104.2.2), (18, V (.agg #[.int .i64 r104.1.Object.States, .int .i64 r104.1.Object.Kinds, .int .i64 r104.1.Object.Init, .slice a105 r104.1.Object.Rows.length c106, .slice a108 r104.1.Events.length c109]))], [(2, (28, [I r104.1.Object.States, I r104.1.Object.Kinds, I r104.1.Object.Init, Sl a105 r104.1.Object.Rows c106, Sl a108 r104.1.Events c109]))]⟩ fun a hS => ?_
 obtain ⟨hq, hm⟩ := hm
 refine op1 (call hS kr kr hb12 kr (fun _ _ => rfl) (k12 _ _ r104.1 a105 c106 a108 c109 hq h107 h110 hAmb) ?_)
 intro v111 a w112 χ113 hE hp hS
 clear hq
 replace hO := hO.mv hE rfl rfl
 replace hAmb := hAmb.mv hE rfl
 replace h107 := h107.mv hE rfl
 replace h110 := h110.mv hE rfl
 clear hE
 obtain ⟨r114, hr⟩ : ∃ r, histtext_Print r104.1 = r := ⟨_, rfl⟩
 replace hm := hm r114 hr
 rw [hr] at hp
 clear hr
 subst hp
 refine eP T hS ⟨[(1, Pt 2 0), (2, I r104.2.1), (3, I r104.2.2), (4, Z r114.1), (5, I r114.2)], [(2, (28, [I r104.1.Object.States, I r104.1.Object.Kinds, I r104.1.Object.Init, Sl a105 r104.1.Object.Rows c106, Sl a108 r104.1.Events c109]))]⟩ fun a hS => ?_
 refine regO ?_
 refine op1 (call hS kr kr hb8 kr (fun _ _ => rfl) (k8 _ _ ([111, 98, 106, 101, 99, 116, 32, 49, 32, 49, 32, 48, 32, 48, 10, 114, 101, 116, 32, 49, 32, 55] : List UInt8)) ?_)
 intro v115 a w116 χ117 hE hp hS
 replace hO := hO.mv hE rfl rfl
 replace hAmb := hAmb.mv hE rfl
 replace h107 := h107.mv hE rfl
 replace h110 := h110.mv hE rfl
 clear hE
 obtain ⟨a119, c120, a122, c123, hp, h121, h124⟩ := hp
 obtain ⟨r118, hr⟩ : ∃ r, histtext_Parse ([111, 98, 106, 101, 99, 116, 32, 49, 32, 49, 32, 48, 32, 48, 10, 114, 101, 116, 32, 49, 32, 55] : List UInt8) = r := ⟨_, rfl⟩
 replace hm := hm r118 hr
 rw [hr] at hp h121 h124
 clear hr
 subst hp
 replace hm := hm (h121.sm kr)
 replace hm := hm (h124.sm kr)
 refine eM T hS ⟨[(1, Pt 2 0), (2, I r104.2.1), (3, I r104.2.2), (4, Z r114.1), (5, I r114.2), (7, I r118.2.1), (8, I r118.2.2)], [(2, (28, [I r104.1.Object.States, I r104.1.Object.Kinds, I r104.1.Object.Init, Sl a105 r104.1.Object.Rows c106, Sl a108 r104.1.Events c109]))]⟩ fun ρ a w148 χ149 hS hE hr => ?_
 replace hO := hO.mv hE rfl rfl
 replace hAmb := hAmb.mv hE rfl
 replace h107 := h107.mv hE rfl
 replace h110 := h110.mv hE rfl
 clear hE hr
 refine regO ?_
 refine op1 (call hS kr kr hb8 kr (fun _ _ => rfl) (k8 _ _ ([111, 98, 106, 101, 99, 116, 32, 49, 32, 49, 32, 48, 32, 48, 10, 99, 97, 108, 108, 32, 49, 32, 49] : List UInt8)) ?_)
 intro v125 a w126 χ127 hE hp hS
 replace hO := hO.mv hE rfl rfl
 replace hAmb := hAmb.mv hE rfl
 replace h107 := h107.mv hE rfl
 replace h110 := h110.mv hE rfl
 clear hE
 obtain ⟨a129, c130, a132, c133, hp, h131, h134⟩ := hp
 obtain ⟨r128, hr⟩ : ∃ r, histtext_Parse ([111, 98, 106, 101, 99, 116, 32, 49, 32, 49, 32, 48, 32, 48, 10, 99, 97, 108, 108, 32, 49, 32, 49] : List UInt8) = r := ⟨_, rfl⟩
 replace hm := hm r128 hr
 rw [hr] at hp h131 h134
 clear hr
 subst hp
 replace hm := hm (h131.sm kr)
 replace hm := hm (h134.sm kr)
 refine eM T hS ⟨[(1, Pt 2 0), (2, I r104.2.1), (3, I r104.2.2), (4, Z r114.1), (5, I r114.2), (7, I r118.2.1), (8, I r118.2.2), (10, I r128.2.1), (11, I r128.2.2)], [(2, (28, [I r104.1.Object.States, I r104.1.Object.Kinds, I r104.1.Object.Init, Sl a105 r104.1.Object.Rows c106, Sl a108 r104.1.Events c109]))]⟩ fun ρ a w146 χ147 hS hE hr => ?_
 replace hO := hO.mv hE rfl rfl
 replace hAmb := hAmb.mv hE rfl
 replace h107 := h107.mv hE rfl
 replace h110 := h110.mv hE rfl
 clear hE hr
 refine regO ?_
 refine oP T hS 21 ⟨[(1, Pt 2 0), (7, I r118.2.1), (8, I r118.2.2), (10, I r128.2.1), (11, I r128.2.2), (52, B (((((r104.2.2 == 0) && (r104.2.1 == 44)) && (r114.2 == 0)) && (r114.1 == ([111, 98, 106, 101, 99, 116, 32, 49, 32, 49, 32, 48, 32, 49, 10, 114, 111, 119, 32, 48, 32, 48, 32, 48, 32, 55, 10, 99, 97, 108, 108, 32, 49, 32, 48, 10, 114, 101, 116, 32, 49, 32, 55, 10] : List UInt8))) && (((r104.1.Events.length : Nat) : Int) == 2)))], [(2, (28, [I r104.1.Object.States, I r104.1.Object.Kinds, I r104.1.Object.Init, Sl a105 r104.1.Object.Rows c106, Sl a108 r104.1.Events c109]))]⟩ (sp := [34, 38, 42, 46]) fun a hS => ?_
 rcases Bool.eq_false_or_eq_true (((((r104.2.2 == 0) && (r104.2.1 == 44)) && (r114.2 == 0)) && (r114.1 == ([111, 98, 106, 101, 99, 116, 32, 49, 32, 49, 32, 48, 32, 49, 10, 114, 111, 119, 32, 48, 32, 48, 32, 48, 32, 55, 10, 99, 97, 108, 108, 32, 49, 32, 48, 10, 114, 101, 116, 32, 49, 32, 55, 10] : List UInt8))) && (((r104.1.Events.length : Nat) : Int) == 2)) with hb | hb
 ·replace hS := hS.lit (t := 52) kr hb
  replace hm := hm.1 hb
  refine oP T hS 2 ⟨[(1, Pt 2 0), (7, I r118.2.1), (8, I r118.2.2), (10, I r128.2.1), (11, I r128.2.2), (52, B true), (54, Sl a108 r104.1.Events c109)], [(2, (28, [I r104.1.Object.States, I r104.1.Object.Kinds, I r104.1.Object.Init, Sl a105 r104.1.Object.Rows c106, Sl a108 r104.1.Events c109]))]⟩ fun a hS => ?_
  obtain ⟨hq, hm⟩ := hm
  refine op1 (index (e := 51) (k := .i64) T hS kr kr kr kr h110 kr kr hq.1 hq.2 ?_)
  intro A135 a h136 hS
  clear hq
  refine op1 (loadA T hS kr kr kr h136 kr kr ?_)
  intro v137 a hv hS
  subst hv
  refine oP T hS 1 ⟨[(1, Pt 2 0), (7, I r118.2.1), (8, I r118.2.2), (10, I r128.2.1), (11, I r128.2.2), (52, B true), (56, V (.agg #[.int .i64 ((gi r104.1.Events 1).What), .int .i64 ((gi r104.1.Events 1).Prc), .int .i64 ((gi r104.1.Events 1).N)])), (57, V (.agg #[.int .i64 2, .int .i64 1, .int .i64 7]))], [(2, (28, [I r104.1.Object.States, I r104.1.Object.Kinds, I r104.1.Object.Init, Sl a105 r104.1.Object.Rows c106, Sl a108 r104.1.Events c109]))]⟩ fun a hS => ?_
  refine op1 (structEq (op := .eql) (xs := [.int .i64 ((gi r104.1.Events 1).What), .int .i64 ((gi r104.1.Events 1).Prc), .int .i64 ((gi r104.1.Events 1).N)]) (ys := [.int .i64 2, .int .i64 1, .int .i64 7]) (r := (((gi r104.1.Events 1).What) == 2 && (((gi r104.1.Events 1).Prc) == 1 && (((gi r104.1.Events 1).N) == 7 && true)))) (b := (((gi r104.1.Events 1).What) == 2 && (((gi r104.1.Events 1).Prc) == 1 && (((gi r104.1.Events 1).N) == 7 && true)))) T hS kr kr kr kr kr kr kr kr ?_)
  intro a hS
  refine oP T hS 18 ⟨[(1, Pt 2 0), (76, B (((((((gi r104.1.Events 1).What) == 2 && (((gi r104.1.Events 1).Prc) == 1 && (((gi r104.1.Events 1).N) == 7 && true))) && (r118.2.1 == 15)) && (r118.2.2 == 33)) && (r128.2.1 == 22)) && (r128.2.2 == 7)))], [(2, (28, [I r104.1.Object.States, I r104.1.Object.Kinds, I r104.1.Object.Init, Sl a105 r104.1.Object.Rows c106, Sl a108 r104.1.Events c109]))]⟩ (sp := [60, 64, 68, 72]) fun a hS => ?_
  rcases Bool.eq_false_or_eq_true (((((((gi r104.1.Events 1).What) == 2 && (((gi r104.1.Events 1).Prc) == 1 && (((gi r104.1.Events 1).N) == 7 && true))) && (r118.2.1 == 15)) && (r118.2.2 == 33)) && (r128.2.1 == 22)) && (r128.2.2 == 7)) with hb | hb
  ·replace hS := hS.lit (t := 76) kr hb
   replace hm := hm.1 hb
   refine oP T hS 1 ⟨[(76, B true), (77, V (.agg #[.int .i64 r104.1.Object.States, .int .i64 r104.1.Object.Kinds, .int .i64 r104.1.Object.Init, .slice a105 r104.1.Object.Rows.length c106, .slice a108 r104.1.Events.length c109]))], []⟩ fun a hS => ?_
   obtain ⟨hq, hm⟩ := hm
   refine op1 (call hS kr kr hb14 kr (fun _ _ => rfl) (k14 _ _ r104.1 a105 c106 a108 c109 hq h107 h110) ?_)
   intro v138 a w139 χ140 hE hp hS
   clear hq
   replace hO := hO.mv hE rfl rfl
   replace hAmb := hAmb.mv hE rfl
   replace h107 := h107.mv hE rfl
   replace h110 := h110.mv hE rfl
   clear hE
   obtain ⟨r141, hr⟩ : ∃ r, histtext_Check r104.1 = r := ⟨_, rfl⟩
   replace hm := hm r141 hr
   rw [hr] at hp
   clear hr
   subst hp
   refine oP T hS 3 ⟨[(81, B (r141 == 0))], []⟩ fun a hS => ?_
   rcases Bool.eq_false_or_eq_true (r141 == 0) with hb | hb
   ·replace hS := hS.lit (t := 81) kr hb
    replace hm := hm.1 hb
    refine oP T hS 1 ⟨[(81, B true), (82, V (.agg #[.int .i64 0, .int .i64 0, .int .i64 0, .slice none 0 0, .slice none 0 0]))], []⟩ fun a hS => ?_
    obtain ⟨hq, hm⟩ := hm
    refine op1 (call hS kr kr hb14 kr (fun _ _ => rfl) (k14 _ _ (⟨(⟨0, 0, 0, []⟩ : Api_Object), []⟩ : Histtext_Case) none 0 none 0 hq (RS.empty _ _ _) (RS.empty _ _ _)) ?_)
    intro v142 a w143 χ144 hE hp hS
    clear hq
    replace hO := hO.mv hE rfl rfl
    replace hAmb := hAmb.mv hE rfl
    clear hE
    obtain ⟨r145, hr⟩ : ∃ r, histtext_Check (⟨(⟨0, 0, 0, []⟩ : Api_Object), []⟩ : Histtext_Case) = r := ⟨_, rfl⟩
    replace hm := hm r145 hr
    rw [hr] at hp
    clear hr
    subst hp
    refine eP T hS ⟨[(0, B (r145 == 2))], []⟩ fun a hS => ?_
    refine wret ?_
    exact fin T hS hO (fun c => c) rfl (r := [.bool (r145 == 2)]) kr (fun χ' hM hC => ⟨(r145 == 2), hm, rfl⟩)
   ·replace hS := hS.lit (t := 81) kr hb
    replace hm := hm.2 hb
    refine eP T hS ⟨[(0, B false)], []⟩ fun a hS => ?_
    refine wret ?_
    exact fin T hS hO (fun c => c) rfl (r := [.bool false]) kr (fun χ' hM hC => ⟨false, hm, rfl⟩)
  ·replace hS := hS.lit (t := 76) kr hb
   replace hm := hm.2 hb
   refine eP T hS ⟨[(0, B false)], []⟩ fun a hS => ?_
   refine wret ?_
   exact fin T hS hO (fun c => c) rfl (r := [.bool false]) kr (fun χ' hM hC => ⟨false, hm, rfl⟩)
 ·replace hS := hS.lit (t := 52) kr hb
  replace hm := hm.2 hb
  refine eP T hS ⟨[(0, B false)], []⟩ fun a hS => ?_
  refine wret ?_
  exact fin T hS hO (fun c => c) rfl (r := [.bool false]) kr (fun χ' hM hC => ⟨false, hm, rfl⟩)
theorem C7 (k12 : S12) (k14 : S14) (k8 : S8) (v : ∀ (_ : Unit), VC7 (fun r => r = law26_awake)) : S7 := by
 intro w χ     hAmb
 refine (W7 k12 k14 k8 w χ     _ (v ()) hAmb).mono ?_
 rintro _ _ _ _ ⟨r, rfl, h⟩
 exact h
end Go.Proofs.YtcjldfbgccmpkaaDoor
