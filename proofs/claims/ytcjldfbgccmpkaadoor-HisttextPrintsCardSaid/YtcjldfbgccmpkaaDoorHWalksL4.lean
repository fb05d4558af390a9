/- Walks: each function returns what its condition asks. Condition: the contracts of its callees, handed in. -/
import Derived.Test.YtcjldfbgccmpkaaDoorHWalksS
set_option linter.all false
namespace Go.Proofs.YtcjldfbgccmpkaaDoor
open Go Go.Sv
set_option maxHeartbeats 1000000
/-- replevin/replevinref24.Words -/
theorem W31 (k56 : S56) (w0 : World) (χ0 : Nat → Nat) (w_ : List UInt8) (n_ : List Int) (a1 : Option Addr) (c1 : Nat) (Q : (List UInt8) → Prop) (hm : VC31 w_ n_ Q) (h1 : RS tI w0 χ0 a1 n_ c1) :
  Ret Tryd.prog 31 #[.string (bs w_), .slice a1 n_.length c1] xnone w0 χ0 (fun w χ' v => ∃ r, Q r ∧ v = .string (bs r)) := by
 unfold VC31 at hm
 replace hm := hm (h1.sm kr)
 refine enter Tryd.func31 rfl (vals := [.string (bs w_), .slice a1 n_.length c1]) kr ?_
 intro ρ a hS hO hM
 replace h1 := h1.m0 hM
 clear hM
 refine regP T hS (sp := []) (ks := [0, 1]) (bs := []) (sy' := ⟨[(0, V (.string (bs w_))), (1, V (.slice a1 n_.length c1))], []⟩) kr ?_
 intro a hS
 refine wcut (fun a w => ∃ (ρ : Nat → Nat) (χ : Nat → Nat) (w_101 : List UInt8), VC31_J1 Q w_101 ∧ St Tryd.f31.ntmps ⟨[(0, V (.string (bs w_101)))], []⟩ ρ a w χ ∧ Old w0 χ0 w χ) ?_ ?_
 ·refine regP T hS (sp := []) (ks := [0, 1, 5]) (bs := []) (sy' := ⟨[(0, V (.string (bs w_))), (1, V (.slice a1 n_.length c1)), (5, I 0)], []⟩) kr ?_
  intro a hS
  refine wblock ?_
  obtain ⟨I1, μ1, hm0, hm⟩ := hm
  refine wloop (σ := (List UInt8) × Int) (fun s a w => ∃ (ρ : Nat → Nat) (χ : Nat → Nat), I1 s.1 s.2 ∧ St Tryd.f31.ntmps ⟨[(0, V (.string (bs s.1))), (1, V (.slice a1 n_.length c1)), (5, I s.2)], []⟩ ρ a w χ ∧ Old w0 χ0 w χ ∧ RS tI w χ a1 n_ c1) (fun s => μ1 s.1 s.2) (⟨w_, 0⟩) ?_ ?_
  ·exact ⟨ρ, _, hm0, hS.sel [0, 1, 5] [] kr, hO, h1⟩
  ·rintro ⟨w_102, i_104⟩ a w113 ⟨ρ, χ112, hI, hS, hO, h103⟩
   replace hm := hm w_102 i_104 hI
   clear hI hm0
   refine wseq ?_
   refine regP T hS (sp := []) (ks := [0, 1, 5, 9]) (bs := []) (sy' := ⟨[(0, V (.string (bs w_102))), (1, V (.slice a1 n_.length c1)), (5, I i_104), (9, B (decide (i_104 < ((n_.length : Nat) : Int))))], []⟩) kr ?_
   intro a hS
   refine wcond hS (b := decide (i_104 < ((n_.length : Nat) : Int))) kr (fun hb => ?_) (fun hb => ?_)
   ·replace hm := hm.1 hb
    refine wskip ?_
    refine wseq ?_
    refine wblock ?_
    refine region ?_
    refine opsP T hS 1 (sp := []) (ks := [0, 1, 5, 12]) (bs := []) (sy' := ⟨[(0, V (.string (bs w_102))), (1, V (.slice a1 n_.length c1)), (5, I i_104), (12, V (.string (bs w_102)))], []⟩) kr ?_
    intro a hS
    obtain ⟨hq, hm⟩ := hm
    refine op1 (sadd (p := w_102) (q := ([32] : List UInt8)) hS kr kr kr kr hq ?_)
    intro a hS
    clear hq
    refine opsP T hS 2 (sp := []) (ks := [0, 1, 5, 13, 14, 15]) (bs := []) (sy' := ⟨[(0, V (.string (bs w_102))), (1, V (.slice a1 n_.length c1)), (5, I i_104), (13, V (.string (bs (w_102 ++ ([32] : List UInt8))))), (14, V (.slice a1 n_.length c1)), (15, I i_104)], []⟩) kr ?_
    intro a hS
    obtain ⟨hq, hm⟩ := hm
    refine op1 (index (e := 3) (k := .i64) T hS kr kr kr kr h103 kr kr hq.1 hq.2 ?_)
    intro A105 a h106 hS
    clear hq
    refine op1 (load1 T hS kr kr kr h106 rfl kr ?_)
    intro v107 a hv hS
    cases hv
    obtain ⟨hq, hm⟩ := hm
    refine op1 (call hS kr kr hb56 kr (fun _ _ => rfl) (k56 _ _ (gi n_ i_104) hq) ?_)
    intro v108 a w109 χ110 hE hp hS
    clear hq
    replace hO := hO.mv hE rfl rfl
    replace h103 := h103.mv hE rfl
    replace h106 := h106.mv hE rfl
    clear hE
    obtain ⟨r111, hr⟩ : ∃ r, ref05_Digits (gi n_ i_104) = r := ⟨_, rfl⟩
    replace hm := hm r111 hr
    rw [hr] at hp
    clear hr
    subst hp
    obtain ⟨hq, hm⟩ := hm
    refine op1 (sadd (p := (w_102 ++ ([32] : List UInt8))) (q := r111) hS kr kr kr kr hq ?_)
    intro a hS
    clear hq
    refine endP T hS (sp := []) (ks := [0, 1, 5]) (bs := []) (sy' := ⟨[(0, V (.string (bs ((w_102 ++ ([32] : List UInt8)) ++ r111)))), (1, V (.slice a1 n_.length c1)), (5, I i_104)], []⟩) kr ?_
    intro a hS
    refine region (endP T hS (sp := []) (ks := [0, 1, 5]) (bs := []) (sy' := ⟨[(0, V (.string (bs ((w_102 ++ ([32] : List UInt8)) ++ r111)))), (1, V (.slice a1 n_.length c1)), (5, I (IntKind.i64.wrap (i_104 + 1)))], []⟩) kr ?_)
    intro a hS
    exact ⟨⟨((w_102 ++ ([32] : List UInt8)) ++ r111), IntKind.i64.wrap (i_104 + 1)⟩, ⟨ρ, _, hm.1, hS.sel [0, 1, 5] [] kr, hO, h103⟩, hm.2⟩
   ·replace hm := hm.2 hb
    refine wexit (by rfl) ?_
    exact ⟨ρ, _, w_102, hm, hS.sel [0] [] kr, hO⟩
 ·rintro a w115 ⟨ρ, χ114, w_101, hm, hS, hO⟩
  unfold VC31_J1 at hm
  refine regO ?_
  refine opsP T hS 1 (sp := []) (ks := [20]) (bs := []) (sy' := ⟨[(20, V (.string (bs w_101)))], []⟩) kr ?_
  intro a hS
  obtain ⟨hq, hm⟩ := hm
  refine op1 (sadd (p := w_101) (q := ([10] : List UInt8)) hS kr kr kr kr hq ?_)
  intro a hS
  clear hq
  refine endP T hS (sp := []) (ks := [4]) (bs := []) (sy' := ⟨[(4, V (.string (bs (w_101 ++ ([10] : List UInt8)))))], []⟩) kr ?_
  intro a hS
  refine wret ?_
  exact fin T hS hO (fun c => c) rfl (r := [.string (bs (w_101 ++ ([10] : List UInt8)))]) kr (fun χ' hM hC => ⟨(w_101 ++ ([10] : List UInt8)), hm, rfl⟩)
theorem C31 (k56 : S56) (v : ∀ (w_ : List UInt8) (n_ : List Int), preWB w_ n_ → VC31 w_ n_ (fun r => r = ref24_Words w_ n_)) : S31 := by
 intro w χ w_ n_ a1 c1   hp h1
 refine (W31 k56 w χ w_ n_ a1 c1   _ (v w_ n_ hp) h1).mono ?_
 rintro _ _ _ _ ⟨r, rfl, h⟩
 exact h
/-- replevin/replevinref24.Print -/
theorem W30 (k31 : S31) (k35 : S35) (w0 : World) (χ0 : Nat → Nat) (o_ : Api_Object) (a1 : Option Addr) (c1 : Nat) (Q : (List UInt8) × Int → Prop) (hm : VC30 o_ Q) (h1 : RS tApi_Row w0 χ0 a1 o_.Rows c1) :
  Ret Tryd.prog 30 #[.agg #[.int .i64 o_.States, .int .i64 o_.Kinds, .int .i64 o_.Init, .slice a1 o_.Rows.length c1]] xnone w0 χ0 (fun w χ' v => ∃ r, Q r ∧ v = .tuple #[.string (bs r.1), .int .i64 r.2]) := by
 unfold VC30 at hm
 replace hm := hm (h1.sm kr)
 refine enter Tryd.func30 rfl (vals := [.agg #[.int .i64 o_.States, .int .i64 o_.Kinds, .int .i64 o_.Init, .slice a1 o_.Rows.length c1]]) kr ?_
 intro ρ a hS hO hM
 replace h1 := h1.m0 hM
 clear hM
 refine regM T hS (sp := []) (ks := [1]) (bs := [2]) (sy' := ⟨[(1, Pt 2 0)], [(2, (25, [I o_.States, I o_.Kinds, I o_.Init, V (.slice a1 o_.Rows.length c1)]))]⟩) kr ?_
 intro ρ a w134 χ135 hS hE hr
 replace hO := hO.mv hE rfl rfl
 replace h1 := h1.mv hE rfl
 clear hE hr
 refine regO ?_
 refine opsP T hS 1 (sp := []) (ks := [1, 10]) (bs := [2]) (sy' := ⟨[(1, Pt 2 0), (10, V (.agg #[.int .i64 o_.States, .int .i64 o_.Kinds, .int .i64 o_.Init, .slice a1 o_.Rows.length c1]))], [(2, (25, [I o_.States, I o_.Kinds, I o_.Init, V (.slice a1 o_.Rows.length c1)]))]⟩) kr ?_
 intro a hS
 refine op1 (call hS kr kr hb35 kr (fun _ _ => rfl) (k35 _ _ o_ a1 c1 h1) ?_)
 intro v101 a w102 χ103 hE hp hS
 replace hO := hO.mv hE rfl rfl
 replace h1 := h1.mv hE rfl
 clear hE
 obtain ⟨r104, hr⟩ : ∃ r, ref23_Check o_ = r := ⟨_, rfl⟩
 replace hm := hm r104 hr
 rw [hr] at hp
 clear hr
 subst hp
 refine endP T hS (sp := []) (ks := [1, 5]) (bs := [2]) (sy' := ⟨[(1, Pt 2 0), (5, I r104.2)], [(2, (25, [I o_.States, I o_.Kinds, I o_.Init, V (.slice a1 o_.Rows.length c1)]))]⟩) kr ?_
 intro a hS
 refine wseq ?_
 refine regP T hS (sp := []) (ks := [1, 5, 15]) (bs := [2]) (sy' := ⟨[(1, Pt 2 0), (5, I r104.2), (15, B (r104.2 != 0))], [(2, (25, [I o_.States, I o_.Kinds, I o_.Init, V (.slice a1 o_.Rows.length c1)]))]⟩) kr ?_
 intro a hS
 refine wcond hS (b := (r104.2 != 0)) kr (fun hb => ?_) (fun hb => ?_)
 ·replace hm := hm.1 hb
  refine regP T hS (sp := []) (ks := [2, 3]) (bs := []) (sy' := ⟨[(2, V (.string (bs ([] : List UInt8)))), (3, I r104.2)], []⟩) kr ?_
  intro a hS
  refine wret ?_
  exact fin T hS hO (fun c => c) rfl (r := [.string (bs ([] : List UInt8)), .int .i64 r104.2]) kr (fun χ' hM hC => ⟨(([] : List UInt8), r104.2), hm, rfl⟩)
 ·replace hm := hm.2 hb
  refine wskip ?_
  refine regO ?_
  refine opsP T hS 9 (sp := []) (ks := [1, 18, 20, 22, 25]) (bs := [2]) (sy' := ⟨[(1, Pt 2 0), (18, I o_.States), (20, I o_.Kinds), (22, I o_.Init), (25, I ((o_.Rows.length : Nat) : Int))], [(2, (25, [I o_.States, I o_.Kinds, I o_.Init, V (.slice a1 o_.Rows.length c1)]))]⟩) kr ?_
  intro a hS
  refine op1 (lit (E := 3) (col := 0) (T := tI) (vals := [.int .i64 o_.States, .int .i64 o_.Kinds, .int .i64 o_.Init, .int .i64 ((o_.Rows.length : Nat) : Int)]) (ys := [o_.States, o_.Kinds, o_.Init, ((o_.Rows.length : Nat) : Int)]) T hS kr kr kr kr (by exact ⟨rfl, rfl, rfl, rfl, trivial⟩) rfl kr kr kr kr ?_)
  intro b105 a w106 χ107 hE h108 hN hS
  clear hN
  replace hO := hO.mv hE rfl rfl
  replace h1 := h1.mv hE rfl
  clear hE
  replace h108 := h108.rs0
  obtain ⟨hq, hm⟩ := hm
  refine op1 (call hS kr kr hb31 kr (fun _ _ => rfl) (k31 _ _ ([111, 98, 106, 101, 99, 116] : List UInt8) [o_.States, o_.Kinds, o_.Init, ((o_.Rows.length : Nat) : Int)] (some ⟨b105, 0, none⟩) 4 hq h108) ?_)
  intro v109 a w110 χ111 hE hp hS
  clear hq
  replace hO := hO.mv hE rfl rfl
  replace h1 := h1.mv hE rfl
  replace h108 := h108.mv hE rfl
  clear hE
  obtain ⟨r112, hr⟩ : ∃ r, ref24_Words ([111, 98, 106, 101, 99, 116] : List UInt8) [o_.States, o_.Kinds, o_.Init, ((o_.Rows.length : Nat) : Int)] = r := ⟨_, rfl⟩
  replace hm := hm r112 hr
  rw [hr] at hp
  clear hr
  subst hp
  refine endP T hS (sp := []) (ks := [1, 6]) (bs := [2]) (sy' := ⟨[(1, Pt 2 0), (6, V (.string (bs r112)))], [(2, (25, [I o_.States, I o_.Kinds, I o_.Init, V (.slice a1 o_.Rows.length c1)]))]⟩) kr ?_
  intro a hS
  refine wcut (fun a w => ∃ (ρ : Nat → Nat) (χ : Nat → Nat) (s_113 : List UInt8), VC30_J1 Q s_113 ∧ St Tryd.f30.ntmps ⟨[(6, V (.string (bs s_113)))], []⟩ ρ a w χ ∧ Old w0 χ0 w χ) ?_ ?_
  ·refine regP T hS (sp := []) (ks := [1, 6, 7]) (bs := [2]) (sy' := ⟨[(1, Pt 2 0), (6, V (.string (bs r112))), (7, I 0)], [(2, (25, [I o_.States, I o_.Kinds, I o_.Init, V (.slice a1 o_.Rows.length c1)]))]⟩) kr ?_
   intro a hS
   refine wblock ?_
   obtain ⟨I1, μ1, hm0, hm⟩ := hm
   refine wloop (σ := (List UInt8) × Int) (fun s a w => ∃ (ρ : Nat → Nat) (χ : Nat → Nat), I1 s.1 s.2 ∧ St Tryd.f30.ntmps ⟨[(1, Pt 2 0), (6, V (.string (bs s.1))), (7, I s.2)], [(2, (25, [I o_.States, I o_.Kinds, I o_.Init, V (.slice a1 o_.Rows.length c1)]))]⟩ ρ a w χ ∧ Old w0 χ0 w χ ∧ RS tApi_Row w χ a1 o_.Rows c1) (fun s => μ1 s.1 s.2) (⟨r112, 0⟩) ?_ ?_
   ·exact ⟨ρ, _, hm0, hS.sel [1, 6, 7] [2] kr, hO, h1⟩
   ·rintro ⟨s_114, i_115⟩ a w131 ⟨ρ, χ130, hI, hS, hO, h116⟩
    replace hm := hm s_114 i_115 hI
    clear hI hm0
    refine wseq ?_
    refine regP T hS (sp := []) (ks := [1, 6, 7, 32]) (bs := [2]) (sy' := ⟨[(1, Pt 2 0), (6, V (.string (bs s_114))), (7, I i_115), (32, B (decide (i_115 < ((o_.Rows.length : Nat) : Int))))], [(2, (25, [I o_.States, I o_.Kinds, I o_.Init, V (.slice a1 o_.Rows.length c1)]))]⟩) kr ?_
    intro a hS
    refine wcond hS (b := decide (i_115 < ((o_.Rows.length : Nat) : Int))) kr (fun hb => ?_) (fun hb => ?_)
    ·replace hm := hm.1 hb
     refine wskip ?_
     refine wseq ?_
     refine wblock ?_
     refine regO ?_
     refine opsP T hS 3 (sp := []) (ks := [1, 6, 7, 36, 37]) (bs := [2]) (sy' := ⟨[(1, Pt 2 0), (6, V (.string (bs s_114))), (7, I i_115), (36, V (.slice a1 o_.Rows.length c1)), (37, I i_115)], [(2, (25, [I o_.States, I o_.Kinds, I o_.Init, V (.slice a1 o_.Rows.length c1)]))]⟩) kr ?_
     intro a hS
     obtain ⟨hq, hm⟩ := hm
     refine op1 (index (e := 99) (k := .i64) T hS kr kr kr kr h116 kr kr hq.1 hq.2 ?_)
     intro A117 a h118 hS
     clear hq
     refine op1 (loadA T hS kr kr kr h118 kr kr ?_)
     intro v119 a hv hS
     subst hv
     refine endM T hS (sp := []) (ks := [1, 6, 7, 8]) (bs := [2, 9]) (sy' := ⟨[(1, Pt 2 0), (6, V (.string (bs s_114))), (7, I i_115), (8, Pt 9 0)], [(2, (25, [I o_.States, I o_.Kinds, I o_.Init, V (.slice a1 o_.Rows.length c1)])), (9, (99, [I ((gi o_.Rows i_115).State), I ((gi o_.Rows i_115).Kind), I ((gi o_.Rows i_115).Next), I ((gi o_.Rows i_115).Result)]))]⟩) kr ?_
     intro ρ a w128 χ129 hS hE hr
     replace hO := hO.mv hE rfl rfl
     replace h116 := h116.mv hE rfl
     clear hE hr
     refine region ?_
     refine opsP T hS 9 (sp := []) (ks := [1, 6, 7, 40, 42, 44, 46, 48]) (bs := [2]) (sy' := ⟨[(1, Pt 2 0), (6, V (.string (bs s_114))), (7, I i_115), (40, V (.string (bs s_114))), (42, I ((gi o_.Rows i_115).State)), (44, I ((gi o_.Rows i_115).Kind)), (46, I ((gi o_.Rows i_115).Next)), (48, I ((gi o_.Rows i_115).Result))], [(2, (25, [I o_.States, I o_.Kinds, I o_.Init, V (.slice a1 o_.Rows.length c1)]))]⟩) kr ?_
     intro a hS
     refine op1 (lit (E := 3) (col := 0) (T := tI) (vals := [.int .i64 ((gi o_.Rows i_115).State), .int .i64 ((gi o_.Rows i_115).Kind), .int .i64 ((gi o_.Rows i_115).Next), .int .i64 ((gi o_.Rows i_115).Result)]) (ys := [(gi o_.Rows i_115).State, (gi o_.Rows i_115).Kind, (gi o_.Rows i_115).Next, (gi o_.Rows i_115).Result]) T hS kr kr kr kr (by exact ⟨rfl, rfl, rfl, rfl, trivial⟩) rfl kr kr kr kr ?_)
     intro b120 a w121 χ122 hE h123 hN hS
     clear hN
     replace hO := hO.mv hE rfl rfl
     replace h116 := h116.mv hE rfl
     clear hE
     replace h123 := h123.rs0
     obtain ⟨hq, hm⟩ := hm
     refine op1 (call hS kr kr hb31 kr (fun _ _ => rfl) (k31 _ _ ([114, 111, 119] : List UInt8) [(gi o_.Rows i_115).State, (gi o_.Rows i_115).Kind, (gi o_.Rows i_115).Next, (gi o_.Rows i_115).Result] (some ⟨b120, 0, none⟩) 4 hq h123) ?_)
     intro v124 a w125 χ126 hE hp hS
     clear hq
     replace hO := hO.mv hE rfl rfl
     replace h116 := h116.mv hE rfl
     replace h123 := h123.mv hE rfl
     clear hE
     obtain ⟨r127, hr⟩ : ∃ r, ref24_Words ([114, 111, 119] : List UInt8) [(gi o_.Rows i_115).State, (gi o_.Rows i_115).Kind, (gi o_.Rows i_115).Next, (gi o_.Rows i_115).Result] = r := ⟨_, rfl⟩
     replace hm := hm r127 hr
     rw [hr] at hp
     clear hr
     subst hp
     obtain ⟨hq, hm⟩ := hm
     refine op1 (sadd (p := s_114) (q := r127) hS kr kr kr kr hq ?_)
     intro a hS
     clear hq
     refine endP T hS (sp := []) (ks := [1, 6, 7]) (bs := [2]) (sy' := ⟨[(1, Pt 2 0), (6, V (.string (bs (s_114 ++ r127)))), (7, I i_115)], [(2, (25, [I o_.States, I o_.Kinds, I o_.Init, V (.slice a1 o_.Rows.length c1)]))]⟩) kr ?_
     intro a hS
     refine region (endP T hS (sp := []) (ks := [1, 6, 7]) (bs := [2]) (sy' := ⟨[(1, Pt 2 0), (6, V (.string (bs (s_114 ++ r127)))), (7, I (IntKind.i64.wrap (i_115 + 1)))], [(2, (25, [I o_.States, I o_.Kinds, I o_.Init, V (.slice a1 o_.Rows.length c1)]))]⟩) kr ?_)
     intro a hS
     exact ⟨⟨(s_114 ++ r127), IntKind.i64.wrap (i_115 + 1)⟩, ⟨ρ, _, hm.1, hS.sel [1, 6, 7] [2] kr, hO, h116⟩, hm.2⟩
    ·replace hm := hm.2 hb
     refine wexit (by rfl) ?_
     exact ⟨ρ, _, s_114, hm, hS.sel [6] [] kr, hO⟩
  ·rintro a w133 ⟨ρ, χ132, s_113, hm, hS, hO⟩
   unfold VC30_J1 at hm
   refine regP T hS (sp := []) (ks := [2, 3]) (bs := []) (sy' := ⟨[(2, V (.string (bs s_113))), (3, I 0)], []⟩) kr ?_
   intro a hS
   refine wret ?_
   exact fin T hS hO (fun c => c) rfl (r := [.string (bs s_113), .int .i64 0]) kr (fun χ' hM hC => ⟨(s_113, 0), hm, rfl⟩)
theorem C30 (k31 : S31) (k35 : S35) (v : ∀ (o_ : Api_Object), prePr o_ → VC30 o_ (fun r => r = ref24_Print o_)) : S30 := by
 intro w χ o_ a1 c1   hp h1
 refine (W30 k31 k35 w χ o_ a1 c1   _ (v o_ hp) h1).mono ?_
 rintro _ _ _ _ ⟨r, rfl, h⟩
 exact h
/-- replevin/replevinref25.open -/
theorem W60 (k68 : S68) (w0 : World) (χ0 : Nat → Nat) (l_ : List Api_Event) (process : Int) (a1 : Option Addr) (c1 : Nat) (Q : Bool → Prop) (hm : VC60 l_ process Q) (h1 : RS tApi_Event w0 χ0 a1 l_ c1) :
  Ret Tryd.prog 60 #[.slice a1 l_.length c1, .int .i64 process] xnone w0 χ0 (fun w χ' v => ∃ r, Q r ∧ v = .bool r) := by
 unfold VC60 at hm
 replace hm := hm (h1.sm kr)
 refine enter Tryd.func60 rfl (vals := [.slice a1 l_.length c1, .int .i64 process]) kr ?_
 intro ρ a hS hO hM
 replace h1 := h1.m0 hM
 clear hM
 refine regP T hS (sp := []) (ks := [0, 1]) (bs := []) (sy' := ⟨[(0, V (.slice a1 l_.length c1)), (1, I process)], []⟩) kr ?_
 intro a hS
 refine regO ?_
 refine opsP T hS 2 (sp := []) (ks := [0, 6, 7]) (bs := []) (sy' := ⟨[(0, V (.slice a1 l_.length c1)), (6, V (.slice a1 l_.length c1)), (7, I process)], []⟩) kr ?_
 intro a hS
 refine op1 (call hS kr kr hb68 kr (fun _ _ => rfl) (k68 _ _ l_ process a1 c1 h1) ?_)
 intro v101 a w102 χ103 hE hp hS
 replace hO := hO.mv hE rfl rfl
 replace h1 := h1.mv hE rfl
 clear hE
 obtain ⟨r104, hr⟩ : ∃ r, ref25_last l_ process = r := ⟨_, rfl⟩
 replace hm := hm r104 hr
 rw [hr] at hp
 clear hr
 subst hp
 refine endP T hS (sp := []) (ks := [0, 5]) (bs := []) (sy' := ⟨[(0, V (.slice a1 l_.length c1)), (5, I r104)], []⟩) kr ?_
 intro a hS
 refine regO ?_
 refine opsP T hS 3 (sp := []) (ks := [0, 5, 11]) (bs := []) (sy' := ⟨[(0, V (.slice a1 l_.length c1)), (5, I r104), (11, B (decide (r104 ≥ 0)))], []⟩) kr ?_
 intro a hS
 rcases Bool.eq_false_or_eq_true (decide (r104 ≥ 0)) with hb | hb
 ·replace hS := hS.lit (t := 11) kr hb
  replace hm := hm.1 hb
  refine opsP T hS 2 (sp := []) (ks := [11, 12, 13]) (bs := []) (sy' := ⟨[(11, B true), (12, V (.slice a1 l_.length c1)), (13, I r104)], []⟩) kr ?_
  intro a hS
  obtain ⟨hq, hm⟩ := hm
  refine op1 (index (e := 51) (k := .i64) T hS kr kr kr kr h1 kr kr hq.1 hq.2 ?_)
  intro A105 a h106 hS
  clear hq
  refine op1 (fieldA (off := 0) (fsz := 1) (ft := 3) (TF := tI) (y := (gi l_ r104).What) T hS kr kr kr h106 kr kr kr (fun cs h => Api_Event_f0 h) ?_)
  intro A107 a h108 hS
  refine op1 (load1 T hS kr kr kr h108 rfl kr ?_)
  intro v109 a hv hS
  cases hv
  refine endP T hS (sp := []) (ks := [4]) (bs := []) (sy' := ⟨[(4, B (((gi l_ r104).What) == 1))], []⟩) kr ?_
  intro a hS
  refine wret ?_
  exact fin T hS hO (fun c => c) rfl (r := [.bool (((gi l_ r104).What) == 1)]) kr (fun χ' hM hC => ⟨(((gi l_ r104).What) == 1), hm, rfl⟩)
 ·replace hS := hS.lit (t := 11) kr hb
  replace hm := hm.2 hb
  refine endP T hS (sp := []) (ks := [4]) (bs := []) (sy' := ⟨[(4, B false)], []⟩) kr ?_
  intro a hS
  refine wret ?_
  exact fin T hS hO (fun c => c) rfl (r := [.bool false]) kr (fun χ' hM hC => ⟨false, hm, rfl⟩)
theorem C60 (k68 : S68) (v : ∀ (l_ : List Api_Event) (process : Int), VC60 l_ process (fun r => r = ref25_open l_ process)) : S60 := by
 intro w χ l_ process a1 c1   h1
 refine (W60 k68 w χ l_ process a1 c1   _ (v l_ process) h1).mono ?_
 rintro _ _ _ _ ⟨r, rfl, h⟩
 exact h
/-- replevin/replevinref25.Check -/
theorem W36 (k60 : S60) (w0 : World) (χ0 : Nat → Nat) (l_ : List Api_Event) (a1 : Option Addr) (c1 : Nat) (Q : Int × Int → Prop) (hm : VC36 l_ Q) (h1 : RS tApi_Event w0 χ0 a1 l_ c1) :
  Ret Tryd.prog 36 #[.slice a1 l_.length c1] xnone w0 χ0 (fun w χ' v => ∃ r, Q r ∧ v = .tuple #[.int .i64 r.1, .int .i64 r.2]) := by
 unfold VC36 at hm
 replace hm := hm (h1.sm kr)
 refine enter Tryd.func36 rfl (vals := [.slice a1 l_.length c1]) kr ?_
 intro ρ a hS hO hM
 replace h1 := h1.m0 hM
 clear hM
 refine regP T hS (sp := []) (ks := [0]) (bs := []) (sy' := ⟨[(0, V (.slice a1 l_.length c1))], []⟩) kr ?_
 intro a hS
 refine wseq ?_
 refine regP T hS (sp := []) (ks := [0, 8]) (bs := []) (sy' := ⟨[(0, V (.slice a1 l_.length c1)), (8, B (decide (((l_.length : Nat) : Int) > 10000)))], []⟩) kr ?_
 intro a hS
 refine wcond hS (b := decide (((l_.length : Nat) : Int) > 10000)) kr (fun hb => ?_) (fun hb => ?_)
 ·replace hm := hm.1 hb
  refine regP T hS (sp := []) (ks := [2, 3]) (bs := []) (sy' := ⟨[(2, I 0), (3, I 3)], []⟩) kr ?_
  intro a hS
  refine wret ?_
  exact fin T hS hO (fun c => c) rfl (r := [.int .i64 0, .int .i64 3]) kr (fun χ' hM hC => ⟨(0, 3), hm, rfl⟩)
 ·replace hm := hm.2 hb
  refine wskip ?_
  refine wcut (fun a w => ∃ (ρ : Nat → Nat) (χ : Nat → Nat), VC36_J1 l_ Q ∧ St Tryd.f36.ntmps ⟨[(0, V (.slice a1 l_.length c1))], []⟩ ρ a w χ ∧ Old w0 χ0 w χ ∧ RS tApi_Event w χ a1 l_ c1) ?_ ?_
  ·refine regP T hS (sp := []) (ks := [0, 4]) (bs := []) (sy' := ⟨[(0, V (.slice a1 l_.length c1)), (4, I 0)], []⟩) kr ?_
   intro a hS
   refine wblock ?_
   obtain ⟨I1, μ1, hm0, hm⟩ := hm
   refine wloop (σ := Int) (fun s a w => ∃ (ρ : Nat → Nat) (χ : Nat → Nat), I1 s ∧ St Tryd.f36.ntmps ⟨[(0, V (.slice a1 l_.length c1)), (4, I s)], []⟩ ρ a w χ ∧ Old w0 χ0 w χ ∧ RS tApi_Event w χ a1 l_ c1) (fun s => μ1 s) (0) ?_ ?_
   ·exact ⟨ρ, _, hm0, hS.sel [0, 4] [] kr, hO, h1⟩
   ·rintro i_103 a w137 ⟨ρ, χ136, hI, hS, hO, h102⟩
    replace hm := hm i_103 hI
    clear hI hm0
    refine wseq ?_
    refine regP T hS (sp := []) (ks := [0, 4, 12]) (bs := []) (sy' := ⟨[(0, V (.slice a1 l_.length c1)), (4, I i_103), (12, B (decide (i_103 < ((l_.length : Nat) : Int))))], []⟩) kr ?_
    intro a hS
    refine wcond hS (b := decide (i_103 < ((l_.length : Nat) : Int))) kr (fun hb => ?_) (fun hb => ?_)
    ·replace hm := hm.1 hb
     refine wskip ?_
     refine wseq ?_
     refine wblock ?_
     refine regO ?_
     refine opsP T hS 2 (sp := []) (ks := [0, 4, 15, 16]) (bs := []) (sy' := ⟨[(0, V (.slice a1 l_.length c1)), (4, I i_103), (15, V (.slice a1 l_.length c1)), (16, I i_103)], []⟩) kr ?_
     intro a hS
     obtain ⟨hq, hm⟩ := hm
     refine op1 (index (e := 51) (k := .i64) T hS kr kr kr kr h102 kr kr hq.1 hq.2 ?_)
     intro A104 a h105 hS
     clear hq
     refine op1 (loadA T hS kr kr kr h105 kr kr ?_)
     intro v106 a hv hS
     subst hv
     refine endM T hS (sp := []) (ks := [0, 4, 5]) (bs := [6]) (sy' := ⟨[(0, V (.slice a1 l_.length c1)), (4, I i_103), (5, Pt 6 0)], [(6, (51, [I ((gi l_ i_103).What), I ((gi l_ i_103).Prc), I ((gi l_ i_103).N)]))]⟩) kr ?_
     intro ρ a w134 χ135 hS hE hr
     replace hO := hO.mv hE rfl rfl
     replace h102 := h102.mv hE rfl
     clear hE hr
     refine wseq ?_
     refine regP T hS (sp := [22]) (ks := [0, 4, 5, 26]) (bs := [6]) (sy' := ⟨[(0, V (.slice a1 l_.length c1)), (4, I i_103), (5, Pt 6 0), (26, B ((((gi l_ i_103).What) != 1) && (((gi l_ i_103).What) != 2)))], [(6, (51, [I ((gi l_ i_103).What), I ((gi l_ i_103).Prc), I ((gi l_ i_103).N)]))]⟩) kr ?_
     intro a hS
     refine wcond hS (b := ((((gi l_ i_103).What) != 1) && (((gi l_ i_103).What) != 2))) kr (fun hb => ?_) (fun hb => ?_)
     ·replace hm := hm.1 hb
      refine regP T hS (sp := []) (ks := [2, 3]) (bs := []) (sy' := ⟨[(2, I i_103), (3, I 8)], []⟩) kr ?_
      intro a hS
      refine wret ?_
      exact fin T hS hO (fun c => c) rfl (r := [.int .i64 i_103, .int .i64 8]) kr (fun χ' hM hC => ⟨(i_103, 8), hm, rfl⟩)
     ·replace hm := hm.2 hb
      refine wskip ?_
      refine wseq ?_
      refine regP T hS (sp := [31]) (ks := [0, 4, 5, 35]) (bs := [6]) (sy' := ⟨[(0, V (.slice a1 l_.length c1)), (4, I i_103), (5, Pt 6 0), (35, B ((decide (((gi l_ i_103).Prc) < 1)) || (decide (((gi l_ i_103).Prc) > 1000))))], [(6, (51, [I ((gi l_ i_103).What), I ((gi l_ i_103).Prc), I ((gi l_ i_103).N)]))]⟩) kr ?_
      intro a hS
      refine wcond hS (b := ((decide (((gi l_ i_103).Prc) < 1)) || (decide (((gi l_ i_103).Prc) > 1000)))) kr (fun hb => ?_) (fun hb => ?_)
      ·replace hm := hm.1 hb
       refine regP T hS (sp := []) (ks := [2, 3]) (bs := []) (sy' := ⟨[(2, I i_103), (3, I 2)], []⟩) kr ?_
       intro a hS
       refine wret ?_
       exact fin T hS hO (fun c => c) rfl (r := [.int .i64 i_103, .int .i64 2]) kr (fun χ' hM hC => ⟨(i_103, 2), hm, rfl⟩)
      ·replace hm := hm.2 hb
       refine wskip ?_
       refine wseq ?_
       refine regP T hS (sp := [40, 44]) (ks := [0, 4, 5, 49]) (bs := [6]) (sy' := ⟨[(0, V (.slice a1 l_.length c1)), (4, I i_103), (5, Pt 6 0), (49, B ((((gi l_ i_103).What) == 1) && ((decide (((gi l_ i_103).N) < 0)) || (decide (((gi l_ i_103).N) > 63)))))], [(6, (51, [I ((gi l_ i_103).What), I ((gi l_ i_103).Prc), I ((gi l_ i_103).N)]))]⟩) kr ?_
       intro a hS
       refine wcond hS (b := ((((gi l_ i_103).What) == 1) && ((decide (((gi l_ i_103).N) < 0)) || (decide (((gi l_ i_103).N) > 63))))) kr (fun hb => ?_) (fun hb => ?_)
       ·replace hm := hm.1 hb
        refine regP T hS (sp := []) (ks := [2, 3]) (bs := []) (sy' := ⟨[(2, I i_103), (3, I 31)], []⟩) kr ?_
        intro a hS
        refine wret ?_
        exact fin T hS hO (fun c => c) rfl (r := [.int .i64 i_103, .int .i64 31]) kr (fun χ' hM hC => ⟨(i_103, 31), hm, rfl⟩)
       ·replace hm := hm.2 hb
        refine wskip ?_
        refine wseq ?_
        refine regP T hS (sp := [54, 58]) (ks := [0, 4, 5, 63]) (bs := [6]) (sy' := ⟨[(0, V (.slice a1 l_.length c1)), (4, I i_103), (5, Pt 6 0), (63, B ((((gi l_ i_103).What) == 2) && ((decide (((gi l_ i_103).N) < 0)) || (decide (((gi l_ i_103).N) > 1000000)))))], [(6, (51, [I ((gi l_ i_103).What), I ((gi l_ i_103).Prc), I ((gi l_ i_103).N)]))]⟩) kr ?_
        intro a hS
        refine wcond hS (b := ((((gi l_ i_103).What) == 2) && ((decide (((gi l_ i_103).N) < 0)) || (decide (((gi l_ i_103).N) > 1000000))))) kr (fun hb => ?_) (fun hb => ?_)
        ·replace hm := hm.1 hb
         refine regP T hS (sp := []) (ks := [2, 3]) (bs := []) (sy' := ⟨[(2, I i_103), (3, I 7)], []⟩) kr ?_
         intro a hS
         refine wret ?_
         exact fin T hS hO (fun c => c) rfl (r := [.int .i64 i_103, .int .i64 7]) kr (fun χ' hM hC => ⟨(i_103, 7), hm, rfl⟩)
        ·replace hm := hm.2 hb
         refine wskip ?_
         refine wcut (fun a w => ∃ (ρ : Nat → Nat) (χ : Nat → Nat) (x_108 : Bool), VC36_J2 Q I1 μ1 i_103 x_108 ∧ St Tryd.f36.ntmps ⟨[(0, V (.slice a1 l_.length c1)), (4, I i_103), (89, B x_108)], [(6, (51, [I ((gi l_ i_103).What), I ((gi l_ i_103).Prc), I ((gi l_ i_103).N)]))]⟩ ρ a w χ ∧ Old w0 χ0 w χ ∧ RS tApi_Event w χ a1 l_ c1) ?_ ?_
         ·refine drawnX [6] mixed hS ?_
          intro w109 χ110 hS hE hD hH
          replace hO := hO.mv hE rfl rfl
          replace h102 := h102.mv hE rfl
          clear hE
          refine take T [0, 1, 2, 3] [6] [0, 4, 5, 68] hS kr kr kr hH (listed' := #[true, true, true, true, false, false, false, false, false, false, false, false, false, false, false, false, false, false, false, false, false, false, false, false, false]) (fuel := 21) (sy' := ⟨[(0, V (.slice a1 l_.length c1)), (4, I i_103), (5, Pt 6 0), (68, B (((gi l_ i_103).What) == 1))], [(6, (51, [I ((gi l_ i_103).What), I ((gi l_ i_103).Prc), I ((gi l_ i_103).N)]))]⟩) kr (by rfl) ?_
          intro a hS
          rcases Bool.eq_false_or_eq_true (((gi l_ i_103).What) == 1) with hb | hb
          ·replace hS := hS.lit (t := 68) kr hb
           replace hm := hm.1 hb
           refine take T [4, 5, 7, 8] [6] [0, 4, 5, 68, 69, 70, 72, 73] hS kr kr kr hH (listed' := #[true, true, true, true, true, true, false, true, true, false, false, false, false, false, false, false, false, false, false, false, false, false, false, false, false]) (fuel := 17) (sy' := ⟨[(0, V (.slice a1 l_.length c1)), (4, I i_103), (5, Pt 6 0), (68, B true), (69, V (.slice a1 l_.length c1)), (70, I i_103), (72, Pt 6 1), (73, I ((gi l_ i_103).Prc))], [(6, (51, [I ((gi l_ i_103).What), I ((gi l_ i_103).Prc), I ((gi l_ i_103).N)]))]⟩) kr (by rfl) ?_
           intro a hS
           obtain ⟨hq, hm⟩ := hm
           refine dslice0 (E := 51) (kh := .i64) T 6 hS kr kr kr (by rfl) kr hH kr kr h102 kr kr hq.1 hq.2 ?_
           intro a111 c112 a h113 hS
           clear hq
           refine only 9 kr (by rfl) (call hS kr kr hb60 kr (fun _ _ => rfl) (k60 _ _ (l_.take i_103.toNat) ((gi l_ i_103).Prc) a111 c112 h113) ?_)
           intro v114 a w115 χ116 hE hp hS
           replace hO := hO.mv hE rfl rfl
           replace hD := hD.ev hE rfl
           replace h102 := h102.mv hE rfl
           replace h113 := h113.mv hE rfl
           clear hE
           obtain ⟨r117, hr⟩ : ∃ r, ref25_open (l_.take i_103.toNat) ((gi l_ i_103).Prc) = r := ⟨_, rfl⟩
           replace hm := hm r117 hr
           rw [hr] at hp
           clear hr
           subst hp
           replace hS := hS.sel [0, 4, 5, 68, 69, 70, 72, 73, 71, 74] [6] (sy' := ⟨[(0, V (.slice a1 l_.length c1)), (4, I i_103), (5, Pt 6 0), (68, B true), (69, V (.slice a1 l_.length c1)), (70, I i_103), (72, Pt 6 1), (73, I ((gi l_ i_103).Prc)), (71, V (.slice a111 (l_.take i_103.toNat).length c112)), (74, B r117)], [(6, (51, [I ((gi l_ i_103).What), I ((gi l_ i_103).Prc), I ((gi l_ i_103).N)]))]⟩) kr
           refine andH (Hold.of hS (bks := [6]) kr hD) ?_
           intro hH
           refine take T [10, 11] [6] [0, 4, 5, 69, 70, 71, 72, 73, 74, 76] hS kr kr kr hH (listed' := #[true, true, true, true, true, true, true, true, true, true, true, true, false, false, false, false, false, false, false, false, false, false, false, false, false]) (fuel := 13) (sy' := ⟨[(0, V (.slice a1 l_.length c1)), (4, I i_103), (5, Pt 6 0), (69, V (.slice a1 l_.length c1)), (70, I i_103), (71, V (.slice a111 (l_.take i_103.toNat).length c112)), (72, Pt 6 1), (73, I ((gi l_ i_103).Prc)), (74, B r117), (76, B r117)], [(6, (51, [I ((gi l_ i_103).What), I ((gi l_ i_103).Prc), I ((gi l_ i_103).N)]))]⟩) kr (by rfl) ?_
           intro a hS
           rcases Bool.eq_false_or_eq_true r117 with hb | hb
           ·replace hS := hS.lit (t := 76) kr hb
            replace hm := hm.1 hb
            refine take T [12, 13, 14, 15, 16, 17, 19, 18, 20, 21, 22, 23, 24] [6] [0, 4, 69, 70, 71, 72, 73, 74, 77, 78, 79, 80, 81, 82, 83, 84, 85, 86, 87, 88, 89] hS kr kr kr hH (listed' := #[true, true, true, true, true, true, true, true, true, true, true, true, true, true, true, true, true, true, true, true, true, true, true, true, true]) (fuel := 0) (sy' := ⟨[(0, V (.slice a1 l_.length c1)), (4, I i_103), (69, V (.slice a1 l_.length c1)), (70, I i_103), (71, V (.slice a111 (l_.take i_103.toNat).length c112)), (72, Pt 6 1), (73, I ((gi l_ i_103).Prc)), (74, B r117), (77, V undef), (78, V undef), (79, V undef), (80, V undef), (81, V undef), (82, V undef), (83, V undef), (84, V undef), (85, V undef), (86, V undef), (87, V undef), (88, V undef), (89, B true)], [(6, (51, [I ((gi l_ i_103).What), I ((gi l_ i_103).Prc), I ((gi l_ i_103).N)]))]⟩) kr (by rfl) ?_
            intro a hS
            refine drawnDone kr ?_
            clear hD hH
            replace hS := hS.sel [0, 4, 69, 70, 71, 72, 73, 74, 89] [6] (sy' := ⟨[(0, V (.slice a1 l_.length c1)), (4, I i_103), (69, V (.slice a1 l_.length c1)), (70, I i_103), (71, V (.slice a111 (l_.take i_103.toNat).length c112)), (72, Pt 6 1), (73, I ((gi l_ i_103).Prc)), (74, B r117), (89, B true)], [(6, (51, [I ((gi l_ i_103).What), I ((gi l_ i_103).Prc), I ((gi l_ i_103).N)]))]⟩) kr
            exact ⟨ρ, _, true, hm, hS.sel [0, 4, 89] [6] kr, hO, h102⟩
           ·replace hS := hS.lit (t := 76) kr hb
            replace hm := hm.2 hb
            refine take T [12, 13, 14, 15] [6] [0, 4, 5, 69, 70, 71, 72, 73, 74, 76, 77, 78, 79, 80] hS kr kr kr hH (listed' := #[true, true, true, true, true, true, true, true, true, true, true, true, true, true, true, true, false, false, false, false, false, false, false, false, false]) (fuel := 9) (sy' := ⟨[(0, V (.slice a1 l_.length c1)), (4, I i_103), (5, Pt 6 0), (69, V (.slice a1 l_.length c1)), (70, I i_103), (71, V (.slice a111 (l_.take i_103.toNat).length c112)), (72, Pt 6 1), (73, I ((gi l_ i_103).Prc)), (74, B r117), (76, B false), (77, Pt 6 0), (78, I ((gi l_ i_103).What)), (79, B (((gi l_ i_103).What) == 2)), (80, B (((gi l_ i_103).What) == 2))], [(6, (51, [I ((gi l_ i_103).What), I ((gi l_ i_103).Prc), I ((gi l_ i_103).N)]))]⟩) kr (by rfl) ?_
            intro a hS
            rcases Bool.eq_false_or_eq_true (((gi l_ i_103).What) == 2) with hb | hb
            ·replace hS := hS.lit (t := 80) kr hb
             replace hm := hm.1 hb
             refine take T [16, 17, 19, 20] [6] [0, 4, 69, 70, 71, 72, 73, 74, 76, 77, 78, 79, 80, 81, 82, 84, 85] hS kr kr kr hH (listed' := #[true, true, true, true, true, true, true, true, true, true, true, true, true, true, true, true, true, true, false, true, true, false, false, false, false]) (fuel := 5) (sy' := ⟨[(0, V (.slice a1 l_.length c1)), (4, I i_103), (69, V (.slice a1 l_.length c1)), (70, I i_103), (71, V (.slice a111 (l_.take i_103.toNat).length c112)), (72, Pt 6 1), (73, I ((gi l_ i_103).Prc)), (74, B r117), (76, B false), (77, Pt 6 0), (78, I ((gi l_ i_103).What)), (79, B (((gi l_ i_103).What) == 2)), (80, B true), (81, V (.slice a1 l_.length c1)), (82, I i_103), (84, Pt 6 1), (85, I ((gi l_ i_103).Prc))], [(6, (51, [I ((gi l_ i_103).What), I ((gi l_ i_103).Prc), I ((gi l_ i_103).N)]))]⟩) kr (by rfl) ?_
             intro a hS
             obtain ⟨hq, hm⟩ := hm
             refine dslice0 (E := 51) (kh := .i64) T 18 hS kr kr kr (by rfl) kr hH kr kr h102 kr kr hq.1 hq.2 ?_
             intro a118 c119 a h120 hS
             clear hq
             refine only 21 kr (by rfl) (call hS kr kr hb60 kr (fun _ _ => rfl) (k60 _ _ (l_.take i_103.toNat) ((gi l_ i_103).Prc) a118 c119 h120) ?_)
             intro v121 a w122 χ123 hE hp hS
             replace hO := hO.mv hE rfl rfl
             replace hD := hD.ev hE rfl
             replace h102 := h102.mv hE rfl
             replace h113 := h113.mv hE rfl
             replace h120 := h120.mv hE rfl
             clear hE
             obtain ⟨r124, hr⟩ : ∃ r, ref25_open (l_.take i_103.toNat) ((gi l_ i_103).Prc) = r := ⟨_, rfl⟩
             replace hm := hm r124 hr
             rw [hr] at hp
             clear hr
             subst hp
             replace hS := hS.sel [0, 4, 69, 70, 71, 72, 73, 74, 76, 77, 78, 79, 80, 81, 82, 84, 85, 83, 86] [6] (sy' := ⟨[(0, V (.slice a1 l_.length c1)), (4, I i_103), (69, V (.slice a1 l_.length c1)), (70, I i_103), (71, V (.slice a111 (l_.take i_103.toNat).length c112)), (72, Pt 6 1), (73, I ((gi l_ i_103).Prc)), (74, B r117), (76, B false), (77, Pt 6 0), (78, I ((gi l_ i_103).What)), (79, B (((gi l_ i_103).What) == 2)), (80, B true), (81, V (.slice a1 l_.length c1)), (82, I i_103), (84, Pt 6 1), (85, I ((gi l_ i_103).Prc)), (83, V (.slice a118 (l_.take i_103.toNat).length c119)), (86, B r124)], [(6, (51, [I ((gi l_ i_103).What), I ((gi l_ i_103).Prc), I ((gi l_ i_103).N)]))]⟩) kr
             refine andH (Hold.of hS (bks := [6]) kr hD) ?_
             intro hH
             refine take T [22, 23, 24] [6] [0, 4, 69, 70, 71, 72, 73, 74, 77, 78, 79, 80, 81, 82, 83, 84, 85, 86, 87, 88, 89] hS kr kr kr hH (listed' := #[true, true, true, true, true, true, true, true, true, true, true, true, true, true, true, true, true, true, true, true, true, true, true, true, true]) (fuel := 0) (sy' := ⟨[(0, V (.slice a1 l_.length c1)), (4, I i_103), (69, V (.slice a1 l_.length c1)), (70, I i_103), (71, V (.slice a111 (l_.take i_103.toNat).length c112)), (72, Pt 6 1), (73, I ((gi l_ i_103).Prc)), (74, B r117), (77, Pt 6 0), (78, I ((gi l_ i_103).What)), (79, B (((gi l_ i_103).What) == 2)), (80, B true), (81, V (.slice a1 l_.length c1)), (82, I i_103), (83, V (.slice a118 (l_.take i_103.toNat).length c119)), (84, Pt 6 1), (85, I ((gi l_ i_103).Prc)), (86, B r124), (87, B (!r124)), (88, B (!r124)), (89, B (!r124))], [(6, (51, [I ((gi l_ i_103).What), I ((gi l_ i_103).Prc), I ((gi l_ i_103).N)]))]⟩) kr (by rfl) ?_
             intro a hS
             refine drawnDone kr ?_
             clear hD hH
             replace hS := hS.sel [0, 4, 69, 70, 71, 72, 73, 74, 77, 78, 79, 80, 81, 82, 83, 84, 85, 86, 87, 88, 89] [6] (sy' := ⟨[(0, V (.slice a1 l_.length c1)), (4, I i_103), (69, V (.slice a1 l_.length c1)), (70, I i_103), (71, V (.slice a111 (l_.take i_103.toNat).length c112)), (72, Pt 6 1), (73, I ((gi l_ i_103).Prc)), (74, B r117), (77, Pt 6 0), (78, I ((gi l_ i_103).What)), (79, B (((gi l_ i_103).What) == 2)), (80, B true), (81, V (.slice a1 l_.length c1)), (82, I i_103), (83, V (.slice a118 (l_.take i_103.toNat).length c119)), (84, Pt 6 1), (85, I ((gi l_ i_103).Prc)), (86, B r124), (87, B (!r124)), (88, B (!r124)), (89, B (!r124))], [(6, (51, [I ((gi l_ i_103).What), I ((gi l_ i_103).Prc), I ((gi l_ i_103).N)]))]⟩) kr
             exact ⟨ρ, _, (!r124), hm, hS.sel [0, 4, 89] [6] kr, hO, h102⟩
            ·replace hS := hS.lit (t := 80) kr hb
             replace hm := hm.2 hb
             refine take T [16, 17, 19, 18, 20, 21, 22, 23, 24] [6] [0, 4, 69, 70, 71, 72, 73, 74, 77, 78, 79, 80, 81, 82, 83, 84, 85, 86, 87, 88, 89] hS kr kr kr hH (listed' := #[true, true, true, true, true, true, true, true, true, true, true, true, true, true, true, true, true, true, true, true, true, true, true, true, true]) (fuel := 0) (sy' := ⟨[(0, V (.slice a1 l_.length c1)), (4, I i_103), (69, V (.slice a1 l_.length c1)), (70, I i_103), (71, V (.slice a111 (l_.take i_103.toNat).length c112)), (72, Pt 6 1), (73, I ((gi l_ i_103).Prc)), (74, B r117), (77, Pt 6 0), (78, I ((gi l_ i_103).What)), (79, B (((gi l_ i_103).What) == 2)), (80, B false), (81, V undef), (82, V undef), (83, V undef), (84, V undef), (85, V undef), (86, V undef), (87, V undef), (88, B false), (89, B false)], [(6, (51, [I ((gi l_ i_103).What), I ((gi l_ i_103).Prc), I ((gi l_ i_103).N)]))]⟩) kr (by rfl) ?_
             intro a hS
             refine drawnDone kr ?_
             clear hD hH
             replace hS := hS.sel [0, 4, 69, 70, 71, 72, 73, 74, 77, 78, 79, 80, 88, 89] [6] (sy' := ⟨[(0, V (.slice a1 l_.length c1)), (4, I i_103), (69, V (.slice a1 l_.length c1)), (70, I i_103), (71, V (.slice a111 (l_.take i_103.toNat).length c112)), (72, Pt 6 1), (73, I ((gi l_ i_103).Prc)), (74, B r117), (77, Pt 6 0), (78, I ((gi l_ i_103).What)), (79, B (((gi l_ i_103).What) == 2)), (80, B false), (88, B false), (89, B false)], [(6, (51, [I ((gi l_ i_103).What), I ((gi l_ i_103).Prc), I ((gi l_ i_103).N)]))]⟩) kr
             exact ⟨ρ, _, false, hm, hS.sel [0, 4, 89] [6] kr, hO, h102⟩
          ·replace hS := hS.lit (t := 68) kr hb
           replace hm := hm.2 hb
           refine take T [4, 5, 7, 6, 8, 9, 10, 11, 12, 13, 14, 15] [6] [0, 4, 5, 69, 70, 71, 72, 73, 74, 76, 77, 78, 79, 80] hS kr kr kr hH (listed' := #[true, true, true, true, true, true, true, true, true, true, true, true, true, true, true, true, false, false, false, false, false, false, false, false, false]) (fuel := 9) (sy' := ⟨[(0, V (.slice a1 l_.length c1)), (4, I i_103), (5, Pt 6 0), (69, V undef), (70, V undef), (71, V undef), (72, V undef), (73, V undef), (74, V undef), (76, B false), (77, Pt 6 0), (78, I ((gi l_ i_103).What)), (79, B (((gi l_ i_103).What) == 2)), (80, B (((gi l_ i_103).What) == 2))], [(6, (51, [I ((gi l_ i_103).What), I ((gi l_ i_103).Prc), I ((gi l_ i_103).N)]))]⟩) kr (by rfl) ?_
           intro a hS
           rcases Bool.eq_false_or_eq_true (((gi l_ i_103).What) == 2) with hb | hb
           ·replace hS := hS.lit (t := 80) kr hb
            replace hm := hm.1 hb
            refine take T [16, 17, 19, 20] [6] [0, 4, 69, 70, 71, 72, 73, 74, 76, 77, 78, 79, 80, 81, 82, 84, 85] hS kr kr kr hH (listed' := #[true, true, true, true, true, true, true, true, true, true, true, true, true, true, true, true, true, true, false, true, true, false, false, false, false]) (fuel := 5) (sy' := ⟨[(0, V (.slice a1 l_.length c1)), (4, I i_103), (69, V undef), (70, V undef), (71, V undef), (72, V undef), (73, V undef), (74, V undef), (76, B false), (77, Pt 6 0), (78, I ((gi l_ i_103).What)), (79, B (((gi l_ i_103).What) == 2)), (80, B true), (81, V (.slice a1 l_.length c1)), (82, I i_103), (84, Pt 6 1), (85, I ((gi l_ i_103).Prc))], [(6, (51, [I ((gi l_ i_103).What), I ((gi l_ i_103).Prc), I ((gi l_ i_103).N)]))]⟩) kr (by rfl) ?_
            intro a hS
            obtain ⟨hq, hm⟩ := hm
            refine dslice0 (E := 51) (kh := .i64) T 18 hS kr kr kr (by rfl) kr hH kr kr h102 kr kr hq.1 hq.2 ?_
            intro a125 c126 a h127 hS
            clear hq
            refine only 21 kr (by rfl) (call hS kr kr hb60 kr (fun _ _ => rfl) (k60 _ _ (l_.take i_103.toNat) ((gi l_ i_103).Prc) a125 c126 h127) ?_)
            intro v128 a w129 χ130 hE hp hS
            replace hO := hO.mv hE rfl rfl
            replace hD := hD.ev hE rfl
            replace h102 := h102.mv hE rfl
            replace h127 := h127.mv hE rfl
            clear hE
            obtain ⟨r131, hr⟩ : ∃ r, ref25_open (l_.take i_103.toNat) ((gi l_ i_103).Prc) = r := ⟨_, rfl⟩
            replace hm := hm r131 hr
            rw [hr] at hp
            clear hr
            subst hp
            replace hS := hS.sel [0, 4, 69, 70, 71, 72, 73, 74, 76, 77, 78, 79, 80, 81, 82, 84, 85, 83, 86] [6] (sy' := ⟨[(0, V (.slice a1 l_.length c1)), (4, I i_103), (69, V undef), (70, V undef), (71, V undef), (72, V undef), (73, V undef), (74, V undef), (76, B false), (77, Pt 6 0), (78, I ((gi l_ i_103).What)), (79, B (((gi l_ i_103).What) == 2)), (80, B true), (81, V (.slice a1 l_.length c1)), (82, I i_103), (84, Pt 6 1), (85, I ((gi l_ i_103).Prc)), (83, V (.slice a125 (l_.take i_103.toNat).length c126)), (86, B r131)], [(6, (51, [I ((gi l_ i_103).What), I ((gi l_ i_103).Prc), I ((gi l_ i_103).N)]))]⟩) kr
            refine andH (Hold.of hS (bks := [6]) kr hD) ?_
            intro hH
            refine take T [22, 23, 24] [6] [0, 4, 69, 70, 71, 72, 73, 74, 77, 78, 79, 80, 81, 82, 83, 84, 85, 86, 87, 88, 89] hS kr kr kr hH (listed' := #[true, true, true, true, true, true, true, true, true, true, true, true, true, true, true, true, true, true, true, true, true, true, true, true, true]) (fuel := 0) (sy' := ⟨[(0, V (.slice a1 l_.length c1)), (4, I i_103), (69, V undef), (70, V undef), (71, V undef), (72, V undef), (73, V undef), (74, V undef), (77, Pt 6 0), (78, I ((gi l_ i_103).What)), (79, B (((gi l_ i_103).What) == 2)), (80, B true), (81, V (.slice a1 l_.length c1)), (82, I i_103), (83, V (.slice a125 (l_.take i_103.toNat).length c126)), (84, Pt 6 1), (85, I ((gi l_ i_103).Prc)), (86, B r131), (87, B (!r131)), (88, B (!r131)), (89, B (!r131))], [(6, (51, [I ((gi l_ i_103).What), I ((gi l_ i_103).Prc), I ((gi l_ i_103).N)]))]⟩) kr (by rfl) ?_
            intro a hS
            refine drawnDone kr ?_
            clear hD hH
            replace hS := hS.sel [0, 4, 77, 78, 79, 80, 81, 82, 83, 84, 85, 86, 87, 88, 89] [6] (sy' := ⟨[(0, V (.slice a1 l_.length c1)), (4, I i_103), (77, Pt 6 0), (78, I ((gi l_ i_103).What)), (79, B (((gi l_ i_103).What) == 2)), (80, B true), (81, V (.slice a1 l_.length c1)), (82, I i_103), (83, V (.slice a125 (l_.take i_103.toNat).length c126)), (84, Pt 6 1), (85, I ((gi l_ i_103).Prc)), (86, B r131), (87, B (!r131)), (88, B (!r131)), (89, B (!r131))], [(6, (51, [I ((gi l_ i_103).What), I ((gi l_ i_103).Prc), I ((gi l_ i_103).N)]))]⟩) kr
            exact ⟨ρ, _, (!r131), hm, hS.sel [0, 4, 89] [6] kr, hO, h102⟩
           ·replace hS := hS.lit (t := 80) kr hb
            replace hm := hm.2 hb
            refine take T [16, 17, 19, 18, 20, 21, 22, 23, 24] [6] [0, 4, 69, 70, 71, 72, 73, 74, 77, 78, 79, 80, 81, 82, 83, 84, 85, 86, 87, 88, 89] hS kr kr kr hH (listed' := #[true, true, true, true, true, true, true, true, true, true, true, true, true, true, true, true, true, true, true, true, true, true, true, true, true]) (fuel := 0) (sy' := ⟨[(0, V (.slice a1 l_.length c1)), (4, I i_103), (69, V undef), (70, V undef), (71, V undef), (72, V undef), (73, V undef), (74, V undef), (77, Pt 6 0), (78, I ((gi l_ i_103).What)), (79, B (((gi l_ i_103).What) == 2)), (80, B false), (81, V undef), (82, V undef), (83, V undef), (84, V undef), (85, V undef), (86, V undef), (87, V undef), (88, B false), (89, B false)], [(6, (51, [I ((gi l_ i_103).What), I ((gi l_ i_103).Prc), I ((gi l_ i_103).N)]))]⟩) kr (by rfl) ?_
            intro a hS
            refine drawnDone kr ?_
            clear hD hH
            replace hS := hS.sel [0, 4, 77, 78, 79, 80, 88, 89] [6] (sy' := ⟨[(0, V (.slice a1 l_.length c1)), (4, I i_103), (77, Pt 6 0), (78, I ((gi l_ i_103).What)), (79, B (((gi l_ i_103).What) == 2)), (80, B false), (88, B false), (89, B false)], [(6, (51, [I ((gi l_ i_103).What), I ((gi l_ i_103).Prc), I ((gi l_ i_103).N)]))]⟩) kr
            exact ⟨ρ, _, false, hm, hS.sel [0, 4, 89] [6] kr, hO, h102⟩
         ·rintro a w133 ⟨ρ, χ132, x_108, hm, hS, hO, h107⟩
          unfold VC36_J2 at hm
          refine wcond hS (b := x_108) kr (fun hb => ?_) (fun hb => ?_)
          ·replace hm := hm.1 hb
           refine regP T hS (sp := []) (ks := [2, 3]) (bs := []) (sy' := ⟨[(2, I i_103), (3, I 33)], []⟩) kr ?_
           intro a hS
           refine wret ?_
           exact fin T hS hO (fun c => c) rfl (r := [.int .i64 i_103, .int .i64 33]) kr (fun χ' hM hC => ⟨(i_103, 33), hm, rfl⟩)
          ·replace hm := hm.2 hb
           refine wskip ?_
           refine region (endP T hS (sp := []) (ks := [0, 4]) (bs := []) (sy' := ⟨[(0, V (.slice a1 l_.length c1)), (4, I (IntKind.i64.wrap (i_103 + 1)))], []⟩) kr ?_)
           intro a hS
           exact ⟨IntKind.i64.wrap (i_103 + 1), ⟨ρ, _, hm.1, hS.sel [0, 4] [] kr, hO, h107⟩, hm.2⟩
    ·replace hm := hm.2 hb
     refine wexit (by rfl) ?_
     exact ⟨ρ, _, hm, hS.sel [0] [] kr, hO, h102⟩
  ·rintro a w139 ⟨ρ, χ138, hm, hS, hO, h101⟩
   unfold VC36_J1 at hm
   refine regP T hS (sp := []) (ks := [2, 3]) (bs := []) (sy' := ⟨[(2, I ((l_.length : Nat) : Int)), (3, I 0)], []⟩) kr ?_
   intro a hS
   refine wret ?_
   exact fin T hS hO (fun c => c) rfl (r := [.int .i64 ((l_.length : Nat) : Int), .int .i64 0]) kr (fun χ' hM hC => ⟨(((l_.length : Nat) : Int), 0), hm, rfl⟩)
theorem C36 (k60 : S60) (v : ∀ (l_ : List Api_Event), VC36 l_ (fun r => r = ref25_Check l_)) : S36 := by
 intro w χ l_ a1 c1   h1
 refine (W36 k60 w χ l_ a1 c1   _ (v l_) h1).mono ?_
 rintro _ _ _ _ ⟨r, rfl, h⟩
 exact h
/-- replevin/replevinref25.Kinds -/
theorem W37 (w0 : World) (χ0 : Nat → Nat) (l_ : List Api_Event) (a1 : Option Addr) (c1 : Nat) (Q : Int → Prop) (hm : VC37 l_ Q) (h1 : RS tApi_Event w0 χ0 a1 l_ c1) :
  Ret Tryd.prog 37 #[.slice a1 l_.length c1] xnone w0 χ0 (fun w χ' v => ∃ r, Q r ∧ v = .int .i64 r) := by
 unfold VC37 at hm
 replace hm := hm (h1.sm kr)
 refine enter Tryd.func37 rfl (vals := [.slice a1 l_.length c1]) kr ?_
 intro ρ a hS hO hM
 replace h1 := h1.m0 hM
 clear hM
 refine regP T hS (sp := []) (ks := [0]) (bs := []) (sy' := ⟨[(0, V (.slice a1 l_.length c1))], []⟩) kr ?_
 intro a hS
 refine regP T hS (sp := []) (ks := [0, 3]) (bs := []) (sy' := ⟨[(0, V (.slice a1 l_.length c1)), (3, I 0)], []⟩) kr ?_
 intro a hS
 refine wcut (fun a w => ∃ (ρ : Nat → Nat) (χ : Nat → Nat) (n_101 : Int), VC37_J1 Q n_101 ∧ St Tryd.f37.ntmps ⟨[(3, I n_101)], []⟩ ρ a w χ ∧ Old w0 χ0 w χ) ?_ ?_
 ·refine regP T hS (sp := []) (ks := [0, 3, 4]) (bs := []) (sy' := ⟨[(0, V (.slice a1 l_.length c1)), (3, I 0), (4, I 0)], []⟩) kr ?_
  intro a hS
  refine wblock ?_
  obtain ⟨I1, μ1, hm0, hm⟩ := hm
  refine wloop (σ := Int × Int) (fun s a w => ∃ (ρ : Nat → Nat) (χ : Nat → Nat), I1 s.1 s.2 ∧ St Tryd.f37.ntmps ⟨[(0, V (.slice a1 l_.length c1)), (3, I s.1), (4, I s.2)], []⟩ ρ a w χ ∧ Old w0 χ0 w χ ∧ RS tApi_Event w χ a1 l_ c1) (fun s => μ1 s.1 s.2) (⟨0, 0⟩) ?_ ?_
  ·exact ⟨ρ, _, hm0, hS.sel [0, 3, 4] [] kr, hO, h1⟩
  ·rintro ⟨n_103, i_104⟩ a w143 ⟨ρ, χ142, hI, hS, hO, h102⟩
   replace hm := hm n_103 i_104 hI
   clear hI hm0
   refine wseq ?_
   refine regP T hS (sp := []) (ks := [0, 3, 4, 8]) (bs := []) (sy' := ⟨[(0, V (.slice a1 l_.length c1)), (3, I n_103), (4, I i_104), (8, B (decide (i_104 < ((l_.length : Nat) : Int))))], []⟩) kr ?_
   intro a hS
   refine wcond hS (b := decide (i_104 < ((l_.length : Nat) : Int))) kr (fun hb => ?_) (fun hb => ?_)
   ·replace hm := hm.1 hb
    refine wskip ?_
    refine wcut (fun a w => ∃ (ρ : Nat → Nat) (χ : Nat → Nat) (n_106 : Int), VC37_J2 I1 μ1 n_103 i_104 n_106 ∧ St Tryd.f37.ntmps ⟨[(0, V (.slice a1 l_.length c1)), (3, I n_106), (4, I i_104)], []⟩ ρ a w χ ∧ Old w0 χ0 w χ ∧ RS tApi_Event w χ a1 l_ c1) ?_ ?_
    ·refine wblock ?_
     refine wcut (fun a w => ∃ (ρ : Nat → Nat) (χ : Nat → Nat) (x_108 : Bool), VC37_J3 l_ I1 μ1 n_103 i_104 x_108 ∧ St Tryd.f37.ntmps ⟨[(0, V (.slice a1 l_.length c1)), (3, I n_103), (4, I i_104), (24, B x_108)], []⟩ ρ a w χ ∧ Old w0 χ0 w χ ∧ RS tApi_Event w χ a1 l_ c1) ?_ ?_
     ·refine region ?_
      refine opsP T hS 2 (sp := []) (ks := [0, 3, 4, 11, 12]) (bs := []) (sy' := ⟨[(0, V (.slice a1 l_.length c1)), (3, I n_103), (4, I i_104), (11, V (.slice a1 l_.length c1)), (12, I i_104)], []⟩) kr ?_
      intro a hS
      obtain ⟨hq, hm⟩ := hm
      refine op1 (index (e := 51) (k := .i64) T hS kr kr kr kr h102 kr kr hq.1 hq.2 ?_)
      intro A128 a h129 hS
      clear hq
      refine op1 (fieldA (off := 0) (fsz := 1) (ft := 3) (TF := tI) (y := (gi l_ i_104).What) T hS kr kr kr h129 kr kr kr (fun cs h => Api_Event_f0 h) ?_)
      intro A130 a h131 hS
      refine op1 (load1 T hS kr kr kr h131 rfl kr ?_)
      intro v132 a hv hS
      cases hv
      refine opsP T hS 2 (sp := []) (ks := [0, 3, 4, 17]) (bs := []) (sy' := ⟨[(0, V (.slice a1 l_.length c1)), (3, I n_103), (4, I i_104), (17, B (((gi l_ i_104).What) == 1))], []⟩) kr ?_
      intro a hS
      rcases Bool.eq_false_or_eq_true (((gi l_ i_104).What) == 1) with hb | hb
      ·replace hS := hS.lit (t := 17) kr hb
       replace hm := hm.1 hb
       refine opsP T hS 2 (sp := []) (ks := [0, 3, 4, 17, 18, 19]) (bs := []) (sy' := ⟨[(0, V (.slice a1 l_.length c1)), (3, I n_103), (4, I i_104), (17, B true), (18, V (.slice a1 l_.length c1)), (19, I i_104)], []⟩) kr ?_
       intro a hS
       obtain ⟨hq, hm⟩ := hm
       refine op1 (index (e := 51) (k := .i64) T hS kr kr kr kr h102 kr kr hq.1 hq.2 ?_)
       intro A133 a h134 hS
       clear hq
       refine op1 (fieldA (off := 2) (fsz := 1) (ft := 3) (TF := tI) (y := (gi l_ i_104).N) T hS kr kr kr h134 kr kr kr (fun cs h => Api_Event_f2 h) ?_)
       intro A135 a h136 hS
       refine op1 (load1 T hS kr kr kr h136 rfl kr ?_)
       intro v137 a hv hS
       cases hv
       refine endP T hS (sp := []) (ks := [0, 3, 4, 18, 19, 20, 21, 22, 23, 24]) (bs := []) (sy' := ⟨[(0, V (.slice a1 l_.length c1)), (3, I n_103), (4, I i_104), (18, V (.slice a1 l_.length c1)), (19, I i_104), (20, V (.pointer (some A133))), (21, V (.pointer (some A135))), (22, I ((gi l_ i_104).N)), (23, B (decide (((gi l_ i_104).N) > 63))), (24, B (decide (((gi l_ i_104).N) > 63)))], []⟩) kr ?_
       intro a hS
       exact ⟨ρ, _, decide (((gi l_ i_104).N) > 63), hm, hS.sel [0, 3, 4, 24] [] kr, hO, h102⟩
      ·replace hS := hS.lit (t := 17) kr hb
       replace hm := hm.2 hb
       refine endP T hS (sp := []) (ks := [0, 3, 4, 24]) (bs := []) (sy' := ⟨[(0, V (.slice a1 l_.length c1)), (3, I n_103), (4, I i_104), (24, B false)], []⟩) kr ?_
       intro a hS
       exact ⟨ρ, _, false, hm, hS.sel [0, 3, 4, 24] [] kr, hO, h102⟩
     ·rintro a w139 ⟨ρ, χ138, x_108, hm, hS, hO, h107⟩
      unfold VC37_J3 at hm
      refine wcond hS (b := x_108) kr (fun hb => ?_) (fun hb => ?_)
      ·replace hm := hm.1 hb
       refine region (endP T hS (sp := []) (ks := [0, 3, 4]) (bs := []) (sy' := ⟨[(0, V (.slice a1 l_.length c1)), (3, I 64), (4, I i_104)], []⟩) kr ?_)
       intro a hS
       exact ⟨ρ, _, 64, hm, hS.sel [0, 3, 4] [] kr, hO, h107⟩
      ·replace hm := hm.2 hb
       refine wcut (fun a w => ∃ (ρ : Nat → Nat) (χ : Nat → Nat) (x_110 : Bool), VC37_J4 l_ I1 μ1 n_103 i_104 x_110 ∧ St Tryd.f37.ntmps ⟨[(0, V (.slice a1 l_.length c1)), (3, I n_103), (4, I i_104), (39, B x_110)], []⟩ ρ a w χ ∧ Old w0 χ0 w χ ∧ RS tApi_Event w χ a1 l_ c1) ?_ ?_
       ·refine region ?_
        refine opsP T hS 2 (sp := []) (ks := [0, 3, 4, 25, 26]) (bs := []) (sy' := ⟨[(0, V (.slice a1 l_.length c1)), (3, I n_103), (4, I i_104), (25, V (.slice a1 l_.length c1)), (26, I i_104)], []⟩) kr ?_
        intro a hS
        obtain ⟨hq, hm⟩ := hm
        refine op1 (index (e := 51) (k := .i64) T hS kr kr kr kr h107 kr kr hq.1 hq.2 ?_)
        intro A116 a h117 hS
        clear hq
        refine op1 (fieldA (off := 0) (fsz := 1) (ft := 3) (TF := tI) (y := (gi l_ i_104).What) T hS kr kr kr h117 kr kr kr (fun cs h => Api_Event_f0 h) ?_)
        intro A118 a h119 hS
        refine op1 (load1 T hS kr kr kr h119 rfl kr ?_)
        intro v120 a hv hS
        cases hv
        refine opsP T hS 2 (sp := []) (ks := [0, 3, 4, 31]) (bs := []) (sy' := ⟨[(0, V (.slice a1 l_.length c1)), (3, I n_103), (4, I i_104), (31, B (((gi l_ i_104).What) == 1))], []⟩) kr ?_
        intro a hS
        rcases Bool.eq_false_or_eq_true (((gi l_ i_104).What) == 1) with hb | hb
        ·replace hS := hS.lit (t := 31) kr hb
         replace hm := hm.1 hb
         refine opsP T hS 2 (sp := []) (ks := [0, 3, 4, 31, 32, 33]) (bs := []) (sy' := ⟨[(0, V (.slice a1 l_.length c1)), (3, I n_103), (4, I i_104), (31, B true), (32, V (.slice a1 l_.length c1)), (33, I i_104)], []⟩) kr ?_
         intro a hS
         obtain ⟨hq, hm⟩ := hm
         refine op1 (index (e := 51) (k := .i64) T hS kr kr kr kr h107 kr kr hq.1 hq.2 ?_)
         intro A121 a h122 hS
         clear hq
         refine op1 (fieldA (off := 2) (fsz := 1) (ft := 3) (TF := tI) (y := (gi l_ i_104).N) T hS kr kr kr h122 kr kr kr (fun cs h => Api_Event_f2 h) ?_)
         intro A123 a h124 hS
         refine op1 (load1 T hS kr kr kr h124 rfl kr ?_)
         intro v125 a hv hS
         cases hv
         refine endP T hS (sp := []) (ks := [0, 3, 4, 32, 33, 34, 35, 36, 37, 38, 39]) (bs := []) (sy' := ⟨[(0, V (.slice a1 l_.length c1)), (3, I n_103), (4, I i_104), (32, V (.slice a1 l_.length c1)), (33, I i_104), (34, V (.pointer (some A121))), (35, V (.pointer (some A123))), (36, I ((gi l_ i_104).N)), (37, I n_103), (38, B (decide (((gi l_ i_104).N) ≥ n_103))), (39, B (decide (((gi l_ i_104).N) ≥ n_103)))], []⟩) kr ?_
         intro a hS
         exact ⟨ρ, _, decide (((gi l_ i_104).N) ≥ n_103), hm, hS.sel [0, 3, 4, 39] [] kr, hO, h107⟩
        ·replace hS := hS.lit (t := 31) kr hb
         replace hm := hm.2 hb
         refine endP T hS (sp := []) (ks := [0, 3, 4, 39]) (bs := []) (sy' := ⟨[(0, V (.slice a1 l_.length c1)), (3, I n_103), (4, I i_104), (39, B false)], []⟩) kr ?_
         intro a hS
         exact ⟨ρ, _, false, hm, hS.sel [0, 3, 4, 39] [] kr, hO, h107⟩
       ·rintro a w127 ⟨ρ, χ126, x_110, hm, hS, hO, h109⟩
        unfold VC37_J4 at hm
        refine wcond hS (b := x_110) kr (fun hb => ?_) (fun hb => ?_)
        ·replace hm := hm.1 hb
         refine region ?_
         refine opsP T hS 2 (sp := []) (ks := [0, 3, 4, 40, 41]) (bs := []) (sy' := ⟨[(0, V (.slice a1 l_.length c1)), (3, I n_103), (4, I i_104), (40, V (.slice a1 l_.length c1)), (41, I i_104)], []⟩) kr ?_
         intro a hS
         obtain ⟨hq, hm⟩ := hm
         refine op1 (index (e := 51) (k := .i64) T hS kr kr kr kr h109 kr kr hq.1 hq.2 ?_)
         intro A111 a h112 hS
         clear hq
         refine op1 (fieldA (off := 2) (fsz := 1) (ft := 3) (TF := tI) (y := (gi l_ i_104).N) T hS kr kr kr h112 kr kr kr (fun cs h => Api_Event_f2 h) ?_)
         intro A113 a h114 hS
         refine op1 (load1 T hS kr kr kr h114 rfl kr ?_)
         intro v115 a hv hS
         cases hv
         refine endP T hS (sp := []) (ks := [0, 3, 4]) (bs := []) (sy' := ⟨[(0, V (.slice a1 l_.length c1)), (3, I (IntKind.i64.wrap (((gi l_ i_104).N) + 1))), (4, I i_104)], []⟩) kr ?_
         intro a hS
         exact ⟨ρ, _, IntKind.i64.wrap (((gi l_ i_104).N) + 1), hm, hS.sel [0, 3, 4] [] kr, hO, h109⟩
        ·replace hm := hm.2 hb
         refine wskip ?_
         exact ⟨ρ, _, n_103, hm, hS.sel [0, 3, 4] [] kr, hO, h109⟩
    ·rintro a w141 ⟨ρ, χ140, n_106, hm, hS, hO, h105⟩
     unfold VC37_J2 at hm
     refine region (endP T hS (sp := []) (ks := [0, 3, 4]) (bs := []) (sy' := ⟨[(0, V (.slice a1 l_.length c1)), (3, I n_106), (4, I (IntKind.i64.wrap (i_104 + 1)))], []⟩) kr ?_)
     intro a hS
     exact ⟨⟨n_106, IntKind.i64.wrap (i_104 + 1)⟩, ⟨ρ, _, hm.1, hS.sel [0, 3, 4] [] kr, hO, h105⟩, hm.2⟩
   ·replace hm := hm.2 hb
    refine wexit (by rfl) ?_
    exact ⟨ρ, _, n_103, hm, hS.sel [3] [] kr, hO⟩
 ·rintro a w145 ⟨ρ, χ144, n_101, hm, hS, hO⟩
  unfold VC37_J1 at hm
  refine regP T hS (sp := []) (ks := [2]) (bs := []) (sy' := ⟨[(2, I n_101)], []⟩) kr ?_
  intro a hS
  refine wret ?_
  exact fin T hS hO (fun c => c) rfl (r := [.int .i64 n_101]) kr (fun χ' hM hC => ⟨n_101, hm, rfl⟩)
theorem C37 (v : ∀ (l_ : List Api_Event), VC37 l_ (fun r => r = ref25_Kinds l_)) : S37 := by
 intro w χ l_ a1 c1   h1
 refine (W37 w χ l_ a1 c1   _ (v l_) h1).mono ?_
 rintro _ _ _ _ ⟨r, rfl, h⟩
 exact h
/-- replevin/replevinref26.Check -/
theorem W15 (k35 : S35) (k36 : S36) (k37 : S37) (w0 : World) (χ0 : Nat → Nat) (o_ : Api_Object) (l_ : List Api_Event) (a1 : Option Addr) (c1 : Nat) (a2 : Option Addr) (c2 : Nat) (Q : Int → Prop) (hm : VC15 o_ l_ Q) (h1 : RS tApi_Row w0 χ0 a1 o_.Rows c1) (h2 : RS tApi_Event w0 χ0 a2 l_ c2) :
  Ret Tryd.prog 15 #[.agg #[.int .i64 o_.States, .int .i64 o_.Kinds, .int .i64 o_.Init, .slice a1 o_.Rows.length c1], .slice a2 l_.length c2] xnone w0 χ0 (fun w χ' v => ∃ r, Q r ∧ v = .int .i64 r) := by
 unfold VC15 at hm
 replace hm := hm (h1.sm kr)
 replace hm := hm (h2.sm kr)
 refine enter Tryd.func15 rfl (vals := [.agg #[.int .i64 o_.States, .int .i64 o_.Kinds, .int .i64 o_.Init, .slice a1 o_.Rows.length c1], .slice a2 l_.length c2]) kr ?_
 intro ρ a hS hO hM
 replace h1 := h1.m0 hM
 replace h2 := h2.m0 hM
 clear hM
 refine regM T hS (sp := []) (ks := [1, 2]) (bs := [3]) (sy' := ⟨[(1, V (.slice a2 l_.length c2)), (2, Pt 3 0)], [(3, (25, [I o_.States, I o_.Kinds, I o_.Init, V (.slice a1 o_.Rows.length c1)]))]⟩) kr ?_
 intro ρ a w118 χ119 hS hE hr
 replace hO := hO.mv hE rfl rfl
 replace h1 := h1.mv hE rfl
 replace h2 := h2.mv hE rfl
 clear hE hr
 refine regO ?_
 refine opsP T hS 1 (sp := []) (ks := [1, 2, 8]) (bs := [3]) (sy' := ⟨[(1, V (.slice a2 l_.length c2)), (2, Pt 3 0), (8, V (.agg #[.int .i64 o_.States, .int .i64 o_.Kinds, .int .i64 o_.Init, .slice a1 o_.Rows.length c1]))], [(3, (25, [I o_.States, I o_.Kinds, I o_.Init, V (.slice a1 o_.Rows.length c1)]))]⟩) kr ?_
 intro a hS
 refine op1 (call hS kr kr hb35 kr (fun _ _ => rfl) (k35 _ _ o_ a1 c1 h1) ?_)
 intro v101 a w102 χ103 hE hp hS
 replace hO := hO.mv hE rfl rfl
 replace h1 := h1.mv hE rfl
 replace h2 := h2.mv hE rfl
 clear hE
 obtain ⟨r104, hr⟩ : ∃ r, ref23_Check o_ = r := ⟨_, rfl⟩
 replace hm := hm r104 hr
 rw [hr] at hp
 clear hr
 subst hp
 refine endP T hS (sp := []) (ks := [1, 2, 6]) (bs := [3]) (sy' := ⟨[(1, V (.slice a2 l_.length c2)), (2, Pt 3 0), (6, I r104.2)], [(3, (25, [I o_.States, I o_.Kinds, I o_.Init, V (.slice a1 o_.Rows.length c1)]))]⟩) kr ?_
 intro a hS
 refine wseq ?_
 refine regP T hS (sp := []) (ks := [1, 2, 6, 13]) (bs := [3]) (sy' := ⟨[(1, V (.slice a2 l_.length c2)), (2, Pt 3 0), (6, I r104.2), (13, B (r104.2 != 0))], [(3, (25, [I o_.States, I o_.Kinds, I o_.Init, V (.slice a1 o_.Rows.length c1)]))]⟩) kr ?_
 intro a hS
 refine wcond hS (b := (r104.2 != 0)) kr (fun hb => ?_) (fun hb => ?_)
 ·replace hm := hm.1 hb
  refine regP T hS (sp := []) (ks := [4]) (bs := []) (sy' := ⟨[(4, I r104.2)], []⟩) kr ?_
  intro a hS
  refine wret ?_
  exact fin T hS hO (fun c => c) rfl (r := [.int .i64 r104.2]) kr (fun χ' hM hC => ⟨r104.2, hm, rfl⟩)
 ·replace hm := hm.2 hb
  refine wskip ?_
  refine regO ?_
  refine opsP T hS 1 (sp := []) (ks := [1, 2, 6, 16]) (bs := [3]) (sy' := ⟨[(1, V (.slice a2 l_.length c2)), (2, Pt 3 0), (6, I r104.2), (16, V (.slice a2 l_.length c2))], [(3, (25, [I o_.States, I o_.Kinds, I o_.Init, V (.slice a1 o_.Rows.length c1)]))]⟩) kr ?_
  intro a hS
  refine op1 (call hS kr kr hb36 kr (fun _ _ => rfl) (k36 _ _ l_ a2 c2 h2) ?_)
  intro v105 a w106 χ107 hE hp hS
  replace hO := hO.mv hE rfl rfl
  replace h1 := h1.mv hE rfl
  replace h2 := h2.mv hE rfl
  clear hE
  obtain ⟨r108, hr⟩ : ∃ r, ref25_Check l_ = r := ⟨_, rfl⟩
  replace hm := hm r108 hr
  rw [hr] at hp
  clear hr
  subst hp
  refine endP T hS (sp := []) (ks := [1, 2, 6]) (bs := [3]) (sy' := ⟨[(1, V (.slice a2 l_.length c2)), (2, Pt 3 0), (6, I r108.2)], [(3, (25, [I o_.States, I o_.Kinds, I o_.Init, V (.slice a1 o_.Rows.length c1)]))]⟩) kr ?_
  intro a hS
  refine wseq ?_
  refine wcut (fun a w => ∃ (ρ : Nat → Nat) (χ : Nat → Nat) (x_109 : Bool), VC15_J1 Q r108 x_109 ∧ St Tryd.f15.ntmps ⟨[(6, I r108.2), (28, B x_109)], []⟩ ρ a w χ ∧ Old w0 χ0 w χ) ?_ ?_
  ·refine drawnX [3] mixed hS ?_
   intro w110 χ111 hS hE hD hH
   replace hO := hO.mv hE rfl rfl
   replace h1 := h1.mv hE rfl
   replace h2 := h2.mv hE rfl
   clear hE
   refine take T [0, 1, 2] [3] [1, 2, 6, 22] hS kr kr kr hH (listed' := #[true, true, true, false, false, false, false, false, false]) (fuel := 6) (sy' := ⟨[(1, V (.slice a2 l_.length c2)), (2, Pt 3 0), (6, I r108.2), (22, B (r108.2 == 0))], [(3, (25, [I o_.States, I o_.Kinds, I o_.Init, V (.slice a1 o_.Rows.length c1)]))]⟩) kr (by rfl) ?_
   intro a hS
   rcases Bool.eq_false_or_eq_true (r108.2 == 0) with hb | hb
   ·replace hS := hS.lit (t := 22) kr hb
    replace hm := hm.1 hb
    refine take T [3, 5, 6] [3] [6, 22, 23, 26] hS kr kr kr hH (listed' := #[true, true, true, true, false, true, true, false, false]) (fuel := 3) (sy' := ⟨[(6, I r108.2), (22, B true), (23, V (.slice a2 l_.length c2)), (26, I o_.Kinds)], [(3, (25, [I o_.States, I o_.Kinds, I o_.Init, V (.slice a1 o_.Rows.length c1)]))]⟩) kr (by rfl) ?_
    intro a hS
    refine only 4 kr (by rfl) (call hS kr kr hb37 kr (fun _ _ => rfl) (k37 _ _ l_ a2 c2 h2) ?_)
    intro v112 a w113 χ114 hE hp hS
    replace hO := hO.mv hE rfl rfl
    replace hD := hD.ev hE rfl
    replace h1 := h1.mv hE rfl
    replace h2 := h2.mv hE rfl
    clear hE
    obtain ⟨r115, hr⟩ : ∃ r, ref25_Kinds l_ = r := ⟨_, rfl⟩
    replace hm := hm r115 hr
    rw [hr] at hp
    clear hr
    subst hp
    replace hS := hS.sel [6, 22, 23, 26, 24] [3] (sy' := ⟨[(6, I r108.2), (22, B true), (23, V (.slice a2 l_.length c2)), (26, I o_.Kinds), (24, I r115)], [(3, (25, [I o_.States, I o_.Kinds, I o_.Init, V (.slice a1 o_.Rows.length c1)]))]⟩) kr
    refine andH (Hold.of hS (bks := [3]) kr hD) ?_
    intro hH
    refine take T [7, 8] [3] [6, 28] hS kr kr kr hH (listed' := #[true, true, true, true, true, true, true, true, true]) (fuel := 0) (sy' := ⟨[(6, I r108.2), (28, B (decide (r115 > o_.Kinds)))], [(3, (25, [I o_.States, I o_.Kinds, I o_.Init, V (.slice a1 o_.Rows.length c1)]))]⟩) kr (by rfl) ?_
    intro a hS
    refine drawnDone kr ?_
    clear hD hH
    replace hS := hS.sel [6, 28] [] (sy' := ⟨[(6, I r108.2), (28, B (decide (r115 > o_.Kinds)))], []⟩) kr
    exact ⟨ρ, _, decide (r115 > o_.Kinds), hm, hS.sel [6, 28] [] kr, hO⟩
   ·replace hS := hS.lit (t := 22) kr hb
    replace hm := hm.2 hb
    refine take T [3, 5, 4, 6, 7, 8] [3] [6, 28] hS kr kr kr hH (listed' := #[true, true, true, true, true, true, true, true, true]) (fuel := 0) (sy' := ⟨[(6, I r108.2), (28, B false)], [(3, (25, [I o_.States, I o_.Kinds, I o_.Init, V (.slice a1 o_.Rows.length c1)]))]⟩) kr (by rfl) ?_
    intro a hS
    refine drawnDone kr ?_
    clear hD hH
    replace hS := hS.sel [6, 28] [] (sy' := ⟨[(6, I r108.2), (28, B false)], []⟩) kr
    exact ⟨ρ, _, false, hm, hS.sel [6, 28] [] kr, hO⟩
  ·rintro a w117 ⟨ρ, χ116, x_109, hm, hS, hO⟩
   unfold VC15_J1 at hm
   refine wcond hS (b := x_109) kr (fun hb => ?_) (fun hb => ?_)
   ·replace hm := hm.1 hb
    refine regP T hS (sp := []) (ks := [4]) (bs := []) (sy' := ⟨[(4, I 31)], []⟩) kr ?_
    intro a hS
    refine wret ?_
    exact fin T hS hO (fun c => c) rfl (r := [.int .i64 31]) kr (fun χ' hM hC => ⟨31, hm, rfl⟩)
   ·replace hm := hm.2 hb
    refine wskip ?_
    refine regP T hS (sp := []) (ks := [4]) (bs := []) (sy' := ⟨[(4, I r108.2)], []⟩) kr ?_
    intro a hS
    refine wret ?_
    exact fin T hS hO (fun c => c) rfl (r := [.int .i64 r108.2]) kr (fun χ' hM hC => ⟨r108.2, hm, rfl⟩)
theorem C15 (k35 : S35) (k36 : S36) (k37 : S37) (v : ∀ (o_ : Api_Object) (l_ : List Api_Event), VC15 o_ l_ (fun r => r = ref26_Check o_ l_)) : S15 := by
 intro w χ o_ l_ a1 c1 a2 c2   h1 h2
 refine (W15 k35 k36 k37 w χ o_ l_ a1 c1 a2 c2   _ (v o_ l_) h1 h2).mono ?_
 rintro _ _ _ _ ⟨r, rfl, h⟩
 exact h
/-- replevin/replevinref26.Print -/
theorem W13 (k15 : S15) (k30 : S30) (k31 : S31) (w0 : World) (χ0 : Nat → Nat) (o_ : Api_Object) (l_ : List Api_Event) (a1 : Option Addr) (c1 : Nat) (a2 : Option Addr) (c2 : Nat) (Q : (List UInt8) × Int → Prop) (hm : VC13 o_ l_ Q) (h1 : RS tApi_Row w0 χ0 a1 o_.Rows c1) (h2 : RS tApi_Event w0 χ0 a2 l_ c2) :
  Ret Tryd.prog 13 #[.agg #[.int .i64 o_.States, .int .i64 o_.Kinds, .int .i64 o_.Init, .slice a1 o_.Rows.length c1], .slice a2 l_.length c2] xnone w0 χ0 (fun w χ' v => ∃ r, Q r ∧ v = .tuple #[.string (bs r.1), .int .i64 r.2]) := by
 unfold VC13 at hm
 replace hm := hm (h1.sm kr)
 replace hm := hm (h2.sm kr)
 refine enter Tryd.func13 rfl (vals := [.agg #[.int .i64 o_.States, .int .i64 o_.Kinds, .int .i64 o_.Init, .slice a1 o_.Rows.length c1], .slice a2 l_.length c2]) kr ?_
 intro ρ a hS hO hM
 replace h1 := h1.m0 hM
 replace h2 := h2.m0 hM
 clear hM
 refine regM T hS (sp := []) (ks := [1, 2]) (bs := [3]) (sy' := ⟨[(1, V (.slice a2 l_.length c2)), (2, Pt 3 0)], [(3, (25, [I o_.States, I o_.Kinds, I o_.Init, V (.slice a1 o_.Rows.length c1)]))]⟩) kr ?_
 intro ρ a w146 χ147 hS hE hr
 replace hO := hO.mv hE rfl rfl
 replace h1 := h1.mv hE rfl
 replace h2 := h2.mv hE rfl
 clear hE hr
 refine regO ?_
 refine opsP T hS 2 (sp := []) (ks := [1, 2, 11, 12]) (bs := [3]) (sy' := ⟨[(1, V (.slice a2 l_.length c2)), (2, Pt 3 0), (11, V (.agg #[.int .i64 o_.States, .int .i64 o_.Kinds, .int .i64 o_.Init, .slice a1 o_.Rows.length c1])), (12, V (.slice a2 l_.length c2))], [(3, (25, [I o_.States, I o_.Kinds, I o_.Init, V (.slice a1 o_.Rows.length c1)]))]⟩) kr ?_
 intro a hS
 refine op1 (call hS kr kr hb15 kr (fun _ _ => rfl) (k15 _ _ o_ l_ a1 c1 a2 c2 h1 h2) ?_)
 intro v101 a w102 χ103 hE hp hS
 replace hO := hO.mv hE rfl rfl
 replace h1 := h1.mv hE rfl
 replace h2 := h2.mv hE rfl
 clear hE
 obtain ⟨r104, hr⟩ : ∃ r, ref26_Check o_ l_ = r := ⟨_, rfl⟩
 replace hm := hm r104 hr
 rw [hr] at hp
 clear hr
 subst hp
 refine endP T hS (sp := []) (ks := [1, 2, 6]) (bs := [3]) (sy' := ⟨[(1, V (.slice a2 l_.length c2)), (2, Pt 3 0), (6, I r104)], [(3, (25, [I o_.States, I o_.Kinds, I o_.Init, V (.slice a1 o_.Rows.length c1)]))]⟩) kr ?_
 intro a hS
 refine wseq ?_
 refine regP T hS (sp := []) (ks := [1, 2, 6, 15]) (bs := [3]) (sy' := ⟨[(1, V (.slice a2 l_.length c2)), (2, Pt 3 0), (6, I r104), (15, B (r104 != 0))], [(3, (25, [I o_.States, I o_.Kinds, I o_.Init, V (.slice a1 o_.Rows.length c1)]))]⟩) kr ?_
 intro a hS
 refine wcond hS (b := (r104 != 0)) kr (fun hb => ?_) (fun hb => ?_)
 ·replace hm := hm.1 hb
  refine regP T hS (sp := []) (ks := [4, 5]) (bs := []) (sy' := ⟨[(4, V (.string (bs ([] : List UInt8)))), (5, I r104)], []⟩) kr ?_
  intro a hS
  refine wret ?_
  exact fin T hS hO (fun c => c) rfl (r := [.string (bs ([] : List UInt8)), .int .i64 r104]) kr (fun χ' hM hC => ⟨(([] : List UInt8), r104), hm, rfl⟩)
 ·replace hm := hm.2 hb
  refine wskip ?_
  refine regO ?_
  refine opsP T hS 1 (sp := []) (ks := [1, 18]) (bs := []) (sy' := ⟨[(1, V (.slice a2 l_.length c2)), (18, V (.agg #[.int .i64 o_.States, .int .i64 o_.Kinds, .int .i64 o_.Init, .slice a1 o_.Rows.length c1]))], []⟩) kr ?_
  intro a hS
  obtain ⟨hq, hm⟩ := hm
  refine op1 (call hS kr kr hb30 kr (fun _ _ => rfl) (k30 _ _ o_ a1 c1 hq h1) ?_)
  intro v105 a w106 χ107 hE hp hS
  clear hq
  replace hO := hO.mv hE rfl rfl
  replace h1 := h1.mv hE rfl
  replace h2 := h2.mv hE rfl
  clear hE
  obtain ⟨r108, hr⟩ : ∃ r, ref24_Print o_ = r := ⟨_, rfl⟩
  replace hm := hm r108 hr
  rw [hr] at hp
  clear hr
  subst hp
  refine endP T hS (sp := []) (ks := [1, 7]) (bs := []) (sy' := ⟨[(1, V (.slice a2 l_.length c2)), (7, V (.string (bs r108.1)))], []⟩) kr ?_
  intro a hS
  refine wcut (fun a w => ∃ (ρ : Nat → Nat) (χ : Nat → Nat) (s_109 : List UInt8), VC13_J1 Q s_109 ∧ St Tryd.f13.ntmps ⟨[(7, V (.string (bs s_109)))], []⟩ ρ a w χ ∧ Old w0 χ0 w χ) ?_ ?_
  ·refine regP T hS (sp := []) (ks := [1, 7, 9]) (bs := []) (sy' := ⟨[(1, V (.slice a2 l_.length c2)), (7, V (.string (bs r108.1))), (9, I 0)], []⟩) kr ?_
   intro a hS
   refine wblock ?_
   obtain ⟨I1, μ1, hm0, hm⟩ := hm
   refine wloop (σ := (List UInt8) × Int) (fun s a w => ∃ (ρ : Nat → Nat) (χ : Nat → Nat), I1 s.1 s.2 ∧ St Tryd.f13.ntmps ⟨[(1, V (.slice a2 l_.length c2)), (7, V (.string (bs s.1))), (9, I s.2)], []⟩ ρ a w χ ∧ Old w0 χ0 w χ ∧ RS tApi_Event w χ a2 l_ c2) (fun s => μ1 s.1 s.2) (⟨r108.1, 0⟩) ?_ ?_
   ·exact ⟨ρ, _, hm0, hS.sel [1, 7, 9] [] kr, hO, h2⟩
   ·rintro ⟨s_111, i_112⟩ a w143 ⟨ρ, χ142, hI, hS, hO, h110⟩
    replace hm := hm s_111 i_112 hI
    clear hI hm0
    refine wseq ?_
    refine regP T hS (sp := []) (ks := [1, 7, 9, 25]) (bs := []) (sy' := ⟨[(1, V (.slice a2 l_.length c2)), (7, V (.string (bs s_111))), (9, I i_112), (25, B (decide (i_112 < ((l_.length : Nat) : Int))))], []⟩) kr ?_
    intro a hS
    refine wcond hS (b := decide (i_112 < ((l_.length : Nat) : Int))) kr (fun hb => ?_) (fun hb => ?_)
    ·replace hm := hm.1 hb
     refine wskip ?_
     refine wseq ?_
     refine wblock ?_
     refine regP T hS (sp := []) (ks := [1, 7, 9, 10]) (bs := []) (sy' := ⟨[(1, V (.slice a2 l_.length c2)), (7, V (.string (bs s_111))), (9, I i_112), (10, V (.string (bs ([114, 101, 116] : List UInt8))))], []⟩) kr ?_
     intro a hS
     refine wcut (fun a w => ∃ (ρ : Nat → Nat) (χ : Nat → Nat) (w_114 : List UInt8), VC13_J2 l_ I1 μ1 s_111 i_112 w_114 ∧ St Tryd.f13.ntmps ⟨[(1, V (.slice a2 l_.length c2)), (7, V (.string (bs s_111))), (9, I i_112), (10, V (.string (bs w_114)))], []⟩ ρ a w χ ∧ Old w0 χ0 w χ ∧ RS tApi_Event w χ a2 l_ c2) ?_ ?_
     ·refine regO ?_
      refine opsP T hS 2 (sp := []) (ks := [1, 7, 9, 10, 28, 29]) (bs := []) (sy' := ⟨[(1, V (.slice a2 l_.length c2)), (7, V (.string (bs s_111))), (9, I i_112), (10, V (.string (bs ([114, 101, 116] : List UInt8)))), (28, V (.slice a2 l_.length c2)), (29, I i_112)], []⟩) kr ?_
      intro a hS
      obtain ⟨hq, hm⟩ := hm
      refine op1 (index (e := 51) (k := .i64) T hS kr kr kr kr h110 kr kr hq.1 hq.2 ?_)
      intro A135 a h136 hS
      clear hq
      refine op1 (fieldA (off := 0) (fsz := 1) (ft := 3) (TF := tI) (y := (gi l_ i_112).What) T hS kr kr kr h136 kr kr kr (fun cs h => Api_Event_f0 h) ?_)
      intro A137 a h138 hS
      refine op1 (load1 T hS kr kr kr h138 rfl kr ?_)
      intro v139 a hv hS
      cases hv
      refine endP T hS (sp := []) (ks := [1, 7, 9, 10, 33]) (bs := []) (sy' := ⟨[(1, V (.slice a2 l_.length c2)), (7, V (.string (bs s_111))), (9, I i_112), (10, V (.string (bs ([114, 101, 116] : List UInt8)))), (33, B (((gi l_ i_112).What) == 1))], []⟩) kr ?_
      intro a hS
      refine wcond hS (b := (((gi l_ i_112).What) == 1)) kr (fun hb => ?_) (fun hb => ?_)
      ·replace hm := hm.1 hb
       refine region (endP T hS (sp := []) (ks := [1, 7, 9, 10]) (bs := []) (sy' := ⟨[(1, V (.slice a2 l_.length c2)), (7, V (.string (bs s_111))), (9, I i_112), (10, V (.string (bs ([99, 97, 108, 108] : List UInt8))))], []⟩) kr ?_)
       intro a hS
       exact ⟨ρ, _, ([99, 97, 108, 108] : List UInt8), hm, hS.sel [1, 7, 9, 10] [] kr, hO, h110⟩
      ·replace hm := hm.2 hb
       refine wskip ?_
       exact ⟨ρ, _, ([114, 101, 116] : List UInt8), hm, hS.sel [1, 7, 9, 10] [] kr, hO, h110⟩
     ·rintro a w141 ⟨ρ, χ140, w_114, hm, hS, hO, h113⟩
      unfold VC13_J2 at hm
      refine drawnX [] mixed hS ?_
      intro w115 χ116 hS hE hD hH
      replace hO := hO.mv hE rfl rfl
      replace h113 := h113.mv hE rfl
      clear hE
      refine take T [0, 1, 2, 3, 7, 8] [] [1, 7, 9, 34, 35, 36, 37, 41, 42] hS kr kr kr hH (listed' := #[true, true, true, true, false, false, false, true, true, false, false, false, false, false, false, false]) (fuel := 10) (sy' := ⟨[(1, V (.slice a2 l_.length c2)), (7, V (.string (bs s_111))), (9, I i_112), (34, V (.string (bs s_111))), (35, V (.string (bs w_114))), (36, V (.slice a2 l_.length c2)), (37, I i_112), (41, V (.slice a2 l_.length c2)), (42, I i_112)], []⟩) kr (by rfl) ?_
      intro a hS
      obtain ⟨hq, hm⟩ := hm
      refine dindex (e := 51) (k := .i64) T 4 hS kr kr kr (by rfl) kr hH kr kr h113 kr kr hq.1 hq.2 ?_
      intro A117 a h118 hS
      clear hq
      have h118b := h118.here
      refine dfieldA (off := 1) (fsz := 1) (ft := 3) (TF := tI) (y := (gi l_ i_112).Prc) 5 T hS kr kr kr (by rfl) kr hH kr h118 kr kr kr (fun cs h => Api_Event_f1 h) ?_
      intro A119 a h120 hbl hS
      have h120b := h118b
      rw [← hbl] at h120b
      clear hbl
      refine dload1 T 6 hS kr kr kr (by rfl) kr hH kr h120 h120b rfl kr ?_
      intro v121 a hv hS
      cases hv
      obtain ⟨hq, hm⟩ := hm
      refine dindex (e := 51) (k := .i64) T 9 hS kr kr kr (by rfl) kr hH kr kr h113 kr kr hq.1 hq.2 ?_
      intro A122 a h123 hS
      clear hq
      have h123b := h123.here
      refine dfieldA (off := 2) (fsz := 1) (ft := 3) (TF := tI) (y := (gi l_ i_112).N) 10 T hS kr kr kr (by rfl) kr hH kr h123 kr kr kr (fun cs h => Api_Event_f2 h) ?_
      intro A124 a h125 hbl hS
      have h125b := h123b
      rw [← hbl] at h125b
      clear hbl
      refine dload1 T 11 hS kr kr kr (by rfl) kr hH kr h125 h125b rfl kr ?_
      intro v126 a hv hS
      cases hv
      refine only 12 kr (by rfl) (lit (E := 3) (col := 0) (T := tI) (vals := [.int .i64 ((gi l_ i_112).Prc), .int .i64 ((gi l_ i_112).N)]) (ys := [(gi l_ i_112).Prc, (gi l_ i_112).N]) T hS kr kr kr kr (by exact ⟨rfl, rfl, trivial⟩) rfl kr kr kr kr ?_)
      intro b127 a w128 χ129 hE h130 hN hS
      clear hN
      replace hO := hO.mv hE rfl rfl
      replace hD := hD.ev hE rfl
      replace h113 := h113.mv hE rfl
      replace h118 := h118.mv hE rfl
      replace h120 := h120.mv hE rfl
      replace h123 := h123.mv hE rfl
      replace h125 := h125.mv hE rfl
      clear hE
      replace h130 := h130.rs0
      refine andH (Hold.of hS (bks := []) kr hD) ?_
      intro hH
      obtain ⟨hq, hm⟩ := hm
      refine only 13 kr (by rfl) (call hS kr kr hb31 kr (fun _ _ => rfl) (k31 _ _ w_114 [(gi l_ i_112).Prc, (gi l_ i_112).N] (some ⟨b127, 0, none⟩) 2 hq h130) ?_)
      intro v131 a w132 χ133 hE hp hS
      clear hq
      replace hO := hO.mv hE rfl rfl
      replace hD := hD.ev hE rfl
      replace h113 := h113.mv hE rfl
      replace h118 := h118.mv hE rfl
      replace h120 := h120.mv hE rfl
      replace h123 := h123.mv hE rfl
      replace h125 := h125.mv hE rfl
      replace h130 := h130.mv hE rfl
      clear hE
      obtain ⟨r134, hr⟩ : ∃ r, ref24_Words w_114 [(gi l_ i_112).Prc, (gi l_ i_112).N] = r := ⟨_, rfl⟩
      replace hm := hm r134 hr
      rw [hr] at hp
      clear hr
      subst hp
      refine andH (Hold.of hS (bks := []) kr hD) ?_
      intro hH
      obtain ⟨hq, hm⟩ := hm
      refine only 14 kr (by rfl) (sadd (p := s_111) (q := r134) hS kr kr kr kr hq ?_)
      intro a hS
      clear hq
      refine andH (Hold.of hS (bks := []) kr hD) ?_
      intro hH
      refine take T [15] [] [1, 7, 9] hS kr kr kr hH (listed' := #[true, true, true, true, true, true, true, true, true, true, true, true, true, true, true, true]) (fuel := 0) (sy' := ⟨[(1, V (.slice a2 l_.length c2)), (7, V (.string (bs (s_111 ++ r134)))), (9, I i_112)], []⟩) kr (by rfl) ?_
      intro a hS
      refine drawnDone kr ?_
      clear hD hH
      replace hS := hS.sel [1, 7, 9] [] (sy' := ⟨[(1, V (.slice a2 l_.length c2)), (7, V (.string (bs (s_111 ++ r134)))), (9, I i_112)], []⟩) kr
      refine region (endP T hS (sp := []) (ks := [1, 7, 9]) (bs := []) (sy' := ⟨[(1, V (.slice a2 l_.length c2)), (7, V (.string (bs (s_111 ++ r134)))), (9, I (IntKind.i64.wrap (i_112 + 1)))], []⟩) kr ?_)
      intro a hS
      exact ⟨⟨(s_111 ++ r134), IntKind.i64.wrap (i_112 + 1)⟩, ⟨ρ, _, hm.1, hS.sel [1, 7, 9] [] kr, hO, h113⟩, hm.2⟩
    ·replace hm := hm.2 hb
     refine wexit (by rfl) ?_
     exact ⟨ρ, _, s_111, hm, hS.sel [7] [] kr, hO⟩
  ·rintro a w145 ⟨ρ, χ144, s_109, hm, hS, hO⟩
   unfold VC13_J1 at hm
   refine regP T hS (sp := []) (ks := [4, 5]) (bs := []) (sy' := ⟨[(4, V (.string (bs s_109))), (5, I 0)], []⟩) kr ?_
   intro a hS
   refine wret ?_
   exact fin T hS hO (fun c => c) rfl (r := [.string (bs s_109), .int .i64 0]) kr (fun χ' hM hC => ⟨(s_109, 0), hm, rfl⟩)
theorem C13 (k15 : S15) (k30 : S30) (k31 : S31) (v : ∀ (o_ : Api_Object) (l_ : List Api_Event), preRp o_ l_ → VC13 o_ l_ (fun r => r = ref26_Print o_ l_)) : S13 := by
 intro w χ o_ l_ a1 c1 a2 c2   hp h1 h2
 refine (W13 k15 k30 k31 w χ o_ l_ a1 c1 a2 c2   _ (v o_ l_ hp) h1 h2).mono ?_
 rintro _ _ _ _ ⟨r, rfl, h⟩
 exact h
/-- replevin/replevinlaw26.HisttextPrints -/
theorem W4 (k11 : S11) (k12 : S12) (k13 : S13) (k14 : S14) (k15 : S15) (k7 : S7) (w0 : World) (χ0 : Nat → Nat) (o_ : Api_Object) (l_ : List Api_Event) (a1 : Option Addr) (c1 : Nat) (a2 : Option Addr) (c2 : Nat) (Q : Bool → Prop) (hm : VC4 o_ l_ Q) (h1 : RS tApi_Row w0 χ0 a1 o_.Rows c1) (h2 : RS tApi_Event w0 χ0 a2 l_ c2) (hAmb : Amb w0 χ0) :
  Ret Tryd.prog 4 #[.agg #[.int .i64 o_.States, .int .i64 o_.Kinds, .int .i64 o_.Init, .slice a1 o_.Rows.length c1], .slice a2 l_.length c2] xnone w0 χ0 (fun w χ' v => ∃ r, Q r ∧ v = .bool r) := by
 unfold VC4 at hm
 replace hm := hm (h1.sm kr)
 replace hm := hm (h2.sm kr)
 refine enter Tryd.func4 rfl (vals := [.agg #[.int .i64 o_.States, .int .i64 o_.Kinds, .int .i64 o_.Init, .slice a1 o_.Rows.length c1], .slice a2 l_.length c2]) kr ?_
 intro ρ a hS hO hM
 replace h1 := h1.m0 hM
 replace h2 := h2.m0 hM
 replace hAmb := hAmb.m0 hM
 clear hM
 refine regM T hS (sp := []) (ks := [1, 2]) (bs := [3]) (sy' := ⟨[(1, V (.slice a2 l_.length c2)), (2, Pt 3 0)], [(3, (25, [I o_.States, I o_.Kinds, I o_.Init, V (.slice a1 o_.Rows.length c1)]))]⟩) kr ?_
 intro ρ a w133 χ134 hS hE hr
 replace hO := hO.mv hE rfl rfl
 replace h1 := h1.mv hE rfl
 replace h2 := h2.mv hE rfl
 replace hAmb := hAmb.mv hE rfl
 clear hE hr
 refine wseq ?_
 refine regO ?_
 refine opsP T hS 1 (sp := []) (ks := [1, 2, 10]) (bs := [3]) (sy' := ⟨[(1, V (.slice a2 l_.length c2)), (2, Pt 3 0), (10, V (.agg #[.int .i64 o_.States, .int .i64 o_.Kinds, .int .i64 o_.Init, .slice a1 o_.Rows.length c1]))], [(3, (25, [I o_.States, I o_.Kinds, I o_.Init, V (.slice a1 o_.Rows.length c1)]))]⟩) kr ?_
 intro a hS
 refine op1 (call hS kr kr hb11 kr (fun _ _ => rfl) (k11 _ _ o_ a1 c1 h1) ?_)
 intro v101 a w102 χ103 hE hp hS
 replace hO := hO.mv hE rfl rfl
 replace h1 := h1.mv hE rfl
 replace h2 := h2.mv hE rfl
 replace hAmb := hAmb.mv hE rfl
 clear hE
 obtain ⟨r104, hr⟩ : ∃ r, law23_Few o_ = r := ⟨_, rfl⟩
 replace hm := hm r104 hr
 rw [hr] at hp
 clear hr
 subst hp
 refine endP T hS (sp := [13]) (ks := [1, 2, 17]) (bs := [3]) (sy' := ⟨[(1, V (.slice a2 l_.length c2)), (2, Pt 3 0), (17, B ((!r104) || (decide (((l_.length : Nat) : Int) > 200))))], [(3, (25, [I o_.States, I o_.Kinds, I o_.Init, V (.slice a1 o_.Rows.length c1)]))]⟩) kr ?_
 intro a hS
 refine wcond hS (b := ((!r104) || (decide (((l_.length : Nat) : Int) > 200)))) kr (fun hb => ?_) (fun hb => ?_)
 ·replace hm := hm.1 hb
  refine regO ?_
  refine op1 (call hS kr kr hb7 kr (fun _ _ => rfl) (k7 _ _ hAmb) ?_)
  intro v105 a w106 χ107 hE hp hS
  replace hO := hO.mv hE rfl rfl
  replace h1 := h1.mv hE rfl
  replace h2 := h2.mv hE rfl
  replace hAmb := hAmb.mv hE rfl
  clear hE
  obtain ⟨r108, hr⟩ : ∃ r, law26_awake = r := ⟨_, rfl⟩
  replace hm := hm r108 hr
  rw [hr] at hp
  clear hr
  subst hp
  refine endP T hS (sp := []) (ks := [4]) (bs := []) (sy' := ⟨[(4, B r108)], []⟩) kr ?_
  intro a hS
  refine wret ?_
  exact fin T hS hO (fun c => c) rfl (r := [.bool r108]) kr (fun χ' hM hC => ⟨r108, hm, rfl⟩)
 ·replace hm := hm.2 hb
  refine wskip ?_
  refine regM T hS (sp := []) (ks := [1, 2, 5]) (bs := [3, 6]) (sy' := ⟨[(1, V (.slice a2 l_.length c2)), (2, Pt 3 0), (5, Pt 6 0)], [(3, (25, [I o_.States, I o_.Kinds, I o_.Init, V (.slice a1 o_.Rows.length c1)])), (6, (28, [I o_.States, I o_.Kinds, I o_.Init, V (.slice a1 o_.Rows.length c1), V (.slice a2 l_.length c2)]))]⟩) kr ?_
  intro ρ a w131 χ132 hS hE hr
  replace hO := hO.mv hE rfl rfl
  replace h1 := h1.mv hE rfl
  replace h2 := h2.mv hE rfl
  replace hAmb := hAmb.mv hE rfl
  clear hE hr
  refine regO ?_
  refine opsP T hS 1 (sp := []) (ks := [1, 2, 5, 23]) (bs := [3, 6]) (sy' := ⟨[(1, V (.slice a2 l_.length c2)), (2, Pt 3 0), (5, Pt 6 0), (23, V (.agg #[.int .i64 o_.States, .int .i64 o_.Kinds, .int .i64 o_.Init, .slice a1 o_.Rows.length c1, .slice a2 l_.length c2]))], [(3, (25, [I o_.States, I o_.Kinds, I o_.Init, V (.slice a1 o_.Rows.length c1)])), (6, (28, [I o_.States, I o_.Kinds, I o_.Init, V (.slice a1 o_.Rows.length c1), V (.slice a2 l_.length c2)]))]⟩) kr ?_
  intro a hS
  obtain ⟨hq, hm⟩ := hm
  refine op1 (call hS kr kr hb12 kr (fun _ _ => rfl) (k12 _ _ (⟨o_, l_⟩ : Histtext_Case) a1 c1 a2 c2 hq h1 h2 hAmb) ?_)
  intro v109 a w110 χ111 hE hp hS
  clear hq
  replace hO := hO.mv hE rfl rfl
  replace h1 := h1.mv hE rfl
  replace h2 := h2.mv hE rfl
  replace hAmb := hAmb.mv hE rfl
  clear hE
  obtain ⟨r112, hr⟩ : ∃ r, histtext_Print (⟨o_, l_⟩ : Histtext_Case) = r := ⟨_, rfl⟩
  replace hm := hm r112 hr
  rw [hr] at hp
  clear hr
  subst hp
  refine endP T hS (sp := []) (ks := [1, 2, 5, 6, 7]) (bs := [3, 6]) (sy' := ⟨[(1, V (.slice a2 l_.length c2)), (2, Pt 3 0), (5, Pt 6 0), (6, V (.string (bs r112.1))), (7, I r112.2)], [(3, (25, [I o_.States, I o_.Kinds, I o_.Init, V (.slice a1 o_.Rows.length c1)])), (6, (28, [I o_.States, I o_.Kinds, I o_.Init, V (.slice a1 o_.Rows.length c1), V (.slice a2 l_.length c2)]))]⟩) kr ?_
  intro a hS
  refine regO ?_
  refine opsP T hS 2 (sp := []) (ks := [1, 2, 5, 6, 7, 28, 29]) (bs := [3, 6]) (sy' := ⟨[(1, V (.slice a2 l_.length c2)), (2, Pt 3 0), (5, Pt 6 0), (6, V (.string (bs r112.1))), (7, I r112.2), (28, V (.agg #[.int .i64 o_.States, .int .i64 o_.Kinds, .int .i64 o_.Init, .slice a1 o_.Rows.length c1])), (29, V (.slice a2 l_.length c2))], [(3, (25, [I o_.States, I o_.Kinds, I o_.Init, V (.slice a1 o_.Rows.length c1)])), (6, (28, [I o_.States, I o_.Kinds, I o_.Init, V (.slice a1 o_.Rows.length c1), V (.slice a2 l_.length c2)]))]⟩) kr ?_
  intro a hS
  obtain ⟨hq, hm⟩ := hm
  refine op1 (call hS kr kr hb13 kr (fun _ _ => rfl) (k13 _ _ o_ l_ a1 c1 a2 c2 hq h1 h2) ?_)
  intro v113 a w114 χ115 hE hp hS
  clear hq
  replace hO := hO.mv hE rfl rfl
  replace h1 := h1.mv hE rfl
  replace h2 := h2.mv hE rfl
  replace hAmb := hAmb.mv hE rfl
  clear hE
  obtain ⟨r116, hr⟩ : ∃ r, ref26_Print o_ l_ = r := ⟨_, rfl⟩
  replace hm := hm r116 hr
  rw [hr] at hp
  clear hr
  subst hp
  refine endP T hS (sp := []) (ks := [1, 2, 5, 6, 7, 8, 9]) (bs := [3, 6]) (sy' := ⟨[(1, V (.slice a2 l_.length c2)), (2, Pt 3 0), (5, Pt 6 0), (6, V (.string (bs r112.1))), (7, I r112.2), (8, V (.string (bs r116.1))), (9, I r116.2)], [(3, (25, [I o_.States, I o_.Kinds, I o_.Init, V (.slice a1 o_.Rows.length c1)])), (6, (28, [I o_.States, I o_.Kinds, I o_.Init, V (.slice a1 o_.Rows.length c1), V (.slice a2 l_.length c2)]))]⟩) kr ?_
  intro a hS
  refine drawnSX [3, 6] mixed hS ?_
  intro w117 χ118 hS hE hD hH
  replace hO := hO.mv hE rfl rfl
  replace h1 := h1.mv hE rfl
  replace h2 := h2.mv hE rfl
  replace hAmb := hAmb.mv hE rfl
  clear hE
  refine take T [0, 1, 2, 3] [3, 6] [1, 2, 5, 7, 9, 36] hS kr kr kr hH (listed' := #[true, true, true, true, false, false, false, false, false, false, false, false, false, false, false, false, false, false, false, false]) (fuel := 16) (sy' := ⟨[(1, V (.slice a2 l_.length c2)), (2, Pt 3 0), (5, Pt 6 0), (7, I r112.2), (9, I r116.2), (36, B (r112.1 == r116.1))], [(3, (25, [I o_.States, I o_.Kinds, I o_.Init, V (.slice a1 o_.Rows.length c1)])), (6, (28, [I o_.States, I o_.Kinds, I o_.Init, V (.slice a1 o_.Rows.length c1), V (.slice a2 l_.length c2)]))]⟩) kr (by rfl) ?_
  intro a hS
  refine takeM (tc := 36) (b := (r112.1 == r116.1)) (f := fun c => ⟨[(1, V (.slice a2 l_.length c2)), (2, Pt 3 0), (5, Pt 6 0), (40, B (c && (r112.2 == r116.2)))], [(3, (25, [I o_.States, I o_.Kinds, I o_.Init, V (.slice a1 o_.Rows.length c1)])), (6, (28, [I o_.States, I o_.Kinds, I o_.Init, V (.slice a1 o_.Rows.length c1), V (.slice a2 l_.length c2)]))]⟩) T [4, 5, 6, 7] [3, 6] [1, 2, 5, 40] hS kr kr kr kr hH (listed' := #[true, true, true, true, true, true, true, true, false, false, false, false, false, false, false, false, false, false, false, false]) (fuel := 12) kr kr (by rfl) ?_
  intro a hS
  refine take T [8] [3, 6] [1, 2, 5, 41] hS kr kr kr hH (listed' := #[true, true, true, true, true, true, true, true, true, false, false, false, false, false, false, false, false, false, false, false]) (fuel := 11) (sy' := ⟨[(1, V (.slice a2 l_.length c2)), (2, Pt 3 0), (5, Pt 6 0), (41, B ((r112.1 == r116.1) && (r112.2 == r116.2)))], [(3, (25, [I o_.States, I o_.Kinds, I o_.Init, V (.slice a1 o_.Rows.length c1)])), (6, (28, [I o_.States, I o_.Kinds, I o_.Init, V (.slice a1 o_.Rows.length c1), V (.slice a2 l_.length c2)]))]⟩) kr (by rfl) ?_
  intro a hS
  rcases Bool.eq_false_or_eq_true ((r112.1 == r116.1) && (r112.2 == r116.2)) with hb | hb
  ·replace hS := hS.lit (t := 41) kr hb
   replace hm := hm.1 hb
   refine take T [9, 11, 12] [3, 6] [41, 42, 44, 45] hS kr kr kr hH (listed' := #[true, true, true, true, true, true, true, true, true, true, false, true, true, false, false, false, false, false, false, false]) (fuel := 8) (sy' := ⟨[(41, B true), (42, V (.agg #[.int .i64 o_.States, .int .i64 o_.Kinds, .int .i64 o_.Init, .slice a1 o_.Rows.length c1, .slice a2 l_.length c2])), (44, V (.agg #[.int .i64 o_.States, .int .i64 o_.Kinds, .int .i64 o_.Init, .slice a1 o_.Rows.length c1])), (45, V (.slice a2 l_.length c2))], [(3, (25, [I o_.States, I o_.Kinds, I o_.Init, V (.slice a1 o_.Rows.length c1)])), (6, (28, [I o_.States, I o_.Kinds, I o_.Init, V (.slice a1 o_.Rows.length c1), V (.slice a2 l_.length c2)]))]⟩) kr (by rfl) ?_
   intro a hS
   obtain ⟨hq, hm⟩ := hm
   refine only 10 kr (by rfl) (call hS kr kr hb14 kr (fun _ _ => rfl) (k14 _ _ (⟨o_, l_⟩ : Histtext_Case) a1 c1 a2 c2 hq h1 h2) ?_)
   intro v119 a w120 χ121 hE hp hS
   clear hq
   replace hO := hO.mv hE rfl rfl
   replace hD := hD.ev hE rfl
   replace h1 := h1.mv hE rfl
   replace h2 := h2.mv hE rfl
   replace hAmb := hAmb.mv hE rfl
   clear hE
   obtain ⟨r122, hr⟩ : ∃ r, histtext_Check (⟨o_, l_⟩ : Histtext_Case) = r := ⟨_, rfl⟩
   replace hm := hm r122 hr
   rw [hr] at hp
   clear hr
   subst hp
   replace hS := hS.sel [41, 42, 44, 45, 43] [3, 6] (sy' := ⟨[(41, B true), (42, V (.agg #[.int .i64 o_.States, .int .i64 o_.Kinds, .int .i64 o_.Init, .slice a1 o_.Rows.length c1, .slice a2 l_.length c2])), (44, V (.agg #[.int .i64 o_.States, .int .i64 o_.Kinds, .int .i64 o_.Init, .slice a1 o_.Rows.length c1])), (45, V (.slice a2 l_.length c2)), (43, I r122)], [(3, (25, [I o_.States, I o_.Kinds, I o_.Init, V (.slice a1 o_.Rows.length c1)])), (6, (28, [I o_.States, I o_.Kinds, I o_.Init, V (.slice a1 o_.Rows.length c1), V (.slice a2 l_.length c2)]))]⟩) kr
   refine andH (Hold.of hS (bks := [3, 6]) kr hD) ?_
   intro hH
   refine only 13 kr (by rfl) (call hS kr kr hb15 kr (fun _ _ => rfl) (k15 _ _ o_ l_ a1 c1 a2 c2 h1 h2) ?_)
   intro v123 a w124 χ125 hE hp hS
   replace hO := hO.mv hE rfl rfl
   replace hD := hD.ev hE rfl
   replace h1 := h1.mv hE rfl
   replace h2 := h2.mv hE rfl
   replace hAmb := hAmb.mv hE rfl
   clear hE
   obtain ⟨r126, hr⟩ : ∃ r, ref26_Check o_ l_ = r := ⟨_, rfl⟩
   replace hm := hm r126 hr
   rw [hr] at hp
   clear hr
   subst hp
   replace hS := hS.sel [41, 42, 44, 45, 43, 46] [3, 6] (sy' := ⟨[(41, B true), (42, V (.agg #[.int .i64 o_.States, .int .i64 o_.Kinds, .int .i64 o_.Init, .slice a1 o_.Rows.length c1, .slice a2 l_.length c2])), (44, V (.agg #[.int .i64 o_.States, .int .i64 o_.Kinds, .int .i64 o_.Init, .slice a1 o_.Rows.length c1])), (45, V (.slice a2 l_.length c2)), (43, I r122), (46, I r126)], [(3, (25, [I o_.States, I o_.Kinds, I o_.Init, V (.slice a1 o_.Rows.length c1)])), (6, (28, [I o_.States, I o_.Kinds, I o_.Init, V (.slice a1 o_.Rows.length c1), V (.slice a2 l_.length c2)]))]⟩) kr
   refine andH (Hold.of hS (bks := [3, 6]) kr hD) ?_
   intro hH
   refine take T [14, 15, 16] [3, 6] [49] hS kr kr kr hH (listed' := #[true, true, true, true, true, true, true, true, true, true, true, true, true, true, true, true, true, false, false, false]) (fuel := 3) (sy' := ⟨[(49, B (r122 == r126))], [(3, (25, [I o_.States, I o_.Kinds, I o_.Init, V (.slice a1 o_.Rows.length c1)])), (6, (28, [I o_.States, I o_.Kinds, I o_.Init, V (.slice a1 o_.Rows.length c1), V (.slice a2 l_.length c2)]))]⟩) kr (by rfl) ?_
   intro a hS
   rcases Bool.eq_false_or_eq_true (r122 == r126) with hb | hb
   ·replace hS := hS.lit (t := 49) kr hb
    replace hm := hm.1 hb
    refine only 17 kr (by rfl) (call hS kr kr hb7 kr (fun _ _ => rfl) (k7 _ _ hAmb) ?_)
    intro v127 a w128 χ129 hE hp hS
    replace hO := hO.mv hE rfl rfl
    replace hD := hD.ev hE rfl
    replace h1 := h1.mv hE rfl
    replace h2 := h2.mv hE rfl
    replace hAmb := hAmb.mv hE rfl
    clear hE
    obtain ⟨r130, hr⟩ : ∃ r, law26_awake = r := ⟨_, rfl⟩
    replace hm := hm r130 hr
    rw [hr] at hp
    clear hr
    subst hp
    replace hS := hS.sel [49, 50] [3, 6] (sy' := ⟨[(49, B true), (50, B r130)], [(3, (25, [I o_.States, I o_.Kinds, I o_.Init, V (.slice a1 o_.Rows.length c1)])), (6, (28, [I o_.States, I o_.Kinds, I o_.Init, V (.slice a1 o_.Rows.length c1), V (.slice a2 l_.length c2)]))]⟩) kr
    refine andH (Hold.of hS (bks := [3, 6]) kr hD) ?_
    intro hH
    refine take T [18, 19] [3, 6] [4] hS kr kr kr hH (listed' := #[true, true, true, true, true, true, true, true, true, true, true, true, true, true, true, true, true, true, true, true]) (fuel := 0) (sy' := ⟨[(4, B r130)], [(3, (25, [I o_.States, I o_.Kinds, I o_.Init, V (.slice a1 o_.Rows.length c1)])), (6, (28, [I o_.States, I o_.Kinds, I o_.Init, V (.slice a1 o_.Rows.length c1), V (.slice a2 l_.length c2)]))]⟩) kr (by rfl) ?_
    intro a hS
    refine drawnDone kr ?_
    clear hD hH
    replace hS := hS.sel [4] [] (sy' := ⟨[(4, B r130)], []⟩) kr
    refine wret ?_
    exact fin T hS hO (fun c => c) rfl (r := [.bool r130]) kr (fun χ' hM hC => ⟨r130, hm, rfl⟩)
   ·replace hS := hS.lit (t := 49) kr hb
    replace hm := hm.2 hb
    refine take T [17, 18, 19] [3, 6] [4] hS kr kr kr hH (listed' := #[true, true, true, true, true, true, true, true, true, true, true, true, true, true, true, true, true, true, true, true]) (fuel := 0) (sy' := ⟨[(4, B false)], [(3, (25, [I o_.States, I o_.Kinds, I o_.Init, V (.slice a1 o_.Rows.length c1)])), (6, (28, [I o_.States, I o_.Kinds, I o_.Init, V (.slice a1 o_.Rows.length c1), V (.slice a2 l_.length c2)]))]⟩) kr (by rfl) ?_
    intro a hS
    refine drawnDone kr ?_
    clear hD hH
    replace hS := hS.sel [4] [] (sy' := ⟨[(4, B false)], []⟩) kr
    refine wret ?_
    exact fin T hS hO (fun c => c) rfl (r := [.bool false]) kr (fun χ' hM hC => ⟨false, hm, rfl⟩)
  ·replace hS := hS.lit (t := 41) kr hb
   replace hm := hm.2 hb
   refine take T [9, 11, 12, 10, 13, 14, 15, 16, 17, 18, 19] [3, 6] [4] hS kr kr kr hH (listed' := #[true, true, true, true, true, true, true, true, true, true, true, true, true, true, true, true, true, true, true, true]) (fuel := 0) (sy' := ⟨[(4, B false)], [(3, (25, [I o_.States, I o_.Kinds, I o_.Init, V (.slice a1 o_.Rows.length c1)])), (6, (28, [I o_.States, I o_.Kinds, I o_.Init, V (.slice a1 o_.Rows.length c1), V (.slice a2 l_.length c2)]))]⟩) kr (by rfl) ?_
   intro a hS
   refine drawnDone kr ?_
   clear hD hH
   replace hS := hS.sel [4] [] (sy' := ⟨[(4, B false)], []⟩) kr
   refine wret ?_
   exact fin T hS hO (fun c => c) rfl (r := [.bool false]) kr (fun χ' hM hC => ⟨false, hm, rfl⟩)
end Go.Proofs.YtcjldfbgccmpkaaDoor
