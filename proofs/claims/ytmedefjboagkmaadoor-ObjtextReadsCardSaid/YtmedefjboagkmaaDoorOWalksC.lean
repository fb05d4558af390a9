/- Walks: each function returns what its condition asks. Condition: the contracts of its callees, handed in. -/
import Derived.Test.YtmedefjboagkmaaDoorOWalksB
set_option linter.all false
namespace Go.Proofs.YtmedefjboagkmaaDoor
open Go Go.Sv
set_option maxHeartbeats 1000000
def S8 : Prop := ∀ (w : World) (χ : Nat → Nat) (s_ : List UInt8), Ret Tryd.prog 8 #[.string (bs s_)] xnone w χ (fun w χ' v => ∃ (ra1 : Option Addr) (rc1 : Nat), v = .tuple #[.agg #[.int .i64 (((objtext_Parse s_).1).States), .int .i64 (((objtext_Parse s_).1).Kinds), .int .i64 (((objtext_Parse s_).1).Init), .slice ra1 (((objtext_Parse s_).1).Rows).length rc1], .int .i64 ((objtext_Parse s_).2.1), .int .i64 ((objtext_Parse s_).2.2)] ∧ RS tApi_Row w χ' ra1 (((objtext_Parse s_).1).Rows) rc1)
theorem hb8 : hasBody Tryd.prog 8 = true := by kernel_rfl
/-- replevin/objtext.Parse -/
theorem W8 (k11 : S11) (k12 : S12) (k26 : S26) (w0 : World) (χ0 : Nat → Nat) (s_ : List UInt8) (Q : Api_Object × Int × Int → Prop) (hm : VC8 s_ Q) :
    Ret Tryd.prog 8 #[.string (bs s_)] xnone w0 χ0 (fun w χ' v => ∃ r, Q r ∧ ∃ (ra1 : Option Addr) (rc1 : Nat), v = .tuple #[.agg #[.int .i64 r.1.States, .int .i64 r.1.Kinds, .int .i64 r.1.Init, .slice ra1 r.1.Rows.length rc1], .int .i64 r.2.1, .int .i64 r.2.2] ∧ RS tApi_Row w χ' ra1 r.1.Rows rc1) := by
  unfold VC8 at hm
  refine enter Tryd.func8 rfl (vals := [.string (bs s_)]) (by kernel_rfl) ?_
  intro ρ a hS hO hM
  clear hM
  refine regM T hS (sp := []) (ks := [0, 2]) (bs := [3]) (sy' := ⟨[(0, V (.string (bs s_))), (2, Pt 3 0)], [(3, (25, [I 0, I 0, I 0, V (.slice none 0 0)]))]⟩) (by kernel_rfl) ?_
  intro ρ a w143 χ144 hS hE hr
  replace hO := hO.mv hE rfl rfl
  clear hE hr
  refine wseq ?_
  refine regP T hS (sp := []) (ks := [0, 2, 10]) (bs := [3]) (sy' := ⟨[(0, V (.string (bs s_))), (2, Pt 3 0), (10, B (decide (((s_.length : Nat) : Int) > 1000000)))], [(3, (25, [I 0, I 0, I 0, V (.slice none 0 0)]))]⟩) (by kernel_rfl) ?_
  intro a hS
  refine wcond hS (b := decide (((s_.length : Nat) : Int) > 1000000)) (by kernel_rfl) (fun hb => ?_) (fun hb => ?_)
  · replace hm := hm.1 hb
    refine regM T hS (sp := []) (ks := [2, 3, 4]) (bs := [3]) (sy' := ⟨[(2, Pt 3 0), (3, I 0), (4, I 3)], [(3, (25, [I 0, I 0, I 0, V (.slice none 0 0)]))]⟩) (by kernel_rfl) ?_
    intro ρ a w101 χ102 hS hE hr
    replace hO := hO.mv hE rfl rfl
    clear hE hr
    refine wret ?_
    exact fin T hS hO (fun c => c) rfl (r := [.agg #[.int .i64 0, .int .i64 0, .int .i64 0, .slice none 0 0], .int .i64 0, .int .i64 3]) (by kernel_rfl) (fun χ' hM hC => ⟨((⟨0, 0, 0, []⟩ : Api_Object), 0, 3), hm, none, 0, rfl, RS.empty _ _ _⟩)
  · replace hm := hm.2 hb
    refine wskip ?_
    refine regO ?_
    refine opsP T hS 1 (sp := []) (ks := [0, 2, 13]) (bs := [3]) (sy' := ⟨[(0, V (.string (bs s_))), (2, Pt 3 0), (13, V (.string (bs s_)))], [(3, (25, [I 0, I 0, I 0, V (.slice none 0 0)]))]⟩) (by kernel_rfl) ?_
    intro a hS
    obtain ⟨hq, hm⟩ := hm
    refine op1 (call hS (by kernel_rfl) (by kernel_rfl) hb12 (by kernel_rfl) (fun _ _ => rfl) (k12 _ _ s_ hq) ?_)
    intro v103 a w104 χ105 hE hp hS
    clear hq
    replace hO := hO.mv hE rfl rfl
    clear hE
    obtain ⟨a107, c108, hp, h109⟩ := hp
    obtain ⟨r106, hr⟩ : ∃ r, token_Lines s_ = r := ⟨_, rfl⟩
    replace hm := hm r106 hr
    rw [hr] at hp h109
    clear hr
    subst hp
    replace hm := hm (h109.sm (by kernel_rfl))
    refine opsP T hS 2 (sp := []) (ks := [2, 14, 16]) (bs := [3]) (sy' := ⟨[(2, Pt 3 0), (14, V (.slice a107 r106.length c108)), (16, I ((s_.length : Nat) : Int))], [(3, (25, [I 0, I 0, I 0, V (.slice none 0 0)]))]⟩) (by kernel_rfl) ?_
    intro a hS
    obtain ⟨hq, hm⟩ := hm
    refine op1 (call hS (by kernel_rfl) (by kernel_rfl) hb11 (by kernel_rfl) (fun _ _ => rfl) (k11 _ _ r106 ((s_.length : Nat) : Int) a107 c108 hq h109) ?_)
    intro v110 a w111 χ112 hE hp hS
    clear hq
    replace hO := hO.mv hE rfl rfl
    replace h109 := h109.mv hE rfl
    clear hE
    obtain ⟨a114, c115, a117, c118, hp, h116, h119⟩ := hp
    obtain ⟨r113, hr⟩ : ∃ r, objtext_Take r106 ((s_.length : Nat) : Int) = r := ⟨_, rfl⟩
    replace hm := hm r113 hr
    rw [hr] at hp h116 h119
    clear hr
    subst hp
    replace hm := hm (h116.sm (by kernel_rfl))
    replace hm := hm (h119.sm (by kernel_rfl))
    refine endM T hS (sp := []) (ks := [2, 3, 4, 5]) (bs := [3]) (sy' := ⟨[(2, Pt 3 0), (3, I r113.2.2.1), (4, I r113.2.2.2), (5, V (.slice a117 r113.2.1.length c118))], [(3, (25, [I r113.1.States, I r113.1.Kinds, I r113.1.Init, V (.slice a114 r113.1.Rows.length c115)]))]⟩) (by kernel_rfl) ?_
    intro ρ a w141 χ142 hS hE hr
    replace hO := hO.mv hE rfl rfl
    replace h116 := h116.mv hE rfl
    replace h119 := h119.mv hE rfl
    clear hE hr
    refine wseq ?_
    refine regO ?_
    refine opsP T hS 1 (sp := []) (ks := [2, 3, 4, 23]) (bs := [3]) (sy' := ⟨[(2, Pt 3 0), (3, I r113.2.2.1), (4, I r113.2.2.2), (23, V (.slice a117 r113.2.1.length c118))], [(3, (25, [I r113.1.States, I r113.1.Kinds, I r113.1.Init, V (.slice a114 r113.1.Rows.length c115)]))]⟩) (by kernel_rfl) ?_
    intro a hS
    refine op1 (call hS (by kernel_rfl) (by kernel_rfl) hb26 (by kernel_rfl) (fun _ _ => rfl) (k26 _ _ r113.2.1 a117 c118 h119) ?_)
    intro v120 a w121 χ122 hE hp hS
    replace hO := hO.mv hE rfl rfl
    replace h116 := h116.mv hE rfl
    replace h119 := h119.mv hE rfl
    clear hE
    obtain ⟨a124, c125, a127, c128, hp, h126, h129⟩ := hp
    obtain ⟨r123, hr⟩ : ∃ r, objtext_next r113.2.1 = r := ⟨_, rfl⟩
    replace hm := hm r123 hr
    rw [hr] at hp h126 h129
    clear hr
    subst hp
    replace hm := hm (h126.sm (by kernel_rfl))
    replace hm := hm (h129.sm (by kernel_rfl))
    refine endP T hS (sp := []) (ks := [2, 3, 4, 6]) (bs := [3]) (sy' := ⟨[(2, Pt 3 0), (3, I r113.2.2.1), (4, I r113.2.2.2), (6, V (.slice a124 r123.1.length c125))], [(3, (25, [I r113.1.States, I r113.1.Kinds, I r113.1.Init, V (.slice a114 r113.1.Rows.length c115)]))]⟩) (by kernel_rfl) ?_
    intro a hS
    refine regP T hS (sp := [29]) (ks := [2, 3, 4, 6, 33]) (bs := [3]) (sy' := ⟨[(2, Pt 3 0), (3, I r113.2.2.1), (4, I r113.2.2.2), (6, V (.slice a124 r123.1.length c125)), (33, B ((r113.2.2.2 == 0) && (decide (((r123.1.length : Nat) : Int) > 0))))], [(3, (25, [I r113.1.States, I r113.1.Kinds, I r113.1.Init, V (.slice a114 r113.1.Rows.length c115)]))]⟩) (by kernel_rfl) ?_
    intro a hS
    refine wcond hS (b := ((r113.2.2.2 == 0) && (decide (((r123.1.length : Nat) : Int) > 0)))) (by kernel_rfl) (fun hb => ?_) (fun hb => ?_)
    · replace hm := hm.1 hb
      refine drawnSX [] mixed hS ?_
      intro w130 χ131 hS hE hD hH
      replace hO := hO.mv hE rfl rfl
      replace h116 := h116.mv hE rfl
      replace h126 := h126.mv hE rfl
      clear hE
      refine take T [0, 1] [] [2, 3, 4, 34, 35] hS (by kernel_rfl) (by kernel_rfl) (by kernel_rfl) hH (listed' := #[true, true, false, false, false, false, false, false]) (fuel := 6) (sy' := ⟨[(2, Pt 3 0), (3, I r113.2.2.1), (4, I r113.2.2.2), (34, V (.agg #[.int .i64 0, .int .i64 0, .int .i64 0, .slice none 0 0])), (35, V (.slice a124 r123.1.length c125))], [(3, (25, [I r113.1.States, I r113.1.Kinds, I r113.1.Init, V (.slice a114 r113.1.Rows.length c115)]))]⟩) (by kernel_rfl) (by rfl) ?_
      intro a hS
      obtain ⟨hq, hm⟩ := hm
      refine dindex (e := 60) (k := .i64) T 2 hS (by kernel_rfl) (by kernel_rfl) (by kernel_rfl) (by rfl) (by kernel_rfl) hH (by kernel_rfl) (by kernel_rfl) h126 (by kernel_rfl) (by kernel_rfl) hq.1 hq.2 ?_
      intro A132 a h133 hS
      clear hq
      have h133b := h133.here
      refine dfieldA (off := 1) (fsz := 1) (ft := 3) (TF := tI) (y := (gi r123.1 0).At) 3 T hS (by kernel_rfl) (by kernel_rfl) (by kernel_rfl) (by rfl) (by kernel_rfl) hH (by kernel_rfl) h133 (by kernel_rfl) (by kernel_rfl) (by kernel_rfl) (fun cs h => Token_Token_f1 h) ?_
      intro A134 a h135 hbl hS
      have h135b := h133b
      rw [← hbl] at h135b
      clear hbl
      refine dload1 T 4 hS (by kernel_rfl) (by kernel_rfl) (by kernel_rfl) (by rfl) (by kernel_rfl) hH (by kernel_rfl) h135 h135b rfl (by kernel_rfl) ?_
      intro v136 a hv hS
      cases hv
      replace hS := hS.sel [2, 3, 4, 34, 35, 36, 37, 38] [3] (sy' := ⟨[(2, Pt 3 0), (3, I r113.2.2.1), (4, I r113.2.2.2), (34, V (.agg #[.int .i64 0, .int .i64 0, .int .i64 0, .slice none 0 0])), (35, V (.slice a124 r123.1.length c125)), (36, V (.pointer (some A132))), (37, V (.pointer (some A134))), (38, I ((gi r123.1 0).At))], [(3, (25, [I r113.1.States, I r113.1.Kinds, I r113.1.Init, V (.slice a114 r113.1.Rows.length c115)]))]⟩) (by kernel_rfl)
      refine only 5 (by kernel_rfl) (by rfl) (store1 T hS (by kernel_rfl) (by kernel_rfl) (sy' := ⟨[(2, Pt 3 0), (3, I r113.2.2.1), (4, I r113.2.2.2), (34, V (.agg #[.int .i64 0, .int .i64 0, .int .i64 0, .slice none 0 0])), (35, V (.slice a124 r123.1.length c125)), (36, V (.pointer (some A132))), (37, V (.pointer (some A134))), (38, I ((gi r123.1 0).At))], [(3, (25, [I 0, I 0, I 0, V (.slice none 0 0)])), (3, (25, [I r113.1.States, I r113.1.Kinds, I r113.1.Init, V (.slice a114 r113.1.Rows.length c115)]))]⟩) (by kernel_rfl) ?_)
      intro a w137 χ138 hS hE
      replace hO := hO.mv hE rfl rfl
      replace hD := hD.ev hE rfl
      replace h116 := h116.mv hE rfl
      replace h126 := h126.mv hE rfl
      replace h133 := h133.mv hE rfl
      replace h135 := h135.mv hE rfl
      clear hE
      replace hS := hS.sel [2, 3, 4, 34, 35, 36, 37, 38] [3] (sy' := ⟨[(2, Pt 3 0), (3, I r113.2.2.1), (4, I r113.2.2.2), (34, V (.agg #[.int .i64 0, .int .i64 0, .int .i64 0, .slice none 0 0])), (35, V (.slice a124 r123.1.length c125)), (36, V (.pointer (some A132))), (37, V (.pointer (some A134))), (38, I ((gi r123.1 0).At))], [(3, (25, [I 0, I 0, I 0, V (.slice none 0 0)]))]⟩) (by kernel_rfl)
      refine andH (Hold.of hS (bks := []) (by kernel_rfl) hD) ?_
      intro hH
      refine take T [6, 7] [] [2, 3, 4] hS (by kernel_rfl) (by kernel_rfl) (by kernel_rfl) hH (listed' := #[true, true, true, true, true, true, true, true]) (fuel := 0) (sy' := ⟨[(2, Pt 3 0), (3, I ((gi r123.1 0).At)), (4, I 6)], [(3, (25, [I 0, I 0, I 0, V (.slice none 0 0)]))]⟩) (by kernel_rfl) (by rfl) ?_
      intro a hS
      refine drawnDone (by kernel_rfl) ?_
      clear hD hH
      replace hS := hS.sel [2, 3, 4] [3] (sy' := ⟨[(2, Pt 3 0), (3, I ((gi r123.1 0).At)), (4, I 6)], [(3, (25, [I 0, I 0, I 0, V (.slice none 0 0)]))]⟩) (by kernel_rfl)
      refine wret ?_
      exact fin T hS hO (fun c => c) rfl (r := [.agg #[.int .i64 0, .int .i64 0, .int .i64 0, .slice none 0 0], .int .i64 ((gi r123.1 0).At), .int .i64 6]) (by kernel_rfl) (fun χ' hM hC => ⟨((⟨0, 0, 0, []⟩ : Api_Object), (gi r123.1 0).At, 6), hm, none, 0, rfl, RS.empty _ _ _⟩)
    · replace hm := hm.2 hb
      refine wskip ?_
      refine regM T hS (sp := []) (ks := [2, 3, 4]) (bs := [3]) (sy' := ⟨[(2, Pt 3 0), (3, I r113.2.2.1), (4, I r113.2.2.2)], [(3, (25, [I r113.1.States, I r113.1.Kinds, I r113.1.Init, V (.slice a114 r113.1.Rows.length c115)]))]⟩) (by kernel_rfl) ?_
      intro ρ a w139 χ140 hS hE hr
      replace hO := hO.mv hE rfl rfl
      replace h116 := h116.mv hE rfl
      clear hE hr
      refine wret ?_
      exact fin T hS hO (fun c => c) rfl (r := [.agg #[.int .i64 r113.1.States, .int .i64 r113.1.Kinds, .int .i64 r113.1.Init, .slice a114 r113.1.Rows.length c115], .int .i64 r113.2.2.1, .int .i64 r113.2.2.2]) (by kernel_rfl) (fun χ' hM hC => ⟨(r113.1, r113.2.2.1, r113.2.2.2), hm, a114, c115, rfl, h116.m0 hM⟩)
theorem C8 (k11 : S11) (k12 : S12) (k26 : S26) (v : ∀ (s_ : List UInt8), VC8 s_ (fun r => r = objtext_Parse s_)) : S8 := by
  intro w χ s_    
  refine (W8 k11 k12 k26 w χ s_    _ (v s_)).mono ?_
  rintro _ _ _ _ ⟨r, rfl, h⟩
  exact h
def S13 : Prop := ∀ (w : World) (χ : Nat → Nat) (l_ : List (List Ref05_Token)) (a1 : Option Addr) (c1 : Nat), preS l_ → RS (tSlice tRef05_Token) w χ a1 l_ c1 → Ret Tryd.prog 13 #[.slice a1 l_.length c1] xnone w χ (fun w χ' v => ∃ (ra1 : Option Addr) (rc1 : Nat), v = .slice ra1 (ref24_Said l_).length rc1 ∧ RS (tSlice tRef05_Token) w χ' ra1 (ref24_Said l_) rc1)
theorem hb13 : hasBody Tryd.prog 13 = true := by kernel_rfl
/-- replevin/replevinref24.Said -/
theorem W13 (w0 : World) (χ0 : Nat → Nat) (l_ : List (List Ref05_Token)) (a1 : Option Addr) (c1 : Nat) (Q : (List (List Ref05_Token)) → Prop) (hm : VC13 l_ Q) (h1 : RS (tSlice tRef05_Token) w0 χ0 a1 l_ c1) :
    Ret Tryd.prog 13 #[.slice a1 l_.length c1] xnone w0 χ0 (fun w χ' v => ∃ r, Q r ∧ ∃ (ra1 : Option Addr) (rc1 : Nat), v = .slice ra1 r.length rc1 ∧ RS (tSlice tRef05_Token) w χ' ra1 r rc1) := by
  unfold VC13 at hm
  replace hm := hm (h1.sm (by kernel_rfl))
  refine enter Tryd.func13 rfl (vals := [.slice a1 l_.length c1]) (by kernel_rfl) ?_
  intro ρ a hS hO hM
  replace h1 := h1.m0 hM
  clear hM
  refine regP T hS (sp := []) (ks := [0]) (bs := []) (sy' := ⟨[(0, V (.slice a1 l_.length c1))], []⟩) (by kernel_rfl) ?_
  intro a hS
  refine regP T hS (sp := []) (ks := [0, 3]) (bs := []) (sy' := ⟨[(0, V (.slice a1 l_.length c1)), (3, V (.slice none 0 0))], []⟩) (by kernel_rfl) ?_
  intro a hS
  refine wcut (fun a w => ∃ (ρ : Nat → Nat) (χ : Nat → Nat) (out_101 : List (List Ref05_Token)) (a102 : Option Addr) (c103 : Nat), VC13_J1 Q out_101 ∧ St Tryd.f13.ntmps ⟨[(3, V (.slice a102 out_101.length c103))], []⟩ ρ a w χ ∧ Old w0 χ0 w χ ∧ OS (tSlice tRef05_Token) 56 w χ 1003 a102 out_101 c103) ?_ ?_
  · refine regP T hS (sp := []) (ks := [0, 3, 4]) (bs := []) (sy' := ⟨[(0, V (.slice a1 l_.length c1)), (3, V (.slice none 0 0)), (4, I 0)], []⟩) (by kernel_rfl) ?_
    intro a hS
    refine wblock ?_
    obtain ⟨I1, μ1, hm0, hm⟩ := hm
    refine wloop (σ := (List (List Ref05_Token)) × Int) (fun s a w => ∃ (ρ : Nat → Nat) (χ : Nat → Nat) (a109 : Option Addr) (c110 : Nat), I1 s.1 s.2 ∧ St Tryd.f13.ntmps ⟨[(0, V (.slice a1 l_.length c1)), (3, V (.slice a109 s.1.length c110)), (4, I s.2)], []⟩ ρ a w χ ∧ Old w0 χ0 w χ ∧ RS (tSlice tRef05_Token) w χ a1 l_ c1 ∧ OS (tSlice tRef05_Token) 56 w χ 1003 a109 s.1 c110) (fun s => μ1 s.1 s.2) (⟨[], 0⟩) ?_ ?_
    · exact ⟨ρ, _, none, 0, hm0, hS.sel [0, 3, 4] [] (by kernel_rfl), hO, h1, (OS.nil _ _ _ _ _)⟩
    · rintro ⟨out_108, i_112⟩ a w142 ⟨ρ, χ141, a109, c110, hI, hS, hO, h107, h111⟩
      replace hm := hm out_108 i_112 hI
      clear hI hm0
      refine wseq ?_
      refine regP T hS (sp := []) (ks := [0, 3, 4, 8]) (bs := []) (sy' := ⟨[(0, V (.slice a1 l_.length c1)), (3, V (.slice a109 out_108.length c110)), (4, I i_112), (8, B (decide (i_112 < ((l_.length : Nat) : Int))))], []⟩) (by kernel_rfl) ?_
      intro a hS
      refine wcond hS (b := decide (i_112 < ((l_.length : Nat) : Int))) (by kernel_rfl) (fun hb => ?_) (fun hb => ?_)
      · replace hm := hm.1 hb
        refine wskip ?_
        refine wcut (fun a w => ∃ (ρ : Nat → Nat) (χ : Nat → Nat) (out_114 : List (List Ref05_Token)) (a115 : Option Addr) (c116 : Nat), VC13_J2 I1 μ1 out_108 i_112 out_114 ∧ St Tryd.f13.ntmps ⟨[(0, V (.slice a1 l_.length c1)), (3, V (.slice a115 out_114.length c116)), (4, I i_112)], []⟩ ρ a w χ ∧ Old w0 χ0 w χ ∧ RS (tSlice tRef05_Token) w χ a1 l_ c1 ∧ OS (tSlice tRef05_Token) 56 w χ 1003 a115 out_114 c116) ?_ ?_
        · refine wblock ?_
          refine regO ?_
          refine opsP T hS 2 (sp := []) (ks := [0, 3, 4, 11, 12]) (bs := []) (sy' := ⟨[(0, V (.slice a1 l_.length c1)), (3, V (.slice a109 out_108.length c110)), (4, I i_112), (11, V (.slice a1 l_.length c1)), (12, I i_112)], []⟩) (by kernel_rfl) ?_
          intro a hS
          obtain ⟨hq, hm⟩ := hm
          refine op1 (index (e := 56) (k := .i64) T hS (by kernel_rfl) (by kernel_rfl) (by kernel_rfl) (by kernel_rfl) h107 (by kernel_rfl) (by kernel_rfl) hq.1 hq.2 ?_)
          intro A118 a h119 hS
          clear hq
          refine op1 (load1 T hS (by kernel_rfl) (by kernel_rfl) (by kernel_rfl) h119 rfl (by kernel_rfl) ?_)
          intro v120 a hv hS
          obtain ⟨a121, c122, hv, h123⟩ := hv
          cases hv
          replace hm := hm (h123.sm (by kernel_rfl))
          refine endP T hS (sp := []) (ks := [0, 3, 4, 16]) (bs := []) (sy' := ⟨[(0, V (.slice a1 l_.length c1)), (3, V (.slice a109 out_108.length c110)), (4, I i_112), (16, B (decide ((((gi l_ i_112).length : Nat) : Int) > 0)))], []⟩) (by kernel_rfl) ?_
          intro a hS
          refine wcond hS (b := decide ((((gi l_ i_112).length : Nat) : Int) > 0)) (by kernel_rfl) (fun hb => ?_) (fun hb => ?_)
          · replace hm := hm.1 hb
            refine region ?_
            refine opsP T hS 3 (sp := []) (ks := [0, 3, 4, 17, 18, 19]) (bs := []) (sy' := ⟨[(0, V (.slice a1 l_.length c1)), (3, V (.slice a109 out_108.length c110)), (4, I i_112), (17, V (.slice a109 out_108.length c110)), (18, V (.slice a1 l_.length c1)), (19, I i_112)], []⟩) (by kernel_rfl) ?_
            intro a hS
            obtain ⟨hq, hm⟩ := hm
            refine op1 (index (e := 56) (k := .i64) T hS (by kernel_rfl) (by kernel_rfl) (by kernel_rfl) (by kernel_rfl) h107 (by kernel_rfl) (by kernel_rfl) hq.1 hq.2 ?_)
            intro A124 a h125 hS
            clear hq
            refine op1 (load1 T hS (by kernel_rfl) (by kernel_rfl) (by kernel_rfl) h125 rfl (by kernel_rfl) ?_)
            intro v126 a hv hS
            obtain ⟨a127, c128, hv, h129⟩ := hv
            cases hv
            replace hm := hm (h129.sm (by kernel_rfl))
            refine op1 (lit (E := 56) (col := 0) (T := (tSlice tRef05_Token)) (vals := [.slice a127 (gi l_ i_112).length c128]) (ys := [gi l_ i_112]) T hS (by kernel_rfl) (by kernel_rfl) (by kernel_rfl) (by kernel_rfl) (by exact ⟨⟨a127, c128, rfl, h129⟩, trivial⟩) rfl (by kernel_rfl) (by kernel_rfl) (by kernel_rfl) (by kernel_rfl) ?_)
            intro b130 a w131 χ132 hE h133 hN hS
            clear hN
            replace hO := hO.mv hE rfl rfl
            replace h107 := h107.mv hE rfl
            replace h111 := h111.mv hE rfl rfl
            replace h125 := h125.mv hE rfl
            replace h129 := h129.mv hE rfl
            clear hE
            replace h133 := h133.rs0
            obtain ⟨hq, hm⟩ := hm
            obtain ⟨news, hN⟩ := h133.src
            refine op1 (append (E := 56) (T := (tSlice tRef05_Token)) (col := 1003) (xs := out_108) T hS (by kernel_rfl) (by kernel_rfl) (by kernel_rfl) (by kernel_rfl) h111 hN (by kernel_rfl) (by kernel_rfl) (by kernel_rfl) (by kernel_rfl) hq ?_)
            intro a137 c138 a w134 χ135 hE h136 hS
            clear hq hN
            clear h111
            replace hO := hO.mv hE rfl rfl
            replace h107 := h107.mv hE rfl
            replace h125 := h125.mv hE rfl
            replace h129 := h129.mv hE rfl
            replace h133 := h133.mv hE rfl
            clear hE
            refine endP T hS (sp := []) (ks := [0, 3, 4]) (bs := []) (sy' := ⟨[(0, V (.slice a1 l_.length c1)), (3, V (.slice a137 (out_108 ++ [gi l_ i_112]).length c138)), (4, I i_112)], []⟩) (by kernel_rfl) ?_
            intro a hS
            exact ⟨ρ, _, out_108 ++ [gi l_ i_112], a137, c138, hm, hS.sel [0, 3, 4] [] (by kernel_rfl), hO, h107, h136⟩
          · replace hm := hm.2 hb
            refine wskip ?_
            exact ⟨ρ, _, out_108, a109, c110, hm, hS.sel [0, 3, 4] [] (by kernel_rfl), hO, h107, h111⟩
        · rintro a w140 ⟨ρ, χ139, out_114, a115, c116, hm, hS, hO, h113, h117⟩
          unfold VC13_J2 at hm
          refine region (endP T hS (sp := []) (ks := [0, 3, 4]) (bs := []) (sy' := ⟨[(0, V (.slice a1 l_.length c1)), (3, V (.slice a115 out_114.length c116)), (4, I (IntKind.i64.wrap (i_112 + 1)))], []⟩) (by kernel_rfl) ?_)
          intro a hS
          exact ⟨⟨out_114, IntKind.i64.wrap (i_112 + 1)⟩, ⟨ρ, _, a115, c116, hm.1, hS.sel [0, 3, 4] [] (by kernel_rfl), hO, h113, h117⟩, hm.2⟩
      · replace hm := hm.2 hb
        refine wexit (by rfl) ?_
        exact ⟨ρ, _, out_108, a109, c110, hm, hS.sel [3] [] (by kernel_rfl), hO, h111⟩
  · rintro a w144 ⟨ρ, χ143, out_101, a102, c103, hm, hS, hO, h104⟩
    unfold VC13_J1 at hm
    refine regP T hS (sp := []) (ks := [2]) (bs := []) (sy' := ⟨[(2, V (.slice a102 out_101.length c103))], []⟩) (by kernel_rfl) ?_
    intro a hS
    refine wret ?_
    obtain ⟨χ105, hE, hF⟩ := h104.freeze (by decide)
    replace hS := hS.ev hE (xone_box (by kernel_rfl))
    replace hO := hO.mv hE rfl rfl
    have h106 := hF; clear hE hF
    exact fin T hS hO (fun c => c) rfl (r := [.slice a102 out_101.length c103]) (by kernel_rfl) (fun χ' hM hC => ⟨out_101, hm, a102, c103, rfl, h106.m0 hM⟩)
theorem C13 (v : ∀ (l_ : List (List Ref05_Token)), preS l_ → VC13 l_ (fun r => r = ref24_Said l_)) : S13 := by
  intro w χ l_ a1 c1   hp h1
  refine (W13 w χ l_ a1 c1   _ (v l_ hp) h1).mono ?_
  rintro _ _ _ _ ⟨r, rfl, h⟩
  exact h
def S32 : Prop := ∀ (w : World) (χ : Nat → Nat) (l_ : List (List Ref05_Token)) (i_ : Int) (word : List UInt8) (end_ : Int) (a1 : Option Addr) (c1 : Nat), preL l_ i_ word end_ → RS (tSlice tRef05_Token) w χ a1 l_ c1 → Ret Tryd.prog 32 #[.slice a1 l_.length c1, .int .i64 i_, .string (bs word), .int .i64 end_] xnone w χ (fun w χ' v => ∃ (ra1 : Option Addr) (rc1 : Nat), v = .tuple #[.slice ra1 ((ref24_line l_ i_ word end_).1).length rc1, .int .i64 ((ref24_line l_ i_ word end_).2.1), .int .i64 ((ref24_line l_ i_ word end_).2.2)] ∧ RS tI w χ' ra1 ((ref24_line l_ i_ word end_).1) rc1)
theorem hb32 : hasBody Tryd.prog 32 = true := by kernel_rfl
/-- replevin/replevinref24.line -/
theorem W32 (k22 : S22) (w0 : World) (χ0 : Nat → Nat) (l_ : List (List Ref05_Token)) (i_ : Int) (word : List UInt8) (end_ : Int) (a1 : Option Addr) (c1 : Nat) (Q : (List Int) × Int × Int → Prop) (hm : VC32 l_ i_ word end_ Q) (h1 : RS (tSlice tRef05_Token) w0 χ0 a1 l_ c1) :
    Ret Tryd.prog 32 #[.slice a1 l_.length c1, .int .i64 i_, .string (bs word), .int .i64 end_] xnone w0 χ0 (fun w χ' v => ∃ r, Q r ∧ ∃ (ra1 : Option Addr) (rc1 : Nat), v = .tuple #[.slice ra1 r.1.length rc1, .int .i64 r.2.1, .int .i64 r.2.2] ∧ RS tI w χ' ra1 r.1 rc1) := by
  unfold VC32 at hm
  replace hm := hm (h1.sm (by kernel_rfl))
  refine enter Tryd.func32 rfl (vals := [.slice a1 l_.length c1, .int .i64 i_, .string (bs word), .int .i64 end_]) (by kernel_rfl) ?_
  intro ρ a hS hO hM
  replace h1 := h1.m0 hM
  clear hM
  refine regP T hS (sp := []) (ks := [0, 1, 2, 3]) (bs := []) (sy' := ⟨[(0, V (.slice a1 l_.length c1)), (1, I i_), (2, V (.string (bs word))), (3, I end_)], []⟩) (by kernel_rfl) ?_
  intro a hS
  refine wseq ?_
  refine regP T hS (sp := []) (ks := [0, 1, 2, 3, 14]) (bs := []) (sy' := ⟨[(0, V (.slice a1 l_.length c1)), (1, I i_), (2, V (.string (bs word))), (3, I end_), (14, B (decide (i_ ≥ ((l_.length : Nat) : Int))))], []⟩) (by kernel_rfl) ?_
  intro a hS
  refine wcond hS (b := decide (i_ ≥ ((l_.length : Nat) : Int))) (by kernel_rfl) (fun hb => ?_) (fun hb => ?_)
  · replace hm := hm.1 hb
    refine regP T hS (sp := []) (ks := [8, 9, 10]) (bs := []) (sy' := ⟨[(8, V (.slice none 0 0)), (9, I end_), (10, I 4)], []⟩) (by kernel_rfl) ?_
    intro a hS
    refine wret ?_
    exact fin T hS hO (fun c => c) rfl (r := [.slice none 0 0, .int .i64 end_, .int .i64 4]) (by kernel_rfl) (fun χ' hM hC => ⟨([], end_, 4), hm, none, 0, rfl, RS.empty _ _ _⟩)
  · replace hm := hm.2 hb
    refine wskip ?_
    refine regO ?_
    refine opsP T hS 2 (sp := []) (ks := [2, 3, 16, 17]) (bs := []) (sy' := ⟨[(2, V (.string (bs word))), (3, I end_), (16, V (.slice a1 l_.length c1)), (17, I i_)], []⟩) (by kernel_rfl) ?_
    intro a hS
    obtain ⟨hq, hm⟩ := hm
    refine op1 (index (e := 56) (k := .i64) T hS (by kernel_rfl) (by kernel_rfl) (by kernel_rfl) (by kernel_rfl) h1 (by kernel_rfl) (by kernel_rfl) hq.1 hq.2 ?_)
    intro A101 a h102 hS
    clear hq
    refine op1 (load1 T hS (by kernel_rfl) (by kernel_rfl) (by kernel_rfl) h102 rfl (by kernel_rfl) ?_)
    intro v103 a hv hS
    obtain ⟨a104, c105, hv, h106⟩ := hv
    cases hv
    replace hm := hm (h106.sm (by kernel_rfl))
    refine opsP T hS 1 (sp := []) (ks := [3, 19, 20]) (bs := []) (sy' := ⟨[(3, I end_), (19, V (.slice a104 (gi l_ i_).length c105)), (20, V (.string (bs word)))], []⟩) (by kernel_rfl) ?_
    intro a hS
    refine op1 (lit (E := 3) (col := 0) (T := tI) (vals := [.int .i64 0, .int .i64 0, .int .i64 0, .int .i64 0]) (ys := [0, 0, 0, 0]) T hS (by kernel_rfl) (by kernel_rfl) (by kernel_rfl) (by kernel_rfl) (by exact ⟨rfl, rfl, rfl, rfl, trivial⟩) rfl (by kernel_rfl) (by kernel_rfl) (by kernel_rfl) (by kernel_rfl) ?_)
    intro b107 a w108 χ109 hE h110 hN hS
    clear hN
    replace hO := hO.mv hE rfl rfl
    replace h106 := h106.mv hE rfl
    clear hE
    replace h110 := h110.rs0
    refine op1 (lit (E := 3) (col := 0) (T := tI) (vals := [.int .i64 1000000, .int .i64 1000000, .int .i64 1000000, .int .i64 1000000]) (ys := [1000000, 1000000, 1000000, 1000000]) T hS (by kernel_rfl) (by kernel_rfl) (by kernel_rfl) (by kernel_rfl) (by exact ⟨rfl, rfl, rfl, rfl, trivial⟩) rfl (by kernel_rfl) (by kernel_rfl) (by kernel_rfl) (by kernel_rfl) ?_)
    intro b111 a w112 χ113 hE h114 hN hS
    clear hN
    replace hO := hO.mv hE rfl rfl
    replace h106 := h106.mv hE rfl
    replace h110 := h110.mv hE rfl
    clear hE
    replace h114 := h114.rs0
    refine opsP T hS 1 (sp := []) (ks := [19, 20, 21, 22, 23]) (bs := []) (sy' := ⟨[(19, V (.slice a104 (gi l_ i_).length c105)), (20, V (.string (bs word))), (21, V (.slice (some ⟨b107, 0, none⟩) [0, 0, 0, 0].length 4)), (22, V (.slice (some ⟨b111, 0, none⟩) [1000000, 1000000, 1000000, 1000000].length 4)), (23, I end_)], []⟩) (by kernel_rfl) ?_
    intro a hS
    obtain ⟨hq, hm⟩ := hm
    refine op1 (call hS (by kernel_rfl) (by kernel_rfl) hb22 (by kernel_rfl) (fun _ _ => rfl) (k22 _ _ (gi l_ i_) word [0, 0, 0, 0] [1000000, 1000000, 1000000, 1000000] end_ a104 c105 (some ⟨b107, 0, none⟩) 4 (some ⟨b111, 0, none⟩) 4 hq h106 h110 h114) ?_)
    intro v115 a w116 χ117 hE hp hS
    clear hq
    replace hO := hO.mv hE rfl rfl
    replace h106 := h106.mv hE rfl
    replace h110 := h110.mv hE rfl
    replace h114 := h114.mv hE rfl
    clear hE
    obtain ⟨a119, c120, hp, h121⟩ := hp
    obtain ⟨r118, hr⟩ : ∃ r, ref24_Numbers (gi l_ i_) word [0, 0, 0, 0] [1000000, 1000000, 1000000, 1000000] end_ = r := ⟨_, rfl⟩
    replace hm := hm r118 hr
    rw [hr] at hp h121
    clear hr
    subst hp
    replace hm := hm (h121.sm (by kernel_rfl))
    refine endP T hS (sp := []) (ks := [8, 9, 10]) (bs := []) (sy' := ⟨[(8, V (.slice a119 r118.1.length c120)), (9, I r118.2.1), (10, I r118.2.2)], []⟩) (by kernel_rfl) ?_
    intro a hS
    refine wret ?_
    exact fin T hS hO (fun c => c) rfl (r := [.slice a119 r118.1.length c120, .int .i64 r118.2.1, .int .i64 r118.2.2]) (by kernel_rfl) (fun χ' hM hC => ⟨(r118.1, r118.2.1, r118.2.2), hm, a119, c120, rfl, h121.m0 hM⟩)
theorem C32 (k22 : S22) (v : ∀ (l_ : List (List Ref05_Token)) (i_ : Int) (word : List UInt8) (end_ : Int), preL l_ i_ word end_ → VC32 l_ i_ word end_ (fun r => r = ref24_line l_ i_ word end_)) : S32 := by
  intro w χ l_ i_ word end_ a1 c1   hp h1
  refine (W32 k22 w χ l_ i_ word end_ a1 c1   _ (v l_ i_ word end_ hp) h1).mono ?_
  rintro _ _ _ _ ⟨r, rfl, h⟩
  exact h
def S15 : Prop := ∀ (w : World) (χ : Nat → Nat) (l_ : List (List Ref05_Token)) (end_ : Int) (a1 : Option Addr) (c1 : Nat), preRT l_ end_ → RS (tSlice tRef05_Token) w χ a1 l_ c1 → Ret Tryd.prog 15 #[.slice a1 l_.length c1, .int .i64 end_] xnone w χ (fun w χ' v => ∃ (ra1 : Option Addr) (rc1 : Nat), v = .tuple #[.agg #[.int .i64 (((ref24_Take l_ end_).1).States), .int .i64 (((ref24_Take l_ end_).1).Kinds), .int .i64 (((ref24_Take l_ end_).1).Init), .slice ra1 (((ref24_Take l_ end_).1).Rows).length rc1], .int .i64 ((ref24_Take l_ end_).2.1), .int .i64 ((ref24_Take l_ end_).2.2.1), .int .i64 ((ref24_Take l_ end_).2.2.2)] ∧ RS tApi_Row w χ' ra1 (((ref24_Take l_ end_).1).Rows) rc1)
theorem hb15 : hasBody Tryd.prog 15 = true := by kernel_rfl
/-- replevin/replevinref24.Take -/
theorem W15 (k32 : S32) (k33 : S33) (w0 : World) (χ0 : Nat → Nat) (l_ : List (List Ref05_Token)) (end_ : Int) (a1 : Option Addr) (c1 : Nat) (Q : Api_Object × Int × Int × Int → Prop) (hm : VC15 l_ end_ Q) (h1 : RS (tSlice tRef05_Token) w0 χ0 a1 l_ c1) :
    Ret Tryd.prog 15 #[.slice a1 l_.length c1, .int .i64 end_] xnone w0 χ0 (fun w χ' v => ∃ r, Q r ∧ ∃ (ra1 : Option Addr) (rc1 : Nat), v = .tuple #[.agg #[.int .i64 r.1.States, .int .i64 r.1.Kinds, .int .i64 r.1.Init, .slice ra1 r.1.Rows.length rc1], .int .i64 r.2.1, .int .i64 r.2.2.1, .int .i64 r.2.2.2] ∧ RS tApi_Row w χ' ra1 r.1.Rows rc1) := by
  unfold VC15 at hm
  replace hm := hm (h1.sm (by kernel_rfl))
  refine enter Tryd.func15 rfl (vals := [.slice a1 l_.length c1, .int .i64 end_]) (by kernel_rfl) ?_
  intro ρ a hS hO hM
  replace h1 := h1.m0 hM
  clear hM
  refine regM T hS (sp := []) (ks := [0, 1, 4]) (bs := [5]) (sy' := ⟨[(0, V (.slice a1 l_.length c1)), (1, I end_), (4, Pt 5 0)], [(5, (25, [I 0, I 0, I 0, V (.slice none 0 0)]))]⟩) (by kernel_rfl) ?_
  intro ρ a w234 χ235 hS hE hr
  replace hO := hO.mv hE rfl rfl
  replace h1 := h1.mv hE rfl
  clear hE hr
  refine regO ?_
  refine opsP T hS 2 (sp := []) (ks := [0, 1, 4, 18, 19]) (bs := [5]) (sy' := ⟨[(0, V (.slice a1 l_.length c1)), (1, I end_), (4, Pt 5 0), (18, V (.slice a1 l_.length c1)), (19, I end_)], [(5, (25, [I 0, I 0, I 0, V (.slice none 0 0)]))]⟩) (by kernel_rfl) ?_
  intro a hS
  obtain ⟨hq, hm⟩ := hm
  refine op1 (call hS (by kernel_rfl) (by kernel_rfl) hb32 (by kernel_rfl) (fun _ _ => rfl) (k32 _ _ l_ 0 ([111, 98, 106, 101, 99, 116] : List UInt8) end_ a1 c1 hq h1) ?_)
  intro v101 a w102 χ103 hE hp hS
  clear hq
  replace hO := hO.mv hE rfl rfl
  replace h1 := h1.mv hE rfl
  clear hE
  obtain ⟨a105, c106, hp, h107⟩ := hp
  obtain ⟨r104, hr⟩ : ∃ r, ref24_line l_ 0 ([111, 98, 106, 101, 99, 116] : List UInt8) end_ = r := ⟨_, rfl⟩
  replace hm := hm r104 hr
  rw [hr] at hp h107
  clear hr
  subst hp
  replace hm := hm (h107.sm (by kernel_rfl))
  refine endP T hS (sp := []) (ks := [0, 1, 4, 8, 9, 10]) (bs := [5]) (sy' := ⟨[(0, V (.slice a1 l_.length c1)), (1, I end_), (4, Pt 5 0), (8, V (.slice a105 r104.1.length c106)), (9, I r104.2.1), (10, I r104.2.2)], [(5, (25, [I 0, I 0, I 0, V (.slice none 0 0)]))]⟩) (by kernel_rfl) ?_
  intro a hS
  refine wseq ?_
  refine regP T hS (sp := []) (ks := [0, 1, 4, 8, 9, 10, 25]) (bs := [5]) (sy' := ⟨[(0, V (.slice a1 l_.length c1)), (1, I end_), (4, Pt 5 0), (8, V (.slice a105 r104.1.length c106)), (9, I r104.2.1), (10, I r104.2.2), (25, B (r104.2.2 != 0))], [(5, (25, [I 0, I 0, I 0, V (.slice none 0 0)]))]⟩) (by kernel_rfl) ?_
  intro a hS
  refine wcond hS (b := (r104.2.2 != 0)) (by kernel_rfl) (fun hb => ?_) (fun hb => ?_)
  · replace hm := hm.1 hb
    refine regM T hS (sp := []) (ks := [4, 5, 6, 7]) (bs := [5]) (sy' := ⟨[(4, Pt 5 0), (5, I 0), (6, I r104.2.1), (7, I r104.2.2)], [(5, (25, [I 0, I 0, I 0, V (.slice none 0 0)]))]⟩) (by kernel_rfl) ?_
    intro ρ a w108 χ109 hS hE hr
    replace hO := hO.mv hE rfl rfl
    clear hE hr
    refine wret ?_
    exact fin T hS hO (fun c => c) rfl (r := [.agg #[.int .i64 0, .int .i64 0, .int .i64 0, .slice none 0 0], .int .i64 0, .int .i64 r104.2.1, .int .i64 r104.2.2]) (by kernel_rfl) (fun χ' hM hC => ⟨((⟨0, 0, 0, []⟩ : Api_Object), 0, r104.2.1, r104.2.2), hm, none, 0, rfl, RS.empty _ _ _⟩)
  · replace hm := hm.2 hb
    refine wskip ?_
    refine drawnSX [5] mixed hS ?_
    intro w110 χ111 hS hE hD hH
    replace hO := hO.mv hE rfl rfl
    replace h1 := h1.mv hE rfl
    replace h107 := h107.mv hE rfl
    clear hE
    refine take T [0, 3, 6] [5] [0, 1, 4, 8, 29, 32, 35] hS (by kernel_rfl) (by kernel_rfl) (by kernel_rfl) hH (listed' := #[true, false, false, true, false, false, true, false, false, false, false, false]) (fuel := 9) (sy' := ⟨[(0, V (.slice a1 l_.length c1)), (1, I end_), (4, Pt 5 0), (8, V (.slice a105 r104.1.length c106)), (29, V (.slice a105 r104.1.length c106)), (32, V (.slice a105 r104.1.length c106)), (35, V (.slice a105 r104.1.length c106))], [(5, (25, [I 0, I 0, I 0, V (.slice none 0 0)]))]⟩) (by kernel_rfl) (by rfl) ?_
    intro a hS
    obtain ⟨hq, hm⟩ := hm
    refine dindex (e := 3) (k := .i64) T 1 hS (by kernel_rfl) (by kernel_rfl) (by kernel_rfl) (by rfl) (by kernel_rfl) hH (by kernel_rfl) (by kernel_rfl) h107 (by kernel_rfl) (by kernel_rfl) hq.1 hq.2 ?_
    intro A112 a h113 hS
    clear hq
    have h113b := h113.here
    refine dload1 T 2 hS (by kernel_rfl) (by kernel_rfl) (by kernel_rfl) (by rfl) (by kernel_rfl) hH (by kernel_rfl) h113 h113b rfl (by kernel_rfl) ?_
    intro v114 a hv hS
    cases hv
    obtain ⟨hq, hm⟩ := hm
    refine dindex (e := 3) (k := .i64) T 4 hS (by kernel_rfl) (by kernel_rfl) (by kernel_rfl) (by rfl) (by kernel_rfl) hH (by kernel_rfl) (by kernel_rfl) h107 (by kernel_rfl) (by kernel_rfl) hq.1 hq.2 ?_
    intro A115 a h116 hS
    clear hq
    have h116b := h116.here
    refine dload1 T 5 hS (by kernel_rfl) (by kernel_rfl) (by kernel_rfl) (by rfl) (by kernel_rfl) hH (by kernel_rfl) h116 h116b rfl (by kernel_rfl) ?_
    intro v117 a hv hS
    cases hv
    obtain ⟨hq, hm⟩ := hm
    refine dindex (e := 3) (k := .i64) T 7 hS (by kernel_rfl) (by kernel_rfl) (by kernel_rfl) (by rfl) (by kernel_rfl) hH (by kernel_rfl) (by kernel_rfl) h107 (by kernel_rfl) (by kernel_rfl) hq.1 hq.2 ?_
    intro A118 a h119 hS
    clear hq
    have h119b := h119.here
    refine dload1 T 8 hS (by kernel_rfl) (by kernel_rfl) (by kernel_rfl) (by rfl) (by kernel_rfl) hH (by kernel_rfl) h119 h119b rfl (by kernel_rfl) ?_
    intro v120 a hv hS
    cases hv
    refine take T [9] [5] [0, 1, 4, 8, 38] hS (by kernel_rfl) (by kernel_rfl) (by kernel_rfl) hH (listed' := #[true, true, true, true, true, true, true, true, true, true, false, false]) (fuel := 2) (sy' := ⟨[(0, V (.slice a1 l_.length c1)), (1, I end_), (4, Pt 5 0), (8, V (.slice a105 r104.1.length c106)), (38, V (.agg #[.int .i64 (gi r104.1 0), .int .i64 (gi r104.1 1), .int .i64 (gi r104.1 2), .slice none 0 0]))], [(5, (25, [I 0, I 0, I 0, V (.slice none 0 0)]))]⟩) (by kernel_rfl) (by rfl) ?_
    intro a hS
    replace hS := hS.sel [0, 1, 4, 8, 38] [5] (sy' := ⟨[(0, V (.slice a1 l_.length c1)), (1, I end_), (4, Pt 5 0), (8, V (.slice a105 r104.1.length c106)), (38, V (.agg #[.int .i64 (gi r104.1 0), .int .i64 (gi r104.1 1), .int .i64 (gi r104.1 2), .slice none 0 0]))], [(5, (25, [I 0, I 0, I 0, V (.slice none 0 0)]))]⟩) (by kernel_rfl)
    refine only 10 (by kernel_rfl) (by rfl) (box1 T hS (by kernel_rfl) (by kernel_rfl) (by kernel_rfl) (sy' := ⟨[(11, Pt 12 0), (0, V (.slice a1 l_.length c1)), (1, I end_), (4, Pt 5 0), (8, V (.slice a105 r104.1.length c106)), (38, V (.agg #[.int .i64 (gi r104.1 0), .int .i64 (gi r104.1 1), .int .i64 (gi r104.1 2), .slice none 0 0]))], [(12, (25, [I 0, I 0, I 0, V (.slice none 0 0)])), (5, (25, [I 0, I 0, I 0, V (.slice none 0 0)]))]⟩) (by kernel_rfl) ?_)
    intro ρ a w121 χ122 hS hE hr123
    replace hO := hO.mv hE rfl rfl
    replace hD := hD.ev hE rfl
    replace h1 := h1.mv hE rfl
    replace h107 := h107.mv hE rfl
    replace h113 := h113.mv hE rfl
    replace h116 := h116.mv hE rfl
    replace h119 := h119.mv hE rfl
    clear hE
    replace hS := hS.sel [0, 1, 4, 8, 38, 11] [5, 12] (sy' := ⟨[(0, V (.slice a1 l_.length c1)), (1, I end_), (4, Pt 5 0), (8, V (.slice a105 r104.1.length c106)), (38, V (.agg #[.int .i64 (gi r104.1 0), .int .i64 (gi r104.1 1), .int .i64 (gi r104.1 2), .slice none 0 0])), (11, Pt 12 0)], [(5, (25, [I 0, I 0, I 0, V (.slice none 0 0)])), (12, (25, [I 0, I 0, I 0, V (.slice none 0 0)]))]⟩) (by kernel_rfl)
    refine andH ((Hold.of hS (bks := [5]) (by kernel_rfl) hD).rho hr123 (by kernel_rfl)) ?_
    intro hH
    replace hS := hS.sel [0, 1, 4, 8, 38, 11] [5, 12] (sy' := ⟨[(0, V (.slice a1 l_.length c1)), (1, I end_), (4, Pt 5 0), (8, V (.slice a105 r104.1.length c106)), (38, V (.agg #[.int .i64 (gi r104.1 0), .int .i64 (gi r104.1 1), .int .i64 (gi r104.1 2), .slice none 0 0])), (11, Pt 12 0)], [(5, (25, [I 0, I 0, I 0, V (.slice none 0 0)])), (12, (25, [I 0, I 0, I 0, V (.slice none 0 0)]))]⟩) (by kernel_rfl)
    refine only 11 (by kernel_rfl) (by rfl) (store1 T hS (by kernel_rfl) (by kernel_rfl) (sy' := ⟨[(0, V (.slice a1 l_.length c1)), (1, I end_), (4, Pt 5 0), (8, V (.slice a105 r104.1.length c106)), (38, V (.agg #[.int .i64 (gi r104.1 0), .int .i64 (gi r104.1 1), .int .i64 (gi r104.1 2), .slice none 0 0])), (11, Pt 12 0)], [(12, (25, [I (gi r104.1 0), I (gi r104.1 1), I (gi r104.1 2), V (.slice none 0 0)])), (5, (25, [I 0, I 0, I 0, V (.slice none 0 0)])), (12, (25, [I 0, I 0, I 0, V (.slice none 0 0)]))]⟩) (by kernel_rfl) ?_)
    intro a w124 χ125 hS hE
    replace hO := hO.mv hE rfl rfl
    replace hD := hD.ev hE rfl
    replace h1 := h1.mv hE rfl
    replace h107 := h107.mv hE rfl
    replace h113 := h113.mv hE rfl
    replace h116 := h116.mv hE rfl
    replace h119 := h119.mv hE rfl
    clear hE
    replace hS := hS.sel [0, 1, 4, 8, 38, 11] [5, 12] (sy' := ⟨[(0, V (.slice a1 l_.length c1)), (1, I end_), (4, Pt 5 0), (8, V (.slice a105 r104.1.length c106)), (38, V (.agg #[.int .i64 (gi r104.1 0), .int .i64 (gi r104.1 1), .int .i64 (gi r104.1 2), .slice none 0 0])), (11, Pt 12 0)], [(5, (25, [I 0, I 0, I 0, V (.slice none 0 0)])), (12, (25, [I (gi r104.1 0), I (gi r104.1 1), I (gi r104.1 2), V (.slice none 0 0)]))]⟩) (by kernel_rfl)
    refine andH ((Hold.of hS (bks := [5]) (by kernel_rfl) hD).rho hr123 (by kernel_rfl)) ?_
    intro hH
    refine drawnDone (by kernel_rfl) ?_
    clear hD hH
    replace hS := hS.sel [0, 1, 4, 8, 11] [5, 12] (sy' := ⟨[(0, V (.slice a1 l_.length c1)), (1, I end_), (4, Pt 5 0), (8, V (.slice a105 r104.1.length c106)), (11, Pt 12 0)], [(5, (25, [I 0, I 0, I 0, V (.slice none 0 0)])), (12, (25, [I (gi r104.1 0), I (gi r104.1 1), I (gi r104.1 2), V (.slice none 0 0)]))]⟩) (by kernel_rfl)
    refine wcut (fun a w => ∃ (ρ : Nat → Nat) (χ : Nat → Nat) (x_128 : Int) (x_129 : Int) (x_130 : Int) (x_131 : List Api_Row) (a132 : Option Addr) (c133 : Nat), VC15_J1 l_ end_ Q r104 x_128 x_129 x_130 x_131 ∧ St Tryd.f15.ntmps ⟨[(0, V (.slice a1 l_.length c1)), (1, I end_), (4, Pt 5 0), (8, V (.slice a105 r104.1.length c106)), (11, Pt 12 0)], [(5, (25, [I 0, I 0, I 0, V (.slice none 0 0)])), (12, (25, [I x_128, I x_129, I x_130, V (.slice a132 x_131.length c133)]))]⟩ ρ a w χ ∧ Old w0 χ0 w χ ∧ RS (tSlice tRef05_Token) w χ a1 l_ c1 ∧ RS tI w χ a105 r104.1 c106 ∧ OS tApi_Row 66 w χ 1061 a132 x_131 c133) ?_ ?_
    · refine regP T hS (sp := []) (ks := [0, 1, 4, 8, 11, 12]) (bs := [5, 12]) (sy' := ⟨[(0, V (.slice a1 l_.length c1)), (1, I end_), (4, Pt 5 0), (8, V (.slice a105 r104.1.length c106)), (11, Pt 12 0), (12, I 1)], [(5, (25, [I 0, I 0, I 0, V (.slice none 0 0)])), (12, (25, [I (gi r104.1 0), I (gi r104.1 1), I (gi r104.1 2), V (.slice none 0 0)]))]⟩) (by kernel_rfl) ?_
      intro a hS
      refine wblock ?_
      obtain ⟨I1, μ1, hm0, hm⟩ := hm
      refine wloop (σ := Int × Int × Int × Int × (List Api_Row)) (fun s a w => ∃ (ρ : Nat → Nat) (χ : Nat → Nat) (a170 : Option Addr) (c171 : Nat), I1 s.1 s.2.1 s.2.2.1 s.2.2.2.1 s.2.2.2.2 ∧ St Tryd.f15.ntmps ⟨[(0, V (.slice a1 l_.length c1)), (1, I end_), (4, Pt 5 0), (8, V (.slice a105 r104.1.length c106)), (11, Pt 12 0), (12, I s.1)], [(5, (25, [I 0, I 0, I 0, V (.slice none 0 0)])), (12, (25, [I s.2.1, I s.2.2.1, I s.2.2.2.1, V (.slice a170 s.2.2.2.2.length c171)]))]⟩ ρ a w χ ∧ Old w0 χ0 w χ ∧ RS (tSlice tRef05_Token) w χ a1 l_ c1 ∧ RS tI w χ a105 r104.1 c106 ∧ OS tApi_Row 66 w χ 1061 a170 s.2.2.2.2 c171) (fun s => μ1 s.1 s.2.1 s.2.2.1 s.2.2.2.1 s.2.2.2.2) (⟨1, gi r104.1 0, gi r104.1 1, gi r104.1 2, []⟩) ?_ ?_
      · exact ⟨ρ, _, none, 0, hm0, hS.sel [0, 1, 4, 8, 11, 12] [5, 12] (by kernel_rfl), hO, h1, h107, (OS.nil _ _ _ _ _)⟩
      · rintro ⟨i_165, x_166, x_167, x_168, x_169⟩ a w231 ⟨ρ, χ230, a170, c171, hI, hS, hO, h163, h164, h172⟩
        replace hm := hm i_165 x_166 x_167 x_168 x_169 hI
        clear hI hm0
        refine wseq ?_
        refine regO ?_
        refine opsP T hS 2 (sp := []) (ks := [0, 1, 4, 8, 11, 12, 39, 40]) (bs := [5, 12]) (sy' := ⟨[(0, V (.slice a1 l_.length c1)), (1, I end_), (4, Pt 5 0), (8, V (.slice a105 r104.1.length c106)), (11, Pt 12 0), (12, I i_165), (39, I i_165), (40, V (.slice a105 r104.1.length c106))], [(5, (25, [I 0, I 0, I 0, V (.slice none 0 0)])), (12, (25, [I x_166, I x_167, I x_168, V (.slice a170 x_169.length c171)]))]⟩) (by kernel_rfl) ?_
        intro a hS
        obtain ⟨hq, hm⟩ := hm
        refine op1 (index (e := 3) (k := .i64) T hS (by kernel_rfl) (by kernel_rfl) (by kernel_rfl) (by kernel_rfl) h164 (by kernel_rfl) (by kernel_rfl) hq.1 hq.2 ?_)
        intro A173 a h174 hS
        clear hq
        refine op1 (load1 T hS (by kernel_rfl) (by kernel_rfl) (by kernel_rfl) h174 rfl (by kernel_rfl) ?_)
        intro v175 a hv hS
        cases hv
        refine endP T hS (sp := []) (ks := [0, 1, 4, 8, 11, 12, 43]) (bs := [5, 12]) (sy' := ⟨[(0, V (.slice a1 l_.length c1)), (1, I end_), (4, Pt 5 0), (8, V (.slice a105 r104.1.length c106)), (11, Pt 12 0), (12, I i_165), (43, B (decide (i_165 ≤ (gi r104.1 3))))], [(5, (25, [I 0, I 0, I 0, V (.slice none 0 0)])), (12, (25, [I x_166, I x_167, I x_168, V (.slice a170 x_169.length c171)]))]⟩) (by kernel_rfl) ?_
        intro a hS
        refine wcond hS (b := decide (i_165 ≤ (gi r104.1 3))) (by kernel_rfl) (fun hb => ?_) (fun hb => ?_)
        · replace hm := hm.1 hb
          refine wskip ?_
          refine wseq ?_
          refine wblock ?_
          refine regO ?_
          refine opsP T hS 3 (sp := []) (ks := [0, 1, 4, 8, 11, 12, 47, 48, 49]) (bs := [5, 12]) (sy' := ⟨[(0, V (.slice a1 l_.length c1)), (1, I end_), (4, Pt 5 0), (8, V (.slice a105 r104.1.length c106)), (11, Pt 12 0), (12, I i_165), (47, V (.slice a1 l_.length c1)), (48, I i_165), (49, I end_)], [(5, (25, [I 0, I 0, I 0, V (.slice none 0 0)])), (12, (25, [I x_166, I x_167, I x_168, V (.slice a170 x_169.length c171)]))]⟩) (by kernel_rfl) ?_
          intro a hS
          obtain ⟨hq, hm⟩ := hm
          refine op1 (call hS (by kernel_rfl) (by kernel_rfl) hb32 (by kernel_rfl) (fun _ _ => rfl) (k32 _ _ l_ i_165 ([114, 111, 119] : List UInt8) end_ a1 c1 hq h163) ?_)
          intro v176 a w177 χ178 hE hp hS
          clear hq
          replace hO := hO.mv hE rfl rfl
          replace h163 := h163.mv hE rfl
          replace h164 := h164.mv hE rfl
          replace h172 := h172.mv hE rfl rfl
          clear hE
          obtain ⟨a180, c181, hp, h182⟩ := hp
          obtain ⟨r179, hr⟩ : ∃ r, ref24_line l_ i_165 ([114, 111, 119] : List UInt8) end_ = r := ⟨_, rfl⟩
          replace hm := hm r179 hr
          rw [hr] at hp h182
          clear hr
          subst hp
          replace hm := hm (h182.sm (by kernel_rfl))
          refine endP T hS (sp := []) (ks := [0, 1, 4, 8, 11, 12, 13, 14, 15]) (bs := [5, 12]) (sy' := ⟨[(0, V (.slice a1 l_.length c1)), (1, I end_), (4, Pt 5 0), (8, V (.slice a105 r104.1.length c106)), (11, Pt 12 0), (12, I i_165), (13, V (.slice a180 r179.1.length c181)), (14, I r179.2.1), (15, I r179.2.2)], [(5, (25, [I 0, I 0, I 0, V (.slice none 0 0)])), (12, (25, [I x_166, I x_167, I x_168, V (.slice a170 x_169.length c171)]))]⟩) (by kernel_rfl) ?_
          intro a hS
          refine wseq ?_
          refine regP T hS (sp := []) (ks := [0, 1, 4, 8, 11, 12, 13, 14, 15, 55]) (bs := [5, 12]) (sy' := ⟨[(0, V (.slice a1 l_.length c1)), (1, I end_), (4, Pt 5 0), (8, V (.slice a105 r104.1.length c106)), (11, Pt 12 0), (12, I i_165), (13, V (.slice a180 r179.1.length c181)), (14, I r179.2.1), (15, I r179.2.2), (55, B (r179.2.2 != 0))], [(5, (25, [I 0, I 0, I 0, V (.slice none 0 0)])), (12, (25, [I x_166, I x_167, I x_168, V (.slice a170 x_169.length c171)]))]⟩) (by kernel_rfl) ?_
          intro a hS
          refine wcond hS (b := (r179.2.2 != 0)) (by kernel_rfl) (fun hb => ?_) (fun hb => ?_)
          · replace hm := hm.1 hb
            refine regM T hS (sp := []) (ks := [4, 5, 6, 7]) (bs := [5]) (sy' := ⟨[(4, Pt 5 0), (5, I 0), (6, I r179.2.1), (7, I r179.2.2)], [(5, (25, [I 0, I 0, I 0, V (.slice none 0 0)]))]⟩) (by kernel_rfl) ?_
            intro ρ a w183 χ184 hS hE hr
            replace hO := hO.mv hE rfl rfl
            clear hE hr
            refine wret ?_
            exact fin T hS hO (fun c => c) rfl (r := [.agg #[.int .i64 0, .int .i64 0, .int .i64 0, .slice none 0 0], .int .i64 0, .int .i64 r179.2.1, .int .i64 r179.2.2]) (by kernel_rfl) (fun χ' hM hC => ⟨((⟨0, 0, 0, []⟩ : Api_Object), 0, r179.2.1, r179.2.2), hm, none, 0, rfl, RS.empty _ _ _⟩)
          · replace hm := hm.2 hb
            refine wskip ?_
            refine drawnX [5] mixed hS ?_
            intro w185 χ186 hS hE hD hH
            replace hO := hO.mv hE rfl rfl
            replace h163 := h163.mv hE rfl
            replace h164 := h164.mv hE rfl
            replace h172 := h172.mv hE rfl rfl
            replace h182 := h182.mv hE rfl
            clear hE
            refine take T [0, 2, 5, 8, 11] [5] [0, 1, 4, 8, 11, 12, 59, 61, 64, 67, 70] hS (by kernel_rfl) (by kernel_rfl) (by kernel_rfl) hH (listed' := #[true, false, true, false, false, true, false, false, true, false, false, true, false, false, false, false, false, false, false]) (fuel := 14) (sy' := ⟨[(0, V (.slice a1 l_.length c1)), (1, I end_), (4, Pt 5 0), (8, V (.slice a105 r104.1.length c106)), (11, Pt 12 0), (12, I i_165), (59, Pt 12 3), (61, V (.slice a180 r179.1.length c181)), (64, V (.slice a180 r179.1.length c181)), (67, V (.slice a180 r179.1.length c181)), (70, V (.slice a180 r179.1.length c181))], [(5, (25, [I 0, I 0, I 0, V (.slice none 0 0)])), (12, (25, [I x_166, I x_167, I x_168, V (.slice a170 x_169.length c171)]))]⟩) (by kernel_rfl) (by rfl) ?_
            intro a hS
            obtain ⟨hq, hm⟩ := hm
            refine dindex (e := 3) (k := .i64) T 3 hS (by kernel_rfl) (by kernel_rfl) (by kernel_rfl) (by rfl) (by kernel_rfl) hH (by kernel_rfl) (by kernel_rfl) h182 (by kernel_rfl) (by kernel_rfl) hq.1 hq.2 ?_
            intro A187 a h188 hS
            clear hq
            have h188b := h188.here
            refine dload1 T 4 hS (by kernel_rfl) (by kernel_rfl) (by kernel_rfl) (by rfl) (by kernel_rfl) hH (by kernel_rfl) h188 h188b rfl (by kernel_rfl) ?_
            intro v189 a hv hS
            cases hv
            obtain ⟨hq, hm⟩ := hm
            refine dindex (e := 3) (k := .i64) T 6 hS (by kernel_rfl) (by kernel_rfl) (by kernel_rfl) (by rfl) (by kernel_rfl) hH (by kernel_rfl) (by kernel_rfl) h182 (by kernel_rfl) (by kernel_rfl) hq.1 hq.2 ?_
            intro A190 a h191 hS
            clear hq
            have h191b := h191.here
            refine dload1 T 7 hS (by kernel_rfl) (by kernel_rfl) (by kernel_rfl) (by rfl) (by kernel_rfl) hH (by kernel_rfl) h191 h191b rfl (by kernel_rfl) ?_
            intro v192 a hv hS
            cases hv
            obtain ⟨hq, hm⟩ := hm
            refine dindex (e := 3) (k := .i64) T 9 hS (by kernel_rfl) (by kernel_rfl) (by kernel_rfl) (by rfl) (by kernel_rfl) hH (by kernel_rfl) (by kernel_rfl) h182 (by kernel_rfl) (by kernel_rfl) hq.1 hq.2 ?_
            intro A193 a h194 hS
            clear hq
            have h194b := h194.here
            refine dload1 T 10 hS (by kernel_rfl) (by kernel_rfl) (by kernel_rfl) (by rfl) (by kernel_rfl) hH (by kernel_rfl) h194 h194b rfl (by kernel_rfl) ?_
            intro v195 a hv hS
            cases hv
            obtain ⟨hq, hm⟩ := hm
            refine dindex (e := 3) (k := .i64) T 12 hS (by kernel_rfl) (by kernel_rfl) (by kernel_rfl) (by rfl) (by kernel_rfl) hH (by kernel_rfl) (by kernel_rfl) h182 (by kernel_rfl) (by kernel_rfl) hq.1 hq.2 ?_
            intro A196 a h197 hS
            clear hq
            have h197b := h197.here
            refine dload1 T 13 hS (by kernel_rfl) (by kernel_rfl) (by kernel_rfl) (by rfl) (by kernel_rfl) hH (by kernel_rfl) h197 h197b rfl (by kernel_rfl) ?_
            intro v198 a hv hS
            cases hv
            refine take T [14] [5] [0, 1, 4, 8, 11, 12, 59, 73] hS (by kernel_rfl) (by kernel_rfl) (by kernel_rfl) hH (listed' := #[true, false, true, true, true, true, true, true, true, true, true, true, true, true, true, false, false, false, false]) (fuel := 5) (sy' := ⟨[(0, V (.slice a1 l_.length c1)), (1, I end_), (4, Pt 5 0), (8, V (.slice a105 r104.1.length c106)), (11, Pt 12 0), (12, I i_165), (59, Pt 12 3), (73, V (.agg #[.int .i64 (gi r179.1 0), .int .i64 (gi r179.1 1), .int .i64 (gi r179.1 2), .int .i64 (gi r179.1 3)]))], [(5, (25, [I 0, I 0, I 0, V (.slice none 0 0)])), (12, (25, [I x_166, I x_167, I x_168, V (.slice a170 x_169.length c171)]))]⟩) (by kernel_rfl) (by rfl) ?_
            intro a hS
            refine drcut (fun a w => ∃ (χ : Nat → Nat) (a211 : Option Addr) (c212 : Nat), St Tryd.f15.ntmps ⟨[(0, V (.slice a1 l_.length c1)), (1, I end_), (4, Pt 5 0), (8, V (.slice a105 r104.1.length c106)), (11, Pt 12 0), (12, I i_165), (60, V (.slice a170 x_169.length c171)), (74, V (.slice a211 [(⟨gi r179.1 0, gi r179.1 1, gi r179.1 2, gi r179.1 3⟩ : Api_Row)].length c212))], [(5, (25, [I 0, I 0, I 0, V (.slice none 0 0)])), (12, (25, [I x_166, I x_167, I x_168, V (.slice a170 x_169.length c171)]))]⟩ ρ a w χ ∧ Old w0 χ0 w χ ∧ M0 w185 χ186 w χ ∧ Hold w185 χ186 (filt [5] ⟨[(0, V (.slice a1 l_.length c1)), (1, I end_), (4, Pt 5 0), (8, V (.slice a105 r104.1.length c106)), (11, Pt 12 0), (12, I i_165), (13, V (.slice a180 r179.1.length c181))], [(5, (25, [I 0, I 0, I 0, V (.slice none 0 0)])), (12, (25, [I x_166, I x_167, I x_168, V (.slice a170 x_169.length c171)]))]⟩) ρ w ∧ RS (tSlice tRef05_Token) w χ a1 l_ c1 ∧ RS tI w χ a105 r104.1 c106 ∧ OS tApi_Row 66 w χ 1061 a170 x_169 c171 ∧ RS tApi_Row w χ a211 [(⟨gi r179.1 0, gi r179.1 1, gi r179.1 2, gi r179.1 3⟩ : Api_Row)] c212) #[true, true, true, true, true, true, true, true, true, true, true, true, true, true, true, true, false, false, false] 3 ?_ (fun H => ?_)
            · rintro a w222 ⟨χ221, a211, c212, hS, hO, hD, hH, h207, h208, h209, h210⟩
              obtain ⟨hq, hm⟩ := hm
              obtain ⟨news, hN⟩ := h210.src
              refine only 16 (by kernel_rfl) (by rfl) (append (E := 66) (T := tApi_Row) (col := 1061) (xs := x_169) T hS (by kernel_rfl) (by kernel_rfl) (by kernel_rfl) (by kernel_rfl) h209 hN (by kernel_rfl) (by kernel_rfl) (by kernel_rfl) (by kernel_rfl) hq ?_)
              intro a226 c227 a w223 χ224 hE h225 hS
              clear hq hN
              clear h209
              replace hO := hO.mv hE rfl rfl
              replace hD := hD.ev hE rfl
              replace h207 := h207.mv hE rfl
              replace h208 := h208.mv hE rfl
              replace h210 := h210.mv hE rfl
              clear hE
              replace hS := hS.sel [0, 1, 4, 8, 11, 12, 74, 75] [5, 12] (sy' := ⟨[(0, V (.slice a1 l_.length c1)), (1, I end_), (4, Pt 5 0), (8, V (.slice a105 r104.1.length c106)), (11, Pt 12 0), (12, I i_165), (74, V (.slice a211 [(⟨gi r179.1 0, gi r179.1 1, gi r179.1 2, gi r179.1 3⟩ : Api_Row)].length c212)), (75, V (.slice a226 (x_169 ++ [(⟨gi r179.1 0, gi r179.1 1, gi r179.1 2, gi r179.1 3⟩ : Api_Row)]).length c227))], [(5, (25, [I 0, I 0, I 0, V (.slice none 0 0)])), (12, (25, [I x_166, I x_167, I x_168, V (.slice a170 x_169.length c171)]))]⟩) (by kernel_rfl)
              refine andH (Hold.of hS (bks := [5]) (by kernel_rfl) hD) ?_
              intro hH
              refine take T [17] [5] [0, 1, 4, 8, 11, 12, 75, 76] hS (by kernel_rfl) (by kernel_rfl) (by kernel_rfl) hH (listed' := #[true, true, true, true, true, true, true, true, true, true, true, true, true, true, true, true, true, true, false]) (fuel := 1) (sy' := ⟨[(0, V (.slice a1 l_.length c1)), (1, I end_), (4, Pt 5 0), (8, V (.slice a105 r104.1.length c106)), (11, Pt 12 0), (12, I i_165), (75, V (.slice a226 (x_169 ++ [(⟨gi r179.1 0, gi r179.1 1, gi r179.1 2, gi r179.1 3⟩ : Api_Row)]).length c227)), (76, Pt 12 3)], [(5, (25, [I 0, I 0, I 0, V (.slice none 0 0)])), (12, (25, [I x_166, I x_167, I x_168, V (.slice a170 x_169.length c171)]))]⟩) (by kernel_rfl) (by rfl) ?_
              intro a hS
              replace hS := hS.sel [0, 1, 4, 8, 11, 12, 75, 76] [5, 12] (sy' := ⟨[(0, V (.slice a1 l_.length c1)), (1, I end_), (4, Pt 5 0), (8, V (.slice a105 r104.1.length c106)), (11, Pt 12 0), (12, I i_165), (75, V (.slice a226 (x_169 ++ [(⟨gi r179.1 0, gi r179.1 1, gi r179.1 2, gi r179.1 3⟩ : Api_Row)]).length c227)), (76, Pt 12 3)], [(5, (25, [I 0, I 0, I 0, V (.slice none 0 0)])), (12, (25, [I x_166, I x_167, I x_168, V (.slice a170 x_169.length c171)]))]⟩) (by kernel_rfl)
              refine only 18 (by kernel_rfl) (by rfl) (store1 T hS (by kernel_rfl) (by kernel_rfl) (sy' := ⟨[(0, V (.slice a1 l_.length c1)), (1, I end_), (4, Pt 5 0), (8, V (.slice a105 r104.1.length c106)), (11, Pt 12 0), (12, I i_165), (75, V (.slice a226 (x_169 ++ [(⟨gi r179.1 0, gi r179.1 1, gi r179.1 2, gi r179.1 3⟩ : Api_Row)]).length c227)), (76, Pt 12 3)], [(12, (25, [I x_166, I x_167, I x_168, V (.slice a226 (x_169 ++ [(⟨gi r179.1 0, gi r179.1 1, gi r179.1 2, gi r179.1 3⟩ : Api_Row)]).length c227)])), (5, (25, [I 0, I 0, I 0, V (.slice none 0 0)])), (12, (25, [I x_166, I x_167, I x_168, V (.slice a170 x_169.length c171)]))]⟩) (by kernel_rfl) ?_)
              intro a w228 χ229 hS hE
              replace hO := hO.mv hE rfl rfl
              replace hD := hD.ev hE rfl
              replace h207 := h207.mv hE rfl
              replace h208 := h208.mv hE rfl
              replace h210 := h210.mv hE rfl
              replace h225 := h225.mv hE rfl rfl
              clear hE
              replace hS := hS.sel [0, 1, 4, 8, 11, 12, 75, 76] [5, 12] (sy' := ⟨[(0, V (.slice a1 l_.length c1)), (1, I end_), (4, Pt 5 0), (8, V (.slice a105 r104.1.length c106)), (11, Pt 12 0), (12, I i_165), (75, V (.slice a226 (x_169 ++ [(⟨gi r179.1 0, gi r179.1 1, gi r179.1 2, gi r179.1 3⟩ : Api_Row)]).length c227)), (76, Pt 12 3)], [(5, (25, [I 0, I 0, I 0, V (.slice none 0 0)])), (12, (25, [I x_166, I x_167, I x_168, V (.slice a226 (x_169 ++ [(⟨gi r179.1 0, gi r179.1 1, gi r179.1 2, gi r179.1 3⟩ : Api_Row)]).length c227)]))]⟩) (by kernel_rfl)
              refine andH (Hold.of hS (bks := [5]) (by kernel_rfl) hD) ?_
              intro hH
              refine drawnDone (by kernel_rfl) ?_
              clear hD hH
              replace hS := hS.sel [0, 1, 4, 8, 11, 12] [5, 12] (sy' := ⟨[(0, V (.slice a1 l_.length c1)), (1, I end_), (4, Pt 5 0), (8, V (.slice a105 r104.1.length c106)), (11, Pt 12 0), (12, I i_165)], [(5, (25, [I 0, I 0, I 0, V (.slice none 0 0)])), (12, (25, [I x_166, I x_167, I x_168, V (.slice a226 (x_169 ++ [(⟨gi r179.1 0, gi r179.1 1, gi r179.1 2, gi r179.1 3⟩ : Api_Row)]).length c227)]))]⟩) (by kernel_rfl)
              refine region (endP T hS (sp := []) (ks := [0, 1, 4, 8, 11, 12]) (bs := [5, 12]) (sy' := ⟨[(0, V (.slice a1 l_.length c1)), (1, I end_), (4, Pt 5 0), (8, V (.slice a105 r104.1.length c106)), (11, Pt 12 0), (12, I (IntKind.i64.wrap (i_165 + 1)))], [(5, (25, [I 0, I 0, I 0, V (.slice none 0 0)])), (12, (25, [I x_166, I x_167, I x_168, V (.slice a226 (x_169 ++ [(⟨gi r179.1 0, gi r179.1 1, gi r179.1 2, gi r179.1 3⟩ : Api_Row)]).length c227)]))]⟩) (by kernel_rfl) ?_)
              intro a hS
              exact ⟨⟨IntKind.i64.wrap (i_165 + 1), x_166, x_167, x_168, x_169 ++ [(⟨gi r179.1 0, gi r179.1 1, gi r179.1 2, gi r179.1 3⟩ : Api_Row)]⟩, ⟨ρ, _, a226, c227, hm.1, hS.sel [0, 1, 4, 8, 11, 12] [5, 12] (by kernel_rfl), hO, h207, h208, h225⟩, hm.2⟩
            · clear hm
              refine anyOf (is := [1, 15]) (by kernel_rfl) (by decide) ?_
              intro i hi
              rcases mem2 hi with rfl | rfl
              · refine oneOp (by rfl) (plain1 T hS (by kernel_rfl) (by kernel_rfl) (by kernel_rfl) (sv := V (.slice a170 x_169.length c171)) (by kernel_rfl) ?_)
                intro a hS
                refine andH (Hold.of hS (bks := [5]) (by kernel_rfl) hD) ?_
                intro hH
                refine only 15 (by kernel_rfl) (by rfl) (lit (E := 66) (col := 0) (T := tApi_Row) (vals := [.agg #[.int .i64 (gi r179.1 0), .int .i64 (gi r179.1 1), .int .i64 (gi r179.1 2), .int .i64 (gi r179.1 3)]]) (ys := [(⟨gi r179.1 0, gi r179.1 1, gi r179.1 2, gi r179.1 3⟩ : Api_Row)]) T hS (by kernel_rfl) (by kernel_rfl) (by kernel_rfl) (by kernel_rfl) (by exact ⟨rfl, trivial⟩) rfl (by kernel_rfl) (by kernel_rfl) (by kernel_rfl) (by kernel_rfl) ?_)
                intro b213 a w214 χ215 hE h216 hN hS
                clear hN
                replace hO := hO.mv hE rfl rfl
                replace hD := hD.ev hE rfl
                replace h163 := h163.mv hE rfl
                replace h164 := h164.mv hE rfl
                replace h172 := h172.mv hE rfl rfl
                replace h182 := h182.mv hE rfl
                replace h188 := h188.mv hE rfl
                replace h191 := h191.mv hE rfl
                replace h194 := h194.mv hE rfl
                replace h197 := h197.mv hE rfl
                clear hE
                replace h216 := h216.rs0
                refine andH (Hold.of hS (bks := [5]) (by kernel_rfl) hD) ?_
                intro hH
                exact H _ _ ⟨_, (some ⟨b213, 0, none⟩), 1, hS.sel [0, 1, 4, 8, 11, 12, 60, 74] [5, 12] (by kernel_rfl), hO, hD, hH, h163, h164, h172, h216⟩
              · refine oneOp (by rfl) (lit (E := 66) (col := 0) (T := tApi_Row) (vals := [.agg #[.int .i64 (gi r179.1 0), .int .i64 (gi r179.1 1), .int .i64 (gi r179.1 2), .int .i64 (gi r179.1 3)]]) (ys := [(⟨gi r179.1 0, gi r179.1 1, gi r179.1 2, gi r179.1 3⟩ : Api_Row)]) T hS (by kernel_rfl) (by kernel_rfl) (by kernel_rfl) (by kernel_rfl) (by exact ⟨rfl, trivial⟩) rfl (by kernel_rfl) (by kernel_rfl) (by kernel_rfl) (by kernel_rfl) ?_)
                intro b217 a w218 χ219 hE h220 hN hS
                clear hN
                replace hO := hO.mv hE rfl rfl
                replace hD := hD.ev hE rfl
                replace h163 := h163.mv hE rfl
                replace h164 := h164.mv hE rfl
                replace h172 := h172.mv hE rfl rfl
                replace h182 := h182.mv hE rfl
                replace h188 := h188.mv hE rfl
                replace h191 := h191.mv hE rfl
                replace h194 := h194.mv hE rfl
                replace h197 := h197.mv hE rfl
                clear hE
                replace h220 := h220.rs0
                refine andH (Hold.of hS (bks := [5]) (by kernel_rfl) hD) ?_
                intro hH
                refine only 1 (by kernel_rfl) (by rfl) (plain1 T hS (by kernel_rfl) (by kernel_rfl) (by kernel_rfl) (sv := V (.slice a170 x_169.length c171)) (by kernel_rfl) ?_)
                intro a hS
                refine andH (Hold.of hS (bks := [5]) (by kernel_rfl) hD) ?_
                intro hH
                exact H _ _ ⟨_, (some ⟨b217, 0, none⟩), 1, hS.sel [0, 1, 4, 8, 11, 12, 60, 74] [5, 12] (by kernel_rfl), hO, hD, hH, h163, h164, h172, h220⟩
        · replace hm := hm.2 hb
          refine wexit (by rfl) ?_
          exact ⟨ρ, _, x_166, x_167, x_168, x_169, a170, c171, hm, hS.sel [0, 1, 4, 8, 11] [5, 12] (by kernel_rfl), hO, h163, h164, h172⟩
    · rintro a w233 ⟨ρ, χ232, x_128, x_129, x_130, x_131, a132, c133, hm, hS, hO, h126, h127, h134⟩
      unfold VC15_J1 at hm
      refine regO ?_
      refine opsP T hS 1 (sp := []) (ks := [0, 1, 4, 8, 11, 78]) (bs := [5, 12]) (sy' := ⟨[(0, V (.slice a1 l_.length c1)), (1, I end_), (4, Pt 5 0), (8, V (.slice a105 r104.1.length c106)), (11, Pt 12 0), (78, V (.agg #[.int .i64 x_128, .int .i64 x_129, .int .i64 x_130, .slice a132 x_131.length c133]))], [(5, (25, [I 0, I 0, I 0, V (.slice none 0 0)])), (12, (25, [I x_128, I x_129, I x_130, V (.slice a132 x_131.length c133)]))]⟩) (by kernel_rfl) ?_
      intro a hS
      refine op1 (call hS (by kernel_rfl) (by kernel_rfl) hb33 (by kernel_rfl) (fun _ _ => rfl) (Ret.unlend (k33 _ (lend 1061 _) (⟨x_128, x_129, x_130, x_131⟩ : Api_Object) a132 c133 h134.lend)) ?_)
      intro v135 a w136 χ137 hE hp hS
      replace hO := hO.mv hE rfl rfl
      replace h126 := h126.mv hE rfl
      replace h127 := h127.mv hE rfl
      replace h134 := h134.mv hE rfl rfl
      clear hE
      obtain ⟨_, hp⟩ := hp
      obtain ⟨r138, hr⟩ : ∃ r, ref23_Check (⟨x_128, x_129, x_130, x_131⟩ : Api_Object) = r := ⟨_, rfl⟩
      replace hm := hm r138 hr
      rw [hr] at hp
      clear hr
      subst hp
      refine endP T hS (sp := []) (ks := [0, 1, 4, 8, 10, 11, 16]) (bs := [5, 12]) (sy' := ⟨[(0, V (.slice a1 l_.length c1)), (1, I end_), (4, Pt 5 0), (8, V (.slice a105 r104.1.length c106)), (10, I r138.2), (11, Pt 12 0), (16, I r138.1)], [(5, (25, [I 0, I 0, I 0, V (.slice none 0 0)])), (12, (25, [I x_128, I x_129, I x_130, V (.slice a132 x_131.length c133)]))]⟩) (by kernel_rfl) ?_
      intro a hS
      refine wseq ?_
      refine regP T hS (sp := []) (ks := [0, 1, 4, 8, 10, 11, 16, 83]) (bs := [5, 12]) (sy' := ⟨[(0, V (.slice a1 l_.length c1)), (1, I end_), (4, Pt 5 0), (8, V (.slice a105 r104.1.length c106)), (10, I r138.2), (11, Pt 12 0), (16, I r138.1), (83, B (r138.2 != 0))], [(5, (25, [I 0, I 0, I 0, V (.slice none 0 0)])), (12, (25, [I x_128, I x_129, I x_130, V (.slice a132 x_131.length c133)]))]⟩) (by kernel_rfl) ?_
      intro a hS
      refine wcond hS (b := (r138.2 != 0)) (by kernel_rfl) (fun hb => ?_) (fun hb => ?_)
      · replace hm := hm.1 hb
        replace hS := hS.sel [0, 4, 10, 16] [5] (sy' := ⟨[(0, V (.slice a1 l_.length c1)), (4, Pt 5 0), (10, I r138.2), (16, I r138.1)], [(5, (25, [I 0, I 0, I 0, V (.slice none 0 0)]))]⟩) (by kernel_rfl)
        refine drawnSX [] mixed hS ?_
        intro w139 χ140 hS hE hD hH
        replace hO := hO.mv hE rfl rfl
        replace h126 := h126.mv hE rfl
        clear hE
        refine take T [0, 1, 2, 9, 3] [] [4, 84, 85, 87, 93] hS (by kernel_rfl) (by kernel_rfl) (by kernel_rfl) hH (listed' := #[true, true, true, true, false, false, false, false, false, true, false, false, false, false]) (fuel := 9) (sy' := ⟨[(4, Pt 5 0), (84, V (.agg #[.int .i64 0, .int .i64 0, .int .i64 0, .slice none 0 0])), (85, V (.slice a1 l_.length c1)), (87, I (IntKind.i64.wrap (r138.1 + 1))), (93, I r138.2)], [(5, (25, [I 0, I 0, I 0, V (.slice none 0 0)]))]⟩) (by kernel_rfl) (by rfl) ?_
        intro a hS
        obtain ⟨hq, hm⟩ := hm
        refine dindex (e := 56) (k := .i64) T 4 hS (by kernel_rfl) (by kernel_rfl) (by kernel_rfl) (by rfl) (by kernel_rfl) hH (by kernel_rfl) (by kernel_rfl) h126 (by kernel_rfl) (by kernel_rfl) hq.1 hq.2 ?_
        intro A141 a h142 hS
        clear hq
        have h142b := h142.here
        refine dload1 T 5 hS (by kernel_rfl) (by kernel_rfl) (by kernel_rfl) (by rfl) (by kernel_rfl) hH (by kernel_rfl) h142 h142b rfl (by kernel_rfl) ?_
        intro v143 a hv hS
        obtain ⟨a144, c145, hv, h146⟩ := hv
        cases hv
        replace hm := hm (h146.sm (by kernel_rfl))
        obtain ⟨hq, hm⟩ := hm
        refine dindex (e := 69) (k := .i64) T 6 hS (by kernel_rfl) (by kernel_rfl) (by kernel_rfl) (by rfl) (by kernel_rfl) hH (by kernel_rfl) (by kernel_rfl) h146 (by kernel_rfl) (by kernel_rfl) hq.1 hq.2 ?_
        intro A147 a h148 hS
        clear hq
        have h148b := h148.here
        refine dfieldA (off := 1) (fsz := 1) (ft := 3) (TF := tI) (y := (gi (gi l_ (IntKind.i64.wrap (r138.1 + 1))) 0).At) 7 T hS (by kernel_rfl) (by kernel_rfl) (by kernel_rfl) (by rfl) (by kernel_rfl) hH (by kernel_rfl) h148 (by kernel_rfl) (by kernel_rfl) (by kernel_rfl) (fun cs h => Ref05_Token_f1 h) ?_
        intro A149 a h150 hbl hS
        have h150b := h148b
        rw [← hbl] at h150b
        clear hbl
        refine dload1 T 8 hS (by kernel_rfl) (by kernel_rfl) (by kernel_rfl) (by rfl) (by kernel_rfl) hH (by kernel_rfl) h150 h150b rfl (by kernel_rfl) ?_
        intro v151 a hv hS
        cases hv
        replace hS := hS.sel [4, 84, 85, 87, 93, 88, 89, 90, 91, 92] [5] (sy' := ⟨[(4, Pt 5 0), (84, V (.agg #[.int .i64 0, .int .i64 0, .int .i64 0, .slice none 0 0])), (85, V (.slice a1 l_.length c1)), (87, I (IntKind.i64.wrap (r138.1 + 1))), (93, I r138.2), (88, V (.pointer (some A141))), (89, V (.slice a144 (gi l_ (IntKind.i64.wrap (r138.1 + 1))).length c145)), (90, V (.pointer (some A147))), (91, V (.pointer (some A149))), (92, I ((gi (gi l_ (IntKind.i64.wrap (r138.1 + 1))) 0).At))], [(5, (25, [I 0, I 0, I 0, V (.slice none 0 0)]))]⟩) (by kernel_rfl)
        refine only 10 (by kernel_rfl) (by rfl) (store1 T hS (by kernel_rfl) (by kernel_rfl) (sy' := ⟨[(4, Pt 5 0), (84, V (.agg #[.int .i64 0, .int .i64 0, .int .i64 0, .slice none 0 0])), (85, V (.slice a1 l_.length c1)), (87, I (IntKind.i64.wrap (r138.1 + 1))), (93, I r138.2), (88, V (.pointer (some A141))), (89, V (.slice a144 (gi l_ (IntKind.i64.wrap (r138.1 + 1))).length c145)), (90, V (.pointer (some A147))), (91, V (.pointer (some A149))), (92, I ((gi (gi l_ (IntKind.i64.wrap (r138.1 + 1))) 0).At))], [(5, (25, [I 0, I 0, I 0, V (.slice none 0 0)])), (5, (25, [I 0, I 0, I 0, V (.slice none 0 0)]))]⟩) (by kernel_rfl) ?_)
        intro a w152 χ153 hS hE
        replace hO := hO.mv hE rfl rfl
        replace hD := hD.ev hE rfl
        replace h126 := h126.mv hE rfl
        replace h142 := h142.mv hE rfl
        replace h146 := h146.mv hE rfl
        replace h148 := h148.mv hE rfl
        replace h150 := h150.mv hE rfl
        clear hE
        replace hS := hS.sel [4, 84, 85, 87, 93, 88, 89, 90, 91, 92] [5] (sy' := ⟨[(4, Pt 5 0), (84, V (.agg #[.int .i64 0, .int .i64 0, .int .i64 0, .slice none 0 0])), (85, V (.slice a1 l_.length c1)), (87, I (IntKind.i64.wrap (r138.1 + 1))), (93, I r138.2), (88, V (.pointer (some A141))), (89, V (.slice a144 (gi l_ (IntKind.i64.wrap (r138.1 + 1))).length c145)), (90, V (.pointer (some A147))), (91, V (.pointer (some A149))), (92, I ((gi (gi l_ (IntKind.i64.wrap (r138.1 + 1))) 0).At))], [(5, (25, [I 0, I 0, I 0, V (.slice none 0 0)]))]⟩) (by kernel_rfl)
        refine andH (Hold.of hS (bks := []) (by kernel_rfl) hD) ?_
        intro hH
        refine take T [11, 12, 13] [] [4, 5, 6, 7] hS (by kernel_rfl) (by kernel_rfl) (by kernel_rfl) hH (listed' := #[true, true, true, true, true, true, true, true, true, true, true, true, true, true]) (fuel := 0) (sy' := ⟨[(4, Pt 5 0), (5, I 0), (6, I ((gi (gi l_ (IntKind.i64.wrap (r138.1 + 1))) 0).At)), (7, I r138.2)], [(5, (25, [I 0, I 0, I 0, V (.slice none 0 0)]))]⟩) (by kernel_rfl) (by rfl) ?_
        intro a hS
        refine drawnDone (by kernel_rfl) ?_
        clear hD hH
        replace hS := hS.sel [4, 5, 6, 7] [5] (sy' := ⟨[(4, Pt 5 0), (5, I 0), (6, I ((gi (gi l_ (IntKind.i64.wrap (r138.1 + 1))) 0).At)), (7, I r138.2)], [(5, (25, [I 0, I 0, I 0, V (.slice none 0 0)]))]⟩) (by kernel_rfl)
        refine wret ?_
        exact fin T hS hO (fun c => c) rfl (r := [.agg #[.int .i64 0, .int .i64 0, .int .i64 0, .slice none 0 0], .int .i64 0, .int .i64 ((gi (gi l_ (IntKind.i64.wrap (r138.1 + 1))) 0).At), .int .i64 r138.2]) (by kernel_rfl) (fun χ' hM hC => ⟨((⟨0, 0, 0, []⟩ : Api_Object), 0, (gi (gi l_ (IntKind.i64.wrap (r138.1 + 1))) 0).At, r138.2), hm, none, 0, rfl, RS.empty _ _ _⟩)
      · replace hm := hm.2 hb
        refine wskip ?_
        refine drawnSX [12] mixed hS ?_
        intro w154 χ155 hS hE hD hH
        replace hO := hO.mv hE rfl rfl
        replace h127 := h127.mv hE rfl
        replace h134 := h134.mv hE rfl rfl
        clear hE
        refine take T [0, 1, 5] [12] [4, 94, 95, 99] hS (by kernel_rfl) (by kernel_rfl) (by kernel_rfl) hH (listed' := #[true, true, false, false, false, true, false, false, false, false]) (fuel := 7) (sy' := ⟨[(4, Pt 5 0), (94, V (.agg #[.int .i64 x_128, .int .i64 x_129, .int .i64 x_130, .slice a132 x_131.length c133])), (95, V (.slice a105 r104.1.length c106)), (99, I end_)], [(5, (25, [I 0, I 0, I 0, V (.slice none 0 0)])), (12, (25, [I x_128, I x_129, I x_130, V (.slice a132 x_131.length c133)]))]⟩) (by kernel_rfl) (by rfl) ?_
        intro a hS
        obtain ⟨hq, hm⟩ := hm
        refine dindex (e := 3) (k := .i64) T 2 hS (by kernel_rfl) (by kernel_rfl) (by kernel_rfl) (by rfl) (by kernel_rfl) hH (by kernel_rfl) (by kernel_rfl) h127 (by kernel_rfl) (by kernel_rfl) hq.1 hq.2 ?_
        intro A156 a h157 hS
        clear hq
        have h157b := h157.here
        refine dload1 T 3 hS (by kernel_rfl) (by kernel_rfl) (by kernel_rfl) (by rfl) (by kernel_rfl) hH (by kernel_rfl) h157 h157b rfl (by kernel_rfl) ?_
        intro v158 a hv hS
        cases hv
        refine take T [4] [12] [4, 94, 98, 99] hS (by kernel_rfl) (by kernel_rfl) (by kernel_rfl) hH (listed' := #[true, true, true, true, true, true, false, false, false, false]) (fuel := 4) (sy' := ⟨[(4, Pt 5 0), (94, V (.agg #[.int .i64 x_128, .int .i64 x_129, .int .i64 x_130, .slice a132 x_131.length c133])), (98, I (IntKind.i64.wrap ((gi r104.1 3) + 1))), (99, I end_)], [(5, (25, [I 0, I 0, I 0, V (.slice none 0 0)])), (12, (25, [I x_128, I x_129, I x_130, V (.slice a132 x_131.length c133)]))]⟩) (by kernel_rfl) (by rfl) ?_
        intro a hS
        replace hS := hS.sel [4, 94, 98, 99] [5, 12] (sy' := ⟨[(4, Pt 5 0), (94, V (.agg #[.int .i64 x_128, .int .i64 x_129, .int .i64 x_130, .slice a132 x_131.length c133])), (98, I (IntKind.i64.wrap ((gi r104.1 3) + 1))), (99, I end_)], [(5, (25, [I 0, I 0, I 0, V (.slice none 0 0)])), (12, (25, [I x_128, I x_129, I x_130, V (.slice a132 x_131.length c133)]))]⟩) (by kernel_rfl)
        refine only 6 (by kernel_rfl) (by rfl) (store1 T hS (by kernel_rfl) (by kernel_rfl) (sy' := ⟨[(4, Pt 5 0), (94, V (.agg #[.int .i64 x_128, .int .i64 x_129, .int .i64 x_130, .slice a132 x_131.length c133])), (98, I (IntKind.i64.wrap ((gi r104.1 3) + 1))), (99, I end_)], [(5, (25, [I x_128, I x_129, I x_130, V (.slice a132 x_131.length c133)])), (5, (25, [I 0, I 0, I 0, V (.slice none 0 0)])), (12, (25, [I x_128, I x_129, I x_130, V (.slice a132 x_131.length c133)]))]⟩) (by kernel_rfl) ?_)
        intro a w159 χ160 hS hE
        replace hO := hO.mv hE rfl rfl
        replace hD := hD.ev hE rfl
        replace h127 := h127.mv hE rfl
        replace h134 := h134.mv hE rfl rfl
        replace h157 := h157.mv hE rfl
        clear hE
        replace hS := hS.sel [4, 94, 98, 99] [5, 12] (sy' := ⟨[(4, Pt 5 0), (94, V (.agg #[.int .i64 x_128, .int .i64 x_129, .int .i64 x_130, .slice a132 x_131.length c133])), (98, I (IntKind.i64.wrap ((gi r104.1 3) + 1))), (99, I end_)], [(5, (25, [I x_128, I x_129, I x_130, V (.slice a132 x_131.length c133)])), (12, (25, [I x_128, I x_129, I x_130, V (.slice a132 x_131.length c133)]))]⟩) (by kernel_rfl)
        refine andH (Hold.of hS (bks := [12]) (by kernel_rfl) hD) ?_
        intro hH
        refine take T [7, 8, 9] [12] [4, 5, 6, 7] hS (by kernel_rfl) (by kernel_rfl) (by kernel_rfl) hH (listed' := #[true, true, true, true, true, true, true, true, true, true]) (fuel := 0) (sy' := ⟨[(4, Pt 5 0), (5, I (IntKind.i64.wrap ((gi r104.1 3) + 1))), (6, I end_), (7, I 0)], [(5, (25, [I x_128, I x_129, I x_130, V (.slice a132 x_131.length c133)])), (12, (25, [I x_128, I x_129, I x_130, V (.slice a132 x_131.length c133)]))]⟩) (by kernel_rfl) (by rfl) ?_
        intro a hS
        refine drawnDone (by kernel_rfl) ?_
        clear hD hH
        replace hS := hS.sel [4, 5, 6, 7] [5] (sy' := ⟨[(4, Pt 5 0), (5, I (IntKind.i64.wrap ((gi r104.1 3) + 1))), (6, I end_), (7, I 0)], [(5, (25, [I x_128, I x_129, I x_130, V (.slice a132 x_131.length c133)]))]⟩) (by kernel_rfl)
        refine wret ?_
        obtain ⟨χ161, hE, hF⟩ := h134.freeze (by decide)
        replace hS := hS.ev hE (xone_box (by kernel_rfl))
        replace hO := hO.mv hE rfl rfl
        have h162 := hF; clear hE hF
        exact fin T hS hO (fun c => c) rfl (r := [.agg #[.int .i64 x_128, .int .i64 x_129, .int .i64 x_130, .slice a132 x_131.length c133], .int .i64 (IntKind.i64.wrap ((gi r104.1 3) + 1)), .int .i64 end_, .int .i64 0]) (by kernel_rfl) (fun χ' hM hC => ⟨((⟨x_128, x_129, x_130, x_131⟩ : Api_Object), IntKind.i64.wrap ((gi r104.1 3) + 1), end_, 0), hm, a132, c133, rfl, h162.m0 hM⟩)
theorem C15 (k32 : S32) (k33 : S33) (v : ∀ (l_ : List (List Ref05_Token)) (end_ : Int), preRT l_ end_ → VC15 l_ end_ (fun r => r = ref24_Take l_ end_)) : S15 := by
  intro w χ l_ end_ a1 c1   hp h1
  refine (W15 k32 k33 w χ l_ end_ a1 c1   _ (v l_ end_ hp) h1).mono ?_
  rintro _ _ _ _ ⟨r, rfl, h⟩
  exact h
def S9 : Prop := ∀ (w : World) (χ : Nat → Nat) (s_ : List UInt8), Ret Tryd.prog 9 #[.string (bs s_)] xnone w χ (fun w χ' v => ∃ (ra1 : Option Addr) (rc1 : Nat), v = .tuple #[.agg #[.int .i64 (((ref24_Parse s_).1).States), .int .i64 (((ref24_Parse s_).1).Kinds), .int .i64 (((ref24_Parse s_).1).Init), .slice ra1 (((ref24_Parse s_).1).Rows).length rc1], .int .i64 ((ref24_Parse s_).2.1), .int .i64 ((ref24_Parse s_).2.2)] ∧ RS tApi_Row w χ' ra1 (((ref24_Parse s_).1).Rows) rc1)
theorem hb9 : hasBody Tryd.prog 9 = true := by kernel_rfl
/-- replevin/replevinref24.Parse -/
theorem W9 (k13 : S13) (k14 : S14) (k15 : S15) (w0 : World) (χ0 : Nat → Nat) (s_ : List UInt8) (Q : Api_Object × Int × Int → Prop) (hm : VC9 s_ Q) :
    Ret Tryd.prog 9 #[.string (bs s_)] xnone w0 χ0 (fun w χ' v => ∃ r, Q r ∧ ∃ (ra1 : Option Addr) (rc1 : Nat), v = .tuple #[.agg #[.int .i64 r.1.States, .int .i64 r.1.Kinds, .int .i64 r.1.Init, .slice ra1 r.1.Rows.length rc1], .int .i64 r.2.1, .int .i64 r.2.2] ∧ RS tApi_Row w χ' ra1 r.1.Rows rc1) := by
  unfold VC9 at hm
  refine enter Tryd.func9 rfl (vals := [.string (bs s_)]) (by kernel_rfl) ?_
  intro ρ a hS hO hM
  clear hM
  refine regM T hS (sp := []) (ks := [0, 2]) (bs := [3]) (sy' := ⟨[(0, V (.string (bs s_))), (2, Pt 3 0)], [(3, (25, [I 0, I 0, I 0, V (.slice none 0 0)]))]⟩) (by kernel_rfl) ?_
  intro ρ a w143 χ144 hS hE hr
  replace hO := hO.mv hE rfl rfl
  clear hE hr
  refine wseq ?_
  refine regP T hS (sp := []) (ks := [0, 2, 12]) (bs := [3]) (sy' := ⟨[(0, V (.string (bs s_))), (2, Pt 3 0), (12, B (decide (((s_.length : Nat) : Int) > 1000000)))], [(3, (25, [I 0, I 0, I 0, V (.slice none 0 0)]))]⟩) (by kernel_rfl) ?_
  intro a hS
  refine wcond hS (b := decide (((s_.length : Nat) : Int) > 1000000)) (by kernel_rfl) (fun hb => ?_) (fun hb => ?_)
  · replace hm := hm.1 hb
    refine regM T hS (sp := []) (ks := [2, 3, 4]) (bs := [3]) (sy' := ⟨[(2, Pt 3 0), (3, I 0), (4, I 3)], [(3, (25, [I 0, I 0, I 0, V (.slice none 0 0)]))]⟩) (by kernel_rfl) ?_
    intro ρ a w101 χ102 hS hE hr
    replace hO := hO.mv hE rfl rfl
    clear hE hr
    refine wret ?_
    exact fin T hS hO (fun c => c) rfl (r := [.agg #[.int .i64 0, .int .i64 0, .int .i64 0, .slice none 0 0], .int .i64 0, .int .i64 3]) (by kernel_rfl) (fun χ' hM hC => ⟨((⟨0, 0, 0, []⟩ : Api_Object), 0, 3), hm, none, 0, rfl, RS.empty _ _ _⟩)
  · replace hm := hm.2 hb
    refine wskip ?_
    refine regO ?_
    refine opsP T hS 1 (sp := []) (ks := [0, 2, 14]) (bs := [3]) (sy' := ⟨[(0, V (.string (bs s_))), (2, Pt 3 0), (14, V (.string (bs s_)))], [(3, (25, [I 0, I 0, I 0, V (.slice none 0 0)]))]⟩) (by kernel_rfl) ?_
    intro a hS
    obtain ⟨hq, hm⟩ := hm
    refine op1 (call hS (by kernel_rfl) (by kernel_rfl) hb14 (by kernel_rfl) (fun _ _ => rfl) (k14 _ _ s_ hq) ?_)
    intro v103 a w104 χ105 hE hp hS
    clear hq
    replace hO := hO.mv hE rfl rfl
    clear hE
    obtain ⟨a107, c108, hp, h109⟩ := hp
    obtain ⟨r106, hr⟩ : ∃ r, ref05_Lines s_ = r := ⟨_, rfl⟩
    replace hm := hm r106 hr
    rw [hr] at hp h109
    clear hr
    subst hp
    replace hm := hm (h109.sm (by kernel_rfl))
    obtain ⟨hq, hm⟩ := hm
    refine op1 (call hS (by kernel_rfl) (by kernel_rfl) hb13 (by kernel_rfl) (fun _ _ => rfl) (k13 _ _ r106 a107 c108 hq h109) ?_)
    intro v110 a w111 χ112 hE hp hS
    clear hq
    replace hO := hO.mv hE rfl rfl
    replace h109 := h109.mv hE rfl
    clear hE
    obtain ⟨a114, c115, hp, h116⟩ := hp
    obtain ⟨r113, hr⟩ : ∃ r, ref24_Said r106 = r := ⟨_, rfl⟩
    replace hm := hm r113 hr
    rw [hr] at hp h116
    clear hr
    subst hp
    replace hm := hm (h116.sm (by kernel_rfl))
    refine endP T hS (sp := []) (ks := [0, 2, 5]) (bs := [3]) (sy' := ⟨[(0, V (.string (bs s_))), (2, Pt 3 0), (5, V (.slice a114 r113.length c115))], [(3, (25, [I 0, I 0, I 0, V (.slice none 0 0)]))]⟩) (by kernel_rfl) ?_
    intro a hS
    refine regO ?_
    refine opsP T hS 3 (sp := []) (ks := [2, 5, 18, 20]) (bs := [3]) (sy' := ⟨[(2, Pt 3 0), (5, V (.slice a114 r113.length c115)), (18, V (.slice a114 r113.length c115)), (20, I ((s_.length : Nat) : Int))], [(3, (25, [I 0, I 0, I 0, V (.slice none 0 0)]))]⟩) (by kernel_rfl) ?_
    intro a hS
    obtain ⟨hq, hm⟩ := hm
    refine op1 (call hS (by kernel_rfl) (by kernel_rfl) hb15 (by kernel_rfl) (fun _ _ => rfl) (k15 _ _ r113 ((s_.length : Nat) : Int) a114 c115 hq h116) ?_)
    intro v117 a w118 χ119 hE hp hS
    clear hq
    replace hO := hO.mv hE rfl rfl
    replace h116 := h116.mv hE rfl
    clear hE
    obtain ⟨a121, c122, hp, h123⟩ := hp
    obtain ⟨r120, hr⟩ : ∃ r, ref24_Take r113 ((s_.length : Nat) : Int) = r := ⟨_, rfl⟩
    replace hm := hm r120 hr
    rw [hr] at hp h123
    clear hr
    subst hp
    replace hm := hm (h123.sm (by kernel_rfl))
    refine endM T hS (sp := []) (ks := [2, 5, 6, 7, 8, 9]) (bs := [3, 7]) (sy' := ⟨[(2, Pt 3 0), (5, V (.slice a114 r113.length c115)), (6, Pt 7 0), (7, I r120.2.1), (8, I r120.2.2.1), (9, I r120.2.2.2)], [(3, (25, [I 0, I 0, I 0, V (.slice none 0 0)])), (7, (25, [I r120.1.States, I r120.1.Kinds, I r120.1.Init, V (.slice a121 r120.1.Rows.length c122)]))]⟩) (by kernel_rfl) ?_
    intro ρ a w141 χ142 hS hE hr
    replace hO := hO.mv hE rfl rfl
    replace h116 := h116.mv hE rfl
    replace h123 := h123.mv hE rfl
    clear hE hr
    refine wseq ?_
    refine regP T hS (sp := [28]) (ks := [2, 5, 6, 7, 8, 9, 33]) (bs := [3, 7]) (sy' := ⟨[(2, Pt 3 0), (5, V (.slice a114 r113.length c115)), (6, Pt 7 0), (7, I r120.2.1), (8, I r120.2.2.1), (9, I r120.2.2.2), (33, B ((r120.2.2.2 == 0) && (decide (r120.2.1 < ((r113.length : Nat) : Int)))))], [(3, (25, [I 0, I 0, I 0, V (.slice none 0 0)])), (7, (25, [I r120.1.States, I r120.1.Kinds, I r120.1.Init, V (.slice a121 r120.1.Rows.length c122)]))]⟩) (by kernel_rfl) ?_
    intro a hS
    refine wcond hS (b := ((r120.2.2.2 == 0) && (decide (r120.2.1 < ((r113.length : Nat) : Int))))) (by kernel_rfl) (fun hb => ?_) (fun hb => ?_)
    · replace hm := hm.1 hb
      replace hS := hS.sel [2, 5, 7] [3] (sy' := ⟨[(2, Pt 3 0), (5, V (.slice a114 r113.length c115)), (7, I r120.2.1)], [(3, (25, [I 0, I 0, I 0, V (.slice none 0 0)]))]⟩) (by kernel_rfl)
      refine drawnSX [] mixed hS ?_
      intro w124 χ125 hS hE hD hH
      replace hO := hO.mv hE rfl rfl
      replace h116 := h116.mv hE rfl
      clear hE
      refine take T [0, 1, 2] [] [2, 34, 35, 36] hS (by kernel_rfl) (by kernel_rfl) (by kernel_rfl) hH (listed' := #[true, true, true, false, false, false, false, false, false, false, false]) (fuel := 8) (sy' := ⟨[(2, Pt 3 0), (34, V (.agg #[.int .i64 0, .int .i64 0, .int .i64 0, .slice none 0 0])), (35, V (.slice a114 r113.length c115)), (36, I r120.2.1)], [(3, (25, [I 0, I 0, I 0, V (.slice none 0 0)]))]⟩) (by kernel_rfl) (by rfl) ?_
      intro a hS
      obtain ⟨hq, hm⟩ := hm
      refine dindex (e := 56) (k := .i64) T 3 hS (by kernel_rfl) (by kernel_rfl) (by kernel_rfl) (by rfl) (by kernel_rfl) hH (by kernel_rfl) (by kernel_rfl) h116 (by kernel_rfl) (by kernel_rfl) hq.1 hq.2 ?_
      intro A126 a h127 hS
      clear hq
      have h127b := h127.here
      refine dload1 T 4 hS (by kernel_rfl) (by kernel_rfl) (by kernel_rfl) (by rfl) (by kernel_rfl) hH (by kernel_rfl) h127 h127b rfl (by kernel_rfl) ?_
      intro v128 a hv hS
      obtain ⟨a129, c130, hv, h131⟩ := hv
      cases hv
      replace hm := hm (h131.sm (by kernel_rfl))
      obtain ⟨hq, hm⟩ := hm
      refine dindex (e := 69) (k := .i64) T 5 hS (by kernel_rfl) (by kernel_rfl) (by kernel_rfl) (by rfl) (by kernel_rfl) hH (by kernel_rfl) (by kernel_rfl) h131 (by kernel_rfl) (by kernel_rfl) hq.1 hq.2 ?_
      intro A132 a h133 hS
      clear hq
      have h133b := h133.here
      refine dfieldA (off := 1) (fsz := 1) (ft := 3) (TF := tI) (y := (gi (gi r113 r120.2.1) 0).At) 6 T hS (by kernel_rfl) (by kernel_rfl) (by kernel_rfl) (by rfl) (by kernel_rfl) hH (by kernel_rfl) h133 (by kernel_rfl) (by kernel_rfl) (by kernel_rfl) (fun cs h => Ref05_Token_f1 h) ?_
      intro A134 a h135 hbl hS
      have h135b := h133b
      rw [← hbl] at h135b
      clear hbl
      refine dload1 T 7 hS (by kernel_rfl) (by kernel_rfl) (by kernel_rfl) (by rfl) (by kernel_rfl) hH (by kernel_rfl) h135 h135b rfl (by kernel_rfl) ?_
      intro v136 a hv hS
      cases hv
      replace hS := hS.sel [2, 34, 35, 36, 37, 38, 39, 40, 41] [3] (sy' := ⟨[(2, Pt 3 0), (34, V (.agg #[.int .i64 0, .int .i64 0, .int .i64 0, .slice none 0 0])), (35, V (.slice a114 r113.length c115)), (36, I r120.2.1), (37, V (.pointer (some A126))), (38, V (.slice a129 (gi r113 r120.2.1).length c130)), (39, V (.pointer (some A132))), (40, V (.pointer (some A134))), (41, I ((gi (gi r113 r120.2.1) 0).At))], [(3, (25, [I 0, I 0, I 0, V (.slice none 0 0)]))]⟩) (by kernel_rfl)
      refine only 8 (by kernel_rfl) (by rfl) (store1 T hS (by kernel_rfl) (by kernel_rfl) (sy' := ⟨[(2, Pt 3 0), (34, V (.agg #[.int .i64 0, .int .i64 0, .int .i64 0, .slice none 0 0])), (35, V (.slice a114 r113.length c115)), (36, I r120.2.1), (37, V (.pointer (some A126))), (38, V (.slice a129 (gi r113 r120.2.1).length c130)), (39, V (.pointer (some A132))), (40, V (.pointer (some A134))), (41, I ((gi (gi r113 r120.2.1) 0).At))], [(3, (25, [I 0, I 0, I 0, V (.slice none 0 0)])), (3, (25, [I 0, I 0, I 0, V (.slice none 0 0)]))]⟩) (by kernel_rfl) ?_)
      intro a w137 χ138 hS hE
      replace hO := hO.mv hE rfl rfl
      replace hD := hD.ev hE rfl
      replace h116 := h116.mv hE rfl
      replace h127 := h127.mv hE rfl
      replace h131 := h131.mv hE rfl
      replace h133 := h133.mv hE rfl
      replace h135 := h135.mv hE rfl
      clear hE
      replace hS := hS.sel [2, 34, 35, 36, 37, 38, 39, 40, 41] [3] (sy' := ⟨[(2, Pt 3 0), (34, V (.agg #[.int .i64 0, .int .i64 0, .int .i64 0, .slice none 0 0])), (35, V (.slice a114 r113.length c115)), (36, I r120.2.1), (37, V (.pointer (some A126))), (38, V (.slice a129 (gi r113 r120.2.1).length c130)), (39, V (.pointer (some A132))), (40, V (.pointer (some A134))), (41, I ((gi (gi r113 r120.2.1) 0).At))], [(3, (25, [I 0, I 0, I 0, V (.slice none 0 0)]))]⟩) (by kernel_rfl)
      refine andH (Hold.of hS (bks := []) (by kernel_rfl) hD) ?_
      intro hH
      refine take T [9, 10] [] [2, 3, 4] hS (by kernel_rfl) (by kernel_rfl) (by kernel_rfl) hH (listed' := #[true, true, true, true, true, true, true, true, true, true, true]) (fuel := 0) (sy' := ⟨[(2, Pt 3 0), (3, I ((gi (gi r113 r120.2.1) 0).At)), (4, I 6)], [(3, (25, [I 0, I 0, I 0, V (.slice none 0 0)]))]⟩) (by kernel_rfl) (by rfl) ?_
      intro a hS
      refine drawnDone (by kernel_rfl) ?_
      clear hD hH
      replace hS := hS.sel [2, 3, 4] [3] (sy' := ⟨[(2, Pt 3 0), (3, I ((gi (gi r113 r120.2.1) 0).At)), (4, I 6)], [(3, (25, [I 0, I 0, I 0, V (.slice none 0 0)]))]⟩) (by kernel_rfl)
      refine wret ?_
      exact fin T hS hO (fun c => c) rfl (r := [.agg #[.int .i64 0, .int .i64 0, .int .i64 0, .slice none 0 0], .int .i64 ((gi (gi r113 r120.2.1) 0).At), .int .i64 6]) (by kernel_rfl) (fun χ' hM hC => ⟨((⟨0, 0, 0, []⟩ : Api_Object), (gi (gi r113 r120.2.1) 0).At, 6), hm, none, 0, rfl, RS.empty _ _ _⟩)
    · replace hm := hm.2 hb
      refine wskip ?_
      refine regM T hS (sp := []) (ks := [2, 3, 4]) (bs := [3]) (sy' := ⟨[(2, Pt 3 0), (3, I r120.2.2.1), (4, I r120.2.2.2)], [(3, (25, [I r120.1.States, I r120.1.Kinds, I r120.1.Init, V (.slice a121 r120.1.Rows.length c122)]))]⟩) (by kernel_rfl) ?_
      intro ρ a w139 χ140 hS hE hr
      replace hO := hO.mv hE rfl rfl
      replace h123 := h123.mv hE rfl
      clear hE hr
      refine wret ?_
      exact fin T hS hO (fun c => c) rfl (r := [.agg #[.int .i64 r120.1.States, .int .i64 r120.1.Kinds, .int .i64 r120.1.Init, .slice a121 r120.1.Rows.length c122], .int .i64 r120.2.2.1, .int .i64 r120.2.2.2]) (by kernel_rfl) (fun χ' hM hC => ⟨(r120.1, r120.2.2.1, r120.2.2.2), hm, a121, c122, rfl, h123.m0 hM⟩)
theorem C9 (k13 : S13) (k14 : S14) (k15 : S15) (v : ∀ (s_ : List UInt8), VC9 s_ (fun r => r = ref24_Parse s_)) : S9 := by
  intro w χ s_    
  refine (W9 k13 k14 k15 w χ s_    _ (v s_)).mono ?_
  rintro _ _ _ _ ⟨r, rfl, h⟩
  exact h
def S35 : Prop := ∀ (w : World) (χ : Nat → Nat) (word : List UInt8) (n_ : List Int) (a1 : Option Addr) (c1 : Nat), preW word n_ → RS tI w χ a1 n_ c1 → Amb w χ → Ret Tryd.prog 35 #[.string (bs word), .slice a1 n_.length c1] xnone w χ (fun w χ' v => ∃ (ra1 : Option Addr) (rc1 : Nat), v = .slice ra1 (objtext_words word n_).length rc1 ∧ RS tToken_Token w χ' ra1 (objtext_words word n_) rc1)
theorem hb35 : hasBody Tryd.prog 35 = true := by kernel_rfl
/-- replevin/objtext.words -/
theorem W35 (k48 : S48) (w0 : World) (χ0 : Nat → Nat) (word : List UInt8) (n_ : List Int) (a1 : Option Addr) (c1 : Nat) (Q : (List Token_Token) → Prop) (hm : VC35 word n_ Q) (h1 : RS tI w0 χ0 a1 n_ c1) (hAmb : Amb w0 χ0) :
    Ret Tryd.prog 35 #[.string (bs word), .slice a1 n_.length c1] xnone w0 χ0 (fun w χ' v => ∃ r, Q r ∧ ∃ (ra1 : Option Addr) (rc1 : Nat), v = .slice ra1 r.length rc1 ∧ RS tToken_Token w χ' ra1 r rc1) := by
  unfold VC35 at hm
  replace hm := hm (h1.sm (by kernel_rfl))
  refine enter Tryd.func35 rfl (vals := [.string (bs word), .slice a1 n_.length c1]) (by kernel_rfl) ?_
  intro ρ a hS hO hM
  replace h1 := h1.m0 hM
  replace hAmb := hAmb.m0 hM
  clear hM
  refine regP T hS (sp := []) (ks := [0, 1]) (bs := []) (sy' := ⟨[(0, V (.string (bs word))), (1, V (.slice a1 n_.length c1))], []⟩) (by kernel_rfl) ?_
  intro a hS
  refine regO ?_
  refine opsP T hS 2 (sp := []) (ks := [1, 9]) (bs := []) (sy' := ⟨[(1, V (.slice a1 n_.length c1)), (9, V (.agg #[.int .i64 0, .int .i64 0, .string (bs word)]))], []⟩) (by kernel_rfl) ?_
  intro a hS
  refine op1 (lit (E := 60) (col := 1005) (T := tToken_Token) (vals := [.agg #[.int .i64 0, .int .i64 0, .string (bs word)]]) (ys := [(⟨0, 0, word⟩ : Token_Token)]) T hS (by kernel_rfl) (by kernel_rfl) (by kernel_rfl) (by kernel_rfl) (by exact ⟨rfl, trivial⟩) rfl (by kernel_rfl) (by kernel_rfl) (by kernel_rfl) (by kernel_rfl) ?_)
  intro b101 a w102 χ103 hE h104 hN hS
  clear hN
  replace hO := hO.mv hE rfl rfl
  replace h1 := h1.mv hE rfl
  replace hAmb := hAmb.mv hE rfl
  clear hE
  refine endP T hS (sp := []) (ks := [1, 5]) (bs := []) (sy' := ⟨[(1, V (.slice a1 n_.length c1)), (5, V (.slice (some ⟨b101, 0, none⟩) [(⟨0, 0, word⟩ : Token_Token)].length 1))], []⟩) (by kernel_rfl) ?_
  intro a hS
  refine wcut (fun a w => ∃ (ρ : Nat → Nat) (χ : Nat → Nat) (out_105 : List Token_Token) (a106 : Option Addr) (c107 : Nat), VC35_J1 Q out_105 ∧ St Tryd.f35.ntmps ⟨[(5, V (.slice a106 out_105.length c107))], []⟩ ρ a w χ ∧ Old w0 χ0 w χ ∧ OS tToken_Token 60 w χ 1005 a106 out_105 c107 ∧ Amb w χ) ?_ ?_
  · refine regP T hS (sp := []) (ks := [5, 11, 12, 13]) (bs := []) (sy' := ⟨[(5, V (.slice (some ⟨b101, 0, none⟩) [(⟨0, 0, word⟩ : Token_Token)].length 1)), (11, V (.slice a1 n_.length c1)), (12, I ((n_.length : Nat) : Int)), (13, I 0)], []⟩) (by kernel_rfl) ?_
    intro a hS
    refine wblock ?_
    obtain ⟨I1, μ1, hm0, hm⟩ := hm
    refine wloop (σ := (List Token_Token) × Int) (fun s a w => ∃ (ρ : Nat → Nat) (χ : Nat → Nat) (a112 : Option Addr) (c113 : Nat), I1 s.1 s.2 ∧ St Tryd.f35.ntmps ⟨[(5, V (.slice a112 s.1.length c113)), (11, V (.slice a1 n_.length c1)), (12, I ((n_.length : Nat) : Int)), (13, I s.2)], []⟩ ρ a w χ ∧ Old w0 χ0 w χ ∧ OS tToken_Token 60 w χ 1005 a112 s.1 c113 ∧ RS tI w χ a1 n_ c1 ∧ Amb w χ) (fun s => μ1 s.1 s.2) (⟨[(⟨0, 0, word⟩ : Token_Token)], 0⟩) ?_ ?_
    · exact ⟨ρ, _, (some ⟨b101, 0, none⟩), 1, hm0, hS.sel [5, 11, 12, 13] [] (by kernel_rfl), hO, h104, h1, hAmb⟩
    · rintro ⟨out_111, x_116⟩ a w134 ⟨ρ, χ133, a112, c113, hI, hS, hO, h114, h115, hAmb⟩
      replace hm := hm out_111 x_116 hI
      clear hI hm0
      refine regP T hS (sp := []) (ks := [5, 11, 12, 13, 14]) (bs := []) (sy' := ⟨[(5, V (.slice a112 out_111.length c113)), (11, V (.slice a1 n_.length c1)), (12, I ((n_.length : Nat) : Int)), (13, I x_116), (14, B (decide (x_116 < ((n_.length : Nat) : Int))))], []⟩) (by kernel_rfl) ?_
      intro a hS
      refine wseq ?_
      refine wcond hS (b := decide (x_116 < ((n_.length : Nat) : Int))) (by kernel_rfl) (fun hb => ?_) (fun hb => ?_)
      · replace hm := hm.1 hb
        refine wskip ?_
        refine wseq ?_
        refine wblock ?_
        refine regO ?_
        obtain ⟨hq, hm⟩ := hm
        refine op1 (index (e := 3) (k := .i64) T hS (by kernel_rfl) (by kernel_rfl) (by kernel_rfl) (by kernel_rfl) h115 (by kernel_rfl) (by kernel_rfl) hq.1 hq.2 ?_)
        intro A117 a h118 hS
        clear hq
        refine op1 (load1 T hS (by kernel_rfl) (by kernel_rfl) (by kernel_rfl) h118 rfl (by kernel_rfl) ?_)
        intro v119 a hv hS
        cases hv
        refine endP T hS (sp := []) (ks := [5, 7, 11, 12, 13]) (bs := []) (sy' := ⟨[(5, V (.slice a112 out_111.length c113)), (7, I (gi n_ x_116)), (11, V (.slice a1 n_.length c1)), (12, I ((n_.length : Nat) : Int)), (13, I x_116)], []⟩) (by kernel_rfl) ?_
        intro a hS
        refine region ?_
        refine opsP T hS 2 (sp := []) (ks := [5, 11, 12, 13, 17, 18]) (bs := []) (sy' := ⟨[(5, V (.slice a112 out_111.length c113)), (11, V (.slice a1 n_.length c1)), (12, I ((n_.length : Nat) : Int)), (13, I x_116), (17, V (.slice a112 out_111.length c113)), (18, I (gi n_ x_116))], []⟩) (by kernel_rfl) ?_
        intro a hS
        obtain ⟨hq, hm⟩ := hm
        refine op1 (call hS (by kernel_rfl) (by kernel_rfl) hb48 (by kernel_rfl) (fun _ _ => rfl) (k48 _ _ (gi n_ x_116) hq hAmb) ?_)
        intro v120 a w121 χ122 hE hp hS
        clear hq
        replace hO := hO.mv hE rfl rfl
        replace h114 := h114.mv hE rfl rfl
        replace h115 := h115.mv hE rfl
        replace hAmb := hAmb.mv hE rfl
        clear hE
        obtain ⟨r123, hr⟩ : ∃ r, token_Digits (gi n_ x_116) = r := ⟨_, rfl⟩
        replace hm := hm r123 hr
        rw [hr] at hp
        clear hr
        subst hp
        refine opsP T hS 1 (sp := []) (ks := [5, 11, 12, 13, 17, 20]) (bs := []) (sy' := ⟨[(5, V (.slice a112 out_111.length c113)), (11, V (.slice a1 n_.length c1)), (12, I ((n_.length : Nat) : Int)), (13, I x_116), (17, V (.slice a112 out_111.length c113)), (20, V (.agg #[.int .i64 0, .int .i64 0, .string (bs r123)]))], []⟩) (by kernel_rfl) ?_
        intro a hS
        refine op1 (lit (E := 60) (col := 0) (T := tToken_Token) (vals := [.agg #[.int .i64 0, .int .i64 0, .string (bs r123)]]) (ys := [(⟨0, 0, r123⟩ : Token_Token)]) T hS (by kernel_rfl) (by kernel_rfl) (by kernel_rfl) (by kernel_rfl) (by exact ⟨rfl, trivial⟩) rfl (by kernel_rfl) (by kernel_rfl) (by kernel_rfl) (by kernel_rfl) ?_)
        intro b124 a w125 χ126 hE h127 hN hS
        clear hN
        replace hO := hO.mv hE rfl rfl
        replace h114 := h114.mv hE rfl rfl
        replace h115 := h115.mv hE rfl
        replace hAmb := hAmb.mv hE rfl
        clear hE
        replace h127 := h127.rs0
        obtain ⟨hq, hm⟩ := hm
        obtain ⟨news, hN⟩ := h127.src
        refine op1 (append (E := 60) (T := tToken_Token) (col := 1005) (xs := out_111) T hS (by kernel_rfl) (by kernel_rfl) (by kernel_rfl) (by kernel_rfl) h114 hN (by kernel_rfl) (by kernel_rfl) (by kernel_rfl) (by kernel_rfl) hq ?_)
        intro a131 c132 a w128 χ129 hE h130 hS
        clear hq hN
        clear h114
        replace hO := hO.mv hE rfl rfl
        replace h115 := h115.mv hE rfl
        replace hAmb := hAmb.mv hE rfl
        replace h127 := h127.mv hE rfl
        clear hE
        refine endP T hS (sp := []) (ks := [5, 11, 12, 13]) (bs := []) (sy' := ⟨[(5, V (.slice a131 (out_111 ++ [(⟨0, 0, r123⟩ : Token_Token)]).length c132)), (11, V (.slice a1 n_.length c1)), (12, I ((n_.length : Nat) : Int)), (13, I x_116)], []⟩) (by kernel_rfl) ?_
        intro a hS
        refine region (endP T hS (sp := []) (ks := [5, 11, 12, 13]) (bs := []) (sy' := ⟨[(5, V (.slice a131 (out_111 ++ [(⟨0, 0, r123⟩ : Token_Token)]).length c132)), (11, V (.slice a1 n_.length c1)), (12, I ((n_.length : Nat) : Int)), (13, I (IntKind.i64.wrap (x_116 + 1)))], []⟩) (by kernel_rfl) ?_)
        intro a hS
        exact ⟨⟨out_111 ++ [(⟨0, 0, r123⟩ : Token_Token)], IntKind.i64.wrap (x_116 + 1)⟩, ⟨ρ, _, a131, c132, hm.1, hS.sel [5, 11, 12, 13] [] (by kernel_rfl), hO, h130, h115, hAmb⟩, hm.2⟩
      · replace hm := hm.2 hb
        refine wexit (by rfl) ?_
        exact ⟨ρ, _, out_111, a112, c113, hm, hS.sel [5] [] (by kernel_rfl), hO, h114, hAmb⟩
  · rintro a w136 ⟨ρ, χ135, out_105, a106, c107, hm, hS, hO, h108, hAmb⟩
    unfold VC35_J1 at hm
    refine regP T hS (sp := []) (ks := [4]) (bs := []) (sy' := ⟨[(4, V (.slice a106 out_105.length c107))], []⟩) (by kernel_rfl) ?_
    intro a hS
    refine wret ?_
    obtain ⟨χ109, hE, hF⟩ := h108.freeze (by decide)
    replace hS := hS.ev hE (xone_box (by kernel_rfl))
    replace hO := hO.mv hE rfl rfl
    replace hAmb := hAmb.mv hE rfl
    have h110 := hF; clear hE hF
    exact fin T hS hO (fun c => c) rfl (r := [.slice a106 out_105.length c107]) (by kernel_rfl) (fun χ' hM hC => ⟨out_105, hm, a106, c107, rfl, h110.m0 hM⟩)
theorem C35 (k48 : S48) (v : ∀ (word : List UInt8) (n_ : List Int), preW word n_ → VC35 word n_ (fun r => r = objtext_words word n_)) : S35 := by
  intro w χ word n_ a1 c1   hp h1 hAmb
  refine (W35 k48 w χ word n_ a1 c1   _ (v word n_ hp) h1 hAmb).mono ?_
  rintro _ _ _ _ ⟨r, rfl, h⟩
  exact h
def S34 : Prop := ∀ (w : World) (χ : Nat → Nat) (p_ : Api_Row), preP p_ → Amb w χ → Ret Tryd.prog 34 #[.agg #[.int .i64 p_.State, .int .i64 p_.Kind, .int .i64 p_.Next, .int .i64 p_.Result]] xnone w χ (fun w χ' v => ∃ (ra1 : Option Addr) (rc1 : Nat), v = .slice ra1 (objtext_printed_line p_).length rc1 ∧ RS tToken_Token w χ' ra1 (objtext_printed_line p_) rc1)
theorem hb34 : hasBody Tryd.prog 34 = true := by kernel_rfl
/-- (replevin/objtext.printed).line -/
theorem W34 (k35 : S35) (w0 : World) (χ0 : Nat → Nat) (p_ : Api_Row) (Q : (List Token_Token) → Prop) (hm : VC34 p_ Q) (hAmb : Amb w0 χ0) :
    Ret Tryd.prog 34 #[.agg #[.int .i64 p_.State, .int .i64 p_.Kind, .int .i64 p_.Next, .int .i64 p_.Result]] xnone w0 χ0 (fun w χ' v => ∃ r, Q r ∧ ∃ (ra1 : Option Addr) (rc1 : Nat), v = .slice ra1 r.length rc1 ∧ RS tToken_Token w χ' ra1 r rc1) := by
  unfold VC34 at hm
  refine enter Tryd.func34 rfl (vals := [.agg #[.int .i64 p_.State, .int .i64 p_.Kind, .int .i64 p_.Next, .int .i64 p_.Result]]) (by kernel_rfl) ?_
  intro ρ a hS hO hM
  replace hAmb := hAmb.m0 hM
  clear hM
  refine regM T hS (sp := []) (ks := [1]) (bs := [2]) (sy' := ⟨[(1, Pt 2 0)], [(2, (82, [I p_.State, I p_.Kind, I p_.Next, I p_.Result]))]⟩) (by kernel_rfl) ?_
  intro ρ a w112 χ113 hS hE hr
  replace hO := hO.mv hE rfl rfl
  replace hAmb := hAmb.mv hE rfl
  clear hE hr
  refine regO ?_
  refine opsP T hS 8 (sp := []) (ks := [4, 6, 8, 10]) (bs := []) (sy' := ⟨[(4, I p_.State), (6, I p_.Kind), (8, I p_.Next), (10, I p_.Result)], []⟩) (by kernel_rfl) ?_
  intro a hS
  refine op1 (lit (E := 3) (col := 0) (T := tI) (vals := [.int .i64 p_.State, .int .i64 p_.Kind, .int .i64 p_.Next, .int .i64 p_.Result]) (ys := [p_.State, p_.Kind, p_.Next, p_.Result]) T hS (by kernel_rfl) (by kernel_rfl) (by kernel_rfl) (by kernel_rfl) (by exact ⟨rfl, rfl, rfl, rfl, trivial⟩) rfl (by kernel_rfl) (by kernel_rfl) (by kernel_rfl) (by kernel_rfl) ?_)
  intro b101 a w102 χ103 hE h104 hN hS
  clear hN
  replace hO := hO.mv hE rfl rfl
  replace hAmb := hAmb.mv hE rfl
  clear hE
  replace h104 := h104.rs0
  obtain ⟨hq, hm⟩ := hm
  refine op1 (call hS (by kernel_rfl) (by kernel_rfl) hb35 (by kernel_rfl) (fun _ _ => rfl) (k35 _ _ ([114, 111, 119] : List UInt8) [p_.State, p_.Kind, p_.Next, p_.Result] (some ⟨b101, 0, none⟩) 4 hq h104 hAmb) ?_)
  intro v105 a w106 χ107 hE hp hS
  clear hq
  replace hO := hO.mv hE rfl rfl
  replace hAmb := hAmb.mv hE rfl
  replace h104 := h104.mv hE rfl
  clear hE
  obtain ⟨a109, c110, hp, h111⟩ := hp
  obtain ⟨r108, hr⟩ : ∃ r, objtext_words ([114, 111, 119] : List UInt8) [p_.State, p_.Kind, p_.Next, p_.Result] = r := ⟨_, rfl⟩
  replace hm := hm r108 hr
  rw [hr] at hp h111
  clear hr
  subst hp
  replace hm := hm (h111.sm (by kernel_rfl))
  refine endP T hS (sp := []) (ks := [2]) (bs := []) (sy' := ⟨[(2, V (.slice a109 r108.length c110))], []⟩) (by kernel_rfl) ?_
  intro a hS
  refine wret ?_
  exact fin T hS hO (fun c => c) rfl (r := [.slice a109 r108.length c110]) (by kernel_rfl) (fun χ' hM hC => ⟨r108, hm, a109, c110, rfl, h111.m0 hM⟩)
theorem C34 (k35 : S35) (v : ∀ (p_ : Api_Row), preP p_ → VC34 p_ (fun r => r = objtext_printed_line p_)) : S34 := by
  intro w χ p_    hp hAmb
  refine (W34 k35 w χ p_    _ (v p_ hp) hAmb).mono ?_
  rintro _ _ _ _ ⟨r, rfl, h⟩
  exact h
def S19 : Prop := ∀ (w : World) (χ : Nat → Nat) (o_ : Api_Object) (a1 : Option Addr) (c1 : Nat), prePr o_ → RS tApi_Row w χ a1 o_.Rows c1 → Amb w χ → Ret Tryd.prog 19 #[.agg #[.int .i64 o_.States, .int .i64 o_.Kinds, .int .i64 o_.Init, .slice a1 o_.Rows.length c1]] xnone w χ (fun w χ' v => v = .tuple #[.string (bs ((objtext_Print o_).1)), .int .i64 ((objtext_Print o_).2)])
theorem hb19 : hasBody Tryd.prog 19 = true := by kernel_rfl
/-- replevin/objtext.Print -/
theorem W19 (k24 : S24) (k34 : S34) (k35 : S35) (k36 : S36) (w0 : World) (χ0 : Nat → Nat) (o_ : Api_Object) (a1 : Option Addr) (c1 : Nat) (Q : (List UInt8) × Int → Prop) (hm : VC19 o_ Q) (h1 : RS tApi_Row w0 χ0 a1 o_.Rows c1) (hAmb : Amb w0 χ0) :
    Ret Tryd.prog 19 #[.agg #[.int .i64 o_.States, .int .i64 o_.Kinds, .int .i64 o_.Init, .slice a1 o_.Rows.length c1]] xnone w0 χ0 (fun w χ' v => ∃ r, Q r ∧ v = .tuple #[.string (bs r.1), .int .i64 r.2]) := by
  unfold VC19 at hm
  replace hm := hm (h1.sm (by kernel_rfl))
  refine enter Tryd.func19 rfl (vals := [.agg #[.int .i64 o_.States, .int .i64 o_.Kinds, .int .i64 o_.Init, .slice a1 o_.Rows.length c1]]) (by kernel_rfl) ?_
  intro ρ a hS hO hM
  replace h1 := h1.m0 hM
  replace hAmb := hAmb.m0 hM
  clear hM
  refine regM T hS (sp := []) (ks := [1]) (bs := [2]) (sy' := ⟨[(1, Pt 2 0)], [(2, (25, [I o_.States, I o_.Kinds, I o_.Init, V (.slice a1 o_.Rows.length c1)]))]⟩) (by kernel_rfl) ?_
  intro ρ a w159 χ160 hS hE hr
  replace hO := hO.mv hE rfl rfl
  replace h1 := h1.mv hE rfl
  replace hAmb := hAmb.mv hE rfl
  clear hE hr
  refine wseq ?_
  refine regO ?_
  refine opsP T hS 1 (sp := []) (ks := [1, 11]) (bs := [2]) (sy' := ⟨[(1, Pt 2 0), (11, V (.agg #[.int .i64 o_.States, .int .i64 o_.Kinds, .int .i64 o_.Init, .slice a1 o_.Rows.length c1]))], [(2, (25, [I o_.States, I o_.Kinds, I o_.Init, V (.slice a1 o_.Rows.length c1)]))]⟩) (by kernel_rfl) ?_
  intro a hS
  obtain ⟨hq, hm⟩ := hm
  refine op1 (call hS (by kernel_rfl) (by kernel_rfl) hb24 (by kernel_rfl) (fun _ _ => rfl) (k24 _ _ o_ a1 c1 hq h1) ?_)
  intro v101 a w102 χ103 hE hp hS
  clear hq
  replace hO := hO.mv hE rfl rfl
  replace h1 := h1.mv hE rfl
  replace hAmb := hAmb.mv hE rfl
  clear hE
  obtain ⟨r104, hr⟩ : ∃ r, object_Check o_ = r := ⟨_, rfl⟩
  replace hm := hm r104 hr
  rw [hr] at hp
  clear hr
  subst hp
  refine endP T hS (sp := []) (ks := [1, 5]) (bs := [2]) (sy' := ⟨[(1, Pt 2 0), (5, I r104.2)], [(2, (25, [I o_.States, I o_.Kinds, I o_.Init, V (.slice a1 o_.Rows.length c1)]))]⟩) (by kernel_rfl) ?_
  intro a hS
  refine regP T hS (sp := []) (ks := [1, 5, 16]) (bs := [2]) (sy' := ⟨[(1, Pt 2 0), (5, I r104.2), (16, B (r104.2 != 0))], [(2, (25, [I o_.States, I o_.Kinds, I o_.Init, V (.slice a1 o_.Rows.length c1)]))]⟩) (by kernel_rfl) ?_
  intro a hS
  refine wcond hS (b := (r104.2 != 0)) (by kernel_rfl) (fun hb => ?_) (fun hb => ?_)
  · replace hm := hm.1 hb
    refine regP T hS (sp := []) (ks := [2, 3]) (bs := []) (sy' := ⟨[(2, V (.string (bs ([] : List UInt8)))), (3, I r104.2)], []⟩) (by kernel_rfl) ?_
    intro a hS
    refine wret ?_
    exact fin T hS hO (fun c => c) rfl (r := [.string (bs ([] : List UInt8)), .int .i64 r104.2]) (by kernel_rfl) (fun χ' hM hC => ⟨(([] : List UInt8), r104.2), hm, rfl⟩)
  · replace hm := hm.2 hb
    refine wskip ?_
    refine regP T hS (sp := []) (ks := [1, 6]) (bs := [2]) (sy' := ⟨[(1, Pt 2 0), (6, .f (.func 34) [] [])], [(2, (25, [I o_.States, I o_.Kinds, I o_.Init, V (.slice a1 o_.Rows.length c1)]))]⟩) (by kernel_rfl) ?_
    intro a hS
    refine regO ?_
    refine opsP T hS 9 (sp := []) (ks := [1, 6, 19, 21, 23, 26]) (bs := [2]) (sy' := ⟨[(1, Pt 2 0), (6, .f (.func 34) [] []), (19, I o_.States), (21, I o_.Kinds), (23, I o_.Init), (26, I ((o_.Rows.length : Nat) : Int))], [(2, (25, [I o_.States, I o_.Kinds, I o_.Init, V (.slice a1 o_.Rows.length c1)]))]⟩) (by kernel_rfl) ?_
    intro a hS
    refine op1 (lit (E := 3) (col := 0) (T := tI) (vals := [.int .i64 o_.States, .int .i64 o_.Kinds, .int .i64 o_.Init, .int .i64 ((o_.Rows.length : Nat) : Int)]) (ys := [o_.States, o_.Kinds, o_.Init, ((o_.Rows.length : Nat) : Int)]) T hS (by kernel_rfl) (by kernel_rfl) (by kernel_rfl) (by kernel_rfl) (by exact ⟨rfl, rfl, rfl, rfl, trivial⟩) rfl (by kernel_rfl) (by kernel_rfl) (by kernel_rfl) (by kernel_rfl) ?_)
    intro b105 a w106 χ107 hE h108 hN hS
    clear hN
    replace hO := hO.mv hE rfl rfl
    replace h1 := h1.mv hE rfl
    replace hAmb := hAmb.mv hE rfl
    clear hE
    replace h108 := h108.rs0
    obtain ⟨hq, hm⟩ := hm
    refine op1 (call hS (by kernel_rfl) (by kernel_rfl) hb35 (by kernel_rfl) (fun _ _ => rfl) (k35 _ _ ([111, 98, 106, 101, 99, 116] : List UInt8) [o_.States, o_.Kinds, o_.Init, ((o_.Rows.length : Nat) : Int)] (some ⟨b105, 0, none⟩) 4 hq h108 hAmb) ?_)
    intro v109 a w110 χ111 hE hp hS
    clear hq
    replace hO := hO.mv hE rfl rfl
    replace h1 := h1.mv hE rfl
    replace hAmb := hAmb.mv hE rfl
    replace h108 := h108.mv hE rfl
    clear hE
    obtain ⟨a113, c114, hp, h115⟩ := hp
    obtain ⟨r112, hr⟩ : ∃ r, objtext_words ([111, 98, 106, 101, 99, 116] : List UInt8) [o_.States, o_.Kinds, o_.Init, ((o_.Rows.length : Nat) : Int)] = r := ⟨_, rfl⟩
    replace hm := hm r112 hr
    rw [hr] at hp h115
    clear hr
    subst hp
    replace hm := hm (h115.sm (by kernel_rfl))
    refine op1 (lit (E := 53) (col := 1008) (T := (tSlice tToken_Token)) (vals := [.slice a113 r112.length c114]) (ys := [r112]) T hS (by kernel_rfl) (by kernel_rfl) (by kernel_rfl) (by kernel_rfl) (by exact ⟨⟨a113, c114, rfl, h115⟩, trivial⟩) rfl (by kernel_rfl) (by kernel_rfl) (by kernel_rfl) (by kernel_rfl) ?_)
    intro b116 a w117 χ118 hE h119 hN hS
    clear hN
    replace hO := hO.mv hE rfl rfl
    replace h1 := h1.mv hE rfl
    replace hAmb := hAmb.mv hE rfl
    replace h108 := h108.mv hE rfl
    replace h115 := h115.mv hE rfl
    clear hE
    refine endP T hS (sp := []) (ks := [1, 6, 7]) (bs := [2]) (sy' := ⟨[(1, Pt 2 0), (6, .f (.func 34) [] []), (7, V (.slice (some ⟨b116, 0, none⟩) [r112].length 1))], [(2, (25, [I o_.States, I o_.Kinds, I o_.Init, V (.slice a1 o_.Rows.length c1)]))]⟩) (by kernel_rfl) ?_
    intro a hS
    refine wcut (fun a w => ∃ (ρ : Nat → Nat) (χ : Nat → Nat) (lines_120 : List (List Token_Token)) (a121 : Option Addr) (c122 : Nat), VC19_J1 Q lines_120 ∧ St Tryd.f19.ntmps ⟨[(7, V (.slice a121 lines_120.length c122))], []⟩ ρ a w χ ∧ Old w0 χ0 w χ ∧ OS (tSlice tToken_Token) 53 w χ 1008 a121 lines_120 c122 ∧ Amb w χ) ?_ ?_
    · refine regP T hS (sp := []) (ks := [6, 7, 31, 32, 33]) (bs := []) (sy' := ⟨[(6, .f (.func 34) [] []), (7, V (.slice (some ⟨b116, 0, none⟩) [r112].length 1)), (31, V (.slice a1 o_.Rows.length c1)), (32, I ((o_.Rows.length : Nat) : Int)), (33, I 0)], []⟩) (by kernel_rfl) ?_
      intro a hS
      refine wblock ?_
      obtain ⟨I1, μ1, hm0, hm⟩ := hm
      refine wloop (σ := (List (List Token_Token)) × Int) (fun s a w => ∃ (ρ : Nat → Nat) (χ : Nat → Nat) (a129 : Option Addr) (c130 : Nat), I1 s.1 s.2 ∧ St Tryd.f19.ntmps ⟨[(6, .f (.func 34) [] []), (7, V (.slice a129 s.1.length c130)), (31, V (.slice a1 o_.Rows.length c1)), (32, I ((o_.Rows.length : Nat) : Int)), (33, I s.2)], []⟩ ρ a w χ ∧ Old w0 χ0 w χ ∧ OS (tSlice tToken_Token) 53 w χ 1008 a129 s.1 c130 ∧ RS tApi_Row w χ a1 o_.Rows c1 ∧ Amb w χ) (fun s => μ1 s.1 s.2) (⟨[r112], 0⟩) ?_ ?_
      · exact ⟨ρ, _, (some ⟨b116, 0, none⟩), 1, hm0, hS.sel [6, 7, 31, 32, 33] [] (by kernel_rfl), hO, h119, h1, hAmb⟩
      · rintro ⟨lines_128, x_133⟩ a w156 ⟨ρ, χ155, a129, c130, hI, hS, hO, h131, h132, hAmb⟩
        replace hm := hm lines_128 x_133 hI
        clear hI hm0
        refine regP T hS (sp := []) (ks := [6, 7, 31, 32, 33, 34]) (bs := []) (sy' := ⟨[(6, .f (.func 34) [] []), (7, V (.slice a129 lines_128.length c130)), (31, V (.slice a1 o_.Rows.length c1)), (32, I ((o_.Rows.length : Nat) : Int)), (33, I x_133), (34, B (decide (x_133 < ((o_.Rows.length : Nat) : Int))))], []⟩) (by kernel_rfl) ?_
        intro a hS
        refine wseq ?_
        refine wcond hS (b := decide (x_133 < ((o_.Rows.length : Nat) : Int))) (by kernel_rfl) (fun hb => ?_) (fun hb => ?_)
        · replace hm := hm.1 hb
          refine wskip ?_
          refine wseq ?_
          refine wblock ?_
          refine regO ?_
          obtain ⟨hq, hm⟩ := hm
          refine op1 (index (e := 66) (k := .i64) T hS (by kernel_rfl) (by kernel_rfl) (by kernel_rfl) (by kernel_rfl) h132 (by kernel_rfl) (by kernel_rfl) hq.1 hq.2 ?_)
          intro A134 a h135 hS
          clear hq
          refine op1 (loadA T hS (by kernel_rfl) (by kernel_rfl) (by kernel_rfl) h135 (by kernel_rfl) (by kernel_rfl) ?_)
          intro v136 a hv hS
          subst hv
          refine endM T hS (sp := []) (ks := [6, 7, 9, 31, 32, 33]) (bs := [10]) (sy' := ⟨[(6, .f (.func 34) [] []), (7, V (.slice a129 lines_128.length c130)), (9, Pt 10 0), (31, V (.slice a1 o_.Rows.length c1)), (32, I ((o_.Rows.length : Nat) : Int)), (33, I x_133)], [(10, (66, [I ((gi o_.Rows x_133).State), I ((gi o_.Rows x_133).Kind), I ((gi o_.Rows x_133).Next), I ((gi o_.Rows x_133).Result)]))]⟩) (by kernel_rfl) ?_
          intro ρ a w153 χ154 hS hE hr
          replace hO := hO.mv hE rfl rfl
          replace h131 := h131.mv hE rfl rfl
          replace h132 := h132.mv hE rfl
          replace hAmb := hAmb.mv hE rfl
          clear hE hr
          refine region ?_
          refine opsP T hS 3 (sp := []) (ks := [6, 7, 31, 32, 33, 37, 38, 39]) (bs := []) (sy' := ⟨[(6, .f (.func 34) [] []), (7, V (.slice a129 lines_128.length c130)), (31, V (.slice a1 o_.Rows.length c1)), (32, I ((o_.Rows.length : Nat) : Int)), (33, I x_133), (37, V (.slice a129 lines_128.length c130)), (38, .f (.func 34) [] []), (39, V (.agg #[.int .i64 ((gi o_.Rows x_133).State), .int .i64 ((gi o_.Rows x_133).Kind), .int .i64 ((gi o_.Rows x_133).Next), .int .i64 ((gi o_.Rows x_133).Result)]))], []⟩) (by kernel_rfl) ?_
          intro a hS
          obtain ⟨hq, hm⟩ := hm
          refine op1 (callC (fi := []) (cp := []) hS (by kernel_rfl) (by kernel_rfl) hb34 (by kernel_rfl) (by kernel_rfl) (fun _ _ => rfl) (k34 _ _ (⟨(gi o_.Rows x_133).State, (gi o_.Rows x_133).Kind, (gi o_.Rows x_133).Next, (gi o_.Rows x_133).Result⟩ : Api_Row) hq hAmb) ?_)
          intro v137 a w138 χ139 hE hp hS
          clear hq
          replace hO := hO.mv hE rfl rfl
          replace h131 := h131.mv hE rfl rfl
          replace h132 := h132.mv hE rfl
          replace hAmb := hAmb.mv hE rfl
          clear hE
          obtain ⟨a141, c142, hp, h143⟩ := hp
          obtain ⟨r140, hr⟩ : ∃ r, objtext_printed_line (⟨(gi o_.Rows x_133).State, (gi o_.Rows x_133).Kind, (gi o_.Rows x_133).Next, (gi o_.Rows x_133).Result⟩ : Api_Row) = r := ⟨_, rfl⟩
          replace hm := hm r140 hr
          rw [hr] at hp h143
          clear hr
          subst hp
          replace hm := hm (h143.sm (by kernel_rfl))
          refine op1 (lit (E := 53) (col := 0) (T := (tSlice tToken_Token)) (vals := [.slice a141 r140.length c142]) (ys := [r140]) T hS (by kernel_rfl) (by kernel_rfl) (by kernel_rfl) (by kernel_rfl) (by exact ⟨⟨a141, c142, rfl, h143⟩, trivial⟩) rfl (by kernel_rfl) (by kernel_rfl) (by kernel_rfl) (by kernel_rfl) ?_)
          intro b144 a w145 χ146 hE h147 hN hS
          clear hN
          replace hO := hO.mv hE rfl rfl
          replace h131 := h131.mv hE rfl rfl
          replace h132 := h132.mv hE rfl
          replace hAmb := hAmb.mv hE rfl
          replace h143 := h143.mv hE rfl
          clear hE
          replace h147 := h147.rs0
          obtain ⟨hq, hm⟩ := hm
          obtain ⟨news, hN⟩ := h147.src
          refine op1 (append (E := 53) (T := (tSlice tToken_Token)) (col := 1008) (xs := lines_128) T hS (by kernel_rfl) (by kernel_rfl) (by kernel_rfl) (by kernel_rfl) h131 hN (by kernel_rfl) (by kernel_rfl) (by kernel_rfl) (by kernel_rfl) hq ?_)
          intro a151 c152 a w148 χ149 hE h150 hS
          clear hq hN
          clear h131
          replace hO := hO.mv hE rfl rfl
          replace h132 := h132.mv hE rfl
          replace hAmb := hAmb.mv hE rfl
          replace h143 := h143.mv hE rfl
          replace h147 := h147.mv hE rfl
          clear hE
          refine endP T hS (sp := []) (ks := [6, 7, 31, 32, 33]) (bs := []) (sy' := ⟨[(6, .f (.func 34) [] []), (7, V (.slice a151 (lines_128 ++ [r140]).length c152)), (31, V (.slice a1 o_.Rows.length c1)), (32, I ((o_.Rows.length : Nat) : Int)), (33, I x_133)], []⟩) (by kernel_rfl) ?_
          intro a hS
          refine region (endP T hS (sp := []) (ks := [6, 7, 31, 32, 33]) (bs := []) (sy' := ⟨[(6, .f (.func 34) [] []), (7, V (.slice a151 (lines_128 ++ [r140]).length c152)), (31, V (.slice a1 o_.Rows.length c1)), (32, I ((o_.Rows.length : Nat) : Int)), (33, I (IntKind.i64.wrap (x_133 + 1)))], []⟩) (by kernel_rfl) ?_)
          intro a hS
          exact ⟨⟨lines_128 ++ [r140], IntKind.i64.wrap (x_133 + 1)⟩, ⟨ρ, _, a151, c152, hm.1, hS.sel [6, 7, 31, 32, 33] [] (by kernel_rfl), hO, h150, h132, hAmb⟩, hm.2⟩
        · replace hm := hm.2 hb
          refine wexit (by rfl) ?_
          exact ⟨ρ, _, lines_128, a129, c130, hm, hS.sel [7] [] (by kernel_rfl), hO, h131, hAmb⟩
    · rintro a w158 ⟨ρ, χ157, lines_120, a121, c122, hm, hS, hO, h123, hAmb⟩
      unfold VC19_J1 at hm
      refine regO ?_
      refine opsP T hS 1 (sp := []) (ks := [44]) (bs := []) (sy' := ⟨[(44, V (.slice a121 lines_120.length c122))], []⟩) (by kernel_rfl) ?_
      intro a hS
      obtain ⟨hq, hm⟩ := hm
      refine op1 (call hS (by kernel_rfl) (by kernel_rfl) hb36 (by kernel_rfl) (fun _ _ => rfl) (Ret.unlend (k36 _ (lend 1008 _) lines_120 a121 c122 hq h123.lend)) ?_)
      intro v124 a w125 χ126 hE hp hS
      clear hq
      replace hO := hO.mv hE rfl rfl
      replace h123 := h123.mv hE rfl rfl
      replace hAmb := hAmb.mv hE rfl
      clear hE
      obtain ⟨_, hp⟩ := hp
      obtain ⟨r127, hr⟩ : ∃ r, token_Join lines_120 = r := ⟨_, rfl⟩
      replace hm := hm r127 hr
      rw [hr] at hp
      clear hr
      subst hp
      refine endP T hS (sp := []) (ks := [2, 3]) (bs := []) (sy' := ⟨[(2, V (.string (bs r127))), (3, I 0)], []⟩) (by kernel_rfl) ?_
      intro a hS
      refine wret ?_
      exact fin T hS hO (fun c => c) rfl (r := [.string (bs r127), .int .i64 0]) (by kernel_rfl) (fun χ' hM hC => ⟨(r127, 0), hm, rfl⟩)
theorem C19 (k24 : S24) (k34 : S34) (k35 : S35) (k36 : S36) (v : ∀ (o_ : Api_Object), prePr o_ → VC19 o_ (fun r => r = objtext_Print o_)) : S19 := by
  intro w χ o_ a1 c1   hp h1 hAmb
  refine (W19 k24 k34 k35 k36 w χ o_ a1 c1   _ (v o_ hp) h1 hAmb).mono ?_
  rintro _ _ _ _ ⟨r, rfl, h⟩
  exact h
def S37 : Prop := ∀ (w : World) (χ : Nat → Nat) (w_ : List UInt8) (n_ : List Int) (a1 : Option Addr) (c1 : Nat), preWB w_ n_ → RS tI w χ a1 n_ c1 → Ret Tryd.prog 37 #[.string (bs w_), .slice a1 n_.length c1] xnone w χ (fun w χ' v => v = .string (bs (ref24_Words w_ n_)))
theorem hb37 : hasBody Tryd.prog 37 = true := by kernel_rfl
/-- replevin/replevinref24.Words -/
theorem W37 (k52 : S52) (w0 : World) (χ0 : Nat → Nat) (w_ : List UInt8) (n_ : List Int) (a1 : Option Addr) (c1 : Nat) (Q : (List UInt8) → Prop) (hm : VC37 w_ n_ Q) (h1 : RS tI w0 χ0 a1 n_ c1) :
    Ret Tryd.prog 37 #[.string (bs w_), .slice a1 n_.length c1] xnone w0 χ0 (fun w χ' v => ∃ r, Q r ∧ v = .string (bs r)) := by
  unfold VC37 at hm
  replace hm := hm (h1.sm (by kernel_rfl))
  refine enter Tryd.func37 rfl (vals := [.string (bs w_), .slice a1 n_.length c1]) (by kernel_rfl) ?_
  intro ρ a hS hO hM
  replace h1 := h1.m0 hM
  clear hM
  refine regP T hS (sp := []) (ks := [0, 1]) (bs := []) (sy' := ⟨[(0, V (.string (bs w_))), (1, V (.slice a1 n_.length c1))], []⟩) (by kernel_rfl) ?_
  intro a hS
  refine wcut (fun a w => ∃ (ρ : Nat → Nat) (χ : Nat → Nat) (w_101 : List UInt8), VC37_J1 Q w_101 ∧ St Tryd.f37.ntmps ⟨[(0, V (.string (bs w_101)))], []⟩ ρ a w χ ∧ Old w0 χ0 w χ) ?_ ?_
  · refine regP T hS (sp := []) (ks := [0, 1, 5]) (bs := []) (sy' := ⟨[(0, V (.string (bs w_))), (1, V (.slice a1 n_.length c1)), (5, I 0)], []⟩) (by kernel_rfl) ?_
    intro a hS
    refine wblock ?_
    obtain ⟨I1, μ1, hm0, hm⟩ := hm
    refine wloop (σ := (List UInt8) × Int) (fun s a w => ∃ (ρ : Nat → Nat) (χ : Nat → Nat), I1 s.1 s.2 ∧ St Tryd.f37.ntmps ⟨[(0, V (.string (bs s.1))), (1, V (.slice a1 n_.length c1)), (5, I s.2)], []⟩ ρ a w χ ∧ Old w0 χ0 w χ ∧ RS tI w χ a1 n_ c1) (fun s => μ1 s.1 s.2) (⟨w_, 0⟩) ?_ ?_
    · exact ⟨ρ, _, hm0, hS.sel [0, 1, 5] [] (by kernel_rfl), hO, h1⟩
    · rintro ⟨w_102, i_104⟩ a w113 ⟨ρ, χ112, hI, hS, hO, h103⟩
      replace hm := hm w_102 i_104 hI
      clear hI hm0
      refine wseq ?_
      refine regP T hS (sp := []) (ks := [0, 1, 5, 9]) (bs := []) (sy' := ⟨[(0, V (.string (bs w_102))), (1, V (.slice a1 n_.length c1)), (5, I i_104), (9, B (decide (i_104 < ((n_.length : Nat) : Int))))], []⟩) (by kernel_rfl) ?_
      intro a hS
      refine wcond hS (b := decide (i_104 < ((n_.length : Nat) : Int))) (by kernel_rfl) (fun hb => ?_) (fun hb => ?_)
      · replace hm := hm.1 hb
        refine wskip ?_
        refine wseq ?_
        refine wblock ?_
        refine region ?_
        refine opsP T hS 1 (sp := []) (ks := [0, 1, 5, 12]) (bs := []) (sy' := ⟨[(0, V (.string (bs w_102))), (1, V (.slice a1 n_.length c1)), (5, I i_104), (12, V (.string (bs w_102)))], []⟩) (by kernel_rfl) ?_
        intro a hS
        obtain ⟨hq, hm⟩ := hm
        refine op1 (sadd (p := w_102) (q := ([32] : List UInt8)) hS (by kernel_rfl) (by kernel_rfl) (by kernel_rfl) (by kernel_rfl) hq ?_)
        intro a hS
        clear hq
        refine opsP T hS 2 (sp := []) (ks := [0, 1, 5, 13, 14, 15]) (bs := []) (sy' := ⟨[(0, V (.string (bs w_102))), (1, V (.slice a1 n_.length c1)), (5, I i_104), (13, V (.string (bs (w_102 ++ ([32] : List UInt8))))), (14, V (.slice a1 n_.length c1)), (15, I i_104)], []⟩) (by kernel_rfl) ?_
        intro a hS
        obtain ⟨hq, hm⟩ := hm
        refine op1 (index (e := 3) (k := .i64) T hS (by kernel_rfl) (by kernel_rfl) (by kernel_rfl) (by kernel_rfl) h103 (by kernel_rfl) (by kernel_rfl) hq.1 hq.2 ?_)
        intro A105 a h106 hS
        clear hq
        refine op1 (load1 T hS (by kernel_rfl) (by kernel_rfl) (by kernel_rfl) h106 rfl (by kernel_rfl) ?_)
        intro v107 a hv hS
        cases hv
        obtain ⟨hq, hm⟩ := hm
        refine op1 (call hS (by kernel_rfl) (by kernel_rfl) hb52 (by kernel_rfl) (fun _ _ => rfl) (k52 _ _ (gi n_ i_104) hq) ?_)
        intro v108 a w109 χ110 hE hp hS
        clear hq
        replace hO := hO.mv hE rfl rfl
        replace h103 := h103.mv hE rfl
        replace h106 := h106.mv hE rfl
        clear hE
        obtain ⟨r111, hr⟩ : ∃ r, ref05_Digits (gi n_ i_104) = r := ⟨_, rfl⟩
        replace hm := hm r111 hr
        rw [hr] at hp
        clear hr
        subst hp
        obtain ⟨hq, hm⟩ := hm
        refine op1 (sadd (p := (w_102 ++ ([32] : List UInt8))) (q := r111) hS (by kernel_rfl) (by kernel_rfl) (by kernel_rfl) (by kernel_rfl) hq ?_)
        intro a hS
        clear hq
        refine endP T hS (sp := []) (ks := [0, 1, 5]) (bs := []) (sy' := ⟨[(0, V (.string (bs ((w_102 ++ ([32] : List UInt8)) ++ r111)))), (1, V (.slice a1 n_.length c1)), (5, I i_104)], []⟩) (by kernel_rfl) ?_
        intro a hS
        refine region (endP T hS (sp := []) (ks := [0, 1, 5]) (bs := []) (sy' := ⟨[(0, V (.string (bs ((w_102 ++ ([32] : List UInt8)) ++ r111)))), (1, V (.slice a1 n_.length c1)), (5, I (IntKind.i64.wrap (i_104 + 1)))], []⟩) (by kernel_rfl) ?_)
        intro a hS
        exact ⟨⟨((w_102 ++ ([32] : List UInt8)) ++ r111), IntKind.i64.wrap (i_104 + 1)⟩, ⟨ρ, _, hm.1, hS.sel [0, 1, 5] [] (by kernel_rfl), hO, h103⟩, hm.2⟩
      · replace hm := hm.2 hb
        refine wexit (by rfl) ?_
        exact ⟨ρ, _, w_102, hm, hS.sel [0] [] (by kernel_rfl), hO⟩
  · rintro a w115 ⟨ρ, χ114, w_101, hm, hS, hO⟩
    unfold VC37_J1 at hm
    refine regO ?_
    refine opsP T hS 1 (sp := []) (ks := [20]) (bs := []) (sy' := ⟨[(20, V (.string (bs w_101)))], []⟩) (by kernel_rfl) ?_
    intro a hS
    obtain ⟨hq, hm⟩ := hm
    refine op1 (sadd (p := w_101) (q := ([10] : List UInt8)) hS (by kernel_rfl) (by kernel_rfl) (by kernel_rfl) (by kernel_rfl) hq ?_)
    intro a hS
    clear hq
    refine endP T hS (sp := []) (ks := [4]) (bs := []) (sy' := ⟨[(4, V (.string (bs (w_101 ++ ([10] : List UInt8)))))], []⟩) (by kernel_rfl) ?_
    intro a hS
    refine wret ?_
    exact fin T hS hO (fun c => c) rfl (r := [.string (bs (w_101 ++ ([10] : List UInt8)))]) (by kernel_rfl) (fun χ' hM hC => ⟨(w_101 ++ ([10] : List UInt8)), hm, rfl⟩)
theorem C37 (k52 : S52) (v : ∀ (w_ : List UInt8) (n_ : List Int), preWB w_ n_ → VC37 w_ n_ (fun r => r = ref24_Words w_ n_)) : S37 := by
  intro w χ w_ n_ a1 c1   hp h1
  refine (W37 k52 w χ w_ n_ a1 c1   _ (v w_ n_ hp) h1).mono ?_
  rintro _ _ _ _ ⟨r, rfl, h⟩
  exact h
def S20 : Prop := ∀ (w : World) (χ : Nat → Nat) (o_ : Api_Object) (a1 : Option Addr) (c1 : Nat), prePr o_ → RS tApi_Row w χ a1 o_.Rows c1 → Ret Tryd.prog 20 #[.agg #[.int .i64 o_.States, .int .i64 o_.Kinds, .int .i64 o_.Init, .slice a1 o_.Rows.length c1]] xnone w χ (fun w χ' v => v = .tuple #[.string (bs ((ref24_Print o_).1)), .int .i64 ((ref24_Print o_).2)])
theorem hb20 : hasBody Tryd.prog 20 = true := by kernel_rfl
/-- replevin/replevinref24.Print -/
theorem W20 (k33 : S33) (k37 : S37) (w0 : World) (χ0 : Nat → Nat) (o_ : Api_Object) (a1 : Option Addr) (c1 : Nat) (Q : (List UInt8) × Int → Prop) (hm : VC20 o_ Q) (h1 : RS tApi_Row w0 χ0 a1 o_.Rows c1) :
    Ret Tryd.prog 20 #[.agg #[.int .i64 o_.States, .int .i64 o_.Kinds, .int .i64 o_.Init, .slice a1 o_.Rows.length c1]] xnone w0 χ0 (fun w χ' v => ∃ r, Q r ∧ v = .tuple #[.string (bs r.1), .int .i64 r.2]) := by
  unfold VC20 at hm
  replace hm := hm (h1.sm (by kernel_rfl))
  refine enter Tryd.func20 rfl (vals := [.agg #[.int .i64 o_.States, .int .i64 o_.Kinds, .int .i64 o_.Init, .slice a1 o_.Rows.length c1]]) (by kernel_rfl) ?_
  intro ρ a hS hO hM
  replace h1 := h1.m0 hM
  clear hM
  refine regM T hS (sp := []) (ks := [1]) (bs := [2]) (sy' := ⟨[(1, Pt 2 0)], [(2, (25, [I o_.States, I o_.Kinds, I o_.Init, V (.slice a1 o_.Rows.length c1)]))]⟩) (by kernel_rfl) ?_
  intro ρ a w134 χ135 hS hE hr
  replace hO := hO.mv hE rfl rfl
  replace h1 := h1.mv hE rfl
  clear hE hr
  refine regO ?_
  refine opsP T hS 1 (sp := []) (ks := [1, 10]) (bs := [2]) (sy' := ⟨[(1, Pt 2 0), (10, V (.agg #[.int .i64 o_.States, .int .i64 o_.Kinds, .int .i64 o_.Init, .slice a1 o_.Rows.length c1]))], [(2, (25, [I o_.States, I o_.Kinds, I o_.Init, V (.slice a1 o_.Rows.length c1)]))]⟩) (by kernel_rfl) ?_
  intro a hS
  refine op1 (call hS (by kernel_rfl) (by kernel_rfl) hb33 (by kernel_rfl) (fun _ _ => rfl) (k33 _ _ o_ a1 c1 h1) ?_)
  intro v101 a w102 χ103 hE hp hS
  replace hO := hO.mv hE rfl rfl
  replace h1 := h1.mv hE rfl
  clear hE
  obtain ⟨r104, hr⟩ : ∃ r, ref23_Check o_ = r := ⟨_, rfl⟩
  replace hm := hm r104 hr
  rw [hr] at hp
  clear hr
  subst hp
  refine endP T hS (sp := []) (ks := [1, 5]) (bs := [2]) (sy' := ⟨[(1, Pt 2 0), (5, I r104.2)], [(2, (25, [I o_.States, I o_.Kinds, I o_.Init, V (.slice a1 o_.Rows.length c1)]))]⟩) (by kernel_rfl) ?_
  intro a hS
  refine wseq ?_
  refine regP T hS (sp := []) (ks := [1, 5, 15]) (bs := [2]) (sy' := ⟨[(1, Pt 2 0), (5, I r104.2), (15, B (r104.2 != 0))], [(2, (25, [I o_.States, I o_.Kinds, I o_.Init, V (.slice a1 o_.Rows.length c1)]))]⟩) (by kernel_rfl) ?_
  intro a hS
  refine wcond hS (b := (r104.2 != 0)) (by kernel_rfl) (fun hb => ?_) (fun hb => ?_)
  · replace hm := hm.1 hb
    refine regP T hS (sp := []) (ks := [2, 3]) (bs := []) (sy' := ⟨[(2, V (.string (bs ([] : List UInt8)))), (3, I r104.2)], []⟩) (by kernel_rfl) ?_
    intro a hS
    refine wret ?_
    exact fin T hS hO (fun c => c) rfl (r := [.string (bs ([] : List UInt8)), .int .i64 r104.2]) (by kernel_rfl) (fun χ' hM hC => ⟨(([] : List UInt8), r104.2), hm, rfl⟩)
  · replace hm := hm.2 hb
    refine wskip ?_
    refine regO ?_
    refine opsP T hS 9 (sp := []) (ks := [1, 18, 20, 22, 25]) (bs := [2]) (sy' := ⟨[(1, Pt 2 0), (18, I o_.States), (20, I o_.Kinds), (22, I o_.Init), (25, I ((o_.Rows.length : Nat) : Int))], [(2, (25, [I o_.States, I o_.Kinds, I o_.Init, V (.slice a1 o_.Rows.length c1)]))]⟩) (by kernel_rfl) ?_
    intro a hS
    refine op1 (lit (E := 3) (col := 0) (T := tI) (vals := [.int .i64 o_.States, .int .i64 o_.Kinds, .int .i64 o_.Init, .int .i64 ((o_.Rows.length : Nat) : Int)]) (ys := [o_.States, o_.Kinds, o_.Init, ((o_.Rows.length : Nat) : Int)]) T hS (by kernel_rfl) (by kernel_rfl) (by kernel_rfl) (by kernel_rfl) (by exact ⟨rfl, rfl, rfl, rfl, trivial⟩) rfl (by kernel_rfl) (by kernel_rfl) (by kernel_rfl) (by kernel_rfl) ?_)
    intro b105 a w106 χ107 hE h108 hN hS
    clear hN
    replace hO := hO.mv hE rfl rfl
    replace h1 := h1.mv hE rfl
    clear hE
    replace h108 := h108.rs0
    obtain ⟨hq, hm⟩ := hm
    refine op1 (call hS (by kernel_rfl) (by kernel_rfl) hb37 (by kernel_rfl) (fun _ _ => rfl) (k37 _ _ ([111, 98, 106, 101, 99, 116] : List UInt8) [o_.States, o_.Kinds, o_.Init, ((o_.Rows.length : Nat) : Int)] (some ⟨b105, 0, none⟩) 4 hq h108) ?_)
    intro v109 a w110 χ111 hE hp hS
    clear hq
    replace hO := hO.mv hE rfl rfl
    replace h1 := h1.mv hE rfl
    replace h108 := h108.mv hE rfl
    clear hE
    obtain ⟨r112, hr⟩ : ∃ r, ref24_Words ([111, 98, 106, 101, 99, 116] : List UInt8) [o_.States, o_.Kinds, o_.Init, ((o_.Rows.length : Nat) : Int)] = r := ⟨_, rfl⟩
    replace hm := hm r112 hr
    rw [hr] at hp
    clear hr
    subst hp
    refine endP T hS (sp := []) (ks := [1, 6]) (bs := [2]) (sy' := ⟨[(1, Pt 2 0), (6, V (.string (bs r112)))], [(2, (25, [I o_.States, I o_.Kinds, I o_.Init, V (.slice a1 o_.Rows.length c1)]))]⟩) (by kernel_rfl) ?_
    intro a hS
    refine wcut (fun a w => ∃ (ρ : Nat → Nat) (χ : Nat → Nat) (s_113 : List UInt8), VC20_J1 Q s_113 ∧ St Tryd.f20.ntmps ⟨[(6, V (.string (bs s_113)))], []⟩ ρ a w χ ∧ Old w0 χ0 w χ) ?_ ?_
    · refine regP T hS (sp := []) (ks := [1, 6, 7]) (bs := [2]) (sy' := ⟨[(1, Pt 2 0), (6, V (.string (bs r112))), (7, I 0)], [(2, (25, [I o_.States, I o_.Kinds, I o_.Init, V (.slice a1 o_.Rows.length c1)]))]⟩) (by kernel_rfl) ?_
      intro a hS
      refine wblock ?_
      obtain ⟨I1, μ1, hm0, hm⟩ := hm
      refine wloop (σ := (List UInt8) × Int) (fun s a w => ∃ (ρ : Nat → Nat) (χ : Nat → Nat), I1 s.1 s.2 ∧ St Tryd.f20.ntmps ⟨[(1, Pt 2 0), (6, V (.string (bs s.1))), (7, I s.2)], [(2, (25, [I o_.States, I o_.Kinds, I o_.Init, V (.slice a1 o_.Rows.length c1)]))]⟩ ρ a w χ ∧ Old w0 χ0 w χ ∧ RS tApi_Row w χ a1 o_.Rows c1) (fun s => μ1 s.1 s.2) (⟨r112, 0⟩) ?_ ?_
      · exact ⟨ρ, _, hm0, hS.sel [1, 6, 7] [2] (by kernel_rfl), hO, h1⟩
      · rintro ⟨s_114, i_115⟩ a w131 ⟨ρ, χ130, hI, hS, hO, h116⟩
        replace hm := hm s_114 i_115 hI
        clear hI hm0
        refine wseq ?_
        refine regP T hS (sp := []) (ks := [1, 6, 7, 32]) (bs := [2]) (sy' := ⟨[(1, Pt 2 0), (6, V (.string (bs s_114))), (7, I i_115), (32, B (decide (i_115 < ((o_.Rows.length : Nat) : Int))))], [(2, (25, [I o_.States, I o_.Kinds, I o_.Init, V (.slice a1 o_.Rows.length c1)]))]⟩) (by kernel_rfl) ?_
        intro a hS
        refine wcond hS (b := decide (i_115 < ((o_.Rows.length : Nat) : Int))) (by kernel_rfl) (fun hb => ?_) (fun hb => ?_)
        · replace hm := hm.1 hb
          refine wskip ?_
          refine wseq ?_
          refine wblock ?_
          refine regO ?_
          refine opsP T hS 3 (sp := []) (ks := [1, 6, 7, 36, 37]) (bs := [2]) (sy' := ⟨[(1, Pt 2 0), (6, V (.string (bs s_114))), (7, I i_115), (36, V (.slice a1 o_.Rows.length c1)), (37, I i_115)], [(2, (25, [I o_.States, I o_.Kinds, I o_.Init, V (.slice a1 o_.Rows.length c1)]))]⟩) (by kernel_rfl) ?_
          intro a hS
          obtain ⟨hq, hm⟩ := hm
          refine op1 (index (e := 66) (k := .i64) T hS (by kernel_rfl) (by kernel_rfl) (by kernel_rfl) (by kernel_rfl) h116 (by kernel_rfl) (by kernel_rfl) hq.1 hq.2 ?_)
          intro A117 a h118 hS
          clear hq
          refine op1 (loadA T hS (by kernel_rfl) (by kernel_rfl) (by kernel_rfl) h118 (by kernel_rfl) (by kernel_rfl) ?_)
          intro v119 a hv hS
          subst hv
          refine endM T hS (sp := []) (ks := [1, 6, 7, 8]) (bs := [2, 9]) (sy' := ⟨[(1, Pt 2 0), (6, V (.string (bs s_114))), (7, I i_115), (8, Pt 9 0)], [(2, (25, [I o_.States, I o_.Kinds, I o_.Init, V (.slice a1 o_.Rows.length c1)])), (9, (66, [I ((gi o_.Rows i_115).State), I ((gi o_.Rows i_115).Kind), I ((gi o_.Rows i_115).Next), I ((gi o_.Rows i_115).Result)]))]⟩) (by kernel_rfl) ?_
          intro ρ a w128 χ129 hS hE hr
          replace hO := hO.mv hE rfl rfl
          replace h116 := h116.mv hE rfl
          clear hE hr
          refine region ?_
          refine opsP T hS 9 (sp := []) (ks := [1, 6, 7, 40, 42, 44, 46, 48]) (bs := [2]) (sy' := ⟨[(1, Pt 2 0), (6, V (.string (bs s_114))), (7, I i_115), (40, V (.string (bs s_114))), (42, I ((gi o_.Rows i_115).State)), (44, I ((gi o_.Rows i_115).Kind)), (46, I ((gi o_.Rows i_115).Next)), (48, I ((gi o_.Rows i_115).Result))], [(2, (25, [I o_.States, I o_.Kinds, I o_.Init, V (.slice a1 o_.Rows.length c1)]))]⟩) (by kernel_rfl) ?_
          intro a hS
          refine op1 (lit (E := 3) (col := 0) (T := tI) (vals := [.int .i64 ((gi o_.Rows i_115).State), .int .i64 ((gi o_.Rows i_115).Kind), .int .i64 ((gi o_.Rows i_115).Next), .int .i64 ((gi o_.Rows i_115).Result)]) (ys := [(gi o_.Rows i_115).State, (gi o_.Rows i_115).Kind, (gi o_.Rows i_115).Next, (gi o_.Rows i_115).Result]) T hS (by kernel_rfl) (by kernel_rfl) (by kernel_rfl) (by kernel_rfl) (by exact ⟨rfl, rfl, rfl, rfl, trivial⟩) rfl (by kernel_rfl) (by kernel_rfl) (by kernel_rfl) (by kernel_rfl) ?_)
          intro b120 a w121 χ122 hE h123 hN hS
          clear hN
          replace hO := hO.mv hE rfl rfl
          replace h116 := h116.mv hE rfl
          clear hE
          replace h123 := h123.rs0
          obtain ⟨hq, hm⟩ := hm
          refine op1 (call hS (by kernel_rfl) (by kernel_rfl) hb37 (by kernel_rfl) (fun _ _ => rfl) (k37 _ _ ([114, 111, 119] : List UInt8) [(gi o_.Rows i_115).State, (gi o_.Rows i_115).Kind, (gi o_.Rows i_115).Next, (gi o_.Rows i_115).Result] (some ⟨b120, 0, none⟩) 4 hq h123) ?_)
          intro v124 a w125 χ126 hE hp hS
          clear hq
          replace hO := hO.mv hE rfl rfl
          replace h116 := h116.mv hE rfl
          replace h123 := h123.mv hE rfl
          clear hE
          obtain ⟨r127, hr⟩ : ∃ r, ref24_Words ([114, 111, 119] : List UInt8) [(gi o_.Rows i_115).State, (gi o_.Rows i_115).Kind, (gi o_.Rows i_115).Next, (gi o_.Rows i_115).Result] = r := ⟨_, rfl⟩
          replace hm := hm r127 hr
          rw [hr] at hp
          clear hr
          subst hp
          obtain ⟨hq, hm⟩ := hm
          refine op1 (sadd (p := s_114) (q := r127) hS (by kernel_rfl) (by kernel_rfl) (by kernel_rfl) (by kernel_rfl) hq ?_)
          intro a hS
          clear hq
          refine endP T hS (sp := []) (ks := [1, 6, 7]) (bs := [2]) (sy' := ⟨[(1, Pt 2 0), (6, V (.string (bs (s_114 ++ r127)))), (7, I i_115)], [(2, (25, [I o_.States, I o_.Kinds, I o_.Init, V (.slice a1 o_.Rows.length c1)]))]⟩) (by kernel_rfl) ?_
          intro a hS
          refine region (endP T hS (sp := []) (ks := [1, 6, 7]) (bs := [2]) (sy' := ⟨[(1, Pt 2 0), (6, V (.string (bs (s_114 ++ r127)))), (7, I (IntKind.i64.wrap (i_115 + 1)))], [(2, (25, [I o_.States, I o_.Kinds, I o_.Init, V (.slice a1 o_.Rows.length c1)]))]⟩) (by kernel_rfl) ?_)
          intro a hS
          exact ⟨⟨(s_114 ++ r127), IntKind.i64.wrap (i_115 + 1)⟩, ⟨ρ, _, hm.1, hS.sel [1, 6, 7] [2] (by kernel_rfl), hO, h116⟩, hm.2⟩
        · replace hm := hm.2 hb
          refine wexit (by rfl) ?_
          exact ⟨ρ, _, s_114, hm, hS.sel [6] [] (by kernel_rfl), hO⟩
    · rintro a w133 ⟨ρ, χ132, s_113, hm, hS, hO⟩
      unfold VC20_J1 at hm
      refine regP T hS (sp := []) (ks := [2, 3]) (bs := []) (sy' := ⟨[(2, V (.string (bs s_113))), (3, I 0)], []⟩) (by kernel_rfl) ?_
      intro a hS
      refine wret ?_
      exact fin T hS hO (fun c => c) rfl (r := [.string (bs s_113), .int .i64 0]) (by kernel_rfl) (fun χ' hM hC => ⟨(s_113, 0), hm, rfl⟩)
theorem C20 (k33 : S33) (k37 : S37) (v : ∀ (o_ : Api_Object), prePr o_ → VC20 o_ (fun r => r = ref24_Print o_)) : S20 := by
  intro w χ o_ a1 c1   hp h1
  refine (W20 k33 k37 w χ o_ a1 c1   _ (v o_ hp) h1).mono ?_
  rintro _ _ _ _ ⟨r, rfl, h⟩
  exact h
def S7 : Prop := ∀ (w : World) (χ : Nat → Nat), Amb w χ → Ret Tryd.prog 7 #[] xnone w χ (fun w χ' v => v = .bool law24_awake)
theorem hb7 : hasBody Tryd.prog 7 = true := by kernel_rfl
/-- replevin/replevinlaw24.awake -/
theorem W7 (k10 : S10) (k11 : S11) (k12 : S12) (k19 : S19) (k21 : S21) (k23 : S23) (k8 : S8) (w0 : World) (χ0 : Nat → Nat) (Q : Bool → Prop) (hm : VC7 Q) (hAmb : Amb w0 χ0) :
    Ret Tryd.prog 7 #[] xnone w0 χ0 (fun w χ' v => ∃ r, Q r ∧ v = .bool r) := by
  unfold VC7 at hm
  refine enter Tryd.func7 rfl (vals := []) (by kernel_rfl) ?_
  intro ρ a hS hO hM
  replace hAmb := hAmb.m0 hM
  clear hM
  refine regP T hS (sp := []) (ks := []) (bs := []) (sy' := ⟨[], []⟩) (by kernel_rfl) ?_
  intro a hS
  refine regO ?_
  refine op1 (call hS (by kernel_rfl) (by kernel_rfl) hb8 (by kernel_rfl) (fun _ _ => rfl) (k8 _ _ ([111, 98, 106, 101, 99, 116, 32, 49, 32, 49, 32, 48, 32, 49, 10, 114, 111, 119, 32, 48, 32, 48, 32, 48, 32, 55, 10] : List UInt8)) ?_)
  intro v101 a w102 χ103 hE hp hS
  replace hO := hO.mv hE rfl rfl
  replace hAmb := hAmb.mv hE rfl
  clear hE
  obtain ⟨a105, c106, hp, h107⟩ := hp
  obtain ⟨r104, hr⟩ : ∃ r, objtext_Parse ([111, 98, 106, 101, 99, 116, 32, 49, 32, 49, 32, 48, 32, 49, 10, 114, 111, 119, 32, 48, 32, 48, 32, 48, 32, 55, 10] : List UInt8) = r := ⟨_, rfl⟩
  replace hm := hm r104 hr
  rw [hr] at hp h107
  clear hr
  subst hp
  replace hm := hm (h107.sm (by kernel_rfl))
  refine endM T hS (sp := []) (ks := [1, 2, 3]) (bs := [2]) (sy' := ⟨[(1, Pt 2 0), (2, I r104.2.1), (3, I r104.2.2)], [(2, (25, [I r104.1.States, I r104.1.Kinds, I r104.1.Init, V (.slice a105 r104.1.Rows.length c106)]))]⟩) (by kernel_rfl) ?_
  intro ρ a w184 χ185 hS hE hr
  replace hO := hO.mv hE rfl rfl
  replace hAmb := hAmb.mv hE rfl
  replace h107 := h107.mv hE rfl
  clear hE hr
  refine regO ?_
  refine opsP T hS 1 (sp := []) (ks := [1, 2, 3, 25]) (bs := [2]) (sy' := ⟨[(1, Pt 2 0), (2, I r104.2.1), (3, I r104.2.2), (25, V (.agg #[.int .i64 r104.1.States, .int .i64 r104.1.Kinds, .int .i64 r104.1.Init, .slice a105 r104.1.Rows.length c106]))], [(2, (25, [I r104.1.States, I r104.1.Kinds, I r104.1.Init, V (.slice a105 r104.1.Rows.length c106)]))]⟩) (by kernel_rfl) ?_
  intro a hS
  obtain ⟨hq, hm⟩ := hm
  refine op1 (call hS (by kernel_rfl) (by kernel_rfl) hb19 (by kernel_rfl) (fun _ _ => rfl) (k19 _ _ r104.1 a105 c106 hq h107 hAmb) ?_)
  intro v108 a w109 χ110 hE hp hS
  clear hq
  replace hO := hO.mv hE rfl rfl
  replace hAmb := hAmb.mv hE rfl
  replace h107 := h107.mv hE rfl
  clear hE
  obtain ⟨r111, hr⟩ : ∃ r, objtext_Print r104.1 = r := ⟨_, rfl⟩
  replace hm := hm r111 hr
  rw [hr] at hp
  clear hr
  subst hp
  refine endP T hS (sp := []) (ks := [1, 2, 3, 4, 5]) (bs := [2]) (sy' := ⟨[(1, Pt 2 0), (2, I r104.2.1), (3, I r104.2.2), (4, V (.string (bs r111.1))), (5, I r111.2)], [(2, (25, [I r104.1.States, I r104.1.Kinds, I r104.1.Init, V (.slice a105 r104.1.Rows.length c106)]))]⟩) (by kernel_rfl) ?_
  intro a hS
  refine regO ?_
  refine op1 (call hS (by kernel_rfl) (by kernel_rfl) hb8 (by kernel_rfl) (fun _ _ => rfl) (k8 _ _ ([111, 98, 106, 101, 99, 116, 32, 49, 32, 49, 32, 48, 32, 49, 10, 114, 111, 119, 32, 49, 32, 48, 32, 48, 32, 55] : List UInt8)) ?_)
  intro v112 a w113 χ114 hE hp hS
  replace hO := hO.mv hE rfl rfl
  replace hAmb := hAmb.mv hE rfl
  replace h107 := h107.mv hE rfl
  clear hE
  obtain ⟨a116, c117, hp, h118⟩ := hp
  obtain ⟨r115, hr⟩ : ∃ r, objtext_Parse ([111, 98, 106, 101, 99, 116, 32, 49, 32, 49, 32, 48, 32, 49, 10, 114, 111, 119, 32, 49, 32, 48, 32, 48, 32, 55] : List UInt8) = r := ⟨_, rfl⟩
  replace hm := hm r115 hr
  rw [hr] at hp h118
  clear hr
  subst hp
  replace hm := hm (h118.sm (by kernel_rfl))
  refine endM T hS (sp := []) (ks := [1, 2, 3, 4, 5, 7, 8]) (bs := [2]) (sy' := ⟨[(1, Pt 2 0), (2, I r104.2.1), (3, I r104.2.2), (4, V (.string (bs r111.1))), (5, I r111.2), (7, I r115.2.1), (8, I r115.2.2)], [(2, (25, [I r104.1.States, I r104.1.Kinds, I r104.1.Init, V (.slice a105 r104.1.Rows.length c106)]))]⟩) (by kernel_rfl) ?_
  intro ρ a w182 χ183 hS hE hr
  replace hO := hO.mv hE rfl rfl
  replace hAmb := hAmb.mv hE rfl
  replace h107 := h107.mv hE rfl
  clear hE hr
  refine regO ?_
  refine op1 (call hS (by kernel_rfl) (by kernel_rfl) hb8 (by kernel_rfl) (fun _ _ => rfl) (k8 _ _ ([111, 98, 106, 101, 99, 116, 32, 49, 32, 49, 32, 48, 32, 49, 10, 114, 111, 119, 32, 48, 32, 48, 32, 48] : List UInt8)) ?_)
  intro v119 a w120 χ121 hE hp hS
  replace hO := hO.mv hE rfl rfl
  replace hAmb := hAmb.mv hE rfl
  replace h107 := h107.mv hE rfl
  clear hE
  obtain ⟨a123, c124, hp, h125⟩ := hp
  obtain ⟨r122, hr⟩ : ∃ r, objtext_Parse ([111, 98, 106, 101, 99, 116, 32, 49, 32, 49, 32, 48, 32, 49, 10, 114, 111, 119, 32, 48, 32, 48, 32, 48] : List UInt8) = r := ⟨_, rfl⟩
  replace hm := hm r122 hr
  rw [hr] at hp h125
  clear hr
  subst hp
  replace hm := hm (h125.sm (by kernel_rfl))
  refine endM T hS (sp := []) (ks := [1, 2, 3, 4, 5, 7, 8, 10, 11]) (bs := [2]) (sy' := ⟨[(1, Pt 2 0), (2, I r104.2.1), (3, I r104.2.2), (4, V (.string (bs r111.1))), (5, I r111.2), (7, I r115.2.1), (8, I r115.2.2), (10, I r122.2.1), (11, I r122.2.2)], [(2, (25, [I r104.1.States, I r104.1.Kinds, I r104.1.Init, V (.slice a105 r104.1.Rows.length c106)]))]⟩) (by kernel_rfl) ?_
  intro ρ a w180 χ181 hS hE hr
  replace hO := hO.mv hE rfl rfl
  replace hAmb := hAmb.mv hE rfl
  replace h107 := h107.mv hE rfl
  clear hE hr
  refine regO ?_
  refine opsP T hS 2 (sp := []) (ks := [1, 2, 3, 4, 5, 7, 8, 10, 11, 40, 41]) (bs := [2]) (sy' := ⟨[(1, Pt 2 0), (2, I r104.2.1), (3, I r104.2.2), (4, V (.string (bs r111.1))), (5, I r111.2), (7, I r115.2.1), (8, I r115.2.2), (10, I r122.2.1), (11, I r122.2.2), (40, V (.agg #[.int .i64 0, .int .i64 0, .string (bs ([120] : List UInt8))])), (41, V (.agg #[.int .i64 0, .int .i64 2, .string (bs ([53] : List UInt8))]))], [(2, (25, [I r104.1.States, I r104.1.Kinds, I r104.1.Init, V (.slice a105 r104.1.Rows.length c106)]))]⟩) (by kernel_rfl) ?_
  intro a hS
  refine op1 (lit (E := 60) (col := 0) (T := tToken_Token) (vals := [.agg #[.int .i64 0, .int .i64 0, .string (bs ([120] : List UInt8))], .agg #[.int .i64 0, .int .i64 2, .string (bs ([53] : List UInt8))]]) (ys := [(⟨0, 0, ([120] : List UInt8)⟩ : Token_Token), (⟨0, 2, ([53] : List UInt8)⟩ : Token_Token)]) T hS (by kernel_rfl) (by kernel_rfl) (by kernel_rfl) (by kernel_rfl) (by exact ⟨rfl, rfl, trivial⟩) rfl (by kernel_rfl) (by kernel_rfl) (by kernel_rfl) (by kernel_rfl) ?_)
  intro b126 a w127 χ128 hE h129 hN hS
  clear hN
  replace hO := hO.mv hE rfl rfl
  replace hAmb := hAmb.mv hE rfl
  replace h107 := h107.mv hE rfl
  clear hE
  replace h129 := h129.rs0
  refine op1 (lit (E := 3) (col := 0) (T := tI) (vals := [.int .i64 0]) (ys := [0]) T hS (by kernel_rfl) (by kernel_rfl) (by kernel_rfl) (by kernel_rfl) (by exact ⟨rfl, trivial⟩) rfl (by kernel_rfl) (by kernel_rfl) (by kernel_rfl) (by kernel_rfl) ?_)
  intro b130 a w131 χ132 hE h133 hN hS
  clear hN
  replace hO := hO.mv hE rfl rfl
  replace hAmb := hAmb.mv hE rfl
  replace h107 := h107.mv hE rfl
  replace h129 := h129.mv hE rfl
  clear hE
  replace h133 := h133.rs0
  refine op1 (lit (E := 3) (col := 0) (T := tI) (vals := [.int .i64 9]) (ys := [9]) T hS (by kernel_rfl) (by kernel_rfl) (by kernel_rfl) (by kernel_rfl) (by exact ⟨rfl, trivial⟩) rfl (by kernel_rfl) (by kernel_rfl) (by kernel_rfl) (by kernel_rfl) ?_)
  intro b134 a w135 χ136 hE h137 hN hS
  clear hN
  replace hO := hO.mv hE rfl rfl
  replace hAmb := hAmb.mv hE rfl
  replace h107 := h107.mv hE rfl
  replace h129 := h129.mv hE rfl
  replace h133 := h133.mv hE rfl
  clear hE
  replace h137 := h137.rs0
  obtain ⟨hq, hm⟩ := hm
  refine op1 (call hS (by kernel_rfl) (by kernel_rfl) hb21 (by kernel_rfl) (fun _ _ => rfl) (k21 _ _ [(⟨0, 0, ([120] : List UInt8)⟩ : Token_Token), (⟨0, 2, ([53] : List UInt8)⟩ : Token_Token)] ([120] : List UInt8) [0] [9] 3 (some ⟨b126, 0, none⟩) 2 (some ⟨b130, 0, none⟩) 1 (some ⟨b134, 0, none⟩) 1 hq h129 h133 h137) ?_)
  intro v138 a w139 χ140 hE hp hS
  clear hq
  replace hO := hO.mv hE rfl rfl
  replace hAmb := hAmb.mv hE rfl
  replace h107 := h107.mv hE rfl
  replace h129 := h129.mv hE rfl
  replace h133 := h133.mv hE rfl
  replace h137 := h137.mv hE rfl
  clear hE
  obtain ⟨a142, c143, hp, h144⟩ := hp
  obtain ⟨r141, hr⟩ : ∃ r, objtext_Numbers [(⟨0, 0, ([120] : List UInt8)⟩ : Token_Token), (⟨0, 2, ([53] : List UInt8)⟩ : Token_Token)] ([120] : List UInt8) [0] [9] 3 = r := ⟨_, rfl⟩
  replace hm := hm r141 hr
  rw [hr] at hp h144
  clear hr
  subst hp
  replace hm := hm (h144.sm (by kernel_rfl))
  refine endP T hS (sp := []) (ks := [1, 2, 3, 4, 5, 7, 8, 10, 11, 12, 14]) (bs := [2]) (sy' := ⟨[(1, Pt 2 0), (2, I r104.2.1), (3, I r104.2.2), (4, V (.string (bs r111.1))), (5, I r111.2), (7, I r115.2.1), (8, I r115.2.2), (10, I r122.2.1), (11, I r122.2.2), (12, V (.slice a142 r141.1.length c143)), (14, I r141.2.2)], [(2, (25, [I r104.1.States, I r104.1.Kinds, I r104.1.Init, V (.slice a105 r104.1.Rows.length c106)]))]⟩) (by kernel_rfl) ?_
  intro a hS
  refine regO ?_
  obtain ⟨hq, hm⟩ := hm
  refine op1 (call hS (by kernel_rfl) (by kernel_rfl) hb12 (by kernel_rfl) (fun _ _ => rfl) (k12 _ _ ([111, 98, 106, 101, 99, 116, 32, 49, 32, 49, 32, 48, 32, 48, 10, 114, 101, 115, 116] : List UInt8) hq) ?_)
  intro v145 a w146 χ147 hE hp hS
  clear hq
  replace hO := hO.mv hE rfl rfl
  replace hAmb := hAmb.mv hE rfl
  replace h107 := h107.mv hE rfl
  replace h144 := h144.mv hE rfl
  clear hE
  obtain ⟨a149, c150, hp, h151⟩ := hp
  obtain ⟨r148, hr⟩ : ∃ r, token_Lines ([111, 98, 106, 101, 99, 116, 32, 49, 32, 49, 32, 48, 32, 48, 10, 114, 101, 115, 116] : List UInt8) = r := ⟨_, rfl⟩
  replace hm := hm r148 hr
  rw [hr] at hp h151
  clear hr
  subst hp
  replace hm := hm (h151.sm (by kernel_rfl))
  obtain ⟨hq, hm⟩ := hm
  refine op1 (call hS (by kernel_rfl) (by kernel_rfl) hb11 (by kernel_rfl) (fun _ _ => rfl) (k11 _ _ r148 19 a149 c150 hq h151) ?_)
  intro v152 a w153 χ154 hE hp hS
  clear hq
  replace hO := hO.mv hE rfl rfl
  replace hAmb := hAmb.mv hE rfl
  replace h107 := h107.mv hE rfl
  replace h144 := h144.mv hE rfl
  replace h151 := h151.mv hE rfl
  clear hE
  obtain ⟨a156, c157, a159, c160, hp, h158, h161⟩ := hp
  obtain ⟨r155, hr⟩ : ∃ r, objtext_Take r148 19 = r := ⟨_, rfl⟩
  replace hm := hm r155 hr
  rw [hr] at hp h158 h161
  clear hr
  subst hp
  replace hm := hm (h158.sm (by kernel_rfl))
  replace hm := hm (h161.sm (by kernel_rfl))
  refine endM T hS (sp := []) (ks := [1, 2, 3, 4, 5, 7, 8, 10, 11, 12, 14, 16, 18]) (bs := [2]) (sy' := ⟨[(1, Pt 2 0), (2, I r104.2.1), (3, I r104.2.2), (4, V (.string (bs r111.1))), (5, I r111.2), (7, I r115.2.1), (8, I r115.2.2), (10, I r122.2.1), (11, I r122.2.2), (12, V (.slice a142 r141.1.length c143)), (14, I r141.2.2), (16, V (.slice a159 r155.2.1.length c160)), (18, I r155.2.2.2)], [(2, (25, [I r104.1.States, I r104.1.Kinds, I r104.1.Init, V (.slice a105 r104.1.Rows.length c106)]))]⟩) (by kernel_rfl) ?_
  intro ρ a w178 χ179 hS hE hr
  replace hO := hO.mv hE rfl rfl
  replace hAmb := hAmb.mv hE rfl
  replace h107 := h107.mv hE rfl
  replace h144 := h144.mv hE rfl
  replace h161 := h161.mv hE rfl
  clear hE hr
  refine regO ?_
  refine opsP T hS 7 (sp := [58]) (ks := [1, 4, 5, 7, 8, 10, 11, 12, 14, 16, 18, 62]) (bs := [2]) (sy' := ⟨[(1, Pt 2 0), (4, V (.string (bs r111.1))), (5, I r111.2), (7, I r115.2.1), (8, I r115.2.2), (10, I r122.2.1), (11, I r122.2.2), (12, V (.slice a142 r141.1.length c143)), (14, I r141.2.2), (16, V (.slice a159 r155.2.1.length c160)), (18, I r155.2.2.2), (62, B ((r104.2.2 == 0) && (r104.2.1 == 27)))], [(2, (25, [I r104.1.States, I r104.1.Kinds, I r104.1.Init, V (.slice a105 r104.1.Rows.length c106)]))]⟩) (by kernel_rfl) ?_
  intro a hS
  rcases Bool.eq_false_or_eq_true ((r104.2.2 == 0) && (r104.2.1 == 27)) with hb | hb
  · replace hS := hS.lit (t := 62) (by kernel_rfl) hb
    replace hm := hm.1 hb
    refine opsP T hS 2 (sp := []) (ks := [4, 5, 7, 8, 10, 11, 12, 14, 16, 18, 62, 63, 64]) (bs := []) (sy' := ⟨[(4, V (.string (bs r111.1))), (5, I r111.2), (7, I r115.2.1), (8, I r115.2.2), (10, I r122.2.1), (11, I r122.2.2), (12, V (.slice a142 r141.1.length c143)), (14, I r141.2.2), (16, V (.slice a159 r155.2.1.length c160)), (18, I r155.2.2.2), (62, B true), (63, V (.agg #[.int .i64 r104.1.States, .int .i64 r104.1.Kinds, .int .i64 r104.1.Init, .slice a105 r104.1.Rows.length c106])), (64, V (.agg #[.int .i64 0, .int .i64 0, .int .i64 0, .int .i64 7]))], []⟩) (by kernel_rfl) ?_
    intro a hS
    refine op1 (lit (E := 66) (col := 0) (T := tApi_Row) (vals := [.agg #[.int .i64 0, .int .i64 0, .int .i64 0, .int .i64 7]]) (ys := [(⟨0, 0, 0, 7⟩ : Api_Row)]) T hS (by kernel_rfl) (by kernel_rfl) (by kernel_rfl) (by kernel_rfl) (by exact ⟨rfl, trivial⟩) rfl (by kernel_rfl) (by kernel_rfl) (by kernel_rfl) (by kernel_rfl) ?_)
    intro b162 a w163 χ164 hE h165 hN hS
    clear hN
    replace hO := hO.mv hE rfl rfl
    replace hAmb := hAmb.mv hE rfl
    replace h107 := h107.mv hE rfl
    replace h144 := h144.mv hE rfl
    replace h161 := h161.mv hE rfl
    clear hE
    replace h165 := h165.rs0
    refine opsP T hS 1 (sp := []) (ks := [4, 5, 7, 8, 10, 11, 12, 14, 16, 18, 62, 63, 66]) (bs := []) (sy' := ⟨[(4, V (.string (bs r111.1))), (5, I r111.2), (7, I r115.2.1), (8, I r115.2.2), (10, I r122.2.1), (11, I r122.2.2), (12, V (.slice a142 r141.1.length c143)), (14, I r141.2.2), (16, V (.slice a159 r155.2.1.length c160)), (18, I r155.2.2.2), (62, B true), (63, V (.agg #[.int .i64 r104.1.States, .int .i64 r104.1.Kinds, .int .i64 r104.1.Init, .slice a105 r104.1.Rows.length c106])), (66, V (.agg #[.int .i64 1, .int .i64 1, .int .i64 0, .slice (some ⟨b162, 0, none⟩) [(⟨0, 0, 0, 7⟩ : Api_Row)].length 1]))], []⟩) (by kernel_rfl) ?_
    intro a hS
    refine op1 (call hS (by kernel_rfl) (by kernel_rfl) hb10 (by kernel_rfl) (fun _ _ => rfl) (k10 _ _ r104.1 (⟨1, 1, 0, [(⟨0, 0, 0, 7⟩ : Api_Row)]⟩ : Api_Object) a105 c106 (some ⟨b162, 0, none⟩) 1 h107 h165) ?_)
    intro v166 a w167 χ168 hE hp hS
    replace hO := hO.mv hE rfl rfl
    replace hAmb := hAmb.mv hE rfl
    replace h107 := h107.mv hE rfl
    replace h144 := h144.mv hE rfl
    replace h161 := h161.mv hE rfl
    replace h165 := h165.mv hE rfl
    clear hE
    obtain ⟨r169, hr⟩ : ∃ r, ref23_Same r104.1 (⟨1, 1, 0, [(⟨0, 0, 0, 7⟩ : Api_Row)]⟩ : Api_Object) = r := ⟨_, rfl⟩
    replace hm := hm r169 hr
    rw [hr] at hp
    clear hr
    subst hp
    refine opsP T hS 26 (sp := [69, 73, 77, 81, 85, 89]) (ks := [12, 14, 16, 18, 93]) (bs := []) (sy' := ⟨[(12, V (.slice a142 r141.1.length c143)), (14, I r141.2.2), (16, V (.slice a159 r155.2.1.length c160)), (18, I r155.2.2.2), (93, B ((((((r169 && (r111.2 == 0)) && (r111.1 == ([111, 98, 106, 101, 99, 116, 32, 49, 32, 49, 32, 48, 32, 49, 10, 114, 111, 119, 32, 48, 32, 48, 32, 48, 32, 55, 10] : List UInt8))) && (r115.2.1 == 15)) && (r115.2.2 == 30)) && (r122.2.1 == 24)) && (r122.2.2 == 4)))], []⟩) (by kernel_rfl) ?_
    intro a hS
    rcases Bool.eq_false_or_eq_true ((((((r169 && (r111.2 == 0)) && (r111.1 == ([111, 98, 106, 101, 99, 116, 32, 49, 32, 49, 32, 48, 32, 49, 10, 114, 111, 119, 32, 48, 32, 48, 32, 48, 32, 55, 10] : List UInt8))) && (r115.2.1 == 15)) && (r115.2.2 == 30)) && (r122.2.1 == 24)) && (r122.2.2 == 4)) with hb | hb
    · replace hS := hS.lit (t := 93) (by kernel_rfl) hb
      replace hm := hm.1 hb
      refine opsP T hS 1 (sp := []) (ks := [14, 16, 18, 93, 94]) (bs := []) (sy' := ⟨[(14, I r141.2.2), (16, V (.slice a159 r155.2.1.length c160)), (18, I r155.2.2.2), (93, B true), (94, V (.slice a142 r141.1.length c143))], []⟩) (by kernel_rfl) ?_
      intro a hS
      refine op1 (lit (E := 3) (col := 0) (T := tI) (vals := [.int .i64 5]) (ys := [5]) T hS (by kernel_rfl) (by kernel_rfl) (by kernel_rfl) (by kernel_rfl) (by exact ⟨rfl, trivial⟩) rfl (by kernel_rfl) (by kernel_rfl) (by kernel_rfl) (by kernel_rfl) ?_)
      intro b170 a w171 χ172 hE h173 hN hS
      clear hN
      replace hO := hO.mv hE rfl rfl
      replace hAmb := hAmb.mv hE rfl
      replace h144 := h144.mv hE rfl
      replace h161 := h161.mv hE rfl
      clear hE
      replace h173 := h173.rs0
      refine op1 (call hS (by kernel_rfl) (by kernel_rfl) hb23 (by kernel_rfl) (fun _ _ => rfl) (k23 _ _ r141.1 [5] a142 c143 (some ⟨b170, 0, none⟩) 1 h144 h173) ?_)
      intro v174 a w175 χ176 hE hp hS
      replace hO := hO.mv hE rfl rfl
      replace hAmb := hAmb.mv hE rfl
      replace h144 := h144.mv hE rfl
      replace h161 := h161.mv hE rfl
      replace h173 := h173.mv hE rfl
      clear hE
      obtain ⟨r177, hr⟩ : ∃ r, ref01_SameInts r141.1 [5] = r := ⟨_, rfl⟩
      replace hm := hm r177 hr
      rw [hr] at hp
      clear hr
      subst hp
      refine endP T hS (sp := [98, 102, 107]) (ks := [0]) (bs := []) (sy' := ⟨[(0, B (((r177 && (r141.2.2 == 0)) && (((r155.2.1.length : Nat) : Int) == 1)) && (r155.2.2.2 == 0)))], []⟩) (by kernel_rfl) ?_
      intro a hS
      refine wret ?_
      exact fin T hS hO (fun c => c) rfl (r := [.bool (((r177 && (r141.2.2 == 0)) && (((r155.2.1.length : Nat) : Int) == 1)) && (r155.2.2.2 == 0))]) (by kernel_rfl) (fun χ' hM hC => ⟨(((r177 && (r141.2.2 == 0)) && (((r155.2.1.length : Nat) : Int) == 1)) && (r155.2.2.2 == 0)), hm, rfl⟩)
    · replace hS := hS.lit (t := 93) (by kernel_rfl) hb
      replace hm := hm.2 hb
      refine endP T hS (sp := []) (ks := [0]) (bs := []) (sy' := ⟨[(0, B false)], []⟩) (by kernel_rfl) ?_
      intro a hS
      refine wret ?_
      exact fin T hS hO (fun c => c) rfl (r := [.bool false]) (by kernel_rfl) (fun χ' hM hC => ⟨false, hm, rfl⟩)
  · replace hS := hS.lit (t := 62) (by kernel_rfl) hb
    replace hm := hm.2 hb
    refine endP T hS (sp := []) (ks := [0]) (bs := []) (sy' := ⟨[(0, B false)], []⟩) (by kernel_rfl) ?_
    intro a hS
    refine wret ?_
    exact fin T hS hO (fun c => c) rfl (r := [.bool false]) (by kernel_rfl) (fun χ' hM hC => ⟨false, hm, rfl⟩)
theorem C7 (k10 : S10) (k11 : S11) (k12 : S12) (k19 : S19) (k21 : S21) (k23 : S23) (k8 : S8) (v : ∀ (_ : Unit), VC7 (fun r => r = law24_awake)) : S7 := by
  intro w χ     hAmb
  refine (W7 k10 k11 k12 k19 k21 k23 k8 w χ     _ (v ()) hAmb).mono ?_
  rintro _ _ _ _ ⟨r, rfl, h⟩
  exact h
/-- replevin/replevinlaw24.ObjtextReads -/
theorem W3 (k10 : S10) (k11 : S11) (k12 : S12) (k13 : S13) (k14 : S14) (k15 : S15) (k16 : S16) (k17 : S17) (k7 : S7) (k8 : S8) (k9 : S9) (w0 : World) (χ0 : Nat → Nat) (s_ : List UInt8) (end_ : Int) (Q : Bool → Prop) (hm : VC3 s_ end_ Q) (hAmb : Amb w0 χ0) :
    Ret Tryd.prog 3 #[.string (bs s_), .int .i64 end_] xnone w0 χ0 (fun w χ' v => ∃ r, Q r ∧ v = .bool r) := by
  unfold VC3 at hm
  refine enter Tryd.func3 rfl (vals := [.string (bs s_), .int .i64 end_]) (by kernel_rfl) ?_
  intro ρ a hS hO hM
  replace hAmb := hAmb.m0 hM
  clear hM
  refine regP T hS (sp := []) (ks := [0, 1]) (bs := []) (sy' := ⟨[(0, V (.string (bs s_))), (1, I end_)], []⟩) (by kernel_rfl) ?_
  intro a hS
  refine wseq ?_
  refine regP T hS (sp := []) (ks := [0, 1, 22]) (bs := []) (sy' := ⟨[(0, V (.string (bs s_))), (1, I end_), (22, B (decide (((s_.length : Nat) : Int) > 3000)))], []⟩) (by kernel_rfl) ?_
  intro a hS
  refine wcond hS (b := decide (((s_.length : Nat) : Int) > 3000)) (by kernel_rfl) (fun hb => ?_) (fun hb => ?_)
  · replace hm := hm.1 hb
    refine regO ?_
    refine op1 (call hS (by kernel_rfl) (by kernel_rfl) hb7 (by kernel_rfl) (fun _ _ => rfl) (k7 _ _ hAmb) ?_)
    intro v101 a w102 χ103 hE hp hS
    replace hO := hO.mv hE rfl rfl
    replace hAmb := hAmb.mv hE rfl
    clear hE
    obtain ⟨r104, hr⟩ : ∃ r, law24_awake = r := ⟨_, rfl⟩
    replace hm := hm r104 hr
    rw [hr] at hp
    clear hr
    subst hp
    refine endP T hS (sp := []) (ks := [4]) (bs := []) (sy' := ⟨[(4, B r104)], []⟩) (by kernel_rfl) ?_
    intro a hS
    refine wret ?_
    exact fin T hS hO (fun c => c) rfl (r := [.bool r104]) (by kernel_rfl) (fun χ' hM hC => ⟨r104, hm, rfl⟩)
  · replace hm := hm.2 hb
    refine wskip ?_
    refine regO ?_
    refine opsP T hS 1 (sp := []) (ks := [0, 1, 25]) (bs := []) (sy' := ⟨[(0, V (.string (bs s_))), (1, I end_), (25, V (.string (bs s_)))], []⟩) (by kernel_rfl) ?_
    intro a hS
    refine op1 (call hS (by kernel_rfl) (by kernel_rfl) hb8 (by kernel_rfl) (fun _ _ => rfl) (k8 _ _ s_) ?_)
    intro v105 a w106 χ107 hE hp hS
    replace hO := hO.mv hE rfl rfl
    replace hAmb := hAmb.mv hE rfl
    clear hE
    obtain ⟨a109, c110, hp, h111⟩ := hp
    obtain ⟨r108, hr⟩ : ∃ r, objtext_Parse s_ = r := ⟨_, rfl⟩
    replace hm := hm r108 hr
    rw [hr] at hp h111
    clear hr
    subst hp
    replace hm := hm (h111.sm (by kernel_rfl))
    refine endM T hS (sp := []) (ks := [0, 1, 5, 6, 7]) (bs := [6]) (sy' := ⟨[(0, V (.string (bs s_))), (1, I end_), (5, Pt 6 0), (6, I r108.2.1), (7, I r108.2.2)], [(6, (25, [I r108.1.States, I r108.1.Kinds, I r108.1.Init, V (.slice a109 r108.1.Rows.length c110)]))]⟩) (by kernel_rfl) ?_
    intro ρ a w202 χ203 hS hE hr
    replace hO := hO.mv hE rfl rfl
    replace hAmb := hAmb.mv hE rfl
    replace h111 := h111.mv hE rfl
    clear hE hr
    refine regO ?_
    refine opsP T hS 1 (sp := []) (ks := [0, 1, 5, 6, 7, 31]) (bs := [6]) (sy' := ⟨[(0, V (.string (bs s_))), (1, I end_), (5, Pt 6 0), (6, I r108.2.1), (7, I r108.2.2), (31, V (.string (bs s_)))], [(6, (25, [I r108.1.States, I r108.1.Kinds, I r108.1.Init, V (.slice a109 r108.1.Rows.length c110)]))]⟩) (by kernel_rfl) ?_
    intro a hS
    refine op1 (call hS (by kernel_rfl) (by kernel_rfl) hb9 (by kernel_rfl) (fun _ _ => rfl) (k9 _ _ s_) ?_)
    intro v112 a w113 χ114 hE hp hS
    replace hO := hO.mv hE rfl rfl
    replace hAmb := hAmb.mv hE rfl
    replace h111 := h111.mv hE rfl
    clear hE
    obtain ⟨a116, c117, hp, h118⟩ := hp
    obtain ⟨r115, hr⟩ : ∃ r, ref24_Parse s_ = r := ⟨_, rfl⟩
    replace hm := hm r115 hr
    rw [hr] at hp h118
    clear hr
    subst hp
    replace hm := hm (h118.sm (by kernel_rfl))
    refine endM T hS (sp := []) (ks := [0, 1, 5, 6, 7, 8, 9, 10]) (bs := [6, 9]) (sy' := ⟨[(0, V (.string (bs s_))), (1, I end_), (5, Pt 6 0), (6, I r108.2.1), (7, I r108.2.2), (8, Pt 9 0), (9, I r115.2.1), (10, I r115.2.2)], [(6, (25, [I r108.1.States, I r108.1.Kinds, I r108.1.Init, V (.slice a109 r108.1.Rows.length c110)])), (9, (25, [I r115.1.States, I r115.1.Kinds, I r115.1.Init, V (.slice a116 r115.1.Rows.length c117)]))]⟩) (by kernel_rfl) ?_
    intro ρ a w200 χ201 hS hE hr
    replace hO := hO.mv hE rfl rfl
    replace hAmb := hAmb.mv hE rfl
    replace h111 := h111.mv hE rfl
    replace h118 := h118.mv hE rfl
    clear hE hr
    refine wseq ?_
    refine regO ?_
    refine opsP T hS 2 (sp := []) (ks := [0, 1, 6, 7, 9, 10, 36, 37]) (bs := []) (sy' := ⟨[(0, V (.string (bs s_))), (1, I end_), (6, I r108.2.1), (7, I r108.2.2), (9, I r115.2.1), (10, I r115.2.2), (36, V (.agg #[.int .i64 r108.1.States, .int .i64 r108.1.Kinds, .int .i64 r108.1.Init, .slice a109 r108.1.Rows.length c110])), (37, V (.agg #[.int .i64 r115.1.States, .int .i64 r115.1.Kinds, .int .i64 r115.1.Init, .slice a116 r115.1.Rows.length c117]))], []⟩) (by kernel_rfl) ?_
    intro a hS
    refine op1 (call hS (by kernel_rfl) (by kernel_rfl) hb10 (by kernel_rfl) (fun _ _ => rfl) (k10 _ _ r108.1 r115.1 a109 c110 a116 c117 h111 h118) ?_)
    intro v119 a w120 χ121 hE hp hS
    replace hO := hO.mv hE rfl rfl
    replace hAmb := hAmb.mv hE rfl
    replace h111 := h111.mv hE rfl
    replace h118 := h118.mv hE rfl
    clear hE
    obtain ⟨r122, hr⟩ : ∃ r, ref23_Same r108.1 r115.1 = r := ⟨_, rfl⟩
    replace hm := hm r122 hr
    rw [hr] at hp
    clear hr
    subst hp
    refine endP T hS (sp := [40, 45]) (ks := [0, 1, 49]) (bs := []) (sy' := ⟨[(0, V (.string (bs s_))), (1, I end_), (49, B (((!r122) || (r108.2.1 != r115.2.1)) || (r108.2.2 != r115.2.2)))], []⟩) (by kernel_rfl) ?_
    intro a hS
    refine wcond hS (b := (((!r122) || (r108.2.1 != r115.2.1)) || (r108.2.2 != r115.2.2))) (by kernel_rfl) (fun hb => ?_) (fun hb => ?_)
    · replace hm := hm.1 hb
      refine regP T hS (sp := []) (ks := [4]) (bs := []) (sy' := ⟨[(4, B false)], []⟩) (by kernel_rfl) ?_
      intro a hS
      refine wret ?_
      exact fin T hS hO (fun c => c) rfl (r := [.bool false]) (by kernel_rfl) (fun χ' hM hC => ⟨false, hm, rfl⟩)
    · replace hm := hm.2 hb
      refine wskip ?_
      refine regO ?_
      refine opsP T hS 1 (sp := []) (ks := [0, 1, 51]) (bs := []) (sy' := ⟨[(0, V (.string (bs s_))), (1, I end_), (51, V (.string (bs s_)))], []⟩) (by kernel_rfl) ?_
      intro a hS
      obtain ⟨hq, hm⟩ := hm
      refine op1 (call hS (by kernel_rfl) (by kernel_rfl) hb12 (by kernel_rfl) (fun _ _ => rfl) (k12 _ _ s_ hq) ?_)
      intro v123 a w124 χ125 hE hp hS
      clear hq
      replace hO := hO.mv hE rfl rfl
      replace hAmb := hAmb.mv hE rfl
      clear hE
      obtain ⟨a127, c128, hp, h129⟩ := hp
      obtain ⟨r126, hr⟩ : ∃ r, token_Lines s_ = r := ⟨_, rfl⟩
      replace hm := hm r126 hr
      rw [hr] at hp h129
      clear hr
      subst hp
      replace hm := hm (h129.sm (by kernel_rfl))
      refine opsP T hS 1 (sp := []) (ks := [0, 1, 52, 53]) (bs := []) (sy' := ⟨[(0, V (.string (bs s_))), (1, I end_), (52, V (.slice a127 r126.length c128)), (53, I end_)], []⟩) (by kernel_rfl) ?_
      intro a hS
      obtain ⟨hq, hm⟩ := hm
      refine op1 (call hS (by kernel_rfl) (by kernel_rfl) hb11 (by kernel_rfl) (fun _ _ => rfl) (k11 _ _ r126 end_ a127 c128 hq h129) ?_)
      intro v130 a w131 χ132 hE hp hS
      clear hq
      replace hO := hO.mv hE rfl rfl
      replace hAmb := hAmb.mv hE rfl
      replace h129 := h129.mv hE rfl
      clear hE
      obtain ⟨a134, c135, a137, c138, hp, h136, h139⟩ := hp
      obtain ⟨r133, hr⟩ : ∃ r, objtext_Take r126 end_ = r := ⟨_, rfl⟩
      replace hm := hm r133 hr
      rw [hr] at hp h136 h139
      clear hr
      subst hp
      replace hm := hm (h136.sm (by kernel_rfl))
      replace hm := hm (h139.sm (by kernel_rfl))
      refine endM T hS (sp := []) (ks := [0, 1, 11, 12, 13, 14]) (bs := [12]) (sy' := ⟨[(0, V (.string (bs s_))), (1, I end_), (11, Pt 12 0), (12, V (.slice a137 r133.2.1.length c138)), (13, I r133.2.2.1), (14, I r133.2.2.2)], [(12, (25, [I r133.1.States, I r133.1.Kinds, I r133.1.Init, V (.slice a134 r133.1.Rows.length c135)]))]⟩) (by kernel_rfl) ?_
      intro ρ a w198 χ199 hS hE hr
      replace hO := hO.mv hE rfl rfl
      replace hAmb := hAmb.mv hE rfl
      replace h136 := h136.mv hE rfl
      replace h139 := h139.mv hE rfl
      clear hE hr
      refine regO ?_
      refine opsP T hS 1 (sp := []) (ks := [1, 11, 12, 13, 14, 59]) (bs := [12]) (sy' := ⟨[(1, I end_), (11, Pt 12 0), (12, V (.slice a137 r133.2.1.length c138)), (13, I r133.2.2.1), (14, I r133.2.2.2), (59, V (.string (bs s_)))], [(12, (25, [I r133.1.States, I r133.1.Kinds, I r133.1.Init, V (.slice a134 r133.1.Rows.length c135)]))]⟩) (by kernel_rfl) ?_
      intro a hS
      obtain ⟨hq, hm⟩ := hm
      refine op1 (call hS (by kernel_rfl) (by kernel_rfl) hb14 (by kernel_rfl) (fun _ _ => rfl) (k14 _ _ s_ hq) ?_)
      intro v140 a w141 χ142 hE hp hS
      clear hq
      replace hO := hO.mv hE rfl rfl
      replace hAmb := hAmb.mv hE rfl
      replace h136 := h136.mv hE rfl
      replace h139 := h139.mv hE rfl
      clear hE
      obtain ⟨a144, c145, hp, h146⟩ := hp
      obtain ⟨r143, hr⟩ : ∃ r, ref05_Lines s_ = r := ⟨_, rfl⟩
      replace hm := hm r143 hr
      rw [hr] at hp h146
      clear hr
      subst hp
      replace hm := hm (h146.sm (by kernel_rfl))
      obtain ⟨hq, hm⟩ := hm
      refine op1 (call hS (by kernel_rfl) (by kernel_rfl) hb13 (by kernel_rfl) (fun _ _ => rfl) (k13 _ _ r143 a144 c145 hq h146) ?_)
      intro v147 a w148 χ149 hE hp hS
      clear hq
      replace hO := hO.mv hE rfl rfl
      replace hAmb := hAmb.mv hE rfl
      replace h136 := h136.mv hE rfl
      replace h139 := h139.mv hE rfl
      replace h146 := h146.mv hE rfl
      clear hE
      obtain ⟨a151, c152, hp, h153⟩ := hp
      obtain ⟨r150, hr⟩ : ∃ r, ref24_Said r143 = r := ⟨_, rfl⟩
      replace hm := hm r150 hr
      rw [hr] at hp h153
      clear hr
      subst hp
      replace hm := hm (h153.sm (by kernel_rfl))
      refine endP T hS (sp := []) (ks := [1, 11, 12, 13, 14, 15]) (bs := [12]) (sy' := ⟨[(1, I end_), (11, Pt 12 0), (12, V (.slice a137 r133.2.1.length c138)), (13, I r133.2.2.1), (14, I r133.2.2.2), (15, V (.slice a151 r150.length c152))], [(12, (25, [I r133.1.States, I r133.1.Kinds, I r133.1.Init, V (.slice a134 r133.1.Rows.length c135)]))]⟩) (by kernel_rfl) ?_
      intro a hS
      refine regO ?_
      refine opsP T hS 2 (sp := []) (ks := [11, 12, 13, 14, 15, 63, 64]) (bs := [12]) (sy' := ⟨[(11, Pt 12 0), (12, V (.slice a137 r133.2.1.length c138)), (13, I r133.2.2.1), (14, I r133.2.2.2), (15, V (.slice a151 r150.length c152)), (63, V (.slice a151 r150.length c152)), (64, I end_)], [(12, (25, [I r133.1.States, I r133.1.Kinds, I r133.1.Init, V (.slice a134 r133.1.Rows.length c135)]))]⟩) (by kernel_rfl) ?_
      intro a hS
      obtain ⟨hq, hm⟩ := hm
      refine op1 (call hS (by kernel_rfl) (by kernel_rfl) hb15 (by kernel_rfl) (fun _ _ => rfl) (k15 _ _ r150 end_ a151 c152 hq h153) ?_)
      intro v154 a w155 χ156 hE hp hS
      clear hq
      replace hO := hO.mv hE rfl rfl
      replace hAmb := hAmb.mv hE rfl
      replace h136 := h136.mv hE rfl
      replace h139 := h139.mv hE rfl
      replace h153 := h153.mv hE rfl
      clear hE
      obtain ⟨a158, c159, hp, h160⟩ := hp
      obtain ⟨r157, hr⟩ : ∃ r, ref24_Take r150 end_ = r := ⟨_, rfl⟩
      replace hm := hm r157 hr
      rw [hr] at hp h160
      clear hr
      subst hp
      replace hm := hm (h160.sm (by kernel_rfl))
      refine endM T hS (sp := []) (ks := [11, 12, 13, 14, 15, 16, 17, 18, 19]) (bs := [12, 17]) (sy' := ⟨[(11, Pt 12 0), (12, V (.slice a137 r133.2.1.length c138)), (13, I r133.2.2.1), (14, I r133.2.2.2), (15, V (.slice a151 r150.length c152)), (16, Pt 17 0), (17, I r157.2.1), (18, I r157.2.2.1), (19, I r157.2.2.2)], [(12, (25, [I r133.1.States, I r133.1.Kinds, I r133.1.Init, V (.slice a134 r133.1.Rows.length c135)])), (17, (25, [I r157.1.States, I r157.1.Kinds, I r157.1.Init, V (.slice a158 r157.1.Rows.length c159)]))]⟩) (by kernel_rfl) ?_
      intro ρ a w196 χ197 hS hE hr
      replace hO := hO.mv hE rfl rfl
      replace hAmb := hAmb.mv hE rfl
      replace h136 := h136.mv hE rfl
      replace h139 := h139.mv hE rfl
      replace h153 := h153.mv hE rfl
      replace h160 := h160.mv hE rfl
      clear hE hr
      refine wseq ?_
      refine regO ?_
      refine opsP T hS 2 (sp := []) (ks := [12, 13, 14, 15, 17, 18, 19, 70, 71]) (bs := []) (sy' := ⟨[(12, V (.slice a137 r133.2.1.length c138)), (13, I r133.2.2.1), (14, I r133.2.2.2), (15, V (.slice a151 r150.length c152)), (17, I r157.2.1), (18, I r157.2.2.1), (19, I r157.2.2.2), (70, V (.agg #[.int .i64 r133.1.States, .int .i64 r133.1.Kinds, .int .i64 r133.1.Init, .slice a134 r133.1.Rows.length c135])), (71, V (.agg #[.int .i64 r157.1.States, .int .i64 r157.1.Kinds, .int .i64 r157.1.Init, .slice a158 r157.1.Rows.length c159]))], []⟩) (by kernel_rfl) ?_
      intro a hS
      refine op1 (call hS (by kernel_rfl) (by kernel_rfl) hb10 (by kernel_rfl) (fun _ _ => rfl) (k10 _ _ r133.1 r157.1 a134 c135 a158 c159 h136 h160) ?_)
      intro v161 a w162 χ163 hE hp hS
      replace hO := hO.mv hE rfl rfl
      replace hAmb := hAmb.mv hE rfl
      replace h136 := h136.mv hE rfl
      replace h139 := h139.mv hE rfl
      replace h153 := h153.mv hE rfl
      replace h160 := h160.mv hE rfl
      clear hE
      obtain ⟨r164, hr⟩ : ∃ r, ref23_Same r133.1 r157.1 = r := ⟨_, rfl⟩
      replace hm := hm r164 hr
      rw [hr] at hp
      clear hr
      subst hp
      refine endP T hS (sp := [74, 79]) (ks := [12, 15, 17, 19, 83]) (bs := []) (sy' := ⟨[(12, V (.slice a137 r133.2.1.length c138)), (15, V (.slice a151 r150.length c152)), (17, I r157.2.1), (19, I r157.2.2.2), (83, B (((!r164) || (r133.2.2.1 != r157.2.2.1)) || (r133.2.2.2 != r157.2.2.2)))], []⟩) (by kernel_rfl) ?_
      intro a hS
      refine wcond hS (b := (((!r164) || (r133.2.2.1 != r157.2.2.1)) || (r133.2.2.2 != r157.2.2.2))) (by kernel_rfl) (fun hb => ?_) (fun hb => ?_)
      · replace hm := hm.1 hb
        refine regP T hS (sp := []) (ks := [4]) (bs := []) (sy' := ⟨[(4, B false)], []⟩) (by kernel_rfl) ?_
        intro a hS
        refine wret ?_
        exact fin T hS hO (fun c => c) rfl (r := [.bool false]) (by kernel_rfl) (fun χ' hM hC => ⟨false, hm, rfl⟩)
      · replace hm := hm.2 hb
        refine wskip ?_
        refine wseq ?_
        refine regP T hS (sp := []) (ks := [12, 15, 17, 85]) (bs := []) (sy' := ⟨[(12, V (.slice a137 r133.2.1.length c138)), (15, V (.slice a151 r150.length c152)), (17, I r157.2.1), (85, B (r157.2.2.2 != 0))], []⟩) (by kernel_rfl) ?_
        intro a hS
        refine wcond hS (b := (r157.2.2.2 != 0)) (by kernel_rfl) (fun hb => ?_) (fun hb => ?_)
        · replace hm := hm.1 hb
          refine regO ?_
          refine opsP T hS 4 (sp := []) (ks := [89]) (bs := []) (sy' := ⟨[(89, B (((r133.2.1.length : Nat) : Int) == 0))], []⟩) (by kernel_rfl) ?_
          intro a hS
          rcases Bool.eq_false_or_eq_true (((r133.2.1.length : Nat) : Int) == 0) with hb | hb
          · replace hS := hS.lit (t := 89) (by kernel_rfl) hb
            replace hm := hm.1 hb
            refine op1 (call hS (by kernel_rfl) (by kernel_rfl) hb7 (by kernel_rfl) (fun _ _ => rfl) (k7 _ _ hAmb) ?_)
            intro v165 a w166 χ167 hE hp hS
            replace hO := hO.mv hE rfl rfl
            replace hAmb := hAmb.mv hE rfl
            clear hE
            obtain ⟨r168, hr⟩ : ∃ r, law24_awake = r := ⟨_, rfl⟩
            replace hm := hm r168 hr
            rw [hr] at hp
            clear hr
            subst hp
            refine endP T hS (sp := []) (ks := [4]) (bs := []) (sy' := ⟨[(4, B r168)], []⟩) (by kernel_rfl) ?_
            intro a hS
            refine wret ?_
            exact fin T hS hO (fun c => c) rfl (r := [.bool r168]) (by kernel_rfl) (fun χ' hM hC => ⟨r168, hm, rfl⟩)
          · replace hS := hS.lit (t := 89) (by kernel_rfl) hb
            replace hm := hm.2 hb
            refine endP T hS (sp := []) (ks := [4]) (bs := []) (sy' := ⟨[(4, B false)], []⟩) (by kernel_rfl) ?_
            intro a hS
            refine wret ?_
            exact fin T hS hO (fun c => c) rfl (r := [.bool false]) (by kernel_rfl) (fun χ' hM hC => ⟨false, hm, rfl⟩)
        · replace hm := hm.2 hb
          refine wskip ?_
          refine drawnSX [] mixed hS ?_
          intro w169 χ170 hS hE hD hH
          replace hO := hO.mv hE rfl rfl
          replace hAmb := hAmb.mv hE rfl
          replace h139 := h139.mv hE rfl
          replace h153 := h153.mv hE rfl
          clear hE
          refine take T [0, 3, 4] [] [92, 95, 96] hS (by kernel_rfl) (by kernel_rfl) (by kernel_rfl) hH (listed' := #[true, false, false, true, true, false, false, false, false, false, false]) (fuel := 8) (sy' := ⟨[(92, V (.slice a137 r133.2.1.length c138)), (95, V (.slice a151 r150.length c152)), (96, I r157.2.1)], []⟩) (by kernel_rfl) (by rfl) ?_
          intro a hS
          obtain ⟨hq, hm⟩ := hm
          refine dslice1 (E := 56) (kl := .i64) T 5 hS (by kernel_rfl) (by kernel_rfl) (by kernel_rfl) (by rfl) (by kernel_rfl) hH (by kernel_rfl) (by kernel_rfl) h153 (by kernel_rfl) (by kernel_rfl) hq.1 hq.2 ?_
          intro a171 c172 a h173 hS
          clear hq
          obtain ⟨hq, hm⟩ := hm
          refine only 1 (by kernel_rfl) (by rfl) (call hS (by kernel_rfl) (by kernel_rfl) hb17 (by kernel_rfl) (fun _ _ => rfl) (k17 _ _ r133.2.1 a137 c138 hq h139) ?_)
          intro v174 a w175 χ176 hE hp hS
          clear hq
          replace hO := hO.mv hE rfl rfl
          replace hD := hD.ev hE rfl
          replace hAmb := hAmb.mv hE rfl
          replace h139 := h139.mv hE rfl
          replace h153 := h153.mv hE rfl
          replace h173 := h173.mv hE rfl
          clear hE
          obtain ⟨a178, c179, hp, h180⟩ := hp
          obtain ⟨r177, hr⟩ : ∃ r, law05_Of r133.2.1 = r := ⟨_, rfl⟩
          replace hm := hm r177 hr
          rw [hr] at hp h180
          clear hr
          subst hp
          replace hm := hm (h180.sm (by kernel_rfl))
          refine andH (Hold.of hS (bks := []) (by kernel_rfl) hD) ?_
          intro hH
          obtain ⟨hq, hm⟩ := hm
          refine only 2 (by kernel_rfl) (by rfl) (call hS (by kernel_rfl) (by kernel_rfl) hb13 (by kernel_rfl) (fun _ _ => rfl) (k13 _ _ r177 a178 c179 hq h180) ?_)
          intro v181 a w182 χ183 hE hp hS
          clear hq
          replace hO := hO.mv hE rfl rfl
          replace hD := hD.ev hE rfl
          replace hAmb := hAmb.mv hE rfl
          replace h139 := h139.mv hE rfl
          replace h153 := h153.mv hE rfl
          replace h173 := h173.mv hE rfl
          replace h180 := h180.mv hE rfl
          clear hE
          obtain ⟨a185, c186, hp, h187⟩ := hp
          obtain ⟨r184, hr⟩ : ∃ r, ref24_Said r177 = r := ⟨_, rfl⟩
          replace hm := hm r184 hr
          rw [hr] at hp h187
          clear hr
          subst hp
          replace hm := hm (h187.sm (by kernel_rfl))
          refine andH (Hold.of hS (bks := []) (by kernel_rfl) hD) ?_
          intro hH
          refine only 6 (by kernel_rfl) (by rfl) (call hS (by kernel_rfl) (by kernel_rfl) hb16 (by kernel_rfl) (fun _ _ => rfl) (k16 _ _ r184 (r150.drop r157.2.1.toNat) a185 c186 a171 c172 h187 h173) ?_)
          intro v188 a w189 χ190 hE hp hS
          replace hO := hO.mv hE rfl rfl
          replace hD := hD.ev hE rfl
          replace hAmb := hAmb.mv hE rfl
          replace h139 := h139.mv hE rfl
          replace h153 := h153.mv hE rfl
          replace h173 := h173.mv hE rfl
          replace h180 := h180.mv hE rfl
          replace h187 := h187.mv hE rfl
          clear hE
          obtain ⟨r191, hr⟩ : ∃ r, ref05_Same r184 (r150.drop r157.2.1.toNat) = r := ⟨_, rfl⟩
          replace hm := hm r191 hr
          rw [hr] at hp
          clear hr
          subst hp
          refine andH (Hold.of hS (bks := []) (by kernel_rfl) hD) ?_
          intro hH
          refine take T [7] [] [99] hS (by kernel_rfl) (by kernel_rfl) (by kernel_rfl) hH (listed' := #[true, true, true, true, true, true, true, true, false, false, false]) (fuel := 3) (sy' := ⟨[(99, B r191)], []⟩) (by kernel_rfl) (by rfl) ?_
          intro a hS
          rcases Bool.eq_false_or_eq_true r191 with hb | hb
          · replace hS := hS.lit (t := 99) (by kernel_rfl) hb
            replace hm := hm.1 hb
            refine only 8 (by kernel_rfl) (by rfl) (call hS (by kernel_rfl) (by kernel_rfl) hb7 (by kernel_rfl) (fun _ _ => rfl) (k7 _ _ hAmb) ?_)
            intro v192 a w193 χ194 hE hp hS
            replace hO := hO.mv hE rfl rfl
            replace hD := hD.ev hE rfl
            replace hAmb := hAmb.mv hE rfl
            replace h139 := h139.mv hE rfl
            replace h153 := h153.mv hE rfl
            replace h173 := h173.mv hE rfl
            replace h180 := h180.mv hE rfl
            replace h187 := h187.mv hE rfl
            clear hE
            obtain ⟨r195, hr⟩ : ∃ r, law24_awake = r := ⟨_, rfl⟩
            replace hm := hm r195 hr
            rw [hr] at hp
            clear hr
            subst hp
            refine andH (Hold.of hS (bks := []) (by kernel_rfl) hD) ?_
            intro hH
            refine take T [9, 10] [] [4] hS (by kernel_rfl) (by kernel_rfl) (by kernel_rfl) hH (listed' := #[true, true, true, true, true, true, true, true, true, true, true]) (fuel := 0) (sy' := ⟨[(4, B r195)], []⟩) (by kernel_rfl) (by rfl) ?_
            intro a hS
            refine drawnDone (by kernel_rfl) ?_
            clear hD hH
            replace hS := hS.sel [4] [] (sy' := ⟨[(4, B r195)], []⟩) (by kernel_rfl)
            refine wret ?_
            exact fin T hS hO (fun c => c) rfl (r := [.bool r195]) (by kernel_rfl) (fun χ' hM hC => ⟨r195, hm, rfl⟩)
          · replace hS := hS.lit (t := 99) (by kernel_rfl) hb
            replace hm := hm.2 hb
            refine take T [8, 9, 10] [] [4] hS (by kernel_rfl) (by kernel_rfl) (by kernel_rfl) hH (listed' := #[true, true, true, true, true, true, true, true, true, true, true]) (fuel := 0) (sy' := ⟨[(4, B false)], []⟩) (by kernel_rfl) (by rfl) ?_
            intro a hS
            refine drawnDone (by kernel_rfl) ?_
            clear hD hH
            replace hS := hS.sel [4] [] (sy' := ⟨[(4, B false)], []⟩) (by kernel_rfl)
            refine wret ?_
            exact fin T hS hO (fun c => c) rfl (r := [.bool false]) (by kernel_rfl) (fun χ' hM hC => ⟨false, hm, rfl⟩)
/-- replevin/replevinlaw24.ObjtextLines -/
theorem W4 (k12 : S12) (k14 : S14) (k18 : S18) (k19 : S19) (k20 : S20) (k21 : S21) (k22 : S22) (k23 : S23) (k7 : S7) (w0 : World) (χ0 : Nat → Nat) (s_ : List UInt8) (b_ : (List Int) × (List Int)) (o_ : Api_Object) (a1 : Option Addr) (c1 : Nat) (a2 : Option Addr) (c2 : Nat) (a3 : Option Addr) (c3 : Nat) (Q : Bool → Prop) (hm : VC4 s_ b_ o_ Q) (h1 : RS tI w0 χ0 a1 b_.1 c1) (h2 : RS tI w0 χ0 a2 b_.2 c2) (h3 : RS tApi_Row w0 χ0 a3 o_.Rows c3) (hAmb : Amb w0 χ0) :
    Ret Tryd.prog 4 #[.string (bs s_), .agg #[.slice a1 b_.1.length c1, .slice a2 b_.2.length c2], .agg #[.int .i64 o_.States, .int .i64 o_.Kinds, .int .i64 o_.Init, .slice a3 o_.Rows.length c3]] xnone w0 χ0 (fun w χ' v => ∃ r, Q r ∧ v = .bool r) := by
  unfold VC4 at hm
  replace hm := hm (h1.sm (by kernel_rfl))
  replace hm := hm (h2.sm (by kernel_rfl))
  replace hm := hm (h3.sm (by kernel_rfl))
  refine enter Tryd.func4 rfl (vals := [.string (bs s_), .agg #[.slice a1 b_.1.length c1, .slice a2 b_.2.length c2], .agg #[.int .i64 o_.States, .int .i64 o_.Kinds, .int .i64 o_.Init, .slice a3 o_.Rows.length c3]]) (by kernel_rfl) ?_
  intro ρ a hS hO hM
  replace h1 := h1.m0 hM
  replace h2 := h2.m0 hM
  replace h3 := h3.m0 hM
  replace hAmb := hAmb.m0 hM
  clear hM
  refine regM T hS (sp := []) (ks := [0, 4, 5]) (bs := [5, 6]) (sy' := ⟨[(0, V (.string (bs s_))), (4, Pt 5 0), (5, Pt 6 0)], [(5, (45, [V (.slice a1 b_.1.length c1), V (.slice a2 b_.2.length c2)])), (6, (25, [I o_.States, I o_.Kinds, I o_.Init, V (.slice a3 o_.Rows.length c3)]))]⟩) (by kernel_rfl) ?_
  intro ρ a w184 χ185 hS hE hr
  replace hO := hO.mv hE rfl rfl
  replace h1 := h1.mv hE rfl
  replace h2 := h2.mv hE rfl
  replace h3 := h3.mv hE rfl
  replace hAmb := hAmb.mv hE rfl
  clear hE hr
  refine wseq ?_
  refine wcut (fun a w => ∃ (ρ : Nat → Nat) (χ : Nat → Nat) (x_101 : Bool), VC4_J1 s_ b_ o_ Q x_101 ∧ St Tryd.f4.ntmps ⟨[(0, V (.string (bs s_))), (4, Pt 5 0), (5, Pt 6 0), (39, B x_101)], [(5, (45, [V (.slice a1 b_.1.length c1), V (.slice a2 b_.2.length c2)])), (6, (25, [I o_.States, I o_.Kinds, I o_.Init, V (.slice a3 o_.Rows.length c3)]))]⟩ ρ a w χ ∧ Old w0 χ0 w χ ∧ RS tI w χ a1 b_.1 c1 ∧ RS tI w χ a2 b_.2 c2 ∧ RS tApi_Row w χ a3 o_.Rows c3 ∧ Amb w χ) ?_ ?_
  · refine region ?_
    refine opsP T hS 16 (sp := [23, 29]) (ks := [0, 4, 5, 35]) (bs := [5, 6]) (sy' := ⟨[(0, V (.string (bs s_))), (4, Pt 5 0), (5, Pt 6 0), (35, B (((decide (((s_.length : Nat) : Int) > 1000)) || (decide (((b_.1.length : Nat) : Int) > 20))) || (decide (((b_.2.length : Nat) : Int) > 20))))], [(5, (45, [V (.slice a1 b_.1.length c1), V (.slice a2 b_.2.length c2)])), (6, (25, [I o_.States, I o_.Kinds, I o_.Init, V (.slice a3 o_.Rows.length c3)]))]⟩) (by kernel_rfl) ?_
    intro a hS
    rcases Bool.eq_false_or_eq_true (((decide (((s_.length : Nat) : Int) > 1000)) || (decide (((b_.1.length : Nat) : Int) > 20))) || (decide (((b_.2.length : Nat) : Int) > 20))) with hb | hb
    · replace hS := hS.lit (t := 35) (by kernel_rfl) hb
      replace hm := hm.1 hb
      refine endP T hS (sp := []) (ks := [0, 4, 5, 39]) (bs := [5, 6]) (sy' := ⟨[(0, V (.string (bs s_))), (4, Pt 5 0), (5, Pt 6 0), (39, B true)], [(5, (45, [V (.slice a1 b_.1.length c1), V (.slice a2 b_.2.length c2)])), (6, (25, [I o_.States, I o_.Kinds, I o_.Init, V (.slice a3 o_.Rows.length c3)]))]⟩) (by kernel_rfl) ?_
      intro a hS
      exact ⟨ρ, _, true, hm, hS.sel [0, 4, 5, 39] [5, 6] (by kernel_rfl), hO, h1, h2, h3, hAmb⟩
    · replace hS := hS.lit (t := 35) (by kernel_rfl) hb
      replace hm := hm.2 hb
      refine opsP T hS 1 (sp := []) (ks := [0, 4, 5, 35, 36]) (bs := [5, 6]) (sy' := ⟨[(0, V (.string (bs s_))), (4, Pt 5 0), (5, Pt 6 0), (35, B false), (36, V (.agg #[.int .i64 o_.States, .int .i64 o_.Kinds, .int .i64 o_.Init, .slice a3 o_.Rows.length c3]))], [(5, (45, [V (.slice a1 b_.1.length c1), V (.slice a2 b_.2.length c2)])), (6, (25, [I o_.States, I o_.Kinds, I o_.Init, V (.slice a3 o_.Rows.length c3)]))]⟩) (by kernel_rfl) ?_
      intro a hS
      refine op1 (call hS (by kernel_rfl) (by kernel_rfl) hb18 (by kernel_rfl) (fun _ _ => rfl) (k18 _ _ o_ a3 c3 h3) ?_)
      intro v178 a w179 χ180 hE hp hS
      replace hO := hO.mv hE rfl rfl
      replace h1 := h1.mv hE rfl
      replace h2 := h2.mv hE rfl
      replace h3 := h3.mv hE rfl
      replace hAmb := hAmb.mv hE rfl
      clear hE
      obtain ⟨r181, hr⟩ : ∃ r, law23_Few o_ = r := ⟨_, rfl⟩
      replace hm := hm r181 hr
      rw [hr] at hp
      clear hr
      subst hp
      refine endP T hS (sp := []) (ks := [0, 4, 5, 39]) (bs := [5, 6]) (sy' := ⟨[(0, V (.string (bs s_))), (4, Pt 5 0), (5, Pt 6 0), (39, B (!r181))], [(5, (45, [V (.slice a1 b_.1.length c1), V (.slice a2 b_.2.length c2)])), (6, (25, [I o_.States, I o_.Kinds, I o_.Init, V (.slice a3 o_.Rows.length c3)]))]⟩) (by kernel_rfl) ?_
      intro a hS
      exact ⟨ρ, _, (!r181), hm, hS.sel [0, 4, 5, 39] [5, 6] (by kernel_rfl), hO, h1, h2, h3, hAmb⟩
  · rintro a w183 ⟨ρ, χ182, x_101, hm, hS, hO, h102, h103, h104, hAmb⟩
    unfold VC4_J1 at hm
    refine wcond hS (b := x_101) (by kernel_rfl) (fun hb => ?_) (fun hb => ?_)
    · replace hm := hm.1 hb
      refine regO ?_
      refine op1 (call hS (by kernel_rfl) (by kernel_rfl) hb7 (by kernel_rfl) (fun _ _ => rfl) (k7 _ _ hAmb) ?_)
      intro v105 a w106 χ107 hE hp hS
      replace hO := hO.mv hE rfl rfl
      replace h102 := h102.mv hE rfl
      replace h103 := h103.mv hE rfl
      replace h104 := h104.mv hE rfl
      replace hAmb := hAmb.mv hE rfl
      clear hE
      obtain ⟨r108, hr⟩ : ∃ r, law24_awake = r := ⟨_, rfl⟩
      replace hm := hm r108 hr
      rw [hr] at hp
      clear hr
      subst hp
      refine endP T hS (sp := []) (ks := [6]) (bs := []) (sy' := ⟨[(6, B r108)], []⟩) (by kernel_rfl) ?_
      intro a hS
      refine wret ?_
      exact fin T hS hO (fun c => c) rfl (r := [.bool r108]) (by kernel_rfl) (fun χ' hM hC => ⟨r108, hm, rfl⟩)
    · replace hm := hm.2 hb
      refine wskip ?_
      refine regO ?_
      refine opsP T hS 1 (sp := []) (ks := [0, 4, 5, 42]) (bs := [5, 6]) (sy' := ⟨[(0, V (.string (bs s_))), (4, Pt 5 0), (5, Pt 6 0), (42, V (.agg #[.int .i64 o_.States, .int .i64 o_.Kinds, .int .i64 o_.Init, .slice a3 o_.Rows.length c3]))], [(5, (45, [V (.slice a1 b_.1.length c1), V (.slice a2 b_.2.length c2)])), (6, (25, [I o_.States, I o_.Kinds, I o_.Init, V (.slice a3 o_.Rows.length c3)]))]⟩) (by kernel_rfl) ?_
      intro a hS
      obtain ⟨hq, hm⟩ := hm
      refine op1 (call hS (by kernel_rfl) (by kernel_rfl) hb19 (by kernel_rfl) (fun _ _ => rfl) (k19 _ _ o_ a3 c3 hq h104 hAmb) ?_)
      intro v109 a w110 χ111 hE hp hS
      clear hq
      replace hO := hO.mv hE rfl rfl
      replace h102 := h102.mv hE rfl
      replace h103 := h103.mv hE rfl
      replace h104 := h104.mv hE rfl
      replace hAmb := hAmb.mv hE rfl
      clear hE
      obtain ⟨r112, hr⟩ : ∃ r, objtext_Print o_ = r := ⟨_, rfl⟩
      replace hm := hm r112 hr
      rw [hr] at hp
      clear hr
      subst hp
      refine endP T hS (sp := []) (ks := [0, 4, 5, 7, 8]) (bs := [5, 6]) (sy' := ⟨[(0, V (.string (bs s_))), (4, Pt 5 0), (5, Pt 6 0), (7, V (.string (bs r112.1))), (8, I r112.2)], [(5, (45, [V (.slice a1 b_.1.length c1), V (.slice a2 b_.2.length c2)])), (6, (25, [I o_.States, I o_.Kinds, I o_.Init, V (.slice a3 o_.Rows.length c3)]))]⟩) (by kernel_rfl) ?_
      intro a hS
      refine regO ?_
      refine opsP T hS 1 (sp := []) (ks := [0, 4, 7, 8, 47]) (bs := [5]) (sy' := ⟨[(0, V (.string (bs s_))), (4, Pt 5 0), (7, V (.string (bs r112.1))), (8, I r112.2), (47, V (.agg #[.int .i64 o_.States, .int .i64 o_.Kinds, .int .i64 o_.Init, .slice a3 o_.Rows.length c3]))], [(5, (45, [V (.slice a1 b_.1.length c1), V (.slice a2 b_.2.length c2)]))]⟩) (by kernel_rfl) ?_
      intro a hS
      obtain ⟨hq, hm⟩ := hm
      refine op1 (call hS (by kernel_rfl) (by kernel_rfl) hb20 (by kernel_rfl) (fun _ _ => rfl) (k20 _ _ o_ a3 c3 hq h104) ?_)
      intro v113 a w114 χ115 hE hp hS
      clear hq
      replace hO := hO.mv hE rfl rfl
      replace h102 := h102.mv hE rfl
      replace h103 := h103.mv hE rfl
      replace h104 := h104.mv hE rfl
      replace hAmb := hAmb.mv hE rfl
      clear hE
      obtain ⟨r116, hr⟩ : ∃ r, ref24_Print o_ = r := ⟨_, rfl⟩
      replace hm := hm r116 hr
      rw [hr] at hp
      clear hr
      subst hp
      refine endP T hS (sp := []) (ks := [0, 4, 7, 8, 9, 10]) (bs := [5]) (sy' := ⟨[(0, V (.string (bs s_))), (4, Pt 5 0), (7, V (.string (bs r112.1))), (8, I r112.2), (9, V (.string (bs r116.1))), (10, I r116.2)], [(5, (45, [V (.slice a1 b_.1.length c1), V (.slice a2 b_.2.length c2)]))]⟩) (by kernel_rfl) ?_
      intro a hS
      refine wseq ?_
      refine regP T hS (sp := [54]) (ks := [0, 4, 58]) (bs := [5]) (sy' := ⟨[(0, V (.string (bs s_))), (4, Pt 5 0), (58, B ((!(r112.1 == r116.1)) || (r112.2 != r116.2)))], [(5, (45, [V (.slice a1 b_.1.length c1), V (.slice a2 b_.2.length c2)]))]⟩) (by kernel_rfl) ?_
      intro a hS
      refine wcond hS (b := ((!(r112.1 == r116.1)) || (r112.2 != r116.2))) (by kernel_rfl) (fun hb => ?_) (fun hb => ?_)
      · replace hm := hm.1 hb
        refine regP T hS (sp := []) (ks := [6]) (bs := []) (sy' := ⟨[(6, B false)], []⟩) (by kernel_rfl) ?_
        intro a hS
        refine wret ?_
        exact fin T hS hO (fun c => c) rfl (r := [.bool false]) (by kernel_rfl) (fun χ' hM hC => ⟨false, hm, rfl⟩)
      · replace hm := hm.2 hb
        refine wskip ?_
        refine regO ?_
        refine opsP T hS 1 (sp := []) (ks := [0, 4, 59]) (bs := [5]) (sy' := ⟨[(0, V (.string (bs s_))), (4, Pt 5 0), (59, V (.string (bs s_)))], [(5, (45, [V (.slice a1 b_.1.length c1), V (.slice a2 b_.2.length c2)]))]⟩) (by kernel_rfl) ?_
        intro a hS
        obtain ⟨hq, hm⟩ := hm
        refine op1 (call hS (by kernel_rfl) (by kernel_rfl) hb12 (by kernel_rfl) (fun _ _ => rfl) (k12 _ _ s_ hq) ?_)
        intro v117 a w118 χ119 hE hp hS
        clear hq
        replace hO := hO.mv hE rfl rfl
        replace h102 := h102.mv hE rfl
        replace h103 := h103.mv hE rfl
        replace hAmb := hAmb.mv hE rfl
        clear hE
        obtain ⟨a121, c122, hp, h123⟩ := hp
        obtain ⟨r120, hr⟩ : ∃ r, token_Lines s_ = r := ⟨_, rfl⟩
        replace hm := hm r120 hr
        rw [hr] at hp h123
        clear hr
        subst hp
        replace hm := hm (h123.sm (by kernel_rfl))
        refine endP T hS (sp := []) (ks := [0, 4, 11]) (bs := [5]) (sy' := ⟨[(0, V (.string (bs s_))), (4, Pt 5 0), (11, V (.slice a121 r120.length c122))], [(5, (45, [V (.slice a1 b_.1.length c1), V (.slice a2 b_.2.length c2)]))]⟩) (by kernel_rfl) ?_
        intro a hS
        refine regO ?_
        refine opsP T hS 1 (sp := []) (ks := [0, 4, 11, 61]) (bs := [5]) (sy' := ⟨[(0, V (.string (bs s_))), (4, Pt 5 0), (11, V (.slice a121 r120.length c122)), (61, V (.string (bs s_)))], [(5, (45, [V (.slice a1 b_.1.length c1), V (.slice a2 b_.2.length c2)]))]⟩) (by kernel_rfl) ?_
        intro a hS
        obtain ⟨hq, hm⟩ := hm
        refine op1 (call hS (by kernel_rfl) (by kernel_rfl) hb14 (by kernel_rfl) (fun _ _ => rfl) (k14 _ _ s_ hq) ?_)
        intro v124 a w125 χ126 hE hp hS
        clear hq
        replace hO := hO.mv hE rfl rfl
        replace h102 := h102.mv hE rfl
        replace h103 := h103.mv hE rfl
        replace hAmb := hAmb.mv hE rfl
        replace h123 := h123.mv hE rfl
        clear hE
        obtain ⟨a128, c129, hp, h130⟩ := hp
        obtain ⟨r127, hr⟩ : ∃ r, ref05_Lines s_ = r := ⟨_, rfl⟩
        replace hm := hm r127 hr
        rw [hr] at hp h130
        clear hr
        subst hp
        replace hm := hm (h130.sm (by kernel_rfl))
        refine endP T hS (sp := []) (ks := [0, 4, 11, 12]) (bs := [5]) (sy' := ⟨[(0, V (.string (bs s_))), (4, Pt 5 0), (11, V (.slice a121 r120.length c122)), (12, V (.slice a128 r127.length c129))], [(5, (45, [V (.slice a1 b_.1.length c1), V (.slice a2 b_.2.length c2)]))]⟩) (by kernel_rfl) ?_
        intro a hS
        refine wseq ?_
        refine regP T hS (sp := []) (ks := [0, 4, 11, 12, 67]) (bs := [5]) (sy' := ⟨[(0, V (.string (bs s_))), (4, Pt 5 0), (11, V (.slice a121 r120.length c122)), (12, V (.slice a128 r127.length c129)), (67, B (((r120.length : Nat) : Int) != ((r127.length : Nat) : Int)))], [(5, (45, [V (.slice a1 b_.1.length c1), V (.slice a2 b_.2.length c2)]))]⟩) (by kernel_rfl) ?_
        intro a hS
        refine wcond hS (b := (((r120.length : Nat) : Int) != ((r127.length : Nat) : Int))) (by kernel_rfl) (fun hb => ?_) (fun hb => ?_)
        · replace hm := hm.1 hb
          refine regP T hS (sp := []) (ks := [6]) (bs := []) (sy' := ⟨[(6, B false)], []⟩) (by kernel_rfl) ?_
          intro a hS
          refine wret ?_
          exact fin T hS hO (fun c => c) rfl (r := [.bool false]) (by kernel_rfl) (fun χ' hM hC => ⟨false, hm, rfl⟩)
        · replace hm := hm.2 hb
          refine wskip ?_
          refine wcut (fun a w => ∃ (ρ : Nat → Nat) (χ : Nat → Nat), VC4_J2 Q ∧ St Tryd.f4.ntmps ⟨[], []⟩ ρ a w χ ∧ Old w0 χ0 w χ ∧ Amb w χ) ?_ ?_
          · refine regP T hS (sp := []) (ks := [0, 4, 11, 12, 13]) (bs := [5]) (sy' := ⟨[(0, V (.string (bs s_))), (4, Pt 5 0), (11, V (.slice a121 r120.length c122)), (12, V (.slice a128 r127.length c129)), (13, I 0)], [(5, (45, [V (.slice a1 b_.1.length c1), V (.slice a2 b_.2.length c2)]))]⟩) (by kernel_rfl) ?_
            intro a hS
            refine wblock ?_
            obtain ⟨I1, μ1, hm0, hm⟩ := hm
            refine wloop (σ := Int) (fun s a w => ∃ (ρ : Nat → Nat) (χ : Nat → Nat), I1 s ∧ St Tryd.f4.ntmps ⟨[(0, V (.string (bs s_))), (4, Pt 5 0), (11, V (.slice a121 r120.length c122)), (12, V (.slice a128 r127.length c129)), (13, I s)], [(5, (45, [V (.slice a1 b_.1.length c1), V (.slice a2 b_.2.length c2)]))]⟩ ρ a w χ ∧ Old w0 χ0 w χ ∧ RS (tSlice tToken_Token) w χ a121 r120 c122 ∧ RS (tSlice tRef05_Token) w χ a128 r127 c129 ∧ RS tI w χ a1 b_.1 c1 ∧ RS tI w χ a2 b_.2 c2 ∧ Amb w χ) (fun s => μ1 s) (0) ?_ ?_
            · exact ⟨ρ, _, hm0, hS.sel [0, 4, 11, 12, 13] [5] (by kernel_rfl), hO, h123, h130, h102, h103, hAmb⟩
            · rintro i_137 a w175 ⟨ρ, χ174, hI, hS, hO, h135, h136, h138, h139, hAmb⟩
              replace hm := hm i_137 hI
              clear hI hm0
              refine wseq ?_
              refine regP T hS (sp := []) (ks := [0, 4, 11, 12, 13, 71]) (bs := [5]) (sy' := ⟨[(0, V (.string (bs s_))), (4, Pt 5 0), (11, V (.slice a121 r120.length c122)), (12, V (.slice a128 r127.length c129)), (13, I i_137), (71, B (decide (i_137 < ((r120.length : Nat) : Int))))], [(5, (45, [V (.slice a1 b_.1.length c1), V (.slice a2 b_.2.length c2)]))]⟩) (by kernel_rfl) ?_
              intro a hS
              refine wcond hS (b := decide (i_137 < ((r120.length : Nat) : Int))) (by kernel_rfl) (fun hb => ?_) (fun hb => ?_)
              · replace hm := hm.1 hb
                refine wskip ?_
                refine wseq ?_
                refine wblock ?_
                refine drawnSX [5] mixed hS ?_
                intro w140 χ141 hS hE hD hH
                replace hO := hO.mv hE rfl rfl
                replace h135 := h135.mv hE rfl
                replace h136 := h136.mv hE rfl
                replace h138 := h138.mv hE rfl
                replace h139 := h139.mv hE rfl
                replace hAmb := hAmb.mv hE rfl
                clear hE
                refine take T [0, 1, 4, 6, 8, 5, 7, 9] [5] [0, 4, 11, 12, 13, 75, 76, 80, 82, 84] hS (by kernel_rfl) (by kernel_rfl) (by kernel_rfl) hH (listed' := #[true, true, false, false, true, true, true, true, true, true, false, false, false, false, false, false, false, false]) (fuel := 10) (sy' := ⟨[(0, V (.string (bs s_))), (4, Pt 5 0), (11, V (.slice a121 r120.length c122)), (12, V (.slice a128 r127.length c129)), (13, I i_137), (75, V (.slice a121 r120.length c122)), (76, I i_137), (80, V (.slice a1 b_.1.length c1)), (82, V (.slice a2 b_.2.length c2)), (84, I ((s_.length : Nat) : Int))], [(5, (45, [V (.slice a1 b_.1.length c1), V (.slice a2 b_.2.length c2)]))]⟩) (by kernel_rfl) (by rfl) ?_
                intro a hS
                obtain ⟨hq, hm⟩ := hm
                refine dindex (e := 53) (k := .i64) T 2 hS (by kernel_rfl) (by kernel_rfl) (by kernel_rfl) (by rfl) (by kernel_rfl) hH (by kernel_rfl) (by kernel_rfl) h135 (by kernel_rfl) (by kernel_rfl) hq.1 hq.2 ?_
                intro A142 a h143 hS
                clear hq
                have h143b := h143.here
                refine dload1 T 3 hS (by kernel_rfl) (by kernel_rfl) (by kernel_rfl) (by rfl) (by kernel_rfl) hH (by kernel_rfl) h143 h143b rfl (by kernel_rfl) ?_
                intro v144 a hv hS
                obtain ⟨a145, c146, hv, h147⟩ := hv
                cases hv
                replace hm := hm (h147.sm (by kernel_rfl))
                obtain ⟨hq, hm⟩ := hm
                refine only 10 (by kernel_rfl) (by rfl) (call hS (by kernel_rfl) (by kernel_rfl) hb21 (by kernel_rfl) (fun _ _ => rfl) (k21 _ _ (gi r120 i_137) ([120] : List UInt8) b_.1 b_.2 ((s_.length : Nat) : Int) a145 c146 a1 c1 a2 c2 hq h147 h138 h139) ?_)
                intro v148 a w149 χ150 hE hp hS
                clear hq
                replace hO := hO.mv hE rfl rfl
                replace hD := hD.ev hE rfl
                replace h135 := h135.mv hE rfl
                replace h136 := h136.mv hE rfl
                replace h138 := h138.mv hE rfl
                replace h139 := h139.mv hE rfl
                replace hAmb := hAmb.mv hE rfl
                replace h143 := h143.mv hE rfl
                replace h147 := h147.mv hE rfl
                clear hE
                obtain ⟨a152, c153, hp, h154⟩ := hp
                obtain ⟨r151, hr⟩ : ∃ r, objtext_Numbers (gi r120 i_137) ([120] : List UInt8) b_.1 b_.2 ((s_.length : Nat) : Int) = r := ⟨_, rfl⟩
                replace hm := hm r151 hr
                rw [hr] at hp h154
                clear hr
                subst hp
                replace hm := hm (h154.sm (by kernel_rfl))
                replace hS := hS.sel [0, 4, 11, 12, 13, 75, 76, 80, 82, 84, 77, 78, 85] [5] (sy' := ⟨[(0, V (.string (bs s_))), (4, Pt 5 0), (11, V (.slice a121 r120.length c122)), (12, V (.slice a128 r127.length c129)), (13, I i_137), (75, V (.slice a121 r120.length c122)), (76, I i_137), (80, V (.slice a1 b_.1.length c1)), (82, V (.slice a2 b_.2.length c2)), (84, I ((s_.length : Nat) : Int)), (77, V (.pointer (some A142))), (78, V (.slice a145 (gi r120 i_137).length c146)), (85, V (.tuple #[.slice a152 r151.1.length c153, .int .i64 r151.2.1, .int .i64 r151.2.2]))], [(5, (45, [V (.slice a1 b_.1.length c1), V (.slice a2 b_.2.length c2)]))]⟩) (by kernel_rfl)
                refine andH (Hold.of hS (bks := [5]) (by kernel_rfl) hD) ?_
                intro hH
                refine take T [11, 12, 13, 14, 15, 16, 17] [5] [0, 4, 11, 12, 13, 14, 15, 16] hS (by kernel_rfl) (by kernel_rfl) (by kernel_rfl) hH (listed' := #[true, true, true, true, true, true, true, true, true, true, true, true, true, true, true, true, true, true]) (fuel := 0) (sy' := ⟨[(0, V (.string (bs s_))), (4, Pt 5 0), (11, V (.slice a121 r120.length c122)), (12, V (.slice a128 r127.length c129)), (13, I i_137), (14, V (.slice a152 r151.1.length c153)), (15, I r151.2.1), (16, I r151.2.2)], [(5, (45, [V (.slice a1 b_.1.length c1), V (.slice a2 b_.2.length c2)]))]⟩) (by kernel_rfl) (by rfl) ?_
                intro a hS
                refine drawnDone (by kernel_rfl) ?_
                clear hD hH
                replace hS := hS.sel [0, 4, 11, 12, 13, 14, 15, 16] [5] (sy' := ⟨[(0, V (.string (bs s_))), (4, Pt 5 0), (11, V (.slice a121 r120.length c122)), (12, V (.slice a128 r127.length c129)), (13, I i_137), (14, V (.slice a152 r151.1.length c153)), (15, I r151.2.1), (16, I r151.2.2)], [(5, (45, [V (.slice a1 b_.1.length c1), V (.slice a2 b_.2.length c2)]))]⟩) (by kernel_rfl)
                refine drawnSX [5] mixed hS ?_
                intro w155 χ156 hS hE hD hH
                replace hO := hO.mv hE rfl rfl
                replace h135 := h135.mv hE rfl
                replace h136 := h136.mv hE rfl
                replace h138 := h138.mv hE rfl
                replace h139 := h139.mv hE rfl
                replace hAmb := hAmb.mv hE rfl
                replace h154 := h154.mv hE rfl
                clear hE
                refine take T [0, 1, 4, 6, 8, 5, 7, 9] [5] [0, 4, 11, 12, 13, 14, 15, 16, 90, 91, 95, 97, 99] hS (by kernel_rfl) (by kernel_rfl) (by kernel_rfl) hH (listed' := #[true, true, false, false, true, true, true, true, true, true, false, false, false, false, false, false, false, false]) (fuel := 10) (sy' := ⟨[(0, V (.string (bs s_))), (4, Pt 5 0), (11, V (.slice a121 r120.length c122)), (12, V (.slice a128 r127.length c129)), (13, I i_137), (14, V (.slice a152 r151.1.length c153)), (15, I r151.2.1), (16, I r151.2.2), (90, V (.slice a128 r127.length c129)), (91, I i_137), (95, V (.slice a1 b_.1.length c1)), (97, V (.slice a2 b_.2.length c2)), (99, I ((s_.length : Nat) : Int))], [(5, (45, [V (.slice a1 b_.1.length c1), V (.slice a2 b_.2.length c2)]))]⟩) (by kernel_rfl) (by rfl) ?_
                intro a hS
                obtain ⟨hq, hm⟩ := hm
                refine dindex (e := 56) (k := .i64) T 2 hS (by kernel_rfl) (by kernel_rfl) (by kernel_rfl) (by rfl) (by kernel_rfl) hH (by kernel_rfl) (by kernel_rfl) h136 (by kernel_rfl) (by kernel_rfl) hq.1 hq.2 ?_
                intro A157 a h158 hS
                clear hq
                have h158b := h158.here
                refine dload1 T 3 hS (by kernel_rfl) (by kernel_rfl) (by kernel_rfl) (by rfl) (by kernel_rfl) hH (by kernel_rfl) h158 h158b rfl (by kernel_rfl) ?_
                intro v159 a hv hS
                obtain ⟨a160, c161, hv, h162⟩ := hv
                cases hv
                replace hm := hm (h162.sm (by kernel_rfl))
                obtain ⟨hq, hm⟩ := hm
                refine only 10 (by kernel_rfl) (by rfl) (call hS (by kernel_rfl) (by kernel_rfl) hb22 (by kernel_rfl) (fun _ _ => rfl) (k22 _ _ (gi r127 i_137) ([120] : List UInt8) b_.1 b_.2 ((s_.length : Nat) : Int) a160 c161 a1 c1 a2 c2 hq h162 h138 h139) ?_)
                intro v163 a w164 χ165 hE hp hS
                clear hq
                replace hO := hO.mv hE rfl rfl
                replace hD := hD.ev hE rfl
                replace h135 := h135.mv hE rfl
                replace h136 := h136.mv hE rfl
                replace h138 := h138.mv hE rfl
                replace h139 := h139.mv hE rfl
                replace hAmb := hAmb.mv hE rfl
                replace h154 := h154.mv hE rfl
                replace h158 := h158.mv hE rfl
                replace h162 := h162.mv hE rfl
                clear hE
                obtain ⟨a167, c168, hp, h169⟩ := hp
                obtain ⟨r166, hr⟩ : ∃ r, ref24_Numbers (gi r127 i_137) ([120] : List UInt8) b_.1 b_.2 ((s_.length : Nat) : Int) = r := ⟨_, rfl⟩
                replace hm := hm r166 hr
                rw [hr] at hp h169
                clear hr
                subst hp
                replace hm := hm (h169.sm (by kernel_rfl))
                replace hS := hS.sel [0, 4, 11, 12, 13, 14, 15, 16, 90, 91, 95, 97, 99, 92, 93, 100] [5] (sy' := ⟨[(0, V (.string (bs s_))), (4, Pt 5 0), (11, V (.slice a121 r120.length c122)), (12, V (.slice a128 r127.length c129)), (13, I i_137), (14, V (.slice a152 r151.1.length c153)), (15, I r151.2.1), (16, I r151.2.2), (90, V (.slice a128 r127.length c129)), (91, I i_137), (95, V (.slice a1 b_.1.length c1)), (97, V (.slice a2 b_.2.length c2)), (99, I ((s_.length : Nat) : Int)), (92, V (.pointer (some A157))), (93, V (.slice a160 (gi r127 i_137).length c161)), (100, V (.tuple #[.slice a167 r166.1.length c168, .int .i64 r166.2.1, .int .i64 r166.2.2]))], [(5, (45, [V (.slice a1 b_.1.length c1), V (.slice a2 b_.2.length c2)]))]⟩) (by kernel_rfl)
                refine andH (Hold.of hS (bks := [5]) (by kernel_rfl) hD) ?_
                intro hH
                refine take T [11, 12, 13, 14, 15, 16, 17] [5] [0, 4, 11, 12, 13, 14, 15, 16, 17, 18, 19] hS (by kernel_rfl) (by kernel_rfl) (by kernel_rfl) hH (listed' := #[true, true, true, true, true, true, true, true, true, true, true, true, true, true, true, true, true, true]) (fuel := 0) (sy' := ⟨[(0, V (.string (bs s_))), (4, Pt 5 0), (11, V (.slice a121 r120.length c122)), (12, V (.slice a128 r127.length c129)), (13, I i_137), (14, V (.slice a152 r151.1.length c153)), (15, I r151.2.1), (16, I r151.2.2), (17, V (.slice a167 r166.1.length c168)), (18, I r166.2.1), (19, I r166.2.2)], [(5, (45, [V (.slice a1 b_.1.length c1), V (.slice a2 b_.2.length c2)]))]⟩) (by kernel_rfl) (by rfl) ?_
                intro a hS
                refine drawnDone (by kernel_rfl) ?_
                clear hD hH
                replace hS := hS.sel [0, 4, 11, 12, 13, 14, 15, 16, 17, 18, 19] [5] (sy' := ⟨[(0, V (.string (bs s_))), (4, Pt 5 0), (11, V (.slice a121 r120.length c122)), (12, V (.slice a128 r127.length c129)), (13, I i_137), (14, V (.slice a152 r151.1.length c153)), (15, I r151.2.1), (16, I r151.2.2), (17, V (.slice a167 r166.1.length c168)), (18, I r166.2.1), (19, I r166.2.2)], [(5, (45, [V (.slice a1 b_.1.length c1), V (.slice a2 b_.2.length c2)]))]⟩) (by kernel_rfl)
                refine regO ?_
                refine opsP T hS 2 (sp := []) (ks := [0, 4, 11, 12, 13, 15, 16, 18, 19, 104, 105]) (bs := [5]) (sy' := ⟨[(0, V (.string (bs s_))), (4, Pt 5 0), (11, V (.slice a121 r120.length c122)), (12, V (.slice a128 r127.length c129)), (13, I i_137), (15, I r151.2.1), (16, I r151.2.2), (18, I r166.2.1), (19, I r166.2.2), (104, V (.slice a152 r151.1.length c153)), (105, V (.slice a167 r166.1.length c168))], [(5, (45, [V (.slice a1 b_.1.length c1), V (.slice a2 b_.2.length c2)]))]⟩) (by kernel_rfl) ?_
                intro a hS
                refine op1 (call hS (by kernel_rfl) (by kernel_rfl) hb23 (by kernel_rfl) (fun _ _ => rfl) (k23 _ _ r151.1 r166.1 a152 c153 a167 c168 h154 h169) ?_)
                intro v170 a w171 χ172 hE hp hS
                replace hO := hO.mv hE rfl rfl
                replace h135 := h135.mv hE rfl
                replace h136 := h136.mv hE rfl
                replace h138 := h138.mv hE rfl
                replace h139 := h139.mv hE rfl
                replace hAmb := hAmb.mv hE rfl
                replace h154 := h154.mv hE rfl
                replace h169 := h169.mv hE rfl
                clear hE
                obtain ⟨r173, hr⟩ : ∃ r, ref01_SameInts r151.1 r166.1 = r := ⟨_, rfl⟩
                replace hm := hm r173 hr
                rw [hr] at hp
                clear hr
                subst hp
                refine endP T hS (sp := [108, 113]) (ks := [0, 4, 11, 12, 13, 117]) (bs := [5]) (sy' := ⟨[(0, V (.string (bs s_))), (4, Pt 5 0), (11, V (.slice a121 r120.length c122)), (12, V (.slice a128 r127.length c129)), (13, I i_137), (117, B (((!r173) || (r151.2.1 != r166.2.1)) || (r151.2.2 != r166.2.2)))], [(5, (45, [V (.slice a1 b_.1.length c1), V (.slice a2 b_.2.length c2)]))]⟩) (by kernel_rfl) ?_
                intro a hS
                refine wcond hS (b := (((!r173) || (r151.2.1 != r166.2.1)) || (r151.2.2 != r166.2.2))) (by kernel_rfl) (fun hb => ?_) (fun hb => ?_)
                · replace hm := hm.1 hb
                  refine regP T hS (sp := []) (ks := [6]) (bs := []) (sy' := ⟨[(6, B false)], []⟩) (by kernel_rfl) ?_
                  intro a hS
                  refine wret ?_
                  exact fin T hS hO (fun c => c) rfl (r := [.bool false]) (by kernel_rfl) (fun χ' hM hC => ⟨false, hm, rfl⟩)
                · replace hm := hm.2 hb
                  refine wskip ?_
                  refine region (endP T hS (sp := []) (ks := [0, 4, 11, 12, 13]) (bs := [5]) (sy' := ⟨[(0, V (.string (bs s_))), (4, Pt 5 0), (11, V (.slice a121 r120.length c122)), (12, V (.slice a128 r127.length c129)), (13, I (IntKind.i64.wrap (i_137 + 1)))], [(5, (45, [V (.slice a1 b_.1.length c1), V (.slice a2 b_.2.length c2)]))]⟩) (by kernel_rfl) ?_)
                  intro a hS
                  exact ⟨IntKind.i64.wrap (i_137 + 1), ⟨ρ, _, hm.1, hS.sel [0, 4, 11, 12, 13] [5] (by kernel_rfl), hO, h135, h136, h138, h139, hAmb⟩, hm.2⟩
              · replace hm := hm.2 hb
                refine wexit (by rfl) ?_
                exact ⟨ρ, _, hm, hS.sel [] [] (by kernel_rfl), hO, hAmb⟩
          · rintro a w177 ⟨ρ, χ176, hm, hS, hO, hAmb⟩
            unfold VC4_J2 at hm
            refine regO ?_
            refine op1 (call hS (by kernel_rfl) (by kernel_rfl) hb7 (by kernel_rfl) (fun _ _ => rfl) (k7 _ _ hAmb) ?_)
            intro v131 a w132 χ133 hE hp hS
            replace hO := hO.mv hE rfl rfl
            replace hAmb := hAmb.mv hE rfl
            clear hE
            obtain ⟨r134, hr⟩ : ∃ r, law24_awake = r := ⟨_, rfl⟩
            replace hm := hm r134 hr
            rw [hr] at hp
            clear hr
            subst hp
            refine endP T hS (sp := []) (ks := [6]) (bs := []) (sy' := ⟨[(6, B r134)], []⟩) (by kernel_rfl) ?_
            intro a hS
            refine wret ?_
            exact fin T hS hO (fun c => c) rfl (r := [.bool r134]) (by kernel_rfl) (fun χ' hM hC => ⟨r134, hm, rfl⟩)
/-- replevin/replevinlaw24.ObjtextPlaces -/
theorem W5 (k12 : S12) (k7 : S7) (k8 : S8) (w0 : World) (χ0 : Nat → Nat) (s_ : List UInt8) (Q : Bool → Prop) (hm : VC5 s_ Q) (hAmb : Amb w0 χ0) :
    Ret Tryd.prog 5 #[.string (bs s_)] xnone w0 χ0 (fun w χ' v => ∃ r, Q r ∧ v = .bool r) := by
  unfold VC5 at hm
  refine enter Tryd.func5 rfl (vals := [.string (bs s_)]) (by kernel_rfl) ?_
  intro ρ a hS hO hM
  replace hAmb := hAmb.m0 hM
  clear hM
  refine regP T hS (sp := []) (ks := [0]) (bs := []) (sy' := ⟨[(0, V (.string (bs s_)))], []⟩) (by kernel_rfl) ?_
  intro a hS
  refine wseq ?_
  refine regP T hS (sp := []) (ks := [0, 12]) (bs := []) (sy' := ⟨[(0, V (.string (bs s_))), (12, B (decide (((s_.length : Nat) : Int) > 3000)))], []⟩) (by kernel_rfl) ?_
  intro a hS
  refine wcond hS (b := decide (((s_.length : Nat) : Int) > 3000)) (by kernel_rfl) (fun hb => ?_) (fun hb => ?_)
  · replace hm := hm.1 hb
    refine regO ?_
    refine op1 (call hS (by kernel_rfl) (by kernel_rfl) hb7 (by kernel_rfl) (fun _ _ => rfl) (k7 _ _ hAmb) ?_)
    intro v101 a w102 χ103 hE hp hS
    replace hO := hO.mv hE rfl rfl
    replace hAmb := hAmb.mv hE rfl
    clear hE
    obtain ⟨r104, hr⟩ : ∃ r, law24_awake = r := ⟨_, rfl⟩
    replace hm := hm r104 hr
    rw [hr] at hp
    clear hr
    subst hp
    refine endP T hS (sp := []) (ks := [2]) (bs := []) (sy' := ⟨[(2, B r104)], []⟩) (by kernel_rfl) ?_
    intro a hS
    refine wret ?_
    exact fin T hS hO (fun c => c) rfl (r := [.bool r104]) (by kernel_rfl) (fun χ' hM hC => ⟨r104, hm, rfl⟩)
  · replace hm := hm.2 hb
    refine wskip ?_
    refine regO ?_
    refine opsP T hS 1 (sp := []) (ks := [0, 15]) (bs := []) (sy' := ⟨[(0, V (.string (bs s_))), (15, V (.string (bs s_)))], []⟩) (by kernel_rfl) ?_
    intro a hS
    refine op1 (call hS (by kernel_rfl) (by kernel_rfl) hb8 (by kernel_rfl) (fun _ _ => rfl) (k8 _ _ s_) ?_)
    intro v105 a w106 χ107 hE hp hS
    replace hO := hO.mv hE rfl rfl
    replace hAmb := hAmb.mv hE rfl
    clear hE
    obtain ⟨a109, c110, hp, h111⟩ := hp
    obtain ⟨r108, hr⟩ : ∃ r, objtext_Parse s_ = r := ⟨_, rfl⟩
    replace hm := hm r108 hr
    rw [hr] at hp h111
    clear hr
    subst hp
    replace hm := hm (h111.sm (by kernel_rfl))
    refine endM T hS (sp := []) (ks := [0, 4, 5]) (bs := []) (sy' := ⟨[(0, V (.string (bs s_))), (4, I r108.2.1), (5, I r108.2.2)], []⟩) (by kernel_rfl) ?_
    intro ρ a w157 χ158 hS hE hr
    replace hO := hO.mv hE rfl rfl
    replace hAmb := hAmb.mv hE rfl
    clear hE hr
    refine wseq ?_
    refine regP T hS (sp := [22]) (ks := [0, 4, 5, 27]) (bs := []) (sy' := ⟨[(0, V (.string (bs s_))), (4, I r108.2.1), (5, I r108.2.2), (27, B ((r108.2.2 == 0) || (r108.2.1 == ((s_.length : Nat) : Int))))], []⟩) (by kernel_rfl) ?_
    intro a hS
    refine wcond hS (b := ((r108.2.2 == 0) || (r108.2.1 == ((s_.length : Nat) : Int)))) (by kernel_rfl) (fun hb => ?_) (fun hb => ?_)
    · replace hm := hm.1 hb
      refine regO ?_
      refine opsP T hS 5 (sp := []) (ks := [32]) (bs := []) (sy' := ⟨[(32, B (r108.2.1 == ((s_.length : Nat) : Int)))], []⟩) (by kernel_rfl) ?_
      intro a hS
      rcases Bool.eq_false_or_eq_true (r108.2.1 == ((s_.length : Nat) : Int)) with hb | hb
      · replace hS := hS.lit (t := 32) (by kernel_rfl) hb
        replace hm := hm.1 hb
        refine op1 (call hS (by kernel_rfl) (by kernel_rfl) hb7 (by kernel_rfl) (fun _ _ => rfl) (k7 _ _ hAmb) ?_)
        intro v112 a w113 χ114 hE hp hS
        replace hO := hO.mv hE rfl rfl
        replace hAmb := hAmb.mv hE rfl
        clear hE
        obtain ⟨r115, hr⟩ : ∃ r, law24_awake = r := ⟨_, rfl⟩
        replace hm := hm r115 hr
        rw [hr] at hp
        clear hr
        subst hp
        refine endP T hS (sp := []) (ks := [2]) (bs := []) (sy' := ⟨[(2, B r115)], []⟩) (by kernel_rfl) ?_
        intro a hS
        refine wret ?_
        exact fin T hS hO (fun c => c) rfl (r := [.bool r115]) (by kernel_rfl) (fun χ' hM hC => ⟨r115, hm, rfl⟩)
      · replace hS := hS.lit (t := 32) (by kernel_rfl) hb
        replace hm := hm.2 hb
        refine endP T hS (sp := []) (ks := [2]) (bs := []) (sy' := ⟨[(2, B false)], []⟩) (by kernel_rfl) ?_
        intro a hS
        refine wret ?_
        exact fin T hS hO (fun c => c) rfl (r := [.bool false]) (by kernel_rfl) (fun χ' hM hC => ⟨false, hm, rfl⟩)
    · replace hm := hm.2 hb
      refine wskip ?_
      refine regO ?_
      refine opsP T hS 1 (sp := []) (ks := [4, 5, 35]) (bs := []) (sy' := ⟨[(4, I r108.2.1), (5, I r108.2.2), (35, V (.string (bs s_)))], []⟩) (by kernel_rfl) ?_
      intro a hS
      obtain ⟨hq, hm⟩ := hm
      refine op1 (call hS (by kernel_rfl) (by kernel_rfl) hb12 (by kernel_rfl) (fun _ _ => rfl) (k12 _ _ s_ hq) ?_)
      intro v116 a w117 χ118 hE hp hS
      clear hq
      replace hO := hO.mv hE rfl rfl
      replace hAmb := hAmb.mv hE rfl
      clear hE
      obtain ⟨a120, c121, hp, h122⟩ := hp
      obtain ⟨r119, hr⟩ : ∃ r, token_Lines s_ = r := ⟨_, rfl⟩
      replace hm := hm r119 hr
      rw [hr] at hp h122
      clear hr
      subst hp
      replace hm := hm (h122.sm (by kernel_rfl))
      refine endP T hS (sp := []) (ks := [4, 5, 6]) (bs := []) (sy' := ⟨[(4, I r108.2.1), (5, I r108.2.2), (6, V (.slice a120 r119.length c121))], []⟩) (by kernel_rfl) ?_
      intro a hS
      refine wcut (fun a w => ∃ (ρ : Nat → Nat) (χ : Nat → Nat), VC5_J1 Q ∧ St Tryd.f5.ntmps ⟨[], []⟩ ρ a w χ ∧ Old w0 χ0 w χ ∧ Amb w χ) ?_ ?_
      · refine regP T hS (sp := []) (ks := [4, 5, 6, 7]) (bs := []) (sy' := ⟨[(4, I r108.2.1), (5, I r108.2.2), (6, V (.slice a120 r119.length c121)), (7, I 0)], []⟩) (by kernel_rfl) ?_
        intro a hS
        refine wblock ?_
        obtain ⟨I1, μ1, hm0, hm⟩ := hm
        refine wloop (σ := Int) (fun s a w => ∃ (ρ : Nat → Nat) (χ : Nat → Nat), I1 s ∧ St Tryd.f5.ntmps ⟨[(4, I r108.2.1), (5, I r108.2.2), (6, V (.slice a120 r119.length c121)), (7, I s)], []⟩ ρ a w χ ∧ Old w0 χ0 w χ ∧ RS (tSlice tToken_Token) w χ a120 r119 c121 ∧ Amb w χ) (fun s => μ1 s) (0) ?_ ?_
        · exact ⟨ρ, _, hm0, hS.sel [4, 5, 6, 7] [] (by kernel_rfl), hO, h122, hAmb⟩
        · rintro i_124 a w154 ⟨ρ, χ153, hI, hS, hO, h123, hAmb⟩
          replace hm := hm i_124 hI
          clear hI hm0
          refine wseq ?_
          refine regP T hS (sp := []) (ks := [4, 5, 6, 7, 40]) (bs := []) (sy' := ⟨[(4, I r108.2.1), (5, I r108.2.2), (6, V (.slice a120 r119.length c121)), (7, I i_124), (40, B (decide (i_124 < ((r119.length : Nat) : Int))))], []⟩) (by kernel_rfl) ?_
          intro a hS
          refine wcond hS (b := decide (i_124 < ((r119.length : Nat) : Int))) (by kernel_rfl) (fun hb => ?_) (fun hb => ?_)
          · replace hm := hm.1 hb
            refine wskip ?_
            refine wcut (fun a w => ∃ (ρ : Nat → Nat) (χ : Nat → Nat), VC5_J2 I1 μ1 i_124 ∧ St Tryd.f5.ntmps ⟨[(4, I r108.2.1), (5, I r108.2.2), (6, V (.slice a120 r119.length c121)), (7, I i_124)], []⟩ ρ a w χ ∧ Old w0 χ0 w χ ∧ RS (tSlice tToken_Token) w χ a120 r119 c121 ∧ Amb w χ) ?_ ?_
            · refine wblock ?_
              refine regP T hS (sp := []) (ks := [4, 5, 6, 7, 8]) (bs := []) (sy' := ⟨[(4, I r108.2.1), (5, I r108.2.2), (6, V (.slice a120 r119.length c121)), (7, I i_124), (8, I 0)], []⟩) (by kernel_rfl) ?_
              intro a hS
              refine wblock ?_
              obtain ⟨I2, μ2, hm0, hm⟩ := hm
              refine wloop (σ := Int) (fun s a w => ∃ (ρ : Nat → Nat) (χ : Nat → Nat), I2 s ∧ St Tryd.f5.ntmps ⟨[(4, I r108.2.1), (5, I r108.2.2), (6, V (.slice a120 r119.length c121)), (7, I i_124), (8, I s)], []⟩ ρ a w χ ∧ Old w0 χ0 w χ ∧ RS (tSlice tToken_Token) w χ a120 r119 c121 ∧ Amb w χ) (fun s => μ2 s) (0) ?_ ?_
              · exact ⟨ρ, _, hm0, hS.sel [4, 5, 6, 7, 8] [] (by kernel_rfl), hO, h123, hAmb⟩
              · rintro k_127 a w150 ⟨ρ, χ149, hI, hS, hO, h126, hAmb⟩
                replace hm := hm k_127 hI
                clear hI hm0
                refine wseq ?_
                refine regO ?_
                refine opsP T hS 3 (sp := []) (ks := [4, 5, 6, 7, 8, 43, 44, 45]) (bs := []) (sy' := ⟨[(4, I r108.2.1), (5, I r108.2.2), (6, V (.slice a120 r119.length c121)), (7, I i_124), (8, I k_127), (43, I k_127), (44, V (.slice a120 r119.length c121)), (45, I i_124)], []⟩) (by kernel_rfl) ?_
                intro a hS
                obtain ⟨hq, hm⟩ := hm
                refine op1 (index (e := 53) (k := .i64) T hS (by kernel_rfl) (by kernel_rfl) (by kernel_rfl) (by kernel_rfl) h126 (by kernel_rfl) (by kernel_rfl) hq.1 hq.2 ?_)
                intro A128 a h129 hS
                clear hq
                refine op1 (load1 T hS (by kernel_rfl) (by kernel_rfl) (by kernel_rfl) h129 rfl (by kernel_rfl) ?_)
                intro v130 a hv hS
                obtain ⟨a131, c132, hv, h133⟩ := hv
                cases hv
                replace hm := hm (h133.sm (by kernel_rfl))
                refine endP T hS (sp := []) (ks := [4, 5, 6, 7, 8, 49]) (bs := []) (sy' := ⟨[(4, I r108.2.1), (5, I r108.2.2), (6, V (.slice a120 r119.length c121)), (7, I i_124), (8, I k_127), (49, B (decide (k_127 < (((gi r119 i_124).length : Nat) : Int))))], []⟩) (by kernel_rfl) ?_
                intro a hS
                refine wcond hS (b := decide (k_127 < (((gi r119 i_124).length : Nat) : Int))) (by kernel_rfl) (fun hb => ?_) (fun hb => ?_)
                · replace hm := hm.1 hb
                  refine wskip ?_
                  refine wseq ?_
                  refine wblock ?_
                  refine regO ?_
                  refine opsP T hS 2 (sp := []) (ks := [4, 5, 6, 7, 8, 52, 53]) (bs := []) (sy' := ⟨[(4, I r108.2.1), (5, I r108.2.2), (6, V (.slice a120 r119.length c121)), (7, I i_124), (8, I k_127), (52, V (.slice a120 r119.length c121)), (53, I i_124)], []⟩) (by kernel_rfl) ?_
                  intro a hS
                  obtain ⟨hq, hm⟩ := hm
                  refine op1 (index (e := 53) (k := .i64) T hS (by kernel_rfl) (by kernel_rfl) (by kernel_rfl) (by kernel_rfl) h126 (by kernel_rfl) (by kernel_rfl) hq.1 hq.2 ?_)
                  intro A134 a h135 hS
                  clear hq
                  refine op1 (load1 T hS (by kernel_rfl) (by kernel_rfl) (by kernel_rfl) h135 rfl (by kernel_rfl) ?_)
                  intro v136 a hv hS
                  obtain ⟨a137, c138, hv, h139⟩ := hv
                  cases hv
                  replace hm := hm (h139.sm (by kernel_rfl))
                  refine opsP T hS 1 (sp := []) (ks := [4, 5, 6, 7, 8, 55, 56]) (bs := []) (sy' := ⟨[(4, I r108.2.1), (5, I r108.2.2), (6, V (.slice a120 r119.length c121)), (7, I i_124), (8, I k_127), (55, V (.slice a137 (gi r119 i_124).length c138)), (56, I k_127)], []⟩) (by kernel_rfl) ?_
                  intro a hS
                  obtain ⟨hq, hm⟩ := hm
                  refine op1 (index (e := 60) (k := .i64) T hS (by kernel_rfl) (by kernel_rfl) (by kernel_rfl) (by kernel_rfl) h139 (by kernel_rfl) (by kernel_rfl) hq.1 hq.2 ?_)
                  intro A140 a h141 hS
                  clear hq
                  refine op1 (loadA T hS (by kernel_rfl) (by kernel_rfl) (by kernel_rfl) h141 (by kernel_rfl) (by kernel_rfl) ?_)
                  intro v142 a hv hS
                  subst hv
                  refine endM T hS (sp := []) (ks := [4, 5, 6, 7, 8, 9]) (bs := [10]) (sy' := ⟨[(4, I r108.2.1), (5, I r108.2.2), (6, V (.slice a120 r119.length c121)), (7, I i_124), (8, I k_127), (9, Pt 10 0)], [(10, (60, [I ((gi (gi r119 i_124) k_127).Line), I ((gi (gi r119 i_124) k_127).At), V (.string (bs ((gi (gi r119 i_124) k_127).Text)))]))]⟩) (by kernel_rfl) ?_
                  intro ρ a w147 χ148 hS hE hr
                  replace hO := hO.mv hE rfl rfl
                  replace h126 := h126.mv hE rfl
                  replace hAmb := hAmb.mv hE rfl
                  clear hE hr
                  refine regP T hS (sp := [63, 67, 76]) (ks := [4, 5, 6, 7, 8, 80]) (bs := []) (sy' := ⟨[(4, I r108.2.1), (5, I r108.2.2), (6, V (.slice a120 r119.length c121)), (7, I i_124), (8, I k_127), (80, B (((((gi (gi r119 i_124) k_127).At) == r108.2.1) && (r108.2.2 != 4)) || (((IntKind.i64.wrap (((gi (gi r119 i_124) k_127).At) + ((((gi (gi r119 i_124) k_127).Text).length : Nat) : Int))) == r108.2.1) && (r108.2.2 == 4))))], []⟩) (by kernel_rfl) ?_
                  intro a hS
                  refine wcond hS (b := (((((gi (gi r119 i_124) k_127).At) == r108.2.1) && (r108.2.2 != 4)) || (((IntKind.i64.wrap (((gi (gi r119 i_124) k_127).At) + ((((gi (gi r119 i_124) k_127).Text).length : Nat) : Int))) == r108.2.1) && (r108.2.2 == 4)))) (by kernel_rfl) (fun hb => ?_) (fun hb => ?_)
                  · replace hm := hm.1 hb
                    refine regO ?_
                    refine op1 (call hS (by kernel_rfl) (by kernel_rfl) hb7 (by kernel_rfl) (fun _ _ => rfl) (k7 _ _ hAmb) ?_)
                    intro v143 a w144 χ145 hE hp hS
                    replace hO := hO.mv hE rfl rfl
                    replace h126 := h126.mv hE rfl
                    replace hAmb := hAmb.mv hE rfl
                    clear hE
                    obtain ⟨r146, hr⟩ : ∃ r, law24_awake = r := ⟨_, rfl⟩
                    replace hm := hm r146 hr
                    rw [hr] at hp
                    clear hr
                    subst hp
                    refine endP T hS (sp := []) (ks := [2]) (bs := []) (sy' := ⟨[(2, B r146)], []⟩) (by kernel_rfl) ?_
                    intro a hS
                    refine wret ?_
                    exact fin T hS hO (fun c => c) rfl (r := [.bool r146]) (by kernel_rfl) (fun χ' hM hC => ⟨r146, hm, rfl⟩)
                  · replace hm := hm.2 hb
                    refine wskip ?_
                    refine region (endP T hS (sp := []) (ks := [4, 5, 6, 7, 8]) (bs := []) (sy' := ⟨[(4, I r108.2.1), (5, I r108.2.2), (6, V (.slice a120 r119.length c121)), (7, I i_124), (8, I (IntKind.i64.wrap (k_127 + 1)))], []⟩) (by kernel_rfl) ?_)
                    intro a hS
                    exact ⟨IntKind.i64.wrap (k_127 + 1), ⟨ρ, _, hm.1, hS.sel [4, 5, 6, 7, 8] [] (by kernel_rfl), hO, h126, hAmb⟩, hm.2⟩
                · replace hm := hm.2 hb
                  refine wexit (by rfl) ?_
                  exact ⟨ρ, _, hm, hS.sel [4, 5, 6, 7] [] (by kernel_rfl), hO, h126, hAmb⟩
            · rintro a w152 ⟨ρ, χ151, hm, hS, hO, h125, hAmb⟩
              unfold VC5_J2 at hm
              refine region (endP T hS (sp := []) (ks := [4, 5, 6, 7]) (bs := []) (sy' := ⟨[(4, I r108.2.1), (5, I r108.2.2), (6, V (.slice a120 r119.length c121)), (7, I (IntKind.i64.wrap (i_124 + 1)))], []⟩) (by kernel_rfl) ?_)
              intro a hS
              exact ⟨IntKind.i64.wrap (i_124 + 1), ⟨ρ, _, hm.1, hS.sel [4, 5, 6, 7] [] (by kernel_rfl), hO, h125, hAmb⟩, hm.2⟩
          · replace hm := hm.2 hb
            refine wexit (by rfl) ?_
            exact ⟨ρ, _, hm, hS.sel [] [] (by kernel_rfl), hO, hAmb⟩
      · rintro a w156 ⟨ρ, χ155, hm, hS, hO, hAmb⟩
        unfold VC5_J1 at hm
        refine regP T hS (sp := []) (ks := [2]) (bs := []) (sy' := ⟨[(2, B false)], []⟩) (by kernel_rfl) ?_
        intro a hS
        refine wret ?_
        exact fin T hS hO (fun c => c) rfl (r := [.bool false]) (by kernel_rfl) (fun χ' hM hC => ⟨false, hm, rfl⟩)
/-- replevin/replevinlaw24.ObjtextBack -/
theorem W6 (k10 : S10) (k18 : S18) (k19 : S19) (k24 : S24) (k25 : S25) (k7 : S7) (k8 : S8) (w0 : World) (χ0 : Nat → Nat) (o_ : Api_Object) (s_ : List UInt8) (a1 : Option Addr) (c1 : Nat) (Q : Bool → Prop) (hm : VC6 o_ s_ Q) (h1 : RS tApi_Row w0 χ0 a1 o_.Rows c1) (hAmb : Amb w0 χ0) :
    Ret Tryd.prog 6 #[.agg #[.int .i64 o_.States, .int .i64 o_.Kinds, .int .i64 o_.Init, .slice a1 o_.Rows.length c1], .string (bs s_)] xnone w0 χ0 (fun w χ' v => ∃ r, Q r ∧ v = .bool r) := by
  unfold VC6 at hm
  replace hm := hm (h1.sm (by kernel_rfl))
  refine enter Tryd.func6 rfl (vals := [.agg #[.int .i64 o_.States, .int .i64 o_.Kinds, .int .i64 o_.Init, .slice a1 o_.Rows.length c1], .string (bs s_)]) (by kernel_rfl) ?_
  intro ρ a hS hO hM
  replace h1 := h1.m0 hM
  replace hAmb := hAmb.m0 hM
  clear hM
  refine regM T hS (sp := []) (ks := [1, 2]) (bs := [3]) (sy' := ⟨[(1, V (.string (bs s_))), (2, Pt 3 0)], [(3, (25, [I o_.States, I o_.Kinds, I o_.Init, V (.slice a1 o_.Rows.length c1)]))]⟩) (by kernel_rfl) ?_
  intro ρ a w170 χ171 hS hE hr
  replace hO := hO.mv hE rfl rfl
  replace h1 := h1.mv hE rfl
  replace hAmb := hAmb.mv hE rfl
  clear hE hr
  refine wseq ?_
  refine regO ?_
  refine opsP T hS 1 (sp := []) (ks := [1, 2, 20]) (bs := [3]) (sy' := ⟨[(1, V (.string (bs s_))), (2, Pt 3 0), (20, V (.agg #[.int .i64 o_.States, .int .i64 o_.Kinds, .int .i64 o_.Init, .slice a1 o_.Rows.length c1]))], [(3, (25, [I o_.States, I o_.Kinds, I o_.Init, V (.slice a1 o_.Rows.length c1)]))]⟩) (by kernel_rfl) ?_
  intro a hS
  refine op1 (call hS (by kernel_rfl) (by kernel_rfl) hb18 (by kernel_rfl) (fun _ _ => rfl) (k18 _ _ o_ a1 c1 h1) ?_)
  intro v101 a w102 χ103 hE hp hS
  replace hO := hO.mv hE rfl rfl
  replace h1 := h1.mv hE rfl
  replace hAmb := hAmb.mv hE rfl
  clear hE
  obtain ⟨r104, hr⟩ : ∃ r, law23_Few o_ = r := ⟨_, rfl⟩
  replace hm := hm r104 hr
  rw [hr] at hp
  clear hr
  subst hp
  refine endP T hS (sp := [23]) (ks := [1, 2, 27]) (bs := [3]) (sy' := ⟨[(1, V (.string (bs s_))), (2, Pt 3 0), (27, B ((!r104) || (decide (((s_.length : Nat) : Int) > 3000))))], [(3, (25, [I o_.States, I o_.Kinds, I o_.Init, V (.slice a1 o_.Rows.length c1)]))]⟩) (by kernel_rfl) ?_
  intro a hS
  refine wcond hS (b := ((!r104) || (decide (((s_.length : Nat) : Int) > 3000)))) (by kernel_rfl) (fun hb => ?_) (fun hb => ?_)
  · replace hm := hm.1 hb
    refine regO ?_
    refine op1 (call hS (by kernel_rfl) (by kernel_rfl) hb7 (by kernel_rfl) (fun _ _ => rfl) (k7 _ _ hAmb) ?_)
    intro v105 a w106 χ107 hE hp hS
    replace hO := hO.mv hE rfl rfl
    replace h1 := h1.mv hE rfl
    replace hAmb := hAmb.mv hE rfl
    clear hE
    obtain ⟨r108, hr⟩ : ∃ r, law24_awake = r := ⟨_, rfl⟩
    replace hm := hm r108 hr
    rw [hr] at hp
    clear hr
    subst hp
    refine endP T hS (sp := []) (ks := [4]) (bs := []) (sy' := ⟨[(4, B r108)], []⟩) (by kernel_rfl) ?_
    intro a hS
    refine wret ?_
    exact fin T hS hO (fun c => c) rfl (r := [.bool r108]) (by kernel_rfl) (fun χ' hM hC => ⟨r108, hm, rfl⟩)
  · replace hm := hm.2 hb
    refine wskip ?_
    refine regO ?_
    refine opsP T hS 1 (sp := []) (ks := [1, 2, 30]) (bs := [3]) (sy' := ⟨[(1, V (.string (bs s_))), (2, Pt 3 0), (30, V (.agg #[.int .i64 o_.States, .int .i64 o_.Kinds, .int .i64 o_.Init, .slice a1 o_.Rows.length c1]))], [(3, (25, [I o_.States, I o_.Kinds, I o_.Init, V (.slice a1 o_.Rows.length c1)]))]⟩) (by kernel_rfl) ?_
    intro a hS
    obtain ⟨hq, hm⟩ := hm
    refine op1 (call hS (by kernel_rfl) (by kernel_rfl) hb19 (by kernel_rfl) (fun _ _ => rfl) (k19 _ _ o_ a1 c1 hq h1 hAmb) ?_)
    intro v109 a w110 χ111 hE hp hS
    clear hq
    replace hO := hO.mv hE rfl rfl
    replace h1 := h1.mv hE rfl
    replace hAmb := hAmb.mv hE rfl
    clear hE
    obtain ⟨r112, hr⟩ : ∃ r, objtext_Print o_ = r := ⟨_, rfl⟩
    replace hm := hm r112 hr
    rw [hr] at hp
    clear hr
    subst hp
    refine endP T hS (sp := []) (ks := [1, 2, 5, 6]) (bs := [3]) (sy' := ⟨[(1, V (.string (bs s_))), (2, Pt 3 0), (5, V (.string (bs r112.1))), (6, I r112.2)], [(3, (25, [I o_.States, I o_.Kinds, I o_.Init, V (.slice a1 o_.Rows.length c1)]))]⟩) (by kernel_rfl) ?_
    intro a hS
    refine wseq ?_
    refine regO ?_
    refine opsP T hS 1 (sp := []) (ks := [1, 2, 5, 6, 35]) (bs := [3]) (sy' := ⟨[(1, V (.string (bs s_))), (2, Pt 3 0), (5, V (.string (bs r112.1))), (6, I r112.2), (35, V (.agg #[.int .i64 o_.States, .int .i64 o_.Kinds, .int .i64 o_.Init, .slice a1 o_.Rows.length c1]))], [(3, (25, [I o_.States, I o_.Kinds, I o_.Init, V (.slice a1 o_.Rows.length c1)]))]⟩) (by kernel_rfl) ?_
    intro a hS
    obtain ⟨hq, hm⟩ := hm
    refine op1 (call hS (by kernel_rfl) (by kernel_rfl) hb24 (by kernel_rfl) (fun _ _ => rfl) (k24 _ _ o_ a1 c1 hq h1) ?_)
    intro v113 a w114 χ115 hE hp hS
    clear hq
    replace hO := hO.mv hE rfl rfl
    replace h1 := h1.mv hE rfl
    replace hAmb := hAmb.mv hE rfl
    clear hE
    obtain ⟨r116, hr⟩ : ∃ r, object_Check o_ = r := ⟨_, rfl⟩
    replace hm := hm r116 hr
    rw [hr] at hp
    clear hr
    subst hp
    refine endP T hS (sp := []) (ks := [1, 2, 5, 6, 8]) (bs := [3]) (sy' := ⟨[(1, V (.string (bs s_))), (2, Pt 3 0), (5, V (.string (bs r112.1))), (6, I r112.2), (8, I r116.2)], [(3, (25, [I o_.States, I o_.Kinds, I o_.Init, V (.slice a1 o_.Rows.length c1)]))]⟩) (by kernel_rfl) ?_
    intro a hS
    refine regP T hS (sp := []) (ks := [1, 2, 5, 6, 41]) (bs := [3]) (sy' := ⟨[(1, V (.string (bs s_))), (2, Pt 3 0), (5, V (.string (bs r112.1))), (6, I r112.2), (41, B (r116.2 != r112.2))], [(3, (25, [I o_.States, I o_.Kinds, I o_.Init, V (.slice a1 o_.Rows.length c1)]))]⟩) (by kernel_rfl) ?_
    intro a hS
    refine wcond hS (b := (r116.2 != r112.2)) (by kernel_rfl) (fun hb => ?_) (fun hb => ?_)
    · replace hm := hm.1 hb
      refine regP T hS (sp := []) (ks := [4]) (bs := []) (sy' := ⟨[(4, B false)], []⟩) (by kernel_rfl) ?_
      intro a hS
      refine wret ?_
      exact fin T hS hO (fun c => c) rfl (r := [.bool false]) (by kernel_rfl) (fun χ' hM hC => ⟨false, hm, rfl⟩)
    · replace hm := hm.2 hb
      refine wskip ?_
      refine wcut (fun a w => ∃ (ρ : Nat → Nat) (χ : Nat → Nat), VC6_J1 s_ Q ∧ St Tryd.f6.ntmps ⟨[(1, V (.string (bs s_)))], []⟩ ρ a w χ ∧ Old w0 χ0 w χ ∧ Amb w χ) ?_ ?_
      · refine regP T hS (sp := []) (ks := [1, 2, 5, 43]) (bs := [3]) (sy' := ⟨[(1, V (.string (bs s_))), (2, Pt 3 0), (5, V (.string (bs r112.1))), (43, B (r112.2 == 0))], [(3, (25, [I o_.States, I o_.Kinds, I o_.Init, V (.slice a1 o_.Rows.length c1)]))]⟩) (by kernel_rfl) ?_
        intro a hS
        refine wcond hS (b := (r112.2 == 0)) (by kernel_rfl) (fun hb => ?_) (fun hb => ?_)
        · replace hm := hm.1 hb
          refine regO ?_
          refine opsP T hS 1 (sp := []) (ks := [1, 2, 5, 45]) (bs := [3]) (sy' := ⟨[(1, V (.string (bs s_))), (2, Pt 3 0), (5, V (.string (bs r112.1))), (45, V (.string (bs r112.1)))], [(3, (25, [I o_.States, I o_.Kinds, I o_.Init, V (.slice a1 o_.Rows.length c1)]))]⟩) (by kernel_rfl) ?_
          intro a hS
          refine op1 (call hS (by kernel_rfl) (by kernel_rfl) hb8 (by kernel_rfl) (fun _ _ => rfl) (k8 _ _ r112.1) ?_)
          intro v155 a w156 χ157 hE hp hS
          replace hO := hO.mv hE rfl rfl
          replace h1 := h1.mv hE rfl
          replace hAmb := hAmb.mv hE rfl
          clear hE
          obtain ⟨a159, c160, hp, h161⟩ := hp
          obtain ⟨r158, hr⟩ : ∃ r, objtext_Parse r112.1 = r := ⟨_, rfl⟩
          replace hm := hm r158 hr
          rw [hr] at hp h161
          clear hr
          subst hp
          replace hm := hm (h161.sm (by kernel_rfl))
          refine endM T hS (sp := []) (ks := [1, 2, 5, 9, 10, 11]) (bs := [3, 10]) (sy' := ⟨[(1, V (.string (bs s_))), (2, Pt 3 0), (5, V (.string (bs r112.1))), (9, Pt 10 0), (10, I r158.2.1), (11, I r158.2.2)], [(3, (25, [I o_.States, I o_.Kinds, I o_.Init, V (.slice a1 o_.Rows.length c1)])), (10, (25, [I r158.1.States, I r158.1.Kinds, I r158.1.Init, V (.slice a159 r158.1.Rows.length c160)]))]⟩) (by kernel_rfl) ?_
          intro ρ a w166 χ167 hS hE hr
          replace hO := hO.mv hE rfl rfl
          replace h1 := h1.mv hE rfl
          replace hAmb := hAmb.mv hE rfl
          replace h161 := h161.mv hE rfl
          clear hE hr
          refine regO ?_
          refine opsP T hS 2 (sp := []) (ks := [1, 5, 10, 11, 50, 51]) (bs := []) (sy' := ⟨[(1, V (.string (bs s_))), (5, V (.string (bs r112.1))), (10, I r158.2.1), (11, I r158.2.2), (50, V (.agg #[.int .i64 o_.States, .int .i64 o_.Kinds, .int .i64 o_.Init, .slice a1 o_.Rows.length c1])), (51, V (.agg #[.int .i64 r158.1.States, .int .i64 r158.1.Kinds, .int .i64 r158.1.Init, .slice a159 r158.1.Rows.length c160]))], []⟩) (by kernel_rfl) ?_
          intro a hS
          refine op1 (call hS (by kernel_rfl) (by kernel_rfl) hb25 (by kernel_rfl) (fun _ _ => rfl) (k25 _ _ o_ r158.1 a1 c1 a159 c160 h1 h161) ?_)
          intro v162 a w163 χ164 hE hp hS
          replace hO := hO.mv hE rfl rfl
          replace h1 := h1.mv hE rfl
          replace hAmb := hAmb.mv hE rfl
          replace h161 := h161.mv hE rfl
          clear hE
          obtain ⟨r165, hr⟩ : ∃ r, object_Same o_ r158.1 = r := ⟨_, rfl⟩
          replace hm := hm r165 hr
          rw [hr] at hp
          clear hr
          subst hp
          refine endP T hS (sp := [54, 60]) (ks := [1, 63]) (bs := []) (sy' := ⟨[(1, V (.string (bs s_))), (63, B (((!r165) || (r158.2.1 != ((r112.1.length : Nat) : Int))) || (r158.2.2 != 0)))], []⟩) (by kernel_rfl) ?_
          intro a hS
          refine wcond hS (b := (((!r165) || (r158.2.1 != ((r112.1.length : Nat) : Int))) || (r158.2.2 != 0))) (by kernel_rfl) (fun hb => ?_) (fun hb => ?_)
          · replace hm := hm.1 hb
            refine regP T hS (sp := []) (ks := [4]) (bs := []) (sy' := ⟨[(4, B false)], []⟩) (by kernel_rfl) ?_
            intro a hS
            refine wret ?_
            exact fin T hS hO (fun c => c) rfl (r := [.bool false]) (by kernel_rfl) (fun χ' hM hC => ⟨false, hm, rfl⟩)
          · replace hm := hm.2 hb
            refine wskip ?_
            exact ⟨ρ, _, hm, hS.sel [1] [] (by kernel_rfl), hO, hAmb⟩
        · replace hm := hm.2 hb
          refine wskip ?_
          exact ⟨ρ, _, hm, hS.sel [1] [] (by kernel_rfl), hO, hAmb⟩
      · rintro a w169 ⟨ρ, χ168, hm, hS, hO, hAmb⟩
        unfold VC6_J1 at hm
        refine regO ?_
        refine opsP T hS 1 (sp := []) (ks := [65]) (bs := []) (sy' := ⟨[(65, V (.string (bs s_)))], []⟩) (by kernel_rfl) ?_
        intro a hS
        refine op1 (call hS (by kernel_rfl) (by kernel_rfl) hb8 (by kernel_rfl) (fun _ _ => rfl) (k8 _ _ s_) ?_)
        intro v117 a w118 χ119 hE hp hS
        replace hO := hO.mv hE rfl rfl
        replace hAmb := hAmb.mv hE rfl
        clear hE
        obtain ⟨a121, c122, hp, h123⟩ := hp
        obtain ⟨r120, hr⟩ : ∃ r, objtext_Parse s_ = r := ⟨_, rfl⟩
        replace hm := hm r120 hr
        rw [hr] at hp h123
        clear hr
        subst hp
        replace hm := hm (h123.sm (by kernel_rfl))
        refine endM T hS (sp := []) (ks := [12, 14]) (bs := [13]) (sy' := ⟨[(12, Pt 13 0), (14, I r120.2.2)], [(13, (25, [I r120.1.States, I r120.1.Kinds, I r120.1.Init, V (.slice a121 r120.1.Rows.length c122)]))]⟩) (by kernel_rfl) ?_
        intro ρ a w153 χ154 hS hE hr
        replace hO := hO.mv hE rfl rfl
        replace hAmb := hAmb.mv hE rfl
        replace h123 := h123.mv hE rfl
        clear hE hr
        refine wseq ?_
        refine regP T hS (sp := []) (ks := [12, 71]) (bs := [13]) (sy' := ⟨[(12, Pt 13 0), (71, B (r120.2.2 != 0))], [(13, (25, [I r120.1.States, I r120.1.Kinds, I r120.1.Init, V (.slice a121 r120.1.Rows.length c122)]))]⟩) (by kernel_rfl) ?_
        intro a hS
        refine wcond hS (b := (r120.2.2 != 0)) (by kernel_rfl) (fun hb => ?_) (fun hb => ?_)
        · replace hm := hm.1 hb
          refine regO ?_
          refine opsP T hS 2 (sp := []) (ks := [72, 73]) (bs := []) (sy' := ⟨[(72, V (.agg #[.int .i64 r120.1.States, .int .i64 r120.1.Kinds, .int .i64 r120.1.Init, .slice a121 r120.1.Rows.length c122])), (73, V (.agg #[.int .i64 0, .int .i64 0, .int .i64 0, .slice none 0 0]))], []⟩) (by kernel_rfl) ?_
          intro a hS
          refine op1 (call hS (by kernel_rfl) (by kernel_rfl) hb10 (by kernel_rfl) (fun _ _ => rfl) (k10 _ _ r120.1 (⟨0, 0, 0, []⟩ : Api_Object) a121 c122 none 0 h123 (RS.empty _ _ _)) ?_)
          intro v124 a w125 χ126 hE hp hS
          replace hO := hO.mv hE rfl rfl
          replace hAmb := hAmb.mv hE rfl
          replace h123 := h123.mv hE rfl
          clear hE
          obtain ⟨r127, hr⟩ : ∃ r, ref23_Same r120.1 (⟨0, 0, 0, []⟩ : Api_Object) = r := ⟨_, rfl⟩
          replace hm := hm r127 hr
          rw [hr] at hp
          clear hr
          subst hp
          refine opsP T hS 1 (sp := []) (ks := [75]) (bs := []) (sy' := ⟨[(75, B r127)], []⟩) (by kernel_rfl) ?_
          intro a hS
          rcases Bool.eq_false_or_eq_true r127 with hb | hb
          · replace hS := hS.lit (t := 75) (by kernel_rfl) hb
            replace hm := hm.1 hb
            refine op1 (call hS (by kernel_rfl) (by kernel_rfl) hb7 (by kernel_rfl) (fun _ _ => rfl) (k7 _ _ hAmb) ?_)
            intro v128 a w129 χ130 hE hp hS
            replace hO := hO.mv hE rfl rfl
            replace hAmb := hAmb.mv hE rfl
            clear hE
            obtain ⟨r131, hr⟩ : ∃ r, law24_awake = r := ⟨_, rfl⟩
            replace hm := hm r131 hr
            rw [hr] at hp
            clear hr
            subst hp
            refine endP T hS (sp := []) (ks := [4]) (bs := []) (sy' := ⟨[(4, B r131)], []⟩) (by kernel_rfl) ?_
            intro a hS
            refine wret ?_
            exact fin T hS hO (fun c => c) rfl (r := [.bool r131]) (by kernel_rfl) (fun χ' hM hC => ⟨r131, hm, rfl⟩)
          · replace hS := hS.lit (t := 75) (by kernel_rfl) hb
            replace hm := hm.2 hb
            refine endP T hS (sp := []) (ks := [4]) (bs := []) (sy' := ⟨[(4, B false)], []⟩) (by kernel_rfl) ?_
            intro a hS
            refine wret ?_
            exact fin T hS hO (fun c => c) rfl (r := [.bool false]) (by kernel_rfl) (fun χ' hM hC => ⟨false, hm, rfl⟩)
        · replace hm := hm.2 hb
          refine wskip ?_
          refine regO ?_
          refine opsP T hS 1 (sp := []) (ks := [12, 79]) (bs := [13]) (sy' := ⟨[(12, Pt 13 0), (79, V (.agg #[.int .i64 r120.1.States, .int .i64 r120.1.Kinds, .int .i64 r120.1.Init, .slice a121 r120.1.Rows.length c122]))], [(13, (25, [I r120.1.States, I r120.1.Kinds, I r120.1.Init, V (.slice a121 r120.1.Rows.length c122)]))]⟩) (by kernel_rfl) ?_
          intro a hS
          obtain ⟨hq, hm⟩ := hm
          refine op1 (call hS (by kernel_rfl) (by kernel_rfl) hb19 (by kernel_rfl) (fun _ _ => rfl) (k19 _ _ r120.1 a121 c122 hq h123 hAmb) ?_)
          intro v132 a w133 χ134 hE hp hS
          clear hq
          replace hO := hO.mv hE rfl rfl
          replace hAmb := hAmb.mv hE rfl
          replace h123 := h123.mv hE rfl
          clear hE
          obtain ⟨r135, hr⟩ : ∃ r, objtext_Print r120.1 = r := ⟨_, rfl⟩
          replace hm := hm r135 hr
          rw [hr] at hp
          clear hr
          subst hp
          refine endP T hS (sp := []) (ks := [12, 15, 16]) (bs := [13]) (sy' := ⟨[(12, Pt 13 0), (15, V (.string (bs r135.1))), (16, I r135.2)], [(13, (25, [I r120.1.States, I r120.1.Kinds, I r120.1.Init, V (.slice a121 r120.1.Rows.length c122)]))]⟩) (by kernel_rfl) ?_
          intro a hS
          refine regO ?_
          refine opsP T hS 1 (sp := []) (ks := [12, 16, 84]) (bs := [13]) (sy' := ⟨[(12, Pt 13 0), (16, I r135.2), (84, V (.string (bs r135.1)))], [(13, (25, [I r120.1.States, I r120.1.Kinds, I r120.1.Init, V (.slice a121 r120.1.Rows.length c122)]))]⟩) (by kernel_rfl) ?_
          intro a hS
          refine op1 (call hS (by kernel_rfl) (by kernel_rfl) hb8 (by kernel_rfl) (fun _ _ => rfl) (k8 _ _ r135.1) ?_)
          intro v136 a w137 χ138 hE hp hS
          replace hO := hO.mv hE rfl rfl
          replace hAmb := hAmb.mv hE rfl
          replace h123 := h123.mv hE rfl
          clear hE
          obtain ⟨a140, c141, hp, h142⟩ := hp
          obtain ⟨r139, hr⟩ : ∃ r, objtext_Parse r135.1 = r := ⟨_, rfl⟩
          replace hm := hm r139 hr
          rw [hr] at hp h142
          clear hr
          subst hp
          replace hm := hm (h142.sm (by kernel_rfl))
          refine endM T hS (sp := []) (ks := [12, 16, 17, 19]) (bs := [13, 18]) (sy' := ⟨[(12, Pt 13 0), (16, I r135.2), (17, Pt 18 0), (19, I r139.2.2)], [(13, (25, [I r120.1.States, I r120.1.Kinds, I r120.1.Init, V (.slice a121 r120.1.Rows.length c122)])), (18, (25, [I r139.1.States, I r139.1.Kinds, I r139.1.Init, V (.slice a140 r139.1.Rows.length c141)]))]⟩) (by kernel_rfl) ?_
          intro ρ a w151 χ152 hS hE hr
          replace hO := hO.mv hE rfl rfl
          replace hAmb := hAmb.mv hE rfl
          replace h123 := h123.mv hE rfl
          replace h142 := h142.mv hE rfl
          clear hE hr
          refine regO ?_
          refine opsP T hS 7 (sp := [91]) (ks := [12, 17, 95]) (bs := [13, 18]) (sy' := ⟨[(12, Pt 13 0), (17, Pt 18 0), (95, B ((r135.2 == 0) && (r139.2.2 == 0)))], [(13, (25, [I r120.1.States, I r120.1.Kinds, I r120.1.Init, V (.slice a121 r120.1.Rows.length c122)])), (18, (25, [I r139.1.States, I r139.1.Kinds, I r139.1.Init, V (.slice a140 r139.1.Rows.length c141)]))]⟩) (by kernel_rfl) ?_
          intro a hS
          rcases Bool.eq_false_or_eq_true ((r135.2 == 0) && (r139.2.2 == 0)) with hb | hb
          · replace hS := hS.lit (t := 95) (by kernel_rfl) hb
            replace hm := hm.1 hb
            refine opsP T hS 2 (sp := []) (ks := [95, 96, 97]) (bs := []) (sy' := ⟨[(95, B true), (96, V (.agg #[.int .i64 r139.1.States, .int .i64 r139.1.Kinds, .int .i64 r139.1.Init, .slice a140 r139.1.Rows.length c141])), (97, V (.agg #[.int .i64 r120.1.States, .int .i64 r120.1.Kinds, .int .i64 r120.1.Init, .slice a121 r120.1.Rows.length c122]))], []⟩) (by kernel_rfl) ?_
            intro a hS
            refine op1 (call hS (by kernel_rfl) (by kernel_rfl) hb25 (by kernel_rfl) (fun _ _ => rfl) (k25 _ _ r139.1 r120.1 a140 c141 a121 c122 h142 h123) ?_)
            intro v143 a w144 χ145 hE hp hS
            replace hO := hO.mv hE rfl rfl
            replace hAmb := hAmb.mv hE rfl
            replace h123 := h123.mv hE rfl
            replace h142 := h142.mv hE rfl
            clear hE
            obtain ⟨r146, hr⟩ : ∃ r, object_Same r139.1 r120.1 = r := ⟨_, rfl⟩
            replace hm := hm r146 hr
            rw [hr] at hp
            clear hr
            subst hp
            refine opsP T hS 2 (sp := []) (ks := [100]) (bs := []) (sy' := ⟨[(100, B r146)], []⟩) (by kernel_rfl) ?_
            intro a hS
            rcases Bool.eq_false_or_eq_true r146 with hb | hb
            · replace hS := hS.lit (t := 100) (by kernel_rfl) hb
              replace hm := hm.1 hb
              refine op1 (call hS (by kernel_rfl) (by kernel_rfl) hb7 (by kernel_rfl) (fun _ _ => rfl) (k7 _ _ hAmb) ?_)
              intro v147 a w148 χ149 hE hp hS
              replace hO := hO.mv hE rfl rfl
              replace hAmb := hAmb.mv hE rfl
              clear hE
              obtain ⟨r150, hr⟩ : ∃ r, law24_awake = r := ⟨_, rfl⟩
              replace hm := hm r150 hr
              rw [hr] at hp
              clear hr
              subst hp
              refine endP T hS (sp := []) (ks := [4]) (bs := []) (sy' := ⟨[(4, B r150)], []⟩) (by kernel_rfl) ?_
              intro a hS
              refine wret ?_
              exact fin T hS hO (fun c => c) rfl (r := [.bool r150]) (by kernel_rfl) (fun χ' hM hC => ⟨r150, hm, rfl⟩)
            · replace hS := hS.lit (t := 100) (by kernel_rfl) hb
              replace hm := hm.2 hb
              refine endP T hS (sp := []) (ks := [4]) (bs := []) (sy' := ⟨[(4, B false)], []⟩) (by kernel_rfl) ?_
              intro a hS
              refine wret ?_
              exact fin T hS hO (fun c => c) rfl (r := [.bool false]) (by kernel_rfl) (fun χ' hM hC => ⟨false, hm, rfl⟩)
          · replace hS := hS.lit (t := 95) (by kernel_rfl) hb
            replace hm := hm.2 hb
            refine endP T hS (sp := []) (ks := [4]) (bs := []) (sy' := ⟨[(4, B false)], []⟩) (by kernel_rfl) ?_
            intro a hS
            refine wret ?_
            exact fin T hS hO (fun c => c) rfl (r := [.bool false]) (by kernel_rfl) (fun χ' hM hC => ⟨false, hm, rfl⟩)
end Go.Proofs.YtmedefjboagkmaaDoor
