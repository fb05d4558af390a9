/- Walks: each function returns what its condition asks. Condition: the contracts of its callees, handed in. -/
import Derived.Test.YtkgcdoeldilhaaaGreatDoorNWalksS
set_option linter.all false
namespace Go.Proofs.YtkgcdoeldilhaaaGreatDoor
open Go Go.Sv
set_option maxHeartbeats 1000000
theorem W25 (k52 : S52) (w0 : World) (χ0 : Nat → Nat) (l_ : List Ref05_Token) (word : List UInt8) (lo : List Int) (hi : List Int) (end_ : Int) (a1 : Option Addr) (c1 : Nat) (a2 : Option Addr) (c2 : Nat) (a3 : Option Addr) (c3 : Nat) (Q : (List Int) × Int × Int → Prop) (hm : VC25 l_ word lo hi end_ Q) (h1 : RS tRef05_Token w0 χ0 a1 l_ c1) (h2 : RS tI w0 χ0 a2 lo c2) (h3 : RS tI w0 χ0 a3 hi c3) :
  Ret Tryz.prog 25 #[.slice a1 l_.length c1, .string (bs word), .slice a2 lo.length c2, .slice a3 hi.length c3, .int .i64 end_] xnone w0 χ0 (fun w χ' v => ∃ r, Q r ∧ ∃ (ra1 : Option Addr) (rc1 : Nat), v = .tuple #[.slice ra1 r.1.length rc1, .int .i64 r.2.1, .int .i64 r.2.2] ∧ RS tI w χ' ra1 r.1 rc1) := by
 unfold VC25 at hm
 replace hm := hm (h1.sm kr)
 replace hm := hm (h2.sm kr)
 replace hm := hm (h3.sm kr)
 refine enter Tryz.func25 rfl (vals := [.slice a1 l_.length c1, .string (bs word), .slice a2 lo.length c2, .slice a3 hi.length c3, .int .i64 end_]) kr ?_
 intro ρ a hS hO hM
 replace h1 := h1.m0 hM
 replace h2 := h2.m0 hM
 replace h3 := h3.m0 hM
 clear hM
 refine rP T hS ⟨[(0, Sl a1 l_ c1), (1, Z word), (2, Sl a2 lo c2), (3, Sl a3 hi c3), (4, I end_)], []⟩ fun a hS => ?_
 refine wseq (rP T hS ⟨[(0, Sl a1 l_ c1), (1, Z word), (2, Sl a2 lo c2), (3, Sl a3 hi c3), (4, I end_), (19, B ((lN l_) == 0))], []⟩ fun a hS => ?_)
 refine wcond hS (b := ((lN l_) == 0)) kr (fun hb => ?_) (fun hb => ?_)
 ·replace hm := hm.1 hb
  refine rP T hS ⟨[(10, V (.slice none 0 0)), (11, I end_), (12, I 4)], []⟩ fun a hS => ?_
  refine wret ?_
  exact fin T hS hO (fun c => c) rfl (r := [.slice none 0 0, .int .i64 end_, .int .i64 4]) kr (fun χ' hM hC => ⟨([], end_, 4), hm, none, 0, rfl, RS.empty _ _ _⟩)
 replace hm := hm.2 hb
 refine wskip (wseq ?_)
 refine regO ?_
 refine oP T hS 1 ⟨[(0, Sl a1 l_ c1), (1, Z word), (2, Sl a2 lo c2), (3, Sl a3 hi c3), (4, I end_), (21, Sl a1 l_ c1)], []⟩ fun a hS => ?_
 obtain ⟨hq, hm⟩ := hm
 refine op1 (index (e := 64) (k := .i64) T hS kr kr kr kr h1 kr kr hq.1 hq.2 ?_)
 intro A101 a h102 hS
 refine op1 (fieldA (off := 2) (fsz := 1) (ft := 9) (TF := tStr) (y := (gi l_ 0).Text) T hS kr kr kr h102 kr kr kr (fun cs h => Ref05_Token_f2 h) ?_)
 intro A103 a h104 hS
 refine op1 (load1 T hS kr kr kr h104 rfl kr ?_)
 intro v105 a hv hS
 cases hv
 refine eP T hS ⟨[(0, Sl a1 l_ c1), (2, Sl a2 lo c2), (3, Sl a3 hi c3), (4, I end_), (26, B (!(((gi l_ 0).Text) == word)))], []⟩ fun a hS => ?_
 refine wcond hS (b := (!(((gi l_ 0).Text) == word))) kr (fun hb => ?_) (fun hb => ?_)
 ·replace hm := hm.1 hb
  refine drawnSX [] mixed hS ?_
  intro w106 χ107 hS hE hD hH
  replace hO := hO.mv hE rfl rfl
  replace h1 := h1.mv hE rfl
  refine tk T [0, 4] [] hS hH #[true, false, false, false, true, false, false] 5 ⟨[(10, V (.slice none 0 0)), (27, Sl a1 l_ c1)], []⟩ fun a hS => ?_
  obtain ⟨hq, hm⟩ := hm
  refine dindex (e := 64) (k := .i64) T 1 hS kr kr kr (by rfl) kr hH kr kr h1 kr kr hq.1 hq.2 ?_
  intro A108 a h109 hS
  have h109b := h109.here
  refine dfieldA (off := 1) (fsz := 1) (ft := 3) (TF := tI) (y := (gi l_ 0).At) 2 T hS kr kr kr (by rfl) kr hH kr h109 kr kr kr (fun cs h => Ref05_Token_f1 h) ?_
  intro A110 a h111 hbl hS
  have h111b := h109b
  rw [← hbl] at h111b
  clear hbl
  refine dload1 T 3 hS kr kr kr (by rfl) kr hH kr h111 h111b rfl kr ?_
  intro v112 a hv hS
  cases hv
  refine tk T [5, 6] [] hS hH #[true, true, true, true, true, true, true] 0 ⟨[(10, V (.slice none 0 0)), (11, I ((gi l_ 0).At)), (12, I 8)], []⟩ fun a hS => ?_
  refine drawnDone kr ?_
  clear hD hH
  replace hS := hS.sl ⟨[(10, V (.slice none 0 0)), (11, I ((gi l_ 0).At)), (12, I 8)], []⟩
  refine wret ?_
  exact fin T hS hO (fun c => c) rfl (r := [.slice none 0 0, .int .i64 ((gi l_ 0).At), .int .i64 8]) kr (fun χ' hM hC => ⟨([], (gi l_ 0).At, 8), hm, none, 0, rfl, RS.empty _ _ _⟩)
 replace hm := hm.2 hb
 refine wskip ?_
 refine rP T hS ⟨[(0, Sl a1 l_ c1), (2, Sl a2 lo c2), (3, Sl a3 hi c3), (4, I end_), (13, V (.slice none 0 0))], []⟩ fun a hS => ?_
 refine wcut (fun a w => ∃ (ρ : Nat → Nat) (χ : Nat → Nat) (out_114 : List Int) (a115 : Option Addr) (c116 : Nat), VC25_J1 l_ end_ Q out_114 ∧ St Tryz.f25.ntmps ⟨[(0, Sl a1 l_ c1), (4, I end_), (13, Sl a115 out_114 c116)], []⟩ ρ a w χ ∧ Old w0 χ0 w χ ∧ RS tRef05_Token w χ a1 l_ c1 ∧ OS tI 3 w χ 1011 a115 out_114 c116) ?_ ?_
 ·refine rP T hS ⟨[(0, Sl a1 l_ c1), (2, Sl a2 lo c2), (3, Sl a3 hi c3), (4, I end_), (13, V (.slice none 0 0)), (14, I 0)], []⟩ fun a hS => ?_
  refine wblock ?_
  obtain ⟨I1, μ1, hm0, hm⟩ := hm
  refine wloop (σ := (List Int) × Int) (fun s a w => ∃ (ρ : Nat → Nat) (χ : Nat → Nat) (a131 : Option Addr) (c132 : Nat), I1 s.1 s.2 ∧ St Tryz.f25.ntmps ⟨[(0, Sl a1 l_ c1), (2, Sl a2 lo c2), (3, Sl a3 hi c3), (4, I end_), (13, Sl a131 s.1 c132), (14, I s.2)], []⟩ ρ a w χ ∧ Old w0 χ0 w χ ∧ RS tRef05_Token w χ a1 l_ c1 ∧ RS tI w χ a2 lo c2 ∧ RS tI w χ a3 hi c3 ∧ OS tI 3 w χ 1011 a131 s.1 c132) (fun s => μ1 s.1 s.2) (⟨[], 0⟩) ?_ ?_
  ·exact ⟨ρ, _, none, 0, hm0, hS.sl _, hO, h1, h2, h3, (OS.nil _ _ _ _ _)⟩
  rintro ⟨out_130, i_134⟩ a w181 ⟨ρ, χ180, a131, c132, hI, hS, hO, h127, h128, h129, h133⟩
  replace hm := hm out_130 i_134 hI
  clear hI hm0
  refine wseq ?_
  refine rP T hS ⟨[(0, Sl a1 l_ c1), (2, Sl a2 lo c2), (3, Sl a3 hi c3), (4, I end_), (13, Sl a131 out_130 c132), (14, I i_134), (40, B ((decide (i_134 < (lN lo))) && (decide (i_134 < (lN hi)))))], []⟩ (sp := [35]) fun a hS => ?_
  refine wcond hS (b := ((decide (i_134 < (lN lo))) && (decide (i_134 < (lN hi))))) kr (fun hb => ?_) (fun hb => ?_)
  ·replace hm := hm.1 hb
   refine wskip (wseq ?_)
   refine wblock ?_
   refine wseq (rP T hS ⟨[(0, Sl a1 l_ c1), (2, Sl a2 lo c2), (3, Sl a3 hi c3), (4, I end_), (13, Sl a131 out_130 c132), (14, I i_134), (47, B ((wR (i_134 + 1)) == (lN l_)))], []⟩ fun a hS => ?_)
   refine wcond hS (b := ((wR (i_134 + 1)) == (lN l_))) kr (fun hb => ?_) (fun hb => ?_)
   ·replace hm := hm.1 hb
    refine drawnSX [] mixed hS ?_
    intro w135 χ136 hS hE hD hH
    replace hO := hO.mv hE rfl rfl
    replace h127 := h127.mv hE rfl
    refine tk T [0, 1, 5, 6, 12] [] hS hH #[true, true, false, false, false, true, true, false, false, false, false, false, true, false, false] 10 ⟨[(10, V (.slice none 0 0)), (48, Sl a1 l_ c1), (49, I i_134), (53, Sl a1 l_ c1), (54, I i_134)], []⟩ fun a hS => ?_
    obtain ⟨hq, hm⟩ := hm
    refine dindex (e := 64) (k := .i64) T 2 hS kr kr kr (by rfl) kr hH kr kr h127 kr kr hq.1 hq.2 ?_
    intro A137 a h138 hS
    have h138b := h138.here
    refine dfieldA (off := 1) (fsz := 1) (ft := 3) (TF := tI) (y := (gi l_ i_134).At) 3 T hS kr kr kr (by rfl) kr hH kr h138 kr kr kr (fun cs h => Ref05_Token_f1 h) ?_
    intro A139 a h140 hbl hS
    have h140b := h138b
    rw [← hbl] at h140b
    clear hbl
    refine dload1 T 4 hS kr kr kr (by rfl) kr hH kr h140 h140b rfl kr ?_
    intro v141 a hv hS
    cases hv
    obtain ⟨hq, hm⟩ := hm
    refine dindex (e := 64) (k := .i64) T 7 hS kr kr kr (by rfl) kr hH kr kr h127 kr kr hq.1 hq.2 ?_
    intro A142 a h143 hS
    have h143b := h143.here
    refine dfieldA (off := 2) (fsz := 1) (ft := 9) (TF := tStr) (y := (gi l_ i_134).Text) 8 T hS kr kr kr (by rfl) kr hH kr h143 kr kr kr (fun cs h => Ref05_Token_f2 h) ?_
    intro A144 a h145 hbl hS
    have h145b := h143b
    rw [← hbl] at h145b
    clear hbl
    refine dload1 T 9 hS kr kr kr (by rfl) kr hH kr h145 h145b rfl kr ?_
    intro v146 a hv hS
    cases hv
    refine tk T [10, 11, 13, 14] [] hS hH #[true, true, true, true, true, true, true, true, true, true, true, true, true, true, true] 0 ⟨[(10, V (.slice none 0 0)), (11, I (wR (((gi l_ i_134).At) + (lN ((gi l_ i_134).Text))))), (12, I 4)], []⟩ fun a hS => ?_
    refine drawnDone kr ?_
    clear hD hH
    replace hS := hS.sl ⟨[(10, V (.slice none 0 0)), (11, I (wR (((gi l_ i_134).At) + (lN ((gi l_ i_134).Text))))), (12, I 4)], []⟩
    refine wret ?_
    exact fin T hS hO (fun c => c) rfl (r := [.slice none 0 0, .int .i64 (wR (((gi l_ i_134).At) + (lN ((gi l_ i_134).Text)))), .int .i64 4]) kr (fun χ' hM hC => ⟨([], wR (((gi l_ i_134).At) + (lN ((gi l_ i_134).Text))), 4), hm, none, 0, rfl, RS.empty _ _ _⟩)
   replace hm := hm.2 hb
   refine wskip ?_
   refine drawnSX [] mixed hS ?_
   intro w147 χ148 hS hE hD hH
   replace hO := hO.mv hE rfl rfl
   replace h127 := h127.mv hE rfl
   replace h128 := h128.mv hE rfl
   replace h129 := h129.mv hE rfl
   replace h133 := h133.mv hE rfl rfl
   refine tk T [0, 1, 6, 7, 10, 11, 2] [] hS hH #[true, true, true, false, false, false, true, true, false, false, true, true, false, false, false, false, false, false, false, false] 13 ⟨[(0, Sl a1 l_ c1), (2, Sl a2 lo c2), (3, Sl a3 hi c3), (4, I end_), (13, Sl a131 out_130 c132), (14, I i_134), (61, Sl a1 l_ c1), (63, I (wR (i_134 + 1))), (67, Sl a2 lo c2), (68, I i_134), (71, Sl a3 hi c3), (72, I i_134)], []⟩ fun a hS => ?_
   obtain ⟨hq, hm⟩ := hm
   refine dindex (e := 64) (k := .i64) T 3 hS kr kr kr (by rfl) kr hH kr kr h127 kr kr hq.1 hq.2 ?_
   intro A149 a h150 hS
   have h150b := h150.here
   refine dfieldA (off := 2) (fsz := 1) (ft := 9) (TF := tStr) (y := (gi l_ (wR (i_134 + 1))).Text) 4 T hS kr kr kr (by rfl) kr hH kr h150 kr kr kr (fun cs h => Ref05_Token_f2 h) ?_
   intro A151 a h152 hbl hS
   have h152b := h150b
   rw [← hbl] at h152b
   clear hbl
   refine dload1 T 5 hS kr kr kr (by rfl) kr hH kr h152 h152b rfl kr ?_
   intro v153 a hv hS
   cases hv
   obtain ⟨hq, hm⟩ := hm
   refine dindex (e := 3) (k := .i64) T 8 hS kr kr kr (by rfl) kr hH kr kr h128 kr kr hq.1 hq.2 ?_
   intro A154 a h155 hS
   have h155b := h155.here
   refine dload1 T 9 hS kr kr kr (by rfl) kr hH kr h155 h155b rfl kr ?_
   intro v156 a hv hS
   cases hv
   obtain ⟨hq, hm⟩ := hm
   refine dindex (e := 3) (k := .i64) T 12 hS kr kr kr (by rfl) kr hH kr kr h129 kr kr hq.1 hq.2 ?_
   intro A157 a h158 hS
   have h158b := h158.here
   refine dload1 T 13 hS kr kr kr (by rfl) kr hH kr h158 h158b rfl kr ?_
   intro v159 a hv hS
   cases hv
   obtain ⟨hq, hm⟩ := hm
   refine only 14 kr (by rfl) (call hS kr kr hb52 kr (fun _ _ => rfl) (k52 _ _ ((gi l_ (wR (i_134 + 1))).Text) (gi lo i_134) (gi hi i_134) hq) ?_)
   intro v160 a w161 χ162 hE hp hS
   replace hO := hO.mv hE rfl rfl
   replace hD := hD.ev hE rfl
   replace h127 := h127.mv hE rfl
   replace h128 := h128.mv hE rfl
   replace h129 := h129.mv hE rfl
   replace h133 := h133.mv hE rfl rfl
   replace h150 := h150.mv hE rfl
   replace h152 := h152.mv hE rfl
   replace h155 := h155.mv hE rfl
   replace h158 := h158.mv hE rfl
   obtain ⟨r163, hr⟩ : ∃ r, ref05_Number ((gi l_ (wR (i_134 + 1))).Text) (gi lo i_134) (gi hi i_134) = r := ⟨_, rfl⟩
   replace hm := hm r163 hr
   rw [hr] at hp
   clear hr
   subst hp
   refine andH (Hold.of hS (bks := []) kr hD) ?_
   intro hH
   refine tk T [15, 16, 17, 18, 19] [] hS hH #[true, true, true, true, true, true, true, true, true, true, true, true, true, true, true, true, true, true, true, true] 0 ⟨[(0, Sl a1 l_ c1), (2, Sl a2 lo c2), (3, Sl a3 hi c3), (4, I end_), (13, Sl a131 out_130 c132), (14, I i_134), (15, I r163.1), (16, I r163.2)], []⟩ fun a hS => ?_
   refine drawnDone kr ?_
   clear hD hH
   replace hS := hS.sl ⟨[(0, Sl a1 l_ c1), (2, Sl a2 lo c2), (3, Sl a3 hi c3), (4, I end_), (13, Sl a131 out_130 c132), (14, I i_134), (15, I r163.1), (16, I r163.2)], []⟩
   refine wseq (rP T hS ⟨[(0, Sl a1 l_ c1), (2, Sl a2 lo c2), (3, Sl a3 hi c3), (4, I end_), (13, Sl a131 out_130 c132), (14, I i_134), (15, I r163.1), (16, I r163.2), (79, B (r163.2 != 0))], []⟩ fun a hS => ?_)
   refine wcond hS (b := (r163.2 != 0)) kr (fun hb => ?_) (fun hb => ?_)
   ·replace hm := hm.1 hb
    refine drawnSX [] mixed hS ?_
    intro w164 χ165 hS hE hD hH
    replace hO := hO.mv hE rfl rfl
    replace h127 := h127.mv hE rfl
    refine tk T [0, 1, 6, 7, 2] [] hS hH #[true, true, true, false, false, false, true, true, false, false] 5 ⟨[(10, V (.slice none 0 0)), (80, Sl a1 l_ c1), (82, I (wR (i_134 + 1))), (86, I r163.2)], []⟩ fun a hS => ?_
    obtain ⟨hq, hm⟩ := hm
    refine dindex (e := 64) (k := .i64) T 3 hS kr kr kr (by rfl) kr hH kr kr h127 kr kr hq.1 hq.2 ?_
    intro A166 a h167 hS
    have h167b := h167.here
    refine dfieldA (off := 1) (fsz := 1) (ft := 3) (TF := tI) (y := (gi l_ (wR (i_134 + 1))).At) 4 T hS kr kr kr (by rfl) kr hH kr h167 kr kr kr (fun cs h => Ref05_Token_f1 h) ?_
    intro A168 a h169 hbl hS
    have h169b := h167b
    rw [← hbl] at h169b
    clear hbl
    refine dload1 T 5 hS kr kr kr (by rfl) kr hH kr h169 h169b rfl kr ?_
    intro v170 a hv hS
    cases hv
    refine tk T [8, 9] [] hS hH #[true, true, true, true, true, true, true, true, true, true] 0 ⟨[(10, V (.slice none 0 0)), (11, I ((gi l_ (wR (i_134 + 1))).At)), (12, I r163.2)], []⟩ fun a hS => ?_
    refine drawnDone kr ?_
    clear hD hH
    replace hS := hS.sl ⟨[(10, V (.slice none 0 0)), (11, I ((gi l_ (wR (i_134 + 1))).At)), (12, I r163.2)], []⟩
    refine wret ?_
    exact fin T hS hO (fun c => c) rfl (r := [.slice none 0 0, .int .i64 ((gi l_ (wR (i_134 + 1))).At), .int .i64 r163.2]) kr (fun χ' hM hC => ⟨([], (gi l_ (wR (i_134 + 1))).At, r163.2), hm, none, 0, rfl, RS.empty _ _ _⟩)
   replace hm := hm.2 hb
   refine wskip ?_
   refine region ?_
   refine oP T hS 2 ⟨[(0, Sl a1 l_ c1), (2, Sl a2 lo c2), (3, Sl a3 hi c3), (4, I end_), (13, Sl a131 out_130 c132), (14, I i_134), (87, Sl a131 out_130 c132), (88, I r163.1)], []⟩ fun a hS => ?_
   refine op1 (lit (E := 3) (col := 0) (T := tI) (vals := [.int .i64 r163.1]) (ys := [r163.1]) T hS kr kr kr kr (by exact ⟨rfl, trivial⟩) rfl kr kr kr kr ?_)
   intro b171 a w172 χ173 hE h174 hN hS
   clear hN
   replace hO := hO.mv hE rfl rfl
   replace h127 := h127.mv hE rfl
   replace h128 := h128.mv hE rfl
   replace h129 := h129.mv hE rfl
   replace h133 := h133.mv hE rfl rfl
   replace h174 := h174.rs0
   obtain ⟨hq, hm⟩ := hm
   obtain ⟨news, hN⟩ := h174.src
   refine op1 (append (E := 3) (T := tI) (col := 1011) (xs := out_130) T hS kr kr kr kr h133 hN kr kr kr kr hq ?_)
   intro a178 c179 a w175 χ176 hE h177 hS
   clear hq hN
   clear h133
   replace hO := hO.mv hE rfl rfl
   replace h127 := h127.mv hE rfl
   replace h128 := h128.mv hE rfl
   replace h129 := h129.mv hE rfl
   replace h174 := h174.mv hE rfl
   refine eP T hS ⟨[(0, Sl a1 l_ c1), (2, Sl a2 lo c2), (3, Sl a3 hi c3), (4, I end_), (13, Sl a178 (out_130 ++ [r163.1]) c179), (14, I i_134)], []⟩ fun a hS => ?_
   refine region (eP T hS ⟨[(0, Sl a1 l_ c1), (2, Sl a2 lo c2), (3, Sl a3 hi c3), (4, I end_), (13, Sl a178 (out_130 ++ [r163.1]) c179), (14, I (wR (i_134 + 1)))], []⟩ fun a hS => ?_)
   exact ⟨⟨out_130 ++ [r163.1], wR (i_134 + 1)⟩, ⟨ρ, _, a178, c179, hm.1, hS.sl _, hO, h127, h128, h129, h177⟩, hm.2⟩
  replace hm := hm.2 hb
  refine wexit (by rfl) ?_
  exact ⟨ρ, _, out_130, a131, c132, hm, hS.sl _, hO, h127, h133⟩
 rintro a w183 ⟨ρ, χ182, out_114, a115, c116, hm, hS, hO, h113, h117⟩
 unfold VC25_J1 at hm
 refine wseq (rP T hS ⟨[(0, Sl a1 l_ c1), (4, I end_), (13, Sl a115 out_114 c116), (96, B ((lN l_) != (wR ((lN out_114) + 1))))], []⟩ fun a hS => ?_)
 refine wcond hS (b := ((lN l_) != (wR ((lN out_114) + 1)))) kr (fun hb => ?_) (fun hb => ?_)
 ·replace hm := hm.1 hb
  refine drawnSX [] mixed hS ?_
  intro w118 χ119 hS hE hD hH
  replace hO := hO.mv hE rfl rfl
  replace h113 := h113.mv hE rfl
  replace h117 := h117.mv hE rfl rfl
  refine tk T [0, 1, 7, 2, 3] [] hS hH #[true, true, true, true, false, false, false, true, false, false] 5 ⟨[(10, V (.slice none 0 0)), (97, Sl a1 l_ c1), (100, I (wR ((lN out_114) + 1)))], []⟩ fun a hS => ?_
  obtain ⟨hq, hm⟩ := hm
  refine dindex (e := 64) (k := .i64) T 4 hS kr kr kr (by rfl) kr hH kr kr h113 kr kr hq.1 hq.2 ?_
  intro A120 a h121 hS
  have h121b := h121.here
  refine dfieldA (off := 1) (fsz := 1) (ft := 3) (TF := tI) (y := (gi l_ (wR ((lN out_114) + 1))).At) 5 T hS kr kr kr (by rfl) kr hH kr h121 kr kr kr (fun cs h => Ref05_Token_f1 h) ?_
  intro A122 a h123 hbl hS
  have h123b := h121b
  rw [← hbl] at h123b
  clear hbl
  refine dload1 T 6 hS kr kr kr (by rfl) kr hH kr h123 h123b rfl kr ?_
  intro v124 a hv hS
  cases hv
  refine tk T [8, 9] [] hS hH #[true, true, true, true, true, true, true, true, true, true] 0 ⟨[(10, V (.slice none 0 0)), (11, I ((gi l_ (wR ((lN out_114) + 1))).At)), (12, I 6)], []⟩ fun a hS => ?_
  refine drawnDone kr ?_
  clear hD hH
  replace hS := hS.sl ⟨[(10, V (.slice none 0 0)), (11, I ((gi l_ (wR ((lN out_114) + 1))).At)), (12, I 6)], []⟩
  refine wret ?_
  exact fin T hS hO (fun c => c) rfl (r := [.slice none 0 0, .int .i64 ((gi l_ (wR ((lN out_114) + 1))).At), .int .i64 6]) kr (fun χ' hM hC => ⟨([], (gi l_ (wR ((lN out_114) + 1))).At, 6), hm, none, 0, rfl, RS.empty _ _ _⟩)
 replace hm := hm.2 hb
 refine wskip ?_
 refine rP T hS ⟨[(10, Sl a115 out_114 c116), (11, I end_), (12, I 0)], []⟩ fun a hS => ?_
 refine wret ?_
 obtain ⟨χ125, hE, hF⟩ := h117.freeze (by decide)
 replace hS := hS.ev hE (xone_box kr)
 replace hO := hO.mv hE rfl rfl
 have h126 := hF; clear hE hF
 exact fin T hS hO (fun c => c) rfl (r := [.slice a115 out_114.length c116, .int .i64 end_, .int .i64 0]) kr (fun χ' hM hC => ⟨(out_114, end_, 0), hm, a115, c116, rfl, h126.m0 hM⟩)
theorem C25 (k52 : S52) (v : ∀ (l_ : List Ref05_Token) (word : List UInt8) (lo : List Int) (hi : List Int) (end_ : Int), preNR l_ word lo hi end_ → VC25 l_ word lo hi end_ (fun r => r = ref24_Numbers l_ word lo hi end_)) : S25 := by
 intro w χ l_ word lo hi end_ a1 c1 a2 c2 a3 c3   hp h1 h2 h3
 refine (W25 k52 w χ l_ word lo hi end_ a1 c1 a2 c2 a3 c3   _ (v l_ word lo hi end_ hp) h1 h2 h3).mono ?_
 rintro _ _ _ _ ⟨r, rfl, h⟩
 exact h
theorem W23 (w0 : World) (χ0 : Nat → Nat) (l_ : List (List Ref05_Token)) (a1 : Option Addr) (c1 : Nat) (Q : (List (List Ref05_Token)) → Prop) (hm : VC23 l_ Q) (h1 : RS (tSlice tRef05_Token) w0 χ0 a1 l_ c1) :
  Ret Tryz.prog 23 #[.slice a1 l_.length c1] xnone w0 χ0 (fun w χ' v => ∃ r, Q r ∧ ∃ (ra1 : Option Addr) (rc1 : Nat), v = .slice ra1 r.length rc1 ∧ RS (tSlice tRef05_Token) w χ' ra1 r rc1) := by
 unfold VC23 at hm
 replace hm := hm (h1.sm kr)
 refine enter Tryz.func23 rfl (vals := [.slice a1 l_.length c1]) kr ?_
 intro ρ a hS hO hM
 replace h1 := h1.m0 hM
 clear hM
 refine rP T hS ⟨[(0, Sl a1 l_ c1)], []⟩ fun a hS => ?_
 refine rP T hS ⟨[(0, Sl a1 l_ c1), (3, V (.slice none 0 0))], []⟩ fun a hS => ?_
 refine wcut (fun a w => ∃ (ρ : Nat → Nat) (χ : Nat → Nat) (out_101 : List (List Ref05_Token)) (a102 : Option Addr) (c103 : Nat), VC23_J1 Q out_101 ∧ St Tryz.f23.ntmps ⟨[(3, Sl a102 out_101 c103)], []⟩ ρ a w χ ∧ Old w0 χ0 w χ ∧ OS (tSlice tRef05_Token) 65 w χ 1003 a102 out_101 c103) ?_ ?_
 ·refine rP T hS ⟨[(0, Sl a1 l_ c1), (3, V (.slice none 0 0)), (4, I 0)], []⟩ fun a hS => ?_
  refine wblock ?_
  obtain ⟨I1, μ1, hm0, hm⟩ := hm
  refine wloop (σ := (List (List Ref05_Token)) × Int) (fun s a w => ∃ (ρ : Nat → Nat) (χ : Nat → Nat) (a109 : Option Addr) (c110 : Nat), I1 s.1 s.2 ∧ St Tryz.f23.ntmps ⟨[(0, Sl a1 l_ c1), (3, Sl a109 s.1 c110), (4, I s.2)], []⟩ ρ a w χ ∧ Old w0 χ0 w χ ∧ RS (tSlice tRef05_Token) w χ a1 l_ c1 ∧ OS (tSlice tRef05_Token) 65 w χ 1003 a109 s.1 c110) (fun s => μ1 s.1 s.2) (⟨[], 0⟩) ?_ ?_
  ·exact ⟨ρ, _, none, 0, hm0, hS.sl _, hO, h1, (OS.nil _ _ _ _ _)⟩
  rintro ⟨out_108, i_112⟩ a w142 ⟨ρ, χ141, a109, c110, hI, hS, hO, h107, h111⟩
  replace hm := hm out_108 i_112 hI
  clear hI hm0
  refine wseq (rP T hS ⟨[(0, Sl a1 l_ c1), (3, Sl a109 out_108 c110), (4, I i_112), (8, B (decide (i_112 < (lN l_))))], []⟩ fun a hS => ?_)
  refine wcond hS (b := decide (i_112 < (lN l_))) kr (fun hb => ?_) (fun hb => ?_)
  ·replace hm := hm.1 hb
   refine wskip ?_
   refine wcut (fun a w => ∃ (ρ : Nat → Nat) (χ : Nat → Nat) (out_114 : List (List Ref05_Token)) (a115 : Option Addr) (c116 : Nat), VC23_J2 I1 μ1 out_108 i_112 out_114 ∧ St Tryz.f23.ntmps ⟨[(0, Sl a1 l_ c1), (3, Sl a115 out_114 c116), (4, I i_112)], []⟩ ρ a w χ ∧ Old w0 χ0 w χ ∧ RS (tSlice tRef05_Token) w χ a1 l_ c1 ∧ OS (tSlice tRef05_Token) 65 w χ 1003 a115 out_114 c116) ?_ ?_
   ·refine wblock ?_
    refine regO ?_
    refine oP T hS 2 ⟨[(0, Sl a1 l_ c1), (3, Sl a109 out_108 c110), (4, I i_112), (11, Sl a1 l_ c1), (12, I i_112)], []⟩ fun a hS => ?_
    obtain ⟨hq, hm⟩ := hm
    refine op1 (index (e := 65) (k := .i64) T hS kr kr kr kr h107 kr kr hq.1 hq.2 ?_)
    intro A118 a h119 hS
    refine op1 (load1 T hS kr kr kr h119 rfl kr ?_)
    intro v120 a hv hS
    obtain ⟨a121, c122, hv, h123⟩ := hv
    cases hv
    replace hm := hm (h123.sm kr)
    refine eP T hS ⟨[(0, Sl a1 l_ c1), (3, Sl a109 out_108 c110), (4, I i_112), (16, B (decide ((lN (gi l_ i_112)) > 0)))], []⟩ fun a hS => ?_
    refine wcond hS (b := decide ((lN (gi l_ i_112)) > 0)) kr (fun hb => ?_) (fun hb => ?_)
    ·replace hm := hm.1 hb
     refine region ?_
     refine oP T hS 3 ⟨[(0, Sl a1 l_ c1), (3, Sl a109 out_108 c110), (4, I i_112), (17, Sl a109 out_108 c110), (18, Sl a1 l_ c1), (19, I i_112)], []⟩ fun a hS => ?_
     obtain ⟨hq, hm⟩ := hm
     refine op1 (index (e := 65) (k := .i64) T hS kr kr kr kr h107 kr kr hq.1 hq.2 ?_)
     intro A124 a h125 hS
     refine op1 (load1 T hS kr kr kr h125 rfl kr ?_)
     intro v126 a hv hS
     obtain ⟨a127, c128, hv, h129⟩ := hv
     cases hv
     replace hm := hm (h129.sm kr)
     refine op1 (lit (E := 65) (col := 0) (T := (tSlice tRef05_Token)) (vals := [.slice a127 (gi l_ i_112).length c128]) (ys := [gi l_ i_112]) T hS kr kr kr kr (by exact ⟨⟨a127, c128, rfl, h129⟩, trivial⟩) rfl kr kr kr kr ?_)
     intro b130 a w131 χ132 hE h133 hN hS
     clear hN
     replace hO := hO.mv hE rfl rfl
     replace h107 := h107.mv hE rfl
     replace h111 := h111.mv hE rfl rfl
     replace h125 := h125.mv hE rfl
     replace h129 := h129.mv hE rfl
     replace h133 := h133.rs0
     obtain ⟨hq, hm⟩ := hm
     obtain ⟨news, hN⟩ := h133.src
     refine op1 (append (E := 65) (T := (tSlice tRef05_Token)) (col := 1003) (xs := out_108) T hS kr kr kr kr h111 hN kr kr kr kr hq ?_)
     intro a137 c138 a w134 χ135 hE h136 hS
     clear hq hN
     clear h111
     replace hO := hO.mv hE rfl rfl
     replace h107 := h107.mv hE rfl
     replace h125 := h125.mv hE rfl
     replace h129 := h129.mv hE rfl
     replace h133 := h133.mv hE rfl
     refine eP T hS ⟨[(0, Sl a1 l_ c1), (3, Sl a137 (out_108 ++ [gi l_ i_112]) c138), (4, I i_112)], []⟩ fun a hS => ?_
     exact ⟨ρ, _, out_108 ++ [gi l_ i_112], a137, c138, hm, hS.sl _, hO, h107, h136⟩
    replace hm := hm.2 hb
    refine wskip ?_
    exact ⟨ρ, _, out_108, a109, c110, hm, hS.sl _, hO, h107, h111⟩
   rintro a w140 ⟨ρ, χ139, out_114, a115, c116, hm, hS, hO, h113, h117⟩
   unfold VC23_J2 at hm
   refine region (eP T hS ⟨[(0, Sl a1 l_ c1), (3, Sl a115 out_114 c116), (4, I (wR (i_112 + 1)))], []⟩ fun a hS => ?_)
   exact ⟨⟨out_114, wR (i_112 + 1)⟩, ⟨ρ, _, a115, c116, hm.1, hS.sl _, hO, h113, h117⟩, hm.2⟩
  replace hm := hm.2 hb
  refine wexit (by rfl) ?_
  exact ⟨ρ, _, out_108, a109, c110, hm, hS.sl _, hO, h111⟩
 rintro a w144 ⟨ρ, χ143, out_101, a102, c103, hm, hS, hO, h104⟩
 unfold VC23_J1 at hm
 refine rP T hS ⟨[(2, Sl a102 out_101 c103)], []⟩ fun a hS => ?_
 refine wret ?_
 obtain ⟨χ105, hE, hF⟩ := h104.freeze (by decide)
 replace hS := hS.ev hE (xone_box kr)
 replace hO := hO.mv hE rfl rfl
 have h106 := hF; clear hE hF
 exact fin T hS hO (fun c => c) rfl (r := [.slice a102 out_101.length c103]) kr (fun χ' hM hC => ⟨out_101, hm, a102, c103, rfl, h106.m0 hM⟩)
theorem C23 (v : ∀ (l_ : List (List Ref05_Token)), preS l_ → VC23 l_ (fun r => r = ref24_Said l_)) : S23 := by
 intro w χ l_ a1 c1   hp h1
 refine (W23 w χ l_ a1 c1   _ (v l_ hp) h1).mono ?_
 rintro _ _ _ _ ⟨r, rfl, h⟩
 exact h
theorem W27 (w0 : World) (χ0 : Nat → Nat) (s_ : List UInt8) (at_ : Int) (Q : Int → Prop) (hm : VC27 s_ at_ Q) :
  Ret Tryz.prog 27 #[.string (bs s_), .int .i64 at_] xnone w0 χ0 (fun w χ' v => ∃ r, Q r ∧ v = .int .i64 r) := by
 unfold VC27 at hm
 refine enter Tryz.func27 rfl (vals := [.string (bs s_), .int .i64 at_]) kr ?_
 intro ρ a hS hO hM
 clear hM
 refine rP T hS ⟨[(0, Z s_), (1, I at_)], []⟩ fun a hS => ?_
 refine wcut (fun a w => ∃ (ρ : Nat → Nat) (χ : Nat → Nat), VC27_J1 s_ Q ∧ St Tryz.f27.ntmps ⟨[(0, Z s_)], []⟩ ρ a w χ ∧ Old w0 χ0 w χ) ?_ ?_
 ·refine rP T hS ⟨[(0, Z s_), (5, I at_)], []⟩ fun a hS => ?_
  refine wblock ?_
  obtain ⟨I1, μ1, hm0, hm⟩ := hm
  refine wloop (σ := Int) (fun s a w => ∃ (ρ : Nat → Nat) (χ : Nat → Nat), I1 s ∧ St Tryz.f27.ntmps ⟨[(0, Z s_), (5, I s)], []⟩ ρ a w χ ∧ Old w0 χ0 w χ) (fun s => μ1 s) (at_) ?_ ?_
  ·exact ⟨ρ, _, hm0, hS.sl _, hO⟩
  rintro i_101 a w103 ⟨ρ, χ102, hI, hS, hO⟩
  replace hm := hm i_101 hI
  clear hI hm0
  refine wseq (rP T hS ⟨[(0, Z s_), (5, I i_101), (10, B (decide (i_101 < (lN s_))))], []⟩ fun a hS => ?_)
  refine wcond hS (b := decide (i_101 < (lN s_))) kr (fun hb => ?_) (fun hb => ?_)
  ·replace hm := hm.1 hb
   refine wskip (wseq ?_)
   refine wblock ?_
   refine regO ?_
   refine oP T hS 2 ⟨[(0, Z s_), (5, I i_101), (13, Z s_), (14, I i_101)], []⟩ fun a hS => ?_
   obtain ⟨hq, hm⟩ := hm
   refine op1 (sindex (k := .i64) T hS kr kr kr kr kr hq.1 hq.2 ?_)
   intro a hS
   refine eP T hS ⟨[(0, Z s_), (5, I i_101), (16, B (((gi s_ i_101).toNat : Int) == 10))], []⟩ fun a hS => ?_
   refine wcond hS (b := (((gi s_ i_101).toNat : Int) == 10)) kr (fun hb => ?_) (fun hb => ?_)
   ·replace hm := hm.1 hb
    refine rP T hS ⟨[(4, I (wR (i_101 + 1)))], []⟩ fun a hS => ?_
    refine wret ?_
    exact fin T hS hO (fun c => c) rfl (r := [.int .i64 (wR (i_101 + 1))]) kr (fun χ' hM hC => ⟨(wR (i_101 + 1)), hm, rfl⟩)
   replace hm := hm.2 hb
   refine wskip ?_
   refine region (eP T hS ⟨[(0, Z s_), (5, I (wR (i_101 + 1)))], []⟩ fun a hS => ?_)
   exact ⟨wR (i_101 + 1), ⟨ρ, _, hm.1, hS.sl _, hO⟩, hm.2⟩
  replace hm := hm.2 hb
  refine wexit (by rfl) ?_
  exact ⟨ρ, _, hm, hS.sl _, hO⟩
 rintro a w105 ⟨ρ, χ104, hm, hS, hO⟩
 unfold VC27_J1 at hm
 refine rP T hS ⟨[(4, I (lN s_))], []⟩ fun a hS => ?_
 refine wret ?_
 exact fin T hS hO (fun c => c) rfl (r := [.int .i64 (lN s_)]) kr (fun χ' hM hC => ⟨(lN s_), hm, rfl⟩)
theorem C27 (v : ∀ (s_ : List UInt8) (at_ : Int), preBe s_ at_ → VC27 s_ at_ (fun r => r = ref39_behind s_ at_)) : S27 := by
 intro w χ s_ at_    hp 
 refine (W27 w χ s_ at_    _ (v s_ at_ hp)).mono ?_
 rintro _ _ _ _ ⟨r, rfl, h⟩
 exact h
theorem W26 (k25 : S25) (k40 : S40) (w0 : World) (χ0 : Nat → Nat) (l_ : List (List Ref05_Token)) (n_ : Int) (end_ : Int) (a1 : Option Addr) (c1 : Nat) (Q : (List Api_Pick) × Int × Int → Prop) (hm : VC26 l_ n_ end_ Q) (h1 : RS (tSlice tRef05_Token) w0 χ0 a1 l_ c1) :
  Ret Tryz.prog 26 #[.slice a1 l_.length c1, .int .i64 n_, .int .i64 end_] xnone w0 χ0 (fun w χ' v => ∃ r, Q r ∧ ∃ (ra1 : Option Addr) (rc1 : Nat), v = .tuple #[.slice ra1 r.1.length rc1, .int .i64 r.2.1, .int .i64 r.2.2] ∧ RS tApi_Pick w χ' ra1 r.1 rc1) := by
 unfold VC26 at hm
 replace hm := hm (h1.sm kr)
 refine enter Tryz.func26 rfl (vals := [.slice a1 l_.length c1, .int .i64 n_, .int .i64 end_]) kr ?_
 intro ρ a hS hO hM
 replace h1 := h1.m0 hM
 clear hM
 refine rP T hS ⟨[(0, Sl a1 l_ c1), (1, I n_), (2, I end_)], []⟩ fun a hS => ?_
 refine rP T hS ⟨[(0, Sl a1 l_ c1), (1, I n_), (2, I end_), (9, V (.slice none 0 0))], []⟩ fun a hS => ?_
 refine wcut (fun a w => ∃ (ρ : Nat → Nat) (χ : Nat → Nat) (out_101 : List Api_Pick) (a102 : Option Addr) (c103 : Nat), VC26_J1 end_ Q out_101 ∧ St Tryz.f26.ntmps ⟨[(2, I end_), (9, Sl a102 out_101 c103)], []⟩ ρ a w χ ∧ Old w0 χ0 w χ ∧ OS tApi_Pick 44 w χ 1007 a102 out_101 c103) ?_ ?_
 ·refine rP T hS ⟨[(0, Sl a1 l_ c1), (1, I n_), (2, I end_), (9, V (.slice none 0 0)), (10, I 1)], []⟩ fun a hS => ?_
  refine wblock ?_
  obtain ⟨I1, μ1, hm0, hm⟩ := hm
  refine wloop (σ := (List Api_Pick) × Int) (fun s a w => ∃ (ρ : Nat → Nat) (χ : Nat → Nat) (a109 : Option Addr) (c110 : Nat), I1 s.1 s.2 ∧ St Tryz.f26.ntmps ⟨[(0, Sl a1 l_ c1), (1, I n_), (2, I end_), (9, Sl a109 s.1 c110), (10, I s.2)], []⟩ ρ a w χ ∧ Old w0 χ0 w χ ∧ RS (tSlice tRef05_Token) w χ a1 l_ c1 ∧ OS tApi_Pick 44 w χ 1007 a109 s.1 c110) (fun s => μ1 s.1 s.2) (⟨[], 1⟩) ?_ ?_
  ·exact ⟨ρ, _, none, 0, hm0, hS.sl _, hO, h1, (OS.nil _ _ _ _ _)⟩
  rintro ⟨out_108, i_112⟩ a w169 ⟨ρ, χ168, a109, c110, hI, hS, hO, h107, h111⟩
  replace hm := hm out_108 i_112 hI
  clear hI hm0
  refine wseq (rP T hS ⟨[(0, Sl a1 l_ c1), (1, I n_), (2, I end_), (9, Sl a109 out_108 c110), (10, I i_112), (16, B (decide (i_112 ≤ n_)))], []⟩ fun a hS => ?_)
  refine wcond hS (b := decide (i_112 ≤ n_)) kr (fun hb => ?_) (fun hb => ?_)
  ·replace hm := hm.1 hb
   refine wskip (wseq ?_)
   refine wblock ?_
   refine wseq (rP T hS ⟨[(0, Sl a1 l_ c1), (1, I n_), (2, I end_), (9, Sl a109 out_108 c110), (10, I i_112), (22, B (decide (i_112 ≥ (lN l_))))], []⟩ fun a hS => ?_)
   refine wcond hS (b := decide (i_112 ≥ (lN l_))) kr (fun hb => ?_) (fun hb => ?_)
   ·replace hm := hm.1 hb
    refine rP T hS ⟨[(6, V (.slice none 0 0)), (7, I end_), (8, I 4)], []⟩ fun a hS => ?_
    refine wret ?_
    exact fin T hS hO (fun c => c) rfl (r := [.slice none 0 0, .int .i64 end_, .int .i64 4]) kr (fun χ' hM hC => ⟨([], end_, 4), hm, none, 0, rfl, RS.empty _ _ _⟩)
   replace hm := hm.2 hb
   refine wskip ?_
   refine regO ?_
   refine oP T hS 2 ⟨[(0, Sl a1 l_ c1), (1, I n_), (2, I end_), (9, Sl a109 out_108 c110), (10, I i_112), (25, Sl a1 l_ c1), (26, I i_112)], []⟩ fun a hS => ?_
   obtain ⟨hq, hm⟩ := hm
   refine op1 (index (e := 65) (k := .i64) T hS kr kr kr kr h107 kr kr hq.1 hq.2 ?_)
   intro A113 a h114 hS
   refine op1 (load1 T hS kr kr kr h114 rfl kr ?_)
   intro v115 a hv hS
   obtain ⟨a116, c117, hv, h118⟩ := hv
   cases hv
   replace hm := hm (h118.sm kr)
   refine op1 (lit (E := 3) (col := 0) (T := tI) (vals := [.int .i64 0, .int .i64 0]) (ys := [0, 0]) T hS kr kr kr kr (by exact ⟨rfl, rfl, trivial⟩) rfl kr kr kr kr ?_)
   intro b119 a w120 χ121 hE h122 hN hS
   clear hN
   replace hO := hO.mv hE rfl rfl
   replace h107 := h107.mv hE rfl
   replace h111 := h111.mv hE rfl rfl
   replace h114 := h114.mv hE rfl
   replace h118 := h118.mv hE rfl
   replace h122 := h122.rs0
   refine op1 (lit (E := 3) (col := 0) (T := tI) (vals := [.int .i64 63, .int .i64 1000000]) (ys := [63, 1000000]) T hS kr kr kr kr (by exact ⟨rfl, rfl, trivial⟩) rfl kr kr kr kr ?_)
   intro b123 a w124 χ125 hE h126 hN hS
   clear hN
   replace hO := hO.mv hE rfl rfl
   replace h107 := h107.mv hE rfl
   replace h111 := h111.mv hE rfl rfl
   replace h114 := h114.mv hE rfl
   replace h118 := h118.mv hE rfl
   replace h122 := h122.mv hE rfl
   replace h126 := h126.rs0
   refine oP T hS 1 ⟨[(0, Sl a1 l_ c1), (1, I n_), (2, I end_), (9, Sl a109 out_108 c110), (10, I i_112), (28, Sl a116 (gi l_ i_112) c117), (29, Sl (some ⟨b119, 0, none⟩) [0, 0] 2), (30, Sl (some ⟨b123, 0, none⟩) [63, 1000000] 2), (31, I end_)], []⟩ fun a hS => ?_
   obtain ⟨hq, hm⟩ := hm
   refine op1 (call hS kr kr hb25 kr (fun _ _ => rfl) (k25 _ _ (gi l_ i_112) ([112, 105, 99, 107] : List UInt8) [0, 0] [63, 1000000] end_ a116 c117 (some ⟨b119, 0, none⟩) 2 (some ⟨b123, 0, none⟩) 2 hq h118 h122 h126) ?_)
   intro v127 a w128 χ129 hE hp hS
   replace hO := hO.mv hE rfl rfl
   replace h107 := h107.mv hE rfl
   replace h111 := h111.mv hE rfl rfl
   replace h118 := h118.mv hE rfl
   replace h122 := h122.mv hE rfl
   replace h126 := h126.mv hE rfl
   obtain ⟨a131, c132, hp, h133⟩ := hp
   obtain ⟨r130, hr⟩ : ∃ r, ref24_Numbers (gi l_ i_112) ([112, 105, 99, 107] : List UInt8) [0, 0] [63, 1000000] end_ = r := ⟨_, rfl⟩
   replace hm := hm r130 hr
   rw [hr] at hp h133
   clear hr
   subst hp
   replace hm := hm (h133.sm kr)
   refine eP T hS ⟨[(0, Sl a1 l_ c1), (1, I n_), (2, I end_), (9, Sl a109 out_108 c110), (10, I i_112), (11, Sl a131 r130.1 c132), (12, I r130.2.1), (13, I r130.2.2)], []⟩ fun a hS => ?_
   refine wseq (rP T hS ⟨[(0, Sl a1 l_ c1), (1, I n_), (2, I end_), (9, Sl a109 out_108 c110), (10, I i_112), (11, Sl a131 r130.1 c132), (12, I r130.2.1), (13, I r130.2.2), (37, B (r130.2.2 != 0))], []⟩ fun a hS => ?_)
   refine wcond hS (b := (r130.2.2 != 0)) kr (fun hb => ?_) (fun hb => ?_)
   ·replace hm := hm.1 hb
    refine rP T hS ⟨[(6, V (.slice none 0 0)), (7, I r130.2.1), (8, I r130.2.2)], []⟩ fun a hS => ?_
    refine wret ?_
    exact fin T hS hO (fun c => c) rfl (r := [.slice none 0 0, .int .i64 r130.2.1, .int .i64 r130.2.2]) kr (fun χ' hM hC => ⟨([], r130.2.1, r130.2.2), hm, none, 0, rfl, RS.empty _ _ _⟩)
   replace hm := hm.2 hb
   refine wskip ?_
   refine drawnSX [] mixed hS ?_
   intro w134 χ135 hS hE hD hH
   replace hO := hO.mv hE rfl rfl
   replace h107 := h107.mv hE rfl
   replace h111 := h111.mv hE rfl rfl
   replace h133 := h133.mv hE rfl
   refine tk T [0, 1, 4] [] hS hH #[true, true, false, false, true, false, false, false, false, false, false] 8 ⟨[(0, Sl a1 l_ c1), (1, I n_), (2, I end_), (9, Sl a109 out_108 c110), (10, I i_112), (40, Sl a109 out_108 c110), (41, Sl a131 r130.1 c132), (44, Sl a131 r130.1 c132)], []⟩ fun a hS => ?_
   obtain ⟨hq, hm⟩ := hm
   refine dindex (e := 3) (k := .i64) T 2 hS kr kr kr (by rfl) kr hH kr kr h133 kr kr hq.1 hq.2 ?_
   intro A136 a h137 hS
   have h137b := h137.here
   refine dload1 T 3 hS kr kr kr (by rfl) kr hH kr h137 h137b rfl kr ?_
   intro v138 a hv hS
   cases hv
   obtain ⟨hq, hm⟩ := hm
   refine dindex (e := 3) (k := .i64) T 5 hS kr kr kr (by rfl) kr hH kr kr h133 kr kr hq.1 hq.2 ?_
   intro A139 a h140 hS
   have h140b := h140.here
   refine dload1 T 6 hS kr kr kr (by rfl) kr hH kr h140 h140b rfl kr ?_
   intro v141 a hv hS
   cases hv
   refine tk T [7] [] hS hH #[true, true, true, true, true, true, true, true, false, false, false] 3 ⟨[(0, Sl a1 l_ c1), (1, I n_), (2, I end_), (9, Sl a109 out_108 c110), (10, I i_112), (40, Sl a109 out_108 c110), (47, V (.agg #[.int .i64 (gi r130.1 0), .int .i64 (gi r130.1 1)]))], []⟩ fun a hS => ?_
   refine only 8 kr (by rfl) (lit (E := 44) (col := 0) (T := tApi_Pick) (vals := [.agg #[.int .i64 (gi r130.1 0), .int .i64 (gi r130.1 1)]]) (ys := [(⟨gi r130.1 0, gi r130.1 1⟩ : Api_Pick)]) T hS kr kr kr kr (by exact ⟨rfl, trivial⟩) rfl kr kr kr kr ?_)
   intro b142 a w143 χ144 hE h145 hN hS
   clear hN
   replace hO := hO.mv hE rfl rfl
   replace hD := hD.ev hE rfl
   replace h107 := h107.mv hE rfl
   replace h111 := h111.mv hE rfl rfl
   replace h133 := h133.mv hE rfl
   replace h137 := h137.mv hE rfl
   replace h140 := h140.mv hE rfl
   replace h145 := h145.rs0
   refine andH (Hold.of hS (bks := []) kr hD) ?_
   intro hH
   obtain ⟨hq, hm⟩ := hm
   obtain ⟨news, hN⟩ := h145.src
   refine only 9 kr (by rfl) (append (E := 44) (T := tApi_Pick) (col := 1007) (xs := out_108) T hS kr kr kr kr h111 hN kr kr kr kr hq ?_)
   intro a149 c150 a w146 χ147 hE h148 hS
   clear hq hN
   clear h111
   replace hO := hO.mv hE rfl rfl
   replace hD := hD.ev hE rfl
   replace h107 := h107.mv hE rfl
   replace h133 := h133.mv hE rfl
   replace h137 := h137.mv hE rfl
   replace h140 := h140.mv hE rfl
   replace h145 := h145.mv hE rfl
   refine andH (Hold.of hS (bks := []) kr hD) ?_
   intro hH
   refine tk T [10] [] hS hH #[true, true, true, true, true, true, true, true, true, true, true] 0 ⟨[(0, Sl a1 l_ c1), (1, I n_), (2, I end_), (9, Sl a149 (out_108 ++ [(⟨gi r130.1 0, gi r130.1 1⟩ : Api_Pick)]) c150), (10, I i_112)], []⟩ fun a hS => ?_
   refine drawnDone kr ?_
   clear hD hH
   replace hS := hS.sl ⟨[(0, Sl a1 l_ c1), (1, I n_), (2, I end_), (9, Sl a149 (out_108 ++ [(⟨gi r130.1 0, gi r130.1 1⟩ : Api_Pick)]) c150), (10, I i_112)], []⟩
   refine regO ?_
   refine oP T hS 1 ⟨[(0, Sl a1 l_ c1), (1, I n_), (2, I end_), (9, Sl a149 (out_108 ++ [(⟨gi r130.1 0, gi r130.1 1⟩ : Api_Pick)]) c150), (10, I i_112), (50, Sl a149 (out_108 ++ [(⟨gi r130.1 0, gi r130.1 1⟩ : Api_Pick)]) c150)], []⟩ fun a hS => ?_
   refine op1 (call hS kr kr hb40 kr (fun _ _ => rfl) (Ret.unlend (k40 _ (lend 1007 _) (out_108 ++ [(⟨gi r130.1 0, gi r130.1 1⟩ : Api_Pick)]) a149 c150 h148.lend)) ?_)
   intro v151 a w152 χ153 hE hp hS
   replace hO := hO.mv hE rfl rfl
   replace h107 := h107.mv hE rfl
   replace h148 := h148.mv hE rfl rfl
   obtain ⟨_, hp⟩ := hp
   obtain ⟨r154, hr⟩ : ∃ r, ref39_picked (out_108 ++ [(⟨gi r130.1 0, gi r130.1 1⟩ : Api_Pick)]) = r := ⟨_, rfl⟩
   replace hm := hm r154 hr
   rw [hr] at hp
   clear hr
   subst hp
   refine eP T hS ⟨[(0, Sl a1 l_ c1), (1, I n_), (2, I end_), (9, Sl a149 (out_108 ++ [(⟨gi r130.1 0, gi r130.1 1⟩ : Api_Pick)]) c150), (10, I i_112), (52, B (!r154))], []⟩ fun a hS => ?_
   refine wcond hS (b := (!r154)) kr (fun hb => ?_) (fun hb => ?_)
   ·replace hm := hm.1 hb
    refine drawnSX [] mixed hS ?_
    intro w155 χ156 hS hE hD hH
    replace hO := hO.mv hE rfl rfl
    replace h107 := h107.mv hE rfl
    refine tk T [0, 1, 7] [] hS hH #[true, true, false, false, false, false, false, true, false, false] 7 ⟨[(6, V (.slice none 0 0)), (53, Sl a1 l_ c1), (54, I i_112)], []⟩ fun a hS => ?_
    obtain ⟨hq, hm⟩ := hm
    refine dindex (e := 65) (k := .i64) T 2 hS kr kr kr (by rfl) kr hH kr kr h107 kr kr hq.1 hq.2 ?_
    intro A157 a h158 hS
    have h158b := h158.here
    refine dload1 T 3 hS kr kr kr (by rfl) kr hH kr h158 h158b rfl kr ?_
    intro v159 a hv hS
    obtain ⟨a160, c161, hv, h162⟩ := hv
    cases hv
    replace hm := hm (h162.sm kr)
    obtain ⟨hq, hm⟩ := hm
    refine dindex (e := 64) (k := .i64) T 4 hS kr kr kr (by rfl) kr hH kr kr h162 kr kr hq.1 hq.2 ?_
    intro A163 a h164 hS
    have h164b := h164.here
    refine dfieldA (off := 1) (fsz := 1) (ft := 3) (TF := tI) (y := (gi (gi l_ i_112) 0).At) 5 T hS kr kr kr (by rfl) kr hH kr h164 kr kr kr (fun cs h => Ref05_Token_f1 h) ?_
    intro A165 a h166 hbl hS
    have h166b := h164b
    rw [← hbl] at h166b
    clear hbl
    refine dload1 T 6 hS kr kr kr (by rfl) kr hH kr h166 h166b rfl kr ?_
    intro v167 a hv hS
    cases hv
    refine tk T [8, 9] [] hS hH #[true, true, true, true, true, true, true, true, true, true] 0 ⟨[(6, V (.slice none 0 0)), (7, I ((gi (gi l_ i_112) 0).At)), (8, I 21)], []⟩ fun a hS => ?_
    refine drawnDone kr ?_
    clear hD hH
    replace hS := hS.sl ⟨[(6, V (.slice none 0 0)), (7, I ((gi (gi l_ i_112) 0).At)), (8, I 21)], []⟩
    refine wret ?_
    exact fin T hS hO (fun c => c) rfl (r := [.slice none 0 0, .int .i64 ((gi (gi l_ i_112) 0).At), .int .i64 21]) kr (fun χ' hM hC => ⟨([], (gi (gi l_ i_112) 0).At, 21), hm, none, 0, rfl, RS.empty _ _ _⟩)
   replace hm := hm.2 hb
   refine wskip ?_
   refine region (eP T hS ⟨[(0, Sl a1 l_ c1), (1, I n_), (2, I end_), (9, Sl a149 (out_108 ++ [(⟨gi r130.1 0, gi r130.1 1⟩ : Api_Pick)]) c150), (10, I (wR (i_112 + 1)))], []⟩ fun a hS => ?_)
   exact ⟨⟨out_108 ++ [(⟨gi r130.1 0, gi r130.1 1⟩ : Api_Pick)], wR (i_112 + 1)⟩, ⟨ρ, _, a149, c150, hm.1, hS.sl _, hO, h107, h148⟩, hm.2⟩
  replace hm := hm.2 hb
  refine wexit (by rfl) ?_
  exact ⟨ρ, _, out_108, a109, c110, hm, hS.sl _, hO, h111⟩
 rintro a w171 ⟨ρ, χ170, out_101, a102, c103, hm, hS, hO, h104⟩
 unfold VC26_J1 at hm
 refine rP T hS ⟨[(6, Sl a102 out_101 c103), (7, I end_), (8, I 0)], []⟩ fun a hS => ?_
 refine wret ?_
 obtain ⟨χ105, hE, hF⟩ := h104.freeze (by decide)
 replace hS := hS.ev hE (xone_box kr)
 replace hO := hO.mv hE rfl rfl
 have h106 := hF; clear hE hF
 exact fin T hS hO (fun c => c) rfl (r := [.slice a102 out_101.length c103, .int .i64 end_, .int .i64 0]) kr (fun χ' hM hC => ⟨(out_101, end_, 0), hm, a102, c103, rfl, h106.m0 hM⟩)
theorem C26 (k25 : S25) (k40 : S40) (v : ∀ (l_ : List (List Ref05_Token)) (n_ : Int) (end_ : Int), preRp l_ n_ end_ → VC26 l_ n_ end_ (fun r => r = ref39_picks l_ n_ end_)) : S26 := by
 intro w χ l_ n_ end_ a1 c1   hp h1
 refine (W26 k25 k40 w χ l_ n_ end_ a1 c1   _ (v l_ n_ end_ hp) h1).mono ?_
 rintro _ _ _ _ ⟨r, rfl, h⟩
 exact h
theorem W7 (k16 : S16) (k23 : S23) (k24 : S24) (k25 : S25) (k26 : S26) (k27 : S27) (k28 : S28) (w0 : World) (χ0 : Nat → Nat) (s_ : List UInt8) (Q : Api_Verdict × Int × Int → Prop) (hm : VC7 s_ Q) :
  Ret Tryz.prog 7 #[.string (bs s_)] xnone w0 χ0 (fun w χ' v => ∃ r, Q r ∧ ∃ (ra1 : Option Addr) (rc1 : Nat) (ra2 : Option Addr) (rc2 : Nat), v = .tuple #[.agg #[.int .i64 r.1.Kind, .int .i64 r.1.At, .int .i64 r.1.Err, .slice ra1 r.1.Picks.length rc1, .slice ra2 r.1.Proof.length rc2], .int .i64 r.2.1, .int .i64 r.2.2] ∧ RS tApi_Pick w χ' ra1 r.1.Picks rc1 ∧ RS tApi_Step w χ' ra2 r.1.Proof rc2) := by
 unfold VC7 at hm
 refine enter Tryz.func7 rfl (vals := [.string (bs s_)]) kr ?_
 intro ρ a hS hO hM
 clear hM
 refine rM T hS ⟨[(0, Z s_), (2, Pt 3 0)], [(3, (27, [I 0, I 0, I 0, V (.slice none 0 0), V (.slice none 0 0)]))]⟩ fun ρ a w351 χ352 hS hE hr => ?_
 replace hO := hO.mv hE rfl rfl
 clear hE hr
 refine rM T hS ⟨[(0, Z s_), (2, Pt 3 0), (5, Pt 6 0), (6, Pt 7 0)], [(3, (27, [I 0, I 0, I 0, V (.slice none 0 0), V (.slice none 0 0)])), (6, (27, [I 0, I 0, I 0, V (.slice none 0 0), V (.slice none 0 0)])), (7, (27, [I 0, I 0, I 0, V (.slice none 0 0), V (.slice none 0 0)]))]⟩ fun ρ a w349 χ350 hS hE hr => ?_
 replace hO := hO.mv hE rfl rfl
 clear hE hr
 refine wseq (rP T hS ⟨[(0, Z s_), (2, Pt 3 0), (5, Pt 6 0), (6, Pt 7 0), (18, B (decide ((lN s_) > 1000000)))], [(3, (27, [I 0, I 0, I 0, V (.slice none 0 0), V (.slice none 0 0)])), (6, (27, [I 0, I 0, I 0, V (.slice none 0 0), V (.slice none 0 0)])), (7, (27, [I 0, I 0, I 0, V (.slice none 0 0), V (.slice none 0 0)]))]⟩ fun a hS => ?_)
 refine wcond hS (b := decide ((lN s_) > 1000000)) kr (fun hb => ?_) (fun hb => ?_)
 ·replace hm := hm.1 hb
  refine rM T hS ⟨[(2, Pt 3 0), (3, I 0), (4, I 3)], [(3, (27, [I 0, I 0, I 0, V (.slice none 0 0), V (.slice none 0 0)]))]⟩ fun ρ a w101 χ102 hS hE hr => ?_
  replace hO := hO.mv hE rfl rfl
  clear hE hr
  refine wret ?_
  exact fin T hS hO (fun c => c) rfl (r := [.agg #[.int .i64 0, .int .i64 0, .int .i64 0, .slice none 0 0, .slice none 0 0], .int .i64 0, .int .i64 3]) kr (fun χ' hM hC => ⟨((⟨0, 0, 0, [], []⟩ : Api_Verdict), 0, 3), hm, none, 0, none, 0, rfl, RS.empty _ _ _, RS.empty _ _ _⟩)
 replace hm := hm.2 hb
 refine wskip ?_
 refine regO ?_
 refine oP T hS 1 ⟨[(0, Z s_), (2, Pt 3 0), (5, Pt 6 0), (6, Pt 7 0), (20, Z s_)], [(3, (27, [I 0, I 0, I 0, V (.slice none 0 0), V (.slice none 0 0)])), (6, (27, [I 0, I 0, I 0, V (.slice none 0 0), V (.slice none 0 0)])), (7, (27, [I 0, I 0, I 0, V (.slice none 0 0), V (.slice none 0 0)]))]⟩ fun a hS => ?_
 obtain ⟨hq, hm⟩ := hm
 refine op1 (call hS kr kr hb24 kr (fun _ _ => rfl) (k24 _ _ s_ hq) ?_)
 intro v103 a w104 χ105 hE hp hS
 replace hO := hO.mv hE rfl rfl
 obtain ⟨a107, c108, hp, h109⟩ := hp
 obtain ⟨r106, hr⟩ : ∃ r, ref05_Lines s_ = r := ⟨_, rfl⟩
 replace hm := hm r106 hr
 rw [hr] at hp h109
 clear hr
 subst hp
 replace hm := hm (h109.sm kr)
 obtain ⟨hq, hm⟩ := hm
 refine op1 (call hS kr kr hb23 kr (fun _ _ => rfl) (k23 _ _ r106 a107 c108 hq h109) ?_)
 intro v110 a w111 χ112 hE hp hS
 replace hO := hO.mv hE rfl rfl
 replace h109 := h109.mv hE rfl
 obtain ⟨a114, c115, hp, h116⟩ := hp
 obtain ⟨r113, hr⟩ : ∃ r, ref24_Said r106 = r := ⟨_, rfl⟩
 replace hm := hm r113 hr
 rw [hr] at hp h116
 clear hr
 subst hp
 replace hm := hm (h116.sm kr)
 refine eP T hS ⟨[(0, Z s_), (2, Pt 3 0), (5, Pt 6 0), (6, Pt 7 0), (7, Sl a114 r113 c115)], [(3, (27, [I 0, I 0, I 0, V (.slice none 0 0), V (.slice none 0 0)])), (6, (27, [I 0, I 0, I 0, V (.slice none 0 0), V (.slice none 0 0)])), (7, (27, [I 0, I 0, I 0, V (.slice none 0 0), V (.slice none 0 0)]))]⟩ fun a hS => ?_
 refine wseq (rP T hS ⟨[(0, Z s_), (2, Pt 3 0), (5, Pt 6 0), (6, Pt 7 0), (7, Sl a114 r113 c115), (25, B ((lN r113) == 0))], [(3, (27, [I 0, I 0, I 0, V (.slice none 0 0), V (.slice none 0 0)])), (6, (27, [I 0, I 0, I 0, V (.slice none 0 0), V (.slice none 0 0)])), (7, (27, [I 0, I 0, I 0, V (.slice none 0 0), V (.slice none 0 0)]))]⟩ fun a hS => ?_)
 refine wcond hS (b := ((lN r113) == 0)) kr (fun hb => ?_) (fun hb => ?_)
 ·replace hm := hm.1 hb
  refine rM T hS ⟨[(2, Pt 3 0), (3, I (lN s_)), (4, I 4)], [(3, (27, [I 0, I 0, I 0, V (.slice none 0 0), V (.slice none 0 0)]))]⟩ fun ρ a w117 χ118 hS hE hr => ?_
  replace hO := hO.mv hE rfl rfl
  clear hE hr
  refine wret ?_
  exact fin T hS hO (fun c => c) rfl (r := [.agg #[.int .i64 0, .int .i64 0, .int .i64 0, .slice none 0 0, .slice none 0 0], .int .i64 (lN s_), .int .i64 4]) kr (fun χ' hM hC => ⟨((⟨0, 0, 0, [], []⟩ : Api_Verdict), (lN s_), 4), hm, none, 0, none, 0, rfl, RS.empty _ _ _, RS.empty _ _ _⟩)
 replace hm := hm.2 hb
 refine wskip ?_
 refine wcut (fun a w => ∃ (ρ : Nat → Nat) (χ : Nat → Nat) (x_120 : Int) (x_121 : Int) (x_122 : Int) (x_123 : List Api_Pick) (x_127 : List Api_Step) (a124 : Option Addr) (c125 : Nat) (a128 : Option Addr) (c129 : Nat), VC7_J1 s_ Q r113 x_120 x_121 x_122 x_123 x_127 ∧ St Tryz.f7.ntmps ⟨[(0, Z s_), (2, Pt 3 0), (5, Pt 6 0), (6, Pt 7 0), (7, Sl a114 r113 c115)], [(3, (27, [I 0, I 0, I 0, V (.slice none 0 0), V (.slice none 0 0)])), (6, (27, [I 0, I 0, I 0, V (.slice none 0 0), V (.slice none 0 0)])), (7, (27, [I x_120, I x_121, I x_122, Sl a124 x_123 c125, Sl a128 x_127 c129]))]⟩ ρ a w χ ∧ Old w0 χ0 w χ ∧ RS (tSlice tRef05_Token) w χ a114 r113 c115 ∧ RS tApi_Pick w χ a124 x_123 c125 ∧ RS tApi_Step w χ a128 x_127 c129) ?_ ?_
 ·refine rP T hS ⟨[(0, Z s_), (2, Pt 3 0), (5, Pt 6 0), (6, Pt 7 0), (7, Sl a114 r113 c115), (8, I 1)], [(3, (27, [I 0, I 0, I 0, V (.slice none 0 0), V (.slice none 0 0)])), (6, (27, [I 0, I 0, I 0, V (.slice none 0 0), V (.slice none 0 0)])), (7, (27, [I 0, I 0, I 0, V (.slice none 0 0), V (.slice none 0 0)]))]⟩ fun a hS => ?_
  refine wblock ?_
  obtain ⟨I1, μ1, hm0, hm⟩ := hm
  refine wloop (σ := Int × Int × Int × Int × (List Api_Pick) × (List Api_Step)) (fun s a w => ∃ (ρ : Nat → Nat) (χ : Nat → Nat) (a313 : Option Addr) (c314 : Nat) (a317 : Option Addr) (c318 : Nat), I1 s.1 s.2.1 s.2.2.1 s.2.2.2.1 s.2.2.2.2.1 s.2.2.2.2.2 ∧ St Tryz.f7.ntmps ⟨[(0, Z s_), (2, Pt 3 0), (5, Pt 6 0), (6, Pt 7 0), (7, Sl a114 r113 c115), (8, I s.1)], [(3, (27, [I 0, I 0, I 0, V (.slice none 0 0), V (.slice none 0 0)])), (6, (27, [I 0, I 0, I 0, V (.slice none 0 0), V (.slice none 0 0)])), (7, (27, [I s.2.1, I s.2.2.1, I s.2.2.2.1, Sl a313 s.2.2.2.2.1 c314, Sl a317 s.2.2.2.2.2 c318]))]⟩ ρ a w χ ∧ Old w0 χ0 w χ ∧ RS (tSlice tRef05_Token) w χ a114 r113 c115 ∧ RS tApi_Pick w χ a313 s.2.2.2.2.1 c314 ∧ RS tApi_Step w χ a317 s.2.2.2.2.2 c318) (fun s => μ1 s.1 s.2.1 s.2.2.1 s.2.2.2.1 s.2.2.2.2.1 s.2.2.2.2.2) (⟨1, 0, 0, 0, [], []⟩) ?_ ?_
  ·exact ⟨ρ, _, none, 0, none, 0, hm0, hS.sl _, hO, h116, (RS.empty _ _ _), (RS.empty _ _ _)⟩
  rintro ⟨k_308, x_309, x_310, x_311, x_312, x_316⟩ a w346 ⟨ρ, χ345, a313, c314, a317, c318, hI, hS, hO, h307, h315, h319⟩
  replace hm := hm k_308 x_309 x_310 x_311 x_312 x_316 hI
  clear hI hm0
  refine wseq (rP T hS ⟨[(0, Z s_), (2, Pt 3 0), (5, Pt 6 0), (6, Pt 7 0), (7, Sl a114 r113 c115), (8, I k_308), (30, B (decide (k_308 ≤ 5)))], [(3, (27, [I 0, I 0, I 0, V (.slice none 0 0), V (.slice none 0 0)])), (6, (27, [I 0, I 0, I 0, V (.slice none 0 0), V (.slice none 0 0)])), (7, (27, [I x_309, I x_310, I x_311, Sl a313 x_312 c314, Sl a317 x_316 c318]))]⟩ fun a hS => ?_)
  refine wcond hS (b := decide (k_308 ≤ 5)) kr (fun hb => ?_) (fun hb => ?_)
  ·replace hm := hm.1 hb
   refine wskip ?_
   refine wcut (fun a w => ∃ (ρ : Nat → Nat) (χ : Nat → Nat) (x_321 : Int), VC7_J7 I1 μ1 k_308 x_309 x_310 x_311 x_312 x_316 x_321 ∧ St Tryz.f7.ntmps ⟨[(0, Z s_), (2, Pt 3 0), (5, Pt 6 0), (6, Pt 7 0), (7, Sl a114 r113 c115), (8, I k_308)], [(3, (27, [I 0, I 0, I 0, V (.slice none 0 0), V (.slice none 0 0)])), (6, (27, [I 0, I 0, I 0, V (.slice none 0 0), V (.slice none 0 0)])), (7, (27, [I x_321, I x_310, I x_311, Sl a313 x_312 c314, Sl a317 x_316 c318]))]⟩ ρ a w χ ∧ Old w0 χ0 w χ ∧ RS (tSlice tRef05_Token) w χ a114 r113 c115 ∧ RS tApi_Pick w χ a313 x_312 c314 ∧ RS tApi_Step w χ a317 x_316 c318) ?_ ?_
   ·refine wblock ?_
    refine drawnSX [3, 6, 7] mixed hS ?_
    intro w324 χ325 hS hE hD hH
    replace hO := hO.mv hE rfl rfl
    replace h307 := h307.mv hE rfl
    replace h315 := h315.mv hE rfl
    replace h319 := h319.mv hE rfl
    refine tk T [0, 6] [3, 6, 7] hS hH #[true, false, false, false, false, false, true, false, false] 7 ⟨[(0, Z s_), (2, Pt 3 0), (5, Pt 6 0), (6, Pt 7 0), (7, Sl a114 r113 c115), (8, I k_308), (33, Sl a114 r113 c115), (39, I k_308)], [(3, (27, [I 0, I 0, I 0, V (.slice none 0 0), V (.slice none 0 0)])), (6, (27, [I 0, I 0, I 0, V (.slice none 0 0), V (.slice none 0 0)])), (7, (27, [I x_309, I x_310, I x_311, Sl a313 x_312 c314, Sl a317 x_316 c318]))]⟩ fun a hS => ?_
    obtain ⟨hq, hm⟩ := hm
    refine dindex (e := 65) (k := .i64) T 1 hS kr kr kr (by rfl) kr hH kr kr h307 kr kr hq.1 hq.2 ?_
    intro A326 a h327 hS
    have h327b := h327.here
    refine dload1 T 2 hS kr kr kr (by rfl) kr hH kr h327 h327b rfl kr ?_
    intro v328 a hv hS
    obtain ⟨a329, c330, hv, h331⟩ := hv
    cases hv
    replace hm := hm (h331.sm kr)
    obtain ⟨hq, hm⟩ := hm
    refine dindex (e := 64) (k := .i64) T 3 hS kr kr kr (by rfl) kr hH kr kr h331 kr kr hq.1 hq.2 ?_
    intro A332 a h333 hS
    have h333b := h333.here
    refine dfieldA (off := 2) (fsz := 1) (ft := 9) (TF := tStr) (y := (gi (gi r113 0) 0).Text) 4 T hS kr kr kr (by rfl) kr hH kr h333 kr kr kr (fun cs h => Ref05_Token_f2 h) ?_
    intro A334 a h335 hbl hS
    have h335b := h333b
    rw [← hbl] at h335b
    clear hbl
    refine dload1 T 5 hS kr kr kr (by rfl) kr hH kr h335 h335b rfl kr ?_
    intro v336 a hv hS
    cases hv
    refine only 7 kr (by rfl) (call hS kr kr hb16 kr (fun _ _ => rfl) (k16 _ _ k_308) ?_)
    intro v337 a w338 χ339 hE hp hS
    replace hO := hO.mv hE rfl rfl
    replace hD := hD.ev hE rfl
    replace h307 := h307.mv hE rfl
    replace h315 := h315.mv hE rfl
    replace h319 := h319.mv hE rfl
    replace h327 := h327.mv hE rfl
    replace h331 := h331.mv hE rfl
    replace h333 := h333.mv hE rfl
    replace h335 := h335.mv hE rfl
    obtain ⟨r340, hr⟩ : ∃ r, ref39_Word k_308 = r := ⟨_, rfl⟩
    replace hm := hm r340 hr
    rw [hr] at hp
    clear hr
    subst hp
    replace hS := hS.sl ⟨[(0, Z s_), (2, Pt 3 0), (5, Pt 6 0), (6, Pt 7 0), (7, Sl a114 r113 c115), (8, I k_308), (33, Sl a114 r113 c115), (39, I k_308), (34, V (.pointer (some A326))), (35, Sl a329 (gi r113 0) c330), (36, V (.pointer (some A332))), (37, V (.pointer (some A334))), (38, Z ((gi (gi r113 0) 0).Text)), (40, Z r340)], [(3, (27, [I 0, I 0, I 0, V (.slice none 0 0), V (.slice none 0 0)])), (6, (27, [I 0, I 0, I 0, V (.slice none 0 0), V (.slice none 0 0)])), (7, (27, [I x_309, I x_310, I x_311, Sl a313 x_312 c314, Sl a317 x_316 c318]))]⟩
    refine andH (Hold.of hS (bks := [3, 6, 7]) kr hD) ?_
    intro hH
    refine tk T [8] [3, 6, 7] hS hH #[true, true, true, true, true, true, true, true, true] 0 ⟨[(0, Z s_), (2, Pt 3 0), (5, Pt 6 0), (6, Pt 7 0), (7, Sl a114 r113 c115), (8, I k_308), (41, B (((gi (gi r113 0) 0).Text) == r340))], [(3, (27, [I 0, I 0, I 0, V (.slice none 0 0), V (.slice none 0 0)])), (6, (27, [I 0, I 0, I 0, V (.slice none 0 0), V (.slice none 0 0)])), (7, (27, [I x_309, I x_310, I x_311, Sl a313 x_312 c314, Sl a317 x_316 c318]))]⟩ fun a hS => ?_
    refine drawnDone kr ?_
    clear hD hH
    replace hS := hS.sl ⟨[(0, Z s_), (2, Pt 3 0), (5, Pt 6 0), (6, Pt 7 0), (7, Sl a114 r113 c115), (8, I k_308), (41, B (((gi (gi r113 0) 0).Text) == r340))], [(3, (27, [I 0, I 0, I 0, V (.slice none 0 0), V (.slice none 0 0)])), (6, (27, [I 0, I 0, I 0, V (.slice none 0 0), V (.slice none 0 0)])), (7, (27, [I x_309, I x_310, I x_311, Sl a313 x_312 c314, Sl a317 x_316 c318]))]⟩
    refine wcond hS (b := (((gi (gi r113 0) 0).Text) == r340)) kr (fun hb => ?_) (fun hb => ?_)
    ·replace hm := hm.1 hb
     refine region (eM T hS ⟨[(0, Z s_), (2, Pt 3 0), (5, Pt 6 0), (6, Pt 7 0), (7, Sl a114 r113 c115), (8, I k_308)], [(3, (27, [I 0, I 0, I 0, V (.slice none 0 0), V (.slice none 0 0)])), (6, (27, [I 0, I 0, I 0, V (.slice none 0 0), V (.slice none 0 0)])), (7, (27, [I k_308, I x_310, I x_311, Sl a313 x_312 c314, Sl a317 x_316 c318]))]⟩ fun ρ a w341 χ342 hS hE hr => ?_)
     replace hO := hO.mv hE rfl rfl
     replace h307 := h307.mv hE rfl
     replace h315 := h315.mv hE rfl
     replace h319 := h319.mv hE rfl
     clear hE hr
     exact ⟨ρ, _, k_308, hm, hS.sl _, hO, h307, h315, h319⟩
    replace hm := hm.2 hb
    refine wskip ?_
    exact ⟨ρ, _, x_309, hm, hS.sl _, hO, h307, h315, h319⟩
   rintro a w344 ⟨ρ, χ343, x_321, hm, hS, hO, h320, h322, h323⟩
   unfold VC7_J7 at hm
   refine region (eP T hS ⟨[(0, Z s_), (2, Pt 3 0), (5, Pt 6 0), (6, Pt 7 0), (7, Sl a114 r113 c115), (8, I (wR (k_308 + 1)))], [(3, (27, [I 0, I 0, I 0, V (.slice none 0 0), V (.slice none 0 0)])), (6, (27, [I 0, I 0, I 0, V (.slice none 0 0), V (.slice none 0 0)])), (7, (27, [I x_321, I x_310, I x_311, Sl a313 x_312 c314, Sl a317 x_316 c318]))]⟩ fun a hS => ?_)
   exact ⟨⟨wR (k_308 + 1), x_321, x_310, x_311, x_312, x_316⟩, ⟨ρ, _, a313, c314, a317, c318, hm.1, hS.sl _, hO, h320, h322, h323⟩, hm.2⟩
  replace hm := hm.2 hb
  refine wexit (by rfl) ?_
  exact ⟨ρ, _, x_309, x_310, x_311, x_312, x_316, a313, c314, a317, c318, hm, hS.sl _, hO, h307, h315, h319⟩
 rintro a w348 ⟨ρ, χ347, x_120, x_121, x_122, x_123, x_127, a124, c125, a128, c129, hm, hS, hO, h119, h126, h130⟩
 unfold VC7_J1 at hm
 refine wseq (rP T hS ⟨[(0, Z s_), (2, Pt 3 0), (5, Pt 6 0), (6, Pt 7 0), (7, Sl a114 r113 c115), (46, B (x_120 == 0))], [(3, (27, [I 0, I 0, I 0, V (.slice none 0 0), V (.slice none 0 0)])), (6, (27, [I 0, I 0, I 0, V (.slice none 0 0), V (.slice none 0 0)])), (7, (27, [I x_120, I x_121, I x_122, Sl a124 x_123 c125, Sl a128 x_127 c129]))]⟩ fun a hS => ?_)
 refine wcond hS (b := (x_120 == 0)) kr (fun hb => ?_) (fun hb => ?_)
 ·replace hm := hm.1 hb
  replace hS := hS.sl ⟨[(2, Pt 3 0), (5, Pt 6 0), (7, Sl a114 r113 c115)], [(3, (27, [I 0, I 0, I 0, V (.slice none 0 0), V (.slice none 0 0)])), (6, (27, [I 0, I 0, I 0, V (.slice none 0 0), V (.slice none 0 0)]))]⟩
  refine drawnSX [6] mixed hS ?_
  intro w131 χ132 hS hE hD hH
  replace hO := hO.mv hE rfl rfl
  replace h119 := h119.mv hE rfl
  refine tk T [0, 1] [6] hS hH #[true, true, false, false, false, false, false, false, false, false] 8 ⟨[(2, Pt 3 0), (47, V (.agg #[.int .i64 0, .int .i64 0, .int .i64 0, .slice none 0 0, .slice none 0 0])), (48, Sl a114 r113 c115)], [(3, (27, [I 0, I 0, I 0, V (.slice none 0 0), V (.slice none 0 0)])), (6, (27, [I 0, I 0, I 0, V (.slice none 0 0), V (.slice none 0 0)]))]⟩ fun a hS => ?_
  obtain ⟨hq, hm⟩ := hm
  refine dindex (e := 65) (k := .i64) T 2 hS kr kr kr (by rfl) kr hH kr kr h119 kr kr hq.1 hq.2 ?_
  intro A133 a h134 hS
  have h134b := h134.here
  refine dload1 T 3 hS kr kr kr (by rfl) kr hH kr h134 h134b rfl kr ?_
  intro v135 a hv hS
  obtain ⟨a136, c137, hv, h138⟩ := hv
  cases hv
  replace hm := hm (h138.sm kr)
  obtain ⟨hq, hm⟩ := hm
  refine dindex (e := 64) (k := .i64) T 4 hS kr kr kr (by rfl) kr hH kr kr h138 kr kr hq.1 hq.2 ?_
  intro A139 a h140 hS
  have h140b := h140.here
  refine dfieldA (off := 1) (fsz := 1) (ft := 3) (TF := tI) (y := (gi (gi r113 0) 0).At) 5 T hS kr kr kr (by rfl) kr hH kr h140 kr kr kr (fun cs h => Ref05_Token_f1 h) ?_
  intro A141 a h142 hbl hS
  have h142b := h140b
  rw [← hbl] at h142b
  clear hbl
  refine dload1 T 6 hS kr kr kr (by rfl) kr hH kr h142 h142b rfl kr ?_
  intro v143 a hv hS
  cases hv
  replace hS := hS.sl ⟨[(2, Pt 3 0), (47, V (.agg #[.int .i64 0, .int .i64 0, .int .i64 0, .slice none 0 0, .slice none 0 0])), (48, Sl a114 r113 c115), (49, V (.pointer (some A133))), (50, Sl a136 (gi r113 0) c137), (51, V (.pointer (some A139))), (52, V (.pointer (some A141))), (53, I ((gi (gi r113 0) 0).At))], [(3, (27, [I 0, I 0, I 0, V (.slice none 0 0), V (.slice none 0 0)])), (6, (27, [I 0, I 0, I 0, V (.slice none 0 0), V (.slice none 0 0)]))]⟩
  refine only 7 kr (by rfl) (store1 T hS kr kr (sy' := ⟨[(2, Pt 3 0), (47, V (.agg #[.int .i64 0, .int .i64 0, .int .i64 0, .slice none 0 0, .slice none 0 0])), (48, Sl a114 r113 c115), (49, V (.pointer (some A133))), (50, Sl a136 (gi r113 0) c137), (51, V (.pointer (some A139))), (52, V (.pointer (some A141))), (53, I ((gi (gi r113 0) 0).At))], [(3, (27, [I 0, I 0, I 0, V (.slice none 0 0), V (.slice none 0 0)])), (3, (27, [I 0, I 0, I 0, V (.slice none 0 0), V (.slice none 0 0)])), (6, (27, [I 0, I 0, I 0, V (.slice none 0 0), V (.slice none 0 0)]))]⟩) kr ?_)
  intro a w144 χ145 hS hE
  replace hO := hO.mv hE rfl rfl
  replace hD := hD.ev hE rfl
  replace h119 := h119.mv hE rfl
  replace h134 := h134.mv hE rfl
  replace h138 := h138.mv hE rfl
  replace h140 := h140.mv hE rfl
  replace h142 := h142.mv hE rfl
  replace hS := hS.sl ⟨[(2, Pt 3 0), (47, V (.agg #[.int .i64 0, .int .i64 0, .int .i64 0, .slice none 0 0, .slice none 0 0])), (48, Sl a114 r113 c115), (49, V (.pointer (some A133))), (50, Sl a136 (gi r113 0) c137), (51, V (.pointer (some A139))), (52, V (.pointer (some A141))), (53, I ((gi (gi r113 0) 0).At))], [(3, (27, [I 0, I 0, I 0, V (.slice none 0 0), V (.slice none 0 0)])), (6, (27, [I 0, I 0, I 0, V (.slice none 0 0), V (.slice none 0 0)]))]⟩
  refine andH (Hold.of hS (bks := [6]) kr hD) ?_
  intro hH
  refine tk T [8, 9] [6] hS hH #[true, true, true, true, true, true, true, true, true, true] 0 ⟨[(2, Pt 3 0), (3, I ((gi (gi r113 0) 0).At)), (4, I 8)], [(3, (27, [I 0, I 0, I 0, V (.slice none 0 0), V (.slice none 0 0)])), (6, (27, [I 0, I 0, I 0, V (.slice none 0 0), V (.slice none 0 0)]))]⟩ fun a hS => ?_
  refine drawnDone kr ?_
  clear hD hH
  replace hS := hS.sl ⟨[(2, Pt 3 0), (3, I ((gi (gi r113 0) 0).At)), (4, I 8)], [(3, (27, [I 0, I 0, I 0, V (.slice none 0 0), V (.slice none 0 0)]))]⟩
  refine wret ?_
  exact fin T hS hO (fun c => c) rfl (r := [.agg #[.int .i64 0, .int .i64 0, .int .i64 0, .slice none 0 0, .slice none 0 0], .int .i64 ((gi (gi r113 0) 0).At), .int .i64 8]) kr (fun χ' hM hC => ⟨((⟨0, 0, 0, [], []⟩ : Api_Verdict), (gi (gi r113 0) 0).At, 8), hm, none, 0, none, 0, rfl, RS.empty _ _ _, RS.empty _ _ _⟩)
 replace hm := hm.2 hb
 refine wskip ?_
 refine rP T hS ⟨[(0, Z s_), (2, Pt 3 0), (5, Pt 6 0), (6, Pt 7 0), (7, Sl a114 r113 c115), (9, V (.slice none 0 0)), (10, V (.slice none 0 0))], [(3, (27, [I 0, I 0, I 0, V (.slice none 0 0), V (.slice none 0 0)])), (6, (27, [I 0, I 0, I 0, V (.slice none 0 0), V (.slice none 0 0)])), (7, (27, [I x_120, I x_121, I x_122, Sl a124 x_123 c125, Sl a128 x_127 c129]))]⟩ fun a hS => ?_
 refine wcut (fun a w => ∃ (ρ : Nat → Nat) (χ : Nat → Nat) (lo_147 : List Int) (hi_151 : List Int) (a148 : Option Addr) (c149 : Nat) (a152 : Option Addr) (c153 : Nat), VC7_J2 s_ Q r113 x_120 x_121 x_122 x_123 x_127 lo_147 hi_151 ∧ St Tryz.f7.ntmps ⟨[(0, Z s_), (2, Pt 3 0), (5, Pt 6 0), (6, Pt 7 0), (7, Sl a114 r113 c115), (9, Sl a148 lo_147 c149), (10, Sl a152 hi_151 c153)], [(3, (27, [I 0, I 0, I 0, V (.slice none 0 0), V (.slice none 0 0)])), (6, (27, [I 0, I 0, I 0, V (.slice none 0 0), V (.slice none 0 0)])), (7, (27, [I x_120, I x_121, I x_122, Sl a124 x_123 c125, Sl a128 x_127 c129]))]⟩ ρ a w χ ∧ Old w0 χ0 w χ ∧ RS (tSlice tRef05_Token) w χ a114 r113 c115 ∧ RS tI w χ a148 lo_147 c149 ∧ RS tI w χ a152 hi_151 c153 ∧ RS tApi_Pick w χ a124 x_123 c125 ∧ RS tApi_Step w χ a128 x_127 c129) ?_ ?_
 ·refine rP T hS ⟨[(0, Z s_), (2, Pt 3 0), (5, Pt 6 0), (6, Pt 7 0), (7, Sl a114 r113 c115), (9, V (.slice none 0 0)), (10, V (.slice none 0 0)), (56, B (x_120 == 1))], [(3, (27, [I 0, I 0, I 0, V (.slice none 0 0), V (.slice none 0 0)])), (6, (27, [I 0, I 0, I 0, V (.slice none 0 0), V (.slice none 0 0)])), (7, (27, [I x_120, I x_121, I x_122, Sl a124 x_123 c125, Sl a128 x_127 c129]))]⟩ fun a hS => ?_
  refine wcond hS (b := (x_120 == 1)) kr (fun hb => ?_) (fun hb => ?_)
  ·replace hm := hm.1 hb
   refine region ?_
   refine op1 (lit (E := 3) (col := 0) (T := tI) (vals := [.int .i64 0, .int .i64 1]) (ys := [0, 1]) T hS kr kr kr kr (by exact ⟨rfl, rfl, trivial⟩) rfl kr kr kr kr ?_)
   intro b297 a w298 χ299 hE h300 hN hS
   clear hN
   replace hO := hO.mv hE rfl rfl
   replace h119 := h119.mv hE rfl
   replace h126 := h126.mv hE rfl
   replace h130 := h130.mv hE rfl
   replace h300 := h300.rs0
   refine op1 (lit (E := 3) (col := 0) (T := tI) (vals := [.int .i64 1000000, .int .i64 99]) (ys := [1000000, 99]) T hS kr kr kr kr (by exact ⟨rfl, rfl, trivial⟩) rfl kr kr kr kr ?_)
   intro b301 a w302 χ303 hE h304 hN hS
   clear hN
   replace hO := hO.mv hE rfl rfl
   replace h119 := h119.mv hE rfl
   replace h126 := h126.mv hE rfl
   replace h130 := h130.mv hE rfl
   replace h300 := h300.mv hE rfl
   replace h304 := h304.rs0
   refine eP T hS ⟨[(0, Z s_), (2, Pt 3 0), (5, Pt 6 0), (6, Pt 7 0), (7, Sl a114 r113 c115), (9, Sl (some ⟨b297, 0, none⟩) [0, 1] 2), (10, Sl (some ⟨b301, 0, none⟩) [1000000, 99] 2)], [(3, (27, [I 0, I 0, I 0, V (.slice none 0 0), V (.slice none 0 0)])), (6, (27, [I 0, I 0, I 0, V (.slice none 0 0), V (.slice none 0 0)])), (7, (27, [I x_120, I x_121, I x_122, Sl a124 x_123 c125, Sl a128 x_127 c129]))]⟩ fun a hS => ?_
   exact ⟨ρ, _, [0, 1], [1000000, 99], (some ⟨b297, 0, none⟩), 2, (some ⟨b301, 0, none⟩), 2, hm, hS.sl _, hO, h119, h300, h304, h126, h130⟩
  replace hm := hm.2 hb
  refine wskip ?_
  exact ⟨ρ, _, [], [], none, 0, none, 0, hm, hS.sl _, hO, h119, (RS.empty _ _ _), (RS.empty _ _ _), h126, h130⟩
 rintro a w306 ⟨ρ, χ305, lo_147, hi_151, a148, c149, a152, c153, hm, hS, hO, h146, h150, h154, h155, h156⟩
 unfold VC7_J2 at hm
 refine wcut (fun a w => ∃ (ρ : Nat → Nat) (χ : Nat → Nat) (lo_158 : List Int) (hi_162 : List Int) (a159 : Option Addr) (c160 : Nat) (a163 : Option Addr) (c164 : Nat), VC7_J3 s_ Q r113 x_120 x_121 x_122 x_123 x_127 lo_158 hi_162 ∧ St Tryz.f7.ntmps ⟨[(0, Z s_), (2, Pt 3 0), (5, Pt 6 0), (6, Pt 7 0), (7, Sl a114 r113 c115), (9, Sl a159 lo_158 c160), (10, Sl a163 hi_162 c164)], [(3, (27, [I 0, I 0, I 0, V (.slice none 0 0), V (.slice none 0 0)])), (6, (27, [I 0, I 0, I 0, V (.slice none 0 0), V (.slice none 0 0)])), (7, (27, [I x_120, I x_121, I x_122, Sl a124 x_123 c125, Sl a128 x_127 c129]))]⟩ ρ a w χ ∧ Old w0 χ0 w χ ∧ RS (tSlice tRef05_Token) w χ a114 r113 c115 ∧ RS tI w χ a159 lo_158 c160 ∧ RS tI w χ a163 hi_162 c164 ∧ RS tApi_Pick w χ a124 x_123 c125 ∧ RS tApi_Step w χ a128 x_127 c129) ?_ ?_
 ·refine rP T hS ⟨[(0, Z s_), (2, Pt 3 0), (5, Pt 6 0), (6, Pt 7 0), (7, Sl a114 r113 c115), (9, Sl a148 lo_147 c149), (10, Sl a152 hi_151 c153), (61, B (x_120 == 4))], [(3, (27, [I 0, I 0, I 0, V (.slice none 0 0), V (.slice none 0 0)])), (6, (27, [I 0, I 0, I 0, V (.slice none 0 0), V (.slice none 0 0)])), (7, (27, [I x_120, I x_121, I x_122, Sl a124 x_123 c125, Sl a128 x_127 c129]))]⟩ fun a hS => ?_
  refine wcond hS (b := (x_120 == 4)) kr (fun hb => ?_) (fun hb => ?_)
  ·replace hm := hm.1 hb
   refine region ?_
   refine op1 (lit (E := 3) (col := 0) (T := tI) (vals := [.int .i64 0]) (ys := [0]) T hS kr kr kr kr (by exact ⟨rfl, trivial⟩) rfl kr kr kr kr ?_)
   intro b287 a w288 χ289 hE h290 hN hS
   clear hN
   replace hO := hO.mv hE rfl rfl
   replace h146 := h146.mv hE rfl
   replace h150 := h150.mv hE rfl
   replace h154 := h154.mv hE rfl
   replace h155 := h155.mv hE rfl
   replace h156 := h156.mv hE rfl
   replace h290 := h290.rs0
   refine op1 (lit (E := 3) (col := 0) (T := tI) (vals := [.int .i64 64]) (ys := [64]) T hS kr kr kr kr (by exact ⟨rfl, trivial⟩) rfl kr kr kr kr ?_)
   intro b291 a w292 χ293 hE h294 hN hS
   clear hN
   replace hO := hO.mv hE rfl rfl
   replace h146 := h146.mv hE rfl
   replace h150 := h150.mv hE rfl
   replace h154 := h154.mv hE rfl
   replace h155 := h155.mv hE rfl
   replace h156 := h156.mv hE rfl
   replace h290 := h290.mv hE rfl
   replace h294 := h294.rs0
   refine eP T hS ⟨[(0, Z s_), (2, Pt 3 0), (5, Pt 6 0), (6, Pt 7 0), (7, Sl a114 r113 c115), (9, Sl (some ⟨b287, 0, none⟩) [0] 1), (10, Sl (some ⟨b291, 0, none⟩) [64] 1)], [(3, (27, [I 0, I 0, I 0, V (.slice none 0 0), V (.slice none 0 0)])), (6, (27, [I 0, I 0, I 0, V (.slice none 0 0), V (.slice none 0 0)])), (7, (27, [I x_120, I x_121, I x_122, Sl a124 x_123 c125, Sl a128 x_127 c129]))]⟩ fun a hS => ?_
   exact ⟨ρ, _, [0], [64], (some ⟨b287, 0, none⟩), 1, (some ⟨b291, 0, none⟩), 1, hm, hS.sl _, hO, h146, h290, h294, h155, h156⟩
  replace hm := hm.2 hb
  refine wskip ?_
  exact ⟨ρ, _, lo_147, hi_151, a148, c149, a152, c153, hm, hS.sl _, hO, h146, h150, h154, h155, h156⟩
 rintro a w296 ⟨ρ, χ295, lo_158, hi_162, a159, c160, a163, c164, hm, hS, hO, h157, h161, h165, h166, h167⟩
 unfold VC7_J3 at hm
 refine drawnSX [3, 6, 7] mixed hS ?_
 intro w168 χ169 hS hE hD hH
 replace hO := hO.mv hE rfl rfl
 replace h157 := h157.mv hE rfl
 replace h161 := h161.mv hE rfl
 replace h165 := h165.mv hE rfl
 replace h166 := h166.mv hE rfl
 replace h167 := h167.mv hE rfl
 refine tk T [0, 3, 6, 7, 8, 4, 9] [3, 6, 7] hS hH #[true, false, false, true, true, false, true, true, true, true, false, false, false, false, false, false, false, false] 11 ⟨[(0, Z s_), (2, Pt 3 0), (5, Pt 6 0), (6, Pt 7 0), (7, Sl a114 r113 c115), (65, Sl a114 r113 c115), (69, I x_120), (71, Sl a159 lo_158 c160), (72, Sl a163 hi_162 c164), (74, I (lN s_))], [(3, (27, [I 0, I 0, I 0, V (.slice none 0 0), V (.slice none 0 0)])), (6, (27, [I 0, I 0, I 0, V (.slice none 0 0), V (.slice none 0 0)])), (7, (27, [I x_120, I x_121, I x_122, Sl a124 x_123 c125, Sl a128 x_127 c129]))]⟩ fun a hS => ?_
 obtain ⟨hq, hm⟩ := hm
 refine dindex (e := 65) (k := .i64) T 1 hS kr kr kr (by rfl) kr hH kr kr h157 kr kr hq.1 hq.2 ?_
 intro A170 a h171 hS
 have h171b := h171.here
 refine dload1 T 2 hS kr kr kr (by rfl) kr hH kr h171 h171b rfl kr ?_
 intro v172 a hv hS
 obtain ⟨a173, c174, hv, h175⟩ := hv
 cases hv
 replace hm := hm (h175.sm kr)
 refine only 5 kr (by rfl) (call hS kr kr hb16 kr (fun _ _ => rfl) (k16 _ _ x_120) ?_)
 intro v176 a w177 χ178 hE hp hS
 replace hO := hO.mv hE rfl rfl
 replace hD := hD.ev hE rfl
 replace h157 := h157.mv hE rfl
 replace h161 := h161.mv hE rfl
 replace h165 := h165.mv hE rfl
 replace h166 := h166.mv hE rfl
 replace h167 := h167.mv hE rfl
 replace h171 := h171.mv hE rfl
 replace h175 := h175.mv hE rfl
 obtain ⟨r179, hr⟩ : ∃ r, ref39_Word x_120 = r := ⟨_, rfl⟩
 replace hm := hm r179 hr
 rw [hr] at hp
 clear hr
 subst hp
 replace hS := hS.sl ⟨[(0, Z s_), (2, Pt 3 0), (5, Pt 6 0), (6, Pt 7 0), (7, Sl a114 r113 c115), (65, Sl a114 r113 c115), (69, I x_120), (71, Sl a159 lo_158 c160), (72, Sl a163 hi_162 c164), (74, I (lN s_)), (66, V (.pointer (some A170))), (67, Sl a173 (gi r113 0) c174), (70, Z r179)], [(3, (27, [I 0, I 0, I 0, V (.slice none 0 0), V (.slice none 0 0)])), (6, (27, [I 0, I 0, I 0, V (.slice none 0 0), V (.slice none 0 0)])), (7, (27, [I x_120, I x_121, I x_122, Sl a124 x_123 c125, Sl a128 x_127 c129]))]⟩
 refine andH (Hold.of hS (bks := [3, 6, 7]) kr hD) ?_
 intro hH
 obtain ⟨hq, hm⟩ := hm
 refine only 10 kr (by rfl) (call hS kr kr hb25 kr (fun _ _ => rfl) (k25 _ _ (gi r113 0) r179 lo_158 hi_162 (lN s_) a173 c174 a159 c160 a163 c164 hq h175 h161 h165) ?_)
 intro v180 a w181 χ182 hE hp hS
 replace hO := hO.mv hE rfl rfl
 replace hD := hD.ev hE rfl
 replace h157 := h157.mv hE rfl
 replace h161 := h161.mv hE rfl
 replace h165 := h165.mv hE rfl
 replace h166 := h166.mv hE rfl
 replace h167 := h167.mv hE rfl
 replace h171 := h171.mv hE rfl
 replace h175 := h175.mv hE rfl
 obtain ⟨a184, c185, hp, h186⟩ := hp
 obtain ⟨r183, hr⟩ : ∃ r, ref24_Numbers (gi r113 0) r179 lo_158 hi_162 (lN s_) = r := ⟨_, rfl⟩
 replace hm := hm r183 hr
 rw [hr] at hp h186
 clear hr
 subst hp
 replace hm := hm (h186.sm kr)
 replace hS := hS.sl ⟨[(0, Z s_), (2, Pt 3 0), (5, Pt 6 0), (6, Pt 7 0), (7, Sl a114 r113 c115), (65, Sl a114 r113 c115), (69, I x_120), (71, Sl a159 lo_158 c160), (72, Sl a163 hi_162 c164), (74, I (lN s_)), (66, V (.pointer (some A170))), (67, Sl a173 (gi r113 0) c174), (70, Z r179), (75, V (.tuple #[.slice a184 r183.1.length c185, .int .i64 r183.2.1, .int .i64 r183.2.2]))], [(3, (27, [I 0, I 0, I 0, V (.slice none 0 0), V (.slice none 0 0)])), (6, (27, [I 0, I 0, I 0, V (.slice none 0 0), V (.slice none 0 0)])), (7, (27, [I x_120, I x_121, I x_122, Sl a124 x_123 c125, Sl a128 x_127 c129]))]⟩
 refine andH (Hold.of hS (bks := [3, 6, 7]) kr hD) ?_
 intro hH
 refine tk T [11, 12, 13, 14, 15, 16, 17] [3, 6, 7] hS hH #[true, true, true, true, true, true, true, true, true, true, true, true, true, true, true, true, true, true] 0 ⟨[(0, Z s_), (2, Pt 3 0), (5, Pt 6 0), (6, Pt 7 0), (7, Sl a114 r113 c115), (11, Sl a184 r183.1 c185), (12, I r183.2.1), (13, I r183.2.2)], [(3, (27, [I 0, I 0, I 0, V (.slice none 0 0), V (.slice none 0 0)])), (6, (27, [I 0, I 0, I 0, V (.slice none 0 0), V (.slice none 0 0)])), (7, (27, [I x_120, I x_121, I x_122, Sl a124 x_123 c125, Sl a128 x_127 c129]))]⟩ fun a hS => ?_
 refine drawnDone kr ?_
 clear hD hH
 replace hS := hS.sl ⟨[(0, Z s_), (2, Pt 3 0), (5, Pt 6 0), (6, Pt 7 0), (7, Sl a114 r113 c115), (11, Sl a184 r183.1 c185), (12, I r183.2.1), (13, I r183.2.2)], [(3, (27, [I 0, I 0, I 0, V (.slice none 0 0), V (.slice none 0 0)])), (6, (27, [I 0, I 0, I 0, V (.slice none 0 0), V (.slice none 0 0)])), (7, (27, [I x_120, I x_121, I x_122, Sl a124 x_123 c125, Sl a128 x_127 c129]))]⟩
 refine wseq (rP T hS ⟨[(0, Z s_), (2, Pt 3 0), (5, Pt 6 0), (6, Pt 7 0), (7, Sl a114 r113 c115), (11, Sl a184 r183.1 c185), (12, I r183.2.1), (13, I r183.2.2), (80, B (r183.2.2 != 0))], [(3, (27, [I 0, I 0, I 0, V (.slice none 0 0), V (.slice none 0 0)])), (6, (27, [I 0, I 0, I 0, V (.slice none 0 0), V (.slice none 0 0)])), (7, (27, [I x_120, I x_121, I x_122, Sl a124 x_123 c125, Sl a128 x_127 c129]))]⟩ fun a hS => ?_)
 refine wcond hS (b := (r183.2.2 != 0)) kr (fun hb => ?_) (fun hb => ?_)
 ·replace hm := hm.1 hb
  refine rM T hS ⟨[(2, Pt 3 0), (3, I r183.2.1), (4, I r183.2.2)], [(3, (27, [I 0, I 0, I 0, V (.slice none 0 0), V (.slice none 0 0)]))]⟩ fun ρ a w187 χ188 hS hE hr => ?_
  replace hO := hO.mv hE rfl rfl
  clear hE hr
  refine wret ?_
  exact fin T hS hO (fun c => c) rfl (r := [.agg #[.int .i64 0, .int .i64 0, .int .i64 0, .slice none 0 0, .slice none 0 0], .int .i64 r183.2.1, .int .i64 r183.2.2]) kr (fun χ' hM hC => ⟨((⟨0, 0, 0, [], []⟩ : Api_Verdict), r183.2.1, r183.2.2), hm, none, 0, none, 0, rfl, RS.empty _ _ _, RS.empty _ _ _⟩)
 replace hm := hm.2 hb
 refine wskip ?_
 refine rP T hS ⟨[(0, Z s_), (2, Pt 3 0), (5, Pt 6 0), (6, Pt 7 0), (7, Sl a114 r113 c115), (11, Sl a184 r183.1 c185), (12, I r183.2.1), (13, I r183.2.2), (14, I 1)], [(3, (27, [I 0, I 0, I 0, V (.slice none 0 0), V (.slice none 0 0)])), (6, (27, [I 0, I 0, I 0, V (.slice none 0 0), V (.slice none 0 0)])), (7, (27, [I x_120, I x_121, I x_122, Sl a124 x_123 c125, Sl a128 x_127 c129]))]⟩ fun a hS => ?_
 refine wcut (fun a w => ∃ (ρ : Nat → Nat) (χ : Nat → Nat) (x_191 : Int) (x_192 : Int), VC7_J4 s_ Q r113 x_120 x_123 x_127 r183 x_191 x_192 ∧ St Tryz.f7.ntmps ⟨[(0, Z s_), (2, Pt 3 0), (5, Pt 6 0), (6, Pt 7 0), (7, Sl a114 r113 c115), (11, Sl a184 r183.1 c185), (12, I r183.2.1), (13, I r183.2.2), (14, I 1)], [(3, (27, [I 0, I 0, I 0, V (.slice none 0 0), V (.slice none 0 0)])), (6, (27, [I 0, I 0, I 0, V (.slice none 0 0), V (.slice none 0 0)])), (7, (27, [I x_120, I x_191, I x_192, Sl a124 x_123 c125, Sl a128 x_127 c129]))]⟩ ρ a w χ ∧ Old w0 χ0 w χ ∧ RS (tSlice tRef05_Token) w χ a114 r113 c115 ∧ RS tI w χ a184 r183.1 c185 ∧ RS tApi_Pick w χ a124 x_123 c125 ∧ RS tApi_Step w χ a128 x_127 c129) ?_ ?_
 ·refine rP T hS ⟨[(0, Z s_), (2, Pt 3 0), (5, Pt 6 0), (6, Pt 7 0), (7, Sl a114 r113 c115), (11, Sl a184 r183.1 c185), (12, I r183.2.1), (13, I r183.2.2), (14, I 1), (86, B (x_120 == 1))], [(3, (27, [I 0, I 0, I 0, V (.slice none 0 0), V (.slice none 0 0)])), (6, (27, [I 0, I 0, I 0, V (.slice none 0 0), V (.slice none 0 0)])), (7, (27, [I x_120, I x_121, I x_122, Sl a124 x_123 c125, Sl a128 x_127 c129]))]⟩ fun a hS => ?_
  refine wcond hS (b := (x_120 == 1)) kr (fun hb => ?_) (fun hb => ?_)
  ·replace hm := hm.1 hb
   refine regO ?_
   refine oP T hS 1 ⟨[(0, Z s_), (2, Pt 3 0), (5, Pt 6 0), (6, Pt 7 0), (7, Sl a114 r113 c115), (11, Sl a184 r183.1 c185), (12, I r183.2.1), (13, I r183.2.2), (14, I 1), (87, Sl a184 r183.1 c185)], [(3, (27, [I 0, I 0, I 0, V (.slice none 0 0), V (.slice none 0 0)])), (6, (27, [I 0, I 0, I 0, V (.slice none 0 0), V (.slice none 0 0)])), (7, (27, [I x_120, I x_121, I x_122, Sl a124 x_123 c125, Sl a128 x_127 c129]))]⟩ fun a hS => ?_
   obtain ⟨hq, hm⟩ := hm
   refine op1 (index (e := 3) (k := .i64) T hS kr kr kr kr h186 kr kr hq.1 hq.2 ?_)
   intro A275 a h276 hS
   refine op1 (load1 T hS kr kr kr h276 rfl kr ?_)
   intro v277 a hv hS
   cases hv
   refine eM T hS ⟨[(0, Z s_), (2, Pt 3 0), (5, Pt 6 0), (6, Pt 7 0), (7, Sl a114 r113 c115), (11, Sl a184 r183.1 c185), (12, I r183.2.1), (13, I r183.2.2), (14, I 1)], [(3, (27, [I 0, I 0, I 0, V (.slice none 0 0), V (.slice none 0 0)])), (6, (27, [I 0, I 0, I 0, V (.slice none 0 0), V (.slice none 0 0)])), (7, (27, [I x_120, I (gi r183.1 0), I x_122, Sl a124 x_123 c125, Sl a128 x_127 c129]))]⟩ fun ρ a w283 χ284 hS hE hr => ?_
   replace hO := hO.mv hE rfl rfl
   replace h157 := h157.mv hE rfl
   replace h166 := h166.mv hE rfl
   replace h167 := h167.mv hE rfl
   replace h186 := h186.mv hE rfl
   clear hE hr
   refine region ?_
   refine oP T hS 1 ⟨[(0, Z s_), (2, Pt 3 0), (5, Pt 6 0), (6, Pt 7 0), (7, Sl a114 r113 c115), (11, Sl a184 r183.1 c185), (12, I r183.2.1), (13, I r183.2.2), (14, I 1), (91, Sl a184 r183.1 c185)], [(3, (27, [I 0, I 0, I 0, V (.slice none 0 0), V (.slice none 0 0)])), (6, (27, [I 0, I 0, I 0, V (.slice none 0 0), V (.slice none 0 0)])), (7, (27, [I x_120, I (gi r183.1 0), I x_122, Sl a124 x_123 c125, Sl a128 x_127 c129]))]⟩ fun a hS => ?_
   obtain ⟨hq, hm⟩ := hm
   refine op1 (index (e := 3) (k := .i64) T hS kr kr kr kr h186 kr kr hq.1 hq.2 ?_)
   intro A278 a h279 hS
   refine op1 (load1 T hS kr kr kr h279 rfl kr ?_)
   intro v280 a hv hS
   cases hv
   refine eM T hS ⟨[(0, Z s_), (2, Pt 3 0), (5, Pt 6 0), (6, Pt 7 0), (7, Sl a114 r113 c115), (11, Sl a184 r183.1 c185), (12, I r183.2.1), (13, I r183.2.2), (14, I 1)], [(3, (27, [I 0, I 0, I 0, V (.slice none 0 0), V (.slice none 0 0)])), (6, (27, [I 0, I 0, I 0, V (.slice none 0 0), V (.slice none 0 0)])), (7, (27, [I x_120, I (gi r183.1 0), I (gi r183.1 1), Sl a124 x_123 c125, Sl a128 x_127 c129]))]⟩ fun ρ a w281 χ282 hS hE hr => ?_
   replace hO := hO.mv hE rfl rfl
   replace h157 := h157.mv hE rfl
   replace h166 := h166.mv hE rfl
   replace h167 := h167.mv hE rfl
   replace h186 := h186.mv hE rfl
   clear hE hr
   exact ⟨ρ, _, gi r183.1 0, gi r183.1 1, hm, hS.sl _, hO, h157, h186, h166, h167⟩
  replace hm := hm.2 hb
  refine wskip ?_
  exact ⟨ρ, _, x_121, x_122, hm, hS.sl _, hO, h157, h186, h166, h167⟩
 rintro a w286 ⟨ρ, χ285, x_191, x_192, hm, hS, hO, h189, h190, h193, h194⟩
 unfold VC7_J4 at hm
 refine wcut (fun a w => ∃ (ρ : Nat → Nat) (χ : Nat → Nat) (at_196 : Int) (e_197 : Int) (taken_198 : Int) (x_199 : List Api_Pick) (a200 : Option Addr) (c201 : Nat), VC7_J5 s_ Q r113 x_120 x_127 x_191 x_192 at_196 e_197 taken_198 x_199 ∧ St Tryz.f7.ntmps ⟨[(0, Z s_), (2, Pt 3 0), (5, Pt 6 0), (6, Pt 7 0), (7, Sl a114 r113 c115), (12, I at_196), (13, I e_197), (14, I taken_198)], [(3, (27, [I 0, I 0, I 0, V (.slice none 0 0), V (.slice none 0 0)])), (6, (27, [I 0, I 0, I 0, V (.slice none 0 0), V (.slice none 0 0)])), (7, (27, [I x_120, I x_191, I x_192, Sl a200 x_199 c201, Sl a128 x_127 c129]))]⟩ ρ a w χ ∧ Old w0 χ0 w χ ∧ RS (tSlice tRef05_Token) w χ a114 r113 c115 ∧ RS tApi_Pick w χ a200 x_199 c201 ∧ RS tApi_Step w χ a128 x_127 c129) ?_ ?_
 ·refine rP T hS ⟨[(0, Z s_), (2, Pt 3 0), (5, Pt 6 0), (6, Pt 7 0), (7, Sl a114 r113 c115), (11, Sl a184 r183.1 c185), (12, I r183.2.1), (13, I r183.2.2), (14, I 1), (97, B (x_120 == 4))], [(3, (27, [I 0, I 0, I 0, V (.slice none 0 0), V (.slice none 0 0)])), (6, (27, [I 0, I 0, I 0, V (.slice none 0 0), V (.slice none 0 0)])), (7, (27, [I x_120, I x_191, I x_192, Sl a124 x_123 c125, Sl a128 x_127 c129]))]⟩ fun a hS => ?_
  refine wcond hS (b := (x_120 == 4)) kr (fun hb => ?_) (fun hb => ?_)
  ·replace hm := hm.1 hb
   refine regO ?_
   refine oP T hS 2 ⟨[(0, Z s_), (2, Pt 3 0), (5, Pt 6 0), (6, Pt 7 0), (7, Sl a114 r113 c115), (11, Sl a184 r183.1 c185), (12, I r183.2.1), (13, I r183.2.2), (99, Sl a114 r113 c115), (100, Sl a184 r183.1 c185)], [(3, (27, [I 0, I 0, I 0, V (.slice none 0 0), V (.slice none 0 0)])), (6, (27, [I 0, I 0, I 0, V (.slice none 0 0), V (.slice none 0 0)])), (7, (27, [I x_120, I x_191, I x_192, Sl a124 x_123 c125, Sl a128 x_127 c129]))]⟩ fun a hS => ?_
   obtain ⟨hq, hm⟩ := hm
   refine op1 (index (e := 3) (k := .i64) T hS kr kr kr kr h190 kr kr hq.1 hq.2 ?_)
   intro A258 a h259 hS
   refine op1 (load1 T hS kr kr kr h259 rfl kr ?_)
   intro v260 a hv hS
   cases hv
   refine oP T hS 2 ⟨[(0, Z s_), (2, Pt 3 0), (5, Pt 6 0), (6, Pt 7 0), (7, Sl a114 r113 c115), (11, Sl a184 r183.1 c185), (12, I r183.2.1), (13, I r183.2.2), (99, Sl a114 r113 c115), (102, I (gi r183.1 0)), (104, I (lN s_))], [(3, (27, [I 0, I 0, I 0, V (.slice none 0 0), V (.slice none 0 0)])), (6, (27, [I 0, I 0, I 0, V (.slice none 0 0), V (.slice none 0 0)])), (7, (27, [I x_120, I x_191, I x_192, Sl a124 x_123 c125, Sl a128 x_127 c129]))]⟩ fun a hS => ?_
   obtain ⟨hq, hm⟩ := hm
   refine op1 (call hS kr kr hb26 kr (fun _ _ => rfl) (k26 _ _ r113 (gi r183.1 0) (lN s_) a114 c115 hq h189) ?_)
   intro v261 a w262 χ263 hE hp hS
   replace hO := hO.mv hE rfl rfl
   replace h189 := h189.mv hE rfl
   replace h190 := h190.mv hE rfl
   replace h193 := h193.mv hE rfl
   replace h194 := h194.mv hE rfl
   obtain ⟨a265, c266, hp, h267⟩ := hp
   obtain ⟨r264, hr⟩ : ∃ r, ref39_picks r113 (gi r183.1 0) (lN s_) = r := ⟨_, rfl⟩
   replace hm := hm r264 hr
   rw [hr] at hp h267
   clear hr
   subst hp
   replace hm := hm (h267.sm kr)
   refine eM T hS ⟨[(0, Z s_), (2, Pt 3 0), (5, Pt 6 0), (6, Pt 7 0), (7, Sl a114 r113 c115), (11, Sl a184 r183.1 c185), (12, I r264.2.1), (13, I r264.2.2)], [(3, (27, [I 0, I 0, I 0, V (.slice none 0 0), V (.slice none 0 0)])), (6, (27, [I 0, I 0, I 0, V (.slice none 0 0), V (.slice none 0 0)])), (7, (27, [I x_120, I x_191, I x_192, Sl a265 r264.1 c266, Sl a128 x_127 c129]))]⟩ fun ρ a w271 χ272 hS hE hr => ?_
   replace hO := hO.mv hE rfl rfl
   replace h189 := h189.mv hE rfl
   replace h190 := h190.mv hE rfl
   replace h194 := h194.mv hE rfl
   replace h267 := h267.mv hE rfl
   clear hE hr
   refine region ?_
   refine oP T hS 1 ⟨[(0, Z s_), (2, Pt 3 0), (5, Pt 6 0), (6, Pt 7 0), (7, Sl a114 r113 c115), (12, I r264.2.1), (13, I r264.2.2), (110, Sl a184 r183.1 c185)], [(3, (27, [I 0, I 0, I 0, V (.slice none 0 0), V (.slice none 0 0)])), (6, (27, [I 0, I 0, I 0, V (.slice none 0 0), V (.slice none 0 0)])), (7, (27, [I x_120, I x_191, I x_192, Sl a265 r264.1 c266, Sl a128 x_127 c129]))]⟩ fun a hS => ?_
   obtain ⟨hq, hm⟩ := hm
   refine op1 (index (e := 3) (k := .i64) T hS kr kr kr kr h190 kr kr hq.1 hq.2 ?_)
   intro A268 a h269 hS
   refine op1 (load1 T hS kr kr kr h269 rfl kr ?_)
   intro v270 a hv hS
   cases hv
   refine eP T hS ⟨[(0, Z s_), (2, Pt 3 0), (5, Pt 6 0), (6, Pt 7 0), (7, Sl a114 r113 c115), (12, I r264.2.1), (13, I r264.2.2), (14, I (wR (1 + (gi r183.1 0))))], [(3, (27, [I 0, I 0, I 0, V (.slice none 0 0), V (.slice none 0 0)])), (6, (27, [I 0, I 0, I 0, V (.slice none 0 0), V (.slice none 0 0)])), (7, (27, [I x_120, I x_191, I x_192, Sl a265 r264.1 c266, Sl a128 x_127 c129]))]⟩ fun a hS => ?_
   exact ⟨ρ, _, r264.2.1, r264.2.2, wR (1 + (gi r183.1 0)), r264.1, a265, c266, hm, hS.sl _, hO, h189, h267, h194⟩
  replace hm := hm.2 hb
  refine wskip ?_
  exact ⟨ρ, _, r183.2.1, r183.2.2, 1, x_123, a124, c125, hm, hS.sl _, hO, h189, h193, h194⟩
 rintro a w274 ⟨ρ, χ273, at_196, e_197, taken_198, x_199, a200, c201, hm, hS, hO, h195, h202, h203⟩
 unfold VC7_J5 at hm
 refine wcut (fun a w => ∃ (ρ : Nat → Nat) (χ : Nat → Nat) (at_205 : Int) (e_206 : Int) (taken_207 : Int) (x_209 : List Api_Step) (a210 : Option Addr) (c211 : Nat), VC7_J6 s_ Q r113 x_120 x_191 x_192 x_199 at_205 e_206 taken_207 x_209 ∧ St Tryz.f7.ntmps ⟨[(0, Z s_), (2, Pt 3 0), (5, Pt 6 0), (6, Pt 7 0), (7, Sl a114 r113 c115), (12, I at_205), (13, I e_206), (14, I taken_207)], [(3, (27, [I 0, I 0, I 0, V (.slice none 0 0), V (.slice none 0 0)])), (6, (27, [I 0, I 0, I 0, V (.slice none 0 0), V (.slice none 0 0)])), (7, (27, [I x_120, I x_191, I x_192, Sl a200 x_199 c201, Sl a210 x_209 c211]))]⟩ ρ a w χ ∧ Old w0 χ0 w χ ∧ RS (tSlice tRef05_Token) w χ a114 r113 c115 ∧ RS tApi_Pick w χ a200 x_199 c201 ∧ RS tApi_Step w χ a210 x_209 c211) ?_ ?_
 ·refine rP T hS ⟨[(0, Z s_), (2, Pt 3 0), (5, Pt 6 0), (6, Pt 7 0), (7, Sl a114 r113 c115), (12, I at_196), (13, I e_197), (14, I taken_198), (116, B (x_120 == 5))], [(3, (27, [I 0, I 0, I 0, V (.slice none 0 0), V (.slice none 0 0)])), (6, (27, [I 0, I 0, I 0, V (.slice none 0 0), V (.slice none 0 0)])), (7, (27, [I x_120, I x_191, I x_192, Sl a200 x_199 c201, Sl a128 x_127 c129]))]⟩ fun a hS => ?_
  refine wcond hS (b := (x_120 == 5)) kr (fun hb => ?_) (fun hb => ?_)
  ·replace hm := hm.1 hb
   refine regO ?_
   refine oP T hS 2 ⟨[(0, Z s_), (2, Pt 3 0), (5, Pt 6 0), (6, Pt 7 0), (7, Sl a114 r113 c115), (117, Z s_), (118, Sl a114 r113 c115)], [(3, (27, [I 0, I 0, I 0, V (.slice none 0 0), V (.slice none 0 0)])), (6, (27, [I 0, I 0, I 0, V (.slice none 0 0), V (.slice none 0 0)])), (7, (27, [I x_120, I x_191, I x_192, Sl a200 x_199 c201, Sl a128 x_127 c129]))]⟩ fun a hS => ?_
   obtain ⟨hq, hm⟩ := hm
   refine op1 (index (e := 65) (k := .i64) T hS kr kr kr kr h195 kr kr hq.1 hq.2 ?_)
   intro A232 a h233 hS
   refine op1 (load1 T hS kr kr kr h233 rfl kr ?_)
   intro v234 a hv hS
   obtain ⟨a235, c236, hv, h237⟩ := hv
   cases hv
   replace hm := hm (h237.sm kr)
   obtain ⟨hq, hm⟩ := hm
   refine op1 (index (e := 64) (k := .i64) T hS kr kr kr kr h237 kr kr hq.1 hq.2 ?_)
   intro A238 a h239 hS
   refine op1 (fieldA (off := 1) (fsz := 1) (ft := 3) (TF := tI) (y := (gi (gi r113 0) 0).At) T hS kr kr kr h239 kr kr kr (fun cs h => Ref05_Token_f1 h) ?_)
   intro A240 a h241 hS
   refine op1 (load1 T hS kr kr kr h241 rfl kr ?_)
   intro v242 a hv hS
   cases hv
   obtain ⟨hq, hm⟩ := hm
   refine op1 (call hS kr kr hb27 kr (fun _ _ => rfl) (k27 _ _ s_ ((gi (gi r113 0) 0).At) hq) ?_)
   intro v243 a w244 χ245 hE hp hS
   replace hO := hO.mv hE rfl rfl
   replace h195 := h195.mv hE rfl
   replace h202 := h202.mv hE rfl
   replace h203 := h203.mv hE rfl
   replace h233 := h233.mv hE rfl
   replace h237 := h237.mv hE rfl
   replace h239 := h239.mv hE rfl
   replace h241 := h241.mv hE rfl
   obtain ⟨r246, hr⟩ : ∃ r, ref39_behind s_ ((gi (gi r113 0) 0).At) = r := ⟨_, rfl⟩
   replace hm := hm r246 hr
   rw [hr] at hp
   clear hr
   subst hp
   refine eP T hS ⟨[(0, Z s_), (2, Pt 3 0), (5, Pt 6 0), (6, Pt 7 0), (7, Sl a114 r113 c115), (15, I r246)], [(3, (27, [I 0, I 0, I 0, V (.slice none 0 0), V (.slice none 0 0)])), (6, (27, [I 0, I 0, I 0, V (.slice none 0 0), V (.slice none 0 0)])), (7, (27, [I x_120, I x_191, I x_192, Sl a200 x_199 c201, Sl a128 x_127 c129]))]⟩ fun a hS => ?_
   refine regO ?_
   refine oP T hS 2 ⟨[(0, Z s_), (2, Pt 3 0), (5, Pt 6 0), (6, Pt 7 0), (7, Sl a114 r113 c115), (15, I r246), (126, Z s_), (127, I r246)], [(3, (27, [I 0, I 0, I 0, V (.slice none 0 0), V (.slice none 0 0)])), (6, (27, [I 0, I 0, I 0, V (.slice none 0 0), V (.slice none 0 0)])), (7, (27, [I x_120, I x_191, I x_192, Sl a200 x_199 c201, Sl a128 x_127 c129]))]⟩ fun a hS => ?_
   obtain ⟨hq, hm⟩ := hm
   refine op1 (sslice1 (kl := .i64) (s := s_) T hS kr kr kr kr kr hq.1 hq.2 ?_)
   intro a hS
   refine op1 (call hS kr kr hb28 kr (fun _ _ => rfl) (k28 _ _ (s_.drop r246.toNat)) ?_)
   intro v247 a w248 χ249 hE hp hS
   replace hO := hO.mv hE rfl rfl
   replace h195 := h195.mv hE rfl
   replace h202 := h202.mv hE rfl
   replace h203 := h203.mv hE rfl
   obtain ⟨a251, c252, hp, h253⟩ := hp
   obtain ⟨r250, hr⟩ : ∃ r, ref10_Parse (s_.drop r246.toNat) = r := ⟨_, rfl⟩
   replace hm := hm r250 hr
   rw [hr] at hp h253
   clear hr
   subst hp
   replace hm := hm (h253.sm kr)
   refine eM T hS ⟨[(0, Z s_), (2, Pt 3 0), (5, Pt 6 0), (6, Pt 7 0), (7, Sl a114 r113 c115), (12, I r250.2.1), (13, I r250.2.2), (15, I r246)], [(3, (27, [I 0, I 0, I 0, V (.slice none 0 0), V (.slice none 0 0)])), (6, (27, [I 0, I 0, I 0, V (.slice none 0 0), V (.slice none 0 0)])), (7, (27, [I x_120, I x_191, I x_192, Sl a200 x_199 c201, Sl a251 r250.1 c252]))]⟩ fun ρ a w254 χ255 hS hE hr => ?_
   replace hO := hO.mv hE rfl rfl
   replace h195 := h195.mv hE rfl
   replace h202 := h202.mv hE rfl
   replace h253 := h253.mv hE rfl
   clear hE hr
   refine rP T hS ⟨[(0, Z s_), (2, Pt 3 0), (5, Pt 6 0), (6, Pt 7 0), (7, Sl a114 r113 c115), (12, I (wR (r246 + r250.2.1))), (13, I r250.2.2)], [(3, (27, [I 0, I 0, I 0, V (.slice none 0 0), V (.slice none 0 0)])), (6, (27, [I 0, I 0, I 0, V (.slice none 0 0), V (.slice none 0 0)])), (7, (27, [I x_120, I x_191, I x_192, Sl a200 x_199 c201, Sl a251 r250.1 c252]))]⟩ fun a hS => ?_
   refine region (eP T hS ⟨[(0, Z s_), (2, Pt 3 0), (5, Pt 6 0), (6, Pt 7 0), (7, Sl a114 r113 c115), (12, I (wR (r246 + r250.2.1))), (13, I r250.2.2), (14, I (lN r113))], [(3, (27, [I 0, I 0, I 0, V (.slice none 0 0), V (.slice none 0 0)])), (6, (27, [I 0, I 0, I 0, V (.slice none 0 0), V (.slice none 0 0)])), (7, (27, [I x_120, I x_191, I x_192, Sl a200 x_199 c201, Sl a251 r250.1 c252]))]⟩ fun a hS => ?_)
   exact ⟨ρ, _, wR (r246 + r250.2.1), r250.2.2, (lN r113), r250.1, a251, c252, hm, hS.sl _, hO, h195, h202, h253⟩
  replace hm := hm.2 hb
  refine wskip ?_
  exact ⟨ρ, _, at_196, e_197, taken_198, x_127, a128, c129, hm, hS.sl _, hO, h195, h202, h203⟩
 rintro a w257 ⟨ρ, χ256, at_205, e_206, taken_207, x_209, a210, c211, hm, hS, hO, h204, h208, h212⟩
 unfold VC7_J6 at hm
 refine wseq (rP T hS ⟨[(0, Z s_), (2, Pt 3 0), (5, Pt 6 0), (6, Pt 7 0), (7, Sl a114 r113 c115), (12, I at_205), (13, I e_206), (14, I taken_207), (140, B (e_206 != 0))], [(3, (27, [I 0, I 0, I 0, V (.slice none 0 0), V (.slice none 0 0)])), (6, (27, [I 0, I 0, I 0, V (.slice none 0 0), V (.slice none 0 0)])), (7, (27, [I x_120, I x_191, I x_192, Sl a200 x_199 c201, Sl a210 x_209 c211]))]⟩ fun a hS => ?_)
 refine wcond hS (b := (e_206 != 0)) kr (fun hb => ?_) (fun hb => ?_)
 ·replace hm := hm.1 hb
  refine rM T hS ⟨[(2, Pt 3 0), (3, I at_205), (4, I e_206)], [(3, (27, [I 0, I 0, I 0, V (.slice none 0 0), V (.slice none 0 0)]))]⟩ fun ρ a w213 χ214 hS hE hr => ?_
  replace hO := hO.mv hE rfl rfl
  clear hE hr
  refine wret ?_
  exact fin T hS hO (fun c => c) rfl (r := [.agg #[.int .i64 0, .int .i64 0, .int .i64 0, .slice none 0 0, .slice none 0 0], .int .i64 at_205, .int .i64 e_206]) kr (fun χ' hM hC => ⟨((⟨0, 0, 0, [], []⟩ : Api_Verdict), at_205, e_206), hm, none, 0, none, 0, rfl, RS.empty _ _ _, RS.empty _ _ _⟩)
 replace hm := hm.2 hb
 refine wskip ?_
 refine wseq (rP T hS ⟨[(0, Z s_), (2, Pt 3 0), (5, Pt 6 0), (6, Pt 7 0), (7, Sl a114 r113 c115), (14, I taken_207), (147, B (decide (taken_207 < (lN r113))))], [(3, (27, [I 0, I 0, I 0, V (.slice none 0 0), V (.slice none 0 0)])), (6, (27, [I 0, I 0, I 0, V (.slice none 0 0), V (.slice none 0 0)])), (7, (27, [I x_120, I x_191, I x_192, Sl a200 x_199 c201, Sl a210 x_209 c211]))]⟩ fun a hS => ?_)
 refine wcond hS (b := decide (taken_207 < (lN r113))) kr (fun hb => ?_) (fun hb => ?_)
 ·replace hm := hm.1 hb
  replace hS := hS.sl ⟨[(2, Pt 3 0), (5, Pt 6 0), (7, Sl a114 r113 c115), (14, I taken_207)], [(3, (27, [I 0, I 0, I 0, V (.slice none 0 0), V (.slice none 0 0)])), (6, (27, [I 0, I 0, I 0, V (.slice none 0 0), V (.slice none 0 0)]))]⟩
  refine drawnSX [6] mixed hS ?_
  intro w215 χ216 hS hE hD hH
  replace hO := hO.mv hE rfl rfl
  replace h204 := h204.mv hE rfl
  refine tk T [0, 1, 2] [6] hS hH #[true, true, true, false, false, false, false, false, false, false, false] 8 ⟨[(2, Pt 3 0), (148, V (.agg #[.int .i64 0, .int .i64 0, .int .i64 0, .slice none 0 0, .slice none 0 0])), (149, Sl a114 r113 c115), (150, I taken_207)], [(3, (27, [I 0, I 0, I 0, V (.slice none 0 0), V (.slice none 0 0)])), (6, (27, [I 0, I 0, I 0, V (.slice none 0 0), V (.slice none 0 0)]))]⟩ fun a hS => ?_
  obtain ⟨hq, hm⟩ := hm
  refine dindex (e := 65) (k := .i64) T 3 hS kr kr kr (by rfl) kr hH kr kr h204 kr kr hq.1 hq.2 ?_
  intro A217 a h218 hS
  have h218b := h218.here
  refine dload1 T 4 hS kr kr kr (by rfl) kr hH kr h218 h218b rfl kr ?_
  intro v219 a hv hS
  obtain ⟨a220, c221, hv, h222⟩ := hv
  cases hv
  replace hm := hm (h222.sm kr)
  obtain ⟨hq, hm⟩ := hm
  refine dindex (e := 64) (k := .i64) T 5 hS kr kr kr (by rfl) kr hH kr kr h222 kr kr hq.1 hq.2 ?_
  intro A223 a h224 hS
  have h224b := h224.here
  refine dfieldA (off := 1) (fsz := 1) (ft := 3) (TF := tI) (y := (gi (gi r113 taken_207) 0).At) 6 T hS kr kr kr (by rfl) kr hH kr h224 kr kr kr (fun cs h => Ref05_Token_f1 h) ?_
  intro A225 a h226 hbl hS
  have h226b := h224b
  rw [← hbl] at h226b
  clear hbl
  refine dload1 T 7 hS kr kr kr (by rfl) kr hH kr h226 h226b rfl kr ?_
  intro v227 a hv hS
  cases hv
  replace hS := hS.sl ⟨[(2, Pt 3 0), (148, V (.agg #[.int .i64 0, .int .i64 0, .int .i64 0, .slice none 0 0, .slice none 0 0])), (149, Sl a114 r113 c115), (150, I taken_207), (151, V (.pointer (some A217))), (152, Sl a220 (gi r113 taken_207) c221), (153, V (.pointer (some A223))), (154, V (.pointer (some A225))), (155, I ((gi (gi r113 taken_207) 0).At))], [(3, (27, [I 0, I 0, I 0, V (.slice none 0 0), V (.slice none 0 0)])), (6, (27, [I 0, I 0, I 0, V (.slice none 0 0), V (.slice none 0 0)]))]⟩
  refine only 8 kr (by rfl) (store1 T hS kr kr (sy' := ⟨[(2, Pt 3 0), (148, V (.agg #[.int .i64 0, .int .i64 0, .int .i64 0, .slice none 0 0, .slice none 0 0])), (149, Sl a114 r113 c115), (150, I taken_207), (151, V (.pointer (some A217))), (152, Sl a220 (gi r113 taken_207) c221), (153, V (.pointer (some A223))), (154, V (.pointer (some A225))), (155, I ((gi (gi r113 taken_207) 0).At))], [(3, (27, [I 0, I 0, I 0, V (.slice none 0 0), V (.slice none 0 0)])), (3, (27, [I 0, I 0, I 0, V (.slice none 0 0), V (.slice none 0 0)])), (6, (27, [I 0, I 0, I 0, V (.slice none 0 0), V (.slice none 0 0)]))]⟩) kr ?_)
  intro a w228 χ229 hS hE
  replace hO := hO.mv hE rfl rfl
  replace hD := hD.ev hE rfl
  replace h204 := h204.mv hE rfl
  replace h218 := h218.mv hE rfl
  replace h222 := h222.mv hE rfl
  replace h224 := h224.mv hE rfl
  replace h226 := h226.mv hE rfl
  replace hS := hS.sl ⟨[(2, Pt 3 0), (148, V (.agg #[.int .i64 0, .int .i64 0, .int .i64 0, .slice none 0 0, .slice none 0 0])), (149, Sl a114 r113 c115), (150, I taken_207), (151, V (.pointer (some A217))), (152, Sl a220 (gi r113 taken_207) c221), (153, V (.pointer (some A223))), (154, V (.pointer (some A225))), (155, I ((gi (gi r113 taken_207) 0).At))], [(3, (27, [I 0, I 0, I 0, V (.slice none 0 0), V (.slice none 0 0)])), (6, (27, [I 0, I 0, I 0, V (.slice none 0 0), V (.slice none 0 0)]))]⟩
  refine andH (Hold.of hS (bks := [6]) kr hD) ?_
  intro hH
  refine tk T [9, 10] [6] hS hH #[true, true, true, true, true, true, true, true, true, true, true] 0 ⟨[(2, Pt 3 0), (3, I ((gi (gi r113 taken_207) 0).At)), (4, I 6)], [(3, (27, [I 0, I 0, I 0, V (.slice none 0 0), V (.slice none 0 0)])), (6, (27, [I 0, I 0, I 0, V (.slice none 0 0), V (.slice none 0 0)]))]⟩ fun a hS => ?_
  refine drawnDone kr ?_
  clear hD hH
  replace hS := hS.sl ⟨[(2, Pt 3 0), (3, I ((gi (gi r113 taken_207) 0).At)), (4, I 6)], [(3, (27, [I 0, I 0, I 0, V (.slice none 0 0), V (.slice none 0 0)]))]⟩
  refine wret ?_
  exact fin T hS hO (fun c => c) rfl (r := [.agg #[.int .i64 0, .int .i64 0, .int .i64 0, .slice none 0 0, .slice none 0 0], .int .i64 ((gi (gi r113 taken_207) 0).At), .int .i64 6]) kr (fun χ' hM hC => ⟨((⟨0, 0, 0, [], []⟩ : Api_Verdict), (gi (gi r113 taken_207) 0).At, 6), hm, none, 0, none, 0, rfl, RS.empty _ _ _, RS.empty _ _ _⟩)
 replace hm := hm.2 hb
 refine wskip ?_
 refine rM T hS ⟨[(2, Pt 3 0), (3, I (lN s_)), (4, I 0)], [(3, (27, [I x_120, I x_191, I x_192, Sl a200 x_199 c201, Sl a210 x_209 c211]))]⟩ fun ρ a w230 χ231 hS hE hr => ?_
 replace hO := hO.mv hE rfl rfl
 replace h208 := h208.mv hE rfl
 replace h212 := h212.mv hE rfl
 clear hE hr
 refine wret ?_
 exact fin T hS hO (fun c => c) rfl (r := [.agg #[.int .i64 x_120, .int .i64 x_191, .int .i64 x_192, .slice a200 x_199.length c201, .slice a210 x_209.length c211], .int .i64 (lN s_), .int .i64 0]) kr (fun χ' hM hC => ⟨((⟨x_120, x_191, x_192, x_199, x_209⟩ : Api_Verdict), (lN s_), 0), hm, a200, c201, a210, c211, rfl, h208.m0 hM, h212.m0 hM⟩)
theorem C7 (k16 : S16) (k23 : S23) (k24 : S24) (k25 : S25) (k26 : S26) (k27 : S27) (k28 : S28) (v : ∀ (s_ : List UInt8), VC7 s_ (fun r => r = ref39_Parse s_)) : S7 := by
 intro w χ s_    
 refine (W7 k16 k23 k24 k25 k26 k27 k28 w χ s_    _ (v s_)).mono ?_
 rintro _ _ _ _ ⟨r, rfl, h⟩
 exact h
theorem W3 (k5 : S5) (k6 : S6) (k7 : S7) (k8 : S8) (w0 : World) (χ0 : Nat → Nat) (s_ : List UInt8) (Q : Bool → Prop) (hm : VC3 s_ Q) (hAmb : Amb w0 χ0) :
  Ret Tryz.prog 3 #[.string (bs s_)] xnone w0 χ0 (fun w χ' v => ∃ r, Q r ∧ v = .bool r) := by
 unfold VC3 at hm
 refine enter Tryz.func3 rfl (vals := [.string (bs s_)]) kr ?_
 intro ρ a hS hO hM
 replace hAmb := hAmb.m0 hM
 clear hM
 refine rP T hS ⟨[(0, Z s_)], []⟩ fun a hS => ?_
 refine wseq (rP T hS ⟨[(0, Z s_), (11, B (decide ((lN s_) > 3000)))], []⟩ fun a hS => ?_)
 refine wcond hS (b := decide ((lN s_) > 3000)) kr (fun hb => ?_) (fun hb => ?_)
 ·replace hm := hm.1 hb
  refine regO ?_
  refine op1 (call hS kr kr hb5 kr (fun _ _ => rfl) (k5 _ _ hAmb) ?_)
  intro v101 a w102 χ103 hE hp hS
  replace hO := hO.mv hE rfl rfl
  replace hAmb := hAmb.mv hE rfl
  obtain ⟨r104, hr⟩ : ∃ r, law39_awake = r := ⟨_, rfl⟩
  replace hm := hm r104 hr
  rw [hr] at hp
  clear hr
  subst hp
  refine eP T hS ⟨[(2, B r104)], []⟩ fun a hS => ?_
  refine wret ?_
  exact fin T hS hO (fun c => c) rfl (r := [.bool r104]) kr (fun χ' hM hC => ⟨r104, hm, rfl⟩)
 replace hm := hm.2 hb
 refine wskip ?_
 refine regO ?_
 refine oP T hS 1 ⟨[(0, Z s_), (14, Z s_)], []⟩ fun a hS => ?_
 refine op1 (call hS kr kr hb6 kr (fun _ _ => rfl) (k6 _ _ s_) ?_)
 intro v105 a w106 χ107 hE hp hS
 replace hO := hO.mv hE rfl rfl
 replace hAmb := hAmb.mv hE rfl
 obtain ⟨a109, c110, a112, c113, hp, h111, h114⟩ := hp
 obtain ⟨r108, hr⟩ : ∃ r, verdict_Parse s_ = r := ⟨_, rfl⟩
 replace hm := hm r108 hr
 rw [hr] at hp h111 h114
 clear hr
 subst hp
 replace hm := hm (h111.sm kr)
 replace hm := hm (h114.sm kr)
 refine eM T hS ⟨[(0, Z s_), (3, Pt 4 0), (4, I r108.2.1), (5, I r108.2.2)], [(4, (27, [I r108.1.Kind, I r108.1.At, I r108.1.Err, Sl a109 r108.1.Picks c110, Sl a112 r108.1.Proof c113]))]⟩ fun ρ a w135 χ136 hS hE hr => ?_
 replace hO := hO.mv hE rfl rfl
 replace hAmb := hAmb.mv hE rfl
 replace h111 := h111.mv hE rfl
 replace h114 := h114.mv hE rfl
 clear hE hr
 refine regO ?_
 refine oP T hS 1 ⟨[(3, Pt 4 0), (4, I r108.2.1), (5, I r108.2.2), (20, Z s_)], [(4, (27, [I r108.1.Kind, I r108.1.At, I r108.1.Err, Sl a109 r108.1.Picks c110, Sl a112 r108.1.Proof c113]))]⟩ fun a hS => ?_
 refine op1 (call hS kr kr hb7 kr (fun _ _ => rfl) (k7 _ _ s_) ?_)
 intro v115 a w116 χ117 hE hp hS
 replace hO := hO.mv hE rfl rfl
 replace hAmb := hAmb.mv hE rfl
 replace h111 := h111.mv hE rfl
 replace h114 := h114.mv hE rfl
 obtain ⟨a119, c120, a122, c123, hp, h121, h124⟩ := hp
 obtain ⟨r118, hr⟩ : ∃ r, ref39_Parse s_ = r := ⟨_, rfl⟩
 replace hm := hm r118 hr
 rw [hr] at hp h121 h124
 clear hr
 subst hp
 replace hm := hm (h121.sm kr)
 replace hm := hm (h124.sm kr)
 refine eM T hS ⟨[(3, Pt 4 0), (4, I r108.2.1), (5, I r108.2.2), (6, Pt 7 0), (7, I r118.2.1), (8, I r118.2.2)], [(4, (27, [I r108.1.Kind, I r108.1.At, I r108.1.Err, Sl a109 r108.1.Picks c110, Sl a112 r108.1.Proof c113])), (7, (27, [I r118.1.Kind, I r118.1.At, I r118.1.Err, Sl a119 r118.1.Picks c120, Sl a122 r118.1.Proof c123]))]⟩ fun ρ a w133 χ134 hS hE hr => ?_
 replace hO := hO.mv hE rfl rfl
 replace hAmb := hAmb.mv hE rfl
 replace h111 := h111.mv hE rfl
 replace h114 := h114.mv hE rfl
 replace h121 := h121.mv hE rfl
 replace h124 := h124.mv hE rfl
 clear hE hr
 refine regO ?_
 refine oP T hS 2 ⟨[(4, I r108.2.1), (5, I r108.2.2), (7, I r118.2.1), (8, I r118.2.2), (25, V (.agg #[.int .i64 r108.1.Kind, .int .i64 r108.1.At, .int .i64 r108.1.Err, .slice a109 r108.1.Picks.length c110, .slice a112 r108.1.Proof.length c113])), (26, V (.agg #[.int .i64 r118.1.Kind, .int .i64 r118.1.At, .int .i64 r118.1.Err, .slice a119 r118.1.Picks.length c120, .slice a122 r118.1.Proof.length c123]))], []⟩ fun a hS => ?_
 refine op1 (call hS kr kr hb8 kr (fun _ _ => rfl) (k8 _ _ r108.1 r118.1 a109 c110 a112 c113 a119 c120 a122 c123 h111 h114 h121 h124) ?_)
 intro v125 a w126 χ127 hE hp hS
 replace hO := hO.mv hE rfl rfl
 replace hAmb := hAmb.mv hE rfl
 replace h111 := h111.mv hE rfl
 replace h114 := h114.mv hE rfl
 replace h121 := h121.mv hE rfl
 replace h124 := h124.mv hE rfl
 obtain ⟨r128, hr⟩ : ∃ r, ref39_Same r108.1 r118.1 = r := ⟨_, rfl⟩
 replace hm := hm r128 hr
 rw [hr] at hp
 clear hr
 subst hp
 refine oP T hS 11 ⟨[(38, B ((r128 && (r108.2.1 == r118.2.1)) && (r108.2.2 == r118.2.2)))], []⟩ (sp := [28, 33]) fun a hS => ?_
 rcases Bool.eq_false_or_eq_true ((r128 && (r108.2.1 == r118.2.1)) && (r108.2.2 == r118.2.2)) with hb | hb
 ·replace hS := hS.lit (t := 38) kr hb
  replace hm := hm.1 hb
  refine op1 (call hS kr kr hb5 kr (fun _ _ => rfl) (k5 _ _ hAmb) ?_)
  intro v129 a w130 χ131 hE hp hS
  replace hO := hO.mv hE rfl rfl
  replace hAmb := hAmb.mv hE rfl
  obtain ⟨r132, hr⟩ : ∃ r, law39_awake = r := ⟨_, rfl⟩
  replace hm := hm r132 hr
  rw [hr] at hp
  clear hr
  subst hp
  refine eP T hS ⟨[(2, B r132)], []⟩ fun a hS => ?_
  refine wret ?_
  exact fin T hS hO (fun c => c) rfl (r := [.bool r132]) kr (fun χ' hM hC => ⟨r132, hm, rfl⟩)
 replace hS := hS.lit (t := 38) kr hb
 replace hm := hm.2 hb
 refine eP T hS ⟨[(2, B false)], []⟩ fun a hS => ?_
 refine wret ?_
 exact fin T hS hO (fun c => c) rfl (r := [.bool false]) kr (fun χ' hM hC => ⟨false, hm, rfl⟩)
end Go.Proofs.YtkgcdoeldilhaaaGreatDoor
