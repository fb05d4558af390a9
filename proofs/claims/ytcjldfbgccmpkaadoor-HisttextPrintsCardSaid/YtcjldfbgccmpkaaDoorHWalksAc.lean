/- Walks: each function returns what its condition asks. Condition: the contracts of its callees, handed in. -/
import Derived.Test.YtcjldfbgccmpkaaDoorHWalksS
set_option linter.all false
namespace Go.Proofs.YtcjldfbgccmpkaaDoor
open Go Go.Sv
set_option maxHeartbeats 1000000
/-- replevin/objtext.Take -/
theorem W17 (k32 : S32) (k40 : S40) (k41 : S41) (k42 : S42) (w0 : World) (χ0 : Nat → Nat) (lines : List (List Token_Token)) (end_ : Int) (a1 : Option Addr) (c1 : Nat) (Q : Api_Object × (List (List Token_Token)) × Int × Int → Prop) (hm : VC17 lines end_ Q) (h1 : RS (tSlice tToken_Token) w0 χ0 a1 lines c1) :
  Ret Tryd.prog 17 #[.slice a1 lines.length c1, .int .i64 end_] xnone w0 χ0 (fun w χ' v => ∃ r, Q r ∧ ∃ (ra1 : Option Addr) (rc1 : Nat) (ra2 : Option Addr) (rc2 : Nat), v = .tuple #[.agg #[.int .i64 r.1.States, .int .i64 r.1.Kinds, .int .i64 r.1.Init, .slice ra1 r.1.Rows.length rc1], .slice ra2 r.2.1.length rc2, .int .i64 r.2.2.1, .int .i64 r.2.2.2] ∧ RS tApi_Row w χ' ra1 r.1.Rows rc1 ∧ RS (tSlice tToken_Token) w χ' ra2 r.2.1 rc2) := by
 unfold VC17 at hm
 replace hm := hm (h1.sm kr)
 refine enter Tryd.func17 rfl (vals := [.slice a1 lines.length c1, .int .i64 end_]) kr ?_
 intro ρ a hS hO hM
 replace h1 := h1.m0 hM
 clear hM
 refine regM T hS (sp := []) (ks := [0, 1, 4]) (bs := [5]) (sy' := ⟨[(0, V (.slice a1 lines.length c1)), (1, I end_), (4, Pt 5 0)], [(5, (25, [I 0, I 0, I 0, V (.slice none 0 0)]))]⟩) kr ?_
 intro ρ a w348 χ349 hS hE hr
 replace hO := hO.mv hE rfl rfl
 replace h1 := h1.mv hE rfl
 clear hE hr
 refine regO ?_
 obtain ⟨hq, hm⟩ := hm
 refine op1 (call hS kr kr hb40 kr (fun _ _ => rfl) (k40 _ _ 4 hq) ?_)
 intro v101 a w102 χ103 hE hp hS
 clear hq
 replace hO := hO.mv hE rfl rfl
 replace h1 := h1.mv hE rfl
 clear hE
 obtain ⟨a105, c106, a108, c109, hp, h107, h110⟩ := hp
 obtain ⟨r104, hr⟩ : ∃ r, objtext_bounds 4 = r := ⟨_, rfl⟩
 replace hm := hm r104 hr
 rw [hr] at hp h107 h110
 clear hr
 subst hp
 replace hm := hm (h107.sm kr)
 replace hm := hm (h110.sm kr)
 refine endP T hS (sp := []) (ks := [0, 1, 4, 8, 9]) (bs := [5]) (sy' := ⟨[(0, V (.slice a1 lines.length c1)), (1, I end_), (4, Pt 5 0), (8, V (.slice a105 r104.1.length c106)), (9, V (.slice a108 r104.2.length c109))], [(5, (25, [I 0, I 0, I 0, V (.slice none 0 0)]))]⟩) kr ?_
 intro a hS
 refine regO ?_
 refine opsP T hS 1 (sp := []) (ks := [1, 4, 8, 9, 26]) (bs := [5]) (sy' := ⟨[(1, I end_), (4, Pt 5 0), (8, V (.slice a105 r104.1.length c106)), (9, V (.slice a108 r104.2.length c109)), (26, V (.slice a1 lines.length c1))], [(5, (25, [I 0, I 0, I 0, V (.slice none 0 0)]))]⟩) kr ?_
 intro a hS
 refine op1 (call hS kr kr hb41 kr (fun _ _ => rfl) (k41 _ _ lines a1 c1 h1) ?_)
 intro v111 a w112 χ113 hE hp hS
 replace hO := hO.mv hE rfl rfl
 replace h1 := h1.mv hE rfl
 replace h107 := h107.mv hE rfl
 replace h110 := h110.mv hE rfl
 clear hE
 obtain ⟨a115, c116, a118, c119, hp, h117, h120⟩ := hp
 obtain ⟨r114, hr⟩ : ∃ r, objtext_next lines = r := ⟨_, rfl⟩
 replace hm := hm r114 hr
 rw [hr] at hp h117 h120
 clear hr
 subst hp
 replace hm := hm (h117.sm kr)
 replace hm := hm (h120.sm kr)
 refine endP T hS (sp := []) (ks := [1, 4, 5, 8, 9, 10]) (bs := [5]) (sy' := ⟨[(1, I end_), (4, Pt 5 0), (5, V (.slice a118 r114.2.length c119)), (8, V (.slice a105 r104.1.length c106)), (9, V (.slice a108 r104.2.length c109)), (10, V (.slice a115 r114.1.length c116))], [(5, (25, [I 0, I 0, I 0, V (.slice none 0 0)]))]⟩) kr ?_
 intro a hS
 refine regO ?_
 refine opsP T hS 4 (sp := []) (ks := [1, 4, 5, 8, 9, 10, 31, 32, 33, 34]) (bs := [5]) (sy' := ⟨[(1, I end_), (4, Pt 5 0), (5, V (.slice a118 r114.2.length c119)), (8, V (.slice a105 r104.1.length c106)), (9, V (.slice a108 r104.2.length c109)), (10, V (.slice a115 r114.1.length c116)), (31, V (.slice a115 r114.1.length c116)), (32, V (.slice a105 r104.1.length c106)), (33, V (.slice a108 r104.2.length c109)), (34, I end_)], [(5, (25, [I 0, I 0, I 0, V (.slice none 0 0)]))]⟩) kr ?_
 intro a hS
 obtain ⟨hq, hm⟩ := hm
 refine op1 (call hS kr kr hb42 kr (fun _ _ => rfl) (k42 _ _ r114.1 ([111, 98, 106, 101, 99, 116] : List UInt8) r104.1 r104.2 end_ a115 c116 a105 c106 a108 c109 hq h117 h107 h110) ?_)
 intro v121 a w122 χ123 hE hp hS
 clear hq
 replace hO := hO.mv hE rfl rfl
 replace h107 := h107.mv hE rfl
 replace h110 := h110.mv hE rfl
 replace h117 := h117.mv hE rfl
 replace h120 := h120.mv hE rfl
 clear hE
 obtain ⟨a125, c126, hp, h127⟩ := hp
 obtain ⟨r124, hr⟩ : ∃ r, objtext_Numbers r114.1 ([111, 98, 106, 101, 99, 116] : List UInt8) r104.1 r104.2 end_ = r := ⟨_, rfl⟩
 replace hm := hm r124 hr
 rw [hr] at hp h127
 clear hr
 subst hp
 replace hm := hm (h127.sm kr)
 refine endP T hS (sp := []) (ks := [1, 4, 5, 6, 7, 8, 9, 10, 11]) (bs := [5]) (sy' := ⟨[(1, I end_), (4, Pt 5 0), (5, V (.slice a118 r114.2.length c119)), (6, I r124.2.1), (7, I r124.2.2), (8, V (.slice a105 r104.1.length c106)), (9, V (.slice a108 r104.2.length c109)), (10, V (.slice a115 r114.1.length c116)), (11, V (.slice a125 r124.1.length c126))], [(5, (25, [I 0, I 0, I 0, V (.slice none 0 0)]))]⟩) kr ?_
 intro a hS
 refine wseq ?_
 refine regP T hS (sp := []) (ks := [1, 4, 5, 6, 7, 8, 9, 10, 11, 40]) (bs := [5]) (sy' := ⟨[(1, I end_), (4, Pt 5 0), (5, V (.slice a118 r114.2.length c119)), (6, I r124.2.1), (7, I r124.2.2), (8, V (.slice a105 r104.1.length c106)), (9, V (.slice a108 r104.2.length c109)), (10, V (.slice a115 r114.1.length c116)), (11, V (.slice a125 r124.1.length c126)), (40, B (r124.2.2 != 0))], [(5, (25, [I 0, I 0, I 0, V (.slice none 0 0)]))]⟩) kr ?_
 intro a hS
 refine wcond hS (b := (r124.2.2 != 0)) kr (fun hb => ?_) (fun hb => ?_)
 ·replace hm := hm.1 hb
  refine regM T hS (sp := []) (ks := [4, 5, 6, 7]) (bs := [5]) (sy' := ⟨[(4, Pt 5 0), (5, V (.slice none 0 0)), (6, I r124.2.1), (7, I r124.2.2)], [(5, (25, [I 0, I 0, I 0, V (.slice none 0 0)]))]⟩) kr ?_
  intro ρ a w128 χ129 hS hE hr
  replace hO := hO.mv hE rfl rfl
  clear hE hr
  refine wret ?_
  exact fin T hS hO (fun c => c) rfl (r := [.agg #[.int .i64 0, .int .i64 0, .int .i64 0, .slice none 0 0], .slice none 0 0, .int .i64 r124.2.1, .int .i64 r124.2.2]) kr (fun χ' hM hC => ⟨((⟨0, 0, 0, []⟩ : Api_Object), [], r124.2.1, r124.2.2), hm, none, 0, none, 0, rfl, RS.empty _ _ _, RS.empty _ _ _⟩)
 ·replace hm := hm.2 hb
  refine wskip ?_
  refine drawnSX [5] mixed hS ?_
  intro w130 χ131 hS hE hD hH
  replace hO := hO.mv hE rfl rfl
  replace h107 := h107.mv hE rfl
  replace h110 := h110.mv hE rfl
  replace h117 := h117.mv hE rfl
  replace h120 := h120.mv hE rfl
  replace h127 := h127.mv hE rfl
  clear hE
  refine take T [0, 3, 6] [5] [1, 4, 5, 8, 9, 10, 11, 44, 47, 50] hS kr kr kr hH (listed' := #[true, false, false, true, false, false, true, false, false, false, false, false]) (fuel := 9) (sy' := ⟨[(1, I end_), (4, Pt 5 0), (5, V (.slice a118 r114.2.length c119)), (8, V (.slice a105 r104.1.length c106)), (9, V (.slice a108 r104.2.length c109)), (10, V (.slice a115 r114.1.length c116)), (11, V (.slice a125 r124.1.length c126)), (44, V (.slice a125 r124.1.length c126)), (47, V (.slice a125 r124.1.length c126)), (50, V (.slice a125 r124.1.length c126))], [(5, (25, [I 0, I 0, I 0, V (.slice none 0 0)]))]⟩) kr (by rfl) ?_
  intro a hS
  obtain ⟨hq, hm⟩ := hm
  refine dindex (e := 3) (k := .i64) T 1 hS kr kr kr (by rfl) kr hH kr kr h127 kr kr hq.1 hq.2 ?_
  intro A132 a h133 hS
  clear hq
  have h133b := h133.here
  refine dload1 T 2 hS kr kr kr (by rfl) kr hH kr h133 h133b rfl kr ?_
  intro v134 a hv hS
  cases hv
  obtain ⟨hq, hm⟩ := hm
  refine dindex (e := 3) (k := .i64) T 4 hS kr kr kr (by rfl) kr hH kr kr h127 kr kr hq.1 hq.2 ?_
  intro A135 a h136 hS
  clear hq
  have h136b := h136.here
  refine dload1 T 5 hS kr kr kr (by rfl) kr hH kr h136 h136b rfl kr ?_
  intro v137 a hv hS
  cases hv
  obtain ⟨hq, hm⟩ := hm
  refine dindex (e := 3) (k := .i64) T 7 hS kr kr kr (by rfl) kr hH kr kr h127 kr kr hq.1 hq.2 ?_
  intro A138 a h139 hS
  clear hq
  have h139b := h139.here
  refine dload1 T 8 hS kr kr kr (by rfl) kr hH kr h139 h139b rfl kr ?_
  intro v140 a hv hS
  cases hv
  refine take T [9] [5] [1, 4, 5, 8, 9, 10, 11, 53] hS kr kr kr hH (listed' := #[true, true, true, true, true, true, true, true, true, true, false, false]) (fuel := 2) (sy' := ⟨[(1, I end_), (4, Pt 5 0), (5, V (.slice a118 r114.2.length c119)), (8, V (.slice a105 r104.1.length c106)), (9, V (.slice a108 r104.2.length c109)), (10, V (.slice a115 r114.1.length c116)), (11, V (.slice a125 r124.1.length c126)), (53, V (.agg #[.int .i64 (gi r124.1 0), .int .i64 (gi r124.1 1), .int .i64 (gi r124.1 2), .slice none 0 0]))], [(5, (25, [I 0, I 0, I 0, V (.slice none 0 0)]))]⟩) kr (by rfl) ?_
  intro a hS
  replace hS := hS.sel [1, 4, 5, 8, 9, 10, 11, 53] [5] (sy' := ⟨[(1, I end_), (4, Pt 5 0), (5, V (.slice a118 r114.2.length c119)), (8, V (.slice a105 r104.1.length c106)), (9, V (.slice a108 r104.2.length c109)), (10, V (.slice a115 r114.1.length c116)), (11, V (.slice a125 r124.1.length c126)), (53, V (.agg #[.int .i64 (gi r124.1 0), .int .i64 (gi r124.1 1), .int .i64 (gi r124.1 2), .slice none 0 0]))], [(5, (25, [I 0, I 0, I 0, V (.slice none 0 0)]))]⟩) kr
  refine only 10 kr (by rfl) (box1 T hS kr kr kr (sy' := ⟨[(12, Pt 13 0), (1, I end_), (4, Pt 5 0), (5, V (.slice a118 r114.2.length c119)), (8, V (.slice a105 r104.1.length c106)), (9, V (.slice a108 r104.2.length c109)), (10, V (.slice a115 r114.1.length c116)), (11, V (.slice a125 r124.1.length c126)), (53, V (.agg #[.int .i64 (gi r124.1 0), .int .i64 (gi r124.1 1), .int .i64 (gi r124.1 2), .slice none 0 0]))], [(13, (25, [I 0, I 0, I 0, V (.slice none 0 0)])), (5, (25, [I 0, I 0, I 0, V (.slice none 0 0)]))]⟩) kr ?_)
  intro ρ a w141 χ142 hS hE hr143
  replace hO := hO.mv hE rfl rfl
  replace hD := hD.ev hE rfl
  replace h107 := h107.mv hE rfl
  replace h110 := h110.mv hE rfl
  replace h117 := h117.mv hE rfl
  replace h120 := h120.mv hE rfl
  replace h127 := h127.mv hE rfl
  replace h133 := h133.mv hE rfl
  replace h136 := h136.mv hE rfl
  replace h139 := h139.mv hE rfl
  clear hE
  replace hS := hS.sel [1, 4, 5, 8, 9, 10, 11, 53, 12] [5, 13] (sy' := ⟨[(1, I end_), (4, Pt 5 0), (5, V (.slice a118 r114.2.length c119)), (8, V (.slice a105 r104.1.length c106)), (9, V (.slice a108 r104.2.length c109)), (10, V (.slice a115 r114.1.length c116)), (11, V (.slice a125 r124.1.length c126)), (53, V (.agg #[.int .i64 (gi r124.1 0), .int .i64 (gi r124.1 1), .int .i64 (gi r124.1 2), .slice none 0 0])), (12, Pt 13 0)], [(5, (25, [I 0, I 0, I 0, V (.slice none 0 0)])), (13, (25, [I 0, I 0, I 0, V (.slice none 0 0)]))]⟩) kr
  refine andH ((Hold.of hS (bks := [5]) kr hD).rho hr143 kr) ?_
  intro hH
  replace hS := hS.sel [1, 4, 5, 8, 9, 10, 11, 53, 12] [5, 13] (sy' := ⟨[(1, I end_), (4, Pt 5 0), (5, V (.slice a118 r114.2.length c119)), (8, V (.slice a105 r104.1.length c106)), (9, V (.slice a108 r104.2.length c109)), (10, V (.slice a115 r114.1.length c116)), (11, V (.slice a125 r124.1.length c126)), (53, V (.agg #[.int .i64 (gi r124.1 0), .int .i64 (gi r124.1 1), .int .i64 (gi r124.1 2), .slice none 0 0])), (12, Pt 13 0)], [(5, (25, [I 0, I 0, I 0, V (.slice none 0 0)])), (13, (25, [I 0, I 0, I 0, V (.slice none 0 0)]))]⟩) kr
  refine only 11 kr (by rfl) (store1 T hS kr kr (sy' := ⟨[(1, I end_), (4, Pt 5 0), (5, V (.slice a118 r114.2.length c119)), (8, V (.slice a105 r104.1.length c106)), (9, V (.slice a108 r104.2.length c109)), (10, V (.slice a115 r114.1.length c116)), (11, V (.slice a125 r124.1.length c126)), (53, V (.agg #[.int .i64 (gi r124.1 0), .int .i64 (gi r124.1 1), .int .i64 (gi r124.1 2), .slice none 0 0])), (12, Pt 13 0)], [(13, (25, [I (gi r124.1 0), I (gi r124.1 1), I (gi r124.1 2), V (.slice none 0 0)])), (5, (25, [I 0, I 0, I 0, V (.slice none 0 0)])), (13, (25, [I 0, I 0, I 0, V (.slice none 0 0)]))]⟩) kr ?_)
  intro a w144 χ145 hS hE
  replace hO := hO.mv hE rfl rfl
  replace hD := hD.ev hE rfl
  replace h107 := h107.mv hE rfl
  replace h110 := h110.mv hE rfl
  replace h117 := h117.mv hE rfl
  replace h120 := h120.mv hE rfl
  replace h127 := h127.mv hE rfl
  replace h133 := h133.mv hE rfl
  replace h136 := h136.mv hE rfl
  replace h139 := h139.mv hE rfl
  clear hE
  replace hS := hS.sel [1, 4, 5, 8, 9, 10, 11, 53, 12] [5, 13] (sy' := ⟨[(1, I end_), (4, Pt 5 0), (5, V (.slice a118 r114.2.length c119)), (8, V (.slice a105 r104.1.length c106)), (9, V (.slice a108 r104.2.length c109)), (10, V (.slice a115 r114.1.length c116)), (11, V (.slice a125 r124.1.length c126)), (53, V (.agg #[.int .i64 (gi r124.1 0), .int .i64 (gi r124.1 1), .int .i64 (gi r124.1 2), .slice none 0 0])), (12, Pt 13 0)], [(5, (25, [I 0, I 0, I 0, V (.slice none 0 0)])), (13, (25, [I (gi r124.1 0), I (gi r124.1 1), I (gi r124.1 2), V (.slice none 0 0)]))]⟩) kr
  refine andH ((Hold.of hS (bks := [5]) kr hD).rho hr143 kr) ?_
  intro hH
  refine drawnDone kr ?_
  clear hD hH
  replace hS := hS.sel [1, 4, 5, 8, 9, 10, 11, 12] [5, 13] (sy' := ⟨[(1, I end_), (4, Pt 5 0), (5, V (.slice a118 r114.2.length c119)), (8, V (.slice a105 r104.1.length c106)), (9, V (.slice a108 r104.2.length c109)), (10, V (.slice a115 r114.1.length c116)), (11, V (.slice a125 r124.1.length c126)), (12, Pt 13 0)], [(5, (25, [I 0, I 0, I 0, V (.slice none 0 0)])), (13, (25, [I (gi r124.1 0), I (gi r124.1 1), I (gi r124.1 2), V (.slice none 0 0)]))]⟩) kr
  refine regO ?_
  refine op1 (lit (E := 3) (col := 1014) (T := tI) (vals := []) (ys := ([] : List Int)) T hS kr kr kr kr trivial rfl kr kr kr kr ?_)
  intro b146 a w147 χ148 hE h149 hN hS
  clear hN
  replace hO := hO.mv hE rfl rfl
  replace h107 := h107.mv hE rfl
  replace h110 := h110.mv hE rfl
  replace h117 := h117.mv hE rfl
  replace h120 := h120.mv hE rfl
  replace h127 := h127.mv hE rfl
  clear hE
  refine endP T hS (sp := []) (ks := [1, 4, 5, 8, 9, 10, 11, 12, 13]) (bs := [5, 13]) (sy' := ⟨[(1, I end_), (4, Pt 5 0), (5, V (.slice a118 r114.2.length c119)), (8, V (.slice a105 r104.1.length c106)), (9, V (.slice a108 r104.2.length c109)), (10, V (.slice a115 r114.1.length c116)), (11, V (.slice a125 r124.1.length c126)), (12, Pt 13 0), (13, V (.slice (some ⟨b146, 0, none⟩) ([] : List Int).length 0))], [(5, (25, [I 0, I 0, I 0, V (.slice none 0 0)])), (13, (25, [I (gi r124.1 0), I (gi r124.1 1), I (gi r124.1 2), V (.slice none 0 0)]))]⟩) kr ?_
  intro a hS
  refine wcut (fun a w => ∃ (ρ : Nat → Nat) (χ : Nat → Nat) (rest_150 : List (List Token_Token)) (places_155 : List Int) (x_159 : Int) (x_160 : Int) (x_161 : Int) (x_162 : List Api_Row) (a151 : Option Addr) (c152 : Nat) (a156 : Option Addr) (c157 : Nat) (a163 : Option Addr) (c164 : Nat), VC17_J1 end_ Q r114 rest_150 places_155 x_159 x_160 x_161 x_162 ∧ St Tryd.f17.ntmps ⟨[(1, I end_), (4, Pt 5 0), (5, V (.slice a151 rest_150.length c152)), (10, V (.slice a115 r114.1.length c116)), (12, Pt 13 0), (13, V (.slice a156 places_155.length c157))], [(5, (25, [I 0, I 0, I 0, V (.slice none 0 0)])), (13, (25, [I x_159, I x_160, I x_161, V (.slice a163 x_162.length c164)]))]⟩ ρ a w χ ∧ Old w0 χ0 w χ ∧ RS (tSlice tToken_Token) w χ a151 rest_150 c152 ∧ RS tToken_Token w χ a115 r114.1 c116 ∧ OS tI 3 w χ 1014 a156 places_155 c157 ∧ OS tApi_Row 99 w χ 1089 a163 x_162 c164) ?_ ?_
  ·refine regO ?_
   refine opsP T hS 1 (sp := []) (ks := [1, 4, 5, 8, 9, 10, 12, 13, 55]) (bs := [5, 13]) (sy' := ⟨[(1, I end_), (4, Pt 5 0), (5, V (.slice a118 r114.2.length c119)), (8, V (.slice a105 r104.1.length c106)), (9, V (.slice a108 r104.2.length c109)), (10, V (.slice a115 r114.1.length c116)), (12, Pt 13 0), (13, V (.slice (some ⟨b146, 0, none⟩) ([] : List Int).length 0)), (55, V (.slice a125 r124.1.length c126))], [(5, (25, [I 0, I 0, I 0, V (.slice none 0 0)])), (13, (25, [I (gi r124.1 0), I (gi r124.1 1), I (gi r124.1 2), V (.slice none 0 0)]))]⟩) kr ?_
   intro a hS
   obtain ⟨hq, hm⟩ := hm
   refine op1 (index (e := 3) (k := .i64) T hS kr kr kr kr h127 kr kr hq.1 hq.2 ?_)
   intro A241 a h242 hS
   clear hq
   refine op1 (load1 T hS kr kr kr h242 rfl kr ?_)
   intro v243 a hv hS
   cases hv
   refine endP T hS (sp := []) (ks := [1, 4, 5, 8, 9, 10, 12, 13, 57, 58]) (bs := [5, 13]) (sy' := ⟨[(1, I end_), (4, Pt 5 0), (5, V (.slice a118 r114.2.length c119)), (8, V (.slice a105 r104.1.length c106)), (9, V (.slice a108 r104.2.length c109)), (10, V (.slice a115 r114.1.length c116)), (12, Pt 13 0), (13, V (.slice (some ⟨b146, 0, none⟩) ([] : List Int).length 0)), (57, I (gi r124.1 3)), (58, I 0)], [(5, (25, [I 0, I 0, I 0, V (.slice none 0 0)])), (13, (25, [I (gi r124.1 0), I (gi r124.1 1), I (gi r124.1 2), V (.slice none 0 0)]))]⟩) kr ?_
   intro a hS
   refine wblock ?_
   obtain ⟨I1, μ1, hm0, hm⟩ := hm
   refine wloop (σ := (List (List Token_Token)) × (List Int) × Int × Int × Int × Int × (List Api_Row)) (fun s a w => ∃ (ρ : Nat → Nat) (χ : Nat → Nat) (a245 : Option Addr) (c246 : Nat) (a252 : Option Addr) (c253 : Nat) (a260 : Option Addr) (c261 : Nat), I1 s.1 s.2.1 s.2.2.1 s.2.2.2.1 s.2.2.2.2.1 s.2.2.2.2.2.1 s.2.2.2.2.2.2 ∧ St Tryd.f17.ntmps ⟨[(1, I end_), (4, Pt 5 0), (5, V (.slice a245 s.1.length c246)), (8, V (.slice a105 r104.1.length c106)), (9, V (.slice a108 r104.2.length c109)), (10, V (.slice a115 r114.1.length c116)), (12, Pt 13 0), (13, V (.slice a252 s.2.1.length c253)), (57, I (gi r124.1 3)), (58, I s.2.2.1)], [(5, (25, [I 0, I 0, I 0, V (.slice none 0 0)])), (13, (25, [I s.2.2.2.1, I s.2.2.2.2.1, I s.2.2.2.2.2.1, V (.slice a260 s.2.2.2.2.2.2.length c261)]))]⟩ ρ a w χ ∧ Old w0 χ0 w χ ∧ RS (tSlice tToken_Token) w χ a245 s.1 c246 ∧ RS tI w χ a105 r104.1 c106 ∧ RS tI w χ a108 r104.2 c109 ∧ RS tToken_Token w χ a115 r114.1 c116 ∧ OS tI 3 w χ 1014 a252 s.2.1 c253 ∧ OS tApi_Row 99 w χ 1089 a260 s.2.2.2.2.2.2 c261) (fun s => μ1 s.1 s.2.1 s.2.2.1 s.2.2.2.1 s.2.2.2.2.1 s.2.2.2.2.2.1 s.2.2.2.2.2.2) (⟨r114.2, ([] : List Int), 0, gi r124.1 0, gi r124.1 1, gi r124.1 2, []⟩) ?_ ?_
   ·exact ⟨ρ, _, a118, c119, (some ⟨b146, 0, none⟩), 0, none, 0, hm0, hS.sel [1, 4, 5, 8, 9, 10, 12, 13, 57, 58] [5, 13] kr, hO, h120, h107, h110, h117, h149, (OS.nil _ _ _ _ _)⟩
   ·rintro ⟨rest_244, places_251, x_255, x_256, x_257, x_258, x_259⟩ a w345 ⟨ρ, χ344, a245, c246, a252, c253, a260, c261, hI, hS, hO, h247, h248, h249, h250, h254, h262⟩
    replace hm := hm rest_244 places_251 x_255 x_256 x_257 x_258 x_259 hI
    clear hI hm0
    refine regP T hS (sp := []) (ks := [1, 4, 5, 8, 9, 10, 12, 13, 57, 58, 59]) (bs := [5, 13]) (sy' := ⟨[(1, I end_), (4, Pt 5 0), (5, V (.slice a245 rest_244.length c246)), (8, V (.slice a105 r104.1.length c106)), (9, V (.slice a108 r104.2.length c109)), (10, V (.slice a115 r114.1.length c116)), (12, Pt 13 0), (13, V (.slice a252 places_251.length c253)), (57, I (gi r124.1 3)), (58, I x_255), (59, B (decide (x_255 < (gi r124.1 3))))], [(5, (25, [I 0, I 0, I 0, V (.slice none 0 0)])), (13, (25, [I x_256, I x_257, I x_258, V (.slice a260 x_259.length c261)]))]⟩) kr ?_
    intro a hS
    refine wseq ?_
    refine wcond hS (b := decide (x_255 < (gi r124.1 3))) kr (fun hb => ?_) (fun hb => ?_)
    ·replace hm := hm.1 hb
     refine wskip ?_
     refine wseq ?_
     refine wblock ?_
     refine regO ?_
     refine opsP T hS 1 (sp := []) (ks := [1, 4, 8, 9, 10, 12, 13, 57, 58, 61]) (bs := [5, 13]) (sy' := ⟨[(1, I end_), (4, Pt 5 0), (8, V (.slice a105 r104.1.length c106)), (9, V (.slice a108 r104.2.length c109)), (10, V (.slice a115 r114.1.length c116)), (12, Pt 13 0), (13, V (.slice a252 places_251.length c253)), (57, I (gi r124.1 3)), (58, I x_255), (61, V (.slice a245 rest_244.length c246))], [(5, (25, [I 0, I 0, I 0, V (.slice none 0 0)])), (13, (25, [I x_256, I x_257, I x_258, V (.slice a260 x_259.length c261)]))]⟩) kr ?_
     intro a hS
     refine op1 (call hS kr kr hb41 kr (fun _ _ => rfl) (k41 _ _ rest_244 a245 c246 h247) ?_)
     intro v263 a w264 χ265 hE hp hS
     replace hO := hO.mv hE rfl rfl
     replace h247 := h247.mv hE rfl
     replace h248 := h248.mv hE rfl
     replace h249 := h249.mv hE rfl
     replace h250 := h250.mv hE rfl
     replace h254 := h254.mv hE rfl rfl
     replace h262 := h262.mv hE rfl rfl
     clear hE
     obtain ⟨a267, c268, a270, c271, hp, h269, h272⟩ := hp
     obtain ⟨r266, hr⟩ : ∃ r, objtext_next rest_244 = r := ⟨_, rfl⟩
     replace hm := hm r266 hr
     rw [hr] at hp h269 h272
     clear hr
     subst hp
     replace hm := hm (h269.sm kr)
     replace hm := hm (h272.sm kr)
     refine endP T hS (sp := []) (ks := [1, 4, 8, 9, 10, 12, 13, 14, 15, 57, 58]) (bs := [5, 13]) (sy' := ⟨[(1, I end_), (4, Pt 5 0), (8, V (.slice a105 r104.1.length c106)), (9, V (.slice a108 r104.2.length c109)), (10, V (.slice a115 r114.1.length c116)), (12, Pt 13 0), (13, V (.slice a252 places_251.length c253)), (14, V (.slice a267 r266.1.length c268)), (15, V (.slice a270 r266.2.length c271)), (57, I (gi r124.1 3)), (58, I x_255)], [(5, (25, [I 0, I 0, I 0, V (.slice none 0 0)])), (13, (25, [I x_256, I x_257, I x_258, V (.slice a260 x_259.length c261)]))]⟩) kr ?_
     intro a hS
     refine regP T hS (sp := []) (ks := [1, 4, 5, 8, 9, 10, 12, 13, 14, 57, 58]) (bs := [5, 13]) (sy' := ⟨[(1, I end_), (4, Pt 5 0), (5, V (.slice a270 r266.2.length c271)), (8, V (.slice a105 r104.1.length c106)), (9, V (.slice a108 r104.2.length c109)), (10, V (.slice a115 r114.1.length c116)), (12, Pt 13 0), (13, V (.slice a252 places_251.length c253)), (14, V (.slice a267 r266.1.length c268)), (57, I (gi r124.1 3)), (58, I x_255)], [(5, (25, [I 0, I 0, I 0, V (.slice none 0 0)])), (13, (25, [I x_256, I x_257, I x_258, V (.slice a260 x_259.length c261)]))]⟩) kr ?_
     intro a hS
     refine regO ?_
     refine opsP T hS 4 (sp := []) (ks := [1, 4, 5, 8, 9, 10, 12, 13, 14, 57, 58, 67, 68, 69, 70]) (bs := [5, 13]) (sy' := ⟨[(1, I end_), (4, Pt 5 0), (5, V (.slice a270 r266.2.length c271)), (8, V (.slice a105 r104.1.length c106)), (9, V (.slice a108 r104.2.length c109)), (10, V (.slice a115 r114.1.length c116)), (12, Pt 13 0), (13, V (.slice a252 places_251.length c253)), (14, V (.slice a267 r266.1.length c268)), (57, I (gi r124.1 3)), (58, I x_255), (67, V (.slice a267 r266.1.length c268)), (68, V (.slice a105 r104.1.length c106)), (69, V (.slice a108 r104.2.length c109)), (70, I end_)], [(5, (25, [I 0, I 0, I 0, V (.slice none 0 0)])), (13, (25, [I x_256, I x_257, I x_258, V (.slice a260 x_259.length c261)]))]⟩) kr ?_
     intro a hS
     obtain ⟨hq, hm⟩ := hm
     refine op1 (call hS kr kr hb42 kr (fun _ _ => rfl) (k42 _ _ r266.1 ([114, 111, 119] : List UInt8) r104.1 r104.2 end_ a267 c268 a105 c106 a108 c109 hq h269 h248 h249) ?_)
     intro v273 a w274 χ275 hE hp hS
     clear hq
     replace hO := hO.mv hE rfl rfl
     replace h248 := h248.mv hE rfl
     replace h249 := h249.mv hE rfl
     replace h250 := h250.mv hE rfl
     replace h254 := h254.mv hE rfl rfl
     replace h262 := h262.mv hE rfl rfl
     replace h269 := h269.mv hE rfl
     replace h272 := h272.mv hE rfl
     clear hE
     obtain ⟨a277, c278, hp, h279⟩ := hp
     obtain ⟨r276, hr⟩ : ∃ r, objtext_Numbers r266.1 ([114, 111, 119] : List UInt8) r104.1 r104.2 end_ = r := ⟨_, rfl⟩
     replace hm := hm r276 hr
     rw [hr] at hp h279
     clear hr
     subst hp
     replace hm := hm (h279.sm kr)
     refine endP T hS (sp := []) (ks := [1, 4, 5, 8, 9, 10, 12, 13, 14, 16, 17, 18, 57, 58]) (bs := [5, 13]) (sy' := ⟨[(1, I end_), (4, Pt 5 0), (5, V (.slice a270 r266.2.length c271)), (8, V (.slice a105 r104.1.length c106)), (9, V (.slice a108 r104.2.length c109)), (10, V (.slice a115 r114.1.length c116)), (12, Pt 13 0), (13, V (.slice a252 places_251.length c253)), (14, V (.slice a267 r266.1.length c268)), (16, V (.slice a277 r276.1.length c278)), (17, I r276.2.1), (18, I r276.2.2), (57, I (gi r124.1 3)), (58, I x_255)], [(5, (25, [I 0, I 0, I 0, V (.slice none 0 0)])), (13, (25, [I x_256, I x_257, I x_258, V (.slice a260 x_259.length c261)]))]⟩) kr ?_
     intro a hS
     refine wseq ?_
     refine regP T hS (sp := []) (ks := [1, 4, 5, 8, 9, 10, 12, 13, 14, 16, 17, 18, 57, 58, 76]) (bs := [5, 13]) (sy' := ⟨[(1, I end_), (4, Pt 5 0), (5, V (.slice a270 r266.2.length c271)), (8, V (.slice a105 r104.1.length c106)), (9, V (.slice a108 r104.2.length c109)), (10, V (.slice a115 r114.1.length c116)), (12, Pt 13 0), (13, V (.slice a252 places_251.length c253)), (14, V (.slice a267 r266.1.length c268)), (16, V (.slice a277 r276.1.length c278)), (17, I r276.2.1), (18, I r276.2.2), (57, I (gi r124.1 3)), (58, I x_255), (76, B (r276.2.2 != 0))], [(5, (25, [I 0, I 0, I 0, V (.slice none 0 0)])), (13, (25, [I x_256, I x_257, I x_258, V (.slice a260 x_259.length c261)]))]⟩) kr ?_
     intro a hS
     refine wcond hS (b := (r276.2.2 != 0)) kr (fun hb => ?_) (fun hb => ?_)
     ·replace hm := hm.1 hb
      refine regM T hS (sp := []) (ks := [4, 5, 6, 7]) (bs := [5]) (sy' := ⟨[(4, Pt 5 0), (5, V (.slice none 0 0)), (6, I r276.2.1), (7, I r276.2.2)], [(5, (25, [I 0, I 0, I 0, V (.slice none 0 0)]))]⟩) kr ?_
      intro ρ a w280 χ281 hS hE hr
      replace hO := hO.mv hE rfl rfl
      clear hE hr
      refine wret ?_
      exact fin T hS hO (fun c => c) rfl (r := [.agg #[.int .i64 0, .int .i64 0, .int .i64 0, .slice none 0 0], .slice none 0 0, .int .i64 r276.2.1, .int .i64 r276.2.2]) kr (fun χ' hM hC => ⟨((⟨0, 0, 0, []⟩ : Api_Object), [], r276.2.1, r276.2.2), hm, none, 0, none, 0, rfl, RS.empty _ _ _, RS.empty _ _ _⟩)
     ·replace hm := hm.2 hb
      refine wskip ?_
      refine regO ?_
      refine opsP T hS 2 (sp := []) (ks := [1, 4, 5, 8, 9, 10, 12, 13, 16, 57, 58, 80, 81]) (bs := [5, 13]) (sy' := ⟨[(1, I end_), (4, Pt 5 0), (5, V (.slice a270 r266.2.length c271)), (8, V (.slice a105 r104.1.length c106)), (9, V (.slice a108 r104.2.length c109)), (10, V (.slice a115 r114.1.length c116)), (12, Pt 13 0), (13, V (.slice a252 places_251.length c253)), (16, V (.slice a277 r276.1.length c278)), (57, I (gi r124.1 3)), (58, I x_255), (80, V (.slice a252 places_251.length c253)), (81, V (.slice a267 r266.1.length c268))], [(5, (25, [I 0, I 0, I 0, V (.slice none 0 0)])), (13, (25, [I x_256, I x_257, I x_258, V (.slice a260 x_259.length c261)]))]⟩) kr ?_
      intro a hS
      obtain ⟨hq, hm⟩ := hm
      refine op1 (index (e := 49) (k := .i64) T hS kr kr kr kr h269 kr kr hq.1 hq.2 ?_)
      intro A282 a h283 hS
      clear hq
      refine op1 (fieldA (off := 1) (fsz := 1) (ft := 3) (TF := tI) (y := (gi r266.1 0).At) T hS kr kr kr h283 kr kr kr (fun cs h => Token_Token_f1 h) ?_)
      intro A284 a h285 hS
      refine op1 (load1 T hS kr kr kr h285 rfl kr ?_)
      intro v286 a hv hS
      cases hv
      refine op1 (lit (E := 3) (col := 0) (T := tI) (vals := [.int .i64 ((gi r266.1 0).At)]) (ys := [(gi r266.1 0).At]) T hS kr kr kr kr (by exact ⟨rfl, trivial⟩) rfl kr kr kr kr ?_)
      intro b287 a w288 χ289 hE h290 hN hS
      clear hN
      replace hO := hO.mv hE rfl rfl
      replace h248 := h248.mv hE rfl
      replace h249 := h249.mv hE rfl
      replace h250 := h250.mv hE rfl
      replace h254 := h254.mv hE rfl rfl
      replace h262 := h262.mv hE rfl rfl
      replace h269 := h269.mv hE rfl
      replace h272 := h272.mv hE rfl
      replace h279 := h279.mv hE rfl
      replace h283 := h283.mv hE rfl
      replace h285 := h285.mv hE rfl
      clear hE
      replace h290 := h290.rs0
      obtain ⟨hq, hm⟩ := hm
      obtain ⟨news, hN⟩ := h290.src
      refine op1 (append (E := 3) (T := tI) (col := 1014) (xs := places_251) T hS kr kr kr kr h254 hN kr kr kr kr hq ?_)
      intro a294 c295 a w291 χ292 hE h293 hS
      clear hq hN
      clear h254
      replace hO := hO.mv hE rfl rfl
      replace h248 := h248.mv hE rfl
      replace h249 := h249.mv hE rfl
      replace h250 := h250.mv hE rfl
      replace h262 := h262.mv hE rfl rfl
      replace h269 := h269.mv hE rfl
      replace h272 := h272.mv hE rfl
      replace h279 := h279.mv hE rfl
      replace h283 := h283.mv hE rfl
      replace h285 := h285.mv hE rfl
      replace h290 := h290.mv hE rfl
      clear hE
      refine endP T hS (sp := []) (ks := [1, 4, 5, 8, 9, 10, 12, 13, 16, 57, 58]) (bs := [5, 13]) (sy' := ⟨[(1, I end_), (4, Pt 5 0), (5, V (.slice a270 r266.2.length c271)), (8, V (.slice a105 r104.1.length c106)), (9, V (.slice a108 r104.2.length c109)), (10, V (.slice a115 r114.1.length c116)), (12, Pt 13 0), (13, V (.slice a294 (places_251 ++ [(gi r266.1 0).At]).length c295)), (16, V (.slice a277 r276.1.length c278)), (57, I (gi r124.1 3)), (58, I x_255)], [(5, (25, [I 0, I 0, I 0, V (.slice none 0 0)])), (13, (25, [I x_256, I x_257, I x_258, V (.slice a260 x_259.length c261)]))]⟩) kr ?_
      intro a hS
      refine drawnX [5] mixed hS ?_
      intro w296 χ297 hS hE hD hH
      replace hO := hO.mv hE rfl rfl
      replace h248 := h248.mv hE rfl
      replace h249 := h249.mv hE rfl
      replace h250 := h250.mv hE rfl
      replace h262 := h262.mv hE rfl rfl
      replace h272 := h272.mv hE rfl
      replace h279 := h279.mv hE rfl
      replace h293 := h293.mv hE rfl rfl
      clear hE
      refine take T [0, 2, 5, 8, 11] [5] [1, 4, 5, 8, 9, 10, 12, 13, 57, 58, 87, 89, 92, 95, 98] hS kr kr kr hH (listed' := #[true, false, true, false, false, true, false, false, true, false, false, true, false, false, false, false, false, false, false]) (fuel := 14) (sy' := ⟨[(1, I end_), (4, Pt 5 0), (5, V (.slice a270 r266.2.length c271)), (8, V (.slice a105 r104.1.length c106)), (9, V (.slice a108 r104.2.length c109)), (10, V (.slice a115 r114.1.length c116)), (12, Pt 13 0), (13, V (.slice a294 (places_251 ++ [(gi r266.1 0).At]).length c295)), (57, I (gi r124.1 3)), (58, I x_255), (87, Pt 13 3), (89, V (.slice a277 r276.1.length c278)), (92, V (.slice a277 r276.1.length c278)), (95, V (.slice a277 r276.1.length c278)), (98, V (.slice a277 r276.1.length c278))], [(5, (25, [I 0, I 0, I 0, V (.slice none 0 0)])), (13, (25, [I x_256, I x_257, I x_258, V (.slice a260 x_259.length c261)]))]⟩) kr (by rfl) ?_
      intro a hS
      obtain ⟨hq, hm⟩ := hm
      refine dindex (e := 3) (k := .i64) T 3 hS kr kr kr (by rfl) kr hH kr kr h279 kr kr hq.1 hq.2 ?_
      intro A298 a h299 hS
      clear hq
      have h299b := h299.here
      refine dload1 T 4 hS kr kr kr (by rfl) kr hH kr h299 h299b rfl kr ?_
      intro v300 a hv hS
      cases hv
      obtain ⟨hq, hm⟩ := hm
      refine dindex (e := 3) (k := .i64) T 6 hS kr kr kr (by rfl) kr hH kr kr h279 kr kr hq.1 hq.2 ?_
      intro A301 a h302 hS
      clear hq
      have h302b := h302.here
      refine dload1 T 7 hS kr kr kr (by rfl) kr hH kr h302 h302b rfl kr ?_
      intro v303 a hv hS
      cases hv
      obtain ⟨hq, hm⟩ := hm
      refine dindex (e := 3) (k := .i64) T 9 hS kr kr kr (by rfl) kr hH kr kr h279 kr kr hq.1 hq.2 ?_
      intro A304 a h305 hS
      clear hq
      have h305b := h305.here
      refine dload1 T 10 hS kr kr kr (by rfl) kr hH kr h305 h305b rfl kr ?_
      intro v306 a hv hS
      cases hv
      obtain ⟨hq, hm⟩ := hm
      refine dindex (e := 3) (k := .i64) T 12 hS kr kr kr (by rfl) kr hH kr kr h279 kr kr hq.1 hq.2 ?_
      intro A307 a h308 hS
      clear hq
      have h308b := h308.here
      refine dload1 T 13 hS kr kr kr (by rfl) kr hH kr h308 h308b rfl kr ?_
      intro v309 a hv hS
      cases hv
      refine take T [14] [5] [1, 4, 5, 8, 9, 10, 12, 13, 57, 58, 87, 101] hS kr kr kr hH (listed' := #[true, false, true, true, true, true, true, true, true, true, true, true, true, true, true, false, false, false, false]) (fuel := 5) (sy' := ⟨[(1, I end_), (4, Pt 5 0), (5, V (.slice a270 r266.2.length c271)), (8, V (.slice a105 r104.1.length c106)), (9, V (.slice a108 r104.2.length c109)), (10, V (.slice a115 r114.1.length c116)), (12, Pt 13 0), (13, V (.slice a294 (places_251 ++ [(gi r266.1 0).At]).length c295)), (57, I (gi r124.1 3)), (58, I x_255), (87, Pt 13 3), (101, V (.agg #[.int .i64 (gi r276.1 0), .int .i64 (gi r276.1 1), .int .i64 (gi r276.1 2), .int .i64 (gi r276.1 3)]))], [(5, (25, [I 0, I 0, I 0, V (.slice none 0 0)])), (13, (25, [I x_256, I x_257, I x_258, V (.slice a260 x_259.length c261)]))]⟩) kr (by rfl) ?_
      intro a hS
      refine drcut (fun a w => ∃ (χ : Nat → Nat) (a325 : Option Addr) (c326 : Nat), St Tryd.f17.ntmps ⟨[(1, I end_), (4, Pt 5 0), (5, V (.slice a270 r266.2.length c271)), (8, V (.slice a105 r104.1.length c106)), (9, V (.slice a108 r104.2.length c109)), (10, V (.slice a115 r114.1.length c116)), (12, Pt 13 0), (13, V (.slice a294 (places_251 ++ [(gi r266.1 0).At]).length c295)), (57, I (gi r124.1 3)), (58, I x_255), (88, V (.slice a260 x_259.length c261)), (102, V (.slice a325 [(⟨gi r276.1 0, gi r276.1 1, gi r276.1 2, gi r276.1 3⟩ : Api_Row)].length c326))], [(5, (25, [I 0, I 0, I 0, V (.slice none 0 0)])), (13, (25, [I x_256, I x_257, I x_258, V (.slice a260 x_259.length c261)]))]⟩ ρ a w χ ∧ Old w0 χ0 w χ ∧ M0 w296 χ297 w χ ∧ Hold w296 χ297 (filt [5] ⟨[(1, I end_), (4, Pt 5 0), (5, V (.slice a270 r266.2.length c271)), (8, V (.slice a105 r104.1.length c106)), (9, V (.slice a108 r104.2.length c109)), (10, V (.slice a115 r114.1.length c116)), (12, Pt 13 0), (13, V (.slice a294 (places_251 ++ [(gi r266.1 0).At]).length c295)), (16, V (.slice a277 r276.1.length c278)), (57, I (gi r124.1 3)), (58, I x_255)], [(5, (25, [I 0, I 0, I 0, V (.slice none 0 0)])), (13, (25, [I x_256, I x_257, I x_258, V (.slice a260 x_259.length c261)]))]⟩) ρ w ∧ RS (tSlice tToken_Token) w χ a270 r266.2 c271 ∧ RS tI w χ a105 r104.1 c106 ∧ RS tI w χ a108 r104.2 c109 ∧ RS tToken_Token w χ a115 r114.1 c116 ∧ OS tI 3 w χ 1014 a294 (places_251 ++ [(gi r266.1 0).At]) c295 ∧ OS tApi_Row 99 w χ 1089 a260 x_259 c261 ∧ RS tApi_Row w χ a325 [(⟨gi r276.1 0, gi r276.1 1, gi r276.1 2, gi r276.1 3⟩ : Api_Row)] c326) #[true, true, true, true, true, true, true, true, true, true, true, true, true, true, true, true, false, false, false] 3 ?_ (fun H => ?_)
      ·rintro a w336 ⟨χ335, a325, c326, hS, hO, hD, hH, h318, h319, h320, h321, h322, h323, h324⟩
       obtain ⟨hq, hm⟩ := hm
       obtain ⟨news, hN⟩ := h324.src
       refine only 16 kr (by rfl) (append (E := 99) (T := tApi_Row) (col := 1089) (xs := x_259) T hS kr kr kr kr h323 hN kr kr kr kr hq ?_)
       intro a340 c341 a w337 χ338 hE h339 hS
       clear hq hN
       clear h323
       replace hO := hO.mv hE rfl rfl
       replace hD := hD.ev hE rfl
       replace h318 := h318.mv hE rfl
       replace h319 := h319.mv hE rfl
       replace h320 := h320.mv hE rfl
       replace h321 := h321.mv hE rfl
       replace h322 := h322.mv hE rfl rfl
       replace h324 := h324.mv hE rfl
       clear hE
       replace hS := hS.sel [1, 4, 5, 8, 9, 10, 12, 13, 57, 58, 102, 103] [5, 13] (sy' := ⟨[(1, I end_), (4, Pt 5 0), (5, V (.slice a270 r266.2.length c271)), (8, V (.slice a105 r104.1.length c106)), (9, V (.slice a108 r104.2.length c109)), (10, V (.slice a115 r114.1.length c116)), (12, Pt 13 0), (13, V (.slice a294 (places_251 ++ [(gi r266.1 0).At]).length c295)), (57, I (gi r124.1 3)), (58, I x_255), (102, V (.slice a325 [(⟨gi r276.1 0, gi r276.1 1, gi r276.1 2, gi r276.1 3⟩ : Api_Row)].length c326)), (103, V (.slice a340 (x_259 ++ [(⟨gi r276.1 0, gi r276.1 1, gi r276.1 2, gi r276.1 3⟩ : Api_Row)]).length c341))], [(5, (25, [I 0, I 0, I 0, V (.slice none 0 0)])), (13, (25, [I x_256, I x_257, I x_258, V (.slice a260 x_259.length c261)]))]⟩) kr
       refine andH (Hold.of hS (bks := [5]) kr hD) ?_
       intro hH
       refine take T [17] [5] [1, 4, 5, 8, 9, 10, 12, 13, 57, 58, 103, 104] hS kr kr kr hH (listed' := #[true, true, true, true, true, true, true, true, true, true, true, true, true, true, true, true, true, true, false]) (fuel := 1) (sy' := ⟨[(1, I end_), (4, Pt 5 0), (5, V (.slice a270 r266.2.length c271)), (8, V (.slice a105 r104.1.length c106)), (9, V (.slice a108 r104.2.length c109)), (10, V (.slice a115 r114.1.length c116)), (12, Pt 13 0), (13, V (.slice a294 (places_251 ++ [(gi r266.1 0).At]).length c295)), (57, I (gi r124.1 3)), (58, I x_255), (103, V (.slice a340 (x_259 ++ [(⟨gi r276.1 0, gi r276.1 1, gi r276.1 2, gi r276.1 3⟩ : Api_Row)]).length c341)), (104, Pt 13 3)], [(5, (25, [I 0, I 0, I 0, V (.slice none 0 0)])), (13, (25, [I x_256, I x_257, I x_258, V (.slice a260 x_259.length c261)]))]⟩) kr (by rfl) ?_
       intro a hS
       replace hS := hS.sel [1, 4, 5, 8, 9, 10, 12, 13, 57, 58, 103, 104] [5, 13] (sy' := ⟨[(1, I end_), (4, Pt 5 0), (5, V (.slice a270 r266.2.length c271)), (8, V (.slice a105 r104.1.length c106)), (9, V (.slice a108 r104.2.length c109)), (10, V (.slice a115 r114.1.length c116)), (12, Pt 13 0), (13, V (.slice a294 (places_251 ++ [(gi r266.1 0).At]).length c295)), (57, I (gi r124.1 3)), (58, I x_255), (103, V (.slice a340 (x_259 ++ [(⟨gi r276.1 0, gi r276.1 1, gi r276.1 2, gi r276.1 3⟩ : Api_Row)]).length c341)), (104, Pt 13 3)], [(5, (25, [I 0, I 0, I 0, V (.slice none 0 0)])), (13, (25, [I x_256, I x_257, I x_258, V (.slice a260 x_259.length c261)]))]⟩) kr
       refine only 18 kr (by rfl) (store1 T hS kr kr (sy' := ⟨[(1, I end_), (4, Pt 5 0), (5, V (.slice a270 r266.2.length c271)), (8, V (.slice a105 r104.1.length c106)), (9, V (.slice a108 r104.2.length c109)), (10, V (.slice a115 r114.1.length c116)), (12, Pt 13 0), (13, V (.slice a294 (places_251 ++ [(gi r266.1 0).At]).length c295)), (57, I (gi r124.1 3)), (58, I x_255), (103, V (.slice a340 (x_259 ++ [(⟨gi r276.1 0, gi r276.1 1, gi r276.1 2, gi r276.1 3⟩ : Api_Row)]).length c341)), (104, Pt 13 3)], [(13, (25, [I x_256, I x_257, I x_258, V (.slice a340 (x_259 ++ [(⟨gi r276.1 0, gi r276.1 1, gi r276.1 2, gi r276.1 3⟩ : Api_Row)]).length c341)])), (5, (25, [I 0, I 0, I 0, V (.slice none 0 0)])), (13, (25, [I x_256, I x_257, I x_258, V (.slice a260 x_259.length c261)]))]⟩) kr ?_)
       intro a w342 χ343 hS hE
       replace hO := hO.mv hE rfl rfl
       replace hD := hD.ev hE rfl
       replace h318 := h318.mv hE rfl
       replace h319 := h319.mv hE rfl
       replace h320 := h320.mv hE rfl
       replace h321 := h321.mv hE rfl
       replace h322 := h322.mv hE rfl rfl
       replace h324 := h324.mv hE rfl
       replace h339 := h339.mv hE rfl rfl
       clear hE
       replace hS := hS.sel [1, 4, 5, 8, 9, 10, 12, 13, 57, 58, 103, 104] [5, 13] (sy' := ⟨[(1, I end_), (4, Pt 5 0), (5, V (.slice a270 r266.2.length c271)), (8, V (.slice a105 r104.1.length c106)), (9, V (.slice a108 r104.2.length c109)), (10, V (.slice a115 r114.1.length c116)), (12, Pt 13 0), (13, V (.slice a294 (places_251 ++ [(gi r266.1 0).At]).length c295)), (57, I (gi r124.1 3)), (58, I x_255), (103, V (.slice a340 (x_259 ++ [(⟨gi r276.1 0, gi r276.1 1, gi r276.1 2, gi r276.1 3⟩ : Api_Row)]).length c341)), (104, Pt 13 3)], [(5, (25, [I 0, I 0, I 0, V (.slice none 0 0)])), (13, (25, [I x_256, I x_257, I x_258, V (.slice a340 (x_259 ++ [(⟨gi r276.1 0, gi r276.1 1, gi r276.1 2, gi r276.1 3⟩ : Api_Row)]).length c341)]))]⟩) kr
       refine andH (Hold.of hS (bks := [5]) kr hD) ?_
       intro hH
       refine drawnDone kr ?_
       clear hD hH
       replace hS := hS.sel [1, 4, 5, 8, 9, 10, 12, 13, 57, 58] [5, 13] (sy' := ⟨[(1, I end_), (4, Pt 5 0), (5, V (.slice a270 r266.2.length c271)), (8, V (.slice a105 r104.1.length c106)), (9, V (.slice a108 r104.2.length c109)), (10, V (.slice a115 r114.1.length c116)), (12, Pt 13 0), (13, V (.slice a294 (places_251 ++ [(gi r266.1 0).At]).length c295)), (57, I (gi r124.1 3)), (58, I x_255)], [(5, (25, [I 0, I 0, I 0, V (.slice none 0 0)])), (13, (25, [I x_256, I x_257, I x_258, V (.slice a340 (x_259 ++ [(⟨gi r276.1 0, gi r276.1 1, gi r276.1 2, gi r276.1 3⟩ : Api_Row)]).length c341)]))]⟩) kr
       refine region (endP T hS (sp := []) (ks := [1, 4, 5, 8, 9, 10, 12, 13, 57, 58]) (bs := [5, 13]) (sy' := ⟨[(1, I end_), (4, Pt 5 0), (5, V (.slice a270 r266.2.length c271)), (8, V (.slice a105 r104.1.length c106)), (9, V (.slice a108 r104.2.length c109)), (10, V (.slice a115 r114.1.length c116)), (12, Pt 13 0), (13, V (.slice a294 (places_251 ++ [(gi r266.1 0).At]).length c295)), (57, I (gi r124.1 3)), (58, I (IntKind.i64.wrap (x_255 + 1)))], [(5, (25, [I 0, I 0, I 0, V (.slice none 0 0)])), (13, (25, [I x_256, I x_257, I x_258, V (.slice a340 (x_259 ++ [(⟨gi r276.1 0, gi r276.1 1, gi r276.1 2, gi r276.1 3⟩ : Api_Row)]).length c341)]))]⟩) kr ?_)
       intro a hS
       exact ⟨⟨r266.2, places_251 ++ [(gi r266.1 0).At], IntKind.i64.wrap (x_255 + 1), x_256, x_257, x_258, x_259 ++ [(⟨gi r276.1 0, gi r276.1 1, gi r276.1 2, gi r276.1 3⟩ : Api_Row)]⟩, ⟨ρ, _, a270, c271, a294, c295, a340, c341, hm.1, hS.sel [1, 4, 5, 8, 9, 10, 12, 13, 57, 58] [5, 13] kr, hO, h318, h319, h320, h321, h322, h339⟩, hm.2⟩
      ·clear hm
       refine anyOf (is := [1, 15]) kr (by decide) ?_
       intro i hi
       rcases mem2 hi with rfl | rfl
       ·refine oneOp (by rfl) (plain1 T hS kr kr kr (sv := V (.slice a260 x_259.length c261)) kr ?_)
        intro a hS
        refine andH (Hold.of hS (bks := [5]) kr hD) ?_
        intro hH
        refine only 15 kr (by rfl) (lit (E := 99) (col := 0) (T := tApi_Row) (vals := [.agg #[.int .i64 (gi r276.1 0), .int .i64 (gi r276.1 1), .int .i64 (gi r276.1 2), .int .i64 (gi r276.1 3)]]) (ys := [(⟨gi r276.1 0, gi r276.1 1, gi r276.1 2, gi r276.1 3⟩ : Api_Row)]) T hS kr kr kr kr (by exact ⟨rfl, trivial⟩) rfl kr kr kr kr ?_)
        intro b327 a w328 χ329 hE h330 hN hS
        clear hN
        replace hO := hO.mv hE rfl rfl
        replace hD := hD.ev hE rfl
        replace h248 := h248.mv hE rfl
        replace h249 := h249.mv hE rfl
        replace h250 := h250.mv hE rfl
        replace h262 := h262.mv hE rfl rfl
        replace h272 := h272.mv hE rfl
        replace h279 := h279.mv hE rfl
        replace h293 := h293.mv hE rfl rfl
        replace h299 := h299.mv hE rfl
        replace h302 := h302.mv hE rfl
        replace h305 := h305.mv hE rfl
        replace h308 := h308.mv hE rfl
        clear hE
        replace h330 := h330.rs0
        refine andH (Hold.of hS (bks := [5]) kr hD) ?_
        intro hH
        exact H _ _ ⟨_, (some ⟨b327, 0, none⟩), 1, hS.sel [1, 4, 5, 8, 9, 10, 12, 13, 57, 58, 88, 102] [5, 13] kr, hO, hD, hH, h272, h248, h249, h250, h293, h262, h330⟩
       ·refine oneOp (by rfl) (lit (E := 99) (col := 0) (T := tApi_Row) (vals := [.agg #[.int .i64 (gi r276.1 0), .int .i64 (gi r276.1 1), .int .i64 (gi r276.1 2), .int .i64 (gi r276.1 3)]]) (ys := [(⟨gi r276.1 0, gi r276.1 1, gi r276.1 2, gi r276.1 3⟩ : Api_Row)]) T hS kr kr kr kr (by exact ⟨rfl, trivial⟩) rfl kr kr kr kr ?_)
        intro b331 a w332 χ333 hE h334 hN hS
        clear hN
        replace hO := hO.mv hE rfl rfl
        replace hD := hD.ev hE rfl
        replace h248 := h248.mv hE rfl
        replace h249 := h249.mv hE rfl
        replace h250 := h250.mv hE rfl
        replace h262 := h262.mv hE rfl rfl
        replace h272 := h272.mv hE rfl
        replace h279 := h279.mv hE rfl
        replace h293 := h293.mv hE rfl rfl
        replace h299 := h299.mv hE rfl
        replace h302 := h302.mv hE rfl
        replace h305 := h305.mv hE rfl
        replace h308 := h308.mv hE rfl
        clear hE
        replace h334 := h334.rs0
        refine andH (Hold.of hS (bks := [5]) kr hD) ?_
        intro hH
        refine only 1 kr (by rfl) (plain1 T hS kr kr kr (sv := V (.slice a260 x_259.length c261)) kr ?_)
        intro a hS
        refine andH (Hold.of hS (bks := [5]) kr hD) ?_
        intro hH
        exact H _ _ ⟨_, (some ⟨b331, 0, none⟩), 1, hS.sel [1, 4, 5, 8, 9, 10, 12, 13, 57, 58, 88, 102] [5, 13] kr, hO, hD, hH, h272, h248, h249, h250, h293, h262, h334⟩
    ·replace hm := hm.2 hb
     refine wexit (by rfl) ?_
     exact ⟨ρ, _, rest_244, places_251, x_256, x_257, x_258, x_259, a245, c246, a252, c253, a260, c261, hm, hS.sel [1, 4, 5, 10, 12, 13] [5, 13] kr, hO, h247, h250, h254, h262⟩
  ·rintro a w347 ⟨ρ, χ346, rest_150, places_155, x_159, x_160, x_161, x_162, a151, c152, a156, c157, a163, c164, hm, hS, hO, h153, h154, h158, h165⟩
   unfold VC17_J1 at hm
   refine wseq ?_
   refine regO ?_
   refine opsP T hS 1 (sp := []) (ks := [1, 4, 5, 10, 12, 13, 107]) (bs := [5, 13]) (sy' := ⟨[(1, I end_), (4, Pt 5 0), (5, V (.slice a151 rest_150.length c152)), (10, V (.slice a115 r114.1.length c116)), (12, Pt 13 0), (13, V (.slice a156 places_155.length c157)), (107, V (.agg #[.int .i64 x_159, .int .i64 x_160, .int .i64 x_161, .slice a163 x_162.length c164]))], [(5, (25, [I 0, I 0, I 0, V (.slice none 0 0)])), (13, (25, [I x_159, I x_160, I x_161, V (.slice a163 x_162.length c164)]))]⟩) kr ?_
   intro a hS
   obtain ⟨hq, hm⟩ := hm
   refine op1 (call hS kr kr hb32 kr (fun _ _ => rfl) (Ret.unlend (k32 _ (lend 1089 _) (⟨x_159, x_160, x_161, x_162⟩ : Api_Object) a163 c164 hq h165.lend)) ?_)
   intro v166 a w167 χ168 hE hp hS
   clear hq
   replace hO := hO.mv hE rfl rfl
   replace h153 := h153.mv hE rfl
   replace h154 := h154.mv hE rfl
   replace h158 := h158.mv hE rfl rfl
   replace h165 := h165.mv hE rfl rfl
   clear hE
   obtain ⟨_, hp⟩ := hp
   obtain ⟨r169, hr⟩ : ∃ r, object_Check (⟨x_159, x_160, x_161, x_162⟩ : Api_Object) = r := ⟨_, rfl⟩
   replace hm := hm r169 hr
   rw [hr] at hp
   clear hr
   subst hp
   refine endP T hS (sp := []) (ks := [1, 4, 5, 10, 12, 13, 19, 20]) (bs := [5, 13]) (sy' := ⟨[(1, I end_), (4, Pt 5 0), (5, V (.slice a151 rest_150.length c152)), (10, V (.slice a115 r114.1.length c116)), (12, Pt 13 0), (13, V (.slice a156 places_155.length c157)), (19, I r169.1), (20, I r169.2)], [(5, (25, [I 0, I 0, I 0, V (.slice none 0 0)])), (13, (25, [I x_159, I x_160, I x_161, V (.slice a163 x_162.length c164)]))]⟩) kr ?_
   intro a hS
   refine regP T hS (sp := []) (ks := [1, 4, 5, 10, 12, 13, 19, 20, 112]) (bs := [5, 13]) (sy' := ⟨[(1, I end_), (4, Pt 5 0), (5, V (.slice a151 rest_150.length c152)), (10, V (.slice a115 r114.1.length c116)), (12, Pt 13 0), (13, V (.slice a156 places_155.length c157)), (19, I r169.1), (20, I r169.2), (112, B (r169.2 != 0))], [(5, (25, [I 0, I 0, I 0, V (.slice none 0 0)])), (13, (25, [I x_159, I x_160, I x_161, V (.slice a163 x_162.length c164)]))]⟩) kr ?_
   intro a hS
   refine wcond hS (b := (r169.2 != 0)) kr (fun hb => ?_) (fun hb => ?_)
   ·replace hm := hm.1 hb
    replace hS := hS.sel [4, 5, 10, 13, 19, 20] [5] (sy' := ⟨[(4, Pt 5 0), (5, V (.slice a151 rest_150.length c152)), (10, V (.slice a115 r114.1.length c116)), (13, V (.slice a156 places_155.length c157)), (19, I r169.1), (20, I r169.2)], [(5, (25, [I 0, I 0, I 0, V (.slice none 0 0)]))]⟩) kr
    refine drawnSX [] mixed hS ?_
    intro w170 χ171 hS hE hD hH
    replace hO := hO.mv hE rfl rfl
    replace h153 := h153.mv hE rfl
    replace h154 := h154.mv hE rfl
    replace h158 := h158.mv hE rfl rfl
    clear hE
    refine take T [0, 1, 6, 8, 12, 9] [] [4, 5, 113, 114, 119, 122, 125] hS kr kr kr hH (listed' := #[true, true, false, false, false, false, true, false, true, true, false, false, true, false, false, false, false]) (fuel := 11) (sy' := ⟨[(4, Pt 5 0), (5, V (.slice a151 rest_150.length c152)), (113, V (.agg #[.int .i64 0, .int .i64 0, .int .i64 0, .slice none 0 0])), (114, V (.slice a115 r114.1.length c116)), (119, V (.slice a156 places_155.length c157)), (122, I (IntKind.i64.wrap (r169.1 + 1))), (125, I r169.2)], [(5, (25, [I 0, I 0, I 0, V (.slice none 0 0)]))]⟩) kr (by rfl) ?_
    intro a hS
    obtain ⟨hq, hm⟩ := hm
    refine dindex (e := 49) (k := .i64) T 2 hS kr kr kr (by rfl) kr hH kr kr h154 kr kr hq.1 hq.2 ?_
    intro A172 a h173 hS
    clear hq
    have h173b := h173.here
    refine dfieldA (off := 1) (fsz := 1) (ft := 3) (TF := tI) (y := (gi r114.1 0).At) 3 T hS kr kr kr (by rfl) kr hH kr h173 kr kr kr (fun cs h => Token_Token_f1 h) ?_
    intro A174 a h175 hbl hS
    have h175b := h173b
    rw [← hbl] at h175b
    clear hbl
    refine dload1 T 4 hS kr kr kr (by rfl) kr hH kr h175 h175b rfl kr ?_
    intro v176 a hv hS
    cases hv
    refine only 5 kr (by rfl) (lit (E := 3) (col := 1119) (T := tI) (vals := [.int .i64 ((gi r114.1 0).At)]) (ys := [(gi r114.1 0).At]) T hS kr kr kr kr (by exact ⟨rfl, trivial⟩) rfl kr kr kr kr ?_)
    intro b177 a w178 χ179 hE h180 hN hS
    clear hN
    replace hO := hO.mv hE rfl rfl
    replace hD := hD.ev hE rfl
    replace h153 := h153.mv hE rfl
    replace h154 := h154.mv hE rfl
    replace h158 := h158.mv hE rfl rfl
    replace h173 := h173.mv hE rfl
    replace h175 := h175.mv hE rfl
    clear hE
    refine andH (Hold.of hS (bks := []) kr hD) ?_
    intro hH
    obtain ⟨hq, hm⟩ := hm
    obtain ⟨news, hN⟩ := h158.src
    refine only 7 kr (by rfl) (append (E := 3) (T := tI) (col := 1119) (xs := [(gi r114.1 0).At]) T hS kr kr kr kr h180 hN kr kr kr kr hq ?_)
    intro a184 c185 a w181 χ182 hE h183 hS
    clear hq hN
    clear h180
    replace hO := hO.mv hE rfl rfl
    replace hD := hD.ev hE rfl
    replace h153 := h153.mv hE rfl
    replace h154 := h154.mv hE rfl
    replace h158 := h158.mv hE rfl rfl
    replace h173 := h173.mv hE rfl
    replace h175 := h175.mv hE rfl
    clear hE
    replace hS := hS.sel [4, 5, 113, 114, 119, 122, 125, 115, 116, 117, 120] [5] (sy' := ⟨[(4, Pt 5 0), (5, V (.slice a151 rest_150.length c152)), (113, V (.agg #[.int .i64 0, .int .i64 0, .int .i64 0, .slice none 0 0])), (114, V (.slice a115 r114.1.length c116)), (119, V (.slice a156 places_155.length c157)), (122, I (IntKind.i64.wrap (r169.1 + 1))), (125, I r169.2), (115, V (.pointer (some A172))), (116, V (.pointer (some A174))), (117, I ((gi r114.1 0).At)), (120, V (.slice a184 ([(gi r114.1 0).At] ++ places_155).length c185))], [(5, (25, [I 0, I 0, I 0, V (.slice none 0 0)]))]⟩) kr
    refine andH (Hold.of hS (bks := []) kr hD) ?_
    intro hH
    obtain ⟨hgq10, hm⟩ := hm
    refine drcut (fun a w => ∃ (χ : Nat → Nat), St Tryd.f17.ntmps ⟨[(4, Pt 5 0), (5, V (.slice none 0 0)), (6, I (gi ([(gi r114.1 0).At] ++ places_155) (IntKind.i64.wrap (r169.1 + 1)))), (7, I r169.2)], [(5, (25, [I 0, I 0, I 0, V (.slice none 0 0)]))]⟩ ρ a w χ ∧ Old w0 χ0 w χ ∧ M0 w170 χ171 w χ ∧ Hold w170 χ171 (filt [] ⟨[(4, Pt 5 0), (5, V (.slice a151 rest_150.length c152)), (10, V (.slice a115 r114.1.length c116)), (13, V (.slice a156 places_155.length c157)), (19, I r169.1), (20, I r169.2)], [(5, (25, [I 0, I 0, I 0, V (.slice none 0 0)]))]⟩) ρ w) #[true, true, true, true, true, true, true, true, true, true, true, true, true, true, true, true, true] 0 ?_ (fun H => ?_)
    ·rintro a w236 ⟨χ235, hS, hO, hD, hH⟩
     clear hgq10
     refine drawnDone kr ?_
     clear hD hH
     replace hS := hS.sel [4, 5, 6, 7] [5] (sy' := ⟨[(4, Pt 5 0), (5, V (.slice none 0 0)), (6, I (gi ([(gi r114.1 0).At] ++ places_155) (IntKind.i64.wrap (r169.1 + 1)))), (7, I r169.2)], [(5, (25, [I 0, I 0, I 0, V (.slice none 0 0)]))]⟩) kr
     refine wret ?_
     exact fin T hS hO (fun c => c) rfl (r := [.agg #[.int .i64 0, .int .i64 0, .int .i64 0, .slice none 0 0], .slice none 0 0, .int .i64 (gi ([(gi r114.1 0).At] ++ places_155) (IntKind.i64.wrap (r169.1 + 1))), .int .i64 r169.2]) kr (fun χ' hM hC => ⟨((⟨0, 0, 0, []⟩ : Api_Object), [], gi ([(gi r114.1 0).At] ++ places_155) (IntKind.i64.wrap (r169.1 + 1)), r169.2), hm, none, 0, none, 0, rfl, RS.empty _ _ _, RS.empty _ _ _⟩)
    ·clear hm
     refine anyOf (is := [10, 13]) kr (by decide) ?_
     intro i hi
     rcases mem2 hi with rfl | rfl
     ·obtain ⟨χ218, hE, hF⟩ := h183.freeze (by decide)
      replace hS := hS.ev hE (xone_box kr)
      replace hO := hO.mv hE rfl rfl
      replace hD := hD.ev hE rfl
      replace h153 := h153.mv hE rfl
      replace h154 := h154.mv hE rfl
      replace h158 := h158.mv hE rfl rfl
      replace h173 := h173.mv hE rfl
      replace h175 := h175.mv hE rfl
      have h219 := hF; clear hE hF
      have hq := hgq10
      refine oneOp (by rfl) (index (e := 3) (k := .i64) T hS kr kr kr kr h219 kr kr hq.1 hq.2 ?_)
      intro A220 a h221 hS
      clear hq
      refine andH (Hold.of hS (bks := []) kr hD) ?_
      intro hH
      refine anyOf (is := [11, 13]) kr (by decide) ?_
      intro i hi
      rcases mem2 hi with rfl | rfl
      ·refine oneOp (by rfl) (load1 T hS kr kr kr h221 rfl kr ?_)
       intro v222 a hv hS
       cases hv
       refine andH (Hold.of hS (bks := []) kr hD) ?_
       intro hH
       replace hS := hS.sel [4, 5, 113, 114, 119, 122, 125, 115, 116, 117, 120, 123, 124] [5] (sy' := ⟨[(4, Pt 5 0), (5, V (.slice a151 rest_150.length c152)), (113, V (.agg #[.int .i64 0, .int .i64 0, .int .i64 0, .slice none 0 0])), (114, V (.slice a115 r114.1.length c116)), (119, V (.slice a156 places_155.length c157)), (122, I (IntKind.i64.wrap (r169.1 + 1))), (125, I r169.2), (115, V (.pointer (some A172))), (116, V (.pointer (some A174))), (117, I ((gi r114.1 0).At)), (120, V (.slice a184 ([(gi r114.1 0).At] ++ places_155).length c185)), (123, V (.pointer (some A220))), (124, I (gi ([(gi r114.1 0).At] ++ places_155) (IntKind.i64.wrap (r169.1 + 1))))], [(5, (25, [I 0, I 0, I 0, V (.slice none 0 0)]))]⟩) kr
       refine only 13 kr (by rfl) (store1 T hS kr kr (sy' := ⟨[(4, Pt 5 0), (5, V (.slice a151 rest_150.length c152)), (113, V (.agg #[.int .i64 0, .int .i64 0, .int .i64 0, .slice none 0 0])), (114, V (.slice a115 r114.1.length c116)), (119, V (.slice a156 places_155.length c157)), (122, I (IntKind.i64.wrap (r169.1 + 1))), (125, I r169.2), (115, V (.pointer (some A172))), (116, V (.pointer (some A174))), (117, I ((gi r114.1 0).At)), (120, V (.slice a184 ([(gi r114.1 0).At] ++ places_155).length c185)), (123, V (.pointer (some A220))), (124, I (gi ([(gi r114.1 0).At] ++ places_155) (IntKind.i64.wrap (r169.1 + 1))))], [(5, (25, [I 0, I 0, I 0, V (.slice none 0 0)])), (5, (25, [I 0, I 0, I 0, V (.slice none 0 0)]))]⟩) kr ?_)
       intro a w223 χ224 hS hE
       replace hO := hO.mv hE rfl rfl
       replace hD := hD.ev hE rfl
       replace h153 := h153.mv hE rfl
       replace h154 := h154.mv hE rfl
       replace h158 := h158.mv hE rfl rfl
       replace h173 := h173.mv hE rfl
       replace h175 := h175.mv hE rfl
       replace h219 := h219.mv hE rfl
       replace h221 := h221.mv hE rfl
       clear hE
       replace hS := hS.sel [4, 5, 113, 114, 119, 122, 125, 115, 116, 117, 120, 123, 124] [5] (sy' := ⟨[(4, Pt 5 0), (5, V (.slice a151 rest_150.length c152)), (113, V (.agg #[.int .i64 0, .int .i64 0, .int .i64 0, .slice none 0 0])), (114, V (.slice a115 r114.1.length c116)), (119, V (.slice a156 places_155.length c157)), (122, I (IntKind.i64.wrap (r169.1 + 1))), (125, I r169.2), (115, V (.pointer (some A172))), (116, V (.pointer (some A174))), (117, I ((gi r114.1 0).At)), (120, V (.slice a184 ([(gi r114.1 0).At] ++ places_155).length c185)), (123, V (.pointer (some A220))), (124, I (gi ([(gi r114.1 0).At] ++ places_155) (IntKind.i64.wrap (r169.1 + 1))))], [(5, (25, [I 0, I 0, I 0, V (.slice none 0 0)]))]⟩) kr
       refine andH (Hold.of hS (bks := []) kr hD) ?_
       intro hH
       refine take T [14, 15, 16] [] [4, 5, 6, 7] hS kr kr kr hH (listed' := #[true, true, true, true, true, true, true, true, true, true, true, true, true, true, true, true, true]) (fuel := 0) (sy' := ⟨[(4, Pt 5 0), (5, V (.slice none 0 0)), (6, I (gi ([(gi r114.1 0).At] ++ places_155) (IntKind.i64.wrap (r169.1 + 1)))), (7, I r169.2)], [(5, (25, [I 0, I 0, I 0, V (.slice none 0 0)]))]⟩) kr (by rfl) ?_
       intro a hS
       exact H _ _ ⟨_, hS.sel [4, 5, 6, 7] [5] kr, hO, hD, hH⟩
      ·replace hS := hS.sel [4, 5, 113, 114, 119, 122, 125, 115, 116, 117, 120, 123] [5] (sy' := ⟨[(4, Pt 5 0), (5, V (.slice a151 rest_150.length c152)), (113, V (.agg #[.int .i64 0, .int .i64 0, .int .i64 0, .slice none 0 0])), (114, V (.slice a115 r114.1.length c116)), (119, V (.slice a156 places_155.length c157)), (122, I (IntKind.i64.wrap (r169.1 + 1))), (125, I r169.2), (115, V (.pointer (some A172))), (116, V (.pointer (some A174))), (117, I ((gi r114.1 0).At)), (120, V (.slice a184 ([(gi r114.1 0).At] ++ places_155).length c185)), (123, V (.pointer (some A220)))], [(5, (25, [I 0, I 0, I 0, V (.slice none 0 0)]))]⟩) kr
       refine oneOp (by rfl) (store1 T hS kr kr (sy' := ⟨[(4, Pt 5 0), (5, V (.slice a151 rest_150.length c152)), (113, V (.agg #[.int .i64 0, .int .i64 0, .int .i64 0, .slice none 0 0])), (114, V (.slice a115 r114.1.length c116)), (119, V (.slice a156 places_155.length c157)), (122, I (IntKind.i64.wrap (r169.1 + 1))), (125, I r169.2), (115, V (.pointer (some A172))), (116, V (.pointer (some A174))), (117, I ((gi r114.1 0).At)), (120, V (.slice a184 ([(gi r114.1 0).At] ++ places_155).length c185)), (123, V (.pointer (some A220)))], [(5, (25, [I 0, I 0, I 0, V (.slice none 0 0)])), (5, (25, [I 0, I 0, I 0, V (.slice none 0 0)]))]⟩) kr ?_)
       intro a w225 χ226 hS hE
       replace hO := hO.mv hE rfl rfl
       replace hD := hD.ev hE rfl
       replace h153 := h153.mv hE rfl
       replace h154 := h154.mv hE rfl
       replace h158 := h158.mv hE rfl rfl
       replace h173 := h173.mv hE rfl
       replace h175 := h175.mv hE rfl
       replace h219 := h219.mv hE rfl
       replace h221 := h221.mv hE rfl
       clear hE
       replace hS := hS.sel [4, 5, 113, 114, 119, 122, 125, 115, 116, 117, 120, 123] [5] (sy' := ⟨[(4, Pt 5 0), (5, V (.slice a151 rest_150.length c152)), (113, V (.agg #[.int .i64 0, .int .i64 0, .int .i64 0, .slice none 0 0])), (114, V (.slice a115 r114.1.length c116)), (119, V (.slice a156 places_155.length c157)), (122, I (IntKind.i64.wrap (r169.1 + 1))), (125, I r169.2), (115, V (.pointer (some A172))), (116, V (.pointer (some A174))), (117, I ((gi r114.1 0).At)), (120, V (.slice a184 ([(gi r114.1 0).At] ++ places_155).length c185)), (123, V (.pointer (some A220)))], [(5, (25, [I 0, I 0, I 0, V (.slice none 0 0)]))]⟩) kr
       refine andH (Hold.of hS (bks := []) kr hD) ?_
       intro hH
       refine take T [14] [] [4, 5, 123, 125] hS kr kr kr hH (listed' := #[true, true, true, true, true, true, true, true, true, true, true, false, true, true, true, false, false]) (fuel := 3) (sy' := ⟨[(4, Pt 5 0), (5, V (.slice none 0 0)), (123, V (.pointer (some A220))), (125, I r169.2)], [(5, (25, [I 0, I 0, I 0, V (.slice none 0 0)]))]⟩) kr (by rfl) ?_
       intro a hS
       refine only 11 kr (by rfl) (load1 T hS kr kr kr h221 rfl kr ?_)
       intro v227 a hv hS
       cases hv
       refine andH (Hold.of hS (bks := []) kr hD) ?_
       intro hH
       refine take T [15, 16] [] [4, 5, 6, 7] hS kr kr kr hH (listed' := #[true, true, true, true, true, true, true, true, true, true, true, true, true, true, true, true, true]) (fuel := 0) (sy' := ⟨[(4, Pt 5 0), (5, V (.slice none 0 0)), (6, I (gi ([(gi r114.1 0).At] ++ places_155) (IntKind.i64.wrap (r169.1 + 1)))), (7, I r169.2)], [(5, (25, [I 0, I 0, I 0, V (.slice none 0 0)]))]⟩) kr (by rfl) ?_
       intro a hS
       exact H _ _ ⟨_, hS.sel [4, 5, 6, 7] [5] kr, hO, hD, hH⟩
     ·replace hS := hS.sel [4, 5, 113, 114, 119, 122, 125, 115, 116, 117, 120] [5] (sy' := ⟨[(4, Pt 5 0), (5, V (.slice a151 rest_150.length c152)), (113, V (.agg #[.int .i64 0, .int .i64 0, .int .i64 0, .slice none 0 0])), (114, V (.slice a115 r114.1.length c116)), (119, V (.slice a156 places_155.length c157)), (122, I (IntKind.i64.wrap (r169.1 + 1))), (125, I r169.2), (115, V (.pointer (some A172))), (116, V (.pointer (some A174))), (117, I ((gi r114.1 0).At)), (120, V (.slice a184 ([(gi r114.1 0).At] ++ places_155).length c185))], [(5, (25, [I 0, I 0, I 0, V (.slice none 0 0)]))]⟩) kr
      refine oneOp (by rfl) (store1 T hS kr kr (sy' := ⟨[(4, Pt 5 0), (5, V (.slice a151 rest_150.length c152)), (113, V (.agg #[.int .i64 0, .int .i64 0, .int .i64 0, .slice none 0 0])), (114, V (.slice a115 r114.1.length c116)), (119, V (.slice a156 places_155.length c157)), (122, I (IntKind.i64.wrap (r169.1 + 1))), (125, I r169.2), (115, V (.pointer (some A172))), (116, V (.pointer (some A174))), (117, I ((gi r114.1 0).At)), (120, V (.slice a184 ([(gi r114.1 0).At] ++ places_155).length c185))], [(5, (25, [I 0, I 0, I 0, V (.slice none 0 0)])), (5, (25, [I 0, I 0, I 0, V (.slice none 0 0)]))]⟩) kr ?_)
      intro a w228 χ229 hS hE
      replace hO := hO.mv hE rfl rfl
      replace hD := hD.ev hE rfl
      replace h153 := h153.mv hE rfl
      replace h154 := h154.mv hE rfl
      replace h158 := h158.mv hE rfl rfl
      replace h173 := h173.mv hE rfl
      replace h175 := h175.mv hE rfl
      replace h183 := h183.mv hE rfl rfl
      clear hE
      replace hS := hS.sel [4, 5, 113, 114, 119, 122, 125, 115, 116, 117, 120] [5] (sy' := ⟨[(4, Pt 5 0), (5, V (.slice a151 rest_150.length c152)), (113, V (.agg #[.int .i64 0, .int .i64 0, .int .i64 0, .slice none 0 0])), (114, V (.slice a115 r114.1.length c116)), (119, V (.slice a156 places_155.length c157)), (122, I (IntKind.i64.wrap (r169.1 + 1))), (125, I r169.2), (115, V (.pointer (some A172))), (116, V (.pointer (some A174))), (117, I ((gi r114.1 0).At)), (120, V (.slice a184 ([(gi r114.1 0).At] ++ places_155).length c185))], [(5, (25, [I 0, I 0, I 0, V (.slice none 0 0)]))]⟩) kr
      refine andH (Hold.of hS (bks := []) kr hD) ?_
      intro hH
      refine take T [14] [] [4, 5, 120, 122, 125] hS kr kr kr hH (listed' := #[true, true, true, true, true, true, true, true, true, true, false, false, true, true, true, false, false]) (fuel := 4) (sy' := ⟨[(4, Pt 5 0), (5, V (.slice none 0 0)), (120, V (.slice a184 ([(gi r114.1 0).At] ++ places_155).length c185)), (122, I (IntKind.i64.wrap (r169.1 + 1))), (125, I r169.2)], [(5, (25, [I 0, I 0, I 0, V (.slice none 0 0)]))]⟩) kr (by rfl) ?_
      intro a hS
      obtain ⟨χ230, hE, hF⟩ := h183.freeze (by decide)
      replace hS := hS.ev hE (xone_box kr)
      replace hO := hO.mv hE rfl rfl
      replace hD := hD.ev hE rfl
      replace h153 := h153.mv hE rfl
      replace h154 := h154.mv hE rfl
      replace h158 := h158.mv hE rfl rfl
      replace h173 := h173.mv hE rfl
      replace h175 := h175.mv hE rfl
      have h231 := hF; clear hE hF
      have hq := hgq10
      refine only 10 kr (by rfl) (index (e := 3) (k := .i64) T hS kr kr kr kr h231 kr kr hq.1 hq.2 ?_)
      intro A232 a h233 hS
      clear hq
      refine andH (Hold.of hS (bks := []) kr hD) ?_
      intro hH
      refine only 11 kr (by rfl) (load1 T hS kr kr kr h233 rfl kr ?_)
      intro v234 a hv hS
      cases hv
      refine andH (Hold.of hS (bks := []) kr hD) ?_
      intro hH
      refine take T [15, 16] [] [4, 5, 6, 7] hS kr kr kr hH (listed' := #[true, true, true, true, true, true, true, true, true, true, true, true, true, true, true, true, true]) (fuel := 0) (sy' := ⟨[(4, Pt 5 0), (5, V (.slice none 0 0)), (6, I (gi ([(gi r114.1 0).At] ++ places_155) (IntKind.i64.wrap (r169.1 + 1)))), (7, I r169.2)], [(5, (25, [I 0, I 0, I 0, V (.slice none 0 0)]))]⟩) kr (by rfl) ?_
      intro a hS
      exact H _ _ ⟨_, hS.sel [4, 5, 6, 7] [5] kr, hO, hD, hH⟩
   ·replace hm := hm.2 hb
    refine wskip ?_
    refine regM T hS (sp := []) (ks := [4, 5, 6, 7]) (bs := [5]) (sy' := ⟨[(4, Pt 5 0), (5, V (.slice a151 rest_150.length c152)), (6, I end_), (7, I 0)], [(5, (25, [I x_159, I x_160, I x_161, V (.slice a163 x_162.length c164)]))]⟩) kr ?_
    intro ρ a w239 χ240 hS hE hr
    replace hO := hO.mv hE rfl rfl
    replace h153 := h153.mv hE rfl
    replace h165 := h165.mv hE rfl rfl
    clear hE hr
    refine wret ?_
    obtain ⟨χ237, hE, hF⟩ := h165.freeze (by decide)
    replace hS := hS.ev hE (xone_box kr)
    replace hO := hO.mv hE rfl rfl
    replace h153 := h153.mv hE rfl
    have h238 := hF; clear hE hF
    exact fin T hS hO (fun c => c) rfl (r := [.agg #[.int .i64 x_159, .int .i64 x_160, .int .i64 x_161, .slice a163 x_162.length c164], .slice a151 rest_150.length c152, .int .i64 end_, .int .i64 0]) kr (fun χ' hM hC => ⟨((⟨x_159, x_160, x_161, x_162⟩ : Api_Object), rest_150, end_, 0), hm, a163, c164, a151, c152, rfl, h238.m0 hM, h153.m0 hM⟩)
theorem C17 (k32 : S32) (k40 : S40) (k41 : S41) (k42 : S42) (v : ∀ (lines : List (List Token_Token)) (end_ : Int), preTk lines end_ → VC17 lines end_ (fun r => r = objtext_Take lines end_)) : S17 := by
 intro w χ lines end_ a1 c1   hp h1
 refine (W17 k32 k40 k41 k42 w χ lines end_ a1 c1   _ (v lines end_ hp) h1).mono ?_
 rintro _ _ _ _ ⟨r, rfl, h⟩
 exact h
/-- replevin/objtext.words -/
theorem W51 (k28 : S28) (w0 : World) (χ0 : Nat → Nat) (word : List UInt8) (n_ : List Int) (a1 : Option Addr) (c1 : Nat) (Q : (List Token_Token) → Prop) (hm : VC51 word n_ Q) (h1 : RS tI w0 χ0 a1 n_ c1) (hAmb : Amb w0 χ0) :
  Ret Tryd.prog 51 #[.string (bs word), .slice a1 n_.length c1] xnone w0 χ0 (fun w χ' v => ∃ r, Q r ∧ ∃ (ra1 : Option Addr) (rc1 : Nat), v = .slice ra1 r.length rc1 ∧ RS tToken_Token w χ' ra1 r rc1) := by
 unfold VC51 at hm
 replace hm := hm (h1.sm kr)
 refine enter Tryd.func51 rfl (vals := [.string (bs word), .slice a1 n_.length c1]) kr ?_
 intro ρ a hS hO hM
 replace h1 := h1.m0 hM
 replace hAmb := hAmb.m0 hM
 clear hM
 refine regP T hS (sp := []) (ks := [0, 1]) (bs := []) (sy' := ⟨[(0, V (.string (bs word))), (1, V (.slice a1 n_.length c1))], []⟩) kr ?_
 intro a hS
 refine regO ?_
 refine opsP T hS 2 (sp := []) (ks := [1, 9]) (bs := []) (sy' := ⟨[(1, V (.slice a1 n_.length c1)), (9, V (.agg #[.int .i64 0, .int .i64 0, .string (bs word)]))], []⟩) kr ?_
 intro a hS
 refine op1 (lit (E := 49) (col := 1005) (T := tToken_Token) (vals := [.agg #[.int .i64 0, .int .i64 0, .string (bs word)]]) (ys := [(⟨0, 0, word⟩ : Token_Token)]) T hS kr kr kr kr (by exact ⟨rfl, trivial⟩) rfl kr kr kr kr ?_)
 intro b101 a w102 χ103 hE h104 hN hS
 clear hN
 replace hO := hO.mv hE rfl rfl
 replace h1 := h1.mv hE rfl
 replace hAmb := hAmb.mv hE rfl
 clear hE
 refine endP T hS (sp := []) (ks := [1, 5]) (bs := []) (sy' := ⟨[(1, V (.slice a1 n_.length c1)), (5, V (.slice (some ⟨b101, 0, none⟩) [(⟨0, 0, word⟩ : Token_Token)].length 1))], []⟩) kr ?_
 intro a hS
 refine wcut (fun a w => ∃ (ρ : Nat → Nat) (χ : Nat → Nat) (out_105 : List Token_Token) (a106 : Option Addr) (c107 : Nat), VC51_J1 Q out_105 ∧ St Tryd.f51.ntmps ⟨[(5, V (.slice a106 out_105.length c107))], []⟩ ρ a w χ ∧ Old w0 χ0 w χ ∧ OS tToken_Token 49 w χ 1005 a106 out_105 c107 ∧ Amb w χ) ?_ ?_
 ·refine regP T hS (sp := []) (ks := [5, 11, 12, 13]) (bs := []) (sy' := ⟨[(5, V (.slice (some ⟨b101, 0, none⟩) [(⟨0, 0, word⟩ : Token_Token)].length 1)), (11, V (.slice a1 n_.length c1)), (12, I ((n_.length : Nat) : Int)), (13, I 0)], []⟩) kr ?_
  intro a hS
  refine wblock ?_
  obtain ⟨I1, μ1, hm0, hm⟩ := hm
  refine wloop (σ := (List Token_Token) × Int) (fun s a w => ∃ (ρ : Nat → Nat) (χ : Nat → Nat) (a112 : Option Addr) (c113 : Nat), I1 s.1 s.2 ∧ St Tryd.f51.ntmps ⟨[(5, V (.slice a112 s.1.length c113)), (11, V (.slice a1 n_.length c1)), (12, I ((n_.length : Nat) : Int)), (13, I s.2)], []⟩ ρ a w χ ∧ Old w0 χ0 w χ ∧ OS tToken_Token 49 w χ 1005 a112 s.1 c113 ∧ RS tI w χ a1 n_ c1 ∧ Amb w χ) (fun s => μ1 s.1 s.2) (⟨[(⟨0, 0, word⟩ : Token_Token)], 0⟩) ?_ ?_
  ·exact ⟨ρ, _, (some ⟨b101, 0, none⟩), 1, hm0, hS.sel [5, 11, 12, 13] [] kr, hO, h104, h1, hAmb⟩
  ·rintro ⟨out_111, x_116⟩ a w134 ⟨ρ, χ133, a112, c113, hI, hS, hO, h114, h115, hAmb⟩
   replace hm := hm out_111 x_116 hI
   clear hI hm0
   refine regP T hS (sp := []) (ks := [5, 11, 12, 13, 14]) (bs := []) (sy' := ⟨[(5, V (.slice a112 out_111.length c113)), (11, V (.slice a1 n_.length c1)), (12, I ((n_.length : Nat) : Int)), (13, I x_116), (14, B (decide (x_116 < ((n_.length : Nat) : Int))))], []⟩) kr ?_
   intro a hS
   refine wseq ?_
   refine wcond hS (b := decide (x_116 < ((n_.length : Nat) : Int))) kr (fun hb => ?_) (fun hb => ?_)
   ·replace hm := hm.1 hb
    refine wskip ?_
    refine wseq ?_
    refine wblock ?_
    refine regO ?_
    obtain ⟨hq, hm⟩ := hm
    refine op1 (index (e := 3) (k := .i64) T hS kr kr kr kr h115 kr kr hq.1 hq.2 ?_)
    intro A117 a h118 hS
    clear hq
    refine op1 (load1 T hS kr kr kr h118 rfl kr ?_)
    intro v119 a hv hS
    cases hv
    refine endP T hS (sp := []) (ks := [5, 7, 11, 12, 13]) (bs := []) (sy' := ⟨[(5, V (.slice a112 out_111.length c113)), (7, I (gi n_ x_116)), (11, V (.slice a1 n_.length c1)), (12, I ((n_.length : Nat) : Int)), (13, I x_116)], []⟩) kr ?_
    intro a hS
    refine region ?_
    refine opsP T hS 2 (sp := []) (ks := [5, 11, 12, 13, 17, 18]) (bs := []) (sy' := ⟨[(5, V (.slice a112 out_111.length c113)), (11, V (.slice a1 n_.length c1)), (12, I ((n_.length : Nat) : Int)), (13, I x_116), (17, V (.slice a112 out_111.length c113)), (18, I (gi n_ x_116))], []⟩) kr ?_
    intro a hS
    obtain ⟨hq, hm⟩ := hm
    refine op1 (call hS kr kr hb28 kr (fun _ _ => rfl) (k28 _ _ (gi n_ x_116) hq hAmb) ?_)
    intro v120 a w121 χ122 hE hp hS
    clear hq
    replace hO := hO.mv hE rfl rfl
    replace h114 := h114.mv hE rfl rfl
    replace h115 := h115.mv hE rfl
    replace hAmb := hAmb.mv hE rfl
    clear hE
    obtain ⟨r123, hr⟩ : ∃ r, token_Digits (gi n_ x_116) = r := ⟨_, rfl⟩
    replace hm := hm r123 hr
    rw [hr] at hp
    clear hr
    subst hp
    refine opsP T hS 1 (sp := []) (ks := [5, 11, 12, 13, 17, 20]) (bs := []) (sy' := ⟨[(5, V (.slice a112 out_111.length c113)), (11, V (.slice a1 n_.length c1)), (12, I ((n_.length : Nat) : Int)), (13, I x_116), (17, V (.slice a112 out_111.length c113)), (20, V (.agg #[.int .i64 0, .int .i64 0, .string (bs r123)]))], []⟩) kr ?_
    intro a hS
    refine op1 (lit (E := 49) (col := 0) (T := tToken_Token) (vals := [.agg #[.int .i64 0, .int .i64 0, .string (bs r123)]]) (ys := [(⟨0, 0, r123⟩ : Token_Token)]) T hS kr kr kr kr (by exact ⟨rfl, trivial⟩) rfl kr kr kr kr ?_)
    intro b124 a w125 χ126 hE h127 hN hS
    clear hN
    replace hO := hO.mv hE rfl rfl
    replace h114 := h114.mv hE rfl rfl
    replace h115 := h115.mv hE rfl
    replace hAmb := hAmb.mv hE rfl
    clear hE
    replace h127 := h127.rs0
    obtain ⟨hq, hm⟩ := hm
    obtain ⟨news, hN⟩ := h127.src
    refine op1 (append (E := 49) (T := tToken_Token) (col := 1005) (xs := out_111) T hS kr kr kr kr h114 hN kr kr kr kr hq ?_)
    intro a131 c132 a w128 χ129 hE h130 hS
    clear hq hN
    clear h114
    replace hO := hO.mv hE rfl rfl
    replace h115 := h115.mv hE rfl
    replace hAmb := hAmb.mv hE rfl
    replace h127 := h127.mv hE rfl
    clear hE
    refine endP T hS (sp := []) (ks := [5, 11, 12, 13]) (bs := []) (sy' := ⟨[(5, V (.slice a131 (out_111 ++ [(⟨0, 0, r123⟩ : Token_Token)]).length c132)), (11, V (.slice a1 n_.length c1)), (12, I ((n_.length : Nat) : Int)), (13, I x_116)], []⟩) kr ?_
    intro a hS
    refine region (endP T hS (sp := []) (ks := [5, 11, 12, 13]) (bs := []) (sy' := ⟨[(5, V (.slice a131 (out_111 ++ [(⟨0, 0, r123⟩ : Token_Token)]).length c132)), (11, V (.slice a1 n_.length c1)), (12, I ((n_.length : Nat) : Int)), (13, I (IntKind.i64.wrap (x_116 + 1)))], []⟩) kr ?_)
    intro a hS
    exact ⟨⟨out_111 ++ [(⟨0, 0, r123⟩ : Token_Token)], IntKind.i64.wrap (x_116 + 1)⟩, ⟨ρ, _, a131, c132, hm.1, hS.sel [5, 11, 12, 13] [] kr, hO, h130, h115, hAmb⟩, hm.2⟩
   ·replace hm := hm.2 hb
    refine wexit (by rfl) ?_
    exact ⟨ρ, _, out_111, a112, c113, hm, hS.sel [5] [] kr, hO, h114, hAmb⟩
 ·rintro a w136 ⟨ρ, χ135, out_105, a106, c107, hm, hS, hO, h108, hAmb⟩
  unfold VC51_J1 at hm
  refine regP T hS (sp := []) (ks := [4]) (bs := []) (sy' := ⟨[(4, V (.slice a106 out_105.length c107))], []⟩) kr ?_
  intro a hS
  refine wret ?_
  obtain ⟨χ109, hE, hF⟩ := h108.freeze (by decide)
  replace hS := hS.ev hE (xone_box kr)
  replace hO := hO.mv hE rfl rfl
  replace hAmb := hAmb.mv hE rfl
  have h110 := hF; clear hE hF
  exact fin T hS hO (fun c => c) rfl (r := [.slice a106 out_105.length c107]) kr (fun χ' hM hC => ⟨out_105, hm, a106, c107, rfl, h110.m0 hM⟩)
theorem C51 (k28 : S28) (v : ∀ (word : List UInt8) (n_ : List Int), preW word n_ → VC51 word n_ (fun r => r = objtext_words word n_)) : S51 := by
 intro w χ word n_ a1 c1   hp h1 hAmb
 refine (W51 k28 w χ word n_ a1 c1   _ (v word n_ hp) h1 hAmb).mono ?_
 rintro _ _ _ _ ⟨r, rfl, h⟩
 exact h
/-- (replevin/objtext.printed).line -/
theorem W50 (k51 : S51) (w0 : World) (χ0 : Nat → Nat) (p_ : Api_Row) (Q : (List Token_Token) → Prop) (hm : VC50 p_ Q) (hAmb : Amb w0 χ0) :
  Ret Tryd.prog 50 #[.agg #[.int .i64 p_.State, .int .i64 p_.Kind, .int .i64 p_.Next, .int .i64 p_.Result]] xnone w0 χ0 (fun w χ' v => ∃ r, Q r ∧ ∃ (ra1 : Option Addr) (rc1 : Nat), v = .slice ra1 r.length rc1 ∧ RS tToken_Token w χ' ra1 r rc1) := by
 unfold VC50 at hm
 refine enter Tryd.func50 rfl (vals := [.agg #[.int .i64 p_.State, .int .i64 p_.Kind, .int .i64 p_.Next, .int .i64 p_.Result]]) kr ?_
 intro ρ a hS hO hM
 replace hAmb := hAmb.m0 hM
 clear hM
 refine regM T hS (sp := []) (ks := [1]) (bs := [2]) (sy' := ⟨[(1, Pt 2 0)], [(2, (111, [I p_.State, I p_.Kind, I p_.Next, I p_.Result]))]⟩) kr ?_
 intro ρ a w112 χ113 hS hE hr
 replace hO := hO.mv hE rfl rfl
 replace hAmb := hAmb.mv hE rfl
 clear hE hr
 refine regO ?_
 refine opsP T hS 8 (sp := []) (ks := [4, 6, 8, 10]) (bs := []) (sy' := ⟨[(4, I p_.State), (6, I p_.Kind), (8, I p_.Next), (10, I p_.Result)], []⟩) kr ?_
 intro a hS
 refine op1 (lit (E := 3) (col := 0) (T := tI) (vals := [.int .i64 p_.State, .int .i64 p_.Kind, .int .i64 p_.Next, .int .i64 p_.Result]) (ys := [p_.State, p_.Kind, p_.Next, p_.Result]) T hS kr kr kr kr (by exact ⟨rfl, rfl, rfl, rfl, trivial⟩) rfl kr kr kr kr ?_)
 intro b101 a w102 χ103 hE h104 hN hS
 clear hN
 replace hO := hO.mv hE rfl rfl
 replace hAmb := hAmb.mv hE rfl
 clear hE
 replace h104 := h104.rs0
 obtain ⟨hq, hm⟩ := hm
 refine op1 (call hS kr kr hb51 kr (fun _ _ => rfl) (k51 _ _ ([114, 111, 119] : List UInt8) [p_.State, p_.Kind, p_.Next, p_.Result] (some ⟨b101, 0, none⟩) 4 hq h104 hAmb) ?_)
 intro v105 a w106 χ107 hE hp hS
 clear hq
 replace hO := hO.mv hE rfl rfl
 replace hAmb := hAmb.mv hE rfl
 replace h104 := h104.mv hE rfl
 clear hE
 obtain ⟨a109, c110, hp, h111⟩ := hp
 obtain ⟨r108, hr⟩ : ∃ r, objtext_words ([114, 111, 119] : List UInt8) [p_.State, p_.Kind, p_.Next, p_.Result] = r := ⟨_, rfl⟩
 replace hm := hm r108 hr
 rw [hr] at hp h111
 clear hr
 subst hp
 replace hm := hm (h111.sm kr)
 refine endP T hS (sp := []) (ks := [2]) (bs := []) (sy' := ⟨[(2, V (.slice a109 r108.length c110))], []⟩) kr ?_
 intro a hS
 refine wret ?_
 exact fin T hS hO (fun c => c) rfl (r := [.slice a109 r108.length c110]) kr (fun χ' hM hC => ⟨r108, hm, a109, c110, rfl, h111.m0 hM⟩)
theorem C50 (k51 : S51) (v : ∀ (p_ : Api_Row), preP p_ → VC50 p_ (fun r => r = objtext_printed_line p_)) : S50 := by
 intro w χ p_    hp hAmb
 refine (W50 k51 w χ p_    _ (v p_ hp) hAmb).mono ?_
 rintro _ _ _ _ ⟨r, rfl, h⟩
 exact h
/-- replevin/objtext.Print -/
theorem W25 (k32 : S32) (k50 : S50) (k51 : S51) (k52 : S52) (w0 : World) (χ0 : Nat → Nat) (o_ : Api_Object) (a1 : Option Addr) (c1 : Nat) (Q : (List UInt8) × Int → Prop) (hm : VC25 o_ Q) (h1 : RS tApi_Row w0 χ0 a1 o_.Rows c1) (hAmb : Amb w0 χ0) :
  Ret Tryd.prog 25 #[.agg #[.int .i64 o_.States, .int .i64 o_.Kinds, .int .i64 o_.Init, .slice a1 o_.Rows.length c1]] xnone w0 χ0 (fun w χ' v => ∃ r, Q r ∧ v = .tuple #[.string (bs r.1), .int .i64 r.2]) := by
 unfold VC25 at hm
 replace hm := hm (h1.sm kr)
 refine enter Tryd.func25 rfl (vals := [.agg #[.int .i64 o_.States, .int .i64 o_.Kinds, .int .i64 o_.Init, .slice a1 o_.Rows.length c1]]) kr ?_
 intro ρ a hS hO hM
 replace h1 := h1.m0 hM
 replace hAmb := hAmb.m0 hM
 clear hM
 refine regM T hS (sp := []) (ks := [1]) (bs := [2]) (sy' := ⟨[(1, Pt 2 0)], [(2, (25, [I o_.States, I o_.Kinds, I o_.Init, V (.slice a1 o_.Rows.length c1)]))]⟩) kr ?_
 intro ρ a w159 χ160 hS hE hr
 replace hO := hO.mv hE rfl rfl
 replace h1 := h1.mv hE rfl
 replace hAmb := hAmb.mv hE rfl
 clear hE hr
 refine wseq ?_
 refine regO ?_
 refine opsP T hS 1 (sp := []) (ks := [1, 11]) (bs := [2]) (sy' := ⟨[(1, Pt 2 0), (11, V (.agg #[.int .i64 o_.States, .int .i64 o_.Kinds, .int .i64 o_.Init, .slice a1 o_.Rows.length c1]))], [(2, (25, [I o_.States, I o_.Kinds, I o_.Init, V (.slice a1 o_.Rows.length c1)]))]⟩) kr ?_
 intro a hS
 obtain ⟨hq, hm⟩ := hm
 refine op1 (call hS kr kr hb32 kr (fun _ _ => rfl) (k32 _ _ o_ a1 c1 hq h1) ?_)
 intro v101 a w102 χ103 hE hp hS
 clear hq
 replace hO := hO.mv hE rfl rfl
 replace h1 := h1.mv hE rfl
 replace hAmb := hAmb.mv hE rfl
 clear hE
 obtain ⟨r104, hr⟩ : ∃ r, object_Check o_ = r := ⟨_, rfl⟩
 replace hm := hm r104 hr
 rw [hr] at hp
 clear hr
 subst hp
 refine endP T hS (sp := []) (ks := [1, 5]) (bs := [2]) (sy' := ⟨[(1, Pt 2 0), (5, I r104.2)], [(2, (25, [I o_.States, I o_.Kinds, I o_.Init, V (.slice a1 o_.Rows.length c1)]))]⟩) kr ?_
 intro a hS
 refine regP T hS (sp := []) (ks := [1, 5, 16]) (bs := [2]) (sy' := ⟨[(1, Pt 2 0), (5, I r104.2), (16, B (r104.2 != 0))], [(2, (25, [I o_.States, I o_.Kinds, I o_.Init, V (.slice a1 o_.Rows.length c1)]))]⟩) kr ?_
 intro a hS
 refine wcond hS (b := (r104.2 != 0)) kr (fun hb => ?_) (fun hb => ?_)
 ·replace hm := hm.1 hb
  refine regP T hS (sp := []) (ks := [2, 3]) (bs := []) (sy' := ⟨[(2, V (.string (bs ([] : List UInt8)))), (3, I r104.2)], []⟩) kr ?_
  intro a hS
  refine wret ?_
  exact fin T hS hO (fun c => c) rfl (r := [.string (bs ([] : List UInt8)), .int .i64 r104.2]) kr (fun χ' hM hC => ⟨(([] : List UInt8), r104.2), hm, rfl⟩)
 ·replace hm := hm.2 hb
  refine wskip ?_
  refine regP T hS (sp := []) (ks := [1, 6]) (bs := [2]) (sy' := ⟨[(1, Pt 2 0), (6, .f (.func 50) [] [])], [(2, (25, [I o_.States, I o_.Kinds, I o_.Init, V (.slice a1 o_.Rows.length c1)]))]⟩) kr ?_
  intro a hS
  refine regO ?_
  refine opsP T hS 9 (sp := []) (ks := [1, 6, 19, 21, 23, 26]) (bs := [2]) (sy' := ⟨[(1, Pt 2 0), (6, .f (.func 50) [] []), (19, I o_.States), (21, I o_.Kinds), (23, I o_.Init), (26, I ((o_.Rows.length : Nat) : Int))], [(2, (25, [I o_.States, I o_.Kinds, I o_.Init, V (.slice a1 o_.Rows.length c1)]))]⟩) kr ?_
  intro a hS
  refine op1 (lit (E := 3) (col := 0) (T := tI) (vals := [.int .i64 o_.States, .int .i64 o_.Kinds, .int .i64 o_.Init, .int .i64 ((o_.Rows.length : Nat) : Int)]) (ys := [o_.States, o_.Kinds, o_.Init, ((o_.Rows.length : Nat) : Int)]) T hS kr kr kr kr (by exact ⟨rfl, rfl, rfl, rfl, trivial⟩) rfl kr kr kr kr ?_)
  intro b105 a w106 χ107 hE h108 hN hS
  clear hN
  replace hO := hO.mv hE rfl rfl
  replace h1 := h1.mv hE rfl
  replace hAmb := hAmb.mv hE rfl
  clear hE
  replace h108 := h108.rs0
  obtain ⟨hq, hm⟩ := hm
  refine op1 (call hS kr kr hb51 kr (fun _ _ => rfl) (k51 _ _ ([111, 98, 106, 101, 99, 116] : List UInt8) [o_.States, o_.Kinds, o_.Init, ((o_.Rows.length : Nat) : Int)] (some ⟨b105, 0, none⟩) 4 hq h108 hAmb) ?_)
  intro v109 a w110 χ111 hE hp hS
  clear hq
  replace hO := hO.mv hE rfl rfl
  replace h1 := h1.mv hE rfl
  replace hAmb := hAmb.mv hE rfl
  replace h108 := h108.mv hE rfl
  clear hE
  obtain ⟨a113, c114, hp, h115⟩ := hp
  obtain ⟨r112, hr⟩ : ∃ r, objtext_words ([111, 98, 106, 101, 99, 116] : List UInt8) [o_.States, o_.Kinds, o_.Init, ((o_.Rows.length : Nat) : Int)] = r := ⟨_, rfl⟩
  replace hm := hm r112 hr
  rw [hr] at hp h115
  clear hr
  subst hp
  replace hm := hm (h115.sm kr)
  refine op1 (lit (E := 47) (col := 1008) (T := (tSlice tToken_Token)) (vals := [.slice a113 r112.length c114]) (ys := [r112]) T hS kr kr kr kr (by exact ⟨⟨a113, c114, rfl, h115⟩, trivial⟩) rfl kr kr kr kr ?_)
  intro b116 a w117 χ118 hE h119 hN hS
  clear hN
  replace hO := hO.mv hE rfl rfl
  replace h1 := h1.mv hE rfl
  replace hAmb := hAmb.mv hE rfl
  replace h108 := h108.mv hE rfl
  replace h115 := h115.mv hE rfl
  clear hE
  refine endP T hS (sp := []) (ks := [1, 6, 7]) (bs := [2]) (sy' := ⟨[(1, Pt 2 0), (6, .f (.func 50) [] []), (7, V (.slice (some ⟨b116, 0, none⟩) [r112].length 1))], [(2, (25, [I o_.States, I o_.Kinds, I o_.Init, V (.slice a1 o_.Rows.length c1)]))]⟩) kr ?_
  intro a hS
  refine wcut (fun a w => ∃ (ρ : Nat → Nat) (χ : Nat → Nat) (lines_120 : List (List Token_Token)) (a121 : Option Addr) (c122 : Nat), VC25_J1 Q lines_120 ∧ St Tryd.f25.ntmps ⟨[(7, V (.slice a121 lines_120.length c122))], []⟩ ρ a w χ ∧ Old w0 χ0 w χ ∧ OS (tSlice tToken_Token) 47 w χ 1008 a121 lines_120 c122 ∧ Amb w χ) ?_ ?_
  ·refine regP T hS (sp := []) (ks := [6, 7, 31, 32, 33]) (bs := []) (sy' := ⟨[(6, .f (.func 50) [] []), (7, V (.slice (some ⟨b116, 0, none⟩) [r112].length 1)), (31, V (.slice a1 o_.Rows.length c1)), (32, I ((o_.Rows.length : Nat) : Int)), (33, I 0)], []⟩) kr ?_
   intro a hS
   refine wblock ?_
   obtain ⟨I1, μ1, hm0, hm⟩ := hm
   refine wloop (σ := (List (List Token_Token)) × Int) (fun s a w => ∃ (ρ : Nat → Nat) (χ : Nat → Nat) (a129 : Option Addr) (c130 : Nat), I1 s.1 s.2 ∧ St Tryd.f25.ntmps ⟨[(6, .f (.func 50) [] []), (7, V (.slice a129 s.1.length c130)), (31, V (.slice a1 o_.Rows.length c1)), (32, I ((o_.Rows.length : Nat) : Int)), (33, I s.2)], []⟩ ρ a w χ ∧ Old w0 χ0 w χ ∧ OS (tSlice tToken_Token) 47 w χ 1008 a129 s.1 c130 ∧ RS tApi_Row w χ a1 o_.Rows c1 ∧ Amb w χ) (fun s => μ1 s.1 s.2) (⟨[r112], 0⟩) ?_ ?_
   ·exact ⟨ρ, _, (some ⟨b116, 0, none⟩), 1, hm0, hS.sel [6, 7, 31, 32, 33] [] kr, hO, h119, h1, hAmb⟩
   ·rintro ⟨lines_128, x_133⟩ a w156 ⟨ρ, χ155, a129, c130, hI, hS, hO, h131, h132, hAmb⟩
    replace hm := hm lines_128 x_133 hI
    clear hI hm0
    refine regP T hS (sp := []) (ks := [6, 7, 31, 32, 33, 34]) (bs := []) (sy' := ⟨[(6, .f (.func 50) [] []), (7, V (.slice a129 lines_128.length c130)), (31, V (.slice a1 o_.Rows.length c1)), (32, I ((o_.Rows.length : Nat) : Int)), (33, I x_133), (34, B (decide (x_133 < ((o_.Rows.length : Nat) : Int))))], []⟩) kr ?_
    intro a hS
    refine wseq ?_
    refine wcond hS (b := decide (x_133 < ((o_.Rows.length : Nat) : Int))) kr (fun hb => ?_) (fun hb => ?_)
    ·replace hm := hm.1 hb
     refine wskip ?_
     refine wseq ?_
     refine wblock ?_
     refine regO ?_
     obtain ⟨hq, hm⟩ := hm
     refine op1 (index (e := 99) (k := .i64) T hS kr kr kr kr h132 kr kr hq.1 hq.2 ?_)
     intro A134 a h135 hS
     clear hq
     refine op1 (loadA T hS kr kr kr h135 kr kr ?_)
     intro v136 a hv hS
     subst hv
     refine endM T hS (sp := []) (ks := [6, 7, 9, 31, 32, 33]) (bs := [10]) (sy' := ⟨[(6, .f (.func 50) [] []), (7, V (.slice a129 lines_128.length c130)), (9, Pt 10 0), (31, V (.slice a1 o_.Rows.length c1)), (32, I ((o_.Rows.length : Nat) : Int)), (33, I x_133)], [(10, (99, [I ((gi o_.Rows x_133).State), I ((gi o_.Rows x_133).Kind), I ((gi o_.Rows x_133).Next), I ((gi o_.Rows x_133).Result)]))]⟩) kr ?_
     intro ρ a w153 χ154 hS hE hr
     replace hO := hO.mv hE rfl rfl
     replace h131 := h131.mv hE rfl rfl
     replace h132 := h132.mv hE rfl
     replace hAmb := hAmb.mv hE rfl
     clear hE hr
     refine region ?_
     refine opsP T hS 3 (sp := []) (ks := [6, 7, 31, 32, 33, 37, 38, 39]) (bs := []) (sy' := ⟨[(6, .f (.func 50) [] []), (7, V (.slice a129 lines_128.length c130)), (31, V (.slice a1 o_.Rows.length c1)), (32, I ((o_.Rows.length : Nat) : Int)), (33, I x_133), (37, V (.slice a129 lines_128.length c130)), (38, .f (.func 50) [] []), (39, V (.agg #[.int .i64 ((gi o_.Rows x_133).State), .int .i64 ((gi o_.Rows x_133).Kind), .int .i64 ((gi o_.Rows x_133).Next), .int .i64 ((gi o_.Rows x_133).Result)]))], []⟩) kr ?_
     intro a hS
     obtain ⟨hq, hm⟩ := hm
     refine op1 (callC (fi := []) (cp := []) hS kr kr hb50 kr kr (fun _ _ => rfl) (k50 _ _ (⟨(gi o_.Rows x_133).State, (gi o_.Rows x_133).Kind, (gi o_.Rows x_133).Next, (gi o_.Rows x_133).Result⟩ : Api_Row) hq hAmb) ?_)
     intro v137 a w138 χ139 hE hp hS
     clear hq
     replace hO := hO.mv hE rfl rfl
     replace h131 := h131.mv hE rfl rfl
     replace h132 := h132.mv hE rfl
     replace hAmb := hAmb.mv hE rfl
     clear hE
     obtain ⟨a141, c142, hp, h143⟩ := hp
     obtain ⟨r140, hr⟩ : ∃ r, objtext_printed_line (⟨(gi o_.Rows x_133).State, (gi o_.Rows x_133).Kind, (gi o_.Rows x_133).Next, (gi o_.Rows x_133).Result⟩ : Api_Row) = r := ⟨_, rfl⟩
     replace hm := hm r140 hr
     rw [hr] at hp h143
     clear hr
     subst hp
     replace hm := hm (h143.sm kr)
     refine op1 (lit (E := 47) (col := 0) (T := (tSlice tToken_Token)) (vals := [.slice a141 r140.length c142]) (ys := [r140]) T hS kr kr kr kr (by exact ⟨⟨a141, c142, rfl, h143⟩, trivial⟩) rfl kr kr kr kr ?_)
     intro b144 a w145 χ146 hE h147 hN hS
     clear hN
     replace hO := hO.mv hE rfl rfl
     replace h131 := h131.mv hE rfl rfl
     replace h132 := h132.mv hE rfl
     replace hAmb := hAmb.mv hE rfl
     replace h143 := h143.mv hE rfl
     clear hE
     replace h147 := h147.rs0
     obtain ⟨hq, hm⟩ := hm
     obtain ⟨news, hN⟩ := h147.src
     refine op1 (append (E := 47) (T := (tSlice tToken_Token)) (col := 1008) (xs := lines_128) T hS kr kr kr kr h131 hN kr kr kr kr hq ?_)
     intro a151 c152 a w148 χ149 hE h150 hS
     clear hq hN
     clear h131
     replace hO := hO.mv hE rfl rfl
     replace h132 := h132.mv hE rfl
     replace hAmb := hAmb.mv hE rfl
     replace h143 := h143.mv hE rfl
     replace h147 := h147.mv hE rfl
     clear hE
     refine endP T hS (sp := []) (ks := [6, 7, 31, 32, 33]) (bs := []) (sy' := ⟨[(6, .f (.func 50) [] []), (7, V (.slice a151 (lines_128 ++ [r140]).length c152)), (31, V (.slice a1 o_.Rows.length c1)), (32, I ((o_.Rows.length : Nat) : Int)), (33, I x_133)], []⟩) kr ?_
     intro a hS
     refine region (endP T hS (sp := []) (ks := [6, 7, 31, 32, 33]) (bs := []) (sy' := ⟨[(6, .f (.func 50) [] []), (7, V (.slice a151 (lines_128 ++ [r140]).length c152)), (31, V (.slice a1 o_.Rows.length c1)), (32, I ((o_.Rows.length : Nat) : Int)), (33, I (IntKind.i64.wrap (x_133 + 1)))], []⟩) kr ?_)
     intro a hS
     exact ⟨⟨lines_128 ++ [r140], IntKind.i64.wrap (x_133 + 1)⟩, ⟨ρ, _, a151, c152, hm.1, hS.sel [6, 7, 31, 32, 33] [] kr, hO, h150, h132, hAmb⟩, hm.2⟩
    ·replace hm := hm.2 hb
     refine wexit (by rfl) ?_
     exact ⟨ρ, _, lines_128, a129, c130, hm, hS.sel [7] [] kr, hO, h131, hAmb⟩
  ·rintro a w158 ⟨ρ, χ157, lines_120, a121, c122, hm, hS, hO, h123, hAmb⟩
   unfold VC25_J1 at hm
   refine regO ?_
   refine opsP T hS 1 (sp := []) (ks := [44]) (bs := []) (sy' := ⟨[(44, V (.slice a121 lines_120.length c122))], []⟩) kr ?_
   intro a hS
   obtain ⟨hq, hm⟩ := hm
   refine op1 (call hS kr kr hb52 kr (fun _ _ => rfl) (Ret.unlend (k52 _ (lend 1008 _) lines_120 a121 c122 hq h123.lend)) ?_)
   intro v124 a w125 χ126 hE hp hS
   clear hq
   replace hO := hO.mv hE rfl rfl
   replace h123 := h123.mv hE rfl rfl
   replace hAmb := hAmb.mv hE rfl
   clear hE
   obtain ⟨_, hp⟩ := hp
   obtain ⟨r127, hr⟩ : ∃ r, token_Join lines_120 = r := ⟨_, rfl⟩
   replace hm := hm r127 hr
   rw [hr] at hp
   clear hr
   subst hp
   refine endP T hS (sp := []) (ks := [2, 3]) (bs := []) (sy' := ⟨[(2, V (.string (bs r127))), (3, I 0)], []⟩) kr ?_
   intro a hS
   refine wret ?_
   exact fin T hS hO (fun c => c) rfl (r := [.string (bs r127), .int .i64 0]) kr (fun χ' hM hC => ⟨(r127, 0), hm, rfl⟩)
theorem C25 (k32 : S32) (k50 : S50) (k51 : S51) (k52 : S52) (v : ∀ (o_ : Api_Object), prePr o_ → VC25 o_ (fun r => r = objtext_Print o_)) : S25 := by
 intro w χ o_ a1 c1   hp h1 hAmb
 refine (W25 k32 k50 k51 k52 w χ o_ a1 c1   _ (v o_ hp) h1 hAmb).mono ?_
 rintro _ _ _ _ ⟨r, rfl, h⟩
 exact h
/-- replevin/event.alone -/
theorem W59 (w0 : World) (χ0 : Nat → Nat) (x_ : Api_Event) (Q : Int → Prop) (hm : VC59 x_ Q) :
  Ret Tryd.prog 59 #[.agg #[.int .i64 x_.What, .int .i64 x_.Prc, .int .i64 x_.N]] xnone w0 χ0 (fun w χ' v => ∃ r, Q r ∧ v = .int .i64 r) := by
 unfold VC59 at hm
 refine enter Tryd.func59 rfl (vals := [.agg #[.int .i64 x_.What, .int .i64 x_.Prc, .int .i64 x_.N]]) kr ?_
 intro ρ a hS hO hM
 clear hM
 refine regM T hS (sp := []) (ks := [1]) (bs := [2]) (sy' := ⟨[(1, Pt 2 0)], [(2, (51, [I x_.What, I x_.Prc, I x_.N]))]⟩) kr ?_
 intro ρ a w101 χ102 hS hE hr
 replace hO := hO.mv hE rfl rfl
 clear hE hr
 refine wseq ?_
 refine wblock ?_
 refine regP T hS (sp := [7]) (ks := [1, 3]) (bs := [2]) (sy' := ⟨[(1, Pt 2 0), (3, B ((x_.What != 1) && (x_.What != 2)))], [(2, (51, [I x_.What, I x_.Prc, I x_.N]))]⟩) kr ?_
 intro a hS
 refine wcond hS (b := ((x_.What != 1) && (x_.What != 2))) kr (fun hb => ?_) (fun hb => ?_)
 ·replace hm := hm.1 hb
  refine regP T hS (sp := []) (ks := [2]) (bs := []) (sy' := ⟨[(2, I 8)], []⟩) kr ?_
  intro a hS
  refine wret ?_
  exact fin T hS hO (fun c => c) rfl (r := [.int .i64 8]) kr (fun χ' hM hC => ⟨8, hm, rfl⟩)
 ·replace hm := hm.2 hb
  refine regP T hS (sp := [16]) (ks := [1, 12]) (bs := [2]) (sy' := ⟨[(1, Pt 2 0), (12, B ((decide (x_.Prc < 1)) || (decide (x_.Prc > 1000))))], [(2, (51, [I x_.What, I x_.Prc, I x_.N]))]⟩) kr ?_
  intro a hS
  refine wcond hS (b := ((decide (x_.Prc < 1)) || (decide (x_.Prc > 1000)))) kr (fun hb => ?_) (fun hb => ?_)
  ·replace hm := hm.1 hb
   refine regP T hS (sp := []) (ks := [2]) (bs := []) (sy' := ⟨[(2, I 2)], []⟩) kr ?_
   intro a hS
   refine wret ?_
   exact fin T hS hO (fun c => c) rfl (r := [.int .i64 2]) kr (fun χ' hM hC => ⟨2, hm, rfl⟩)
  ·replace hm := hm.2 hb
   refine regP T hS (sp := [25, 29]) (ks := [1, 21]) (bs := [2]) (sy' := ⟨[(1, Pt 2 0), (21, B ((x_.What == 1) && ((decide (x_.N < 0)) || (decide (x_.N ≥ 64)))))], [(2, (51, [I x_.What, I x_.Prc, I x_.N]))]⟩) kr ?_
   intro a hS
   refine wcond hS (b := ((x_.What == 1) && ((decide (x_.N < 0)) || (decide (x_.N ≥ 64))))) kr (fun hb => ?_) (fun hb => ?_)
   ·replace hm := hm.1 hb
    refine regP T hS (sp := []) (ks := [2]) (bs := []) (sy' := ⟨[(2, I 31)], []⟩) kr ?_
    intro a hS
    refine wret ?_
    exact fin T hS hO (fun c => c) rfl (r := [.int .i64 31]) kr (fun χ' hM hC => ⟨31, hm, rfl⟩)
   ·replace hm := hm.2 hb
    refine regP T hS (sp := [39, 43]) (ks := [35]) (bs := []) (sy' := ⟨[(35, B ((x_.What == 2) && ((decide (x_.N < 0)) || (decide (x_.N > 1000000)))))], []⟩) kr ?_
    intro a hS
    refine wcond hS (b := ((x_.What == 2) && ((decide (x_.N < 0)) || (decide (x_.N > 1000000))))) kr (fun hb => ?_) (fun hb => ?_)
    ·replace hm := hm.1 hb
     refine regP T hS (sp := []) (ks := [2]) (bs := []) (sy' := ⟨[(2, I 7)], []⟩) kr ?_
     intro a hS
     refine wret ?_
     exact fin T hS hO (fun c => c) rfl (r := [.int .i64 7]) kr (fun χ' hM hC => ⟨7, hm, rfl⟩)
    ·replace hm := hm.2 hb
     refine wskip ?_
     refine regP T hS (sp := []) (ks := [2]) (bs := []) (sy' := ⟨[(2, I 0)], []⟩) kr ?_
     intro a hS
     refine wret ?_
     exact fin T hS hO (fun c => c) rfl (r := [.int .i64 0]) kr (fun χ' hM hC => ⟨0, hm, rfl⟩)
theorem C59 (v : ∀ (x_ : Api_Event), VC59 x_ (fun r => r = event_alone x_)) : S59 := by
 intro w χ x_    
 refine (W59 w χ x_    _ (v x_)).mono ?_
 rintro _ _ _ _ ⟨r, rfl, h⟩
 exact h
/-- replevin/event.Check -/
theorem W33 (k59 : S59) (w0 : World) (χ0 : Nat → Nat) (l_ : List Api_Event) (a1 : Option Addr) (c1 : Nat) (Q : Int × Int → Prop) (hm : VC33 l_ Q) (h1 : RS tApi_Event w0 χ0 a1 l_ c1) :
  Ret Tryd.prog 33 #[.slice a1 l_.length c1] xnone w0 χ0 (fun w χ' v => ∃ r, Q r ∧ v = .tuple #[.int .i64 r.1, .int .i64 r.2]) := by
 unfold VC33 at hm
 replace hm := hm (h1.sm kr)
 refine enter Tryd.func33 rfl (vals := [.slice a1 l_.length c1]) kr ?_
 intro ρ a hS hO hM
 replace h1 := h1.m0 hM
 clear hM
 refine regP T hS (sp := []) (ks := [0]) (bs := []) (sy' := ⟨[(0, V (.slice a1 l_.length c1))], []⟩) kr ?_
 intro a hS
 refine wseq ?_
 refine regP T hS (sp := []) (ks := [0, 10]) (bs := []) (sy' := ⟨[(0, V (.slice a1 l_.length c1)), (10, B (decide (((l_.length : Nat) : Int) > 10000)))], []⟩) kr ?_
 intro a hS
 refine wcond hS (b := decide (((l_.length : Nat) : Int) > 10000)) kr (fun hb => ?_) (fun hb => ?_)
 ·replace hm := hm.1 hb
  refine regP T hS (sp := []) (ks := [2, 3]) (bs := []) (sy' := ⟨[(2, I 0), (3, I 3)], []⟩) kr ?_
  intro a hS
  refine wret ?_
  exact fin T hS hO (fun c => c) rfl (r := [.int .i64 0, .int .i64 3]) kr (fun χ' hM hC => ⟨(0, 3), hm, rfl⟩)
 ·replace hm := hm.2 hb
  refine wskip ?_
  refine regO ?_
  refine op1 (mkmap kI tI false 1012 hS kr kr ?_)
  intro r101 a w102 χ103 hE h104 hS
  replace hO := hO.mv hE rfl rfl
  replace h1 := h1.mv hE rfl
  clear hE
  refine endP T hS (sp := []) (ks := [0, 4]) (bs := []) (sy' := ⟨[(0, V (.slice a1 l_.length c1)), (4, V (.map (some r101)))], []⟩) kr ?_
  intro a hS
  refine wcut (fun a w => ∃ (ρ : Nat → Nat) (χ : Nat → Nat), VC33_J1 l_ Q ∧ St Tryd.f33.ntmps ⟨[(0, V (.slice a1 l_.length c1))], []⟩ ρ a w χ ∧ Old w0 χ0 w χ ∧ RS tApi_Event w χ a1 l_ c1) ?_ ?_
  ·refine regP T hS (sp := []) (ks := [0, 4, 12, 13, 14]) (bs := []) (sy' := ⟨[(0, V (.slice a1 l_.length c1)), (4, V (.map (some r101))), (12, V (.slice a1 l_.length c1)), (13, I ((l_.length : Nat) : Int)), (14, I 0)], []⟩) kr ?_
   intro a hS
   refine wblock ?_
   obtain ⟨I1, μ1, hm0, hm⟩ := hm
   refine wloop (σ := (List (Int × Int)) × Int) (fun s a w => ∃ (ρ : Nat → Nat) (χ : Nat → Nat), I1 s.1 s.2 ∧ St Tryd.f33.ntmps ⟨[(0, V (.slice a1 l_.length c1)), (4, V (.map (some r101))), (12, V (.slice a1 l_.length c1)), (13, I ((l_.length : Nat) : Int)), (14, I s.2)], []⟩ ρ a w χ ∧ Old w0 χ0 w χ ∧ RS tApi_Event w χ a1 l_ c1 ∧ OM kI tI false w χ 1012 r101 s.1 ∧ RS tApi_Event w χ a1 l_ c1) (fun s => μ1 s.1 s.2) (⟨([] : List (Int × Int)), 0⟩) ?_ ?_
   ·exact ⟨ρ, _, hm0, hS.sel [0, 4, 12, 13, 14] [] kr, hO, h1, h104, h1⟩
   ·rintro ⟨open_107, x_110⟩ a w124 ⟨ρ, χ123, hI, hS, hO, h106, h108, h109⟩
    replace hm := hm open_107 x_110 hI
    clear hI hm0
    refine regP T hS (sp := []) (ks := [0, 4, 12, 13, 14, 15]) (bs := []) (sy' := ⟨[(0, V (.slice a1 l_.length c1)), (4, V (.map (some r101))), (12, V (.slice a1 l_.length c1)), (13, I ((l_.length : Nat) : Int)), (14, I x_110), (15, B (decide (x_110 < ((l_.length : Nat) : Int))))], []⟩) kr ?_
    intro a hS
    refine wseq ?_
    refine wcond hS (b := decide (x_110 < ((l_.length : Nat) : Int))) kr (fun hb => ?_) (fun hb => ?_)
    ·replace hm := hm.1 hb
     refine wskip ?_
     refine wseq ?_
     refine wblock ?_
     refine regO ?_
     refine opsP T hS 1 (sp := []) (ks := [0, 4, 12, 13, 14, 16]) (bs := []) (sy' := ⟨[(0, V (.slice a1 l_.length c1)), (4, V (.map (some r101))), (12, V (.slice a1 l_.length c1)), (13, I ((l_.length : Nat) : Int)), (14, I x_110), (16, I x_110)], []⟩) kr ?_
     intro a hS
     obtain ⟨hq, hm⟩ := hm
     refine op1 (index (e := 51) (k := .i64) T hS kr kr kr kr h109 kr kr hq.1 hq.2 ?_)
     intro A111 a h112 hS
     clear hq
     refine op1 (loadA T hS kr kr kr h112 kr kr ?_)
     intro v113 a hv hS
     subst hv
     refine endM T hS (sp := []) (ks := [0, 4, 5, 6, 12, 13, 14]) (bs := [7]) (sy' := ⟨[(0, V (.slice a1 l_.length c1)), (4, V (.map (some r101))), (5, I x_110), (6, Pt 7 0), (12, V (.slice a1 l_.length c1)), (13, I ((l_.length : Nat) : Int)), (14, I x_110)], [(7, (51, [I ((gi l_ x_110).What), I ((gi l_ x_110).Prc), I ((gi l_ x_110).N)]))]⟩) kr ?_
     intro ρ a w121 χ122 hS hE hr
     replace hO := hO.mv hE rfl rfl
     replace h106 := h106.mv hE rfl
     replace h108 := h108.mv hE rfl rfl
     replace h109 := h109.mv hE rfl
     clear hE hr
     refine wseq ?_
     refine regO ?_
     refine opsP T hS 1 (sp := []) (ks := [0, 4, 5, 6, 12, 13, 14, 19]) (bs := [7]) (sy' := ⟨[(0, V (.slice a1 l_.length c1)), (4, V (.map (some r101))), (5, I x_110), (6, Pt 7 0), (12, V (.slice a1 l_.length c1)), (13, I ((l_.length : Nat) : Int)), (14, I x_110), (19, V (.agg #[.int .i64 ((gi l_ x_110).What), .int .i64 ((gi l_ x_110).Prc), .int .i64 ((gi l_ x_110).N)]))], [(7, (51, [I ((gi l_ x_110).What), I ((gi l_ x_110).Prc), I ((gi l_ x_110).N)]))]⟩) kr ?_
     intro a hS
     refine op1 (call hS kr kr hb59 kr (fun _ _ => rfl) (k59 _ _ (gi l_ x_110)) ?_)
     intro v114 a w115 χ116 hE hp hS
     replace hO := hO.mv hE rfl rfl
     replace h106 := h106.mv hE rfl
     replace h108 := h108.mv hE rfl rfl
     replace h109 := h109.mv hE rfl
     clear hE
     obtain ⟨r117, hr⟩ : ∃ r, event_alone (gi l_ x_110) = r := ⟨_, rfl⟩
     replace hm := hm r117 hr
     rw [hr] at hp
     clear hr
     subst hp
     refine endP T hS (sp := []) (ks := [0, 4, 5, 6, 7, 12, 13, 14]) (bs := [7]) (sy' := ⟨[(0, V (.slice a1 l_.length c1)), (4, V (.map (some r101))), (5, I x_110), (6, Pt 7 0), (7, I r117), (12, V (.slice a1 l_.length c1)), (13, I ((l_.length : Nat) : Int)), (14, I x_110)], [(7, (51, [I ((gi l_ x_110).What), I ((gi l_ x_110).Prc), I ((gi l_ x_110).N)]))]⟩) kr ?_
     intro a hS
     refine regP T hS (sp := []) (ks := [0, 4, 5, 6, 7, 12, 13, 14, 22]) (bs := [7]) (sy' := ⟨[(0, V (.slice a1 l_.length c1)), (4, V (.map (some r101))), (5, I x_110), (6, Pt 7 0), (7, I r117), (12, V (.slice a1 l_.length c1)), (13, I ((l_.length : Nat) : Int)), (14, I x_110), (22, B (r117 != 0))], [(7, (51, [I ((gi l_ x_110).What), I ((gi l_ x_110).Prc), I ((gi l_ x_110).N)]))]⟩) kr ?_
     intro a hS
     refine wcond hS (b := (r117 != 0)) kr (fun hb => ?_) (fun hb => ?_)
     ·replace hm := hm.1 hb
      refine regP T hS (sp := []) (ks := [2, 3]) (bs := []) (sy' := ⟨[(2, I x_110), (3, I r117)], []⟩) kr ?_
      intro a hS
      refine wret ?_
      exact fin T hS hO (fun c => c) rfl (r := [.int .i64 x_110, .int .i64 r117]) kr (fun χ' hM hC => ⟨(x_110, r117), hm, rfl⟩)
     ·replace hm := hm.2 hb
      refine wskip ?_
      refine wseq ?_
      refine regO ?_
      refine opsP T hS 3 (sp := []) (ks := [0, 4, 5, 6, 12, 13, 14, 25, 27]) (bs := [7]) (sy' := ⟨[(0, V (.slice a1 l_.length c1)), (4, V (.map (some r101))), (5, I x_110), (6, Pt 7 0), (12, V (.slice a1 l_.length c1)), (13, I ((l_.length : Nat) : Int)), (14, I x_110), (25, V (.map (some r101))), (27, I ((gi l_ x_110).Prc))], [(7, (51, [I ((gi l_ x_110).What), I ((gi l_ x_110).Prc), I ((gi l_ x_110).N)]))]⟩) kr ?_
      intro a hS
      refine op1 (mlook kI tI false (zv := .int .i64 0) (z := 0) ((gi l_ x_110).Prc) hS kr kr kr kr Tryd.underlying100 Tryd.underlying3 kr rfl h108 ?_)
      intro v118 a hv hS
      replace hv : tI.R _ _ [v118] _ := hv
      cases hv
      refine endP T hS (sp := []) (ks := [0, 4, 5, 6, 12, 13, 14, 33]) (bs := [7]) (sy' := ⟨[(0, V (.slice a1 l_.length c1)), (4, V (.map (some r101))), (5, I x_110), (6, Pt 7 0), (12, V (.slice a1 l_.length c1)), (13, I ((l_.length : Nat) : Int)), (14, I x_110), (33, B ((((mget open_107 ((gi l_ x_110).Prc)).getD 0) == 1) == (((gi l_ x_110).What) == 1)))], [(7, (51, [I ((gi l_ x_110).What), I ((gi l_ x_110).Prc), I ((gi l_ x_110).N)]))]⟩) kr ?_
      intro a hS
      refine wcond hS (b := ((((mget open_107 ((gi l_ x_110).Prc)).getD 0) == 1) == (((gi l_ x_110).What) == 1))) kr (fun hb => ?_) (fun hb => ?_)
      ·replace hm := hm.1 hb
       refine regP T hS (sp := []) (ks := [2, 3]) (bs := []) (sy' := ⟨[(2, I x_110), (3, I 33)], []⟩) kr ?_
       intro a hS
       refine wret ?_
       exact fin T hS hO (fun c => c) rfl (r := [.int .i64 x_110, .int .i64 33]) kr (fun χ' hM hC => ⟨(x_110, 33), hm, rfl⟩)
      ·replace hm := hm.2 hb
       refine wskip ?_
       refine region ?_
       refine opsP T hS 5 (sp := []) (ks := [0, 4, 12, 13, 14, 35, 37, 39]) (bs := []) (sy' := ⟨[(0, V (.slice a1 l_.length c1)), (4, V (.map (some r101))), (12, V (.slice a1 l_.length c1)), (13, I ((l_.length : Nat) : Int)), (14, I x_110), (35, V (.map (some r101))), (37, I ((gi l_ x_110).Prc)), (39, I ((gi l_ x_110).What))], []⟩) kr ?_
       intro a hS
       refine op1 (mset kI tI false (v := I ((gi l_ x_110).What)) (u := (gi l_ x_110).What) ((gi l_ x_110).Prc) hS kr kr kr kr Tryd.underlying100 Tryd.underlying3 kr h108 rfl ?_)
       intro a w119 hE h120 hS
       clear h108
       replace hO := hO.mv hE rfl rfl
       replace h106 := h106.mv hE rfl
       replace h109 := h109.mv hE rfl
       clear hE
       refine doneK ?_
       refine region (endP T hS (sp := []) (ks := [0, 4, 12, 13, 14]) (bs := []) (sy' := ⟨[(0, V (.slice a1 l_.length c1)), (4, V (.map (some r101))), (12, V (.slice a1 l_.length c1)), (13, I ((l_.length : Nat) : Int)), (14, I (IntKind.i64.wrap (x_110 + 1)))], []⟩) kr ?_)
       intro a hS
       exact ⟨⟨mput open_107 ((gi l_ x_110).Prc) ((gi l_ x_110).What), IntKind.i64.wrap (x_110 + 1)⟩, ⟨ρ, _, hm.1, hS.sel [0, 4, 12, 13, 14] [] kr, hO, h106, h120, h109⟩, hm.2⟩
    ·replace hm := hm.2 hb
     refine wexit (by rfl) ?_
     exact ⟨ρ, _, hm, hS.sel [0] [] kr, hO, h106⟩
  ·rintro a w126 ⟨ρ, χ125, hm, hS, hO, h105⟩
   unfold VC33_J1 at hm
   refine regP T hS (sp := []) (ks := [2, 3]) (bs := []) (sy' := ⟨[(2, I ((l_.length : Nat) : Int)), (3, I 0)], []⟩) kr ?_
   intro a hS
   refine wret ?_
   exact fin T hS hO (fun c => c) rfl (r := [.int .i64 ((l_.length : Nat) : Int), .int .i64 0]) kr (fun χ' hM hC => ⟨(((l_.length : Nat) : Int), 0), hm, rfl⟩)
theorem C33 (k59 : S59) (v : ∀ (l_ : List Api_Event), VC33 l_ (fun r => r = event_Check l_)) : S33 := by
 intro w χ l_ a1 c1   h1
 refine (W33 k59 w χ l_ a1 c1   _ (v l_) h1).mono ?_
 rintro _ _ _ _ ⟨r, rfl, h⟩
 exact h
/-- replevin/event.Kinds -/
theorem W34 (w0 : World) (χ0 : Nat → Nat) (l_ : List Api_Event) (a1 : Option Addr) (c1 : Nat) (Q : Int → Prop) (hm : VC34 l_ Q) (h1 : RS tApi_Event w0 χ0 a1 l_ c1) :
  Ret Tryd.prog 34 #[.slice a1 l_.length c1] xnone w0 χ0 (fun w χ' v => ∃ r, Q r ∧ v = .int .i64 r) := by
 unfold VC34 at hm
 replace hm := hm (h1.sm kr)
 refine enter Tryd.func34 rfl (vals := [.slice a1 l_.length c1]) kr ?_
 intro ρ a hS hO hM
 replace h1 := h1.m0 hM
 clear hM
 refine regP T hS (sp := []) (ks := [0]) (bs := []) (sy' := ⟨[(0, V (.slice a1 l_.length c1))], []⟩) kr ?_
 intro a hS
 refine regP T hS (sp := []) (ks := [0, 3]) (bs := []) (sy' := ⟨[(0, V (.slice a1 l_.length c1)), (3, I (-1))], []⟩) kr ?_
 intro a hS
 refine wcut (fun a w => ∃ (ρ : Nat → Nat) (χ : Nat → Nat) (most_101 : Int), VC34_J1 Q most_101 ∧ St Tryd.f34.ntmps ⟨[(3, I most_101)], []⟩ ρ a w χ ∧ Old w0 χ0 w χ) ?_ ?_
 ·refine regP T hS (sp := []) (ks := [3, 6, 7, 8]) (bs := []) (sy' := ⟨[(3, I (-1)), (6, V (.slice a1 l_.length c1)), (7, I ((l_.length : Nat) : Int)), (8, I 0)], []⟩) kr ?_
  intro a hS
  refine wblock ?_
  obtain ⟨I1, μ1, hm0, hm⟩ := hm
  refine wloop (σ := Int × Int) (fun s a w => ∃ (ρ : Nat → Nat) (χ : Nat → Nat), I1 s.1 s.2 ∧ St Tryd.f34.ntmps ⟨[(3, I s.1), (6, V (.slice a1 l_.length c1)), (7, I ((l_.length : Nat) : Int)), (8, I s.2)], []⟩ ρ a w χ ∧ Old w0 χ0 w χ ∧ RS tApi_Event w χ a1 l_ c1) (fun s => μ1 s.1 s.2) (⟨(-1), 0⟩) ?_ ?_
  ·exact ⟨ρ, _, hm0, hS.sel [3, 6, 7, 8] [] kr, hO, h1⟩
  ·rintro ⟨most_102, x_104⟩ a w115 ⟨ρ, χ114, hI, hS, hO, h103⟩
   replace hm := hm most_102 x_104 hI
   clear hI hm0
   refine regP T hS (sp := []) (ks := [3, 6, 7, 8, 9]) (bs := []) (sy' := ⟨[(3, I most_102), (6, V (.slice a1 l_.length c1)), (7, I ((l_.length : Nat) : Int)), (8, I x_104), (9, B (decide (x_104 < ((l_.length : Nat) : Int))))], []⟩) kr ?_
   intro a hS
   refine wseq ?_
   refine wcond hS (b := decide (x_104 < ((l_.length : Nat) : Int))) kr (fun hb => ?_) (fun hb => ?_)
   ·replace hm := hm.1 hb
    refine wskip ?_
    refine wcut (fun a w => ∃ (ρ : Nat → Nat) (χ : Nat → Nat) (most_105 : Int), VC34_J2 I1 μ1 most_102 x_104 most_105 ∧ St Tryd.f34.ntmps ⟨[(3, I most_105), (6, V (.slice a1 l_.length c1)), (7, I ((l_.length : Nat) : Int)), (8, I x_104)], []⟩ ρ a w χ ∧ Old w0 χ0 w χ ∧ RS tApi_Event w χ a1 l_ c1) ?_ ?_
    ·refine wblock ?_
     refine regO ?_
     obtain ⟨hq, hm⟩ := hm
     refine op1 (index (e := 51) (k := .i64) T hS kr kr kr kr h103 kr kr hq.1 hq.2 ?_)
     intro A107 a h108 hS
     clear hq
     refine op1 (loadA T hS kr kr kr h108 kr kr ?_)
     intro v109 a hv hS
     subst hv
     refine endM T hS (sp := []) (ks := [3, 5, 6, 7, 8]) (bs := [6]) (sy' := ⟨[(3, I most_102), (5, Pt 6 0), (6, V (.slice a1 l_.length c1)), (7, I ((l_.length : Nat) : Int)), (8, I x_104)], [(6, (51, [I ((gi l_ x_104).What), I ((gi l_ x_104).Prc), I ((gi l_ x_104).N)]))]⟩) kr ?_
     intro ρ a w110 χ111 hS hE hr
     replace hO := hO.mv hE rfl rfl
     replace h103 := h103.mv hE rfl
     clear hE hr
     refine regP T hS (sp := []) (ks := [3, 5, 6, 7, 8, 14]) (bs := [6]) (sy' := ⟨[(3, I most_102), (5, Pt 6 0), (6, V (.slice a1 l_.length c1)), (7, I ((l_.length : Nat) : Int)), (8, I x_104), (14, B (((gi l_ x_104).What) == 1))], [(6, (51, [I ((gi l_ x_104).What), I ((gi l_ x_104).Prc), I ((gi l_ x_104).N)]))]⟩) kr ?_
     intro a hS
     refine wcond hS (b := (((gi l_ x_104).What) == 1)) kr (fun hb => ?_) (fun hb => ?_)
     ·replace hm := hm.1 hb
      refine region (endP T hS (sp := []) (ks := [3, 6, 7, 8]) (bs := []) (sy' := ⟨[(3, I (if (if 63 < ((gi l_ x_104).N) then 63 else ((gi l_ x_104).N)) > most_102 then (if 63 < ((gi l_ x_104).N) then 63 else ((gi l_ x_104).N)) else most_102)), (6, V (.slice a1 l_.length c1)), (7, I ((l_.length : Nat) : Int)), (8, I x_104)], []⟩) kr ?_)
      intro a hS
      exact ⟨ρ, _, if (if 63 < ((gi l_ x_104).N) then 63 else ((gi l_ x_104).N)) > most_102 then (if 63 < ((gi l_ x_104).N) then 63 else ((gi l_ x_104).N)) else most_102, hm, hS.sel [3, 6, 7, 8] [] kr, hO, h103⟩
     ·replace hm := hm.2 hb
      refine wskip ?_
      exact ⟨ρ, _, most_102, hm, hS.sel [3, 6, 7, 8] [] kr, hO, h103⟩
    ·rintro a w113 ⟨ρ, χ112, most_105, hm, hS, hO, h106⟩
     unfold VC34_J2 at hm
     refine region (endP T hS (sp := []) (ks := [3, 6, 7, 8]) (bs := []) (sy' := ⟨[(3, I most_105), (6, V (.slice a1 l_.length c1)), (7, I ((l_.length : Nat) : Int)), (8, I (IntKind.i64.wrap (x_104 + 1)))], []⟩) kr ?_)
     intro a hS
     exact ⟨⟨most_105, IntKind.i64.wrap (x_104 + 1)⟩, ⟨ρ, _, hm.1, hS.sel [3, 6, 7, 8] [] kr, hO, h106⟩, hm.2⟩
   ·replace hm := hm.2 hb
    refine wexit (by rfl) ?_
    exact ⟨ρ, _, most_102, hm, hS.sel [3] [] kr, hO⟩
 ·rintro a w117 ⟨ρ, χ116, most_101, hm, hS, hO⟩
  unfold VC34_J1 at hm
  refine regP T hS (sp := []) (ks := [2]) (bs := []) (sy' := ⟨[(2, I (IntKind.i64.wrap (most_101 + 1)))], []⟩) kr ?_
  intro a hS
  refine wret ?_
  exact fin T hS hO (fun c => c) rfl (r := [.int .i64 (IntKind.i64.wrap (most_101 + 1))]) kr (fun χ' hM hC => ⟨(IntKind.i64.wrap (most_101 + 1)), hm, rfl⟩)
theorem C34 (v : ∀ (l_ : List Api_Event), VC34 l_ (fun r => r = event_Kinds l_)) : S34 := by
 intro w χ l_ a1 c1   h1
 refine (W34 w χ l_ a1 c1   _ (v l_) h1).mono ?_
 rintro _ _ _ _ ⟨r, rfl, h⟩
 exact h
/-- replevin/histtext.Check -/
theorem W14 (k32 : S32) (k33 : S33) (k34 : S34) (w0 : World) (χ0 : Nat → Nat) (c_ : Histtext_Case) (a1 : Option Addr) (c1 : Nat) (a2 : Option Addr) (c2 : Nat) (Q : Int → Prop) (hm : VC14 c_ Q) (h1 : RS tApi_Row w0 χ0 a1 c_.Object.Rows c1) (h2 : RS tApi_Event w0 χ0 a2 c_.Events c2) :
  Ret Tryd.prog 14 #[.agg #[.int .i64 c_.Object.States, .int .i64 c_.Object.Kinds, .int .i64 c_.Object.Init, .slice a1 c_.Object.Rows.length c1, .slice a2 c_.Events.length c2]] xnone w0 χ0 (fun w χ' v => ∃ r, Q r ∧ v = .int .i64 r) := by
 unfold VC14 at hm
 replace hm := hm (h1.sm kr)
 replace hm := hm (h2.sm kr)
 refine enter Tryd.func14 rfl (vals := [.agg #[.int .i64 c_.Object.States, .int .i64 c_.Object.Kinds, .int .i64 c_.Object.Init, .slice a1 c_.Object.Rows.length c1, .slice a2 c_.Events.length c2]]) kr ?_
 intro ρ a hS hO hM
 replace h1 := h1.m0 hM
 replace h2 := h2.m0 hM
 clear hM
 refine regM T hS (sp := []) (ks := [1]) (bs := [2]) (sy' := ⟨[(1, Pt 2 0)], [(2, (28, [I c_.Object.States, I c_.Object.Kinds, I c_.Object.Init, V (.slice a1 c_.Object.Rows.length c1), V (.slice a2 c_.Events.length c2)]))]⟩) kr ?_
 intro ρ a w115 χ116 hS hE hr
 replace hO := hO.mv hE rfl rfl
 replace h1 := h1.mv hE rfl
 replace h2 := h2.mv hE rfl
 clear hE hr
 refine wseq ?_
 refine regO ?_
 refine opsP T hS 2 (sp := []) (ks := [1, 9]) (bs := [2]) (sy' := ⟨[(1, Pt 2 0), (9, V (.agg #[.int .i64 c_.Object.States, .int .i64 c_.Object.Kinds, .int .i64 c_.Object.Init, .slice a1 c_.Object.Rows.length c1]))], [(2, (28, [I c_.Object.States, I c_.Object.Kinds, I c_.Object.Init, V (.slice a1 c_.Object.Rows.length c1), V (.slice a2 c_.Events.length c2)]))]⟩) kr ?_
 intro a hS
 obtain ⟨hq, hm⟩ := hm
 refine op1 (call hS kr kr hb32 kr (fun _ _ => rfl) (k32 _ _ c_.Object a1 c1 hq h1) ?_)
 intro v101 a w102 χ103 hE hp hS
 clear hq
 replace hO := hO.mv hE rfl rfl
 replace h1 := h1.mv hE rfl
 replace h2 := h2.mv hE rfl
 clear hE
 obtain ⟨r104, hr⟩ : ∃ r, object_Check c_.Object = r := ⟨_, rfl⟩
 replace hm := hm r104 hr
 rw [hr] at hp
 clear hr
 subst hp
 refine endP T hS (sp := []) (ks := [1, 4]) (bs := [2]) (sy' := ⟨[(1, Pt 2 0), (4, I r104.2)], [(2, (28, [I c_.Object.States, I c_.Object.Kinds, I c_.Object.Init, V (.slice a1 c_.Object.Rows.length c1), V (.slice a2 c_.Events.length c2)]))]⟩) kr ?_
 intro a hS
 refine regP T hS (sp := []) (ks := [1, 4, 14]) (bs := [2]) (sy' := ⟨[(1, Pt 2 0), (4, I r104.2), (14, B (r104.2 != 0))], [(2, (28, [I c_.Object.States, I c_.Object.Kinds, I c_.Object.Init, V (.slice a1 c_.Object.Rows.length c1), V (.slice a2 c_.Events.length c2)]))]⟩) kr ?_
 intro a hS
 refine wcond hS (b := (r104.2 != 0)) kr (fun hb => ?_) (fun hb => ?_)
 ·replace hm := hm.1 hb
  refine regP T hS (sp := []) (ks := [2]) (bs := []) (sy' := ⟨[(2, I r104.2)], []⟩) kr ?_
  intro a hS
  refine wret ?_
  exact fin T hS hO (fun c => c) rfl (r := [.int .i64 r104.2]) kr (fun χ' hM hC => ⟨r104.2, hm, rfl⟩)
 ·replace hm := hm.2 hb
  refine wskip ?_
  refine wseq ?_
  refine regO ?_
  refine opsP T hS 2 (sp := []) (ks := [1, 18]) (bs := [2]) (sy' := ⟨[(1, Pt 2 0), (18, V (.slice a2 c_.Events.length c2))], [(2, (28, [I c_.Object.States, I c_.Object.Kinds, I c_.Object.Init, V (.slice a1 c_.Object.Rows.length c1), V (.slice a2 c_.Events.length c2)]))]⟩) kr ?_
  intro a hS
  refine op1 (call hS kr kr hb33 kr (fun _ _ => rfl) (k33 _ _ c_.Events a2 c2 h2) ?_)
  intro v105 a w106 χ107 hE hp hS
  replace hO := hO.mv hE rfl rfl
  replace h1 := h1.mv hE rfl
  replace h2 := h2.mv hE rfl
  clear hE
  obtain ⟨r108, hr⟩ : ∃ r, event_Check c_.Events = r := ⟨_, rfl⟩
  replace hm := hm r108 hr
  rw [hr] at hp
  clear hr
  subst hp
  refine endP T hS (sp := []) (ks := [1, 6]) (bs := [2]) (sy' := ⟨[(1, Pt 2 0), (6, I r108.2)], [(2, (28, [I c_.Object.States, I c_.Object.Kinds, I c_.Object.Init, V (.slice a1 c_.Object.Rows.length c1), V (.slice a2 c_.Events.length c2)]))]⟩) kr ?_
  intro a hS
  refine regP T hS (sp := []) (ks := [1, 6, 23]) (bs := [2]) (sy' := ⟨[(1, Pt 2 0), (6, I r108.2), (23, B (r108.2 != 0))], [(2, (28, [I c_.Object.States, I c_.Object.Kinds, I c_.Object.Init, V (.slice a1 c_.Object.Rows.length c1), V (.slice a2 c_.Events.length c2)]))]⟩) kr ?_
  intro a hS
  refine wcond hS (b := (r108.2 != 0)) kr (fun hb => ?_) (fun hb => ?_)
  ·replace hm := hm.1 hb
   refine regP T hS (sp := []) (ks := [2]) (bs := []) (sy' := ⟨[(2, I r108.2)], []⟩) kr ?_
   intro a hS
   refine wret ?_
   exact fin T hS hO (fun c => c) rfl (r := [.int .i64 r108.2]) kr (fun χ' hM hC => ⟨r108.2, hm, rfl⟩)
  ·replace hm := hm.2 hb
   refine wskip ?_
   refine wseq ?_
   refine drawnSX [2] mixed hS ?_
   intro w109 χ110 hS hE hD hH
   replace hO := hO.mv hE rfl rfl
   replace h1 := h1.mv hE rfl
   replace h2 := h2.mv hE rfl
   clear hE
   refine take T [0, 3, 1, 4, 5] [2] [26, 30] hS kr kr kr hH (listed' := #[true, true, false, true, true, true, false]) (fuel := 2) (sy' := ⟨[(26, V (.slice a2 c_.Events.length c2)), (30, I c_.Object.Kinds)], [(2, (28, [I c_.Object.States, I c_.Object.Kinds, I c_.Object.Init, V (.slice a1 c_.Object.Rows.length c1), V (.slice a2 c_.Events.length c2)]))]⟩) kr (by rfl) ?_
   intro a hS
   refine only 2 kr (by rfl) (call hS kr kr hb34 kr (fun _ _ => rfl) (k34 _ _ c_.Events a2 c2 h2) ?_)
   intro v111 a w112 χ113 hE hp hS
   replace hO := hO.mv hE rfl rfl
   replace hD := hD.ev hE rfl
   replace h1 := h1.mv hE rfl
   replace h2 := h2.mv hE rfl
   clear hE
   obtain ⟨r114, hr⟩ : ∃ r, event_Kinds c_.Events = r := ⟨_, rfl⟩
   replace hm := hm r114 hr
   rw [hr] at hp
   clear hr
   subst hp
   replace hS := hS.sel [26, 30, 27] [2] (sy' := ⟨[(26, V (.slice a2 c_.Events.length c2)), (30, I c_.Object.Kinds), (27, I r114)], [(2, (28, [I c_.Object.States, I c_.Object.Kinds, I c_.Object.Init, V (.slice a1 c_.Object.Rows.length c1), V (.slice a2 c_.Events.length c2)]))]⟩) kr
   refine andH (Hold.of hS (bks := [2]) kr hD) ?_
   intro hH
   refine take T [6] [2] [31] hS kr kr kr hH (listed' := #[true, true, true, true, true, true, true]) (fuel := 0) (sy' := ⟨[(31, B (decide (r114 > c_.Object.Kinds)))], [(2, (28, [I c_.Object.States, I c_.Object.Kinds, I c_.Object.Init, V (.slice a1 c_.Object.Rows.length c1), V (.slice a2 c_.Events.length c2)]))]⟩) kr (by rfl) ?_
   intro a hS
   refine drawnDone kr ?_
   clear hD hH
   replace hS := hS.sel [31] [] (sy' := ⟨[(31, B (decide (r114 > c_.Object.Kinds)))], []⟩) kr
   refine wcond hS (b := decide (r114 > c_.Object.Kinds)) kr (fun hb => ?_) (fun hb => ?_)
   ·replace hm := hm.1 hb
    refine regP T hS (sp := []) (ks := [2]) (bs := []) (sy' := ⟨[(2, I 31)], []⟩) kr ?_
    intro a hS
    refine wret ?_
    exact fin T hS hO (fun c => c) rfl (r := [.int .i64 31]) kr (fun χ' hM hC => ⟨31, hm, rfl⟩)
   ·replace hm := hm.2 hb
    refine wskip ?_
    refine regP T hS (sp := []) (ks := [2]) (bs := []) (sy' := ⟨[(2, I 0)], []⟩) kr ?_
    intro a hS
    refine wret ?_
    exact fin T hS hO (fun c => c) rfl (r := [.int .i64 0]) kr (fun χ' hM hC => ⟨0, hm, rfl⟩)
theorem C14 (k32 : S32) (k33 : S33) (k34 : S34) (v : ∀ (c_ : Histtext_Case), preHc c_ → VC14 c_ (fun r => r = histtext_Check c_)) : S14 := by
 intro w χ c_ a1 c1 a2 c2   hp h1 h2
 refine (W14 k32 k33 k34 w χ c_ a1 c1 a2 c2   _ (v c_ hp) h1 h2).mono ?_
 rintro _ _ _ _ ⟨r, rfl, h⟩
 exact h
end Go.Proofs.YtcjldfbgccmpkaaDoor
