/- Walks: each function returns what its condition asks. Condition: the contracts of its callees, handed in. -/
import Derived.Test.YtojdelnnjhbgbaaZWalksS
set_option linter.all false
namespace Go.Proofs.Ytojdelnnjhbgbaa
open Go Go.Sv
set_option maxHeartbeats 1000000
theorem W14 (k12 : S12) (k18 : S18) (k32 : S32) (k33 : S33) (k9 : S9) (w0) (X0) (c_ : Histtext_Case) (a1) (c1) (a2) (c2) (Q : Histtext_Case × Int -> Prop) (hm : VC14 c_ Q) (h1 : RS tApi_Row w0 X0 a1 c_.Object.Rows c1) (h2 : RS tApi_Event w0 X0 a2 c_.Events c2) :
  Ret Try.prog 14 #[.agg #[.int .i64 c_.Object.States, .int .i64 c_.Object.Kinds, .int .i64 c_.Object.Init, .slice a1 c_.Object.Rows.length c1, .slice a2 c_.Events.length c2]] xnone w0 X0 (fun w X' v => ∃ r, Q r /\ ∃ ra1 rc1 ra2 rc2, v = .tuple #[.agg #[.int .i64 r.1.Object.States, .int .i64 r.1.Object.Kinds, .int .i64 r.1.Object.Init, .slice ra1 r.1.Object.Rows.length rc1, .slice ra2 r.1.Events.length rc2], .int .i64 r.2] /\ RS tApi_Row w X' ra1 r.1.Object.Rows rc1 /\ RS tApi_Event w X' ra2 r.1.Events rc2) := by
 unfold VC14 at hm
 replace hm := hm (h1.sm kr)
 replace hm := hm (h2.sm kr)
 refine enter Try.func14 rfl (vals := [.agg #[.int .i64 c_.Object.States, .int .i64 c_.Object.Kinds, .int .i64 c_.Object.Init, .slice a1 c_.Object.Rows.length c1, .slice a2 c_.Events.length c2]]) kr ?_
 intro Z a hS hO hM
 replace h1 := h1.m0 hM
 replace h2 := h2.m0 hM
 refine rM T hS ⟨[(1, Pt 2 0), (2, Pt 3 0)], [(2, (33, [I c_.Object.States, I c_.Object.Kinds, I c_.Object.Init, Sl a1 c_.Object.Rows c1, Sl a2 c_.Events c2])), (3, (33, [I 0, I 0, I 0, V (.slice none 0 0), V (.slice none 0 0)]))]⟩ fun Z a w303 X304 hS hE hr => ?_
 replace hO := hO.m2 hE
 replace h1 := h1.m1 hE
 replace h2 := h2.m1 hE
 clear hE hr
 refine regO ?_
 refine oPb T hS 1 [(1, Pt 2 0), (2, Pt 3 0), (13, V (.agg #[.int .i64 c_.Object.States, .int .i64 c_.Object.Kinds, .int .i64 c_.Object.Init, .slice a1 c_.Object.Rows.length c1, .slice a2 c_.Events.length c2]))] fun a hS => ?_
 obtain ⟨hq, hm⟩ := hm
 refine op1 (call hS kr kr hb12 kr (fun _ _ => rfl) (k12 _ _ c_ a1 c1 a2 c2 hq h1 h2) ?_)
 intro v101 a w102 X103 hE hp hS
 replace hO := hO.m2 hE
 replace h1 := h1.m1 hE
 replace h2 := h2.m1 hE
 obtain ⟨r104, hr⟩ : ∃ r, shrink_Head c_ = r := ⟨_, rfl⟩
 replace hm := hm r104 hr
 rw [hr] at hp
 clear hr
 subst hp
 refine ePb T hS [(1, Pt 2 0), (2, Pt 3 0), (3, I r104.2), (4, I r104.1)] fun a hS => ?_
 refine wseq ?_
 refine rPb T hS [(1, Pt 2 0), (2, Pt 3 0), (3, I r104.2), (4, I r104.1), (18, B (r104.2 != 0))] fun a hS => ?_
 refine wcond hS (b := (r104.2 != 0)) kr (fun hb => ?_) fun hb => ?_
 ·replace hm := hm.1 hb
  refine rM T hS ⟨[(2, Pt 3 0), (3, I r104.2)], [(3, (33, [I 0, I 0, I 0, V (.slice none 0 0), V (.slice none 0 0)]))]⟩ fun Z a w105 X106 hS hE hr => ?_
  replace hO := hO.m2 hE
  clear hE hr
  refine wret ?_
  exact fin T hS hO (fun c => c) rfl (r := [.agg #[.int .i64 0, .int .i64 0, .int .i64 0, .slice none 0 0, .slice none 0 0], .int .i64 r104.2]) kr (fun X' hM hC => ⟨((⟨(⟨0, 0, 0, []⟩ : Api_Object), []⟩ : Histtext_Case), r104.2), hm, none, 0, none, 0, rfl, RS.empty _ _ _, RS.empty _ _ _⟩)
 replace hm := hm.2 hb
 refine wskip ?_
 refine rM T hS ⟨[(1, Pt 2 0), (2, Pt 3 0), (4, I r104.1), (5, Pt 6 0)], [(2, (33, [I c_.Object.States, I c_.Object.Kinds, I c_.Object.Init, Sl a1 c_.Object.Rows c1, Sl a2 c_.Events c2])), (3, (33, [I 0, I 0, I 0, V (.slice none 0 0), V (.slice none 0 0)])), (6, (24, (cO c_.Object a1 c1)))]⟩ fun Z a w301 X302 hS hE hr => ?_
 replace hO := hO.m2 hE
 replace h1 := h1.m1 hE
 replace h2 := h2.m1 hE
 clear hE hr
 refine regO ?_
 refine oPb T hS 2 [(1, Pt 2 0), (2, Pt 3 0), (4, I r104.1), (5, Pt 6 0), (24, Sl a1 c_.Object.Rows c1)] fun a hS => ?_
 obtain ⟨hq, hm⟩ := hm
 refine op1 (call hS kr kr hb32 kr (fun _ _ => rfl) (k32 _ _ c_.Object.Rows a1 c1 hq h1) ?_)
 intro v107 a w108 X109 hE hp hS
 replace hO := hO.m2 hE
 replace h1 := h1.m1 hE
 replace h2 := h2.m1 hE
 obtain ⟨a111, c112, hp, h113⟩ := hp
 obtain ⟨r110, hr⟩ : ∃ r, slices_Clone_api_Row_api_Row c_.Object.Rows = r := ⟨_, rfl⟩
 replace hm := hm r110 hr
 rw [hr] at hp h113
 clear hr
 subst hp
 replace hm := hm (h113.sm kr)
 refine eM T hS ⟨[(1, Pt 2 0), (2, Pt 3 0), (4, I r104.1), (5, Pt 6 0)], [(2, (33, [I c_.Object.States, I c_.Object.Kinds, I c_.Object.Init, Sl a1 c_.Object.Rows c1, Sl a2 c_.Events c2])), (3, (33, [I 0, I 0, I 0, V (.slice none 0 0), V (.slice none 0 0)])), (6, (24, [I c_.Object.States, I c_.Object.Kinds, I c_.Object.Init, Sl a111 r110 c112]))]⟩ fun Z a w299 X300 hS hE hr => ?_
 replace hO := hO.m2 hE
 replace h1 := h1.m1 hE
 replace h2 := h2.m1 hE
 replace h113 := h113.m1 hE
 clear hE hr
 refine drawnSX [2, 6] mixed hS ?_
 intro w114 X115 hS hE hD hH
 replace hO := hO.m2 hE
 replace h1 := h1.m1 hE
 replace h2 := h2.m1 hE
 replace h113 := h113.m1 hE
 refine tkb T [0, 1, 3, 2] [2, 6] hS hH #[true, true, true, true, false, false, false, false] 4 [(1, Pt 2 0), (2, Pt 3 0), (27, V (.agg #[.int .i64 c_.Object.States, .int .i64 c_.Object.Kinds, .int .i64 c_.Object.Init, .slice a111 r110.length c112])), (29, Sl a2 c_.Events c2), (30, I r104.1)] fun a hS => ?_
 obtain ⟨hq, hm⟩ := hm
 refine dslice0 (E := 54) (kh := .i64) T 4 hS kr kr kr (by rfl) kr hH kr kr h2 kr kr hq.1 hq.2 ?_
 intro a116 c117 a h118 hS
 obtain ⟨hq, hm⟩ := hm
 refine only 5 kr (by rfl) (call hS kr kr hb33 kr (fun _ _ => rfl) (k33 _ _ (c_.Events.take r104.1.toNat) a116 c117 hq h118) ?_)
 intro v119 a w120 X121 hE hp hS
 replace hO := hO.m2 hE
 replace hD := hD.ev hE rfl
 replace h1 := h1.m1 hE
 replace h2 := h2.m1 hE
 replace h113 := h113.m1 hE
 replace h118 := h118.m1 hE
 obtain ⟨a123, c124, hp, h125⟩ := hp
 obtain ⟨r122, hr⟩ : ∃ r, slices_Clone_api_Event_api_Event (c_.Events.take r104.1.toNat) = r := ⟨_, rfl⟩
 replace hm := hm r122 hr
 rw [hr] at hp h125
 clear hr
 subst hp
 replace hm := hm (h125.sm kr)
 replace hS := hS.slb [(1, Pt 2 0), (2, Pt 3 0), (27, V (.agg #[.int .i64 c_.Object.States, .int .i64 c_.Object.Kinds, .int .i64 c_.Object.Init, .slice a111 r110.length c112])), (29, Sl a2 c_.Events c2), (30, I r104.1), (31, Sl a116 (c_.Events.take r104.1.toNat) c117), (32, Sl a123 r122 c124)]
 refine andH (Hold.of hS (bks := [2, 6]) kr hD) ?_
 intro hH
 refine tkb T [6] [2, 6] hS hH #[true, true, true, true, true, true, true, false] 1 [(1, Pt 2 0), (2, Pt 3 0), (33, V (.agg #[.int .i64 c_.Object.States, .int .i64 c_.Object.Kinds, .int .i64 c_.Object.Init, .slice a111 r110.length c112, .slice a123 r122.length c124]))] fun a hS => ?_
 replace hS := hS.sl ⟨[(1, Pt 2 0), (2, Pt 3 0), (33, V (.agg #[.int .i64 c_.Object.States, .int .i64 c_.Object.Kinds, .int .i64 c_.Object.Init, .slice a111 r110.length c112, .slice a123 r122.length c124]))], [(2, (33, [I c_.Object.States, I c_.Object.Kinds, I c_.Object.Init, Sl a1 c_.Object.Rows c1, Sl a2 c_.Events c2])), (3, (33, [I 0, I 0, I 0, V (.slice none 0 0), V (.slice none 0 0)])), (6, (24, [I c_.Object.States, I c_.Object.Kinds, I c_.Object.Init, Sl a111 r110 c112]))]⟩
 refine only 7 kr (by rfl) (store1 T hS kr kr (sy' := ⟨[(1, Pt 2 0), (2, Pt 3 0), (33, V (.agg #[.int .i64 c_.Object.States, .int .i64 c_.Object.Kinds, .int .i64 c_.Object.Init, .slice a111 r110.length c112, .slice a123 r122.length c124]))], [(3, (33, [I c_.Object.States, I c_.Object.Kinds, I c_.Object.Init, Sl a111 r110 c112, Sl a123 r122 c124])), (2, (33, [I c_.Object.States, I c_.Object.Kinds, I c_.Object.Init, Sl a1 c_.Object.Rows c1, Sl a2 c_.Events c2])), (3, (33, [I 0, I 0, I 0, V (.slice none 0 0), V (.slice none 0 0)])), (6, (24, [I c_.Object.States, I c_.Object.Kinds, I c_.Object.Init, Sl a111 r110 c112]))]⟩) kr ?_)
 intro a w126 X127 hS hE
 replace hO := hO.m2 hE
 replace hD := hD.ev hE rfl
 replace h1 := h1.m1 hE
 replace h2 := h2.m1 hE
 replace h113 := h113.m1 hE
 replace h118 := h118.m1 hE
 replace h125 := h125.m1 hE
 replace hS := hS.sl ⟨[(1, Pt 2 0), (2, Pt 3 0), (33, V (.agg #[.int .i64 c_.Object.States, .int .i64 c_.Object.Kinds, .int .i64 c_.Object.Init, .slice a111 r110.length c112, .slice a123 r122.length c124]))], [(2, (33, [I c_.Object.States, I c_.Object.Kinds, I c_.Object.Init, Sl a1 c_.Object.Rows c1, Sl a2 c_.Events c2])), (3, (33, [I c_.Object.States, I c_.Object.Kinds, I c_.Object.Init, Sl a111 r110 c112, Sl a123 r122 c124])), (6, (24, [I c_.Object.States, I c_.Object.Kinds, I c_.Object.Init, Sl a111 r110 c112]))]⟩
 refine andH (Hold.of hS (bks := [2, 6]) kr hD) ?_
 intro hH
 refine drawnDone kr ?_
 replace hS := hS.sl ⟨[(1, Pt 2 0), (2, Pt 3 0)], [(2, (33, [I c_.Object.States, I c_.Object.Kinds, I c_.Object.Init, Sl a1 c_.Object.Rows c1, Sl a2 c_.Events c2])), (3, (33, [I c_.Object.States, I c_.Object.Kinds, I c_.Object.Init, Sl a111 r110 c112, Sl a123 r122 c124]))]⟩
 refine regO ?_
 refine oPb T hS 2 [(1, Pt 2 0), (2, Pt 3 0), (36, Sl a123 r122 c124)] fun a hS => ?_
 refine op1 (call hS kr kr hb9 kr (fun _ _ => rfl) (k9 _ _ r122 a123 c124 h125) ?_)
 intro v128 a w129 X130 hE hp hS
 replace hO := hO.m2 hE
 replace h1 := h1.m1 hE
 replace h2 := h2.m1 hE
 replace h113 := h113.m1 hE
 replace h125 := h125.m1 hE
 obtain ⟨a132, c133, hp, h134⟩ := hp
 obtain ⟨r131, hr⟩ : ∃ r, oper_Of r122 = r := ⟨_, rfl⟩
 replace hm := hm r131 hr
 rw [hr] at hp h134
 clear hr
 subst hp
 replace hm := hm (h134.sm kr)
 refine ePb T hS [(1, Pt 2 0), (2, Pt 3 0), (6, Sl a132 r131.1 c133)] fun a hS => ?_
 refine wcut (fun a w => ∃ (Z : Nat -> Nat) (X : Nat -> Nat) (y135 : Int) (y136 : Int) (y137 : Int) (y138 : List Api_Row) (y142 : List Api_Event) (a139 : Option Addr) (c140 : Nat) (a143 : Option Addr) (c144 : Nat), VC14_J1 Q y135 y136 y137 y138 y142 /\ St Try.f14.ntmps ⟨[(2, Pt 3 0)], [(3, (33, [I y135, I y136, I y137, Sl a139 y138 c140, Sl a143 y142 c144]))]⟩ Z a w X /\ Old w0 X0 w X /\ RS tApi_Row w X a139 y138 c140 /\ RS tApi_Event w X a143 y142 c144) ?_ ?_
 ·refine rPb T hS [(1, Pt 2 0), (2, Pt 3 0), (8, I (wR ((lN r131.1) - 1)))] fun a hS => ?_
  refine wblock ?_
  obtain ⟨I1, μ1, hm0, hm⟩ := hm
  refine wloop (σ := Int × Int × Int × Int × (List Api_Row) × (List Api_Event)) (fun s a w => ∃ Z X a155 c156 a159 c160, I1 s.1 s.2.1 s.2.2.1 s.2.2.2.1 s.2.2.2.2.1 s.2.2.2.2.2 /\ St Try.f14.ntmps ⟨[(1, Pt 2 0), (2, Pt 3 0), (8, I s.1)], [(2, (33, [I c_.Object.States, I c_.Object.Kinds, I c_.Object.Init, Sl a1 c_.Object.Rows c1, Sl a2 c_.Events c2])), (3, (33, [I s.2.1, I s.2.2.1, I s.2.2.2.1, Sl a155 s.2.2.2.2.1 c156, Sl a159 s.2.2.2.2.2 c160]))]⟩ Z a w X /\ Old w0 X0 w X /\ RS tApi_Row w X a1 c_.Object.Rows c1 /\ RS tApi_Event w X a2 c_.Events c2 /\ RS tApi_Row w X a155 s.2.2.2.2.1 c156 /\ RS tApi_Event w X a159 s.2.2.2.2.2 c160) (fun s => μ1 s.1 s.2.1 s.2.2.1 s.2.2.2.1 s.2.2.2.2.1 s.2.2.2.2.2) (⟨wR ((lN r131.1) - 1), c_.Object.States, c_.Object.Kinds, c_.Object.Init, r110, r122⟩) ?_ ?_
  ·exact ⟨Z, _, a111, c112, a123, c124, hm0, hS.sl _, hO, h1, h2, h113, h125⟩
  rintro ⟨y148, y151, y152, y153, y154, y158⟩ a w296 ⟨Z, X295, a155, c156, a159, c160, hI, hS, hO, h149, h150, h157, h161⟩
  replace hm := hm y148 y151 y152 y153 y154 y158 hI
  clear hI hm0
  refine wseq ?_
  refine rPb T hS [(1, Pt 2 0), (2, Pt 3 0), (8, I y148), (44, B (decide (y148 ≥ 0)))] fun a hS => ?_
  refine wcond hS (b := decide (y148 ≥ 0)) kr (fun hb => ?_) fun hb => ?_
  ·replace hm := hm.1 hb
   refine wskip ?_
   refine wcut (fun a w => ∃ (Z : Nat -> Nat) (X : Nat -> Nat) (y165 : List Api_Event) (a166 : Option Addr) (c167 : Nat), VC14_J2 I1 μ1 y148 y151 y152 y153 y154 y158 y165 /\ St Try.f14.ntmps ⟨[(1, Pt 2 0), (2, Pt 3 0), (8, I y148)], [(2, (33, [I c_.Object.States, I c_.Object.Kinds, I c_.Object.Init, Sl a1 c_.Object.Rows c1, Sl a2 c_.Events c2])), (3, (33, [I y151, I y152, I y153, Sl a155 y154 c156, Sl a166 y165 c167]))]⟩ Z a w X /\ Old w0 X0 w X /\ RS tApi_Row w X a1 c_.Object.Rows c1 /\ RS tApi_Event w X a2 c_.Events c2 /\ RS tApi_Row w X a155 y154 c156 /\ RS tApi_Event w X a166 y165 c167) ?_ ?_
   ·refine wblock ?_
    refine drawnSX [2, 3] mixed hS ?_
    intro w169 X170 hS hE hD hH
    replace hO := hO.m2 hE
    replace h149 := h149.m1 hE
    replace h150 := h150.m1 hE
    replace h157 := h157.m1 hE
    replace h161 := h161.m1 hE
    refine tkb T [0, 2, 4, 1, 3] [2, 3] hS hH #[true, true, true, true, true, false, false, false, false, false] 5 [(1, Pt 2 0), (2, Pt 3 0), (8, I y148), (48, V (.agg #[.int .i64 c_.Object.States, .int .i64 c_.Object.Kinds, .int .i64 c_.Object.Init, .slice a1 c_.Object.Rows.length c1])), (50, Sl a159 y158 c160), (51, I y148)] fun a hS => ?_
    obtain ⟨hgp6, hm⟩ := hm
    obtain ⟨r178, hgr6⟩ : ∃ r, shrink_Without y158 [y148] = r := ⟨_, rfl⟩
    replace hm := hm r178 hgr6
    obtain ⟨Zz240, hZz⟩ : ∃ q : Nat -> Nat, q = Z := ⟨Z, rfl⟩
    subst hZz
    refine drcut (fun a w => ∃ Z X a235 c236, (∀ id, id ≠ 10 -> Z id = Zz240 id) /\ St Try.f14.ntmps ⟨[(1, Pt 2 0), (2, Pt 3 0), (8, I y148), (9, Pt 10 0), (54, V (.agg #[.int .i64 c_.Object.States, .int .i64 c_.Object.Kinds, .int .i64 c_.Object.Init, .slice a1 c_.Object.Rows.length c1, .slice a235 r178.length c236]))], [(2, (33, [I c_.Object.States, I c_.Object.Kinds, I c_.Object.Init, Sl a1 c_.Object.Rows c1, Sl a2 c_.Events c2])), (3, (33, [I y151, I y152, I y153, Sl a155 y154 c156, Sl a159 y158 c160])), (10, (33, [I 0, I 0, I 0, V (.slice none 0 0), V (.slice none 0 0)]))]⟩ Z a w X /\ Old w0 X0 w X /\ M0 w169 X170 w X /\ Hold w169 X170 (filt [2, 3] ⟨[(1, Pt 2 0), (2, Pt 3 0), (8, I y148)], [(2, (33, [I c_.Object.States, I c_.Object.Kinds, I c_.Object.Init, Sl a1 c_.Object.Rows c1, Sl a2 c_.Events c2])), (3, (33, [I y151, I y152, I y153, Sl a155 y154 c156, Sl a159 y158 c160]))]⟩) Zz240 w /\ RS tApi_Row w X a1 c_.Object.Rows c1 /\ RS tApi_Event w X a235 r178 c236 /\ RS tApi_Event w X a2 c_.Events c2 /\ RS tApi_Row w X a155 y154 c156 /\ RS tApi_Event w X a159 y158 c160) #[true, true, true, true, true, true, true, true, true, false] 1 ?_ (fun H => ?_)
    ·rintro a w281 ⟨Z, X280, a235, c236, hr241, hS, hO, hD, hH, h233, h234, h237, h238, h239⟩
     replace hm := hm (h234.sm kr)
     clear hgp6 hgr6
     replace hS := hS.sl ⟨[(1, Pt 2 0), (2, Pt 3 0), (8, I y148), (9, Pt 10 0), (54, V (.agg #[.int .i64 c_.Object.States, .int .i64 c_.Object.Kinds, .int .i64 c_.Object.Init, .slice a1 c_.Object.Rows.length c1, .slice a235 r178.length c236]))], [(2, (33, [I c_.Object.States, I c_.Object.Kinds, I c_.Object.Init, Sl a1 c_.Object.Rows c1, Sl a2 c_.Events c2])), (3, (33, [I y151, I y152, I y153, Sl a155 y154 c156, Sl a159 y158 c160])), (10, (33, [I 0, I 0, I 0, V (.slice none 0 0), V (.slice none 0 0)]))]⟩
     refine only 9 kr (by rfl) (store1 T hS kr kr (sy' := ⟨[(1, Pt 2 0), (2, Pt 3 0), (8, I y148), (9, Pt 10 0), (54, V (.agg #[.int .i64 c_.Object.States, .int .i64 c_.Object.Kinds, .int .i64 c_.Object.Init, .slice a1 c_.Object.Rows.length c1, .slice a235 r178.length c236]))], [(10, (33, [I c_.Object.States, I c_.Object.Kinds, I c_.Object.Init, Sl a1 c_.Object.Rows c1, Sl a235 r178 c236])), (2, (33, [I c_.Object.States, I c_.Object.Kinds, I c_.Object.Init, Sl a1 c_.Object.Rows c1, Sl a2 c_.Events c2])), (3, (33, [I y151, I y152, I y153, Sl a155 y154 c156, Sl a159 y158 c160])), (10, (33, [I 0, I 0, I 0, V (.slice none 0 0), V (.slice none 0 0)]))]⟩) kr ?_)
     intro a w282 X283 hS hE
     replace hO := hO.m2 hE
     replace hD := hD.ev hE rfl
     replace h233 := h233.m1 hE
     replace h234 := h234.m1 hE
     replace h237 := h237.m1 hE
     replace h238 := h238.m1 hE
     replace h239 := h239.m1 hE
     replace hS := hS.sl ⟨[(1, Pt 2 0), (2, Pt 3 0), (8, I y148), (9, Pt 10 0), (54, V (.agg #[.int .i64 c_.Object.States, .int .i64 c_.Object.Kinds, .int .i64 c_.Object.Init, .slice a1 c_.Object.Rows.length c1, .slice a235 r178.length c236]))], [(2, (33, [I c_.Object.States, I c_.Object.Kinds, I c_.Object.Init, Sl a1 c_.Object.Rows c1, Sl a2 c_.Events c2])), (3, (33, [I y151, I y152, I y153, Sl a155 y154 c156, Sl a159 y158 c160])), (10, (33, [I c_.Object.States, I c_.Object.Kinds, I c_.Object.Init, Sl a1 c_.Object.Rows c1, Sl a235 r178 c236]))]⟩
     refine andH ((Hold.of hS (bks := [2, 3]) kr hD).rho hr241 kr) ?_
     intro hH
     refine drawnDone kr ?_
     replace hS := hS.slb [(1, Pt 2 0), (2, Pt 3 0), (8, I y148), (9, Pt 10 0)]
     refine regO ?_
     refine oPb T hS 1 [(1, Pt 2 0), (2, Pt 3 0), (8, I y148), (9, Pt 10 0), (56, V (.agg #[.int .i64 c_.Object.States, .int .i64 c_.Object.Kinds, .int .i64 c_.Object.Init, .slice a1 c_.Object.Rows.length c1, .slice a235 r178.length c236]))] fun a hS => ?_
     obtain ⟨hq, hm⟩ := hm
     refine op1 (call hS kr kr hb12 kr (fun _ _ => rfl) (k12 _ _ (⟨c_.Object, r178⟩ : Histtext_Case) a1 c1 a235 c236 hq h233 h234) ?_)
     intro v284 a w285 X286 hE hp hS
     replace hO := hO.m2 hE
     replace h233 := h233.m1 hE
     replace h234 := h234.m1 hE
     replace h237 := h237.m1 hE
     replace h238 := h238.m1 hE
     replace h239 := h239.m1 hE
     obtain ⟨r287, hr⟩ : ∃ r, shrink_Head (⟨c_.Object, r178⟩ : Histtext_Case) = r := ⟨_, rfl⟩
     replace hm := hm r287 hr
     rw [hr] at hp
     clear hr
     subst hp
     refine ePb T hS [(1, Pt 2 0), (2, Pt 3 0), (8, I y148), (9, Pt 10 0), (10, I r287.1), (11, I r287.2)] fun a hS => ?_
     refine rPb T hS [(1, Pt 2 0), (2, Pt 3 0), (8, I y148), (9, Pt 10 0), (10, I r287.1), (61, B (r287.2 == 0))] fun a hS => ?_
     refine wcond hS (b := (r287.2 == 0)) kr (fun hb => ?_) fun hb => ?_
     ·replace hm := hm.1 hb
      refine region ?_
      refine oP T hS 3 ⟨[(1, Pt 2 0), (2, Pt 3 0), (8, I y148), (63, Sl a235 r178 c236), (64, I r287.1)], [(2, (33, [I c_.Object.States, I c_.Object.Kinds, I c_.Object.Init, Sl a1 c_.Object.Rows c1, Sl a2 c_.Events c2])), (3, (33, [I y151, I y152, I y153, Sl a155 y154 c156, Sl a159 y158 c160]))]⟩ fun a hS => ?_
      obtain ⟨hq, hm⟩ := hm
      refine op1 (slice0 (E := 54) (kh := .i64) T hS kr kr kr kr h234 kr kr hq.1 hq.2 ?_)
      intro a288 c289 a h290 hS
      refine eM T hS ⟨[(1, Pt 2 0), (2, Pt 3 0), (8, I y148)], [(2, (33, [I c_.Object.States, I c_.Object.Kinds, I c_.Object.Init, Sl a1 c_.Object.Rows c1, Sl a2 c_.Events c2])), (3, (33, [I y151, I y152, I y153, Sl a155 y154 c156, Sl a288 (r178.take r287.1.toNat) c289]))]⟩ fun Z a w291 X292 hS hE hr => ?_
      replace hO := hO.m2 hE
      replace h233 := h233.m1 hE
      replace h237 := h237.m1 hE
      replace h238 := h238.m1 hE
      replace h290 := h290.m1 hE
      clear hE hr
      exact ⟨Z, _, r178.take r287.1.toNat, a288, c289, hm, hS.sl _, hO, h233, h237, h238, h290⟩
     replace hm := hm.2 hb
     refine wskip ?_
     exact ⟨Z, _, y158, a159, c160, hm, hS.sl _, hO, h233, h237, h238, h239⟩
    clear hm
    refine anyOf (is := [5, 8]) kr (by decide) ?_
    intro i hi
    obtain ⟨Z, hZz⟩ : ∃ q : Nat -> Nat, q = Zz240 := ⟨Zz240, rfl⟩
    subst hZz
    rcases mem2 hi with rfl | rfl
    ·refine oneOp (by rfl) (lit (E := 3) (col := 0) (T := tI) (vals := [.int .i64 y148]) (ys := [y148]) T hS kr kr kr kr (by exact ⟨rfl, trivial⟩) rfl kr kr kr kr ?_)
     intro b242 a w243 X244 hE h245 hN hS
     clear hN
     replace hO := hO.m2 hE
     replace hD := hD.ev hE rfl
     replace h149 := h149.m1 hE
     replace h150 := h150.m1 hE
     replace h157 := h157.m1 hE
     replace h161 := h161.m1 hE
     replace h245 := h245.rs0
     refine andH (Hold.of hS (bks := [2, 3]) kr hD) ?_
     intro hH
     refine anyOf (is := [6, 8]) kr (by decide) ?_
     intro i hi
     rcases mem2 hi with rfl | rfl
     ·have hq := hgp6
      refine oneOp (by rfl) (call hS kr kr hb18 kr (fun _ _ => rfl) (k18 _ _ y158 [y148] a159 c160 (some ⟨b242, 0, none⟩) 1 hq h161 h245) ?_)
      intro v246 a w247 X248 hE hp hS
      replace hO := hO.m2 hE
      replace hD := hD.ev hE rfl
      replace h149 := h149.m1 hE
      replace h150 := h150.m1 hE
      replace h157 := h157.m1 hE
      replace h161 := h161.m1 hE
      replace h245 := h245.m1 hE
      obtain ⟨a250, c251, hp, h252⟩ := hp
      rw [hgr6] at hp h252
      subst hp
      replace hS := hS.slb [(1, Pt 2 0), (2, Pt 3 0), (8, I y148), (48, V (.agg #[.int .i64 c_.Object.States, .int .i64 c_.Object.Kinds, .int .i64 c_.Object.Init, .slice a1 c_.Object.Rows.length c1])), (50, Sl a159 y158 c160), (51, I y148), (52, Sl (some ⟨b242, 0, none⟩) [y148] 1), (53, Sl a250 r178 c251)]
      refine andH (Hold.of hS (bks := [2, 3]) kr hD) ?_
      intro hH
      refine tkb T [7] [2, 3] hS hH #[true, true, true, true, true, true, true, true, false, false] 2 [(1, Pt 2 0), (2, Pt 3 0), (8, I y148), (54, V (.agg #[.int .i64 c_.Object.States, .int .i64 c_.Object.Kinds, .int .i64 c_.Object.Init, .slice a1 c_.Object.Rows.length c1, .slice a250 r178.length c251]))] fun a hS => ?_
      replace hS := hS.sl ⟨[(1, Pt 2 0), (2, Pt 3 0), (8, I y148), (54, V (.agg #[.int .i64 c_.Object.States, .int .i64 c_.Object.Kinds, .int .i64 c_.Object.Init, .slice a1 c_.Object.Rows.length c1, .slice a250 r178.length c251]))], [(2, (33, [I c_.Object.States, I c_.Object.Kinds, I c_.Object.Init, Sl a1 c_.Object.Rows c1, Sl a2 c_.Events c2])), (3, (33, [I y151, I y152, I y153, Sl a155 y154 c156, Sl a159 y158 c160]))]⟩
      refine only 8 kr (by rfl) (box1 T hS kr kr kr (sy' := ⟨[(9, Pt 10 0), (1, Pt 2 0), (2, Pt 3 0), (8, I y148), (54, V (.agg #[.int .i64 c_.Object.States, .int .i64 c_.Object.Kinds, .int .i64 c_.Object.Init, .slice a1 c_.Object.Rows.length c1, .slice a250 r178.length c251]))], [(10, (33, [I 0, I 0, I 0, V (.slice none 0 0), V (.slice none 0 0)])), (2, (33, [I c_.Object.States, I c_.Object.Kinds, I c_.Object.Init, Sl a1 c_.Object.Rows c1, Sl a2 c_.Events c2])), (3, (33, [I y151, I y152, I y153, Sl a155 y154 c156, Sl a159 y158 c160]))]⟩) kr ?_)
      intro Z a w253 X254 hS hE hr255
      replace hO := hO.m2 hE
      replace hD := hD.ev hE rfl
      replace h149 := h149.m1 hE
      replace h150 := h150.m1 hE
      replace h157 := h157.m1 hE
      replace h161 := h161.m1 hE
      replace h245 := h245.m1 hE
      replace h252 := h252.m1 hE
      replace hS := hS.sl ⟨[(1, Pt 2 0), (2, Pt 3 0), (8, I y148), (54, V (.agg #[.int .i64 c_.Object.States, .int .i64 c_.Object.Kinds, .int .i64 c_.Object.Init, .slice a1 c_.Object.Rows.length c1, .slice a250 r178.length c251])), (9, Pt 10 0)], [(2, (33, [I c_.Object.States, I c_.Object.Kinds, I c_.Object.Init, Sl a1 c_.Object.Rows c1, Sl a2 c_.Events c2])), (3, (33, [I y151, I y152, I y153, Sl a155 y154 c156, Sl a159 y158 c160])), (10, (33, [I 0, I 0, I 0, V (.slice none 0 0), V (.slice none 0 0)]))]⟩
      refine andH ((Hold.of hS (bks := [2, 3]) kr hD).rho hr255 kr) ?_
      intro hH
      exact H _ _ ⟨Z, _, a250, c251, hr255, hS.sl _, hO, hD, hH, h149, h252, h150, h157, h161⟩
     replace hS := hS.sl ⟨[(1, Pt 2 0), (2, Pt 3 0), (8, I y148), (48, V (.agg #[.int .i64 c_.Object.States, .int .i64 c_.Object.Kinds, .int .i64 c_.Object.Init, .slice a1 c_.Object.Rows.length c1])), (50, Sl a159 y158 c160), (51, I y148), (52, Sl (some ⟨b242, 0, none⟩) [y148] 1)], [(2, (33, [I c_.Object.States, I c_.Object.Kinds, I c_.Object.Init, Sl a1 c_.Object.Rows c1, Sl a2 c_.Events c2])), (3, (33, [I y151, I y152, I y153, Sl a155 y154 c156, Sl a159 y158 c160]))]⟩
     refine oneOp (by rfl) (box1 T hS kr kr kr (sy' := ⟨[(9, Pt 10 0), (1, Pt 2 0), (2, Pt 3 0), (8, I y148), (48, V (.agg #[.int .i64 c_.Object.States, .int .i64 c_.Object.Kinds, .int .i64 c_.Object.Init, .slice a1 c_.Object.Rows.length c1])), (50, Sl a159 y158 c160), (51, I y148), (52, Sl (some ⟨b242, 0, none⟩) [y148] 1)], [(10, (33, [I 0, I 0, I 0, V (.slice none 0 0), V (.slice none 0 0)])), (2, (33, [I c_.Object.States, I c_.Object.Kinds, I c_.Object.Init, Sl a1 c_.Object.Rows c1, Sl a2 c_.Events c2])), (3, (33, [I y151, I y152, I y153, Sl a155 y154 c156, Sl a159 y158 c160]))]⟩) kr ?_)
     intro Z a w256 X257 hS hE hr258
     replace hO := hO.m2 hE
     replace hD := hD.ev hE rfl
     replace h149 := h149.m1 hE
     replace h150 := h150.m1 hE
     replace h157 := h157.m1 hE
     replace h161 := h161.m1 hE
     replace h245 := h245.m1 hE
     replace hS := hS.sl ⟨[(1, Pt 2 0), (2, Pt 3 0), (8, I y148), (48, V (.agg #[.int .i64 c_.Object.States, .int .i64 c_.Object.Kinds, .int .i64 c_.Object.Init, .slice a1 c_.Object.Rows.length c1])), (50, Sl a159 y158 c160), (51, I y148), (52, Sl (some ⟨b242, 0, none⟩) [y148] 1), (9, Pt 10 0)], [(2, (33, [I c_.Object.States, I c_.Object.Kinds, I c_.Object.Init, Sl a1 c_.Object.Rows c1, Sl a2 c_.Events c2])), (3, (33, [I y151, I y152, I y153, Sl a155 y154 c156, Sl a159 y158 c160])), (10, (33, [I 0, I 0, I 0, V (.slice none 0 0), V (.slice none 0 0)]))]⟩
     refine andH ((Hold.of hS (bks := [2, 3]) kr hD).rho hr258 kr) ?_
     intro hH
     have hq := hgp6
     refine only 6 kr (by rfl) (call hS kr kr hb18 kr (fun _ _ => rfl) (k18 _ _ y158 [y148] a159 c160 (some ⟨b242, 0, none⟩) 1 hq h161 h245) ?_)
     intro v259 a w260 X261 hE hp hS
     replace hO := hO.m2 hE
     replace hD := hD.ev hE rfl
     replace h149 := h149.m1 hE
     replace h150 := h150.m1 hE
     replace h157 := h157.m1 hE
     replace h161 := h161.m1 hE
     replace h245 := h245.m1 hE
     obtain ⟨a263, c264, hp, h265⟩ := hp
     rw [hgr6] at hp h265
     subst hp
     replace hS := hS.slb [(1, Pt 2 0), (2, Pt 3 0), (8, I y148), (48, V (.agg #[.int .i64 c_.Object.States, .int .i64 c_.Object.Kinds, .int .i64 c_.Object.Init, .slice a1 c_.Object.Rows.length c1])), (50, Sl a159 y158 c160), (51, I y148), (52, Sl (some ⟨b242, 0, none⟩) [y148] 1), (9, Pt 10 0), (53, Sl a263 r178 c264)]
     refine andH ((Hold.of hS (bks := [2, 3]) kr hD).rho hr258 kr) ?_
     intro hH
     refine takeZ T hr258 kr [7] [2, 3] [1, 2, 8, 9, 54] hS kr kr kr hH (listed' := #[true, true, true, true, true, true, true, true, true, false]) (fuel := 1) (sy' := ⟨[(1, Pt 2 0), (2, Pt 3 0), (8, I y148), (9, Pt 10 0), (54, V (.agg #[.int .i64 c_.Object.States, .int .i64 c_.Object.Kinds, .int .i64 c_.Object.Init, .slice a1 c_.Object.Rows.length c1, .slice a263 r178.length c264]))], [(2, (33, [I c_.Object.States, I c_.Object.Kinds, I c_.Object.Init, Sl a1 c_.Object.Rows c1, Sl a2 c_.Events c2])), (3, (33, [I y151, I y152, I y153, Sl a155 y154 c156, Sl a159 y158 c160])), (10, (33, [I 0, I 0, I 0, V (.slice none 0 0), V (.slice none 0 0)]))]⟩) kr (by rfl) ?_
     intro a hS
     exact H _ _ ⟨Z, _, a263, c264, hr258, hS.sl _, hO, hD, hH, h149, h265, h150, h157, h161⟩
    replace hS := hS.sl ⟨[(1, Pt 2 0), (2, Pt 3 0), (8, I y148), (48, V (.agg #[.int .i64 c_.Object.States, .int .i64 c_.Object.Kinds, .int .i64 c_.Object.Init, .slice a1 c_.Object.Rows.length c1])), (50, Sl a159 y158 c160), (51, I y148)], [(2, (33, [I c_.Object.States, I c_.Object.Kinds, I c_.Object.Init, Sl a1 c_.Object.Rows c1, Sl a2 c_.Events c2])), (3, (33, [I y151, I y152, I y153, Sl a155 y154 c156, Sl a159 y158 c160]))]⟩
    refine oneOp (by rfl) (box1 T hS kr kr kr (sy' := ⟨[(9, Pt 10 0), (1, Pt 2 0), (2, Pt 3 0), (8, I y148), (48, V (.agg #[.int .i64 c_.Object.States, .int .i64 c_.Object.Kinds, .int .i64 c_.Object.Init, .slice a1 c_.Object.Rows.length c1])), (50, Sl a159 y158 c160), (51, I y148)], [(10, (33, [I 0, I 0, I 0, V (.slice none 0 0), V (.slice none 0 0)])), (2, (33, [I c_.Object.States, I c_.Object.Kinds, I c_.Object.Init, Sl a1 c_.Object.Rows c1, Sl a2 c_.Events c2])), (3, (33, [I y151, I y152, I y153, Sl a155 y154 c156, Sl a159 y158 c160]))]⟩) kr ?_)
    intro Z a w266 X267 hS hE hr268
    replace hO := hO.m2 hE
    replace hD := hD.ev hE rfl
    replace h149 := h149.m1 hE
    replace h150 := h150.m1 hE
    replace h157 := h157.m1 hE
    replace h161 := h161.m1 hE
    replace hS := hS.sl ⟨[(1, Pt 2 0), (2, Pt 3 0), (8, I y148), (48, V (.agg #[.int .i64 c_.Object.States, .int .i64 c_.Object.Kinds, .int .i64 c_.Object.Init, .slice a1 c_.Object.Rows.length c1])), (50, Sl a159 y158 c160), (51, I y148), (9, Pt 10 0)], [(2, (33, [I c_.Object.States, I c_.Object.Kinds, I c_.Object.Init, Sl a1 c_.Object.Rows c1, Sl a2 c_.Events c2])), (3, (33, [I y151, I y152, I y153, Sl a155 y154 c156, Sl a159 y158 c160])), (10, (33, [I 0, I 0, I 0, V (.slice none 0 0), V (.slice none 0 0)]))]⟩
    refine andH ((Hold.of hS (bks := [2, 3]) kr hD).rho hr268 kr) ?_
    intro hH
    refine only 5 kr (by rfl) (lit (E := 3) (col := 0) (T := tI) (vals := [.int .i64 y148]) (ys := [y148]) T hS kr kr kr kr (by exact ⟨rfl, trivial⟩) rfl kr kr kr kr ?_)
    intro b269 a w270 X271 hE h272 hN hS
    clear hN
    replace hO := hO.m2 hE
    replace hD := hD.ev hE rfl
    replace h149 := h149.m1 hE
    replace h150 := h150.m1 hE
    replace h157 := h157.m1 hE
    replace h161 := h161.m1 hE
    replace h272 := h272.rs0
    refine andH ((Hold.of hS (bks := [2, 3]) kr hD).rho hr268 kr) ?_
    intro hH
    have hq := hgp6
    refine only 6 kr (by rfl) (call hS kr kr hb18 kr (fun _ _ => rfl) (k18 _ _ y158 [y148] a159 c160 (some ⟨b269, 0, none⟩) 1 hq h161 h272) ?_)
    intro v273 a w274 X275 hE hp hS
    replace hO := hO.m2 hE
    replace hD := hD.ev hE rfl
    replace h149 := h149.m1 hE
    replace h150 := h150.m1 hE
    replace h157 := h157.m1 hE
    replace h161 := h161.m1 hE
    replace h272 := h272.m1 hE
    obtain ⟨a277, c278, hp, h279⟩ := hp
    rw [hgr6] at hp h279
    subst hp
    replace hS := hS.slb [(1, Pt 2 0), (2, Pt 3 0), (8, I y148), (48, V (.agg #[.int .i64 c_.Object.States, .int .i64 c_.Object.Kinds, .int .i64 c_.Object.Init, .slice a1 c_.Object.Rows.length c1])), (50, Sl a159 y158 c160), (51, I y148), (9, Pt 10 0), (52, Sl (some ⟨b269, 0, none⟩) [y148] 1), (53, Sl a277 r178 c278)]
    refine andH ((Hold.of hS (bks := [2, 3]) kr hD).rho hr268 kr) ?_
    intro hH
    refine takeZ T hr268 kr [7] [2, 3] [1, 2, 8, 9, 54] hS kr kr kr hH (listed' := #[true, true, true, true, true, true, true, true, true, false]) (fuel := 1) (sy' := ⟨[(1, Pt 2 0), (2, Pt 3 0), (8, I y148), (9, Pt 10 0), (54, V (.agg #[.int .i64 c_.Object.States, .int .i64 c_.Object.Kinds, .int .i64 c_.Object.Init, .slice a1 c_.Object.Rows.length c1, .slice a277 r178.length c278]))], [(2, (33, [I c_.Object.States, I c_.Object.Kinds, I c_.Object.Init, Sl a1 c_.Object.Rows c1, Sl a2 c_.Events c2])), (3, (33, [I y151, I y152, I y153, Sl a155 y154 c156, Sl a159 y158 c160])), (10, (33, [I 0, I 0, I 0, V (.slice none 0 0), V (.slice none 0 0)]))]⟩) kr (by rfl) ?_
    intro a hS
    exact H _ _ ⟨Z, _, a277, c278, hr268, hS.sl _, hO, hD, hH, h149, h279, h150, h157, h161⟩
   rintro a w294 ⟨Z, X293, y165, a166, c167, hm, hS, hO, h162, h163, h164, h168⟩
   unfold VC14_J2 at hm
   refine region (ePb T hS [(1, Pt 2 0), (2, Pt 3 0), (8, I (wR (y148 - 1)))] fun a hS => ?_)
   exact ⟨⟨wR (y148 - 1), y151, y152, y153, y154, y165⟩, ⟨Z, _, a155, c156, a166, c167, hm.1, hS.sl _, hO, h162, h163, h164, h168⟩, hm.2⟩
  replace hm := hm.2 hb
  refine wexit (by rfl) ?_
  exact ⟨Z, _, y151, y152, y153, y154, y158, a155, c156, a159, c160, hm, hS.sl _, hO, h157, h161⟩
 rintro a w298 ⟨Z, X297, y135, y136, y137, y138, y142, a139, c140, a143, c144, hm, hS, hO, h141, h145⟩
 unfold VC14_J1 at hm
 refine rM T hS ⟨[(2, Pt 3 0), (3, I 0)], [(3, (33, [I y135, I y136, I y137, Sl a139 y138 c140, Sl a143 y142 c144]))]⟩ fun Z a w146 X147 hS hE hr => ?_
 replace hO := hO.m2 hE
 replace h141 := h141.m1 hE
 replace h145 := h145.m1 hE
 clear hE hr
 refine wret ?_
 exact fin T hS hO (fun c => c) rfl (r := [.agg #[.int .i64 y135, .int .i64 y136, .int .i64 y137, .slice a139 y138.length c140, .slice a143 y142.length c144], .int .i64 0]) kr (fun X' hM hC => ⟨((⟨(⟨y135, y136, y137, y138⟩ : Api_Object), y142⟩ : Histtext_Case), 0), hm, a139, c140, a143, c144, rfl, h141.m0 hM, h145.m0 hM⟩)
theorem C14 (k12 : S12) (k18 : S18) (k32 : S32) (k33 : S33) (k9 : S9) (v : ∀ (c_ : Histtext_Case), prePa c_ -> VC14 c_ (fun r => r = shrink_Part c_)) : S14 := by
 intro w X c_ a1 c1 a2 c2   hp h1 h2
 refine (W14 k12 k18 k32 k33 k9 w X c_ a1 c1 a2 c2   _ (v c_ hp) h1 h2).mono ?_
 rintro _ _ _ _ ⟨r, rfl, h⟩
 exact h
theorem W21 (w0) (X0) (Q : Api_Object -> Prop) (hm : VC21 Q) :
  Ret Try.prog 21 #[] xnone w0 X0 (fun w X' v => ∃ r, Q r /\ ∃ ra1 rc1, v = .agg #[.int .i64 r.States, .int .i64 r.Kinds, .int .i64 r.Init, .slice ra1 r.Rows.length rc1] /\ RS tApi_Row w X' ra1 r.Rows rc1) := by
 unfold VC21 at hm
 refine enter Try.func21 rfl (vals := []) kr ?_
 intro Z a hS hO hM
 refine rM T hS ⟨[(0, Pt 1 0)], [(1, (24, [I 0, I 0, I 0, V (.slice none 0 0)]))]⟩ fun Z a w107 X108 hS hE hr => ?_
 replace hO := hO.m2 hE
 clear hE hr
 refine regO ?_
 refine oPb T hS 4 [(0, Pt 1 0), (1, V (.agg #[.int .i64 0, .int .i64 0, .int .i64 1, .int .i64 0])), (2, V (.agg #[.int .i64 0, .int .i64 1, .int .i64 0, .int .i64 0])), (3, V (.agg #[.int .i64 1, .int .i64 0, .int .i64 1, .int .i64 0])), (4, V (.agg #[.int .i64 1, .int .i64 1, .int .i64 1, .int .i64 1]))] fun a hS => ?_
 refine op1 (lit (E := 76) (col := 0) (T := tApi_Row) (vals := [.agg #[.int .i64 0, .int .i64 0, .int .i64 1, .int .i64 0], .agg #[.int .i64 0, .int .i64 1, .int .i64 0, .int .i64 0], .agg #[.int .i64 1, .int .i64 0, .int .i64 1, .int .i64 0], .agg #[.int .i64 1, .int .i64 1, .int .i64 1, .int .i64 1]]) (ys := [(⟨0, 0, 1, 0⟩ : Api_Row), (⟨0, 1, 0, 0⟩ : Api_Row), (⟨1, 0, 1, 0⟩ : Api_Row), (⟨1, 1, 1, 1⟩ : Api_Row)]) T hS kr kr kr kr (by exact ⟨rfl, rfl, rfl, rfl, trivial⟩) rfl kr kr kr kr ?_)
 intro b101 a w102 X103 hE h104 hN hS
 clear hN
 replace hO := hO.m2 hE
 replace h104 := h104.rs0
 refine eM T hS ⟨[(0, Pt 1 0)], [(1, (24, [I 2, I 2, I 0, Sl (some ⟨b101, 0, none⟩) [(⟨0, 0, 1, 0⟩ : Api_Row), (⟨0, 1, 0, 0⟩ : Api_Row), (⟨1, 0, 1, 0⟩ : Api_Row), (⟨1, 1, 1, 1⟩ : Api_Row)] 4]))]⟩ fun Z a w105 X106 hS hE hr => ?_
 replace hO := hO.m2 hE
 replace h104 := h104.m1 hE
 clear hE hr
 refine wret ?_
 exact fin T hS hO (fun c => c) rfl (r := [.agg #[.int .i64 2, .int .i64 2, .int .i64 0, .slice (some ⟨b101, 0, none⟩) [(⟨0, 0, 1, 0⟩ : Api_Row), (⟨0, 1, 0, 0⟩ : Api_Row), (⟨1, 0, 1, 0⟩ : Api_Row), (⟨1, 1, 1, 1⟩ : Api_Row)].length 4]]) kr (fun X' hM hC => ⟨(⟨2, 2, 0, [(⟨0, 0, 1, 0⟩ : Api_Row), (⟨0, 1, 0, 0⟩ : Api_Row), (⟨1, 0, 1, 0⟩ : Api_Row), (⟨1, 1, 1, 1⟩ : Api_Row)]⟩ : Api_Object), hm, (some ⟨b101, 0, none⟩), 4, rfl, h104.m0 hM⟩)
theorem C21 (v : ∀ (_ : Unit), VC21 (fun r => r = law41_flag)) : S21 := by
 intro w X     
 refine (W21 w X     _ (v ())).mono ?_
 rintro _ _ _ _ ⟨r, rfl, h⟩
 exact h
theorem W22 (w0) (X0) (Q : (List Api_Event) -> Prop) (hm : VC22 Q) :
  Ret Try.prog 22 #[] xnone w0 X0 (fun w X' v => ∃ r, Q r /\ ∃ ra1 rc1, v = .slice ra1 r.length rc1 /\ RS tApi_Event w X' ra1 r rc1) := by
 unfold VC22 at hm
 refine enter Try.func22 rfl (vals := []) kr ?_
 intro Z a hS hO hM
 refine rPb T hS [] fun a hS => ?_
 refine regO ?_
 refine oPb T hS 5 [(1, V (.agg #[.int .i64 1, .int .i64 3, .int .i64 1])), (2, V (.agg #[.int .i64 1, .int .i64 1, .int .i64 1])), (3, V (.agg #[.int .i64 2, .int .i64 1, .int .i64 1])), (4, V (.agg #[.int .i64 1, .int .i64 2, .int .i64 0])), (5, V (.agg #[.int .i64 2, .int .i64 2, .int .i64 0]))] fun a hS => ?_
 refine op1 (lit (E := 54) (col := 0) (T := tApi_Event) (vals := [.agg #[.int .i64 1, .int .i64 3, .int .i64 1], .agg #[.int .i64 1, .int .i64 1, .int .i64 1], .agg #[.int .i64 2, .int .i64 1, .int .i64 1], .agg #[.int .i64 1, .int .i64 2, .int .i64 0], .agg #[.int .i64 2, .int .i64 2, .int .i64 0]]) (ys := [(⟨1, 3, 1⟩ : Api_Event), (⟨1, 1, 1⟩ : Api_Event), (⟨2, 1, 1⟩ : Api_Event), (⟨1, 2, 0⟩ : Api_Event), (⟨2, 2, 0⟩ : Api_Event)]) T hS kr kr kr kr (by exact ⟨rfl, rfl, rfl, rfl, rfl, trivial⟩) rfl kr kr kr kr ?_)
 intro b101 a w102 X103 hE h104 hN hS
 clear hN
 replace hO := hO.m2 hE
 replace h104 := h104.rs0
 refine ePb T hS [(0, Sl (some ⟨b101, 0, none⟩) [(⟨1, 3, 1⟩ : Api_Event), (⟨1, 1, 1⟩ : Api_Event), (⟨2, 1, 1⟩ : Api_Event), (⟨1, 2, 0⟩ : Api_Event), (⟨2, 2, 0⟩ : Api_Event)] 5)] fun a hS => ?_
 refine wret ?_
 exact fin T hS hO (fun c => c) rfl (r := [.slice (some ⟨b101, 0, none⟩) [(⟨1, 3, 1⟩ : Api_Event), (⟨1, 1, 1⟩ : Api_Event), (⟨2, 1, 1⟩ : Api_Event), (⟨1, 2, 0⟩ : Api_Event), (⟨2, 2, 0⟩ : Api_Event)].length 5]) kr (fun X' hM hC => ⟨[(⟨1, 3, 1⟩ : Api_Event), (⟨1, 1, 1⟩ : Api_Event), (⟨2, 1, 1⟩ : Api_Event), (⟨1, 2, 0⟩ : Api_Event), (⟨2, 2, 0⟩ : Api_Event)], hm, (some ⟨b101, 0, none⟩), 5, rfl, h104.m0 hM⟩)
theorem C22 (v : ∀ (_ : Unit), VC22 (fun r => r = law41_bad)) : S22 := by
 intro w X     
 refine (W22 w X     _ (v ())).mono ?_
 rintro _ _ _ _ ⟨r, rfl, h⟩
 exact h
theorem W8 (k10 : S10) (k12 : S12) (k14 : S14) (k16 : S16) (k18 : S18) (k21 : S21) (k22 : S22) (w0) (X0) (Q : Bool -> Prop) (hm : VC8 Q) :
  Ret Try.prog 8 #[] xnone w0 X0 (fun w X' v => ∃ r, Q r /\ v = .bool r) := by
 unfold VC8 at hm
 refine enter Try.func8 rfl (vals := []) kr ?_
 intro Z a hS hO hM
 refine rPb T hS [] fun a hS => ?_
 refine regO ?_
 refine op1 (call hS kr kr hb21 kr (fun _ _ => rfl) (k21 _ _) ?_)
 intro v101 a w102 X103 hE hp hS
 replace hO := hO.m2 hE
 obtain ⟨a105, c106, hp, h107⟩ := hp
 obtain ⟨r104, hr⟩ : ∃ r, law41_flag = r := ⟨_, rfl⟩
 replace hm := hm r104 hr
 rw [hr] at hp h107
 clear hr
 subst hp
 replace hm := hm (h107.sm kr)
 refine op1 (call hS kr kr hb22 kr (fun _ _ => rfl) (k22 _ _) ?_)
 intro v108 a w109 X110 hE hp hS
 replace hO := hO.m2 hE
 replace h107 := h107.m1 hE
 obtain ⟨a112, c113, hp, h114⟩ := hp
 obtain ⟨r111, hr⟩ : ∃ r, law41_bad = r := ⟨_, rfl⟩
 replace hm := hm r111 hr
 rw [hr] at hp h114
 clear hr
 subst hp
 replace hm := hm (h114.sm kr)
 refine eM T hS ⟨[(1, Pt 2 0)], [(2, (33, [I r104.States, I r104.Kinds, I r104.Init, Sl a105 r104.Rows c106, Sl a112 r111 c113]))]⟩ fun Z a w198 X199 hS hE hr => ?_
 replace hO := hO.m2 hE
 replace h107 := h107.m1 hE
 replace h114 := h114.m1 hE
 clear hE hr
 refine regO ?_
 refine oPb T hS 1 [(1, Pt 2 0), (17, V (.agg #[.int .i64 r104.States, .int .i64 r104.Kinds, .int .i64 r104.Init, .slice a105 r104.Rows.length c106, .slice a112 r111.length c113]))] fun a hS => ?_
 obtain ⟨hq, hm⟩ := hm
 refine op1 (call hS kr kr hb10 kr (fun _ _ => rfl) (k10 _ _ (⟨r104, r111⟩ : Histtext_Case) a105 c106 a112 c113 hq h107 h114) ?_)
 intro v115 a w116 X117 hE hp hS
 replace hO := hO.m2 hE
 replace h107 := h107.m1 hE
 replace h114 := h114.m1 hE
 obtain ⟨r118, hr⟩ : ∃ r, shrink_Lin (⟨r104, r111⟩ : Histtext_Case) = r := ⟨_, rfl⟩
 replace hm := hm r118 hr
 rw [hr] at hp
 clear hr
 subst hp
 refine ePb T hS [(1, Pt 2 0), (2, B r118.1), (3, I r118.2)] fun a hS => ?_
 refine regO ?_
 refine oPb T hS 1 [(1, Pt 2 0), (2, B r118.1), (3, I r118.2), (22, V (.agg #[.int .i64 r104.States, .int .i64 r104.Kinds, .int .i64 r104.Init, .slice a105 r104.Rows.length c106, .slice a112 r111.length c113]))] fun a hS => ?_
 obtain ⟨hq, hm⟩ := hm
 refine op1 (call hS kr kr hb12 kr (fun _ _ => rfl) (k12 _ _ (⟨r104, r111⟩ : Histtext_Case) a105 c106 a112 c113 hq h107 h114) ?_)
 intro v119 a w120 X121 hE hp hS
 replace hO := hO.m2 hE
 replace h107 := h107.m1 hE
 replace h114 := h114.m1 hE
 obtain ⟨r122, hr⟩ : ∃ r, shrink_Head (⟨r104, r111⟩ : Histtext_Case) = r := ⟨_, rfl⟩
 replace hm := hm r122 hr
 rw [hr] at hp
 clear hr
 subst hp
 refine ePb T hS [(1, Pt 2 0), (2, B r118.1), (3, I r118.2), (4, I r122.1), (5, I r122.2)] fun a hS => ?_
 refine regO ?_
 refine oP T hS 1 ⟨[(2, B r118.1), (3, I r118.2), (4, I r122.1), (5, I r122.2), (27, V (.agg #[.int .i64 r104.States, .int .i64 r104.Kinds, .int .i64 r104.Init, .slice a105 r104.Rows.length c106, .slice a112 r111.length c113]))], []⟩ fun a hS => ?_
 obtain ⟨hq, hm⟩ := hm
 refine op1 (call hS kr kr hb14 kr (fun _ _ => rfl) (k14 _ _ (⟨r104, r111⟩ : Histtext_Case) a105 c106 a112 c113 hq h107 h114) ?_)
 intro v123 a w124 X125 hE hp hS
 replace hO := hO.m2 hE
 replace h107 := h107.m1 hE
 replace h114 := h114.m1 hE
 obtain ⟨a127, c128, a130, c131, hp, h129, h132⟩ := hp
 obtain ⟨r126, hr⟩ : ∃ r, shrink_Part (⟨r104, r111⟩ : Histtext_Case) = r := ⟨_, rfl⟩
 replace hm := hm r126 hr
 rw [hr] at hp h129 h132
 clear hr
 subst hp
 replace hm := hm (h129.sm kr)
 replace hm := hm (h132.sm kr)
 refine eM T hS ⟨[(2, B r118.1), (3, I r118.2), (4, I r122.1), (5, I r122.2), (6, Pt 7 0), (7, I r126.2)], [(7, (33, [I r126.1.Object.States, I r126.1.Object.Kinds, I r126.1.Object.Init, Sl a127 r126.1.Object.Rows c128, Sl a130 r126.1.Events c131]))]⟩ fun Z a w196 X197 hS hE hr => ?_
 replace hO := hO.m2 hE
 replace h129 := h129.m1 hE
 replace h132 := h132.m1 hE
 clear hE hr
 refine regO ?_
 refine op1 (call hS kr kr hb21 kr (fun _ _ => rfl) (k21 _ _) ?_)
 intro v133 a w134 X135 hE hp hS
 replace hO := hO.m2 hE
 replace h129 := h129.m1 hE
 replace h132 := h132.m1 hE
 obtain ⟨a137, c138, hp, h139⟩ := hp
 obtain ⟨r136, hr⟩ : ∃ r, law41_flag = r := ⟨_, rfl⟩
 replace hm := hm r136 hr
 rw [hr] at hp h139
 clear hr
 subst hp
 replace hm := hm (h139.sm kr)
 refine oPb T hS 1 [(2, B r118.1), (3, I r118.2), (4, I r122.1), (5, I r122.2), (6, Pt 7 0), (7, I r126.2), (33, V (.agg #[.int .i64 r136.States, .int .i64 r136.Kinds, .int .i64 r136.Init, .slice a137 r136.Rows.length c138, .slice none 0 0]))] fun a hS => ?_
 obtain ⟨hq, hm⟩ := hm
 refine op1 (call hS kr kr hb12 kr (fun _ _ => rfl) (k12 _ _ (⟨r136, []⟩ : Histtext_Case) a137 c138 none 0 hq h139 (RS.empty _ _ _)) ?_)
 intro v140 a w141 X142 hE hp hS
 replace hO := hO.m2 hE
 replace h129 := h129.m1 hE
 replace h132 := h132.m1 hE
 replace h139 := h139.m1 hE
 obtain ⟨r143, hr⟩ : ∃ r, shrink_Head (⟨r136, []⟩ : Histtext_Case) = r := ⟨_, rfl⟩
 replace hm := hm r143 hr
 rw [hr] at hp
 clear hr
 subst hp
 refine ePb T hS [(2, B r118.1), (3, I r118.2), (4, I r122.1), (5, I r122.2), (6, Pt 7 0), (7, I r126.2), (9, I r143.2)] fun a hS => ?_
 refine regO ?_
 refine op1 (call hS kr kr hb22 kr (fun _ _ => rfl) (k22 _ _) ?_)
 intro v144 a w145 X146 hE hp hS
 replace hO := hO.m2 hE
 replace h129 := h129.m1 hE
 replace h132 := h132.m1 hE
 obtain ⟨a148, c149, hp, h150⟩ := hp
 obtain ⟨r147, hr⟩ : ∃ r, law41_bad = r := ⟨_, rfl⟩
 replace hm := hm r147 hr
 rw [hr] at hp h150
 clear hr
 subst hp
 replace hm := hm (h150.sm kr)
 refine op1 (lit (E := 3) (col := 0) (T := tI) (vals := [.int .i64 1, .int .i64 2]) (ys := [1, 2]) T hS kr kr kr kr (by exact ⟨rfl, rfl, trivial⟩) rfl kr kr kr kr ?_)
 intro b151 a w152 X153 hE h154 hN hS
 clear hN
 replace hO := hO.m2 hE
 replace h129 := h129.m1 hE
 replace h132 := h132.m1 hE
 replace h150 := h150.m1 hE
 replace h154 := h154.rs0
 obtain ⟨hq, hm⟩ := hm
 refine op1 (call hS kr kr hb18 kr (fun _ _ => rfl) (k18 _ _ r147 [1, 2] a148 c149 (some ⟨b151, 0, none⟩) 2 hq h150 h154) ?_)
 intro v155 a w156 X157 hE hp hS
 replace hO := hO.m2 hE
 replace h129 := h129.m1 hE
 replace h132 := h132.m1 hE
 replace h150 := h150.m1 hE
 replace h154 := h154.m1 hE
 obtain ⟨a159, c160, hp, h161⟩ := hp
 obtain ⟨r158, hr⟩ : ∃ r, shrink_Without r147 [1, 2] = r := ⟨_, rfl⟩
 replace hm := hm r158 hr
 rw [hr] at hp h161
 clear hr
 subst hp
 replace hm := hm (h161.sm kr)
 refine ePb T hS [(2, B r118.1), (3, I r118.2), (4, I r122.1), (5, I r122.2), (6, Pt 7 0), (7, I r126.2), (9, I r143.2), (10, Sl a159 r158 c160)] fun a hS => ?_
 refine regO ?_
 refine oPb T hS 1 [(2, B r118.1), (3, I r118.2), (4, I r122.1), (5, I r122.2), (6, Pt 7 0), (7, I r126.2), (9, I r143.2), (10, Sl a159 r158 c160), (41, V (.agg #[.int .i64 0, .int .i64 0, .int .i64 0, .slice none 0 0, .slice none 0 0]))] fun a hS => ?_
 obtain ⟨hq, hm⟩ := hm
 refine op1 (call hS kr kr hb10 kr (fun _ _ => rfl) (k10 _ _ (⟨(⟨0, 0, 0, []⟩ : Api_Object), []⟩ : Histtext_Case) none 0 none 0 hq (RS.empty _ _ _) (RS.empty _ _ _)) ?_)
 intro v162 a w163 X164 hE hp hS
 replace hO := hO.m2 hE
 replace h129 := h129.m1 hE
 replace h132 := h132.m1 hE
 replace h161 := h161.m1 hE
 obtain ⟨r165, hr⟩ : ∃ r, shrink_Lin (⟨(⟨0, 0, 0, []⟩ : Api_Object), []⟩ : Histtext_Case) = r := ⟨_, rfl⟩
 replace hm := hm r165 hr
 rw [hr] at hp
 clear hr
 subst hp
 refine ePb T hS [(2, B r118.1), (3, I r118.2), (4, I r122.1), (5, I r122.2), (6, Pt 7 0), (7, I r126.2), (9, I r143.2), (10, Sl a159 r158 c160), (12, I r165.2)] fun a hS => ?_
 refine drawnSX [7] mixed hS ?_
 intro w166 X167 hS hE hD hH
 replace hO := hO.m2 hE
 replace h129 := h129.m1 hE
 replace h132 := h132.m1 hE
 replace h161 := h161.m1 hE
 refine tkc T [0, 1, 2] [7] hS hH #[true, true, true, false, false, false, false, false, false, false, false, false, false, false, false, false, false, false, false, false, false, false, false, false, false, false, false, false, false, false, false, false, false, false, false, false, false, false, false, false] 37 [(3, I r118.2), (4, I r122.1), (5, I r122.2), (6, Pt 7 0), (7, I r126.2), (9, I r143.2), (10, Sl a159 r158 c160), (12, I r165.2), (47, B (!r118.1))] fun a hS => ?_
 refine takeM (tc := 47) (b := (!r118.1)) (f := fun c => ⟨[(4, I r122.1), (5, I r122.2), (6, Pt 7 0), (7, I r126.2), (9, I r143.2), (10, Sl a159 r158 c160), (12, I r165.2), (50, B (c && (r118.2 == 0)))], [(7, (33, [I r126.1.Object.States, I r126.1.Object.Kinds, I r126.1.Object.Init, Sl a127 r126.1.Object.Rows c128, Sl a130 r126.1.Events c131]))]⟩) T [3, 4, 5] [7] [4, 5, 6, 7, 9, 10, 12, 50] hS kr kr kr kr hH (listed' := #[true, true, true, true, true, true, false, false, false, false, false, false, false, false, false, false, false, false, false, false, false, false, false, false, false, false, false, false, false, false, false, false, false, false, false, false, false, false, false, false]) (fuel := 34) kr kr (by rfl) ?_
 intro a hS
 refine tkc T [6] [7] hS hH #[true, true, true, true, true, true, true, false, false, false, false, false, false, false, false, false, false, false, false, false, false, false, false, false, false, false, false, false, false, false, false, false, false, false, false, false, false, false, false, false] 33 [(4, I r122.1), (5, I r122.2), (6, Pt 7 0), (7, I r126.2), (9, I r143.2), (10, Sl a159 r158 c160), (12, I r165.2), (51, B ((!r118.1) && (r118.2 == 0)))] fun a hS => ?_
 refine takeM (tc := 51) (b := ((!r118.1) && (r118.2 == 0))) (f := fun c => ⟨[(5, I r122.2), (6, Pt 7 0), (7, I r126.2), (9, I r143.2), (10, Sl a159 r158 c160), (12, I r165.2), (54, B (c && (r122.1 == 3)))], [(7, (33, [I r126.1.Object.States, I r126.1.Object.Kinds, I r126.1.Object.Init, Sl a127 r126.1.Object.Rows c128, Sl a130 r126.1.Events c131]))]⟩) T [7, 8, 9] [7] [5, 6, 7, 9, 10, 12, 54] hS kr kr kr kr hH (listed' := #[true, true, true, true, true, true, true, true, true, true, false, false, false, false, false, false, false, false, false, false, false, false, false, false, false, false, false, false, false, false, false, false, false, false, false, false, false, false, false, false]) (fuel := 30) kr kr (by rfl) ?_
 intro a hS
 refine tkc T [10] [7] hS hH #[true, true, true, true, true, true, true, true, true, true, true, false, false, false, false, false, false, false, false, false, false, false, false, false, false, false, false, false, false, false, false, false, false, false, false, false, false, false, false, false] 29 [(5, I r122.2), (6, Pt 7 0), (7, I r126.2), (9, I r143.2), (10, Sl a159 r158 c160), (12, I r165.2), (55, B (((!r118.1) && (r118.2 == 0)) && (r122.1 == 3)))] fun a hS => ?_
 refine takeM (tc := 55) (b := (((!r118.1) && (r118.2 == 0)) && (r122.1 == 3))) (f := fun c => ⟨[(6, Pt 7 0), (7, I r126.2), (9, I r143.2), (10, Sl a159 r158 c160), (12, I r165.2), (58, B (c && (r122.2 == 0)))], [(7, (33, [I r126.1.Object.States, I r126.1.Object.Kinds, I r126.1.Object.Init, Sl a127 r126.1.Object.Rows c128, Sl a130 r126.1.Events c131]))]⟩) T [11, 12, 13] [7] [6, 7, 9, 10, 12, 58] hS kr kr kr kr hH (listed' := #[true, true, true, true, true, true, true, true, true, true, true, true, true, true, false, false, false, false, false, false, false, false, false, false, false, false, false, false, false, false, false, false, false, false, false, false, false, false, false, false]) (fuel := 26) kr kr (by rfl) ?_
 intro a hS
 refine tkc T [14] [7] hS hH #[true, true, true, true, true, true, true, true, true, true, true, true, true, true, true, false, false, false, false, false, false, false, false, false, false, false, false, false, false, false, false, false, false, false, false, false, false, false, false, false] 25 [(6, Pt 7 0), (7, I r126.2), (9, I r143.2), (10, Sl a159 r158 c160), (12, I r165.2), (59, B ((((!r118.1) && (r118.2 == 0)) && (r122.1 == 3)) && (r122.2 == 0)))] fun a hS => ?_
 refine takeM (tc := 59) (b := ((((!r118.1) && (r118.2 == 0)) && (r122.1 == 3)) && (r122.2 == 0))) (f := fun c => ⟨[(6, Pt 7 0), (9, I r143.2), (10, Sl a159 r158 c160), (12, I r165.2), (62, B (c && (r126.2 == 0)))], [(7, (33, [I r126.1.Object.States, I r126.1.Object.Kinds, I r126.1.Object.Init, Sl a127 r126.1.Object.Rows c128, Sl a130 r126.1.Events c131]))]⟩) T [15, 16, 17] [7] [6, 9, 10, 12, 62] hS kr kr kr kr hH (listed' := #[true, true, true, true, true, true, true, true, true, true, true, true, true, true, true, true, true, true, false, false, false, false, false, false, false, false, false, false, false, false, false, false, false, false, false, false, false, false, false, false]) (fuel := 22) kr kr (by rfl) ?_
 intro a hS
 refine tkc T [18] [7] hS hH #[true, true, true, true, true, true, true, true, true, true, true, true, true, true, true, true, true, true, true, false, false, false, false, false, false, false, false, false, false, false, false, false, false, false, false, false, false, false, false, false] 21 [(6, Pt 7 0), (9, I r143.2), (10, Sl a159 r158 c160), (12, I r165.2), (63, B (((((!r118.1) && (r118.2 == 0)) && (r122.1 == 3)) && (r122.2 == 0)) && (r126.2 == 0)))] fun a hS => ?_
 rcases bft (((((!r118.1) && (r118.2 == 0)) && (r122.1 == 3)) && (r122.2 == 0)) && (r126.2 == 0)) with hb | hb
 ·replace hS := hS.lit (t := 63) kr hb
  replace hm := hm.1 hb
  refine tkc T [19, 20] [7] hS hH #[true, true, true, true, true, true, true, true, true, true, true, true, true, true, true, true, true, true, true, true, true, false, false, false, false, false, false, false, false, false, false, false, false, false, false, false, false, false, false, false] 19 [(9, I r143.2), (10, Sl a159 r158 c160), (12, I r165.2), (63, B true), (65, Sl a130 r126.1.Events c131)] fun a hS => ?_
  refine only 21 kr (by rfl) (call hS kr kr hb22 kr (fun _ _ => rfl) (k22 _ _) ?_)
  intro v168 a w169 X170 hE hp hS
  replace hO := hO.m2 hE
  replace hD := hD.ev hE rfl
  replace h129 := h129.m1 hE
  replace h132 := h132.m1 hE
  replace h161 := h161.m1 hE
  obtain ⟨a172, c173, hp, h174⟩ := hp
  obtain ⟨r171, hr⟩ : ∃ r, law41_bad = r := ⟨_, rfl⟩
  replace hm := hm r171 hr
  rw [hr] at hp h174
  clear hr
  subst hp
  replace hm := hm (h174.sm kr)
  replace hS := hS.slb [(9, I r143.2), (10, Sl a159 r158 c160), (12, I r165.2), (63, B true), (65, Sl a130 r126.1.Events c131), (66, Sl a172 r171 c173)]
  refine andH (Hold.of hS (bks := [7]) kr hD) ?_
  intro hH
  obtain ⟨hq, hm⟩ := hm
  refine dslice2 (E := 54) (kl := .i64) (kh := .i64) T 22 hS kr kr kr (by rfl) kr hH kr kr kr h174 kr kr hq.1 hq.2.1 hq.2.2 ?_
  intro a175 c176 a h177 hS
  refine only 23 kr (by rfl) (call hS kr kr hb16 kr (fun _ _ => rfl) (k16 _ _ r126.1.Events ((r171.take (3 : Int).toNat).drop (1 : Int).toNat) a130 c131 a175 c176 h132 h177) ?_)
  intro v178 a w179 X180 hE hp hS
  replace hO := hO.m2 hE
  replace hD := hD.ev hE rfl
  replace h129 := h129.m1 hE
  replace h132 := h132.m1 hE
  replace h161 := h161.m1 hE
  replace h174 := h174.m1 hE
  replace h177 := h177.m1 hE
  obtain ⟨r181, hr⟩ : ∃ r, ref25_Same r126.1.Events ((r171.take (3 : Int).toNat).drop (1 : Int).toNat) = r := ⟨_, rfl⟩
  replace hm := hm r181 hr
  rw [hr] at hp
  clear hr
  subst hp
  replace hS := hS.slb [(9, I r143.2), (10, Sl a159 r158 c160), (12, I r165.2), (63, B true), (65, Sl a130 r126.1.Events c131), (66, Sl a172 r171 c173), (67, Sl a175 ((r171.take (3 : Int).toNat).drop (1 : Int).toNat) c176), (68, B r181)]
  refine andH (Hold.of hS (bks := [7]) kr hD) ?_
  intro hH
  refine tkc T [24, 25] [7] hS hH #[true, true, true, true, true, true, true, true, true, true, true, true, true, true, true, true, true, true, true, true, true, true, true, true, true, true, false, false, false, false, false, false, false, false, false, false, false, false, false, false] 14 [(9, I r143.2), (10, Sl a159 r158 c160), (12, I r165.2), (70, B r181)] fun a hS => ?_
  refine takeM (tc := 70) (b := r181) (f := fun c => ⟨[(10, Sl a159 r158 c160), (12, I r165.2), (73, B (c && (r143.2 == 41)))], [(7, (33, [I r126.1.Object.States, I r126.1.Object.Kinds, I r126.1.Object.Init, Sl a127 r126.1.Object.Rows c128, Sl a130 r126.1.Events c131]))]⟩) T [26, 27, 28] [7] [10, 12, 73] hS kr kr kr kr hH (listed' := #[true, true, true, true, true, true, true, true, true, true, true, true, true, true, true, true, true, true, true, true, true, true, true, true, true, true, true, true, true, false, false, false, false, false, false, false, false, false, false, false]) (fuel := 11) kr kr (by rfl) ?_
  intro a hS
  refine tkc T [29] [7] hS hH #[true, true, true, true, true, true, true, true, true, true, true, true, true, true, true, true, true, true, true, true, true, true, true, true, true, true, true, true, true, true, false, false, false, false, false, false, false, false, false, false] 10 [(10, Sl a159 r158 c160), (12, I r165.2), (74, B (r181 && (r143.2 == 41)))] fun a hS => ?_
  rcases bft (r181 && (r143.2 == 41)) with hb | hb
  ·replace hS := hS.lit (t := 74) kr hb
   replace hm := hm.1 hb
   refine tkc T [30] [7] hS hH #[true, true, true, true, true, true, true, true, true, true, true, true, true, true, true, true, true, true, true, true, true, true, true, true, true, true, true, true, true, true, true, false, false, false, false, false, false, false, false, false] 9 [(12, I r165.2), (74, B true), (75, Sl a159 r158 c160)] fun a hS => ?_
   refine only 31 kr (by rfl) (call hS kr kr hb22 kr (fun _ _ => rfl) (k22 _ _) ?_)
   intro v182 a w183 X184 hE hp hS
   replace hO := hO.m2 hE
   replace hD := hD.ev hE rfl
   replace h129 := h129.m1 hE
   replace h132 := h132.m1 hE
   replace h161 := h161.m1 hE
   replace h174 := h174.m1 hE
   replace h177 := h177.m1 hE
   obtain ⟨a186, c187, hp, h188⟩ := hp
   obtain ⟨r185, hr⟩ : ∃ r, law41_bad = r := ⟨_, rfl⟩
   replace hm := hm r185 hr
   rw [hr] at hp h188
   clear hr
   subst hp
   replace hm := hm (h188.sm kr)
   replace hS := hS.slb [(12, I r165.2), (74, B true), (75, Sl a159 r158 c160), (76, Sl a186 r185 c187)]
   refine andH (Hold.of hS (bks := [7]) kr hD) ?_
   intro hH
   obtain ⟨hq, hm⟩ := hm
   refine dslice0 (E := 54) (kh := .i64) T 32 hS kr kr kr (by rfl) kr hH kr kr h188 kr kr hq.1 hq.2 ?_
   intro a189 c190 a h191 hS
   refine only 33 kr (by rfl) (call hS kr kr hb16 kr (fun _ _ => rfl) (k16 _ _ r158 (r185.take (1 : Int).toNat) a159 c160 a189 c190 h161 h191) ?_)
   intro v192 a w193 X194 hE hp hS
   replace hO := hO.m2 hE
   replace hD := hD.ev hE rfl
   replace h129 := h129.m1 hE
   replace h132 := h132.m1 hE
   replace h161 := h161.m1 hE
   replace h174 := h174.m1 hE
   replace h177 := h177.m1 hE
   replace h188 := h188.m1 hE
   replace h191 := h191.m1 hE
   obtain ⟨r195, hr⟩ : ∃ r, ref25_Same r158 (r185.take (1 : Int).toNat) = r := ⟨_, rfl⟩
   replace hm := hm r195 hr
   rw [hr] at hp
   clear hr
   subst hp
   replace hS := hS.slb [(12, I r165.2), (74, B true), (75, Sl a159 r158 c160), (76, Sl a186 r185 c187), (77, Sl a189 (r185.take (1 : Int).toNat) c190), (78, B r195)]
   refine andH (Hold.of hS (bks := [7]) kr hD) ?_
   intro hH
   refine tkc T [34, 35] [7] hS hH #[true, true, true, true, true, true, true, true, true, true, true, true, true, true, true, true, true, true, true, true, true, true, true, true, true, true, true, true, true, true, true, true, true, true, true, true, false, false, false, false] 4 [(12, I r165.2), (80, B r195)] fun a hS => ?_
   refine takeM (tc := 80) (b := r195) (f := fun c => ⟨[(83, B (c && (r165.2 == 2)))], [(7, (33, [I r126.1.Object.States, I r126.1.Object.Kinds, I r126.1.Object.Init, Sl a127 r126.1.Object.Rows c128, Sl a130 r126.1.Events c131]))]⟩) T [36, 37, 38] [7] [83] hS kr kr kr kr hH (listed' := #[true, true, true, true, true, true, true, true, true, true, true, true, true, true, true, true, true, true, true, true, true, true, true, true, true, true, true, true, true, true, true, true, true, true, true, true, true, true, true, false]) (fuel := 1) kr kr (by rfl) ?_
   intro a hS
   refine tkc T [39] [7] hS hH (tts 40) 0 [(0, B (r195 && (r165.2 == 2)))] fun a hS => ?_
   refine drawnDone kr ?_
   replace hS := hS.sl ⟨[(0, B (r195 && (r165.2 == 2)))], []⟩
   refine wret ?_
   exact fin T hS hO (fun c => c) rfl (r := [.bool (r195 && (r165.2 == 2))]) kr (fun X' hM hC => ⟨(r195 && (r165.2 == 2)), hm, rfl⟩)
  replace hS := hS.lit (t := 74) kr hb
  replace hm := hm.2 hb
  refine tkc T [30, 31, 32, 33, 34, 35, 36, 37, 38, 39] [7] hS hH (tts 40) 0 [(0, B false)] fun a hS => ?_
  refine drawnDone kr ?_
  replace hS := hS.sl ⟨[(0, B false)], []⟩
  refine wret ?_
  exact fin T hS hO (fun c => c) rfl (r := [.bool false]) kr (fun X' hM hC => ⟨false, hm, rfl⟩)
 replace hS := hS.lit (t := 63) kr hb
 replace hm := hm.2 hb
 refine tkc T [19, 21, 20, 22, 23, 24, 25, 26, 27, 28, 29, 30, 31, 32, 33, 34, 35, 36, 37, 38, 39] [7] hS hH (tts 40) 0 [(0, B false)] fun a hS => ?_
 refine drawnDone kr ?_
 replace hS := hS.sl ⟨[(0, B false)], []⟩
 refine wret ?_
 exact fin T hS hO (fun c => c) rfl (r := [.bool false]) kr (fun X' hM hC => ⟨false, hm, rfl⟩)
theorem C8 (k10 : S10) (k12 : S12) (k14 : S14) (k16 : S16) (k18 : S18) (k21 : S21) (k22 : S22) (v : ∀ (_ : Unit), VC8 (fun r => r = law41_awake)) : S8 := by
 intro w X     
 refine (W8 k10 k12 k14 k16 k18 k21 k22 w X     _ (v ())).mono ?_
 rintro _ _ _ _ ⟨r, rfl, h⟩
 exact h
end Go.Proofs.Ytojdelnnjhbgbaa
