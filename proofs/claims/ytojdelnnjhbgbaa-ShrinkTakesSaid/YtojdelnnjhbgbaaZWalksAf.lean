/- Walks: each function returns what its condition asks. Condition: the contracts of its callees, handed in. -/
import Derived.Test.YtojdelnnjhbgbaaZWalksS
set_option linter.all false
namespace Go.Proofs.Ytojdelnnjhbgbaa
open Go Go.Sv
set_option maxHeartbeats 1000000
theorem W8 (k10 : S10) (k12 : S12) (k14 : S14) (k16 : S16) (k18 : S18) (k21 : S21) (k22 : S22) (w0 : World) (χ0 : Nat → Nat) (Q : Bool → Prop) (hm : VC8 Q) :
  Ret Try.prog 8 #[] xnone w0 χ0 (fun w χ' v => ∃ r, Q r ∧ v = .bool r) := by
 unfold VC8 at hm
 refine enter Try.func8 rfl (vals := []) kr ?_
 intro ρ a hS hO hM
 clear hM
 refine rP T hS ⟨[], []⟩ fun a hS => ?_
 refine regO ?_
 refine op1 (call hS kr kr hb21 kr (fun _ _ => rfl) (k21 _ _) ?_)
 intro v101 a w102 χ103 hE hp hS
 replace hO := hO.mv hE rfl rfl
 obtain ⟨a105, c106, hp, h107⟩ := hp
 obtain ⟨r104, hr⟩ : ∃ r, law41_flag = r := ⟨_, rfl⟩
 replace hm := hm r104 hr
 rw [hr] at hp h107
 clear hr
 subst hp
 replace hm := hm (h107.sm kr)
 refine op1 (call hS kr kr hb22 kr (fun _ _ => rfl) (k22 _ _) ?_)
 intro v108 a w109 χ110 hE hp hS
 replace hO := hO.mv hE rfl rfl
 replace h107 := h107.mv hE rfl
 obtain ⟨a112, c113, hp, h114⟩ := hp
 obtain ⟨r111, hr⟩ : ∃ r, law41_bad = r := ⟨_, rfl⟩
 replace hm := hm r111 hr
 rw [hr] at hp h114
 clear hr
 subst hp
 replace hm := hm (h114.sm kr)
 refine eM T hS ⟨[(1, Pt 2 0)], [(2, (33, [I r104.States, I r104.Kinds, I r104.Init, Sl a105 r104.Rows c106, Sl a112 r111 c113]))]⟩ fun ρ a w198 χ199 hS hE hr => ?_
 replace hO := hO.mv hE rfl rfl
 replace h107 := h107.mv hE rfl
 replace h114 := h114.mv hE rfl
 clear hE hr
 refine regO ?_
 refine oP T hS 1 ⟨[(1, Pt 2 0), (17, V (.agg #[.int .i64 r104.States, .int .i64 r104.Kinds, .int .i64 r104.Init, .slice a105 r104.Rows.length c106, .slice a112 r111.length c113]))], [(2, (33, [I r104.States, I r104.Kinds, I r104.Init, Sl a105 r104.Rows c106, Sl a112 r111 c113]))]⟩ fun a hS => ?_
 obtain ⟨hq, hm⟩ := hm
 refine op1 (call hS kr kr hb10 kr (fun _ _ => rfl) (k10 _ _ (⟨r104, r111⟩ : Histtext_Case) a105 c106 a112 c113 hq h107 h114) ?_)
 intro v115 a w116 χ117 hE hp hS
 replace hO := hO.mv hE rfl rfl
 replace h107 := h107.mv hE rfl
 replace h114 := h114.mv hE rfl
 obtain ⟨r118, hr⟩ : ∃ r, shrink_Lin (⟨r104, r111⟩ : Histtext_Case) = r := ⟨_, rfl⟩
 replace hm := hm r118 hr
 rw [hr] at hp
 clear hr
 subst hp
 refine eP T hS ⟨[(1, Pt 2 0), (2, B r118.1), (3, I r118.2)], [(2, (33, [I r104.States, I r104.Kinds, I r104.Init, Sl a105 r104.Rows c106, Sl a112 r111 c113]))]⟩ fun a hS => ?_
 refine regO ?_
 refine oP T hS 1 ⟨[(1, Pt 2 0), (2, B r118.1), (3, I r118.2), (22, V (.agg #[.int .i64 r104.States, .int .i64 r104.Kinds, .int .i64 r104.Init, .slice a105 r104.Rows.length c106, .slice a112 r111.length c113]))], [(2, (33, [I r104.States, I r104.Kinds, I r104.Init, Sl a105 r104.Rows c106, Sl a112 r111 c113]))]⟩ fun a hS => ?_
 obtain ⟨hq, hm⟩ := hm
 refine op1 (call hS kr kr hb12 kr (fun _ _ => rfl) (k12 _ _ (⟨r104, r111⟩ : Histtext_Case) a105 c106 a112 c113 hq h107 h114) ?_)
 intro v119 a w120 χ121 hE hp hS
 replace hO := hO.mv hE rfl rfl
 replace h107 := h107.mv hE rfl
 replace h114 := h114.mv hE rfl
 obtain ⟨r122, hr⟩ : ∃ r, shrink_Head (⟨r104, r111⟩ : Histtext_Case) = r := ⟨_, rfl⟩
 replace hm := hm r122 hr
 rw [hr] at hp
 clear hr
 subst hp
 refine eP T hS ⟨[(1, Pt 2 0), (2, B r118.1), (3, I r118.2), (4, I r122.1), (5, I r122.2)], [(2, (33, [I r104.States, I r104.Kinds, I r104.Init, Sl a105 r104.Rows c106, Sl a112 r111 c113]))]⟩ fun a hS => ?_
 refine regO ?_
 refine oP T hS 1 ⟨[(2, B r118.1), (3, I r118.2), (4, I r122.1), (5, I r122.2), (27, V (.agg #[.int .i64 r104.States, .int .i64 r104.Kinds, .int .i64 r104.Init, .slice a105 r104.Rows.length c106, .slice a112 r111.length c113]))], []⟩ fun a hS => ?_
 obtain ⟨hq, hm⟩ := hm
 refine op1 (call hS kr kr hb14 kr (fun _ _ => rfl) (k14 _ _ (⟨r104, r111⟩ : Histtext_Case) a105 c106 a112 c113 hq h107 h114) ?_)
 intro v123 a w124 χ125 hE hp hS
 replace hO := hO.mv hE rfl rfl
 replace h107 := h107.mv hE rfl
 replace h114 := h114.mv hE rfl
 obtain ⟨a127, c128, a130, c131, hp, h129, h132⟩ := hp
 obtain ⟨r126, hr⟩ : ∃ r, shrink_Part (⟨r104, r111⟩ : Histtext_Case) = r := ⟨_, rfl⟩
 replace hm := hm r126 hr
 rw [hr] at hp h129 h132
 clear hr
 subst hp
 replace hm := hm (h129.sm kr)
 replace hm := hm (h132.sm kr)
 refine eM T hS ⟨[(2, B r118.1), (3, I r118.2), (4, I r122.1), (5, I r122.2), (6, Pt 7 0), (7, I r126.2)], [(7, (33, [I r126.1.Object.States, I r126.1.Object.Kinds, I r126.1.Object.Init, Sl a127 r126.1.Object.Rows c128, Sl a130 r126.1.Events c131]))]⟩ fun ρ a w196 χ197 hS hE hr => ?_
 replace hO := hO.mv hE rfl rfl
 replace h129 := h129.mv hE rfl
 replace h132 := h132.mv hE rfl
 clear hE hr
 refine regO ?_
 refine op1 (call hS kr kr hb21 kr (fun _ _ => rfl) (k21 _ _) ?_)
 intro v133 a w134 χ135 hE hp hS
 replace hO := hO.mv hE rfl rfl
 replace h129 := h129.mv hE rfl
 replace h132 := h132.mv hE rfl
 obtain ⟨a137, c138, hp, h139⟩ := hp
 obtain ⟨r136, hr⟩ : ∃ r, law41_flag = r := ⟨_, rfl⟩
 replace hm := hm r136 hr
 rw [hr] at hp h139
 clear hr
 subst hp
 replace hm := hm (h139.sm kr)
 refine oP T hS 1 ⟨[(2, B r118.1), (3, I r118.2), (4, I r122.1), (5, I r122.2), (6, Pt 7 0), (7, I r126.2), (33, V (.agg #[.int .i64 r136.States, .int .i64 r136.Kinds, .int .i64 r136.Init, .slice a137 r136.Rows.length c138, .slice none 0 0]))], [(7, (33, [I r126.1.Object.States, I r126.1.Object.Kinds, I r126.1.Object.Init, Sl a127 r126.1.Object.Rows c128, Sl a130 r126.1.Events c131]))]⟩ fun a hS => ?_
 obtain ⟨hq, hm⟩ := hm
 refine op1 (call hS kr kr hb12 kr (fun _ _ => rfl) (k12 _ _ (⟨r136, []⟩ : Histtext_Case) a137 c138 none 0 hq h139 (RS.empty _ _ _)) ?_)
 intro v140 a w141 χ142 hE hp hS
 replace hO := hO.mv hE rfl rfl
 replace h129 := h129.mv hE rfl
 replace h132 := h132.mv hE rfl
 replace h139 := h139.mv hE rfl
 obtain ⟨r143, hr⟩ : ∃ r, shrink_Head (⟨r136, []⟩ : Histtext_Case) = r := ⟨_, rfl⟩
 replace hm := hm r143 hr
 rw [hr] at hp
 clear hr
 subst hp
 refine eP T hS ⟨[(2, B r118.1), (3, I r118.2), (4, I r122.1), (5, I r122.2), (6, Pt 7 0), (7, I r126.2), (9, I r143.2)], [(7, (33, [I r126.1.Object.States, I r126.1.Object.Kinds, I r126.1.Object.Init, Sl a127 r126.1.Object.Rows c128, Sl a130 r126.1.Events c131]))]⟩ fun a hS => ?_
 refine regO ?_
 refine op1 (call hS kr kr hb22 kr (fun _ _ => rfl) (k22 _ _) ?_)
 intro v144 a w145 χ146 hE hp hS
 replace hO := hO.mv hE rfl rfl
 replace h129 := h129.mv hE rfl
 replace h132 := h132.mv hE rfl
 obtain ⟨a148, c149, hp, h150⟩ := hp
 obtain ⟨r147, hr⟩ : ∃ r, law41_bad = r := ⟨_, rfl⟩
 replace hm := hm r147 hr
 rw [hr] at hp h150
 clear hr
 subst hp
 replace hm := hm (h150.sm kr)
 refine op1 (lit (E := 3) (col := 0) (T := tI) (vals := [.int .i64 1, .int .i64 2]) (ys := [1, 2]) T hS kr kr kr kr (by exact ⟨rfl, rfl, trivial⟩) rfl kr kr kr kr ?_)
 intro b151 a w152 χ153 hE h154 hN hS
 clear hN
 replace hO := hO.mv hE rfl rfl
 replace h129 := h129.mv hE rfl
 replace h132 := h132.mv hE rfl
 replace h150 := h150.mv hE rfl
 replace h154 := h154.rs0
 obtain ⟨hq, hm⟩ := hm
 refine op1 (call hS kr kr hb18 kr (fun _ _ => rfl) (k18 _ _ r147 [1, 2] a148 c149 (some ⟨b151, 0, none⟩) 2 hq h150 h154) ?_)
 intro v155 a w156 χ157 hE hp hS
 replace hO := hO.mv hE rfl rfl
 replace h129 := h129.mv hE rfl
 replace h132 := h132.mv hE rfl
 replace h150 := h150.mv hE rfl
 replace h154 := h154.mv hE rfl
 obtain ⟨a159, c160, hp, h161⟩ := hp
 obtain ⟨r158, hr⟩ : ∃ r, shrink_Without r147 [1, 2] = r := ⟨_, rfl⟩
 replace hm := hm r158 hr
 rw [hr] at hp h161
 clear hr
 subst hp
 replace hm := hm (h161.sm kr)
 refine eP T hS ⟨[(2, B r118.1), (3, I r118.2), (4, I r122.1), (5, I r122.2), (6, Pt 7 0), (7, I r126.2), (9, I r143.2), (10, Sl a159 r158 c160)], [(7, (33, [I r126.1.Object.States, I r126.1.Object.Kinds, I r126.1.Object.Init, Sl a127 r126.1.Object.Rows c128, Sl a130 r126.1.Events c131]))]⟩ fun a hS => ?_
 refine regO ?_
 refine oP T hS 1 ⟨[(2, B r118.1), (3, I r118.2), (4, I r122.1), (5, I r122.2), (6, Pt 7 0), (7, I r126.2), (9, I r143.2), (10, Sl a159 r158 c160), (41, V (.agg #[.int .i64 0, .int .i64 0, .int .i64 0, .slice none 0 0, .slice none 0 0]))], [(7, (33, [I r126.1.Object.States, I r126.1.Object.Kinds, I r126.1.Object.Init, Sl a127 r126.1.Object.Rows c128, Sl a130 r126.1.Events c131]))]⟩ fun a hS => ?_
 obtain ⟨hq, hm⟩ := hm
 refine op1 (call hS kr kr hb10 kr (fun _ _ => rfl) (k10 _ _ (⟨(⟨0, 0, 0, []⟩ : Api_Object), []⟩ : Histtext_Case) none 0 none 0 hq (RS.empty _ _ _) (RS.empty _ _ _)) ?_)
 intro v162 a w163 χ164 hE hp hS
 replace hO := hO.mv hE rfl rfl
 replace h129 := h129.mv hE rfl
 replace h132 := h132.mv hE rfl
 replace h161 := h161.mv hE rfl
 obtain ⟨r165, hr⟩ : ∃ r, shrink_Lin (⟨(⟨0, 0, 0, []⟩ : Api_Object), []⟩ : Histtext_Case) = r := ⟨_, rfl⟩
 replace hm := hm r165 hr
 rw [hr] at hp
 clear hr
 subst hp
 refine eP T hS ⟨[(2, B r118.1), (3, I r118.2), (4, I r122.1), (5, I r122.2), (6, Pt 7 0), (7, I r126.2), (9, I r143.2), (10, Sl a159 r158 c160), (12, I r165.2)], [(7, (33, [I r126.1.Object.States, I r126.1.Object.Kinds, I r126.1.Object.Init, Sl a127 r126.1.Object.Rows c128, Sl a130 r126.1.Events c131]))]⟩ fun a hS => ?_
 refine drawnSX [7] mixed hS ?_
 intro w166 χ167 hS hE hD hH
 replace hO := hO.mv hE rfl rfl
 replace h129 := h129.mv hE rfl
 replace h132 := h132.mv hE rfl
 replace h161 := h161.mv hE rfl
 refine take T [0, 1, 2] [7] [3, 4, 5, 6, 7, 9, 10, 12, 47] hS kr kr kr hH (listed' := #[true, true, true, false, false, false, false, false, false, false, false, false, false, false, false, false, false, false, false, false, false, false, false, false, false, false, false, false, false, false, false, false, false, false, false, false, false, false, false, false]) (fuel := 37) (sy' := ⟨[(3, I r118.2), (4, I r122.1), (5, I r122.2), (6, Pt 7 0), (7, I r126.2), (9, I r143.2), (10, Sl a159 r158 c160), (12, I r165.2), (47, B (!r118.1))], [(7, (33, [I r126.1.Object.States, I r126.1.Object.Kinds, I r126.1.Object.Init, Sl a127 r126.1.Object.Rows c128, Sl a130 r126.1.Events c131]))]⟩) (by as_aux_lemma => kernel_rfl) (by rfl) ?_
 intro a hS
 refine takeM (tc := 47) (b := (!r118.1)) (f := fun c => ⟨[(4, I r122.1), (5, I r122.2), (6, Pt 7 0), (7, I r126.2), (9, I r143.2), (10, Sl a159 r158 c160), (12, I r165.2), (50, B (c && (r118.2 == 0)))], [(7, (33, [I r126.1.Object.States, I r126.1.Object.Kinds, I r126.1.Object.Init, Sl a127 r126.1.Object.Rows c128, Sl a130 r126.1.Events c131]))]⟩) T [3, 4, 5] [7] [4, 5, 6, 7, 9, 10, 12, 50] hS kr kr kr kr hH (listed' := #[true, true, true, true, true, true, false, false, false, false, false, false, false, false, false, false, false, false, false, false, false, false, false, false, false, false, false, false, false, false, false, false, false, false, false, false, false, false, false, false]) (fuel := 34) kr kr (by rfl) ?_
 intro a hS
 refine take T [6] [7] [4, 5, 6, 7, 9, 10, 12, 51] hS kr kr kr hH (listed' := #[true, true, true, true, true, true, true, false, false, false, false, false, false, false, false, false, false, false, false, false, false, false, false, false, false, false, false, false, false, false, false, false, false, false, false, false, false, false, false, false]) (fuel := 33) (sy' := ⟨[(4, I r122.1), (5, I r122.2), (6, Pt 7 0), (7, I r126.2), (9, I r143.2), (10, Sl a159 r158 c160), (12, I r165.2), (51, B ((!r118.1) && (r118.2 == 0)))], [(7, (33, [I r126.1.Object.States, I r126.1.Object.Kinds, I r126.1.Object.Init, Sl a127 r126.1.Object.Rows c128, Sl a130 r126.1.Events c131]))]⟩) (by as_aux_lemma => kernel_rfl) (by rfl) ?_
 intro a hS
 refine takeM (tc := 51) (b := ((!r118.1) && (r118.2 == 0))) (f := fun c => ⟨[(5, I r122.2), (6, Pt 7 0), (7, I r126.2), (9, I r143.2), (10, Sl a159 r158 c160), (12, I r165.2), (54, B (c && (r122.1 == 3)))], [(7, (33, [I r126.1.Object.States, I r126.1.Object.Kinds, I r126.1.Object.Init, Sl a127 r126.1.Object.Rows c128, Sl a130 r126.1.Events c131]))]⟩) T [7, 8, 9] [7] [5, 6, 7, 9, 10, 12, 54] hS kr kr kr kr hH (listed' := #[true, true, true, true, true, true, true, true, true, true, false, false, false, false, false, false, false, false, false, false, false, false, false, false, false, false, false, false, false, false, false, false, false, false, false, false, false, false, false, false]) (fuel := 30) kr kr (by rfl) ?_
 intro a hS
 refine take T [10] [7] [5, 6, 7, 9, 10, 12, 55] hS kr kr kr hH (listed' := #[true, true, true, true, true, true, true, true, true, true, true, false, false, false, false, false, false, false, false, false, false, false, false, false, false, false, false, false, false, false, false, false, false, false, false, false, false, false, false, false]) (fuel := 29) (sy' := ⟨[(5, I r122.2), (6, Pt 7 0), (7, I r126.2), (9, I r143.2), (10, Sl a159 r158 c160), (12, I r165.2), (55, B (((!r118.1) && (r118.2 == 0)) && (r122.1 == 3)))], [(7, (33, [I r126.1.Object.States, I r126.1.Object.Kinds, I r126.1.Object.Init, Sl a127 r126.1.Object.Rows c128, Sl a130 r126.1.Events c131]))]⟩) (by as_aux_lemma => kernel_rfl) (by rfl) ?_
 intro a hS
 refine takeM (tc := 55) (b := (((!r118.1) && (r118.2 == 0)) && (r122.1 == 3))) (f := fun c => ⟨[(6, Pt 7 0), (7, I r126.2), (9, I r143.2), (10, Sl a159 r158 c160), (12, I r165.2), (58, B (c && (r122.2 == 0)))], [(7, (33, [I r126.1.Object.States, I r126.1.Object.Kinds, I r126.1.Object.Init, Sl a127 r126.1.Object.Rows c128, Sl a130 r126.1.Events c131]))]⟩) T [11, 12, 13] [7] [6, 7, 9, 10, 12, 58] hS kr kr kr kr hH (listed' := #[true, true, true, true, true, true, true, true, true, true, true, true, true, true, false, false, false, false, false, false, false, false, false, false, false, false, false, false, false, false, false, false, false, false, false, false, false, false, false, false]) (fuel := 26) kr kr (by rfl) ?_
 intro a hS
 refine take T [14] [7] [6, 7, 9, 10, 12, 59] hS kr kr kr hH (listed' := #[true, true, true, true, true, true, true, true, true, true, true, true, true, true, true, false, false, false, false, false, false, false, false, false, false, false, false, false, false, false, false, false, false, false, false, false, false, false, false, false]) (fuel := 25) (sy' := ⟨[(6, Pt 7 0), (7, I r126.2), (9, I r143.2), (10, Sl a159 r158 c160), (12, I r165.2), (59, B ((((!r118.1) && (r118.2 == 0)) && (r122.1 == 3)) && (r122.2 == 0)))], [(7, (33, [I r126.1.Object.States, I r126.1.Object.Kinds, I r126.1.Object.Init, Sl a127 r126.1.Object.Rows c128, Sl a130 r126.1.Events c131]))]⟩) (by as_aux_lemma => kernel_rfl) (by rfl) ?_
 intro a hS
 refine takeM (tc := 59) (b := ((((!r118.1) && (r118.2 == 0)) && (r122.1 == 3)) && (r122.2 == 0))) (f := fun c => ⟨[(6, Pt 7 0), (9, I r143.2), (10, Sl a159 r158 c160), (12, I r165.2), (62, B (c && (r126.2 == 0)))], [(7, (33, [I r126.1.Object.States, I r126.1.Object.Kinds, I r126.1.Object.Init, Sl a127 r126.1.Object.Rows c128, Sl a130 r126.1.Events c131]))]⟩) T [15, 16, 17] [7] [6, 9, 10, 12, 62] hS kr kr kr kr hH (listed' := #[true, true, true, true, true, true, true, true, true, true, true, true, true, true, true, true, true, true, false, false, false, false, false, false, false, false, false, false, false, false, false, false, false, false, false, false, false, false, false, false]) (fuel := 22) kr kr (by rfl) ?_
 intro a hS
 refine take T [18] [7] [6, 9, 10, 12, 63] hS kr kr kr hH (listed' := #[true, true, true, true, true, true, true, true, true, true, true, true, true, true, true, true, true, true, true, false, false, false, false, false, false, false, false, false, false, false, false, false, false, false, false, false, false, false, false, false]) (fuel := 21) (sy' := ⟨[(6, Pt 7 0), (9, I r143.2), (10, Sl a159 r158 c160), (12, I r165.2), (63, B (((((!r118.1) && (r118.2 == 0)) && (r122.1 == 3)) && (r122.2 == 0)) && (r126.2 == 0)))], [(7, (33, [I r126.1.Object.States, I r126.1.Object.Kinds, I r126.1.Object.Init, Sl a127 r126.1.Object.Rows c128, Sl a130 r126.1.Events c131]))]⟩) (by as_aux_lemma => kernel_rfl) (by rfl) ?_
 intro a hS
 rcases Bool.eq_false_or_eq_true (((((!r118.1) && (r118.2 == 0)) && (r122.1 == 3)) && (r122.2 == 0)) && (r126.2 == 0)) with hb | hb
 ·replace hS := hS.lit (t := 63) kr hb
  replace hm := hm.1 hb
  refine take T [19, 20] [7] [9, 10, 12, 63, 65] hS kr kr kr hH (listed' := #[true, true, true, true, true, true, true, true, true, true, true, true, true, true, true, true, true, true, true, true, true, false, false, false, false, false, false, false, false, false, false, false, false, false, false, false, false, false, false, false]) (fuel := 19) (sy' := ⟨[(9, I r143.2), (10, Sl a159 r158 c160), (12, I r165.2), (63, B true), (65, Sl a130 r126.1.Events c131)], [(7, (33, [I r126.1.Object.States, I r126.1.Object.Kinds, I r126.1.Object.Init, Sl a127 r126.1.Object.Rows c128, Sl a130 r126.1.Events c131]))]⟩) (by as_aux_lemma => kernel_rfl) (by rfl) ?_
  intro a hS
  refine only 21 kr (by rfl) (call hS kr kr hb22 kr (fun _ _ => rfl) (k22 _ _) ?_)
  intro v168 a w169 χ170 hE hp hS
  replace hO := hO.mv hE rfl rfl
  replace hD := hD.ev hE rfl
  replace h129 := h129.mv hE rfl
  replace h132 := h132.mv hE rfl
  replace h161 := h161.mv hE rfl
  obtain ⟨a172, c173, hp, h174⟩ := hp
  obtain ⟨r171, hr⟩ : ∃ r, law41_bad = r := ⟨_, rfl⟩
  replace hm := hm r171 hr
  rw [hr] at hp h174
  clear hr
  subst hp
  replace hm := hm (h174.sm kr)
  replace hS := hS.sl ⟨[(9, I r143.2), (10, Sl a159 r158 c160), (12, I r165.2), (63, B true), (65, Sl a130 r126.1.Events c131), (66, Sl a172 r171 c173)], [(7, (33, [I r126.1.Object.States, I r126.1.Object.Kinds, I r126.1.Object.Init, Sl a127 r126.1.Object.Rows c128, Sl a130 r126.1.Events c131]))]⟩
  refine andH (Hold.of hS (bks := [7]) kr hD) ?_
  intro hH
  obtain ⟨hq, hm⟩ := hm
  refine dslice2 (E := 54) (kl := .i64) (kh := .i64) T 22 hS kr kr kr (by rfl) kr hH kr kr kr h174 kr kr hq.1 hq.2.1 hq.2.2 ?_
  intro a175 c176 a h177 hS
  refine only 23 kr (by rfl) (call hS kr kr hb16 kr (fun _ _ => rfl) (k16 _ _ r126.1.Events ((r171.take (3 : Int).toNat).drop (1 : Int).toNat) a130 c131 a175 c176 h132 h177) ?_)
  intro v178 a w179 χ180 hE hp hS
  replace hO := hO.mv hE rfl rfl
  replace hD := hD.ev hE rfl
  replace h129 := h129.mv hE rfl
  replace h132 := h132.mv hE rfl
  replace h161 := h161.mv hE rfl
  replace h174 := h174.mv hE rfl
  replace h177 := h177.mv hE rfl
  obtain ⟨r181, hr⟩ : ∃ r, ref25_Same r126.1.Events ((r171.take (3 : Int).toNat).drop (1 : Int).toNat) = r := ⟨_, rfl⟩
  replace hm := hm r181 hr
  rw [hr] at hp
  clear hr
  subst hp
  replace hS := hS.sl ⟨[(9, I r143.2), (10, Sl a159 r158 c160), (12, I r165.2), (63, B true), (65, Sl a130 r126.1.Events c131), (66, Sl a172 r171 c173), (67, Sl a175 ((r171.take (3 : Int).toNat).drop (1 : Int).toNat) c176), (68, B r181)], [(7, (33, [I r126.1.Object.States, I r126.1.Object.Kinds, I r126.1.Object.Init, Sl a127 r126.1.Object.Rows c128, Sl a130 r126.1.Events c131]))]⟩
  refine andH (Hold.of hS (bks := [7]) kr hD) ?_
  intro hH
  refine take T [24, 25] [7] [9, 10, 12, 70] hS kr kr kr hH (listed' := #[true, true, true, true, true, true, true, true, true, true, true, true, true, true, true, true, true, true, true, true, true, true, true, true, true, true, false, false, false, false, false, false, false, false, false, false, false, false, false, false]) (fuel := 14) (sy' := ⟨[(9, I r143.2), (10, Sl a159 r158 c160), (12, I r165.2), (70, B r181)], [(7, (33, [I r126.1.Object.States, I r126.1.Object.Kinds, I r126.1.Object.Init, Sl a127 r126.1.Object.Rows c128, Sl a130 r126.1.Events c131]))]⟩) (by as_aux_lemma => kernel_rfl) (by rfl) ?_
  intro a hS
  refine takeM (tc := 70) (b := r181) (f := fun c => ⟨[(10, Sl a159 r158 c160), (12, I r165.2), (73, B (c && (r143.2 == 41)))], [(7, (33, [I r126.1.Object.States, I r126.1.Object.Kinds, I r126.1.Object.Init, Sl a127 r126.1.Object.Rows c128, Sl a130 r126.1.Events c131]))]⟩) T [26, 27, 28] [7] [10, 12, 73] hS kr kr kr kr hH (listed' := #[true, true, true, true, true, true, true, true, true, true, true, true, true, true, true, true, true, true, true, true, true, true, true, true, true, true, true, true, true, false, false, false, false, false, false, false, false, false, false, false]) (fuel := 11) kr kr (by rfl) ?_
  intro a hS
  refine take T [29] [7] [10, 12, 74] hS kr kr kr hH (listed' := #[true, true, true, true, true, true, true, true, true, true, true, true, true, true, true, true, true, true, true, true, true, true, true, true, true, true, true, true, true, true, false, false, false, false, false, false, false, false, false, false]) (fuel := 10) (sy' := ⟨[(10, Sl a159 r158 c160), (12, I r165.2), (74, B (r181 && (r143.2 == 41)))], [(7, (33, [I r126.1.Object.States, I r126.1.Object.Kinds, I r126.1.Object.Init, Sl a127 r126.1.Object.Rows c128, Sl a130 r126.1.Events c131]))]⟩) (by as_aux_lemma => kernel_rfl) (by rfl) ?_
  intro a hS
  rcases Bool.eq_false_or_eq_true (r181 && (r143.2 == 41)) with hb | hb
  ·replace hS := hS.lit (t := 74) kr hb
   replace hm := hm.1 hb
   refine take T [30] [7] [12, 74, 75] hS kr kr kr hH (listed' := #[true, true, true, true, true, true, true, true, true, true, true, true, true, true, true, true, true, true, true, true, true, true, true, true, true, true, true, true, true, true, true, false, false, false, false, false, false, false, false, false]) (fuel := 9) (sy' := ⟨[(12, I r165.2), (74, B true), (75, Sl a159 r158 c160)], [(7, (33, [I r126.1.Object.States, I r126.1.Object.Kinds, I r126.1.Object.Init, Sl a127 r126.1.Object.Rows c128, Sl a130 r126.1.Events c131]))]⟩) (by as_aux_lemma => kernel_rfl) (by rfl) ?_
   intro a hS
   refine only 31 kr (by rfl) (call hS kr kr hb22 kr (fun _ _ => rfl) (k22 _ _) ?_)
   intro v182 a w183 χ184 hE hp hS
   replace hO := hO.mv hE rfl rfl
   replace hD := hD.ev hE rfl
   replace h129 := h129.mv hE rfl
   replace h132 := h132.mv hE rfl
   replace h161 := h161.mv hE rfl
   replace h174 := h174.mv hE rfl
   replace h177 := h177.mv hE rfl
   obtain ⟨a186, c187, hp, h188⟩ := hp
   obtain ⟨r185, hr⟩ : ∃ r, law41_bad = r := ⟨_, rfl⟩
   replace hm := hm r185 hr
   rw [hr] at hp h188
   clear hr
   subst hp
   replace hm := hm (h188.sm kr)
   replace hS := hS.sl ⟨[(12, I r165.2), (74, B true), (75, Sl a159 r158 c160), (76, Sl a186 r185 c187)], [(7, (33, [I r126.1.Object.States, I r126.1.Object.Kinds, I r126.1.Object.Init, Sl a127 r126.1.Object.Rows c128, Sl a130 r126.1.Events c131]))]⟩
   refine andH (Hold.of hS (bks := [7]) kr hD) ?_
   intro hH
   obtain ⟨hq, hm⟩ := hm
   refine dslice0 (E := 54) (kh := .i64) T 32 hS kr kr kr (by rfl) kr hH kr kr h188 kr kr hq.1 hq.2 ?_
   intro a189 c190 a h191 hS
   refine only 33 kr (by rfl) (call hS kr kr hb16 kr (fun _ _ => rfl) (k16 _ _ r158 (r185.take (1 : Int).toNat) a159 c160 a189 c190 h161 h191) ?_)
   intro v192 a w193 χ194 hE hp hS
   replace hO := hO.mv hE rfl rfl
   replace hD := hD.ev hE rfl
   replace h129 := h129.mv hE rfl
   replace h132 := h132.mv hE rfl
   replace h161 := h161.mv hE rfl
   replace h174 := h174.mv hE rfl
   replace h177 := h177.mv hE rfl
   replace h188 := h188.mv hE rfl
   replace h191 := h191.mv hE rfl
   obtain ⟨r195, hr⟩ : ∃ r, ref25_Same r158 (r185.take (1 : Int).toNat) = r := ⟨_, rfl⟩
   replace hm := hm r195 hr
   rw [hr] at hp
   clear hr
   subst hp
   replace hS := hS.sl ⟨[(12, I r165.2), (74, B true), (75, Sl a159 r158 c160), (76, Sl a186 r185 c187), (77, Sl a189 (r185.take (1 : Int).toNat) c190), (78, B r195)], [(7, (33, [I r126.1.Object.States, I r126.1.Object.Kinds, I r126.1.Object.Init, Sl a127 r126.1.Object.Rows c128, Sl a130 r126.1.Events c131]))]⟩
   refine andH (Hold.of hS (bks := [7]) kr hD) ?_
   intro hH
   refine take T [34, 35] [7] [12, 80] hS kr kr kr hH (listed' := #[true, true, true, true, true, true, true, true, true, true, true, true, true, true, true, true, true, true, true, true, true, true, true, true, true, true, true, true, true, true, true, true, true, true, true, true, false, false, false, false]) (fuel := 4) (sy' := ⟨[(12, I r165.2), (80, B r195)], [(7, (33, [I r126.1.Object.States, I r126.1.Object.Kinds, I r126.1.Object.Init, Sl a127 r126.1.Object.Rows c128, Sl a130 r126.1.Events c131]))]⟩) (by as_aux_lemma => kernel_rfl) (by rfl) ?_
   intro a hS
   refine takeM (tc := 80) (b := r195) (f := fun c => ⟨[(83, B (c && (r165.2 == 2)))], [(7, (33, [I r126.1.Object.States, I r126.1.Object.Kinds, I r126.1.Object.Init, Sl a127 r126.1.Object.Rows c128, Sl a130 r126.1.Events c131]))]⟩) T [36, 37, 38] [7] [83] hS kr kr kr kr hH (listed' := #[true, true, true, true, true, true, true, true, true, true, true, true, true, true, true, true, true, true, true, true, true, true, true, true, true, true, true, true, true, true, true, true, true, true, true, true, true, true, true, false]) (fuel := 1) kr kr (by rfl) ?_
   intro a hS
   refine take T [39] [7] [0] hS kr kr kr hH (listed' := #[true, true, true, true, true, true, true, true, true, true, true, true, true, true, true, true, true, true, true, true, true, true, true, true, true, true, true, true, true, true, true, true, true, true, true, true, true, true, true, true]) (fuel := 0) (sy' := ⟨[(0, B (r195 && (r165.2 == 2)))], [(7, (33, [I r126.1.Object.States, I r126.1.Object.Kinds, I r126.1.Object.Init, Sl a127 r126.1.Object.Rows c128, Sl a130 r126.1.Events c131]))]⟩) (by as_aux_lemma => kernel_rfl) (by rfl) ?_
   intro a hS
   refine drawnDone kr ?_
   clear hD hH
   replace hS := hS.sl ⟨[(0, B (r195 && (r165.2 == 2)))], []⟩
   refine wret ?_
   exact fin T hS hO (fun c => c) rfl (r := [.bool (r195 && (r165.2 == 2))]) kr (fun χ' hM hC => ⟨(r195 && (r165.2 == 2)), hm, rfl⟩)
  replace hS := hS.lit (t := 74) kr hb
  replace hm := hm.2 hb
  refine take T [30, 31, 32, 33, 34, 35, 36, 37, 38, 39] [7] [0] hS kr kr kr hH (listed' := #[true, true, true, true, true, true, true, true, true, true, true, true, true, true, true, true, true, true, true, true, true, true, true, true, true, true, true, true, true, true, true, true, true, true, true, true, true, true, true, true]) (fuel := 0) (sy' := ⟨[(0, B false)], [(7, (33, [I r126.1.Object.States, I r126.1.Object.Kinds, I r126.1.Object.Init, Sl a127 r126.1.Object.Rows c128, Sl a130 r126.1.Events c131]))]⟩) (by as_aux_lemma => kernel_rfl) (by rfl) ?_
  intro a hS
  refine drawnDone kr ?_
  clear hD hH
  replace hS := hS.sl ⟨[(0, B false)], []⟩
  refine wret ?_
  exact fin T hS hO (fun c => c) rfl (r := [.bool false]) kr (fun χ' hM hC => ⟨false, hm, rfl⟩)
 replace hS := hS.lit (t := 63) kr hb
 replace hm := hm.2 hb
 refine take T [19, 21, 20, 22, 23, 24, 25, 26, 27, 28, 29, 30, 31, 32, 33, 34, 35, 36, 37, 38, 39] [7] [0] hS kr kr kr hH (listed' := #[true, true, true, true, true, true, true, true, true, true, true, true, true, true, true, true, true, true, true, true, true, true, true, true, true, true, true, true, true, true, true, true, true, true, true, true, true, true, true, true]) (fuel := 0) (sy' := ⟨[(0, B false)], [(7, (33, [I r126.1.Object.States, I r126.1.Object.Kinds, I r126.1.Object.Init, Sl a127 r126.1.Object.Rows c128, Sl a130 r126.1.Events c131]))]⟩) (by as_aux_lemma => kernel_rfl) (by rfl) ?_
 intro a hS
 refine drawnDone kr ?_
 clear hD hH
 replace hS := hS.sl ⟨[(0, B false)], []⟩
 refine wret ?_
 exact fin T hS hO (fun c => c) rfl (r := [.bool false]) kr (fun χ' hM hC => ⟨false, hm, rfl⟩)
theorem C8 (k10 : S10) (k12 : S12) (k14 : S14) (k16 : S16) (k18 : S18) (k21 : S21) (k22 : S22) (v : ∀ (_ : Unit), VC8 (fun r => r = law41_awake)) : S8 := by
 intro w χ     
 refine (W8 k10 k12 k14 k16 k18 k21 k22 w χ     _ (v ())).mono ?_
 rintro _ _ _ _ ⟨r, rfl, h⟩
 exact h
end Go.Proofs.Ytojdelnnjhbgbaa
