/- Walks: each function returns what its condition asks. Condition: the contracts of its callees, handed in. -/
import Derived.Test.YtomodhnocjmfpaaQWalksS
set_option linter.all false
namespace Go.Proofs.Ytomodhnocjmfpaa
open Go Go.Sv
set_option maxHeartbeats 1000000
/-- replevin/replevinlaw30.awake -/
theorem W7 (k10 : S10) (k14 : S14) (k16 : S16) (k17 : S17) (k18 : S18) (k8 : S8) (k9 : S9) (w0 : World) (χ0 : Nat → Nat) (Q : Bool → Prop) (hm : VC7 Q) :
  Ret Try.prog 7 #[] xnone w0 χ0 (fun w χ' v => ∃ r, Q r ∧ v = .bool r) := by
 unfold VC7 at hm
 refine enter Try.func7 rfl (vals := []) kr ?_
 intro ρ a hS hO hM
 clear hM
 refine rP T hS ⟨[], []⟩ fun a hS => ?_
 refine regO ?_
 refine op1 (call hS kr kr hb16 kr (fun _ _ => rfl) (k16 _ _) ?_)
 intro v101 a w102 χ103 hE hp hS
 replace hO := hO.mv hE rfl rfl
 clear hE
 obtain ⟨a105, c106, hp, h107⟩ := hp
 obtain ⟨r104, hr⟩ : ∃ r, law30_flag = r := ⟨_, rfl⟩
 replace hm := hm r104 hr
 rw [hr] at hp h107
 clear hr
 subst hp
 replace hm := hm (h107.sm kr)
 refine op1 (call hS kr kr hb17 kr (fun _ _ => rfl) (k17 _ _ 0 1) ?_)
 intro v108 a w109 χ110 hE hp hS
 replace hO := hO.mv hE rfl rfl
 replace h107 := h107.mv hE rfl
 clear hE
 obtain ⟨a112, c113, hp, h114⟩ := hp
 obtain ⟨r111, hr⟩ : ∃ r, law30_ops 0 1 = r := ⟨_, rfl⟩
 replace hm := hm r111 hr
 rw [hr] at hp h114
 clear hr
 subst hp
 replace hm := hm (h114.sm kr)
 obtain ⟨hq, hm⟩ := hm
 refine op1 (call hS kr kr hb8 kr (fun _ _ => rfl) (k8 _ _ r104 r111 a105 c106 a112 c113 hq h107 h114) ?_)
 intro v115 a w116 χ117 hE hp hS
 clear hq
 replace hO := hO.mv hE rfl rfl
 replace h107 := h107.mv hE rfl
 replace h114 := h114.mv hE rfl
 clear hE
 obtain ⟨a119, c120, hp, h121⟩ := hp
 obtain ⟨r118, hr⟩ : ∃ r, search_Search r104 r111 = r := ⟨_, rfl⟩
 replace hm := hm r118 hr
 rw [hr] at hp h121
 clear hr
 subst hp
 replace hm := hm (h121.sm kr)
 refine eP T hS ⟨[(1, Sl a119 r118.1 c120), (2, I r118.2)], []⟩ fun a hS => ?_
 refine regO ?_
 refine op1 (call hS kr kr hb16 kr (fun _ _ => rfl) (k16 _ _) ?_)
 intro v122 a w123 χ124 hE hp hS
 replace hO := hO.mv hE rfl rfl
 replace h121 := h121.mv hE rfl
 clear hE
 obtain ⟨a126, c127, hp, h128⟩ := hp
 obtain ⟨r125, hr⟩ : ∃ r, law30_flag = r := ⟨_, rfl⟩
 replace hm := hm r125 hr
 rw [hr] at hp h128
 clear hr
 subst hp
 replace hm := hm (h128.sm kr)
 refine op1 (call hS kr kr hb17 kr (fun _ _ => rfl) (k17 _ _ 1 1) ?_)
 intro v129 a w130 χ131 hE hp hS
 replace hO := hO.mv hE rfl rfl
 replace h121 := h121.mv hE rfl
 replace h128 := h128.mv hE rfl
 clear hE
 obtain ⟨a133, c134, hp, h135⟩ := hp
 obtain ⟨r132, hr⟩ : ∃ r, law30_ops 1 1 = r := ⟨_, rfl⟩
 replace hm := hm r132 hr
 rw [hr] at hp h135
 clear hr
 subst hp
 replace hm := hm (h135.sm kr)
 obtain ⟨hq, hm⟩ := hm
 refine op1 (call hS kr kr hb8 kr (fun _ _ => rfl) (k8 _ _ r125 r132 a126 c127 a133 c134 hq h128 h135) ?_)
 intro v136 a w137 χ138 hE hp hS
 clear hq
 replace hO := hO.mv hE rfl rfl
 replace h121 := h121.mv hE rfl
 replace h128 := h128.mv hE rfl
 replace h135 := h135.mv hE rfl
 clear hE
 obtain ⟨a140, c141, hp, h142⟩ := hp
 obtain ⟨r139, hr⟩ : ∃ r, search_Search r125 r132 = r := ⟨_, rfl⟩
 replace hm := hm r139 hr
 rw [hr] at hp h142
 clear hr
 subst hp
 replace hm := hm (h142.sm kr)
 refine eP T hS ⟨[(1, Sl a119 r118.1 c120), (2, I r118.2), (3, Sl a140 r139.1 c141), (4, I r139.2)], []⟩ fun a hS => ?_
 refine regO ?_
 refine op1 (call hS kr kr hb16 kr (fun _ _ => rfl) (k16 _ _) ?_)
 intro v143 a w144 χ145 hE hp hS
 replace hO := hO.mv hE rfl rfl
 replace h121 := h121.mv hE rfl
 replace h142 := h142.mv hE rfl
 clear hE
 obtain ⟨a147, c148, hp, h149⟩ := hp
 obtain ⟨r146, hr⟩ : ∃ r, law30_flag = r := ⟨_, rfl⟩
 replace hm := hm r146 hr
 rw [hr] at hp h149
 clear hr
 subst hp
 replace hm := hm (h149.sm kr)
 refine op1 (call hS kr kr hb17 kr (fun _ _ => rfl) (k17 _ _ 1 0) ?_)
 intro v150 a w151 χ152 hE hp hS
 replace hO := hO.mv hE rfl rfl
 replace h121 := h121.mv hE rfl
 replace h142 := h142.mv hE rfl
 replace h149 := h149.mv hE rfl
 clear hE
 obtain ⟨a154, c155, hp, h156⟩ := hp
 obtain ⟨r153, hr⟩ : ∃ r, law30_ops 1 0 = r := ⟨_, rfl⟩
 replace hm := hm r153 hr
 rw [hr] at hp h156
 clear hr
 subst hp
 replace hm := hm (h156.sm kr)
 obtain ⟨hq, hm⟩ := hm
 refine op1 (call hS kr kr hb8 kr (fun _ _ => rfl) (k8 _ _ r146 r153 a147 c148 a154 c155 hq h149 h156) ?_)
 intro v157 a w158 χ159 hE hp hS
 clear hq
 replace hO := hO.mv hE rfl rfl
 replace h121 := h121.mv hE rfl
 replace h142 := h142.mv hE rfl
 replace h149 := h149.mv hE rfl
 replace h156 := h156.mv hE rfl
 clear hE
 obtain ⟨a161, c162, hp, h163⟩ := hp
 obtain ⟨r160, hr⟩ : ∃ r, search_Search r146 r153 = r := ⟨_, rfl⟩
 replace hm := hm r160 hr
 rw [hr] at hp h163
 clear hr
 subst hp
 replace hm := hm (h163.sm kr)
 refine eP T hS ⟨[(1, Sl a119 r118.1 c120), (2, I r118.2), (3, Sl a140 r139.1 c141), (4, I r139.2), (6, I r160.2)], []⟩ fun a hS => ?_
 refine regO ?_
 refine op1 (call hS kr kr hb16 kr (fun _ _ => rfl) (k16 _ _) ?_)
 intro v164 a w165 χ166 hE hp hS
 replace hO := hO.mv hE rfl rfl
 replace h121 := h121.mv hE rfl
 replace h142 := h142.mv hE rfl
 clear hE
 obtain ⟨a168, c169, hp, h170⟩ := hp
 obtain ⟨r167, hr⟩ : ∃ r, law30_flag = r := ⟨_, rfl⟩
 replace hm := hm r167 hr
 rw [hr] at hp h170
 clear hr
 subst hp
 replace hm := hm (h170.sm kr)
 refine op1 (call hS kr kr hb17 kr (fun _ _ => rfl) (k17 _ _ 1 0) ?_)
 intro v171 a w172 χ173 hE hp hS
 replace hO := hO.mv hE rfl rfl
 replace h121 := h121.mv hE rfl
 replace h142 := h142.mv hE rfl
 replace h170 := h170.mv hE rfl
 clear hE
 obtain ⟨a175, c176, hp, h177⟩ := hp
 obtain ⟨r174, hr⟩ : ∃ r, law30_ops 1 0 = r := ⟨_, rfl⟩
 replace hm := hm r174 hr
 rw [hr] at hp h177
 clear hr
 subst hp
 replace hm := hm (h177.sm kr)
 obtain ⟨hq, hm⟩ := hm
 refine op1 (call hS kr kr hb9 kr (fun _ _ => rfl) (k9 _ _ r167 r174 a168 c169 a175 c176 hq h170 h177) ?_)
 intro v178 a w179 χ180 hE hp hS
 clear hq
 replace hO := hO.mv hE rfl rfl
 replace h121 := h121.mv hE rfl
 replace h142 := h142.mv hE rfl
 replace h170 := h170.mv hE rfl
 replace h177 := h177.mv hE rfl
 clear hE
 obtain ⟨r181, hr⟩ : ∃ r, search_Lin r167 r174 = r := ⟨_, rfl⟩
 replace hm := hm r181 hr
 rw [hr] at hp
 clear hr
 subst hp
 refine eP T hS ⟨[(1, Sl a119 r118.1 c120), (2, I r118.2), (3, Sl a140 r139.1 c141), (4, I r139.2), (6, I r160.2), (7, B r181.1), (8, I r181.2)], []⟩ fun a hS => ?_
 refine regO ?_
 refine op1 (call hS kr kr hb16 kr (fun _ _ => rfl) (k16 _ _) ?_)
 intro v182 a w183 χ184 hE hp hS
 replace hO := hO.mv hE rfl rfl
 replace h121 := h121.mv hE rfl
 replace h142 := h142.mv hE rfl
 clear hE
 obtain ⟨a186, c187, hp, h188⟩ := hp
 obtain ⟨r185, hr⟩ : ∃ r, law30_flag = r := ⟨_, rfl⟩
 replace hm := hm r185 hr
 rw [hr] at hp h188
 clear hr
 subst hp
 replace hm := hm (h188.sm kr)
 refine op1 (call hS kr kr hb17 kr (fun _ _ => rfl) (k17 _ _ 1 1) ?_)
 intro v189 a w190 χ191 hE hp hS
 replace hO := hO.mv hE rfl rfl
 replace h121 := h121.mv hE rfl
 replace h142 := h142.mv hE rfl
 replace h188 := h188.mv hE rfl
 clear hE
 obtain ⟨a193, c194, hp, h195⟩ := hp
 obtain ⟨r192, hr⟩ : ∃ r, law30_ops 1 1 = r := ⟨_, rfl⟩
 replace hm := hm r192 hr
 rw [hr] at hp h195
 clear hr
 subst hp
 replace hm := hm (h195.sm kr)
 obtain ⟨hq, hm⟩ := hm
 refine op1 (call hS kr kr hb10 kr (fun _ _ => rfl) (k10 _ _ r185 r192 a186 c187 a193 c194 hq h188 h195) ?_)
 intro v196 a w197 χ198 hE hp hS
 clear hq
 replace hO := hO.mv hE rfl rfl
 replace h121 := h121.mv hE rfl
 replace h142 := h142.mv hE rfl
 replace h188 := h188.mv hE rfl
 replace h195 := h195.mv hE rfl
 clear hE
 obtain ⟨r199, hr⟩ : ∃ r, search_Count r185 r192 = r := ⟨_, rfl⟩
 replace hm := hm r199 hr
 rw [hr] at hp
 clear hr
 subst hp
 refine eP T hS ⟨[(1, Sl a119 r118.1 c120), (2, I r118.2), (3, Sl a140 r139.1 c141), (4, I r139.2), (6, I r160.2), (7, B r181.1), (8, I r181.2), (9, I r199.1), (10, I r199.2)], []⟩ fun a hS => ?_
 refine regO ?_
 refine oP T hS 1 ⟨[(1, Sl a119 r118.1 c120), (2, I r118.2), (3, Sl a140 r139.1 c141), (4, I r139.2), (6, I r160.2), (7, B r181.1), (8, I r181.2), (9, I r199.1), (10, I r199.2), (47, V (.agg #[.int .i64 0, .int .i64 0, .int .i64 0, .slice none 0 0]))], []⟩ fun a hS => ?_
 obtain ⟨hq, hm⟩ := hm
 refine op1 (call hS kr kr hb9 kr (fun _ _ => rfl) (k9 _ _ (⟨0, 0, 0, []⟩ : Api_Object) [] none 0 none 0 hq (RS.empty _ _ _) (RS.empty _ _ _)) ?_)
 intro v200 a w201 χ202 hE hp hS
 clear hq
 replace hO := hO.mv hE rfl rfl
 replace h121 := h121.mv hE rfl
 replace h142 := h142.mv hE rfl
 clear hE
 obtain ⟨r203, hr⟩ : ∃ r, search_Lin (⟨0, 0, 0, []⟩ : Api_Object) [] = r := ⟨_, rfl⟩
 replace hm := hm r203 hr
 rw [hr] at hp
 clear hr
 subst hp
 refine eP T hS ⟨[(1, Sl a119 r118.1 c120), (2, I r118.2), (3, Sl a140 r139.1 c141), (4, I r139.2), (6, I r160.2), (7, B r181.1), (8, I r181.2), (9, I r199.1), (10, I r199.2), (12, I r203.2)], []⟩ fun a hS => ?_
 refine regO ?_
 refine op1 (call hS kr kr hb16 kr (fun _ _ => rfl) (k16 _ _) ?_)
 intro v204 a w205 χ206 hE hp hS
 replace hO := hO.mv hE rfl rfl
 replace h121 := h121.mv hE rfl
 replace h142 := h142.mv hE rfl
 clear hE
 obtain ⟨a208, c209, hp, h210⟩ := hp
 obtain ⟨r207, hr⟩ : ∃ r, law30_flag = r := ⟨_, rfl⟩
 replace hm := hm r207 hr
 rw [hr] at hp h210
 clear hr
 subst hp
 replace hm := hm (h210.sm kr)
 obtain ⟨hq, hm⟩ := hm
 refine op1 (call hS kr kr hb10 kr (fun _ _ => rfl) (k10 _ _ r207 [] a208 c209 none 0 hq h210 (RS.empty _ _ _)) ?_)
 intro v211 a w212 χ213 hE hp hS
 clear hq
 replace hO := hO.mv hE rfl rfl
 replace h121 := h121.mv hE rfl
 replace h142 := h142.mv hE rfl
 replace h210 := h210.mv hE rfl
 clear hE
 obtain ⟨r214, hr⟩ : ∃ r, search_Count r207 [] = r := ⟨_, rfl⟩
 replace hm := hm r214 hr
 rw [hr] at hp
 clear hr
 subst hp
 refine eP T hS ⟨[(1, Sl a119 r118.1 c120), (2, I r118.2), (3, Sl a140 r139.1 c141), (4, I r139.2), (6, I r160.2), (7, B r181.1), (8, I r181.2), (9, I r199.1), (10, I r199.2), (12, I r203.2), (13, I r214.1), (14, I r214.2)], []⟩ fun a hS => ?_
 refine regO ?_
 refine op1 (call hS kr kr hb16 kr (fun _ _ => rfl) (k16 _ _) ?_)
 intro v215 a w216 χ217 hE hp hS
 replace hO := hO.mv hE rfl rfl
 replace h121 := h121.mv hE rfl
 replace h142 := h142.mv hE rfl
 clear hE
 obtain ⟨a219, c220, hp, h221⟩ := hp
 obtain ⟨r218, hr⟩ : ∃ r, law30_flag = r := ⟨_, rfl⟩
 replace hm := hm r218 hr
 rw [hr] at hp h221
 clear hr
 subst hp
 replace hm := hm (h221.sm kr)
 refine op1 (call hS kr kr hb17 kr (fun _ _ => rfl) (k17 _ _ 0 1) ?_)
 intro v222 a w223 χ224 hE hp hS
 replace hO := hO.mv hE rfl rfl
 replace h121 := h121.mv hE rfl
 replace h142 := h142.mv hE rfl
 replace h221 := h221.mv hE rfl
 clear hE
 obtain ⟨a226, c227, hp, h228⟩ := hp
 obtain ⟨r225, hr⟩ : ∃ r, law30_ops 0 1 = r := ⟨_, rfl⟩
 replace hm := hm r225 hr
 rw [hr] at hp h228
 clear hr
 subst hp
 replace hm := hm (h228.sm kr)
 obtain ⟨hq, hm⟩ := hm
 refine op1 (call hS kr kr hb18 kr (fun _ _ => rfl) (k18 _ _ r218 r225 0 [] a219 c220 a226 c227 none 0 0 hq h221 h228 (RS.empty _ _ _)) ?_)
 intro v229 a w230 χ231 hE hp hS
 clear hq
 replace hO := hO.mv hE rfl rfl
 replace h121 := h121.mv hE rfl
 replace h142 := h142.mv hE rfl
 replace h221 := h221.mv hE rfl
 replace h228 := h228.mv hE rfl
 clear hE
 obtain ⟨a233, c234, hp, h235⟩ := hp
 obtain ⟨r232, hr⟩ : ∃ r, search_Next r218 r225 0 [] = r := ⟨_, rfl⟩
 replace hm := hm r232 hr
 rw [hr] at hp h235
 clear hr
 subst hp
 replace h235 := h235.rs0
 replace hm := hm (h235.sm kr)
 refine eP T hS ⟨[(1, Sl a119 r118.1 c120), (2, I r118.2), (3, Sl a140 r139.1 c141), (4, I r139.2), (6, I r160.2), (7, B r181.1), (8, I r181.2), (9, I r199.1), (10, I r199.2), (12, I r203.2), (13, I r214.1), (14, I r214.2), (15, Sl a233 r232 c234)], []⟩ fun a hS => ?_
 refine regO ?_
 refine oP T hS 4 ⟨[(2, I r118.2), (3, Sl a140 r139.1 c141), (4, I r139.2), (6, I r160.2), (7, B r181.1), (8, I r181.2), (9, I r199.1), (10, I r199.2), (12, I r203.2), (13, I r214.1), (14, I r214.2), (15, Sl a233 r232 c234), (59, Sl a119 r118.1 c120), (60, V (.agg #[.int .i64 1, .int .i64 0])), (61, V (.agg #[.int .i64 0, .int .i64 0])), (62, V (.agg #[.int .i64 2, .int .i64 1]))], []⟩ fun a hS => ?_
 refine op1 (lit (E := 51) (col := 0) (T := tApi_Pick) (vals := [.agg #[.int .i64 1, .int .i64 0], .agg #[.int .i64 0, .int .i64 0], .agg #[.int .i64 2, .int .i64 1]]) (ys := [(⟨1, 0⟩ : Api_Pick), (⟨0, 0⟩ : Api_Pick), (⟨2, 1⟩ : Api_Pick)]) T hS kr kr kr kr (by exact ⟨rfl, rfl, rfl, trivial⟩) rfl kr kr kr kr ?_)
 intro b236 a w237 χ238 hE h239 hN hS
 clear hN
 replace hO := hO.mv hE rfl rfl
 replace h121 := h121.mv hE rfl
 replace h142 := h142.mv hE rfl
 replace h235 := h235.mv hE rfl
 clear hE
 replace h239 := h239.rs0
 refine op1 (call hS kr kr hb14 kr (fun _ _ => rfl) (k14 _ _ r118.1 [(⟨1, 0⟩ : Api_Pick), (⟨0, 0⟩ : Api_Pick), (⟨2, 1⟩ : Api_Pick)] a119 c120 (some ⟨b236, 0, none⟩) 3 h121 h239) ?_)
 intro v240 a w241 χ242 hE hp hS
 replace hO := hO.mv hE rfl rfl
 replace h121 := h121.mv hE rfl
 replace h142 := h142.mv hE rfl
 replace h235 := h235.mv hE rfl
 replace h239 := h239.mv hE rfl
 clear hE
 obtain ⟨r243, hr⟩ : ∃ r, ref28_Same r118.1 [(⟨1, 0⟩ : Api_Pick), (⟨0, 0⟩ : Api_Pick), (⟨2, 1⟩ : Api_Pick)] = r := ⟨_, rfl⟩
 replace hm := hm r243 hr
 rw [hr] at hp
 clear hr
 subst hp
 refine oP T hS 5 ⟨[(3, Sl a140 r139.1 c141), (4, I r139.2), (6, I r160.2), (7, B r181.1), (8, I r181.2), (9, I r199.1), (10, I r199.2), (12, I r203.2), (13, I r214.1), (14, I r214.2), (15, Sl a233 r232 c234), (69, B (r243 && (r118.2 == 0)))], []⟩ (sp := [65]) fun a hS => ?_
 rcases Bool.eq_false_or_eq_true (r243 && (r118.2 == 0)) with hb | hb
 ·replace hS := hS.lit (t := 69) kr hb
  replace hm := hm.1 hb
  refine oP T hS 4 ⟨[(4, I r139.2), (6, I r160.2), (7, B r181.1), (8, I r181.2), (9, I r199.1), (10, I r199.2), (12, I r203.2), (13, I r214.1), (14, I r214.2), (15, Sl a233 r232 c234), (69, B true), (70, Sl a140 r139.1 c141), (71, V (.agg #[.int .i64 0, .int .i64 0])), (72, V (.agg #[.int .i64 1, .int .i64 1])), (73, V (.agg #[.int .i64 2, .int .i64 1]))], []⟩ fun a hS => ?_
  refine op1 (lit (E := 51) (col := 0) (T := tApi_Pick) (vals := [.agg #[.int .i64 0, .int .i64 0], .agg #[.int .i64 1, .int .i64 1], .agg #[.int .i64 2, .int .i64 1]]) (ys := [(⟨0, 0⟩ : Api_Pick), (⟨1, 1⟩ : Api_Pick), (⟨2, 1⟩ : Api_Pick)]) T hS kr kr kr kr (by exact ⟨rfl, rfl, rfl, trivial⟩) rfl kr kr kr kr ?_)
  intro b244 a w245 χ246 hE h247 hN hS
  clear hN
  replace hO := hO.mv hE rfl rfl
  replace h142 := h142.mv hE rfl
  replace h235 := h235.mv hE rfl
  clear hE
  replace h247 := h247.rs0
  refine op1 (call hS kr kr hb14 kr (fun _ _ => rfl) (k14 _ _ r139.1 [(⟨0, 0⟩ : Api_Pick), (⟨1, 1⟩ : Api_Pick), (⟨2, 1⟩ : Api_Pick)] a140 c141 (some ⟨b244, 0, none⟩) 3 h142 h247) ?_)
  intro v248 a w249 χ250 hE hp hS
  replace hO := hO.mv hE rfl rfl
  replace h142 := h142.mv hE rfl
  replace h235 := h235.mv hE rfl
  replace h247 := h247.mv hE rfl
  clear hE
  obtain ⟨r251, hr⟩ : ∃ r, ref28_Same r139.1 [(⟨0, 0⟩ : Api_Pick), (⟨1, 1⟩ : Api_Pick), (⟨2, 1⟩ : Api_Pick)] = r := ⟨_, rfl⟩
  replace hm := hm r251 hr
  rw [hr] at hp
  clear hr
  subst hp
  refine oP T hS 38 ⟨[(15, Sl a233 r232 c234), (113, B (((((((((r251 && (r139.2 == 0)) && (r160.2 == 41)) && (!r181.1)) && (r181.2 == 0)) && (r199.1 == 1)) && (r199.2 == 0)) && (r203.2 == 2)) && (r214.1 == 1)) && (r214.2 == 0)))], []⟩ (sp := [77, 81, 85, 89, 93, 97, 101, 105, 109]) fun a hS => ?_
  rcases Bool.eq_false_or_eq_true (((((((((r251 && (r139.2 == 0)) && (r160.2 == 41)) && (!r181.1)) && (r181.2 == 0)) && (r199.1 == 1)) && (r199.2 == 0)) && (r203.2 == 2)) && (r214.1 == 1)) && (r214.2 == 0)) with hb | hb
  ·replace hS := hS.lit (t := 113) kr hb
   replace hm := hm.1 hb
   refine oP T hS 3 ⟨[(113, B true), (114, Sl a233 r232 c234), (115, V (.agg #[.int .i64 0, .int .i64 0])), (116, V (.agg #[.int .i64 1, .int .i64 0]))], []⟩ fun a hS => ?_
   refine op1 (lit (E := 51) (col := 0) (T := tApi_Pick) (vals := [.agg #[.int .i64 0, .int .i64 0], .agg #[.int .i64 1, .int .i64 0]]) (ys := [(⟨0, 0⟩ : Api_Pick), (⟨1, 0⟩ : Api_Pick)]) T hS kr kr kr kr (by exact ⟨rfl, rfl, trivial⟩) rfl kr kr kr kr ?_)
   intro b252 a w253 χ254 hE h255 hN hS
   clear hN
   replace hO := hO.mv hE rfl rfl
   replace h235 := h235.mv hE rfl
   clear hE
   replace h255 := h255.rs0
   refine op1 (call hS kr kr hb14 kr (fun _ _ => rfl) (k14 _ _ r232 [(⟨0, 0⟩ : Api_Pick), (⟨1, 0⟩ : Api_Pick)] a233 c234 (some ⟨b252, 0, none⟩) 2 h235 h255) ?_)
   intro v256 a w257 χ258 hE hp hS
   replace hO := hO.mv hE rfl rfl
   replace h235 := h235.mv hE rfl
   replace h255 := h255.mv hE rfl
   clear hE
   obtain ⟨r259, hr⟩ : ∃ r, ref28_Same r232 [(⟨0, 0⟩ : Api_Pick), (⟨1, 0⟩ : Api_Pick)] = r := ⟨_, rfl⟩
   replace hm := hm r259 hr
   rw [hr] at hp
   clear hr
   subst hp
   refine eP T hS ⟨[(0, B r259)], []⟩ fun a hS => ?_
   refine wret ?_
   exact fin T hS hO (fun c => c) rfl (r := [.bool r259]) kr (fun χ' hM hC => ⟨r259, hm, rfl⟩)
  ·replace hS := hS.lit (t := 113) kr hb
   replace hm := hm.2 hb
   refine eP T hS ⟨[(0, B false)], []⟩ fun a hS => ?_
   refine wret ?_
   exact fin T hS hO (fun c => c) rfl (r := [.bool false]) kr (fun χ' hM hC => ⟨false, hm, rfl⟩)
 ·replace hS := hS.lit (t := 69) kr hb
  replace hm := hm.2 hb
  refine eP T hS ⟨[(0, B false)], []⟩ fun a hS => ?_
  refine wret ?_
  exact fin T hS hO (fun c => c) rfl (r := [.bool false]) kr (fun χ' hM hC => ⟨false, hm, rfl⟩)
theorem C7 (k10 : S10) (k14 : S14) (k16 : S16) (k17 : S17) (k18 : S18) (k8 : S8) (k9 : S9) (v : ∀ (_ : Unit), VC7 (fun r => r = law30_awake)) : S7 := by
 intro w χ     
 refine (W7 k10 k14 k16 k17 k18 k8 k9 w χ     _ (v ())).mono ?_
 rintro _ _ _ _ ⟨r, rfl, h⟩
 exact h
end Go.Proofs.Ytomodhnocjmfpaa
