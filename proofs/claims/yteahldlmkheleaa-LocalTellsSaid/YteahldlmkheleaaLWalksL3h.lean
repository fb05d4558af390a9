/- Walks of the functions: each returns what its condition asks. -/
import Derived.Test.YteahldlmkheleaaLWalksS
set_option linter.all false
namespace Go.Proofs.Yteahldlmkheleaa
open Go Go.Sv
set_option maxHeartbeats 1000000
theorem W5 (k11 : S11) (k14 : S14) (k16 : S16) (k18 : S18) (k19 : S19) (k20 : S20) (k21 : S21) (k22 : S22) (k6 : S6) (k9 : S9) (w0) (X0) (Q : Bool -> Prop) (hm : VC5 Q) :
  Ret Try.prog 5 #[] aF w0 X0 (fun w X' v => ∃ r, Q r /\ v = .bool r) := by
 unfold VC5 at hm
 refine enter Try.func5 rfl (vals := []) kr ?_
 intro Z a hS hO hM
 refine rPb T hS [] fun a hS => ?_
 refine bb ?_
 refine op1 (call hS kr kr hb19 kr (fun _ _ => rfl) (k19 _ _ 0 0) ?_)
 intro v101 a w102 X103 hE hp hS
 replace hO := hO.m2 hE
 obtain ⟨a105, c106, a108, c109, hp, h107, h110⟩ := hp
 obtain ⟨r104, hr⟩ : ∃ r, bN 0 = r := ⟨_, rfl⟩
 replace hm := hm r104 hr
 rw [hr] at hp h107 h110
 clear hr
 subst hp
 replace h110 := h110.rs0
 replace hm := hm (h107.sm kr)
 replace hm := hm (h110.sm kr)
 obtain ⟨hq, hm⟩ := hm
 refine op1 (call hS kr kr hb18 kr (fun _ _ => rfl) (k18 _ _ r104 a105 c106 a108 c109 hq h107 h110) ?_)
 intro v111 a w112 X113 hE hp hS
 replace hO := hO.m2 hE
 replace h107 := h107.m1 hE
 replace h110 := h110.m1 hE
 obtain ⟨r114, hr⟩ : ∃ r, eE r104 = r := ⟨_, rfl⟩
 replace hm := hm r114 hr
 rw [hr] at hp
 clear hr
 subst hp
 refine ePb T hS [(1, B r114.1), (2, I r114.2)] fun a hS => ?_
 refine bb ?_
 refine op1 (call hS kr kr hb19 kr (fun _ _ => rfl) (k19 _ _ 1 0) ?_)
 intro v115 a w116 X117 hE hp hS
 replace hO := hO.m2 hE
 obtain ⟨a119, c120, a122, c123, hp, h121, h124⟩ := hp
 obtain ⟨r118, hr⟩ : ∃ r, bN 1 = r := ⟨_, rfl⟩
 replace hm := hm r118 hr
 rw [hr] at hp h121 h124
 clear hr
 subst hp
 replace h124 := h124.rs0
 replace hm := hm (h121.sm kr)
 replace hm := hm (h124.sm kr)
 obtain ⟨hq, hm⟩ := hm
 refine op1 (call hS kr kr hb18 kr (fun _ _ => rfl) (k18 _ _ r118 a119 c120 a122 c123 hq h121 h124) ?_)
 intro v125 a w126 X127 hE hp hS
 replace hO := hO.m2 hE
 replace h121 := h121.m1 hE
 replace h124 := h124.m1 hE
 obtain ⟨r128, hr⟩ : ∃ r, eE r118 = r := ⟨_, rfl⟩
 replace hm := hm r128 hr
 rw [hr] at hp
 clear hr
 subst hp
 refine ePb T hS [(1, B r114.1), (2, I r114.2), (3, B r128.1), (4, I r128.2)] fun a hS => ?_
 refine bb ?_
 refine op1 (call hS kr kr hb19 kr (fun _ _ => rfl) (k19 _ _ 0 0) ?_)
 intro v129 a w130 X131 hE hp hS
 replace hO := hO.m2 hE
 obtain ⟨a133, c134, a136, c137, hp, h135, h138⟩ := hp
 obtain ⟨r132, hr⟩ : ∃ r, bN 0 = r := ⟨_, rfl⟩
 replace hm := hm r132 hr
 rw [hr] at hp h135 h138
 clear hr
 subst hp
 replace h138 := h138.rs0
 replace hm := hm (h135.sm kr)
 replace hm := hm (h138.sm kr)
 obtain ⟨hq, hm⟩ := hm
 refine op1 (call hS kr kr hb20 kr (fun _ _ => rfl) (k20 _ _ r132 a133 c134 a136 c137 hq h135 h138) ?_)
 intro v139 a w140 X141 hE hp hS
 replace hO := hO.m2 hE
 replace h135 := h135.m1 hE
 replace h138 := h138.m1 hE
 obtain ⟨a143, c144, hp, h145⟩ := hp
 obtain ⟨r142, hr⟩ : ∃ r, cJ r132 = r := ⟨_, rfl⟩
 replace hm := hm r142 hr
 rw [hr] at hp h145
 clear hr
 subst hp
 replace hm := hm (h145.sm kr)
 refine ePb T hS [(1, B r114.1), (2, I r114.2), (3, B r128.1), (4, I r128.2), (5, Sl a143 r142.1 c144), (6, I r142.2)] fun a hS => ?_
 refine bb ?_
 refine op1 (call hS kr kr hb19 kr (fun _ _ => rfl) (k19 _ _ 1 0) ?_)
 intro v146 a w147 X148 hE hp hS
 replace hO := hO.m2 hE
 replace h145 := h145.m1 hE
 obtain ⟨a150, c151, a153, c154, hp, h152, h155⟩ := hp
 obtain ⟨r149, hr⟩ : ∃ r, bN 1 = r := ⟨_, rfl⟩
 replace hm := hm r149 hr
 rw [hr] at hp h152 h155
 clear hr
 subst hp
 replace h155 := h155.rs0
 replace hm := hm (h152.sm kr)
 replace hm := hm (h155.sm kr)
 obtain ⟨hq, hm⟩ := hm
 refine op1 (call hS kr kr hb20 kr (fun _ _ => rfl) (k20 _ _ r149 a150 c151 a153 c154 hq h152 h155) ?_)
 intro v156 a w157 X158 hE hp hS
 replace hO := hO.m2 hE
 replace h145 := h145.m1 hE
 replace h152 := h152.m1 hE
 replace h155 := h155.m1 hE
 obtain ⟨a160, c161, hp, h162⟩ := hp
 obtain ⟨r159, hr⟩ : ∃ r, cJ r149 = r := ⟨_, rfl⟩
 replace hm := hm r159 hr
 rw [hr] at hp h162
 clear hr
 subst hp
 replace hm := hm (h162.sm kr)
 refine ePb T hS [(1, B r114.1), (2, I r114.2), (3, B r128.1), (4, I r128.2), (5, Sl a143 r142.1 c144), (6, I r142.2), (8, I r159.2)] fun a hS => ?_
 refine bb ?_
 refine op1 (call hS kr kr hb19 kr (fun _ _ => rfl) (k19 _ _ 0 0) ?_)
 intro v163 a w164 X165 hE hp hS
 replace hO := hO.m2 hE
 replace h145 := h145.m1 hE
 obtain ⟨a167, c168, a170, c171, hp, h169, h172⟩ := hp
 obtain ⟨r166, hr⟩ : ∃ r, bN 0 = r := ⟨_, rfl⟩
 replace hm := hm r166 hr
 rw [hr] at hp h169 h172
 clear hr
 subst hp
 replace h172 := h172.rs0
 replace hm := hm (h169.sm kr)
 replace hm := hm (h172.sm kr)
 obtain ⟨hq, hm⟩ := hm
 refine op1 (call hS kr kr hb6 kr (fun _ _ => rfl) (k6 _ _ r166 a167 c168 a170 c171 hq h169 h172) ?_)
 intro v173 a w174 X175 hE hp hS
 replace hO := hO.m2 hE
 replace h145 := h145.m1 hE
 replace h169 := h169.m1 hE
 replace h172 := h172.m1 hE
 obtain ⟨r176, hr⟩ : ∃ r, aV r166 = r := ⟨_, rfl⟩
 replace hm := hm r176 hr
 rw [hr] at hp
 clear hr
 subst hp
 refine ePb T hS [(1, B r114.1), (2, I r114.2), (3, B r128.1), (4, I r128.2), (5, Sl a143 r142.1 c144), (6, I r142.2), (8, I r159.2), (9, I r176.1), (10, I r176.2)] fun a hS => ?_
 refine bb ?_
 refine oPb T hS 1 [(1, B r114.1), (2, I r114.2), (3, B r128.1), (4, I r128.2), (5, Sl a143 r142.1 c144), (6, I r142.2), (8, I r159.2), (9, I r176.1), (10, I r176.2), (45, V (.agg #[.slice none 0 0, .slice none 0 0]))] fun a hS => ?_
 obtain ⟨hq, hm⟩ := hm
 refine op1 (call hS kr kr hb6 kr (fun _ _ => rfl) (k6 _ _ (⟨[], []⟩ : ak) none 0 none 0 hq (RS.empty _ _ _) (RS.empty _ _ _)) ?_)
 intro v177 a w178 X179 hE hp hS
 replace hO := hO.m2 hE
 replace h145 := h145.m1 hE
 obtain ⟨r180, hr⟩ : ∃ r, aV (⟨[], []⟩ : ak) = r := ⟨_, rfl⟩
 replace hm := hm r180 hr
 rw [hr] at hp
 clear hr
 subst hp
 refine ePb T hS [(1, B r114.1), (2, I r114.2), (3, B r128.1), (4, I r128.2), (5, Sl a143 r142.1 c144), (6, I r142.2), (8, I r159.2), (9, I r176.1), (10, I r176.2), (12, I r180.2)] fun a hS => ?_
 refine bb ?_
 refine op1 (call hS kr kr hb19 kr (fun _ _ => rfl) (k19 _ _ 0 1050) ?_)
 intro v181 a w182 X183 hE hp hS
 replace hO := hO.m2 hE
 replace h145 := h145.m1 hE
 obtain ⟨a185, c186, a188, c189, hp, h187, h190⟩ := hp
 obtain ⟨r184, hr⟩ : ∃ r, bN 0 = r := ⟨_, rfl⟩
 replace hm := hm r184 hr
 rw [hr] at hp h187 h190
 clear hr
 subst hp
 replace hm := hm (h187.sm kr)
 replace hm := hm (h190.sm kr)
 refine eM T hS ⟨[(1, B r114.1), (2, I r114.2), (3, B r128.1), (4, I r128.2), (5, Sl a143 r142.1 c144), (6, I r142.2), (8, I r159.2), (9, I r176.1), (10, I r176.2), (12, I r180.2), (13, Pt 14 0)], [(14, (25, [Sl a185 r184.ae c186, Sl a188 r184.aj c189]))]⟩ fun Z a w296 X297 hS hE hr => ?_
 replace hO := hO.m2 hE
 replace h145 := h145.m1 hE
 replace h187 := h187.m1 hE
 replace h190 := h190.m2 hE
 clear hE hr
 refine bb ?_
 refine oPb T hS 2 [(1, B r114.1), (2, I r114.2), (3, B r128.1), (4, I r128.2), (5, Sl a143 r142.1 c144), (6, I r142.2), (8, I r159.2), (9, I r176.1), (10, I r176.2), (12, I r180.2), (13, Pt 14 0), (51, Sl a188 r184.aj c189)] fun a hS => ?_
 obtain ⟨hq195, hm⟩ := hm
 refine op1 (ie (E := 64) (k := .i64) T hS kr kr kr kr h190 kr kr hq195.1 hq195.2 ?_)
 intro A191 a h193 h192 hS
 have h194 := h193.ad
 clear h193 h192
 refine op1 (lJ (off := 0) (fsz := 1) (ft := 3) T hS kr kr kr h194 kr kr ?_)
 intro A196 a h197 hS
 refine op1 (lh (m := 1) (off := 0) (x := (⟨1, (gi r184.aj 3).aH⟩ : aR)) (v := I 1) (i := (3 : Int).toNat) (E := 64) (xs := r184.aj) T hS kr kr kr kr h190 h197 (by have := hq195.1; have := hq195.2; (try simp only [List.length_set]); omega) kr kr rfl (fun _ _ _ h => by cases h; rfl) ?_)
 intro a w198 hE h199 hS
 clear h190
 replace hO := hO.m2 hE
 replace h145 := h145.m1 hE
 replace h187 := h187.m1 hE
 have hx200 := hS.cell (id := 14) (t := 25) (cs := [Sl a185 r184.ae c186, Sl a188 r184.aj c189]) kr
 replace hx200 := hx200.conv (vals' := [.slice a185 r184.ae.length c186, .slice a188 (r184.aj.set (3 : Int).toNat (⟨1, (gi r184.aj 3).aH⟩ : aR)).length c189]) (by rw [List.length_set]; rfl)
 replace hS := hS.bQ (id := 14) (t := 25) (cs := [Sl a185 r184.ae c186, Sl a188 (r184.aj.set (3 : Int).toNat (⟨1, (gi r184.aj 3).aH⟩ : aR)) c189]) kr hx200
 clear hx200
 replace hS := hS.conv (t := 51) (y := .slice a188 (r184.aj.set (3 : Int).toNat (⟨1, (gi r184.aj 3).aH⟩ : aR)).length c189) kr (by rw [List.length_set])
 refine eO ?_
 refine bb ?_
 refine oP T hS 1 ⟨[(1, B r114.1), (2, I r114.2), (3, B r128.1), (4, I r128.2), (5, Sl a143 r142.1 c144), (6, I r142.2), (8, I r159.2), (9, I r176.1), (10, I r176.2), (12, I r180.2), (55, V (.agg #[.slice a185 r184.ae.length c186, .slice a188 (r184.aj.set (3 : Int).toNat (⟨1, (gi r184.aj 3).aH⟩ : aR)).length c189]))], []⟩ fun a hS => ?_
 obtain ⟨hq, hm⟩ := hm
 refine op1 (call hS kr kr hb6 kr (fun _ _ => rfl) (Ret.jJ (k6 _ (dt 1050 _) (⟨r184.ae, (r184.aj.set (3 : Int).toNat (⟨1, (gi r184.aj 3).aH⟩ : aR))⟩ : ak) a185 c186 a188 c189 hq (h187.m0 (M0.dt 1050)) h199.dt)) ?_)
 intro v201 a w202 X203 hE hp hS
 replace hO := hO.m2 hE
 replace h145 := h145.m1 hE
 replace h187 := h187.m1 hE
 replace h199 := h199.m2 hE
 obtain ⟨_, hp⟩ := hp
 obtain ⟨r204, hr⟩ : ∃ r, aV (⟨r184.ae, (r184.aj.set (3 : Int).toNat (⟨1, (gi r184.aj 3).aH⟩ : aR))⟩ : ak) = r := ⟨_, rfl⟩
 replace hm := hm r204 hr
 rw [hr] at hp
 clear hr
 subst hp
 refine ePb T hS [(1, B r114.1), (2, I r114.2), (3, B r128.1), (4, I r128.2), (5, Sl a143 r142.1 c144), (6, I r142.2), (8, I r159.2), (9, I r176.1), (10, I r176.2), (12, I r180.2), (14, I r204.1), (15, I r204.2)] fun a hS => ?_
 refine bb ?_
 refine op1 (call hS kr kr hb19 kr (fun _ _ => rfl) (k19 _ _ 1 0) ?_)
 intro v205 a w206 X207 hE hp hS
 replace hO := hO.m2 hE
 replace h145 := h145.m1 hE
 obtain ⟨a209, c210, a212, c213, hp, h211, h214⟩ := hp
 obtain ⟨r208, hr⟩ : ∃ r, bN 1 = r := ⟨_, rfl⟩
 replace hm := hm r208 hr
 rw [hr] at hp h211 h214
 clear hr
 subst hp
 replace h214 := h214.rs0
 replace hm := hm (h211.sm kr)
 replace hm := hm (h214.sm kr)
 obtain ⟨hq, hm⟩ := hm
 refine op1 (call hS kr kr hb9 kr (fun _ _ => rfl) (k9 _ _ r208 a209 c210 a212 c213 hq h211 h214) ?_)
 intro v215 a w216 X217 hE hp hS
 replace hO := hO.m2 hE
 replace h145 := h145.m1 hE
 replace h211 := h211.m1 hE
 replace h214 := h214.m1 hE
 obtain ⟨a219, c220, a222, c223, hp, h221, h224⟩ := hp
 obtain ⟨r218, hr⟩ : ∃ r, bP r208 = r := ⟨_, rfl⟩
 replace hm := hm r218 hr
 rw [hr] at hp h221 h224
 clear hr
 subst hp
 replace hm := hm (h221.sm kr)
 replace hm := hm (h224.sm kr)
 refine ePb T hS [(1, B r114.1), (2, I r114.2), (3, B r128.1), (4, I r128.2), (5, Sl a143 r142.1 c144), (6, I r142.2), (8, I r159.2), (9, I r176.1), (10, I r176.2), (12, I r180.2), (14, I r204.1), (15, I r204.2), (16, Sl a219 r218.1 c220), (17, Sl a222 r218.2 c223)] fun a hS => ?_
 refine bb ?_
 refine op1 (call hS kr kr hb19 kr (fun _ _ => rfl) (k19 _ _ 1 0) ?_)
 intro v225 a w226 X227 hE hp hS
 replace hO := hO.m2 hE
 replace h145 := h145.m1 hE
 replace h221 := h221.m1 hE
 replace h224 := h224.m1 hE
 obtain ⟨a229, c230, a232, c233, hp, h231, h234⟩ := hp
 obtain ⟨r228, hr⟩ : ∃ r, bN 1 = r := ⟨_, rfl⟩
 replace hm := hm r228 hr
 rw [hr] at hp h231 h234
 clear hr
 subst hp
 replace h234 := h234.rs0
 replace hm := hm (h231.sm kr)
 replace hm := hm (h234.sm kr)
 obtain ⟨hq, hm⟩ := hm
 refine op1 (call hS kr kr hb11 kr (fun _ _ => rfl) (k11 _ _ r228 1 a229 c230 a232 c233 hq h231 h234) ?_)
 intro v235 a w236 X237 hE hp hS
 replace hO := hO.m2 hE
 replace h145 := h145.m1 hE
 replace h221 := h221.m1 hE
 replace h224 := h224.m1 hE
 replace h231 := h231.m1 hE
 replace h234 := h234.m1 hE
 obtain ⟨a239, c240, a242, c243, hp, h241, h244⟩ := hp
 obtain ⟨r238, hr⟩ : ∃ r, cd r228 1 = r := ⟨_, rfl⟩
 replace hm := hm r238 hr
 rw [hr] at hp h241 h244
 clear hr
 subst hp
 replace hm := hm (h241.sm kr)
 replace hm := hm (h244.sm kr)
 refine eM T hS ⟨[(1, B r114.1), (2, I r114.2), (3, B r128.1), (4, I r128.2), (5, Sl a143 r142.1 c144), (6, I r142.2), (8, I r159.2), (9, I r176.1), (10, I r176.2), (12, I r180.2), (14, I r204.1), (15, I r204.2), (16, Sl a219 r218.1 c220), (17, Sl a222 r218.2 c223), (18, Pt 19 0)], [(19, (45, [I r238.ar.ao, I r238.ar.av, I r238.ar.aC, Sl a239 r238.ar.Rows c240, Sl a242 r238.aj c243]))]⟩ fun Z a w294 X295 hS hE hr => ?_
 replace hO := hO.m2 hE
 replace h145 := h145.m1 hE
 replace h221 := h221.m1 hE
 replace h224 := h224.m1 hE
 replace h241 := h241.m1 hE
 replace h244 := h244.m1 hE
 clear hE hr
 refine ct [19] mixed hS ?_
 intro w245 X246 hS hE hD hH
 replace hO := hO.m2 hE
 replace h145 := h145.m1 hE
 replace h221 := h221.m1 hE
 replace h224 := h224.m1 hE
 replace h241 := h241.m1 hE
 replace h244 := h244.m1 hE
 refine tkc T [0, 1] [19] hS hH #[true, true, false, false, false, false, false, false, false, false, false, false, false, false, false, false, false, false, false, false, false, false, false, false, false, false, false, false, false, false, false, false, false, false, false, false, false, false, false, false, false, false, false, false, false, false, false, false, false, false, false, false, false, false, false, false, false, false, false, false, false, false, false, false, false, false, false, false, false, false, false, false, false, false, false, false, false, false, false] 77 [(2, I r114.2), (3, B r128.1), (4, I r128.2), (5, Sl a143 r142.1 c144), (6, I r142.2), (8, I r159.2), (9, I r176.1), (10, I r176.2), (12, I r180.2), (14, I r204.1), (15, I r204.2), (16, Sl a219 r218.1 c220), (17, Sl a222 r218.2 c223), (18, Pt 19 0), (67, B r114.1)] fun a hS => ?_
 refine fX (tc := 67) (b := r114.1) (f := fun c => ⟨[(3, B r128.1), (4, I r128.2), (5, Sl a143 r142.1 c144), (6, I r142.2), (8, I r159.2), (9, I r176.1), (10, I r176.2), (12, I r180.2), (14, I r204.1), (15, I r204.2), (16, Sl a219 r218.1 c220), (17, Sl a222 r218.2 c223), (18, Pt 19 0), (70, B (c && (r114.2 == 0)))], [(19, (45, [I r238.ar.ao, I r238.ar.av, I r238.ar.aC, Sl a239 r238.ar.Rows c240, Sl a242 r238.aj c243]))]⟩) T [2, 3, 4] [19] [3, 4, 5, 6, 8, 9, 10, 12, 14, 15, 16, 17, 18, 70] hS kr kr kr kr hH (listed' := #[true, true, true, true, true, false, false, false, false, false, false, false, false, false, false, false, false, false, false, false, false, false, false, false, false, false, false, false, false, false, false, false, false, false, false, false, false, false, false, false, false, false, false, false, false, false, false, false, false, false, false, false, false, false, false, false, false, false, false, false, false, false, false, false, false, false, false, false, false, false, false, false, false, false, false, false, false, false, false]) (fuel := 74) kr kr (by rfl) ?_
 intro a hS
 refine tkc T [5] [19] hS hH #[true, true, true, true, true, true, false, false, false, false, false, false, false, false, false, false, false, false, false, false, false, false, false, false, false, false, false, false, false, false, false, false, false, false, false, false, false, false, false, false, false, false, false, false, false, false, false, false, false, false, false, false, false, false, false, false, false, false, false, false, false, false, false, false, false, false, false, false, false, false, false, false, false, false, false, false, false, false, false] 73 [(3, B r128.1), (4, I r128.2), (5, Sl a143 r142.1 c144), (6, I r142.2), (8, I r159.2), (9, I r176.1), (10, I r176.2), (12, I r180.2), (14, I r204.1), (15, I r204.2), (16, Sl a219 r218.1 c220), (17, Sl a222 r218.2 c223), (18, Pt 19 0), (71, B (r114.1 && (r114.2 == 0)))] fun a hS => ?_
 refine fX (tc := 71) (b := (r114.1 && (r114.2 == 0))) (f := fun c => ⟨[(4, I r128.2), (5, Sl a143 r142.1 c144), (6, I r142.2), (8, I r159.2), (9, I r176.1), (10, I r176.2), (12, I r180.2), (14, I r204.1), (15, I r204.2), (16, Sl a219 r218.1 c220), (17, Sl a222 r218.2 c223), (18, Pt 19 0), (74, B (c && (!r128.1)))], [(19, (45, [I r238.ar.ao, I r238.ar.av, I r238.ar.aC, Sl a239 r238.ar.Rows c240, Sl a242 r238.aj c243]))]⟩) T [6, 7, 8] [19] [4, 5, 6, 8, 9, 10, 12, 14, 15, 16, 17, 18, 74] hS kr kr kr kr hH (listed' := #[true, true, true, true, true, true, true, true, true, false, false, false, false, false, false, false, false, false, false, false, false, false, false, false, false, false, false, false, false, false, false, false, false, false, false, false, false, false, false, false, false, false, false, false, false, false, false, false, false, false, false, false, false, false, false, false, false, false, false, false, false, false, false, false, false, false, false, false, false, false, false, false, false, false, false, false, false, false, false]) (fuel := 70) kr kr (by rfl) ?_
 intro a hS
 refine tkc T [9] [19] hS hH #[true, true, true, true, true, true, true, true, true, true, false, false, false, false, false, false, false, false, false, false, false, false, false, false, false, false, false, false, false, false, false, false, false, false, false, false, false, false, false, false, false, false, false, false, false, false, false, false, false, false, false, false, false, false, false, false, false, false, false, false, false, false, false, false, false, false, false, false, false, false, false, false, false, false, false, false, false, false, false] 69 [(4, I r128.2), (5, Sl a143 r142.1 c144), (6, I r142.2), (8, I r159.2), (9, I r176.1), (10, I r176.2), (12, I r180.2), (14, I r204.1), (15, I r204.2), (16, Sl a219 r218.1 c220), (17, Sl a222 r218.2 c223), (18, Pt 19 0), (75, B ((r114.1 && (r114.2 == 0)) && (!r128.1)))] fun a hS => ?_
 refine fX (tc := 75) (b := ((r114.1 && (r114.2 == 0)) && (!r128.1))) (f := fun c => ⟨[(5, Sl a143 r142.1 c144), (6, I r142.2), (8, I r159.2), (9, I r176.1), (10, I r176.2), (12, I r180.2), (14, I r204.1), (15, I r204.2), (16, Sl a219 r218.1 c220), (17, Sl a222 r218.2 c223), (18, Pt 19 0), (78, B (c && (r128.2 == 0)))], [(19, (45, [I r238.ar.ao, I r238.ar.av, I r238.ar.aC, Sl a239 r238.ar.Rows c240, Sl a242 r238.aj c243]))]⟩) T [10, 11, 12] [19] [5, 6, 8, 9, 10, 12, 14, 15, 16, 17, 18, 78] hS kr kr kr kr hH (listed' := #[true, true, true, true, true, true, true, true, true, true, true, true, true, false, false, false, false, false, false, false, false, false, false, false, false, false, false, false, false, false, false, false, false, false, false, false, false, false, false, false, false, false, false, false, false, false, false, false, false, false, false, false, false, false, false, false, false, false, false, false, false, false, false, false, false, false, false, false, false, false, false, false, false, false, false, false, false, false, false]) (fuel := 66) kr kr (by rfl) ?_
 intro a hS
 refine tkc T [13] [19] hS hH #[true, true, true, true, true, true, true, true, true, true, true, true, true, true, false, false, false, false, false, false, false, false, false, false, false, false, false, false, false, false, false, false, false, false, false, false, false, false, false, false, false, false, false, false, false, false, false, false, false, false, false, false, false, false, false, false, false, false, false, false, false, false, false, false, false, false, false, false, false, false, false, false, false, false, false, false, false, false, false] 65 [(5, Sl a143 r142.1 c144), (6, I r142.2), (8, I r159.2), (9, I r176.1), (10, I r176.2), (12, I r180.2), (14, I r204.1), (15, I r204.2), (16, Sl a219 r218.1 c220), (17, Sl a222 r218.2 c223), (18, Pt 19 0), (79, B (((r114.1 && (r114.2 == 0)) && (!r128.1)) && (r128.2 == 0)))] fun a hS => ?_
 refine fX (tc := 79) (b := (((r114.1 && (r114.2 == 0)) && (!r128.1)) && (r128.2 == 0))) (f := fun c => ⟨[(5, Sl a143 r142.1 c144), (8, I r159.2), (9, I r176.1), (10, I r176.2), (12, I r180.2), (14, I r204.1), (15, I r204.2), (16, Sl a219 r218.1 c220), (17, Sl a222 r218.2 c223), (18, Pt 19 0), (82, B (c && (r142.2 == 0)))], [(19, (45, [I r238.ar.ao, I r238.ar.av, I r238.ar.aC, Sl a239 r238.ar.Rows c240, Sl a242 r238.aj c243]))]⟩) T [14, 15, 16] [19] [5, 8, 9, 10, 12, 14, 15, 16, 17, 18, 82] hS kr kr kr kr hH (listed' := #[true, true, true, true, true, true, true, true, true, true, true, true, true, true, true, true, true, false, false, false, false, false, false, false, false, false, false, false, false, false, false, false, false, false, false, false, false, false, false, false, false, false, false, false, false, false, false, false, false, false, false, false, false, false, false, false, false, false, false, false, false, false, false, false, false, false, false, false, false, false, false, false, false, false, false, false, false, false, false]) (fuel := 62) kr kr (by rfl) ?_
 intro a hS
 refine tkc T [17] [19] hS hH #[true, true, true, true, true, true, true, true, true, true, true, true, true, true, true, true, true, true, false, false, false, false, false, false, false, false, false, false, false, false, false, false, false, false, false, false, false, false, false, false, false, false, false, false, false, false, false, false, false, false, false, false, false, false, false, false, false, false, false, false, false, false, false, false, false, false, false, false, false, false, false, false, false, false, false, false, false, false, false] 61 [(5, Sl a143 r142.1 c144), (8, I r159.2), (9, I r176.1), (10, I r176.2), (12, I r180.2), (14, I r204.1), (15, I r204.2), (16, Sl a219 r218.1 c220), (17, Sl a222 r218.2 c223), (18, Pt 19 0), (83, B ((((r114.1 && (r114.2 == 0)) && (!r128.1)) && (r128.2 == 0)) && (r142.2 == 0)))] fun a hS => ?_
 rcases bft ((((r114.1 && (r114.2 == 0)) && (!r128.1)) && (r128.2 == 0)) && (r142.2 == 0)) with hb | hb
 ·replace hS := hS.lit (t := 83) kr hb
  replace hm := hm.1 hb
  refine tkc T [19] [19] hS hH #[true, true, true, true, true, true, true, true, true, true, true, true, true, true, true, true, true, true, false, true, false, false, false, false, false, false, false, false, false, false, false, false, false, false, false, false, false, false, false, false, false, false, false, false, false, false, false, false, false, false, false, false, false, false, false, false, false, false, false, false, false, false, false, false, false, false, false, false, false, false, false, false, false, false, false, false, false, false, false] 60 [(5, Sl a143 r142.1 c144), (8, I r159.2), (9, I r176.1), (10, I r176.2), (12, I r180.2), (14, I r204.1), (15, I r204.2), (16, Sl a219 r218.1 c220), (17, Sl a222 r218.2 c223), (18, Pt 19 0), (83, B true), (85, Sl a143 r142.1 c144)] fun a hS => ?_
  refine only 18 kr (by rfl) (call hS kr kr hb19 kr (fun _ _ => rfl) (k19 _ _ 0 0) ?_)
  intro v247 a w248 X249 hE hp hS
  replace hO := hO.m2 hE
  replace hD := hD.ev hE rfl
  replace h145 := h145.m1 hE
  replace h221 := h221.m1 hE
  replace h224 := h224.m1 hE
  replace h241 := h241.m1 hE
  replace h244 := h244.m1 hE
  obtain ⟨a251, c252, a254, c255, hp, h253, h256⟩ := hp
  obtain ⟨r250, hr⟩ : ∃ r, bN 0 = r := ⟨_, rfl⟩
  replace hm := hm r250 hr
  rw [hr] at hp h253 h256
  clear hr
  subst hp
  replace h256 := h256.rs0
  replace hm := hm (h253.sm kr)
  replace hm := hm (h256.sm kr)
  replace hS := hS.slb [(5, Sl a143 r142.1 c144), (8, I r159.2), (9, I r176.1), (10, I r176.2), (12, I r180.2), (14, I r204.1), (15, I r204.2), (16, Sl a219 r218.1 c220), (17, Sl a222 r218.2 c223), (18, Pt 19 0), (83, B true), (85, Sl a143 r142.1 c144), (84, V (.agg #[.slice a251 r250.ae.length c252, .slice a254 r250.aj.length c255]))]
  refine bX (bl.of hS (bks := [19]) kr hD) ?_
  intro hH
  obtain ⟨hq, hm⟩ := hm
  refine only 20 kr (by rfl) (call hS kr kr hb21 kr (fun _ _ => rfl) (k21 _ _ r250 r142.1 a251 c252 a254 c255 a143 c144 hq h253 h256 h145) ?_)
  intro v257 a w258 X259 hE hp hS
  replace hO := hO.m2 hE
  replace hD := hD.ev hE rfl
  replace h145 := h145.m1 hE
  replace h221 := h221.m1 hE
  replace h224 := h224.m1 hE
  replace h241 := h241.m1 hE
  replace h244 := h244.m1 hE
  replace h253 := h253.m1 hE
  replace h256 := h256.m1 hE
  obtain ⟨r260, hr⟩ : ∃ r, dT r250 r142.1 = r := ⟨_, rfl⟩
  replace hm := hm r260 hr
  rw [hr] at hp
  clear hr
  subst hp
  replace hS := hS.slb [(5, Sl a143 r142.1 c144), (8, I r159.2), (9, I r176.1), (10, I r176.2), (12, I r180.2), (14, I r204.1), (15, I r204.2), (16, Sl a219 r218.1 c220), (17, Sl a222 r218.2 c223), (18, Pt 19 0), (83, B true), (85, Sl a143 r142.1 c144), (84, V (.agg #[.slice a251 r250.ae.length c252, .slice a254 r250.aj.length c255])), (86, B r260)]
  refine bX (bl.of hS (bks := [19]) kr hD) ?_
  intro hH
  refine tkc T [21, 22] [19] hS hH #[true, true, true, true, true, true, true, true, true, true, true, true, true, true, true, true, true, true, true, true, true, true, true, false, false, false, false, false, false, false, false, false, false, false, false, false, false, false, false, false, false, false, false, false, false, false, false, false, false, false, false, false, false, false, false, false, false, false, false, false, false, false, false, false, false, false, false, false, false, false, false, false, false, false, false, false, false, false, false] 56 [(5, Sl a143 r142.1 c144), (8, I r159.2), (9, I r176.1), (10, I r176.2), (12, I r180.2), (14, I r204.1), (15, I r204.2), (16, Sl a219 r218.1 c220), (17, Sl a222 r218.2 c223), (18, Pt 19 0), (88, B r260)] fun a hS => ?_
  refine fX (tc := 88) (b := r260) (f := fun c => ⟨[(8, I r159.2), (9, I r176.1), (10, I r176.2), (12, I r180.2), (14, I r204.1), (15, I r204.2), (16, Sl a219 r218.1 c220), (17, Sl a222 r218.2 c223), (18, Pt 19 0), (92, B (c && ((lN r142.1) == 2)))], [(19, (45, [I r238.ar.ao, I r238.ar.av, I r238.ar.aC, Sl a239 r238.ar.Rows c240, Sl a242 r238.aj c243]))]⟩) T [23, 24, 25, 26] [19] [8, 9, 10, 12, 14, 15, 16, 17, 18, 92] hS kr kr kr kr hH (listed' := #[true, true, true, true, true, true, true, true, true, true, true, true, true, true, true, true, true, true, true, true, true, true, true, true, true, true, true, false, false, false, false, false, false, false, false, false, false, false, false, false, false, false, false, false, false, false, false, false, false, false, false, false, false, false, false, false, false, false, false, false, false, false, false, false, false, false, false, false, false, false, false, false, false, false, false, false, false, false, false]) (fuel := 52) kr kr (by rfl) ?_
  intro a hS
  refine tkc T [27] [19] hS hH #[true, true, true, true, true, true, true, true, true, true, true, true, true, true, true, true, true, true, true, true, true, true, true, true, true, true, true, true, false, false, false, false, false, false, false, false, false, false, false, false, false, false, false, false, false, false, false, false, false, false, false, false, false, false, false, false, false, false, false, false, false, false, false, false, false, false, false, false, false, false, false, false, false, false, false, false, false, false, false] 51 [(8, I r159.2), (9, I r176.1), (10, I r176.2), (12, I r180.2), (14, I r204.1), (15, I r204.2), (16, Sl a219 r218.1 c220), (17, Sl a222 r218.2 c223), (18, Pt 19 0), (93, B (r260 && ((lN r142.1) == 2)))] fun a hS => ?_
  refine fX (tc := 93) (b := (r260 && ((lN r142.1) == 2))) (f := fun c => ⟨[(9, I r176.1), (10, I r176.2), (12, I r180.2), (14, I r204.1), (15, I r204.2), (16, Sl a219 r218.1 c220), (17, Sl a222 r218.2 c223), (18, Pt 19 0), (96, B (c && (r159.2 == 41)))], [(19, (45, [I r238.ar.ao, I r238.ar.av, I r238.ar.aC, Sl a239 r238.ar.Rows c240, Sl a242 r238.aj c243]))]⟩) T [28, 29, 30] [19] [9, 10, 12, 14, 15, 16, 17, 18, 96] hS kr kr kr kr hH (listed' := #[true, true, true, true, true, true, true, true, true, true, true, true, true, true, true, true, true, true, true, true, true, true, true, true, true, true, true, true, true, true, true, false, false, false, false, false, false, false, false, false, false, false, false, false, false, false, false, false, false, false, false, false, false, false, false, false, false, false, false, false, false, false, false, false, false, false, false, false, false, false, false, false, false, false, false, false, false, false, false]) (fuel := 48) kr kr (by rfl) ?_
  intro a hS
  refine tkc T [31] [19] hS hH #[true, true, true, true, true, true, true, true, true, true, true, true, true, true, true, true, true, true, true, true, true, true, true, true, true, true, true, true, true, true, true, true, false, false, false, false, false, false, false, false, false, false, false, false, false, false, false, false, false, false, false, false, false, false, false, false, false, false, false, false, false, false, false, false, false, false, false, false, false, false, false, false, false, false, false, false, false, false, false] 47 [(9, I r176.1), (10, I r176.2), (12, I r180.2), (14, I r204.1), (15, I r204.2), (16, Sl a219 r218.1 c220), (17, Sl a222 r218.2 c223), (18, Pt 19 0), (97, B ((r260 && ((lN r142.1) == 2)) && (r159.2 == 41)))] fun a hS => ?_
  refine fX (tc := 97) (b := ((r260 && ((lN r142.1) == 2)) && (r159.2 == 41))) (f := fun c => ⟨[(10, I r176.2), (12, I r180.2), (14, I r204.1), (15, I r204.2), (16, Sl a219 r218.1 c220), (17, Sl a222 r218.2 c223), (18, Pt 19 0), (100, B (c && (r176.1 == 4)))], [(19, (45, [I r238.ar.ao, I r238.ar.av, I r238.ar.aC, Sl a239 r238.ar.Rows c240, Sl a242 r238.aj c243]))]⟩) T [32, 33, 34] [19] [10, 12, 14, 15, 16, 17, 18, 100] hS kr kr kr kr hH (listed' := #[true, true, true, true, true, true, true, true, true, true, true, true, true, true, true, true, true, true, true, true, true, true, true, true, true, true, true, true, true, true, true, true, true, true, true, false, false, false, false, false, false, false, false, false, false, false, false, false, false, false, false, false, false, false, false, false, false, false, false, false, false, false, false, false, false, false, false, false, false, false, false, false, false, false, false, false, false, false, false]) (fuel := 44) kr kr (by rfl) ?_
  intro a hS
  refine tkc T [35] [19] hS hH #[true, true, true, true, true, true, true, true, true, true, true, true, true, true, true, true, true, true, true, true, true, true, true, true, true, true, true, true, true, true, true, true, true, true, true, true, false, false, false, false, false, false, false, false, false, false, false, false, false, false, false, false, false, false, false, false, false, false, false, false, false, false, false, false, false, false, false, false, false, false, false, false, false, false, false, false, false, false, false] 43 [(10, I r176.2), (12, I r180.2), (14, I r204.1), (15, I r204.2), (16, Sl a219 r218.1 c220), (17, Sl a222 r218.2 c223), (18, Pt 19 0), (101, B (((r260 && ((lN r142.1) == 2)) && (r159.2 == 41)) && (r176.1 == 4)))] fun a hS => ?_
  refine fX (tc := 101) (b := (((r260 && ((lN r142.1) == 2)) && (r159.2 == 41)) && (r176.1 == 4))) (f := fun c => ⟨[(12, I r180.2), (14, I r204.1), (15, I r204.2), (16, Sl a219 r218.1 c220), (17, Sl a222 r218.2 c223), (18, Pt 19 0), (104, B (c && (r176.2 == 0)))], [(19, (45, [I r238.ar.ao, I r238.ar.av, I r238.ar.aC, Sl a239 r238.ar.Rows c240, Sl a242 r238.aj c243]))]⟩) T [36, 37, 38] [19] [12, 14, 15, 16, 17, 18, 104] hS kr kr kr kr hH (listed' := #[true, true, true, true, true, true, true, true, true, true, true, true, true, true, true, true, true, true, true, true, true, true, true, true, true, true, true, true, true, true, true, true, true, true, true, true, true, true, true, false, false, false, false, false, false, false, false, false, false, false, false, false, false, false, false, false, false, false, false, false, false, false, false, false, false, false, false, false, false, false, false, false, false, false, false, false, false, false, false]) (fuel := 40) kr kr (by rfl) ?_
  intro a hS
  refine tkc T [39] [19] hS hH #[true, true, true, true, true, true, true, true, true, true, true, true, true, true, true, true, true, true, true, true, true, true, true, true, true, true, true, true, true, true, true, true, true, true, true, true, true, true, true, true, false, false, false, false, false, false, false, false, false, false, false, false, false, false, false, false, false, false, false, false, false, false, false, false, false, false, false, false, false, false, false, false, false, false, false, false, false, false, false] 39 [(12, I r180.2), (14, I r204.1), (15, I r204.2), (16, Sl a219 r218.1 c220), (17, Sl a222 r218.2 c223), (18, Pt 19 0), (105, B ((((r260 && ((lN r142.1) == 2)) && (r159.2 == 41)) && (r176.1 == 4)) && (r176.2 == 0)))] fun a hS => ?_
  refine fX (tc := 105) (b := ((((r260 && ((lN r142.1) == 2)) && (r159.2 == 41)) && (r176.1 == 4)) && (r176.2 == 0))) (f := fun c => ⟨[(14, I r204.1), (15, I r204.2), (16, Sl a219 r218.1 c220), (17, Sl a222 r218.2 c223), (18, Pt 19 0), (108, B (c && (r180.2 == 2)))], [(19, (45, [I r238.ar.ao, I r238.ar.av, I r238.ar.aC, Sl a239 r238.ar.Rows c240, Sl a242 r238.aj c243]))]⟩) T [40, 41, 42] [19] [14, 15, 16, 17, 18, 108] hS kr kr kr kr hH (listed' := #[true, true, true, true, true, true, true, true, true, true, true, true, true, true, true, true, true, true, true, true, true, true, true, true, true, true, true, true, true, true, true, true, true, true, true, true, true, true, true, true, true, true, true, false, false, false, false, false, false, false, false, false, false, false, false, false, false, false, false, false, false, false, false, false, false, false, false, false, false, false, false, false, false, false, false, false, false, false, false]) (fuel := 36) kr kr (by rfl) ?_
  intro a hS
  refine tkc T [43] [19] hS hH #[true, true, true, true, true, true, true, true, true, true, true, true, true, true, true, true, true, true, true, true, true, true, true, true, true, true, true, true, true, true, true, true, true, true, true, true, true, true, true, true, true, true, true, true, false, false, false, false, false, false, false, false, false, false, false, false, false, false, false, false, false, false, false, false, false, false, false, false, false, false, false, false, false, false, false, false, false, false, false] 35 [(14, I r204.1), (15, I r204.2), (16, Sl a219 r218.1 c220), (17, Sl a222 r218.2 c223), (18, Pt 19 0), (109, B (((((r260 && ((lN r142.1) == 2)) && (r159.2 == 41)) && (r176.1 == 4)) && (r176.2 == 0)) && (r180.2 == 2)))] fun a hS => ?_
  refine fX (tc := 109) (b := (((((r260 && ((lN r142.1) == 2)) && (r159.2 == 41)) && (r176.1 == 4)) && (r176.2 == 0)) && (r180.2 == 2))) (f := fun c => ⟨[(15, I r204.2), (16, Sl a219 r218.1 c220), (17, Sl a222 r218.2 c223), (18, Pt 19 0), (112, B (c && (r204.1 == 3)))], [(19, (45, [I r238.ar.ao, I r238.ar.av, I r238.ar.aC, Sl a239 r238.ar.Rows c240, Sl a242 r238.aj c243]))]⟩) T [44, 45, 46] [19] [15, 16, 17, 18, 112] hS kr kr kr kr hH (listed' := #[true, true, true, true, true, true, true, true, true, true, true, true, true, true, true, true, true, true, true, true, true, true, true, true, true, true, true, true, true, true, true, true, true, true, true, true, true, true, true, true, true, true, true, true, true, true, true, false, false, false, false, false, false, false, false, false, false, false, false, false, false, false, false, false, false, false, false, false, false, false, false, false, false, false, false, false, false, false, false]) (fuel := 32) kr kr (by rfl) ?_
  intro a hS
  refine tkc T [47] [19] hS hH #[true, true, true, true, true, true, true, true, true, true, true, true, true, true, true, true, true, true, true, true, true, true, true, true, true, true, true, true, true, true, true, true, true, true, true, true, true, true, true, true, true, true, true, true, true, true, true, true, false, false, false, false, false, false, false, false, false, false, false, false, false, false, false, false, false, false, false, false, false, false, false, false, false, false, false, false, false, false, false] 31 [(15, I r204.2), (16, Sl a219 r218.1 c220), (17, Sl a222 r218.2 c223), (18, Pt 19 0), (113, B ((((((r260 && ((lN r142.1) == 2)) && (r159.2 == 41)) && (r176.1 == 4)) && (r176.2 == 0)) && (r180.2 == 2)) && (r204.1 == 3)))] fun a hS => ?_
  refine fX (tc := 113) (b := ((((((r260 && ((lN r142.1) == 2)) && (r159.2 == 41)) && (r176.1 == 4)) && (r176.2 == 0)) && (r180.2 == 2)) && (r204.1 == 3))) (f := fun c => ⟨[(16, Sl a219 r218.1 c220), (17, Sl a222 r218.2 c223), (18, Pt 19 0), (116, B (c && (r204.2 == 32)))], [(19, (45, [I r238.ar.ao, I r238.ar.av, I r238.ar.aC, Sl a239 r238.ar.Rows c240, Sl a242 r238.aj c243]))]⟩) T [48, 49, 50] [19] [16, 17, 18, 116] hS kr kr kr kr hH (listed' := #[true, true, true, true, true, true, true, true, true, true, true, true, true, true, true, true, true, true, true, true, true, true, true, true, true, true, true, true, true, true, true, true, true, true, true, true, true, true, true, true, true, true, true, true, true, true, true, true, true, true, true, false, false, false, false, false, false, false, false, false, false, false, false, false, false, false, false, false, false, false, false, false, false, false, false, false, false, false, false]) (fuel := 28) kr kr (by rfl) ?_
  intro a hS
  refine tkc T [51] [19] hS hH #[true, true, true, true, true, true, true, true, true, true, true, true, true, true, true, true, true, true, true, true, true, true, true, true, true, true, true, true, true, true, true, true, true, true, true, true, true, true, true, true, true, true, true, true, true, true, true, true, true, true, true, true, false, false, false, false, false, false, false, false, false, false, false, false, false, false, false, false, false, false, false, false, false, false, false, false, false, false, false] 27 [(16, Sl a219 r218.1 c220), (17, Sl a222 r218.2 c223), (18, Pt 19 0), (117, B (((((((r260 && ((lN r142.1) == 2)) && (r159.2 == 41)) && (r176.1 == 4)) && (r176.2 == 0)) && (r180.2 == 2)) && (r204.1 == 3)) && (r204.2 == 32)))] fun a hS => ?_
  refine fX (tc := 117) (b := (((((((r260 && ((lN r142.1) == 2)) && (r159.2 == 41)) && (r176.1 == 4)) && (r176.2 == 0)) && (r180.2 == 2)) && (r204.1 == 3)) && (r204.2 == 32))) (f := fun c => ⟨[(17, Sl a222 r218.2 c223), (18, Pt 19 0), (121, B (c && ((lN r218.1) == 2)))], [(19, (45, [I r238.ar.ao, I r238.ar.av, I r238.ar.aC, Sl a239 r238.ar.Rows c240, Sl a242 r238.aj c243]))]⟩) T [52, 53, 54, 55] [19] [17, 18, 121] hS kr kr kr kr hH (listed' := #[true, true, true, true, true, true, true, true, true, true, true, true, true, true, true, true, true, true, true, true, true, true, true, true, true, true, true, true, true, true, true, true, true, true, true, true, true, true, true, true, true, true, true, true, true, true, true, true, true, true, true, true, true, true, true, true, false, false, false, false, false, false, false, false, false, false, false, false, false, false, false, false, false, false, false, false, false, false, false]) (fuel := 23) kr kr (by rfl) ?_
  intro a hS
  refine tkc T [56] [19] hS hH #[true, true, true, true, true, true, true, true, true, true, true, true, true, true, true, true, true, true, true, true, true, true, true, true, true, true, true, true, true, true, true, true, true, true, true, true, true, true, true, true, true, true, true, true, true, true, true, true, true, true, true, true, true, true, true, true, true, false, false, false, false, false, false, false, false, false, false, false, false, false, false, false, false, false, false, false, false, false, false] 22 [(17, Sl a222 r218.2 c223), (18, Pt 19 0), (122, B ((((((((r260 && ((lN r142.1) == 2)) && (r159.2 == 41)) && (r176.1 == 4)) && (r176.2 == 0)) && (r180.2 == 2)) && (r204.1 == 3)) && (r204.2 == 32)) && ((lN r218.1) == 2)))] fun a hS => ?_
  rcases bft ((((((((r260 && ((lN r142.1) == 2)) && (r159.2 == 41)) && (r176.1 == 4)) && (r176.2 == 0)) && (r180.2 == 2)) && (r204.1 == 3)) && (r204.2 == 32)) && ((lN r218.1) == 2)) with hb | hb
  ·replace hS := hS.lit (t := 122) kr hb
   replace hm := hm.1 hb
   refine tkc T [57] [19] hS hH #[true, true, true, true, true, true, true, true, true, true, true, true, true, true, true, true, true, true, true, true, true, true, true, true, true, true, true, true, true, true, true, true, true, true, true, true, true, true, true, true, true, true, true, true, true, true, true, true, true, true, true, true, true, true, true, true, true, true, false, false, false, false, false, false, false, false, false, false, false, false, false, false, false, false, false, false, false, false, false] 21 [(18, Pt 19 0), (122, B true), (123, Sl a222 r218.2 c223)] fun a hS => ?_
   refine only 58 kr (by rfl) (lit (E := 3) (col := 0) (T := tI) (vals := [.int .i64 0, .int .i64 1]) (ys := [0, 1]) T hS kr kr kr kr (by exact ⟨rfl, rfl, trivial⟩) rfl kr kr kr kr ?_)
   intro b261 a w262 X263 hE h264 hN hS
   clear hN
   replace hO := hO.m2 hE
   replace hD := hD.ev hE rfl
   replace h145 := h145.m1 hE
   replace h221 := h221.m1 hE
   replace h224 := h224.m1 hE
   replace h241 := h241.m1 hE
   replace h244 := h244.m1 hE
   replace h253 := h253.m1 hE
   replace h256 := h256.m1 hE
   replace h264 := h264.rs0
   refine bX (bl.of hS (bks := [19]) kr hD) ?_
   intro hH
   refine only 59 kr (by rfl) (call hS kr kr hb14 kr (fun _ _ => rfl) (k14 _ _ r218.2 [0, 1] a222 c223 (some ⟨b261, 0, none⟩) 2 h224 h264) ?_)
   intro v265 a w266 X267 hE hp hS
   replace hO := hO.m2 hE
   replace hD := hD.ev hE rfl
   replace h145 := h145.m1 hE
   replace h221 := h221.m1 hE
   replace h224 := h224.m1 hE
   replace h241 := h241.m1 hE
   replace h244 := h244.m1 hE
   replace h253 := h253.m1 hE
   replace h256 := h256.m1 hE
   replace h264 := h264.m1 hE
   obtain ⟨r268, hr⟩ : ∃ r, cw r218.2 [0, 1] = r := ⟨_, rfl⟩
   replace hm := hm r268 hr
   rw [hr] at hp
   clear hr
   subst hp
   replace hS := hS.slb [(18, Pt 19 0), (122, B true), (123, Sl a222 r218.2 c223), (124, Sl (some ⟨b261, 0, none⟩) [0, 1] 2), (125, B r268)]
   refine bX (bl.of hS (bks := [19]) kr hD) ?_
   intro hH
   refine tkc T [60, 61] [19] hS hH #[true, true, true, true, true, true, true, true, true, true, true, true, true, true, true, true, true, true, true, true, true, true, true, true, true, true, true, true, true, true, true, true, true, true, true, true, true, true, true, true, true, true, true, true, true, true, true, true, true, true, true, true, true, true, true, true, true, true, true, true, true, true, false, false, false, false, false, false, false, false, false, false, false, false, false, false, false, false, false] 17 [(18, Pt 19 0), (127, B r268)] fun a hS => ?_
   refine fX (tc := 127) (b := r268) (f := fun c => ⟨[(18, Pt 19 0), (132, B (c && ((lN r238.aj) == 2)))], [(19, (45, [I r238.ar.ao, I r238.ar.av, I r238.ar.aC, Sl a239 r238.ar.Rows c240, Sl a242 r238.aj c243]))]⟩) T [62, 63, 64, 65, 66] [19] [18, 132] hS kr kr kr kr hH (listed' := #[true, true, true, true, true, true, true, true, true, true, true, true, true, true, true, true, true, true, true, true, true, true, true, true, true, true, true, true, true, true, true, true, true, true, true, true, true, true, true, true, true, true, true, true, true, true, true, true, true, true, true, true, true, true, true, true, true, true, true, true, true, true, true, true, true, true, true, false, false, false, false, false, false, false, false, false, false, false, false]) (fuel := 12) kr kr (by rfl) ?_
   intro a hS
   refine tkc T [67] [19] hS hH #[true, true, true, true, true, true, true, true, true, true, true, true, true, true, true, true, true, true, true, true, true, true, true, true, true, true, true, true, true, true, true, true, true, true, true, true, true, true, true, true, true, true, true, true, true, true, true, true, true, true, true, true, true, true, true, true, true, true, true, true, true, true, true, true, true, true, true, true, false, false, false, false, false, false, false, false, false, false, false] 11 [(18, Pt 19 0), (133, B (r268 && ((lN r238.aj) == 2)))] fun a hS => ?_
   rcases bft (r268 && ((lN r238.aj) == 2)) with hb | hb
   ·replace hS := hS.lit (t := 133) kr hb
    replace hm := hm.1 hb
    refine tkc T [68, 69] [19] hS hH #[true, true, true, true, true, true, true, true, true, true, true, true, true, true, true, true, true, true, true, true, true, true, true, true, true, true, true, true, true, true, true, true, true, true, true, true, true, true, true, true, true, true, true, true, true, true, true, true, true, true, true, true, true, true, true, true, true, true, true, true, true, true, true, true, true, true, true, true, true, true, false, false, false, false, false, false, false, false, false] 9 [(133, B true), (135, V (.agg #[.int .i64 r238.ar.ao, .int .i64 r238.ar.av, .int .i64 r238.ar.aC, .slice a239 r238.ar.Rows.length c240]))] fun a hS => ?_
    refine only 70 kr (by rfl) (call hS kr kr hb22 kr (fun _ _ => rfl) (k22 _ _) ?_)
    intro v269 a w270 X271 hE hp hS
    replace hO := hO.m2 hE
    replace hD := hD.ev hE rfl
    replace h145 := h145.m1 hE
    replace h221 := h221.m1 hE
    replace h224 := h224.m1 hE
    replace h241 := h241.m1 hE
    replace h244 := h244.m1 hE
    replace h253 := h253.m1 hE
    replace h256 := h256.m1 hE
    replace h264 := h264.m1 hE
    obtain ⟨a273, c274, hp, h275⟩ := hp
    obtain ⟨r272, hr⟩ : ∃ r, cn = r := ⟨_, rfl⟩
    replace hm := hm r272 hr
    rw [hr] at hp h275
    clear hr
    subst hp
    replace hm := hm (h275.sm kr)
    replace hS := hS.slb [(133, B true), (135, V (.agg #[.int .i64 r238.ar.ao, .int .i64 r238.ar.av, .int .i64 r238.ar.aC, .slice a239 r238.ar.Rows.length c240])), (136, V (.agg #[.int .i64 r272.ao, .int .i64 r272.av, .int .i64 r272.aC, .slice a273 r272.Rows.length c274]))]
    refine bX (bl.of hS (bks := [19]) kr hD) ?_
    intro hH
    refine only 71 kr (by rfl) (call hS kr kr hb16 kr (fun _ _ => rfl) (k16 _ _ r238.ar r272 a239 c240 a273 c274 h241 h275) ?_)
    intro v276 a w277 X278 hE hp hS
    replace hO := hO.m2 hE
    replace hD := hD.ev hE rfl
    replace h145 := h145.m1 hE
    replace h221 := h221.m1 hE
    replace h224 := h224.m1 hE
    replace h241 := h241.m1 hE
    replace h244 := h244.m1 hE
    replace h253 := h253.m1 hE
    replace h256 := h256.m1 hE
    replace h264 := h264.m1 hE
    replace h275 := h275.m1 hE
    obtain ⟨r279, hr⟩ : ∃ r, cV r238.ar r272 = r := ⟨_, rfl⟩
    replace hm := hm r279 hr
    rw [hr] at hp
    clear hr
    subst hp
    replace hS := hS.slb [(133, B true), (135, V (.agg #[.int .i64 r238.ar.ao, .int .i64 r238.ar.av, .int .i64 r238.ar.aC, .slice a239 r238.ar.Rows.length c240])), (136, V (.agg #[.int .i64 r272.ao, .int .i64 r272.av, .int .i64 r272.aC, .slice a273 r272.Rows.length c274])), (137, B r279)]
    refine bX (bl.of hS (bks := [19]) kr hD) ?_
    intro hH
    refine tkc T [72, 73] [19] hS hH #[true, true, true, true, true, true, true, true, true, true, true, true, true, true, true, true, true, true, true, true, true, true, true, true, true, true, true, true, true, true, true, true, true, true, true, true, true, true, true, true, true, true, true, true, true, true, true, true, true, true, true, true, true, true, true, true, true, true, true, true, true, true, true, true, true, true, true, true, true, true, true, true, true, true, false, false, false, false, false] 5 [(139, B r279)] fun a hS => ?_
    rcases bft r279 with hb | hb
    ·replace hS := hS.lit (t := 139) kr hb
     replace hm := hm.1 hb
     refine only 74 kr (by rfl) (call hS kr kr hb19 kr (fun _ _ => rfl) (k19 _ _ 0 0) ?_)
     intro v280 a w281 X282 hE hp hS
     replace hO := hO.m2 hE
     replace hD := hD.ev hE rfl
     replace h145 := h145.m1 hE
     replace h221 := h221.m1 hE
     replace h224 := h224.m1 hE
     replace h241 := h241.m1 hE
     replace h244 := h244.m1 hE
     replace h253 := h253.m1 hE
     replace h256 := h256.m1 hE
     replace h264 := h264.m1 hE
     replace h275 := h275.m1 hE
     obtain ⟨a284, c285, a287, c288, hp, h286, h289⟩ := hp
     obtain ⟨r283, hr⟩ : ∃ r, bN 0 = r := ⟨_, rfl⟩
     replace hm := hm r283 hr
     rw [hr] at hp h286 h289
     clear hr
     subst hp
     replace h289 := h289.rs0
     replace hm := hm (h286.sm kr)
     replace hm := hm (h289.sm kr)
     replace hS := hS.slb [(139, B true), (140, V (.agg #[.slice a284 r283.ae.length c285, .slice a287 r283.aj.length c288]))]
     refine bX (bl.of hS (bks := [19]) kr hD) ?_
     intro hH
     obtain ⟨hq, hm⟩ := hm
     refine only 75 kr (by rfl) (call hS kr kr hb21 kr (fun _ _ => rfl) (k21 _ _ r283 [] a284 c285 a287 c288 none 0 hq h286 h289 (RS.empty _ _ _)) ?_)
     intro v290 a w291 X292 hE hp hS
     replace hO := hO.m2 hE
     replace hD := hD.ev hE rfl
     replace h145 := h145.m1 hE
     replace h221 := h221.m1 hE
     replace h224 := h224.m1 hE
     replace h241 := h241.m1 hE
     replace h244 := h244.m1 hE
     replace h253 := h253.m1 hE
     replace h256 := h256.m1 hE
     replace h264 := h264.m1 hE
     replace h275 := h275.m1 hE
     replace h286 := h286.m1 hE
     replace h289 := h289.m1 hE
     obtain ⟨r293, hr⟩ : ∃ r, dT r283 [] = r := ⟨_, rfl⟩
     replace hm := hm r293 hr
     rw [hr] at hp
     clear hr
     subst hp
     replace hS := hS.slb [(139, B true), (140, V (.agg #[.slice a284 r283.ae.length c285, .slice a287 r283.aj.length c288])), (141, B r293)]
     refine bX (bl.of hS (bks := [19]) kr hD) ?_
     intro hH
     refine tkc T [76, 77, 78] [19] hS hH (tts 79) 0 [(0, B (!r293))] fun a hS => ?_
     refine aM kr ?_
     replace hS := hS.sl ⟨[(0, B (!r293))], []⟩
     refine aU ?_
     exact fin T hS hO (fun c => c) rfl (r := [.bool (!r293)]) kr (fun X' hM hC => ⟨(!r293), hm, rfl⟩)
    replace hS := hS.lit (t := 139) kr hb
    replace hm := hm.2 hb
    refine tkc T [74, 75, 76, 77, 78] [19] hS hH (tts 79) 0 [(0, B false)] fun a hS => ?_
    refine aM kr ?_
    replace hS := hS.sl ⟨[(0, B false)], []⟩
    refine aU ?_
    exact fin T hS hO (fun c => c) rfl (r := [.bool false]) kr (fun X' hM hC => ⟨false, hm, rfl⟩)
   replace hS := hS.lit (t := 133) kr hb
   replace hm := hm.2 hb
   refine tkc T [68, 70, 69, 71, 72, 73, 74, 75, 76, 77, 78] [19] hS hH (tts 79) 0 [(0, B false)] fun a hS => ?_
   refine aM kr ?_
   replace hS := hS.sl ⟨[(0, B false)], []⟩
   refine aU ?_
   exact fin T hS hO (fun c => c) rfl (r := [.bool false]) kr (fun X' hM hC => ⟨false, hm, rfl⟩)
  replace hS := hS.lit (t := 122) kr hb
  replace hm := hm.2 hb
  refine tkc T [57, 58, 59, 60, 61, 62, 63, 64, 65, 66, 67, 68, 70, 69, 71, 72, 73, 74, 75, 76, 77, 78] [19] hS hH (tts 79) 0 [(0, B false)] fun a hS => ?_
  refine aM kr ?_
  replace hS := hS.sl ⟨[(0, B false)], []⟩
  refine aU ?_
  exact fin T hS hO (fun c => c) rfl (r := [.bool false]) kr (fun X' hM hC => ⟨false, hm, rfl⟩)
 replace hS := hS.lit (t := 83) kr hb
 replace hm := hm.2 hb
 refine tkc T [18, 19, 20, 21, 22, 23, 24, 25, 26, 27, 28, 29, 30, 31, 32, 33, 34, 35, 36, 37, 38, 39, 40, 41, 42, 43, 44, 45, 46, 47, 48, 49, 50, 51, 52, 53, 54, 55, 56, 57, 58, 59, 60, 61, 62, 63, 64, 65, 66, 67, 68, 70, 69, 71, 72, 73, 74, 75, 76, 77, 78] [19] hS hH (tts 79) 0 [(0, B false)] fun a hS => ?_
 refine aM kr ?_
 replace hS := hS.sl ⟨[(0, B false)], []⟩
 refine aU ?_
 exact fin T hS hO (fun c => c) rfl (r := [.bool false]) kr (fun X' hM hC => ⟨false, hm, rfl⟩)
theorem C5 (k11 : S11) (k14 : S14) (k16 : S16) (k18 : S18) (k19 : S19) (k20 : S20) (k21 : S21) (k22 : S22) (k6 : S6) (k9 : S9) (v : ∀ (_ : Unit), VC5 (fun r => r = dj)) : S5 := by
 intro w X     
 refine (W5 k11 k14 k16 k18 k19 k20 k21 k22 k6 k9 w X     _ (v ())).mono ?_
 rintro _ _ _ _ ⟨r, rfl, h⟩
 exact h
theorem W3 (k10 : S10) (k11 : S11) (k12 : S12) (k13 : S13) (k14 : S14) (k15 : S15) (k16 : S16) (k4 : S4) (k5 : S5) (k6 : S6) (k7 : S7) (k8 : S8) (k9 : S9) (w0) (X0) (h_ : ak) (k_ : Int) (a1) (c1) (a2) (c2) (Q : Bool -> Prop) (hm : VC3 h_ k_ Q) (h1 : RS aE w0 X0 a1 h_.ae c1) (h2 : RS aK w0 X0 a2 h_.aj c2) :
  Ret Try.prog 3 #[.agg #[.slice a1 h_.ae.length c1, .slice a2 h_.aj.length c2], .int .i64 k_] aF w0 X0 (fun w X' v => ∃ r, Q r /\ v = .bool r) := by
 unfold VC3 at hm
 replace hm := hm (h1.sm kr)
 replace hm := hm (h2.sm kr)
 refine enter Try.func3 rfl (vals := [.agg #[.slice a1 h_.ae.length c1, .slice a2 h_.aj.length c2], .int .i64 k_]) kr ?_
 intro Z a hS hO hM
 replace h1 := h1.m0 hM
 replace h2 := h2.m0 hM
 refine rM T hS ⟨[(1, I k_), (2, Pt 3 0)], [(3, (25, [Sl a1 h_.ae c1, Sl a2 h_.aj c2]))]⟩ fun Z a w234 X235 hS hE hr => ?_
 replace hO := hO.m2 hE
 replace h1 := h1.m1 hE
 replace h2 := h2.m1 hE
 clear hE hr
 refine ba ?_
 refine bb ?_
 refine oPb T hS 1 [(1, I k_), (2, Pt 3 0), (16, V (.agg #[.slice a1 h_.ae.length c1, .slice a2 h_.aj.length c2]))] fun a hS => ?_
 refine op1 (call hS kr kr hb4 kr (fun _ _ => rfl) (k4 _ _ h_ a1 c1 a2 c2 h1 h2) ?_)
 intro v101 a w102 X103 hE hp hS
 replace hO := hO.m2 hE
 replace h1 := h1.m1 hE
 replace h2 := h2.m1 hE
 obtain ⟨r104, hr⟩ : ∃ r, eF h_ = r := ⟨_, rfl⟩
 replace hm := hm r104 hr
 rw [hr] at hp
 clear hr
 subst hp
 refine ePb T hS [(1, I k_), (2, Pt 3 0), (18, B (!r104))] fun a hS => ?_
 refine aG hS (b := (!r104)) kr (fun hb => ?_) fun hb => ?_
 ·replace hm := hm.1 hb
  refine bb ?_
  refine op1 (call hS kr kr hb5 kr (fun _ _ => rfl) (k5 _ _) ?_)
  intro v105 a w106 X107 hE hp hS
  replace hO := hO.m2 hE
  replace h1 := h1.m1 hE
  replace h2 := h2.m1 hE
  obtain ⟨r108, hr⟩ : ∃ r, dj = r := ⟨_, rfl⟩
  replace hm := hm r108 hr
  rw [hr] at hp
  clear hr
  subst hp
  refine eP T hS ⟨[(4, B r108)], []⟩ fun a hS => ?_
  refine aU ?_
  exact fin T hS hO (fun c => c) rfl (r := [.bool r108]) kr (fun X' hM hC => ⟨r108, hm, rfl⟩)
 replace hm := hm.2 hb
 refine aJ ?_
 refine bb ?_
 refine oPb T hS 1 [(1, I k_), (2, Pt 3 0), (21, V (.agg #[.slice a1 h_.ae.length c1, .slice a2 h_.aj.length c2]))] fun a hS => ?_
 obtain ⟨hq, hm⟩ := hm
 refine op1 (call hS kr kr hb6 kr (fun _ _ => rfl) (k6 _ _ h_ a1 c1 a2 c2 hq h1 h2) ?_)
 intro v109 a w110 X111 hE hp hS
 replace hO := hO.m2 hE
 replace h1 := h1.m1 hE
 replace h2 := h2.m1 hE
 obtain ⟨r112, hr⟩ : ∃ r, aV h_ = r := ⟨_, rfl⟩
 replace hm := hm r112 hr
 rw [hr] at hp
 clear hr
 subst hp
 refine ePb T hS [(1, I k_), (2, Pt 3 0), (5, I r112.1), (6, I r112.2)] fun a hS => ?_
 refine ct [3] mixed hS ?_
 intro w113 X114 hS hE hD hH
 replace hO := hO.m2 hE
 replace h1 := h1.m1 hE
 replace h2 := h2.m1 hE
 refine tkb T [0, 2, 1] [3] hS hH #[true, true, true, false, false, false, false, false, false, false] 7 [(1, I k_), (2, Pt 3 0), (5, I r112.1), (6, I r112.2), (27, Sl a1 h_.ae c1), (28, V (.agg #[.slice a1 h_.ae.length c1, .slice a2 h_.aj.length c2]))] fun a hS => ?_
 obtain ⟨hq, hm⟩ := hm
 refine only 3 kr (by rfl) (call hS kr kr hb8 kr (fun _ _ => rfl) (k8 _ _ h_ a1 c1 a2 c2 hq h1 h2) ?_)
 intro v115 a w116 X117 hE hp hS
 replace hO := hO.m2 hE
 replace hD := hD.ev hE rfl
 replace h1 := h1.m1 hE
 replace h2 := h2.m1 hE
 obtain ⟨a119, c120, hp, h121⟩ := hp
 obtain ⟨r118, hr⟩ : ∃ r, cN h_ = r := ⟨_, rfl⟩
 replace hm := hm r118 hr
 rw [hr] at hp h121
 clear hr
 subst hp
 replace hm := hm (h121.sm kr)
 replace hS := hS.slb [(1, I k_), (2, Pt 3 0), (5, I r112.1), (6, I r112.2), (27, Sl a1 h_.ae c1), (28, V (.agg #[.slice a1 h_.ae.length c1, .slice a2 h_.aj.length c2])), (29, Sl a119 r118 c120)]
 refine bX (bl.of hS (bks := [3]) kr hD) ?_
 intro hH
 obtain ⟨hq, hm⟩ := hm
 refine only 4 kr (by rfl) (call hS kr kr hb7 kr (fun _ _ => rfl) (k7 _ _ h_.ae r118 a1 c1 a119 c120 hq h1 h121) ?_)
 intro v122 a w123 X124 hE hp hS
 replace hO := hO.m2 hE
 replace hD := hD.ev hE rfl
 replace h1 := h1.m1 hE
 replace h2 := h2.m1 hE
 replace h121 := h121.m1 hE
 obtain ⟨r125, hr⟩ : ∃ r, cl h_.ae r118 = r := ⟨_, rfl⟩
 replace hm := hm r125 hr
 rw [hr] at hp
 clear hr
 subst hp
 replace hS := hS.slb [(1, I k_), (2, Pt 3 0), (5, I r112.1), (6, I r112.2), (27, Sl a1 h_.ae c1), (28, V (.agg #[.slice a1 h_.ae.length c1, .slice a2 h_.aj.length c2])), (29, Sl a119 r118 c120), (30, V (.tuple #[.int .i64 r125.1, .int .i64 r125.2]))]
 refine bX (bl.of hS (bks := [3]) kr hD) ?_
 intro hH
 refine tkb T [5, 6, 7, 8, 9] [3] hS hH (tts 10) 0 [(1, I k_), (2, Pt 3 0), (5, I r112.1), (6, I r112.2), (7, I r125.1), (8, I r125.2)] fun a hS => ?_
 refine aM kr ?_
 replace hS := hS.slb [(1, I k_), (2, Pt 3 0), (5, I r112.1), (6, I r112.2), (7, I r125.1), (8, I r125.2)]
 refine bb ?_
 refine oPb T hS 1 [(1, I k_), (2, Pt 3 0), (5, I r112.1), (6, I r112.2), (7, I r125.1), (8, I r125.2), (34, V (.agg #[.slice a1 h_.ae.length c1, .slice a2 h_.aj.length c2]))] fun a hS => ?_
 obtain ⟨hq, hm⟩ := hm
 refine op1 (call hS kr kr hb9 kr (fun _ _ => rfl) (k9 _ _ h_ a1 c1 a2 c2 hq h1 h2) ?_)
 intro v126 a w127 X128 hE hp hS
 replace hO := hO.m2 hE
 replace h1 := h1.m1 hE
 replace h2 := h2.m1 hE
 obtain ⟨a130, c131, a133, c134, hp, h132, h135⟩ := hp
 obtain ⟨r129, hr⟩ : ∃ r, bP h_ = r := ⟨_, rfl⟩
 replace hm := hm r129 hr
 rw [hr] at hp h132 h135
 clear hr
 subst hp
 replace hm := hm (h132.sm kr)
 replace hm := hm (h135.sm kr)
 refine ePb T hS [(1, I k_), (2, Pt 3 0), (5, I r112.1), (6, I r112.2), (7, I r125.1), (8, I r125.2), (9, Sl a130 r129.1 c131), (10, Sl a133 r129.2 c134)] fun a hS => ?_
 refine ct [3] mixed hS ?_
 intro w136 X137 hS hE hD hH
 replace hO := hO.m2 hE
 replace h1 := h1.m1 hE
 replace h2 := h2.m1 hE
 replace h132 := h132.m1 hE
 replace h135 := h135.m1 hE
 refine tkb T [0, 2, 1] [3] hS hH #[true, true, true, false, false, false, false, false, false, false] 7 [(1, I k_), (2, Pt 3 0), (5, I r112.1), (6, I r112.2), (7, I r125.1), (8, I r125.2), (9, Sl a130 r129.1 c131), (10, Sl a133 r129.2 c134), (40, Sl a1 h_.ae c1), (41, V (.agg #[.slice a1 h_.ae.length c1, .slice a2 h_.aj.length c2]))] fun a hS => ?_
 obtain ⟨hq, hm⟩ := hm
 refine only 3 kr (by rfl) (call hS kr kr hb8 kr (fun _ _ => rfl) (k8 _ _ h_ a1 c1 a2 c2 hq h1 h2) ?_)
 intro v138 a w139 X140 hE hp hS
 replace hO := hO.m2 hE
 replace hD := hD.ev hE rfl
 replace h1 := h1.m1 hE
 replace h2 := h2.m1 hE
 replace h132 := h132.m1 hE
 replace h135 := h135.m1 hE
 obtain ⟨a142, c143, hp, h144⟩ := hp
 obtain ⟨r141, hr⟩ : ∃ r, cN h_ = r := ⟨_, rfl⟩
 replace hm := hm r141 hr
 rw [hr] at hp h144
 clear hr
 subst hp
 replace hm := hm (h144.sm kr)
 replace hS := hS.slb [(1, I k_), (2, Pt 3 0), (5, I r112.1), (6, I r112.2), (7, I r125.1), (8, I r125.2), (9, Sl a130 r129.1 c131), (10, Sl a133 r129.2 c134), (40, Sl a1 h_.ae c1), (41, V (.agg #[.slice a1 h_.ae.length c1, .slice a2 h_.aj.length c2])), (42, Sl a142 r141 c143)]
 refine bX (bl.of hS (bks := [3]) kr hD) ?_
 intro hH
 obtain ⟨hq, hm⟩ := hm
 refine only 4 kr (by rfl) (call hS kr kr hb10 kr (fun _ _ => rfl) (k10 _ _ h_.ae r141 a1 c1 a142 c143 hq h1 h144) ?_)
 intro v145 a w146 X147 hE hp hS
 replace hO := hO.m2 hE
 replace hD := hD.ev hE rfl
 replace h1 := h1.m1 hE
 replace h2 := h2.m1 hE
 replace h132 := h132.m1 hE
 replace h135 := h135.m1 hE
 replace h144 := h144.m1 hE
 obtain ⟨a149, c150, a152, c153, hp, h151, h154⟩ := hp
 obtain ⟨r148, hr⟩ : ∃ r, df h_.ae r141 = r := ⟨_, rfl⟩
 replace hm := hm r148 hr
 rw [hr] at hp h151 h154
 clear hr
 subst hp
 replace hm := hm (h151.sm kr)
 replace hm := hm (h154.sm kr)
 replace hS := hS.slb [(1, I k_), (2, Pt 3 0), (5, I r112.1), (6, I r112.2), (7, I r125.1), (8, I r125.2), (9, Sl a130 r129.1 c131), (10, Sl a133 r129.2 c134), (40, Sl a1 h_.ae c1), (41, V (.agg #[.slice a1 h_.ae.length c1, .slice a2 h_.aj.length c2])), (42, Sl a142 r141 c143), (43, V (.tuple #[.slice a149 r148.1.length c150, .slice a152 r148.2.length c153]))]
 refine bX (bl.of hS (bks := [3]) kr hD) ?_
 intro hH
 refine tkb T [5, 6, 7, 8, 9] [3] hS hH (tts 10) 0 [(1, I k_), (2, Pt 3 0), (5, I r112.1), (6, I r112.2), (7, I r125.1), (8, I r125.2), (9, Sl a130 r129.1 c131), (10, Sl a133 r129.2 c134), (11, Sl a149 r148.1 c150), (12, Sl a152 r148.2 c153)] fun a hS => ?_
 refine aM kr ?_
 replace hS := hS.slb [(1, I k_), (2, Pt 3 0), (5, I r112.1), (6, I r112.2), (7, I r125.1), (8, I r125.2), (9, Sl a130 r129.1 c131), (10, Sl a133 r129.2 c134), (11, Sl a149 r148.1 c150), (12, Sl a152 r148.2 c153)]
 refine bb ?_
 refine oPb T hS 2 [(1, I k_), (2, Pt 3 0), (5, I r112.1), (6, I r112.2), (7, I r125.1), (8, I r125.2), (9, Sl a130 r129.1 c131), (10, Sl a133 r129.2 c134), (11, Sl a149 r148.1 c150), (12, Sl a152 r148.2 c153), (46, V (.agg #[.slice a1 h_.ae.length c1, .slice a2 h_.aj.length c2])), (47, I k_)] fun a hS => ?_
 obtain ⟨hq, hm⟩ := hm
 refine op1 (call hS kr kr hb11 kr (fun _ _ => rfl) (k11 _ _ h_ k_ a1 c1 a2 c2 hq h1 h2) ?_)
 intro v155 a w156 X157 hE hp hS
 replace hO := hO.m2 hE
 replace h1 := h1.m1 hE
 replace h2 := h2.m1 hE
 replace h132 := h132.m1 hE
 replace h135 := h135.m1 hE
 replace h151 := h151.m1 hE
 replace h154 := h154.m1 hE
 obtain ⟨a159, c160, a162, c163, hp, h161, h164⟩ := hp
 obtain ⟨r158, hr⟩ : ∃ r, cd h_ k_ = r := ⟨_, rfl⟩
 replace hm := hm r158 hr
 rw [hr] at hp h161 h164
 clear hr
 subst hp
 replace hm := hm (h161.sm kr)
 replace hm := hm (h164.sm kr)
 refine eM T hS ⟨[(1, I k_), (2, Pt 3 0), (5, I r112.1), (6, I r112.2), (7, I r125.1), (8, I r125.2), (9, Sl a130 r129.1 c131), (10, Sl a133 r129.2 c134), (11, Sl a149 r148.1 c150), (12, Sl a152 r148.2 c153), (13, Pt 14 0)], [(3, (25, [Sl a1 h_.ae c1, Sl a2 h_.aj c2])), (14, (45, [I r158.ar.ao, I r158.ar.av, I r158.ar.aC, Sl a159 r158.ar.Rows c160, Sl a162 r158.aj c163]))]⟩ fun Z a w232 X233 hS hE hr => ?_
 replace hO := hO.m2 hE
 replace h1 := h1.m1 hE
 replace h2 := h2.m1 hE
 replace h132 := h132.m1 hE
 replace h135 := h135.m1 hE
 replace h151 := h151.m1 hE
 replace h154 := h154.m1 hE
 replace h161 := h161.m1 hE
 replace h164 := h164.m1 hE
 clear hE hr
 refine ct [3, 14] mixed hS ?_
 intro w165 X166 hS hE hD hH
 replace hO := hO.m2 hE
 replace h1 := h1.m1 hE
 replace h2 := h2.m1 hE
 replace h132 := h132.m1 hE
 replace h135 := h135.m1 hE
 replace h151 := h151.m1 hE
 replace h154 := h154.m1 hE
 replace h161 := h161.m1 hE
 replace h164 := h164.m1 hE
 refine tkb T [0, 2, 4, 1] [3, 14] hS hH #[true, true, true, false, true, false, false, false, false, false, false] 7 [(1, I k_), (2, Pt 3 0), (5, I r112.1), (6, I r112.2), (7, I r125.1), (8, I r125.2), (9, Sl a130 r129.1 c131), (10, Sl a133 r129.2 c134), (11, Sl a149 r148.1 c150), (12, Sl a152 r148.2 c153), (13, Pt 14 0), (51, Sl a1 h_.ae c1), (52, V (.agg #[.slice a1 h_.ae.length c1, .slice a2 h_.aj.length c2])), (54, I k_)] fun a hS => ?_
 obtain ⟨hq, hm⟩ := hm
 refine only 3 kr (by rfl) (call hS kr kr hb8 kr (fun _ _ => rfl) (k8 _ _ h_ a1 c1 a2 c2 hq h1 h2) ?_)
 intro v167 a w168 X169 hE hp hS
 replace hO := hO.m2 hE
 replace hD := hD.ev hE rfl
 replace h1 := h1.m1 hE
 replace h2 := h2.m1 hE
 replace h132 := h132.m1 hE
 replace h135 := h135.m1 hE
 replace h151 := h151.m1 hE
 replace h154 := h154.m1 hE
 replace h161 := h161.m1 hE
 replace h164 := h164.m1 hE
 obtain ⟨a171, c172, hp, h173⟩ := hp
 obtain ⟨r170, hr⟩ : ∃ r, cN h_ = r := ⟨_, rfl⟩
 replace hm := hm r170 hr
 rw [hr] at hp h173
 clear hr
 subst hp
 replace hm := hm (h173.sm kr)
 replace hS := hS.slb [(1, I k_), (2, Pt 3 0), (5, I r112.1), (6, I r112.2), (7, I r125.1), (8, I r125.2), (9, Sl a130 r129.1 c131), (10, Sl a133 r129.2 c134), (11, Sl a149 r148.1 c150), (12, Sl a152 r148.2 c153), (13, Pt 14 0), (51, Sl a1 h_.ae c1), (52, V (.agg #[.slice a1 h_.ae.length c1, .slice a2 h_.aj.length c2])), (54, I k_), (53, Sl a171 r170 c172)]
 refine bX (bl.of hS (bks := [3, 14]) kr hD) ?_
 intro hH
 obtain ⟨hq, hm⟩ := hm
 refine only 5 kr (by rfl) (call hS kr kr hb12 kr (fun _ _ => rfl) (k12 _ _ h_.ae r170 k_ a1 c1 a171 c172 hq h1 h173) ?_)
 intro v174 a w175 X176 hE hp hS
 replace hO := hO.m2 hE
 replace hD := hD.ev hE rfl
 replace h1 := h1.m1 hE
 replace h2 := h2.m1 hE
 replace h132 := h132.m1 hE
 replace h135 := h135.m1 hE
 replace h151 := h151.m1 hE
 replace h154 := h154.m1 hE
 replace h161 := h161.m1 hE
 replace h164 := h164.m1 hE
 replace h173 := h173.m1 hE
 obtain ⟨a178, c179, hp, h180⟩ := hp
 obtain ⟨r177, hr⟩ : ∃ r, dv h_.ae r170 k_ = r := ⟨_, rfl⟩
 replace hm := hm r177 hr
 rw [hr] at hp h180
 clear hr
 subst hp
 replace hm := hm (h180.sm kr)
 replace hS := hS.slb [(1, I k_), (2, Pt 3 0), (5, I r112.1), (6, I r112.2), (7, I r125.1), (8, I r125.2), (9, Sl a130 r129.1 c131), (10, Sl a133 r129.2 c134), (11, Sl a149 r148.1 c150), (12, Sl a152 r148.2 c153), (13, Pt 14 0), (51, Sl a1 h_.ae c1), (52, V (.agg #[.slice a1 h_.ae.length c1, .slice a2 h_.aj.length c2])), (54, I k_), (53, Sl a171 r170 c172), (55, V (.tuple #[.slice a178 r177.1.length c179, .bool r177.2]))]
 refine bX (bl.of hS (bks := [3, 14]) kr hD) ?_
 intro hH
 refine tkb T [6, 7, 8, 9, 10] [3, 14] hS hH (tts 11) 0 [(1, I k_), (2, Pt 3 0), (5, I r112.1), (6, I r112.2), (7, I r125.1), (8, I r125.2), (9, Sl a130 r129.1 c131), (10, Sl a133 r129.2 c134), (11, Sl a149 r148.1 c150), (12, Sl a152 r148.2 c153), (13, Pt 14 0), (14, Sl a178 r177.1 c179), (15, B r177.2)] fun a hS => ?_
 refine aM kr ?_
 replace hS := hS.slb [(1, I k_), (2, Pt 3 0), (5, I r112.1), (6, I r112.2), (7, I r125.1), (8, I r125.2), (9, Sl a130 r129.1 c131), (10, Sl a133 r129.2 c134), (11, Sl a149 r148.1 c150), (12, Sl a152 r148.2 c153), (13, Pt 14 0), (14, Sl a178 r177.1 c179), (15, B r177.2)]
 refine ba ?_
 refine bU (fun a w => ∃ (Z : Nat -> Nat) (X : Nat -> Nat) (y181 : Bool), VC3_J1 h_ k_ Q r158 r177 y181 /\ St Try.f3.ntmps ⟨[(1, I k_), (2, Pt 3 0), (13, Pt 14 0), (15, B r177.2), (84, B y181)], [(3, (25, [Sl a1 h_.ae c1, Sl a2 h_.aj c2])), (14, (45, [I r158.ar.ao, I r158.ar.av, I r158.ar.aC, Sl a159 r158.ar.Rows c160, Sl a162 r158.aj c163]))]⟩ Z a w X /\ Old w0 X0 w X /\ RS aE w X a1 h_.ae c1 /\ RS aK w X a2 h_.aj c2 /\ RS aw w X a159 r158.ar.Rows c160 /\ RS az w X a162 r158.aj c163) ?_ ?_
 ·refine region ?_
  refine oPb T hS 9 [(1, I k_), (2, Pt 3 0), (9, Sl a130 r129.1 c131), (10, Sl a133 r129.2 c134), (11, Sl a149 r148.1 c150), (12, Sl a152 r148.2 c153), (13, Pt 14 0), (14, Sl a178 r177.1 c179), (15, B r177.2), (66, B ((r112.1 != r125.1) || (r112.2 != r125.2)))] (sp := [61]) fun a hS => ?_
  rcases bft ((r112.1 != r125.1) || (r112.2 != r125.2)) with hb | hb
  ·replace hS := hS.lit (t := 66) kr hb
   replace hm := hm.1 hb
   refine ePb T hS [(1, I k_), (2, Pt 3 0), (13, Pt 14 0), (15, B r177.2), (84, B true)] fun a hS => ?_
   exact ⟨Z, _, true, hm, hS.sl _, hO, h1, h2, h161, h164⟩
  replace hS := hS.lit (t := 66) kr hb
  replace hm := hm.2 hb
  refine oPb T hS 2 [(1, I k_), (2, Pt 3 0), (10, Sl a133 r129.2 c134), (12, Sl a152 r148.2 c153), (13, Pt 14 0), (14, Sl a178 r177.1 c179), (15, B r177.2), (66, B false), (67, Sl a130 r129.1 c131), (68, Sl a149 r148.1 c150)] fun a hS => ?_
  refine op1 (call hS kr kr hb13 kr (fun _ _ => rfl) (k13 _ _ r129.1 r148.1 a130 c131 a149 c150 h132 h151) ?_)
  intro v218 a w219 X220 hE hp hS
  replace hO := hO.m2 hE
  replace h1 := h1.m1 hE
  replace h2 := h2.m1 hE
  replace h132 := h132.m1 hE
  replace h135 := h135.m1 hE
  replace h151 := h151.m1 hE
  replace h154 := h154.m1 hE
  replace h161 := h161.m1 hE
  replace h164 := h164.m1 hE
  replace h180 := h180.m1 hE
  obtain ⟨r221, hr⟩ : ∃ r, eS r129.1 r148.1 = r := ⟨_, rfl⟩
  replace hm := hm r221 hr
  rw [hr] at hp
  clear hr
  subst hp
  refine oPb T hS 3 [(1, I k_), (2, Pt 3 0), (10, Sl a133 r129.2 c134), (12, Sl a152 r148.2 c153), (13, Pt 14 0), (14, Sl a178 r177.1 c179), (15, B r177.2), (72, B (!r221))] fun a hS => ?_
  rcases bft (!r221) with hb | hb
  ·replace hS := hS.lit (t := 72) kr hb
   replace hm := hm.1 hb
   refine ePb T hS [(1, I k_), (2, Pt 3 0), (13, Pt 14 0), (15, B r177.2), (84, B true)] fun a hS => ?_
   exact ⟨Z, _, true, hm, hS.sl _, hO, h1, h2, h161, h164⟩
  replace hS := hS.lit (t := 72) kr hb
  replace hm := hm.2 hb
  refine oPb T hS 2 [(1, I k_), (2, Pt 3 0), (13, Pt 14 0), (14, Sl a178 r177.1 c179), (15, B r177.2), (72, B false), (73, Sl a133 r129.2 c134), (74, Sl a152 r148.2 c153)] fun a hS => ?_
  refine op1 (call hS kr kr hb14 kr (fun _ _ => rfl) (k14 _ _ r129.2 r148.2 a133 c134 a152 c153 h135 h154) ?_)
  intro v222 a w223 X224 hE hp hS
  replace hO := hO.m2 hE
  replace h1 := h1.m1 hE
  replace h2 := h2.m1 hE
  replace h135 := h135.m1 hE
  replace h154 := h154.m1 hE
  replace h161 := h161.m1 hE
  replace h164 := h164.m1 hE
  replace h180 := h180.m1 hE
  obtain ⟨r225, hr⟩ : ∃ r, cw r129.2 r148.2 = r := ⟨_, rfl⟩
  replace hm := hm r225 hr
  rw [hr] at hp
  clear hr
  subst hp
  refine oPb T hS 3 [(1, I k_), (2, Pt 3 0), (13, Pt 14 0), (14, Sl a178 r177.1 c179), (15, B r177.2), (78, B (!r225))] fun a hS => ?_
  rcases bft (!r225) with hb | hb
  ·replace hS := hS.lit (t := 78) kr hb
   replace hm := hm.1 hb
   refine ePb T hS [(1, I k_), (2, Pt 3 0), (13, Pt 14 0), (15, B r177.2), (84, B true)] fun a hS => ?_
   exact ⟨Z, _, true, hm, hS.sl _, hO, h1, h2, h161, h164⟩
  replace hS := hS.lit (t := 78) kr hb
  replace hm := hm.2 hb
  refine oPb T hS 3 [(1, I k_), (2, Pt 3 0), (13, Pt 14 0), (15, B r177.2), (78, B false), (80, Sl a162 r158.aj c163), (81, Sl a178 r177.1 c179)] fun a hS => ?_
  refine op1 (call hS kr kr hb15 kr (fun _ _ => rfl) (k15 _ _ r158.aj r177.1 a162 c163 a178 c179 h164 h180) ?_)
  intro v226 a w227 X228 hE hp hS
  replace hO := hO.m2 hE
  replace h1 := h1.m1 hE
  replace h2 := h2.m1 hE
  replace h161 := h161.m1 hE
  replace h164 := h164.m1 hE
  replace h180 := h180.m1 hE
  obtain ⟨r229, hr⟩ : ∃ r, dG r158.aj r177.1 = r := ⟨_, rfl⟩
  replace hm := hm r229 hr
  rw [hr] at hp
  clear hr
  subst hp
  refine ePb T hS [(1, I k_), (2, Pt 3 0), (13, Pt 14 0), (15, B r177.2), (84, B (!r229))] fun a hS => ?_
  exact ⟨Z, _, (!r229), hm, hS.sl _, hO, h1, h2, h161, h164⟩
 rintro a w231 ⟨Z, X230, y181, hm, hS, hO, h182, h183, h184, h185⟩
 unfold VC3_J1 at hm
 refine aG hS (b := y181) kr (fun hb => ?_) fun hb => ?_
 ·replace hm := hm.1 hb
  refine rP T hS ⟨[(4, B false)], []⟩ fun a hS => ?_
  refine aU ?_
  exact fin T hS hO (fun c => c) rfl (r := [.bool false]) kr (fun X' hM hC => ⟨false, hm, rfl⟩)
 replace hm := hm.2 hb
 refine aJ ?_
 refine ct [3, 14] mixed hS ?_
 intro w186 X187 hS hE hD hH
 replace hO := hO.m2 hE
 replace h182 := h182.m1 hE
 replace h183 := h183.m1 hE
 replace h184 := h184.m1 hE
 replace h185 := h185.m1 hE
 refine tkb T [0, 1] [3, 14] hS hH #[true, true, false, false, false, false, false, false, false, false, false, false, false, false, false, false, false, false, false, false, false, false, false, false, false] 23 [(1, I k_), (2, Pt 3 0), (13, Pt 14 0), (15, B r177.2), (86, B r177.2)] fun a hS => ?_
 rcases bft r177.2 with hb | hb
 ·replace hS := hS.lit (t := 86) kr hb
  replace hm := hm.1 hb
  refine tkb T [2, 4, 6, 3, 5] [3, 14] hS hH #[true, true, true, true, true, true, true, false, false, false, false, false, false, false, false, false, false, false, false, false, false, false, false, false, false] 18 [(13, Pt 14 0), (15, B r177.2), (86, B true), (88, V (.agg #[.int .i64 r158.ar.ao, .int .i64 r158.ar.av, .int .i64 r158.ar.aC, .slice a159 r158.ar.Rows.length c160])), (90, Sl a1 h_.ae c1), (91, I k_)] fun a hS => ?_
  obtain ⟨hq, hm⟩ := hm
  refine cD (e := 42) (k := .i64) T 7 hS kr kr kr (by rfl) kr hH kr kr h182 kr kr hq.1 hq.2 ?_
  intro A188 a h189 hS
  have h189b := h189.here
  refine fB T 8 hS kr kr kr (by rfl) kr hH kr h189 h189b kr kr ?_
  intro v190 a hv hS
  obtain ⟨a191, c192, hv, h193⟩ := hv
  subst hv
  replace hm := hm (h193.sm kr)
  refine only 9 kr (by rfl) (call hS kr kr hb16 kr (fun _ _ => rfl) (k16 _ _ r158.ar (gi h_.ae k_) a159 c160 a191 c192 h184 h193) ?_)
  intro v194 a w195 X196 hE hp hS
  replace hO := hO.m2 hE
  replace hD := hD.ev hE rfl
  replace h182 := h182.m1 hE
  replace h183 := h183.m1 hE
  replace h184 := h184.m1 hE
  replace h185 := h185.m1 hE
  replace h189 := h189.m1 hE
  replace h193 := h193.m1 hE
  obtain ⟨r197, hr⟩ : ∃ r, cV r158.ar (gi h_.ae k_) = r := ⟨_, rfl⟩
  replace hm := hm r197 hr
  rw [hr] at hp
  clear hr
  subst hp
  replace hS := hS.slb [(13, Pt 14 0), (15, B r177.2), (86, B true), (88, V (.agg #[.int .i64 r158.ar.ao, .int .i64 r158.ar.av, .int .i64 r158.ar.aC, .slice a159 r158.ar.Rows.length c160])), (90, Sl a1 h_.ae c1), (91, I k_), (92, V (.pointer (some A188))), (93, V (.agg #[.int .i64 ((gi h_.ae k_).ao), .int .i64 ((gi h_.ae k_).av), .int .i64 ((gi h_.ae k_).aC), .slice a191 ((gi h_.ae k_).Rows).length c192])), (94, B r197)]
  refine bX (bl.of hS (bks := [3, 14]) kr hD) ?_
  intro hH
  refine tkb T [10, 11] [3, 14] hS hH #[true, true, true, true, true, true, true, true, true, true, true, true, false, false, false, false, false, false, false, false, false, false, false, false, false] 13 [(13, Pt 14 0), (15, B r177.2), (96, B r197)] fun a hS => ?_
  rcases bft r197 with hb | hb
  ·replace hS := hS.lit (t := 96) kr hb
   replace hm := hm.1 hb
   refine tkb T [12, 13, 14, 15, 17, 16, 18, 19, 20, 21] [3, 14] hS hH #[true, true, true, true, true, true, true, true, true, true, true, true, true, true, true, true, true, true, true, true, true, true, false, false, false] 3 [(106, B true)] fun a hS => ?_
   refine only 22 kr (by rfl) (call hS kr kr hb5 kr (fun _ _ => rfl) (k5 _ _) ?_)
   intro v198 a w199 X200 hE hp hS
   replace hO := hO.m2 hE
   replace hD := hD.ev hE rfl
   replace h182 := h182.m1 hE
   replace h183 := h183.m1 hE
   replace h184 := h184.m1 hE
   replace h185 := h185.m1 hE
   replace h189 := h189.m1 hE
   replace h193 := h193.m1 hE
   obtain ⟨r201, hr⟩ : ∃ r, dj = r := ⟨_, rfl⟩
   replace hm := hm r201 hr
   rw [hr] at hp
   clear hr
   subst hp
   replace hS := hS.slb [(106, B true), (107, B r201)]
   refine bX (bl.of hS (bks := [3, 14]) kr hD) ?_
   intro hH
   refine tkb T [23, 24] [3, 14] hS hH (tts 25) 0 [(4, B r201)] fun a hS => ?_
   refine aM kr ?_
   replace hS := hS.sl ⟨[(4, B r201)], []⟩
   refine aU ?_
   exact fin T hS hO (fun c => c) rfl (r := [.bool r201]) kr (fun X' hM hC => ⟨r201, hm, rfl⟩)
  replace hS := hS.lit (t := 96) kr hb
  replace hm := hm.2 hb
  refine tkb T [12, 13, 14] [3, 14] hS hH #[true, true, true, true, true, true, true, true, true, true, true, true, true, true, true, false, false, false, false, false, false, false, false, false, false] 10 [(13, Pt 14 0), (96, B false), (99, B (!r177.2))] fun a hS => ?_
  rcases bft (!r177.2) with hb | hb
  ·replace hS := hS.lit (t := 99) kr hb
   replace hm := hm.1 hb
   refine tkb T [15, 17, 16] [3, 14] hS hH #[true, true, true, true, true, true, true, true, true, true, true, true, true, true, true, true, true, true, false, false, false, false, false, false, false] 7 [(96, B false), (99, B true), (101, V (.agg #[.int .i64 r158.ar.ao, .int .i64 r158.ar.av, .int .i64 r158.ar.aC, .slice a159 r158.ar.Rows.length c160])), (102, V (.agg #[.int .i64 0, .int .i64 0, .int .i64 0, .slice none 0 0]))] fun a hS => ?_
   refine only 18 kr (by rfl) (call hS kr kr hb16 kr (fun _ _ => rfl) (k16 _ _ r158.ar (⟨0, 0, 0, []⟩ : ai) a159 c160 none 0 h184 (RS.empty _ _ _)) ?_)
   intro v202 a w203 X204 hE hp hS
   replace hO := hO.m2 hE
   replace hD := hD.ev hE rfl
   replace h182 := h182.m1 hE
   replace h183 := h183.m1 hE
   replace h184 := h184.m1 hE
   replace h185 := h185.m1 hE
   replace h189 := h189.m1 hE
   replace h193 := h193.m1 hE
   obtain ⟨r205, hr⟩ : ∃ r, cV r158.ar (⟨0, 0, 0, []⟩ : ai) = r := ⟨_, rfl⟩
   replace hm := hm r205 hr
   rw [hr] at hp
   clear hr
   subst hp
   replace hS := hS.slb [(96, B false), (99, B true), (101, V (.agg #[.int .i64 r158.ar.ao, .int .i64 r158.ar.av, .int .i64 r158.ar.aC, .slice a159 r158.ar.Rows.length c160])), (102, V (.agg #[.int .i64 0, .int .i64 0, .int .i64 0, .slice none 0 0])), (103, B r205)]
   refine bX (bl.of hS (bks := [3, 14]) kr hD) ?_
   intro hH
   refine tkb T [19, 20, 21] [3, 14] hS hH #[true, true, true, true, true, true, true, true, true, true, true, true, true, true, true, true, true, true, true, true, true, true, false, false, false] 3 [(106, B r205)] fun a hS => ?_
   rcases bft r205 with hb | hb
   ·replace hS := hS.lit (t := 106) kr hb
    replace hm := hm.1 hb
    refine only 22 kr (by rfl) (call hS kr kr hb5 kr (fun _ _ => rfl) (k5 _ _) ?_)
    intro v206 a w207 X208 hE hp hS
    replace hO := hO.m2 hE
    replace hD := hD.ev hE rfl
    replace h182 := h182.m1 hE
    replace h183 := h183.m1 hE
    replace h184 := h184.m1 hE
    replace h185 := h185.m1 hE
    replace h189 := h189.m1 hE
    replace h193 := h193.m1 hE
    obtain ⟨r209, hr⟩ : ∃ r, dj = r := ⟨_, rfl⟩
    replace hm := hm r209 hr
    rw [hr] at hp
    clear hr
    subst hp
    replace hS := hS.slb [(106, B true), (107, B r209)]
    refine bX (bl.of hS (bks := [3, 14]) kr hD) ?_
    intro hH
    refine tkb T [23, 24] [3, 14] hS hH (tts 25) 0 [(4, B r209)] fun a hS => ?_
    refine aM kr ?_
    replace hS := hS.sl ⟨[(4, B r209)], []⟩
    refine aU ?_
    exact fin T hS hO (fun c => c) rfl (r := [.bool r209]) kr (fun X' hM hC => ⟨r209, hm, rfl⟩)
   replace hS := hS.lit (t := 106) kr hb
   replace hm := hm.2 hb
   refine tkb T [22, 23, 24] [3, 14] hS hH (tts 25) 0 [(4, B false)] fun a hS => ?_
   refine aM kr ?_
   replace hS := hS.sl ⟨[(4, B false)], []⟩
   refine aU ?_
   exact fin T hS hO (fun c => c) rfl (r := [.bool false]) kr (fun X' hM hC => ⟨false, hm, rfl⟩)
  replace hS := hS.lit (t := 99) kr hb
  replace hm := hm.2 hb
  refine tkb T [15, 17, 16, 18, 19, 20, 21, 22, 23, 24] [3, 14] hS hH (tts 25) 0 [(4, B false)] fun a hS => ?_
  refine aM kr ?_
  replace hS := hS.sl ⟨[(4, B false)], []⟩
  refine aU ?_
  exact fin T hS hO (fun c => c) rfl (r := [.bool false]) kr (fun X' hM hC => ⟨false, hm, rfl⟩)
 replace hS := hS.lit (t := 86) kr hb
 replace hm := hm.2 hb
 refine tkb T [2, 4, 6, 3, 5, 7, 8, 9, 10, 11, 12, 13, 14] [3, 14] hS hH #[true, true, true, true, true, true, true, true, true, true, true, true, true, true, true, false, false, false, false, false, false, false, false, false, false] 10 [(13, Pt 14 0), (96, B false), (99, B (!r177.2))] fun a hS => ?_
 rcases bft (!r177.2) with hb | hb
 ·replace hS := hS.lit (t := 99) kr hb
  replace hm := hm.1 hb
  refine tkb T [15, 17, 16] [3, 14] hS hH #[true, true, true, true, true, true, true, true, true, true, true, true, true, true, true, true, true, true, false, false, false, false, false, false, false] 7 [(96, B false), (99, B true), (101, V (.agg #[.int .i64 r158.ar.ao, .int .i64 r158.ar.av, .int .i64 r158.ar.aC, .slice a159 r158.ar.Rows.length c160])), (102, V (.agg #[.int .i64 0, .int .i64 0, .int .i64 0, .slice none 0 0]))] fun a hS => ?_
  refine only 18 kr (by rfl) (call hS kr kr hb16 kr (fun _ _ => rfl) (k16 _ _ r158.ar (⟨0, 0, 0, []⟩ : ai) a159 c160 none 0 h184 (RS.empty _ _ _)) ?_)
  intro v210 a w211 X212 hE hp hS
  replace hO := hO.m2 hE
  replace hD := hD.ev hE rfl
  replace h182 := h182.m1 hE
  replace h183 := h183.m1 hE
  replace h184 := h184.m1 hE
  replace h185 := h185.m1 hE
  obtain ⟨r213, hr⟩ : ∃ r, cV r158.ar (⟨0, 0, 0, []⟩ : ai) = r := ⟨_, rfl⟩
  replace hm := hm r213 hr
  rw [hr] at hp
  clear hr
  subst hp
  replace hS := hS.slb [(96, B false), (99, B true), (101, V (.agg #[.int .i64 r158.ar.ao, .int .i64 r158.ar.av, .int .i64 r158.ar.aC, .slice a159 r158.ar.Rows.length c160])), (102, V (.agg #[.int .i64 0, .int .i64 0, .int .i64 0, .slice none 0 0])), (103, B r213)]
  refine bX (bl.of hS (bks := [3, 14]) kr hD) ?_
  intro hH
  refine tkb T [19, 20, 21] [3, 14] hS hH #[true, true, true, true, true, true, true, true, true, true, true, true, true, true, true, true, true, true, true, true, true, true, false, false, false] 3 [(106, B r213)] fun a hS => ?_
  rcases bft r213 with hb | hb
  ·replace hS := hS.lit (t := 106) kr hb
   replace hm := hm.1 hb
   refine only 22 kr (by rfl) (call hS kr kr hb5 kr (fun _ _ => rfl) (k5 _ _) ?_)
   intro v214 a w215 X216 hE hp hS
   replace hO := hO.m2 hE
   replace hD := hD.ev hE rfl
   replace h182 := h182.m1 hE
   replace h183 := h183.m1 hE
   replace h184 := h184.m1 hE
   replace h185 := h185.m1 hE
   obtain ⟨r217, hr⟩ : ∃ r, dj = r := ⟨_, rfl⟩
   replace hm := hm r217 hr
   rw [hr] at hp
   clear hr
   subst hp
   replace hS := hS.slb [(106, B true), (107, B r217)]
   refine bX (bl.of hS (bks := [3, 14]) kr hD) ?_
   intro hH
   refine tkb T [23, 24] [3, 14] hS hH (tts 25) 0 [(4, B r217)] fun a hS => ?_
   refine aM kr ?_
   replace hS := hS.sl ⟨[(4, B r217)], []⟩
   refine aU ?_
   exact fin T hS hO (fun c => c) rfl (r := [.bool r217]) kr (fun X' hM hC => ⟨r217, hm, rfl⟩)
  replace hS := hS.lit (t := 106) kr hb
  replace hm := hm.2 hb
  refine tkb T [22, 23, 24] [3, 14] hS hH (tts 25) 0 [(4, B false)] fun a hS => ?_
  refine aM kr ?_
  replace hS := hS.sl ⟨[(4, B false)], []⟩
  refine aU ?_
  exact fin T hS hO (fun c => c) rfl (r := [.bool false]) kr (fun X' hM hC => ⟨false, hm, rfl⟩)
 replace hS := hS.lit (t := 99) kr hb
 replace hm := hm.2 hb
 refine tkb T [15, 17, 16, 18, 19, 20, 21, 22, 23, 24] [3, 14] hS hH (tts 25) 0 [(4, B false)] fun a hS => ?_
 refine aM kr ?_
 replace hS := hS.sl ⟨[(4, B false)], []⟩
 refine aU ?_
 exact fin T hS hO (fun c => c) rfl (r := [.bool false]) kr (fun X' hM hC => ⟨false, hm, rfl⟩)
end Go.Proofs.Yteahldlmkheleaa
