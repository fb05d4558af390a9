/- Walks: each function returns what its condition asks. Condition: the contracts of its callees, handed in. -/
import Derived.Test.YtcjldfbgccmpkaaDoorHWalksS
set_option linter.all false
namespace Go.Proofs.YtcjldfbgccmpkaaDoor
open Go Go.Sv
set_option maxHeartbeats 1000000
/-- replevin/replevinlaw26.awake -/
theorem W7 (k12 : S12) (k14 : S14) (k8 : S8) (w0 : World) (χ0 : Nat → Nat) (Q : Bool → Prop) (hm : VC7 Q) (hAmb : Amb w0 χ0) :
  Ret Tryd.prog 7 #[] xnone w0 χ0 (fun w χ' v => ∃ r, Q r ∧ v = .bool r) := by
 unfold VC7 at hm
 refine enter Tryd.func7 rfl (vals := []) kr ?_
 intro ρ a hS hO hM
 replace hAmb := hAmb.m0 hM
 clear hM
 refine regP T hS (sp := []) (ks := []) (bs := []) (sy' := ⟨[], []⟩) kr ?_
 intro a hS
 refine regO ?_
 refine op1 (call hS kr kr hb8 kr (fun _ _ => rfl) (k8 _ _ ([111, 98, 106, 101, 99, 116, 32, 49, 32, 49, 32, 48, 32, 49, 10, 114, 111, 119, 32, 48, 32, 48, 32, 48, 32, 55, 10, 99, 97, 108, 108, 32, 49, 32, 48, 10, 114, 101, 116, 32, 49, 32, 55, 10] : List UInt8)) ?_)
 intro v101 a w102 χ103 hE hp hS
 replace hO := hO.mv hE rfl rfl
 replace hAmb := hAmb.mv hE rfl
 clear hE
 obtain ⟨a105, c106, a108, c109, hp, h107, h110⟩ := hp
 obtain ⟨r104, hr⟩ : ∃ r, histtext_Parse ([111, 98, 106, 101, 99, 116, 32, 49, 32, 49, 32, 48, 32, 49, 10, 114, 111, 119, 32, 48, 32, 48, 32, 48, 32, 55, 10, 99, 97, 108, 108, 32, 49, 32, 48, 10, 114, 101, 116, 32, 49, 32, 55, 10] : List UInt8) = r := ⟨_, rfl⟩
 replace hm := hm r104 hr
 rw [hr] at hp h107 h110
 clear hr
 subst hp
 replace hm := hm (h107.sm kr)
 replace hm := hm (h110.sm kr)
 refine endM T hS (sp := []) (ks := [1, 2, 3]) (bs := [2]) (sy' := ⟨[(1, Pt 2 0), (2, I r104.2.1), (3, I r104.2.2)], [(2, (28, [I r104.1.Object.States, I r104.1.Object.Kinds, I r104.1.Object.Init, V (.slice a105 r104.1.Object.Rows.length c106), V (.slice a108 r104.1.Events.length c109)]))]⟩) kr ?_
 intro ρ a w150 χ151 hS hE hr
 replace hO := hO.mv hE rfl rfl
 replace hAmb := hAmb.mv hE rfl
 replace h107 := h107.mv hE rfl
 replace h110 := h110.mv hE rfl
 clear hE hr
 refine regO ?_
 refine opsP T hS 1 (sp := []) (ks := [1, 2, 3, 18]) (bs := [2]) (sy' := ⟨[(1, Pt 2 0), (2, I r104.2.1), (3, I r104.2.2), (18, V (.agg #[.int .i64 r104.1.Object.States, .int .i64 r104.1.Object.Kinds, .int .i64 r104.1.Object.Init, .slice a105 r104.1.Object.Rows.length c106, .slice a108 r104.1.Events.length c109]))], [(2, (28, [I r104.1.Object.States, I r104.1.Object.Kinds, I r104.1.Object.Init, V (.slice a105 r104.1.Object.Rows.length c106), V (.slice a108 r104.1.Events.length c109)]))]⟩) kr ?_
 intro a hS
 obtain ⟨hq, hm⟩ := hm
 refine op1 (call hS kr kr hb12 kr (fun _ _ => rfl) (k12 _ _ r104.1 a105 c106 a108 c109 hq h107 h110 hAmb) ?_)
 intro v111 a w112 χ113 hE hp hS
 clear hq
 replace hO := hO.mv hE rfl rfl
 replace hAmb := hAmb.mv hE rfl
 replace h107 := h107.mv hE rfl
 replace h110 := h110.mv hE rfl
 clear hE
 obtain ⟨r114, hr⟩ : ∃ r, histtext_Print r104.1 = r := ⟨_, rfl⟩
 replace hm := hm r114 hr
 rw [hr] at hp
 clear hr
 subst hp
 refine endP T hS (sp := []) (ks := [1, 2, 3, 4, 5]) (bs := [2]) (sy' := ⟨[(1, Pt 2 0), (2, I r104.2.1), (3, I r104.2.2), (4, V (.string (bs r114.1))), (5, I r114.2)], [(2, (28, [I r104.1.Object.States, I r104.1.Object.Kinds, I r104.1.Object.Init, V (.slice a105 r104.1.Object.Rows.length c106), V (.slice a108 r104.1.Events.length c109)]))]⟩) kr ?_
 intro a hS
 refine regO ?_
 refine op1 (call hS kr kr hb8 kr (fun _ _ => rfl) (k8 _ _ ([111, 98, 106, 101, 99, 116, 32, 49, 32, 49, 32, 48, 32, 48, 10, 114, 101, 116, 32, 49, 32, 55] : List UInt8)) ?_)
 intro v115 a w116 χ117 hE hp hS
 replace hO := hO.mv hE rfl rfl
 replace hAmb := hAmb.mv hE rfl
 replace h107 := h107.mv hE rfl
 replace h110 := h110.mv hE rfl
 clear hE
 obtain ⟨a119, c120, a122, c123, hp, h121, h124⟩ := hp
 obtain ⟨r118, hr⟩ : ∃ r, histtext_Parse ([111, 98, 106, 101, 99, 116, 32, 49, 32, 49, 32, 48, 32, 48, 10, 114, 101, 116, 32, 49, 32, 55] : List UInt8) = r := ⟨_, rfl⟩
 replace hm := hm r118 hr
 rw [hr] at hp h121 h124
 clear hr
 subst hp
 replace hm := hm (h121.sm kr)
 replace hm := hm (h124.sm kr)
 refine endM T hS (sp := []) (ks := [1, 2, 3, 4, 5, 7, 8]) (bs := [2]) (sy' := ⟨[(1, Pt 2 0), (2, I r104.2.1), (3, I r104.2.2), (4, V (.string (bs r114.1))), (5, I r114.2), (7, I r118.2.1), (8, I r118.2.2)], [(2, (28, [I r104.1.Object.States, I r104.1.Object.Kinds, I r104.1.Object.Init, V (.slice a105 r104.1.Object.Rows.length c106), V (.slice a108 r104.1.Events.length c109)]))]⟩) kr ?_
 intro ρ a w148 χ149 hS hE hr
 replace hO := hO.mv hE rfl rfl
 replace hAmb := hAmb.mv hE rfl
 replace h107 := h107.mv hE rfl
 replace h110 := h110.mv hE rfl
 clear hE hr
 refine regO ?_
 refine op1 (call hS kr kr hb8 kr (fun _ _ => rfl) (k8 _ _ ([111, 98, 106, 101, 99, 116, 32, 49, 32, 49, 32, 48, 32, 48, 10, 99, 97, 108, 108, 32, 49, 32, 49] : List UInt8)) ?_)
 intro v125 a w126 χ127 hE hp hS
 replace hO := hO.mv hE rfl rfl
 replace hAmb := hAmb.mv hE rfl
 replace h107 := h107.mv hE rfl
 replace h110 := h110.mv hE rfl
 clear hE
 obtain ⟨a129, c130, a132, c133, hp, h131, h134⟩ := hp
 obtain ⟨r128, hr⟩ : ∃ r, histtext_Parse ([111, 98, 106, 101, 99, 116, 32, 49, 32, 49, 32, 48, 32, 48, 10, 99, 97, 108, 108, 32, 49, 32, 49] : List UInt8) = r := ⟨_, rfl⟩
 replace hm := hm r128 hr
 rw [hr] at hp h131 h134
 clear hr
 subst hp
 replace hm := hm (h131.sm kr)
 replace hm := hm (h134.sm kr)
 refine endM T hS (sp := []) (ks := [1, 2, 3, 4, 5, 7, 8, 10, 11]) (bs := [2]) (sy' := ⟨[(1, Pt 2 0), (2, I r104.2.1), (3, I r104.2.2), (4, V (.string (bs r114.1))), (5, I r114.2), (7, I r118.2.1), (8, I r118.2.2), (10, I r128.2.1), (11, I r128.2.2)], [(2, (28, [I r104.1.Object.States, I r104.1.Object.Kinds, I r104.1.Object.Init, V (.slice a105 r104.1.Object.Rows.length c106), V (.slice a108 r104.1.Events.length c109)]))]⟩) kr ?_
 intro ρ a w146 χ147 hS hE hr
 replace hO := hO.mv hE rfl rfl
 replace hAmb := hAmb.mv hE rfl
 replace h107 := h107.mv hE rfl
 replace h110 := h110.mv hE rfl
 clear hE hr
 refine regO ?_
 refine opsP T hS 21 (sp := [34, 38, 42, 46]) (ks := [1, 7, 8, 10, 11, 52]) (bs := [2]) (sy' := ⟨[(1, Pt 2 0), (7, I r118.2.1), (8, I r118.2.2), (10, I r128.2.1), (11, I r128.2.2), (52, B (((((r104.2.2 == 0) && (r104.2.1 == 44)) && (r114.2 == 0)) && (r114.1 == ([111, 98, 106, 101, 99, 116, 32, 49, 32, 49, 32, 48, 32, 49, 10, 114, 111, 119, 32, 48, 32, 48, 32, 48, 32, 55, 10, 99, 97, 108, 108, 32, 49, 32, 48, 10, 114, 101, 116, 32, 49, 32, 55, 10] : List UInt8))) && (((r104.1.Events.length : Nat) : Int) == 2)))], [(2, (28, [I r104.1.Object.States, I r104.1.Object.Kinds, I r104.1.Object.Init, V (.slice a105 r104.1.Object.Rows.length c106), V (.slice a108 r104.1.Events.length c109)]))]⟩) kr ?_
 intro a hS
 rcases Bool.eq_false_or_eq_true (((((r104.2.2 == 0) && (r104.2.1 == 44)) && (r114.2 == 0)) && (r114.1 == ([111, 98, 106, 101, 99, 116, 32, 49, 32, 49, 32, 48, 32, 49, 10, 114, 111, 119, 32, 48, 32, 48, 32, 48, 32, 55, 10, 99, 97, 108, 108, 32, 49, 32, 48, 10, 114, 101, 116, 32, 49, 32, 55, 10] : List UInt8))) && (((r104.1.Events.length : Nat) : Int) == 2)) with hb | hb
 ·replace hS := hS.lit (t := 52) kr hb
  replace hm := hm.1 hb
  refine opsP T hS 2 (sp := []) (ks := [1, 7, 8, 10, 11, 52, 54]) (bs := [2]) (sy' := ⟨[(1, Pt 2 0), (7, I r118.2.1), (8, I r118.2.2), (10, I r128.2.1), (11, I r128.2.2), (52, B true), (54, V (.slice a108 r104.1.Events.length c109))], [(2, (28, [I r104.1.Object.States, I r104.1.Object.Kinds, I r104.1.Object.Init, V (.slice a105 r104.1.Object.Rows.length c106), V (.slice a108 r104.1.Events.length c109)]))]⟩) kr ?_
  intro a hS
  obtain ⟨hq, hm⟩ := hm
  refine op1 (index (e := 51) (k := .i64) T hS kr kr kr kr h110 kr kr hq.1 hq.2 ?_)
  intro A135 a h136 hS
  clear hq
  refine op1 (loadA T hS kr kr kr h136 kr kr ?_)
  intro v137 a hv hS
  subst hv
  refine opsP T hS 1 (sp := []) (ks := [1, 7, 8, 10, 11, 52, 56, 57]) (bs := [2]) (sy' := ⟨[(1, Pt 2 0), (7, I r118.2.1), (8, I r118.2.2), (10, I r128.2.1), (11, I r128.2.2), (52, B true), (56, V (.agg #[.int .i64 ((gi r104.1.Events 1).What), .int .i64 ((gi r104.1.Events 1).Prc), .int .i64 ((gi r104.1.Events 1).N)])), (57, V (.agg #[.int .i64 2, .int .i64 1, .int .i64 7]))], [(2, (28, [I r104.1.Object.States, I r104.1.Object.Kinds, I r104.1.Object.Init, V (.slice a105 r104.1.Object.Rows.length c106), V (.slice a108 r104.1.Events.length c109)]))]⟩) kr ?_
  intro a hS
  refine op1 (structEq (op := .eql) (xs := [.int .i64 ((gi r104.1.Events 1).What), .int .i64 ((gi r104.1.Events 1).Prc), .int .i64 ((gi r104.1.Events 1).N)]) (ys := [.int .i64 2, .int .i64 1, .int .i64 7]) (r := (((gi r104.1.Events 1).What) == 2 && (((gi r104.1.Events 1).Prc) == 1 && (((gi r104.1.Events 1).N) == 7 && true)))) (b := (((gi r104.1.Events 1).What) == 2 && (((gi r104.1.Events 1).Prc) == 1 && (((gi r104.1.Events 1).N) == 7 && true)))) T hS kr kr kr kr kr kr kr kr ?_)
  intro a hS
  refine opsP T hS 18 (sp := [60, 64, 68, 72]) (ks := [1, 76]) (bs := [2]) (sy' := ⟨[(1, Pt 2 0), (76, B (((((((gi r104.1.Events 1).What) == 2 && (((gi r104.1.Events 1).Prc) == 1 && (((gi r104.1.Events 1).N) == 7 && true))) && (r118.2.1 == 15)) && (r118.2.2 == 33)) && (r128.2.1 == 22)) && (r128.2.2 == 7)))], [(2, (28, [I r104.1.Object.States, I r104.1.Object.Kinds, I r104.1.Object.Init, V (.slice a105 r104.1.Object.Rows.length c106), V (.slice a108 r104.1.Events.length c109)]))]⟩) kr ?_
  intro a hS
  rcases Bool.eq_false_or_eq_true (((((((gi r104.1.Events 1).What) == 2 && (((gi r104.1.Events 1).Prc) == 1 && (((gi r104.1.Events 1).N) == 7 && true))) && (r118.2.1 == 15)) && (r118.2.2 == 33)) && (r128.2.1 == 22)) && (r128.2.2 == 7)) with hb | hb
  ·replace hS := hS.lit (t := 76) kr hb
   replace hm := hm.1 hb
   refine opsP T hS 1 (sp := []) (ks := [76, 77]) (bs := []) (sy' := ⟨[(76, B true), (77, V (.agg #[.int .i64 r104.1.Object.States, .int .i64 r104.1.Object.Kinds, .int .i64 r104.1.Object.Init, .slice a105 r104.1.Object.Rows.length c106, .slice a108 r104.1.Events.length c109]))], []⟩) kr ?_
   intro a hS
   obtain ⟨hq, hm⟩ := hm
   refine op1 (call hS kr kr hb14 kr (fun _ _ => rfl) (k14 _ _ r104.1 a105 c106 a108 c109 hq h107 h110) ?_)
   intro v138 a w139 χ140 hE hp hS
   clear hq
   replace hO := hO.mv hE rfl rfl
   replace hAmb := hAmb.mv hE rfl
   replace h107 := h107.mv hE rfl
   replace h110 := h110.mv hE rfl
   clear hE
   obtain ⟨r141, hr⟩ : ∃ r, histtext_Check r104.1 = r := ⟨_, rfl⟩
   replace hm := hm r141 hr
   rw [hr] at hp
   clear hr
   subst hp
   refine opsP T hS 3 (sp := []) (ks := [81]) (bs := []) (sy' := ⟨[(81, B (r141 == 0))], []⟩) kr ?_
   intro a hS
   rcases Bool.eq_false_or_eq_true (r141 == 0) with hb | hb
   ·replace hS := hS.lit (t := 81) kr hb
    replace hm := hm.1 hb
    refine opsP T hS 1 (sp := []) (ks := [81, 82]) (bs := []) (sy' := ⟨[(81, B true), (82, V (.agg #[.int .i64 0, .int .i64 0, .int .i64 0, .slice none 0 0, .slice none 0 0]))], []⟩) kr ?_
    intro a hS
    obtain ⟨hq, hm⟩ := hm
    refine op1 (call hS kr kr hb14 kr (fun _ _ => rfl) (k14 _ _ (⟨(⟨0, 0, 0, []⟩ : Api_Object), []⟩ : Histtext_Case) none 0 none 0 hq (RS.empty _ _ _) (RS.empty _ _ _)) ?_)
    intro v142 a w143 χ144 hE hp hS
    clear hq
    replace hO := hO.mv hE rfl rfl
    replace hAmb := hAmb.mv hE rfl
    clear hE
    obtain ⟨r145, hr⟩ : ∃ r, histtext_Check (⟨(⟨0, 0, 0, []⟩ : Api_Object), []⟩ : Histtext_Case) = r := ⟨_, rfl⟩
    replace hm := hm r145 hr
    rw [hr] at hp
    clear hr
    subst hp
    refine endP T hS (sp := []) (ks := [0]) (bs := []) (sy' := ⟨[(0, B (r145 == 2))], []⟩) kr ?_
    intro a hS
    refine wret ?_
    exact fin T hS hO (fun c => c) rfl (r := [.bool (r145 == 2)]) kr (fun χ' hM hC => ⟨(r145 == 2), hm, rfl⟩)
   ·replace hS := hS.lit (t := 81) kr hb
    replace hm := hm.2 hb
    refine endP T hS (sp := []) (ks := [0]) (bs := []) (sy' := ⟨[(0, B false)], []⟩) kr ?_
    intro a hS
    refine wret ?_
    exact fin T hS hO (fun c => c) rfl (r := [.bool false]) kr (fun χ' hM hC => ⟨false, hm, rfl⟩)
  ·replace hS := hS.lit (t := 76) kr hb
   replace hm := hm.2 hb
   refine endP T hS (sp := []) (ks := [0]) (bs := []) (sy' := ⟨[(0, B false)], []⟩) kr ?_
   intro a hS
   refine wret ?_
   exact fin T hS hO (fun c => c) rfl (r := [.bool false]) kr (fun χ' hM hC => ⟨false, hm, rfl⟩)
 ·replace hS := hS.lit (t := 52) kr hb
  replace hm := hm.2 hb
  refine endP T hS (sp := []) (ks := [0]) (bs := []) (sy' := ⟨[(0, B false)], []⟩) kr ?_
  intro a hS
  refine wret ?_
  exact fin T hS hO (fun c => c) rfl (r := [.bool false]) kr (fun χ' hM hC => ⟨false, hm, rfl⟩)
theorem C7 (k12 : S12) (k14 : S14) (k8 : S8) (v : ∀ (_ : Unit), VC7 (fun r => r = law26_awake)) : S7 := by
 intro w χ     hAmb
 refine (W7 k12 k14 k8 w χ     _ (v ()) hAmb).mono ?_
 rintro _ _ _ _ ⟨r, rfl, h⟩
 exact h
end Go.Proofs.YtcjldfbgccmpkaaDoor
