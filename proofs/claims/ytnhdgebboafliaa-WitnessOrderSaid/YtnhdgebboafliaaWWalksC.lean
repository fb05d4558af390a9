/- Walks: each function returns what its condition asks. Condition: the contracts of its callees, handed in. -/
import Derived.Test.YtnhdgebboafliaaWWalksB
set_option linter.all false
namespace Go.Proofs.Ytnhdgebboafliaa
open Go Go.Sv
set_option maxHeartbeats 1000000
def S26 : Prop := ∀ (w : World) (χ : Nat → Nat), Ret Try.prog 26 #[] xnone w χ (fun w χ' v => v = .bool law29_awake)
theorem hb26 : hasBody Try.prog 26 = true := by kernel_rfl
/-- replevin/replevinlaw29.awake -/
theorem W26 (k19 : S19) (k25 : S25) (k27 : S27) (k28 : S28) (k29 : S29) (k49 : S49) (k50 : S50) (k51 : S51) (w0 : World) (χ0 : Nat → Nat) (Q : Bool → Prop) (hm : VC26 Q) :
    Ret Try.prog 26 #[] xnone w0 χ0 (fun w χ' v => ∃ r, Q r ∧ v = .bool r) := by
  unfold VC26 at hm
  refine enter Try.func26 rfl (vals := []) (by kernel_rfl) ?_
  intro ρ a hS hO hM
  clear hM
  refine regP T hS (sp := []) (ks := []) (bs := []) (sy' := ⟨[], []⟩) (by kernel_rfl) ?_
  intro a hS
  refine regM T hS (sp := []) (ks := [1, 2, 3]) (bs := [2, 3, 4]) (sy' := ⟨[(1, Pt 2 0), (2, Pt 3 0), (3, Pt 4 0)], [(2, (52, [I 0, I 7])), (3, (52, [I 1, I 7])), (4, (52, [I 2, I 7]))]⟩) (by kernel_rfl) ?_
  intro ρ a w1481 χ1482 hS hE hr
  replace hO := hO.mv hE rfl rfl
  clear hE hr
  refine drawnSX [2, 3, 4] mixed hS ?_
  intro w101 χ102 hS hE hD hH
  replace hO := hO.mv hE rfl rfl
  clear hE
  refine take T [2, 3, 4] [2, 3, 4] [1, 2, 3, 20, 21, 22] hS (by kernel_rfl) (by kernel_rfl) (by kernel_rfl) hH (listed' := #[false, false, true, true, true, false, false, false, false, false, false, false]) (fuel := 9) (sy' := ⟨[(1, Pt 2 0), (2, Pt 3 0), (3, Pt 4 0), (20, V (.agg #[.int .i64 0, .int .i64 7])), (21, V (.agg #[.int .i64 1, .int .i64 7])), (22, V (.agg #[.int .i64 2, .int .i64 7]))], [(2, (52, [I 0, I 7])), (3, (52, [I 1, I 7])), (4, (52, [I 2, I 7]))]⟩) (by kernel_rfl) (by rfl) ?_
  intro a hS
  obtain ⟨r106, hgr0⟩ : ∃ r, law29_one = r := ⟨_, rfl⟩
  replace hm := hm r106 hgr0
  obtain ⟨r113, hgr1⟩ : ∃ r, law29_three = r := ⟨_, rfl⟩
  replace hm := hm r113 hgr1
  refine drcut (fun a w => ∃ (χ : Nat → Nat) (a184 : Option Addr) (c185 : Nat) (a187 : Option Addr) (c188 : Nat) (a190 : Option Addr) (c191 : Nat), St Try.f26.ntmps ⟨[(1, Pt 2 0), (2, Pt 3 0), (3, Pt 4 0), (18, V (.agg #[.int .i64 r106.States, .int .i64 r106.Kinds, .int .i64 r106.Init, .slice a184 r106.Rows.length c185])), (19, V (.slice a187 r113.length c188)), (23, V (.slice a190 [(⟨0, 7⟩ : Api_Pick), (⟨1, 7⟩ : Api_Pick), (⟨2, 7⟩ : Api_Pick)].length c191))], [(2, (52, [I 0, I 7])), (3, (52, [I 1, I 7])), (4, (52, [I 2, I 7]))]⟩ ρ a w χ ∧ Old w0 χ0 w χ ∧ M0 w101 χ102 w χ ∧ Hold w101 χ102 (filt [2, 3, 4] ⟨[(1, Pt 2 0), (2, Pt 3 0), (3, Pt 4 0)], [(2, (52, [I 0, I 7])), (3, (52, [I 1, I 7])), (4, (52, [I 2, I 7]))]⟩) ρ w ∧ RS tApi_Row w χ a184 r106.Rows c185 ∧ RS tApi_Oper w χ a187 r113 c188 ∧ RS tApi_Pick w χ a190 [(⟨0, 7⟩ : Api_Pick), (⟨1, 7⟩ : Api_Pick), (⟨2, 7⟩ : Api_Pick)] c191) #[true, true, true, true, true, true, false, false, false, false, false, false] 6 ?_ (fun H => ?_)
  · rintro a w240 ⟨χ239, a184, c185, a187, c188, a190, c191, hS, hO, hD, hH, h183, h186, h189⟩
    replace hm := hm (h183.sm (by kernel_rfl))
    replace hm := hm (h186.sm (by kernel_rfl))
    clear hgr0 hgr1
    obtain ⟨hq, hm⟩ := hm
    refine only 6 (by kernel_rfl) (by rfl) (call hS (by kernel_rfl) (by kernel_rfl) hb49 (by kernel_rfl) (fun _ _ => rfl) (k49 _ _ r106 r113 [(⟨0, 7⟩ : Api_Pick), (⟨1, 7⟩ : Api_Pick), (⟨2, 7⟩ : Api_Pick)] a184 c185 a187 c188 a190 c191 hq h183 h186 h189) ?_)
    intro v241 a w242 χ243 hE hp hS
    clear hq
    replace hO := hO.mv hE rfl rfl
    replace hD := hD.ev hE rfl
    replace h183 := h183.mv hE rfl
    replace h186 := h186.mv hE rfl
    replace h189 := h189.mv hE rfl
    clear hE
    obtain ⟨r244, hr⟩ : ∃ r, witness_Check r106 r113 [(⟨0, 7⟩ : Api_Pick), (⟨1, 7⟩ : Api_Pick), (⟨2, 7⟩ : Api_Pick)] = r := ⟨_, rfl⟩
    replace hm := hm r244 hr
    rw [hr] at hp
    clear hr
    subst hp
    replace hS := hS.sel [1, 2, 3, 18, 19, 23, 24] [2, 3, 4] (sy' := ⟨[(1, Pt 2 0), (2, Pt 3 0), (3, Pt 4 0), (18, V (.agg #[.int .i64 r106.States, .int .i64 r106.Kinds, .int .i64 r106.Init, .slice a184 r106.Rows.length c185])), (19, V (.slice a187 r113.length c188)), (23, V (.slice a190 [(⟨0, 7⟩ : Api_Pick), (⟨1, 7⟩ : Api_Pick), (⟨2, 7⟩ : Api_Pick)].length c191)), (24, V (.tuple #[.int .i64 r244.1, .int .i64 r244.2]))], [(2, (52, [I 0, I 7])), (3, (52, [I 1, I 7])), (4, (52, [I 2, I 7]))]⟩) (by kernel_rfl)
    refine andH (Hold.of hS (bks := [2, 3, 4]) (by kernel_rfl) hD) ?_
    intro hH
    refine take T [7, 8, 9, 10, 11] [2, 3, 4] [1, 2, 3, 4, 5] hS (by kernel_rfl) (by kernel_rfl) (by kernel_rfl) hH (listed' := #[true, true, true, true, true, true, true, true, true, true, true, true]) (fuel := 0) (sy' := ⟨[(1, Pt 2 0), (2, Pt 3 0), (3, Pt 4 0), (4, I r244.1), (5, I r244.2)], [(2, (52, [I 0, I 7])), (3, (52, [I 1, I 7])), (4, (52, [I 2, I 7]))]⟩) (by kernel_rfl) (by rfl) ?_
    intro a hS
    refine drawnDone (by kernel_rfl) ?_
    clear hD hH
    replace hS := hS.sel [1, 2, 3, 4, 5] [2, 3, 4] (sy' := ⟨[(1, Pt 2 0), (2, Pt 3 0), (3, Pt 4 0), (4, I r244.1), (5, I r244.2)], [(2, (52, [I 0, I 7])), (3, (52, [I 1, I 7])), (4, (52, [I 2, I 7]))]⟩) (by kernel_rfl)
    refine drawnSX [2, 3, 4] mixed hS ?_
    intro w245 χ246 hS hE hD hH
    replace hO := hO.mv hE rfl rfl
    clear hE
    refine take T [2, 3] [2, 3, 4] [1, 2, 3, 4, 5, 30, 31] hS (by kernel_rfl) (by kernel_rfl) (by kernel_rfl) hH (listed' := #[false, false, true, true, false, false, false, false, false, false, false]) (fuel := 9) (sy' := ⟨[(1, Pt 2 0), (2, Pt 3 0), (3, Pt 4 0), (4, I r244.1), (5, I r244.2), (30, V (.agg #[.int .i64 1, .int .i64 7])), (31, V (.agg #[.int .i64 0, .int .i64 7]))], [(2, (52, [I 0, I 7])), (3, (52, [I 1, I 7])), (4, (52, [I 2, I 7]))]⟩) (by kernel_rfl) (by rfl) ?_
    intro a hS
    obtain ⟨r250, hgr0⟩ : ∃ r, law29_one = r := ⟨_, rfl⟩
    replace hm := hm r250 hgr0
    obtain ⟨r257, hgr1⟩ : ∃ r, law29_three = r := ⟨_, rfl⟩
    replace hm := hm r257 hgr1
    refine drcut (fun a w => ∃ (χ : Nat → Nat) (a328 : Option Addr) (c329 : Nat) (a331 : Option Addr) (c332 : Nat) (a334 : Option Addr) (c335 : Nat), St Try.f26.ntmps ⟨[(1, Pt 2 0), (2, Pt 3 0), (3, Pt 4 0), (4, I r244.1), (5, I r244.2), (28, V (.agg #[.int .i64 r250.States, .int .i64 r250.Kinds, .int .i64 r250.Init, .slice a328 r250.Rows.length c329])), (29, V (.slice a331 r257.length c332)), (32, V (.slice a334 [(⟨1, 7⟩ : Api_Pick), (⟨0, 7⟩ : Api_Pick)].length c335))], [(2, (52, [I 0, I 7])), (3, (52, [I 1, I 7])), (4, (52, [I 2, I 7]))]⟩ ρ a w χ ∧ Old w0 χ0 w χ ∧ M0 w245 χ246 w χ ∧ Hold w245 χ246 (filt [2, 3, 4] ⟨[(1, Pt 2 0), (2, Pt 3 0), (3, Pt 4 0), (4, I r244.1), (5, I r244.2)], [(2, (52, [I 0, I 7])), (3, (52, [I 1, I 7])), (4, (52, [I 2, I 7]))]⟩) ρ w ∧ RS tApi_Row w χ a328 r250.Rows c329 ∧ RS tApi_Oper w χ a331 r257 c332 ∧ RS tApi_Pick w χ a334 [(⟨1, 7⟩ : Api_Pick), (⟨0, 7⟩ : Api_Pick)] c335) #[true, true, true, true, true, false, false, false, false, false, false] 6 ?_ (fun H => ?_)
    · rintro a w384 ⟨χ383, a328, c329, a331, c332, a334, c335, hS, hO, hD, hH, h327, h330, h333⟩
      replace hm := hm (h327.sm (by kernel_rfl))
      replace hm := hm (h330.sm (by kernel_rfl))
      clear hgr0 hgr1
      obtain ⟨hq, hm⟩ := hm
      refine only 5 (by kernel_rfl) (by rfl) (call hS (by kernel_rfl) (by kernel_rfl) hb49 (by kernel_rfl) (fun _ _ => rfl) (k49 _ _ r250 r257 [(⟨1, 7⟩ : Api_Pick), (⟨0, 7⟩ : Api_Pick)] a328 c329 a331 c332 a334 c335 hq h327 h330 h333) ?_)
      intro v385 a w386 χ387 hE hp hS
      clear hq
      replace hO := hO.mv hE rfl rfl
      replace hD := hD.ev hE rfl
      replace h327 := h327.mv hE rfl
      replace h330 := h330.mv hE rfl
      replace h333 := h333.mv hE rfl
      clear hE
      obtain ⟨r388, hr⟩ : ∃ r, witness_Check r250 r257 [(⟨1, 7⟩ : Api_Pick), (⟨0, 7⟩ : Api_Pick)] = r := ⟨_, rfl⟩
      replace hm := hm r388 hr
      rw [hr] at hp
      clear hr
      subst hp
      replace hS := hS.sel [1, 2, 3, 4, 5, 28, 29, 32, 33] [2, 3, 4] (sy' := ⟨[(1, Pt 2 0), (2, Pt 3 0), (3, Pt 4 0), (4, I r244.1), (5, I r244.2), (28, V (.agg #[.int .i64 r250.States, .int .i64 r250.Kinds, .int .i64 r250.Init, .slice a328 r250.Rows.length c329])), (29, V (.slice a331 r257.length c332)), (32, V (.slice a334 [(⟨1, 7⟩ : Api_Pick), (⟨0, 7⟩ : Api_Pick)].length c335)), (33, V (.tuple #[.int .i64 r388.1, .int .i64 r388.2]))], [(2, (52, [I 0, I 7])), (3, (52, [I 1, I 7])), (4, (52, [I 2, I 7]))]⟩) (by kernel_rfl)
      refine andH (Hold.of hS (bks := [2, 3, 4]) (by kernel_rfl) hD) ?_
      intro hH
      refine take T [6, 7, 8, 9, 10] [2, 3, 4] [1, 2, 3, 4, 5, 6, 7] hS (by kernel_rfl) (by kernel_rfl) (by kernel_rfl) hH (listed' := #[true, true, true, true, true, true, true, true, true, true, true]) (fuel := 0) (sy' := ⟨[(1, Pt 2 0), (2, Pt 3 0), (3, Pt 4 0), (4, I r244.1), (5, I r244.2), (6, I r388.1), (7, I r388.2)], [(2, (52, [I 0, I 7])), (3, (52, [I 1, I 7])), (4, (52, [I 2, I 7]))]⟩) (by kernel_rfl) (by rfl) ?_
      intro a hS
      refine drawnDone (by kernel_rfl) ?_
      clear hD hH
      replace hS := hS.sel [1, 2, 3, 4, 5, 6, 7] [2, 3, 4] (sy' := ⟨[(1, Pt 2 0), (2, Pt 3 0), (3, Pt 4 0), (4, I r244.1), (5, I r244.2), (6, I r388.1), (7, I r388.2)], [(2, (52, [I 0, I 7])), (3, (52, [I 1, I 7])), (4, (52, [I 2, I 7]))]⟩) (by kernel_rfl)
      refine drawnSX [2, 3, 4] mixed hS ?_
      intro w389 χ390 hS hE hD hH
      replace hO := hO.mv hE rfl rfl
      clear hE
      refine take T [2] [2, 3, 4] [1, 2, 3, 4, 5, 6, 7, 39] hS (by kernel_rfl) (by kernel_rfl) (by kernel_rfl) hH (listed' := #[false, false, true, false, false, false, false, false, false, false]) (fuel := 9) (sy' := ⟨[(1, Pt 2 0), (2, Pt 3 0), (3, Pt 4 0), (4, I r244.1), (5, I r244.2), (6, I r388.1), (7, I r388.2), (39, V (.agg #[.int .i64 0, .int .i64 7]))], [(2, (52, [I 0, I 7])), (3, (52, [I 1, I 7])), (4, (52, [I 2, I 7]))]⟩) (by kernel_rfl) (by rfl) ?_
      intro a hS
      obtain ⟨r394, hgr0⟩ : ∃ r, law29_one = r := ⟨_, rfl⟩
      replace hm := hm r394 hgr0
      obtain ⟨r401, hgr1⟩ : ∃ r, law29_three = r := ⟨_, rfl⟩
      replace hm := hm r401 hgr1
      refine drcut (fun a w => ∃ (χ : Nat → Nat) (a472 : Option Addr) (c473 : Nat) (a475 : Option Addr) (c476 : Nat) (a478 : Option Addr) (c479 : Nat), St Try.f26.ntmps ⟨[(1, Pt 2 0), (2, Pt 3 0), (3, Pt 4 0), (4, I r244.1), (5, I r244.2), (6, I r388.1), (7, I r388.2), (37, V (.agg #[.int .i64 r394.States, .int .i64 r394.Kinds, .int .i64 r394.Init, .slice a472 r394.Rows.length c473])), (38, V (.slice a475 r401.length c476)), (40, V (.slice a478 [(⟨0, 7⟩ : Api_Pick)].length c479))], [(2, (52, [I 0, I 7])), (3, (52, [I 1, I 7])), (4, (52, [I 2, I 7]))]⟩ ρ a w χ ∧ Old w0 χ0 w χ ∧ M0 w389 χ390 w χ ∧ Hold w389 χ390 (filt [2, 3, 4] ⟨[(1, Pt 2 0), (2, Pt 3 0), (3, Pt 4 0), (4, I r244.1), (5, I r244.2), (6, I r388.1), (7, I r388.2)], [(2, (52, [I 0, I 7])), (3, (52, [I 1, I 7])), (4, (52, [I 2, I 7]))]⟩) ρ w ∧ RS tApi_Row w χ a472 r394.Rows c473 ∧ RS tApi_Oper w χ a475 r401 c476 ∧ RS tApi_Pick w χ a478 [(⟨0, 7⟩ : Api_Pick)] c479) #[true, true, true, true, false, false, false, false, false, false] 6 ?_ (fun H => ?_)
      · rintro a w528 ⟨χ527, a472, c473, a475, c476, a478, c479, hS, hO, hD, hH, h471, h474, h477⟩
        replace hm := hm (h471.sm (by kernel_rfl))
        replace hm := hm (h474.sm (by kernel_rfl))
        clear hgr0 hgr1
        obtain ⟨hq, hm⟩ := hm
        refine only 4 (by kernel_rfl) (by rfl) (call hS (by kernel_rfl) (by kernel_rfl) hb49 (by kernel_rfl) (fun _ _ => rfl) (k49 _ _ r394 r401 [(⟨0, 7⟩ : Api_Pick)] a472 c473 a475 c476 a478 c479 hq h471 h474 h477) ?_)
        intro v529 a w530 χ531 hE hp hS
        clear hq
        replace hO := hO.mv hE rfl rfl
        replace hD := hD.ev hE rfl
        replace h471 := h471.mv hE rfl
        replace h474 := h474.mv hE rfl
        replace h477 := h477.mv hE rfl
        clear hE
        obtain ⟨r532, hr⟩ : ∃ r, witness_Check r394 r401 [(⟨0, 7⟩ : Api_Pick)] = r := ⟨_, rfl⟩
        replace hm := hm r532 hr
        rw [hr] at hp
        clear hr
        subst hp
        replace hS := hS.sel [1, 2, 3, 4, 5, 6, 7, 37, 38, 40, 41] [2, 3, 4] (sy' := ⟨[(1, Pt 2 0), (2, Pt 3 0), (3, Pt 4 0), (4, I r244.1), (5, I r244.2), (6, I r388.1), (7, I r388.2), (37, V (.agg #[.int .i64 r394.States, .int .i64 r394.Kinds, .int .i64 r394.Init, .slice a472 r394.Rows.length c473])), (38, V (.slice a475 r401.length c476)), (40, V (.slice a478 [(⟨0, 7⟩ : Api_Pick)].length c479)), (41, V (.tuple #[.int .i64 r532.1, .int .i64 r532.2]))], [(2, (52, [I 0, I 7])), (3, (52, [I 1, I 7])), (4, (52, [I 2, I 7]))]⟩) (by kernel_rfl)
        refine andH (Hold.of hS (bks := [2, 3, 4]) (by kernel_rfl) hD) ?_
        intro hH
        refine take T [5, 6, 7, 8, 9] [2, 3, 4] [1, 2, 3, 4, 5, 6, 7, 8, 9] hS (by kernel_rfl) (by kernel_rfl) (by kernel_rfl) hH (listed' := #[true, true, true, true, true, true, true, true, true, true]) (fuel := 0) (sy' := ⟨[(1, Pt 2 0), (2, Pt 3 0), (3, Pt 4 0), (4, I r244.1), (5, I r244.2), (6, I r388.1), (7, I r388.2), (8, I r532.1), (9, I r532.2)], [(2, (52, [I 0, I 7])), (3, (52, [I 1, I 7])), (4, (52, [I 2, I 7]))]⟩) (by kernel_rfl) (by rfl) ?_
        intro a hS
        refine drawnDone (by kernel_rfl) ?_
        clear hD hH
        replace hS := hS.sel [1, 2, 3, 4, 5, 6, 7, 8, 9] [2, 3, 4] (sy' := ⟨[(1, Pt 2 0), (2, Pt 3 0), (3, Pt 4 0), (4, I r244.1), (5, I r244.2), (6, I r388.1), (7, I r388.2), (8, I r532.1), (9, I r532.2)], [(2, (52, [I 0, I 7])), (3, (52, [I 1, I 7])), (4, (52, [I 2, I 7]))]⟩) (by kernel_rfl)
        refine drawnSX [2, 3, 4] mixed hS ?_
        intro w533 χ534 hS hE hD hH
        replace hO := hO.mv hE rfl rfl
        clear hE
        refine take T [2, 3] [2, 3, 4] [1, 2, 3, 4, 5, 6, 7, 8, 9, 47, 48] hS (by kernel_rfl) (by kernel_rfl) (by kernel_rfl) hH (listed' := #[false, false, true, true, false, false, false, false, false, false, false]) (fuel := 9) (sy' := ⟨[(1, Pt 2 0), (2, Pt 3 0), (3, Pt 4 0), (4, I r244.1), (5, I r244.2), (6, I r388.1), (7, I r388.2), (8, I r532.1), (9, I r532.2), (47, V (.agg #[.int .i64 0, .int .i64 7])), (48, V (.agg #[.int .i64 0, .int .i64 7]))], [(2, (52, [I 0, I 7])), (3, (52, [I 1, I 7])), (4, (52, [I 2, I 7]))]⟩) (by kernel_rfl) (by rfl) ?_
        intro a hS
        obtain ⟨r538, hgr0⟩ : ∃ r, law29_one = r := ⟨_, rfl⟩
        replace hm := hm r538 hgr0
        obtain ⟨r545, hgr1⟩ : ∃ r, law29_three = r := ⟨_, rfl⟩
        replace hm := hm r545 hgr1
        refine drcut (fun a w => ∃ (χ : Nat → Nat) (a616 : Option Addr) (c617 : Nat) (a619 : Option Addr) (c620 : Nat) (a622 : Option Addr) (c623 : Nat), St Try.f26.ntmps ⟨[(1, Pt 2 0), (2, Pt 3 0), (3, Pt 4 0), (4, I r244.1), (5, I r244.2), (6, I r388.1), (7, I r388.2), (8, I r532.1), (9, I r532.2), (45, V (.agg #[.int .i64 r538.States, .int .i64 r538.Kinds, .int .i64 r538.Init, .slice a616 r538.Rows.length c617])), (46, V (.slice a619 r545.length c620)), (49, V (.slice a622 [(⟨0, 7⟩ : Api_Pick), (⟨0, 7⟩ : Api_Pick)].length c623))], [(2, (52, [I 0, I 7])), (3, (52, [I 1, I 7])), (4, (52, [I 2, I 7]))]⟩ ρ a w χ ∧ Old w0 χ0 w χ ∧ M0 w533 χ534 w χ ∧ Hold w533 χ534 (filt [2, 3, 4] ⟨[(1, Pt 2 0), (2, Pt 3 0), (3, Pt 4 0), (4, I r244.1), (5, I r244.2), (6, I r388.1), (7, I r388.2), (8, I r532.1), (9, I r532.2)], [(2, (52, [I 0, I 7])), (3, (52, [I 1, I 7])), (4, (52, [I 2, I 7]))]⟩) ρ w ∧ RS tApi_Row w χ a616 r538.Rows c617 ∧ RS tApi_Oper w χ a619 r545 c620 ∧ RS tApi_Pick w χ a622 [(⟨0, 7⟩ : Api_Pick), (⟨0, 7⟩ : Api_Pick)] c623) #[true, true, true, true, true, false, false, false, false, false, false] 6 ?_ (fun H => ?_)
        · rintro a w672 ⟨χ671, a616, c617, a619, c620, a622, c623, hS, hO, hD, hH, h615, h618, h621⟩
          replace hm := hm (h615.sm (by kernel_rfl))
          replace hm := hm (h618.sm (by kernel_rfl))
          clear hgr0 hgr1
          obtain ⟨hq, hm⟩ := hm
          refine only 5 (by kernel_rfl) (by rfl) (call hS (by kernel_rfl) (by kernel_rfl) hb49 (by kernel_rfl) (fun _ _ => rfl) (k49 _ _ r538 r545 [(⟨0, 7⟩ : Api_Pick), (⟨0, 7⟩ : Api_Pick)] a616 c617 a619 c620 a622 c623 hq h615 h618 h621) ?_)
          intro v673 a w674 χ675 hE hp hS
          clear hq
          replace hO := hO.mv hE rfl rfl
          replace hD := hD.ev hE rfl
          replace h615 := h615.mv hE rfl
          replace h618 := h618.mv hE rfl
          replace h621 := h621.mv hE rfl
          clear hE
          obtain ⟨r676, hr⟩ : ∃ r, witness_Check r538 r545 [(⟨0, 7⟩ : Api_Pick), (⟨0, 7⟩ : Api_Pick)] = r := ⟨_, rfl⟩
          replace hm := hm r676 hr
          rw [hr] at hp
          clear hr
          subst hp
          replace hS := hS.sel [1, 2, 3, 4, 5, 6, 7, 8, 9, 45, 46, 49, 50] [2, 3, 4] (sy' := ⟨[(1, Pt 2 0), (2, Pt 3 0), (3, Pt 4 0), (4, I r244.1), (5, I r244.2), (6, I r388.1), (7, I r388.2), (8, I r532.1), (9, I r532.2), (45, V (.agg #[.int .i64 r538.States, .int .i64 r538.Kinds, .int .i64 r538.Init, .slice a616 r538.Rows.length c617])), (46, V (.slice a619 r545.length c620)), (49, V (.slice a622 [(⟨0, 7⟩ : Api_Pick), (⟨0, 7⟩ : Api_Pick)].length c623)), (50, V (.tuple #[.int .i64 r676.1, .int .i64 r676.2]))], [(2, (52, [I 0, I 7])), (3, (52, [I 1, I 7])), (4, (52, [I 2, I 7]))]⟩) (by kernel_rfl)
          refine andH (Hold.of hS (bks := [2, 3, 4]) (by kernel_rfl) hD) ?_
          intro hH
          refine take T [6, 7, 8, 9, 10] [2, 3, 4] [1, 2, 3, 4, 5, 6, 7, 8, 9, 10, 11] hS (by kernel_rfl) (by kernel_rfl) (by kernel_rfl) hH (listed' := #[true, true, true, true, true, true, true, true, true, true, true]) (fuel := 0) (sy' := ⟨[(1, Pt 2 0), (2, Pt 3 0), (3, Pt 4 0), (4, I r244.1), (5, I r244.2), (6, I r388.1), (7, I r388.2), (8, I r532.1), (9, I r532.2), (10, I r676.1), (11, I r676.2)], [(2, (52, [I 0, I 7])), (3, (52, [I 1, I 7])), (4, (52, [I 2, I 7]))]⟩) (by kernel_rfl) (by rfl) ?_
          intro a hS
          refine drawnDone (by kernel_rfl) ?_
          clear hD hH
          replace hS := hS.sel [1, 2, 3, 4, 5, 6, 7, 8, 9, 10, 11] [2, 3, 4] (sy' := ⟨[(1, Pt 2 0), (2, Pt 3 0), (3, Pt 4 0), (4, I r244.1), (5, I r244.2), (6, I r388.1), (7, I r388.2), (8, I r532.1), (9, I r532.2), (10, I r676.1), (11, I r676.2)], [(2, (52, [I 0, I 7])), (3, (52, [I 1, I 7])), (4, (52, [I 2, I 7]))]⟩) (by kernel_rfl)
          refine regO ?_
          refine opsP T hS 1 (sp := []) (ks := [1, 2, 3, 4, 5, 6, 7, 8, 9, 10, 11, 54]) (bs := [2, 3, 4]) (sy' := ⟨[(1, Pt 2 0), (2, Pt 3 0), (3, Pt 4 0), (4, I r244.1), (5, I r244.2), (6, I r388.1), (7, I r388.2), (8, I r532.1), (9, I r532.2), (10, I r676.1), (11, I r676.2), (54, V (.agg #[.int .i64 0, .int .i64 0, .int .i64 0, .slice none 0 0]))], [(2, (52, [I 0, I 7])), (3, (52, [I 1, I 7])), (4, (52, [I 2, I 7]))]⟩) (by kernel_rfl) ?_
          intro a hS
          obtain ⟨hq, hm⟩ := hm
          refine op1 (call hS (by kernel_rfl) (by kernel_rfl) hb49 (by kernel_rfl) (fun _ _ => rfl) (k49 _ _ (⟨0, 0, 0, []⟩ : Api_Object) [] [] none 0 none 0 none 0 hq (RS.empty _ _ _) (RS.empty _ _ _) (RS.empty _ _ _)) ?_)
          intro v677 a w678 χ679 hE hp hS
          clear hq
          replace hO := hO.mv hE rfl rfl
          clear hE
          obtain ⟨r680, hr⟩ : ∃ r, witness_Check (⟨0, 0, 0, []⟩ : Api_Object) [] [] = r := ⟨_, rfl⟩
          replace hm := hm r680 hr
          rw [hr] at hp
          clear hr
          subst hp
          refine endP T hS (sp := []) (ks := [1, 2, 3, 4, 5, 6, 7, 8, 9, 10, 11, 13]) (bs := [2, 3, 4]) (sy' := ⟨[(1, Pt 2 0), (2, Pt 3 0), (3, Pt 4 0), (4, I r244.1), (5, I r244.2), (6, I r388.1), (7, I r388.2), (8, I r532.1), (9, I r532.2), (10, I r676.1), (11, I r676.2), (13, I r680.2)], [(2, (52, [I 0, I 7])), (3, (52, [I 1, I 7])), (4, (52, [I 2, I 7]))]⟩) (by kernel_rfl) ?_
          intro a hS
          refine drawnSX [2, 3, 4] mixed hS ?_
          intro w681 χ682 hS hE hD hH
          replace hO := hO.mv hE rfl rfl
          clear hE
          refine take T [0, 1, 2] [2, 3, 4] [1, 2, 3, 5, 6, 7, 8, 9, 10, 11, 13, 60] hS (by kernel_rfl) (by kernel_rfl) (by kernel_rfl) hH (listed' := #[true, true, true, false, false, false, false, false, false, false, false, false, false, false, false, false, false, false, false, false, false, false, false, false, false, false, false, false, false, false, false, false, false, false, false, false, false, false, false, false, false, false, false, false, false, false, false, false, false, false, false, false, false, false, false, false, false, false, false, false, false, false, false, false, false, false, false, false, false, false, false, false, false, false, false, false, false, false, false]) (fuel := 76) (sy' := ⟨[(1, Pt 2 0), (2, Pt 3 0), (3, Pt 4 0), (5, I r244.2), (6, I r388.1), (7, I r388.2), (8, I r532.1), (9, I r532.2), (10, I r676.1), (11, I r676.2), (13, I r680.2), (60, B (r244.1 == 3))], [(2, (52, [I 0, I 7])), (3, (52, [I 1, I 7])), (4, (52, [I 2, I 7]))]⟩) (by as_aux_lemma => kernel_rfl) (by rfl) ?_
          intro a hS
          refine takeM (tc := 60) (b := (r244.1 == 3)) (f := fun c => ⟨[(1, Pt 2 0), (2, Pt 3 0), (3, Pt 4 0), (6, I r388.1), (7, I r388.2), (8, I r532.1), (9, I r532.2), (10, I r676.1), (11, I r676.2), (13, I r680.2), (63, B (c && (r244.2 == 0)))], [(2, (52, [I 0, I 7])), (3, (52, [I 1, I 7])), (4, (52, [I 2, I 7]))]⟩) T [3, 4, 5] [2, 3, 4] [1, 2, 3, 6, 7, 8, 9, 10, 11, 13, 63] hS (by kernel_rfl) (by kernel_rfl) (by kernel_rfl) (by kernel_rfl) hH (listed' := #[true, true, true, true, true, true, false, false, false, false, false, false, false, false, false, false, false, false, false, false, false, false, false, false, false, false, false, false, false, false, false, false, false, false, false, false, false, false, false, false, false, false, false, false, false, false, false, false, false, false, false, false, false, false, false, false, false, false, false, false, false, false, false, false, false, false, false, false, false, false, false, false, false, false, false, false, false, false, false]) (fuel := 73) (by kernel_rfl) (by kernel_rfl) (by rfl) ?_
          intro a hS
          refine take T [6] [2, 3, 4] [1, 2, 3, 6, 7, 8, 9, 10, 11, 13, 64] hS (by kernel_rfl) (by kernel_rfl) (by kernel_rfl) hH (listed' := #[true, true, true, true, true, true, true, false, false, false, false, false, false, false, false, false, false, false, false, false, false, false, false, false, false, false, false, false, false, false, false, false, false, false, false, false, false, false, false, false, false, false, false, false, false, false, false, false, false, false, false, false, false, false, false, false, false, false, false, false, false, false, false, false, false, false, false, false, false, false, false, false, false, false, false, false, false, false, false]) (fuel := 72) (sy' := ⟨[(1, Pt 2 0), (2, Pt 3 0), (3, Pt 4 0), (6, I r388.1), (7, I r388.2), (8, I r532.1), (9, I r532.2), (10, I r676.1), (11, I r676.2), (13, I r680.2), (64, B ((r244.1 == 3) && (r244.2 == 0)))], [(2, (52, [I 0, I 7])), (3, (52, [I 1, I 7])), (4, (52, [I 2, I 7]))]⟩) (by as_aux_lemma => kernel_rfl) (by rfl) ?_
          intro a hS
          refine takeM (tc := 64) (b := ((r244.1 == 3) && (r244.2 == 0))) (f := fun c => ⟨[(1, Pt 2 0), (2, Pt 3 0), (3, Pt 4 0), (7, I r388.2), (8, I r532.1), (9, I r532.2), (10, I r676.1), (11, I r676.2), (13, I r680.2), (67, B (c && (r388.1 == 0)))], [(2, (52, [I 0, I 7])), (3, (52, [I 1, I 7])), (4, (52, [I 2, I 7]))]⟩) T [7, 8, 9] [2, 3, 4] [1, 2, 3, 7, 8, 9, 10, 11, 13, 67] hS (by kernel_rfl) (by kernel_rfl) (by kernel_rfl) (by kernel_rfl) hH (listed' := #[true, true, true, true, true, true, true, true, true, true, false, false, false, false, false, false, false, false, false, false, false, false, false, false, false, false, false, false, false, false, false, false, false, false, false, false, false, false, false, false, false, false, false, false, false, false, false, false, false, false, false, false, false, false, false, false, false, false, false, false, false, false, false, false, false, false, false, false, false, false, false, false, false, false, false, false, false, false, false]) (fuel := 69) (by kernel_rfl) (by kernel_rfl) (by rfl) ?_
          intro a hS
          refine take T [10] [2, 3, 4] [1, 2, 3, 7, 8, 9, 10, 11, 13, 68] hS (by kernel_rfl) (by kernel_rfl) (by kernel_rfl) hH (listed' := #[true, true, true, true, true, true, true, true, true, true, true, false, false, false, false, false, false, false, false, false, false, false, false, false, false, false, false, false, false, false, false, false, false, false, false, false, false, false, false, false, false, false, false, false, false, false, false, false, false, false, false, false, false, false, false, false, false, false, false, false, false, false, false, false, false, false, false, false, false, false, false, false, false, false, false, false, false, false, false]) (fuel := 68) (sy' := ⟨[(1, Pt 2 0), (2, Pt 3 0), (3, Pt 4 0), (7, I r388.2), (8, I r532.1), (9, I r532.2), (10, I r676.1), (11, I r676.2), (13, I r680.2), (68, B (((r244.1 == 3) && (r244.2 == 0)) && (r388.1 == 0)))], [(2, (52, [I 0, I 7])), (3, (52, [I 1, I 7])), (4, (52, [I 2, I 7]))]⟩) (by as_aux_lemma => kernel_rfl) (by rfl) ?_
          intro a hS
          refine takeM (tc := 68) (b := (((r244.1 == 3) && (r244.2 == 0)) && (r388.1 == 0))) (f := fun c => ⟨[(1, Pt 2 0), (2, Pt 3 0), (3, Pt 4 0), (8, I r532.1), (9, I r532.2), (10, I r676.1), (11, I r676.2), (13, I r680.2), (71, B (c && (r388.2 == 42)))], [(2, (52, [I 0, I 7])), (3, (52, [I 1, I 7])), (4, (52, [I 2, I 7]))]⟩) T [11, 12, 13] [2, 3, 4] [1, 2, 3, 8, 9, 10, 11, 13, 71] hS (by kernel_rfl) (by kernel_rfl) (by kernel_rfl) (by kernel_rfl) hH (listed' := #[true, true, true, true, true, true, true, true, true, true, true, true, true, true, false, false, false, false, false, false, false, false, false, false, false, false, false, false, false, false, false, false, false, false, false, false, false, false, false, false, false, false, false, false, false, false, false, false, false, false, false, false, false, false, false, false, false, false, false, false, false, false, false, false, false, false, false, false, false, false, false, false, false, false, false, false, false, false, false]) (fuel := 65) (by kernel_rfl) (by kernel_rfl) (by rfl) ?_
          intro a hS
          refine take T [14] [2, 3, 4] [1, 2, 3, 8, 9, 10, 11, 13, 72] hS (by kernel_rfl) (by kernel_rfl) (by kernel_rfl) hH (listed' := #[true, true, true, true, true, true, true, true, true, true, true, true, true, true, true, false, false, false, false, false, false, false, false, false, false, false, false, false, false, false, false, false, false, false, false, false, false, false, false, false, false, false, false, false, false, false, false, false, false, false, false, false, false, false, false, false, false, false, false, false, false, false, false, false, false, false, false, false, false, false, false, false, false, false, false, false, false, false, false]) (fuel := 64) (sy' := ⟨[(1, Pt 2 0), (2, Pt 3 0), (3, Pt 4 0), (8, I r532.1), (9, I r532.2), (10, I r676.1), (11, I r676.2), (13, I r680.2), (72, B ((((r244.1 == 3) && (r244.2 == 0)) && (r388.1 == 0)) && (r388.2 == 42)))], [(2, (52, [I 0, I 7])), (3, (52, [I 1, I 7])), (4, (52, [I 2, I 7]))]⟩) (by as_aux_lemma => kernel_rfl) (by rfl) ?_
          intro a hS
          refine takeM (tc := 72) (b := ((((r244.1 == 3) && (r244.2 == 0)) && (r388.1 == 0)) && (r388.2 == 42))) (f := fun c => ⟨[(1, Pt 2 0), (2, Pt 3 0), (3, Pt 4 0), (9, I r532.2), (10, I r676.1), (11, I r676.2), (13, I r680.2), (75, B (c && (r532.1 == 1)))], [(2, (52, [I 0, I 7])), (3, (52, [I 1, I 7])), (4, (52, [I 2, I 7]))]⟩) T [15, 16, 17] [2, 3, 4] [1, 2, 3, 9, 10, 11, 13, 75] hS (by kernel_rfl) (by kernel_rfl) (by kernel_rfl) (by kernel_rfl) hH (listed' := #[true, true, true, true, true, true, true, true, true, true, true, true, true, true, true, true, true, true, false, false, false, false, false, false, false, false, false, false, false, false, false, false, false, false, false, false, false, false, false, false, false, false, false, false, false, false, false, false, false, false, false, false, false, false, false, false, false, false, false, false, false, false, false, false, false, false, false, false, false, false, false, false, false, false, false, false, false, false, false]) (fuel := 61) (by kernel_rfl) (by kernel_rfl) (by rfl) ?_
          intro a hS
          refine take T [18] [2, 3, 4] [1, 2, 3, 9, 10, 11, 13, 76] hS (by kernel_rfl) (by kernel_rfl) (by kernel_rfl) hH (listed' := #[true, true, true, true, true, true, true, true, true, true, true, true, true, true, true, true, true, true, true, false, false, false, false, false, false, false, false, false, false, false, false, false, false, false, false, false, false, false, false, false, false, false, false, false, false, false, false, false, false, false, false, false, false, false, false, false, false, false, false, false, false, false, false, false, false, false, false, false, false, false, false, false, false, false, false, false, false, false, false]) (fuel := 60) (sy' := ⟨[(1, Pt 2 0), (2, Pt 3 0), (3, Pt 4 0), (9, I r532.2), (10, I r676.1), (11, I r676.2), (13, I r680.2), (76, B (((((r244.1 == 3) && (r244.2 == 0)) && (r388.1 == 0)) && (r388.2 == 42)) && (r532.1 == 1)))], [(2, (52, [I 0, I 7])), (3, (52, [I 1, I 7])), (4, (52, [I 2, I 7]))]⟩) (by as_aux_lemma => kernel_rfl) (by rfl) ?_
          intro a hS
          refine takeM (tc := 76) (b := (((((r244.1 == 3) && (r244.2 == 0)) && (r388.1 == 0)) && (r388.2 == 42)) && (r532.1 == 1))) (f := fun c => ⟨[(1, Pt 2 0), (2, Pt 3 0), (3, Pt 4 0), (10, I r676.1), (11, I r676.2), (13, I r680.2), (79, B (c && (r532.2 == 41)))], [(2, (52, [I 0, I 7])), (3, (52, [I 1, I 7])), (4, (52, [I 2, I 7]))]⟩) T [19, 20, 21] [2, 3, 4] [1, 2, 3, 10, 11, 13, 79] hS (by kernel_rfl) (by kernel_rfl) (by kernel_rfl) (by kernel_rfl) hH (listed' := #[true, true, true, true, true, true, true, true, true, true, true, true, true, true, true, true, true, true, true, true, true, true, false, false, false, false, false, false, false, false, false, false, false, false, false, false, false, false, false, false, false, false, false, false, false, false, false, false, false, false, false, false, false, false, false, false, false, false, false, false, false, false, false, false, false, false, false, false, false, false, false, false, false, false, false, false, false, false, false]) (fuel := 57) (by kernel_rfl) (by kernel_rfl) (by rfl) ?_
          intro a hS
          refine take T [22] [2, 3, 4] [1, 2, 3, 10, 11, 13, 80] hS (by kernel_rfl) (by kernel_rfl) (by kernel_rfl) hH (listed' := #[true, true, true, true, true, true, true, true, true, true, true, true, true, true, true, true, true, true, true, true, true, true, true, false, false, false, false, false, false, false, false, false, false, false, false, false, false, false, false, false, false, false, false, false, false, false, false, false, false, false, false, false, false, false, false, false, false, false, false, false, false, false, false, false, false, false, false, false, false, false, false, false, false, false, false, false, false, false, false]) (fuel := 56) (sy' := ⟨[(1, Pt 2 0), (2, Pt 3 0), (3, Pt 4 0), (10, I r676.1), (11, I r676.2), (13, I r680.2), (80, B ((((((r244.1 == 3) && (r244.2 == 0)) && (r388.1 == 0)) && (r388.2 == 42)) && (r532.1 == 1)) && (r532.2 == 41)))], [(2, (52, [I 0, I 7])), (3, (52, [I 1, I 7])), (4, (52, [I 2, I 7]))]⟩) (by as_aux_lemma => kernel_rfl) (by rfl) ?_
          intro a hS
          refine takeM (tc := 80) (b := ((((((r244.1 == 3) && (r244.2 == 0)) && (r388.1 == 0)) && (r388.2 == 42)) && (r532.1 == 1)) && (r532.2 == 41))) (f := fun c => ⟨[(1, Pt 2 0), (2, Pt 3 0), (3, Pt 4 0), (11, I r676.2), (13, I r680.2), (83, B (c && (r676.1 == 1)))], [(2, (52, [I 0, I 7])), (3, (52, [I 1, I 7])), (4, (52, [I 2, I 7]))]⟩) T [23, 24, 25] [2, 3, 4] [1, 2, 3, 11, 13, 83] hS (by kernel_rfl) (by kernel_rfl) (by kernel_rfl) (by kernel_rfl) hH (listed' := #[true, true, true, true, true, true, true, true, true, true, true, true, true, true, true, true, true, true, true, true, true, true, true, true, true, true, false, false, false, false, false, false, false, false, false, false, false, false, false, false, false, false, false, false, false, false, false, false, false, false, false, false, false, false, false, false, false, false, false, false, false, false, false, false, false, false, false, false, false, false, false, false, false, false, false, false, false, false, false]) (fuel := 53) (by kernel_rfl) (by kernel_rfl) (by rfl) ?_
          intro a hS
          refine take T [26] [2, 3, 4] [1, 2, 3, 11, 13, 84] hS (by kernel_rfl) (by kernel_rfl) (by kernel_rfl) hH (listed' := #[true, true, true, true, true, true, true, true, true, true, true, true, true, true, true, true, true, true, true, true, true, true, true, true, true, true, true, false, false, false, false, false, false, false, false, false, false, false, false, false, false, false, false, false, false, false, false, false, false, false, false, false, false, false, false, false, false, false, false, false, false, false, false, false, false, false, false, false, false, false, false, false, false, false, false, false, false, false, false]) (fuel := 52) (sy' := ⟨[(1, Pt 2 0), (2, Pt 3 0), (3, Pt 4 0), (11, I r676.2), (13, I r680.2), (84, B (((((((r244.1 == 3) && (r244.2 == 0)) && (r388.1 == 0)) && (r388.2 == 42)) && (r532.1 == 1)) && (r532.2 == 41)) && (r676.1 == 1)))], [(2, (52, [I 0, I 7])), (3, (52, [I 1, I 7])), (4, (52, [I 2, I 7]))]⟩) (by as_aux_lemma => kernel_rfl) (by rfl) ?_
          intro a hS
          refine takeM (tc := 84) (b := (((((((r244.1 == 3) && (r244.2 == 0)) && (r388.1 == 0)) && (r388.2 == 42)) && (r532.1 == 1)) && (r532.2 == 41)) && (r676.1 == 1))) (f := fun c => ⟨[(1, Pt 2 0), (2, Pt 3 0), (3, Pt 4 0), (13, I r680.2), (87, B (c && (r676.2 == 21)))], [(2, (52, [I 0, I 7])), (3, (52, [I 1, I 7])), (4, (52, [I 2, I 7]))]⟩) T [27, 28, 29] [2, 3, 4] [1, 2, 3, 13, 87] hS (by kernel_rfl) (by kernel_rfl) (by kernel_rfl) (by kernel_rfl) hH (listed' := #[true, true, true, true, true, true, true, true, true, true, true, true, true, true, true, true, true, true, true, true, true, true, true, true, true, true, true, true, true, true, false, false, false, false, false, false, false, false, false, false, false, false, false, false, false, false, false, false, false, false, false, false, false, false, false, false, false, false, false, false, false, false, false, false, false, false, false, false, false, false, false, false, false, false, false, false, false, false, false]) (fuel := 49) (by kernel_rfl) (by kernel_rfl) (by rfl) ?_
          intro a hS
          refine take T [30] [2, 3, 4] [1, 2, 3, 13, 88] hS (by kernel_rfl) (by kernel_rfl) (by kernel_rfl) hH (listed' := #[true, true, true, true, true, true, true, true, true, true, true, true, true, true, true, true, true, true, true, true, true, true, true, true, true, true, true, true, true, true, true, false, false, false, false, false, false, false, false, false, false, false, false, false, false, false, false, false, false, false, false, false, false, false, false, false, false, false, false, false, false, false, false, false, false, false, false, false, false, false, false, false, false, false, false, false, false, false, false]) (fuel := 48) (sy' := ⟨[(1, Pt 2 0), (2, Pt 3 0), (3, Pt 4 0), (13, I r680.2), (88, B ((((((((r244.1 == 3) && (r244.2 == 0)) && (r388.1 == 0)) && (r388.2 == 42)) && (r532.1 == 1)) && (r532.2 == 41)) && (r676.1 == 1)) && (r676.2 == 21)))], [(2, (52, [I 0, I 7])), (3, (52, [I 1, I 7])), (4, (52, [I 2, I 7]))]⟩) (by as_aux_lemma => kernel_rfl) (by rfl) ?_
          intro a hS
          refine takeM (tc := 88) (b := ((((((((r244.1 == 3) && (r244.2 == 0)) && (r388.1 == 0)) && (r388.2 == 42)) && (r532.1 == 1)) && (r532.2 == 41)) && (r676.1 == 1)) && (r676.2 == 21))) (f := fun c => ⟨[(1, Pt 2 0), (2, Pt 3 0), (3, Pt 4 0), (91, B (c && (r680.2 == 2)))], [(2, (52, [I 0, I 7])), (3, (52, [I 1, I 7])), (4, (52, [I 2, I 7]))]⟩) T [31, 32, 33] [2, 3, 4] [1, 2, 3, 91] hS (by kernel_rfl) (by kernel_rfl) (by kernel_rfl) (by kernel_rfl) hH (listed' := #[true, true, true, true, true, true, true, true, true, true, true, true, true, true, true, true, true, true, true, true, true, true, true, true, true, true, true, true, true, true, true, true, true, true, false, false, false, false, false, false, false, false, false, false, false, false, false, false, false, false, false, false, false, false, false, false, false, false, false, false, false, false, false, false, false, false, false, false, false, false, false, false, false, false, false, false, false, false, false]) (fuel := 45) (by kernel_rfl) (by kernel_rfl) (by rfl) ?_
          intro a hS
          refine take T [34] [2, 3, 4] [1, 2, 3, 92] hS (by kernel_rfl) (by kernel_rfl) (by kernel_rfl) hH (listed' := #[true, true, true, true, true, true, true, true, true, true, true, true, true, true, true, true, true, true, true, true, true, true, true, true, true, true, true, true, true, true, true, true, true, true, true, false, false, false, false, false, false, false, false, false, false, false, false, false, false, false, false, false, false, false, false, false, false, false, false, false, false, false, false, false, false, false, false, false, false, false, false, false, false, false, false, false, false, false, false]) (fuel := 44) (sy' := ⟨[(1, Pt 2 0), (2, Pt 3 0), (3, Pt 4 0), (92, B (((((((((r244.1 == 3) && (r244.2 == 0)) && (r388.1 == 0)) && (r388.2 == 42)) && (r532.1 == 1)) && (r532.2 == 41)) && (r676.1 == 1)) && (r676.2 == 21)) && (r680.2 == 2)))], [(2, (52, [I 0, I 7])), (3, (52, [I 1, I 7])), (4, (52, [I 2, I 7]))]⟩) (by as_aux_lemma => kernel_rfl) (by rfl) ?_
          intro a hS
          rcases Bool.eq_false_or_eq_true (((((((((r244.1 == 3) && (r244.2 == 0)) && (r388.1 == 0)) && (r388.2 == 42)) && (r532.1 == 1)) && (r532.2 == 41)) && (r676.1 == 1)) && (r676.2 == 21)) && (r680.2 == 2)) with hb | hb
          · replace hS := hS.lit (t := 92) (by kernel_rfl) hb
            replace hm := hm.1 hb
            refine take T [37, 38] [2, 3, 4] [1, 2, 3, 92, 95, 96] hS (by kernel_rfl) (by kernel_rfl) (by kernel_rfl) hH (listed' := #[true, true, true, true, true, true, true, true, true, true, true, true, true, true, true, true, true, true, true, true, true, true, true, true, true, true, true, true, true, true, true, true, true, true, true, false, false, true, true, false, false, false, false, false, false, false, false, false, false, false, false, false, false, false, false, false, false, false, false, false, false, false, false, false, false, false, false, false, false, false, false, false, false, false, false, false, false, false, false]) (fuel := 42) (sy' := ⟨[(1, Pt 2 0), (2, Pt 3 0), (3, Pt 4 0), (92, B true), (95, V (.agg #[.int .i64 0, .int .i64 7])), (96, V (.agg #[.int .i64 1, .int .i64 7]))], [(2, (52, [I 0, I 7])), (3, (52, [I 1, I 7])), (4, (52, [I 2, I 7]))]⟩) (by as_aux_lemma => kernel_rfl) (by rfl) ?_
            intro a hS
            obtain ⟨r686, hgr35⟩ : ∃ r, law29_one = r := ⟨_, rfl⟩
            replace hm := hm r686 hgr35
            obtain ⟨r693, hgr36⟩ : ∃ r, law29_three = r := ⟨_, rfl⟩
            replace hm := hm r693 hgr36
            refine drcut (fun a w => ∃ (χ : Nat → Nat) (a764 : Option Addr) (c765 : Nat) (a767 : Option Addr) (c768 : Nat) (a770 : Option Addr) (c771 : Nat), St Try.f26.ntmps ⟨[(1, Pt 2 0), (2, Pt 3 0), (3, Pt 4 0), (92, B true), (93, V (.agg #[.int .i64 r686.States, .int .i64 r686.Kinds, .int .i64 r686.Init, .slice a764 r686.Rows.length c765])), (94, V (.slice a767 r693.length c768)), (97, V (.slice a770 [(⟨0, 7⟩ : Api_Pick), (⟨1, 7⟩ : Api_Pick)].length c771))], [(2, (52, [I 0, I 7])), (3, (52, [I 1, I 7])), (4, (52, [I 2, I 7]))]⟩ ρ a w χ ∧ Old w0 χ0 w χ ∧ M0 w681 χ682 w χ ∧ Hold w681 χ682 (filt [2, 3, 4] ⟨[(1, Pt 2 0), (2, Pt 3 0), (3, Pt 4 0), (4, I r244.1), (5, I r244.2), (6, I r388.1), (7, I r388.2), (8, I r532.1), (9, I r532.2), (10, I r676.1), (11, I r676.2), (13, I r680.2)], [(2, (52, [I 0, I 7])), (3, (52, [I 1, I 7])), (4, (52, [I 2, I 7]))]⟩) ρ w ∧ RS tApi_Row w χ a764 r686.Rows c765 ∧ RS tApi_Oper w χ a767 r693 c768 ∧ RS tApi_Pick w χ a770 [(⟨0, 7⟩ : Api_Pick), (⟨1, 7⟩ : Api_Pick)] c771) #[true, true, true, true, true, true, true, true, true, true, true, true, true, true, true, true, true, true, true, true, true, true, true, true, true, true, true, true, true, true, true, true, true, true, true, true, true, true, true, true, false, false, false, false, false, false, false, false, false, false, false, false, false, false, false, false, false, false, false, false, false, false, false, false, false, false, false, false, false, false, false, false, false, false, false, false, false, false, false] 39 ?_ (fun H => ?_)
            · rintro a w820 ⟨χ819, a764, c765, a767, c768, a770, c771, hS, hO, hD, hH, h763, h766, h769⟩
              replace hm := hm (h763.sm (by kernel_rfl))
              replace hm := hm (h766.sm (by kernel_rfl))
              clear hgr35 hgr36
              obtain ⟨hq, hm⟩ := hm
              refine only 40 (by kernel_rfl) (by rfl) (call hS (by kernel_rfl) (by kernel_rfl) hb25 (by kernel_rfl) (fun _ _ => rfl) (k25 _ _ r686 r693 [(⟨0, 7⟩ : Api_Pick), (⟨1, 7⟩ : Api_Pick)] a764 c765 a767 c768 a770 c771 hq h763 h766 h769) ?_)
              intro v821 a w822 χ823 hE hp hS
              clear hq
              replace hO := hO.mv hE rfl rfl
              replace hD := hD.ev hE rfl
              replace h763 := h763.mv hE rfl
              replace h766 := h766.mv hE rfl
              replace h769 := h769.mv hE rfl
              clear hE
              obtain ⟨r824, hr⟩ : ∃ r, witness_Is r686 r693 [(⟨0, 7⟩ : Api_Pick), (⟨1, 7⟩ : Api_Pick)] = r := ⟨_, rfl⟩
              replace hm := hm r824 hr
              rw [hr] at hp
              clear hr
              subst hp
              replace hS := hS.sel [1, 2, 3, 92, 93, 94, 97, 98] [2, 3, 4] (sy' := ⟨[(1, Pt 2 0), (2, Pt 3 0), (3, Pt 4 0), (92, B true), (93, V (.agg #[.int .i64 r686.States, .int .i64 r686.Kinds, .int .i64 r686.Init, .slice a764 r686.Rows.length c765])), (94, V (.slice a767 r693.length c768)), (97, V (.slice a770 [(⟨0, 7⟩ : Api_Pick), (⟨1, 7⟩ : Api_Pick)].length c771)), (98, B r824)], [(2, (52, [I 0, I 7])), (3, (52, [I 1, I 7])), (4, (52, [I 2, I 7]))]⟩) (by kernel_rfl)
              refine andH (Hold.of hS (bks := [2, 3, 4]) (by kernel_rfl) hD) ?_
              intro hH
              refine take T [41, 42] [2, 3, 4] [1, 2, 3, 100] hS (by kernel_rfl) (by kernel_rfl) (by kernel_rfl) hH (listed' := #[true, true, true, true, true, true, true, true, true, true, true, true, true, true, true, true, true, true, true, true, true, true, true, true, true, true, true, true, true, true, true, true, true, true, true, true, true, true, true, true, true, true, true, false, false, false, false, false, false, false, false, false, false, false, false, false, false, false, false, false, false, false, false, false, false, false, false, false, false, false, false, false, false, false, false, false, false, false, false]) (fuel := 36) (sy' := ⟨[(1, Pt 2 0), (2, Pt 3 0), (3, Pt 4 0), (100, B r824)], [(2, (52, [I 0, I 7])), (3, (52, [I 1, I 7])), (4, (52, [I 2, I 7]))]⟩) (by as_aux_lemma => kernel_rfl) (by rfl) ?_
              intro a hS
              rcases Bool.eq_false_or_eq_true r824 with hb | hb
              · replace hS := hS.lit (t := 100) (by kernel_rfl) hb
                replace hm := hm.1 hb
                refine only 43 (by kernel_rfl) (by rfl) (call hS (by kernel_rfl) (by kernel_rfl) hb50 (by kernel_rfl) (fun _ _ => rfl) (k50 _ _) ?_)
                intro v825 a w826 χ827 hE hp hS
                replace hO := hO.mv hE rfl rfl
                replace hD := hD.ev hE rfl
                replace h763 := h763.mv hE rfl
                replace h766 := h766.mv hE rfl
                replace h769 := h769.mv hE rfl
                clear hE
                obtain ⟨a829, c830, hp, h831⟩ := hp
                obtain ⟨r828, hr⟩ : ∃ r, law29_one = r := ⟨_, rfl⟩
                replace hm := hm r828 hr
                rw [hr] at hp h831
                clear hr
                subst hp
                replace hm := hm (h831.sm (by kernel_rfl))
                replace hS := hS.sel [1, 2, 3, 100, 101] [2, 3, 4] (sy' := ⟨[(1, Pt 2 0), (2, Pt 3 0), (3, Pt 4 0), (100, B true), (101, V (.agg #[.int .i64 r828.States, .int .i64 r828.Kinds, .int .i64 r828.Init, .slice a829 r828.Rows.length c830]))], [(2, (52, [I 0, I 7])), (3, (52, [I 1, I 7])), (4, (52, [I 2, I 7]))]⟩) (by kernel_rfl)
                refine andH (Hold.of hS (bks := [2, 3, 4]) (by kernel_rfl) hD) ?_
                intro hH
                refine only 44 (by kernel_rfl) (by rfl) (call hS (by kernel_rfl) (by kernel_rfl) hb51 (by kernel_rfl) (fun _ _ => rfl) (k51 _ _) ?_)
                intro v832 a w833 χ834 hE hp hS
                replace hO := hO.mv hE rfl rfl
                replace hD := hD.ev hE rfl
                replace h763 := h763.mv hE rfl
                replace h766 := h766.mv hE rfl
                replace h769 := h769.mv hE rfl
                replace h831 := h831.mv hE rfl
                clear hE
                obtain ⟨a836, c837, hp, h838⟩ := hp
                obtain ⟨r835, hr⟩ : ∃ r, law29_three = r := ⟨_, rfl⟩
                replace hm := hm r835 hr
                rw [hr] at hp h838
                clear hr
                subst hp
                replace hm := hm (h838.sm (by kernel_rfl))
                replace hS := hS.sel [1, 2, 3, 100, 101, 102] [2, 3, 4] (sy' := ⟨[(1, Pt 2 0), (2, Pt 3 0), (3, Pt 4 0), (100, B true), (101, V (.agg #[.int .i64 r828.States, .int .i64 r828.Kinds, .int .i64 r828.Init, .slice a829 r828.Rows.length c830])), (102, V (.slice a836 r835.length c837))], [(2, (52, [I 0, I 7])), (3, (52, [I 1, I 7])), (4, (52, [I 2, I 7]))]⟩) (by kernel_rfl)
                refine andH (Hold.of hS (bks := [2, 3, 4]) (by kernel_rfl) hD) ?_
                intro hH
                obtain ⟨hq, hm⟩ := hm
                refine only 45 (by kernel_rfl) (by rfl) (call hS (by kernel_rfl) (by kernel_rfl) hb25 (by kernel_rfl) (fun _ _ => rfl) (k25 _ _ r828 r835 [] a829 c830 a836 c837 none 0 hq h831 h838 (RS.empty _ _ _)) ?_)
                intro v839 a w840 χ841 hE hp hS
                clear hq
                replace hO := hO.mv hE rfl rfl
                replace hD := hD.ev hE rfl
                replace h763 := h763.mv hE rfl
                replace h766 := h766.mv hE rfl
                replace h769 := h769.mv hE rfl
                replace h831 := h831.mv hE rfl
                replace h838 := h838.mv hE rfl
                clear hE
                obtain ⟨r842, hr⟩ : ∃ r, witness_Is r828 r835 [] = r := ⟨_, rfl⟩
                replace hm := hm r842 hr
                rw [hr] at hp
                clear hr
                subst hp
                replace hS := hS.sel [1, 2, 3, 100, 101, 102, 103] [2, 3, 4] (sy' := ⟨[(1, Pt 2 0), (2, Pt 3 0), (3, Pt 4 0), (100, B true), (101, V (.agg #[.int .i64 r828.States, .int .i64 r828.Kinds, .int .i64 r828.Init, .slice a829 r828.Rows.length c830])), (102, V (.slice a836 r835.length c837)), (103, B r842)], [(2, (52, [I 0, I 7])), (3, (52, [I 1, I 7])), (4, (52, [I 2, I 7]))]⟩) (by kernel_rfl)
                refine andH (Hold.of hS (bks := [2, 3, 4]) (by kernel_rfl) hD) ?_
                intro hH
                refine take T [46, 47, 48] [2, 3, 4] [1, 2, 3, 106] hS (by kernel_rfl) (by kernel_rfl) (by kernel_rfl) hH (listed' := #[true, true, true, true, true, true, true, true, true, true, true, true, true, true, true, true, true, true, true, true, true, true, true, true, true, true, true, true, true, true, true, true, true, true, true, true, true, true, true, true, true, true, true, true, true, true, true, true, true, false, false, false, false, false, false, false, false, false, false, false, false, false, false, false, false, false, false, false, false, false, false, false, false, false, false, false, false, false, false]) (fuel := 30) (sy' := ⟨[(1, Pt 2 0), (2, Pt 3 0), (3, Pt 4 0), (106, B (!r842))], [(2, (52, [I 0, I 7])), (3, (52, [I 1, I 7])), (4, (52, [I 2, I 7]))]⟩) (by as_aux_lemma => kernel_rfl) (by rfl) ?_
                intro a hS
                rcases Bool.eq_false_or_eq_true (!r842) with hb | hb
                · replace hS := hS.lit (t := 106) (by kernel_rfl) hb
                  replace hm := hm.1 hb
                  refine take T [50] [2, 3, 4] [1, 2, 3, 106, 108] hS (by kernel_rfl) (by kernel_rfl) (by kernel_rfl) hH (listed' := #[true, true, true, true, true, true, true, true, true, true, true, true, true, true, true, true, true, true, true, true, true, true, true, true, true, true, true, true, true, true, true, true, true, true, true, true, true, true, true, true, true, true, true, true, true, true, true, true, true, false, true, false, false, false, false, false, false, false, false, false, false, false, false, false, false, false, false, false, false, false, false, false, false, false, false, false, false, false, false]) (fuel := 29) (sy' := ⟨[(1, Pt 2 0), (2, Pt 3 0), (3, Pt 4 0), (106, B true), (108, V (.agg #[.int .i64 2, .int .i64 7]))], [(2, (52, [I 0, I 7])), (3, (52, [I 1, I 7])), (4, (52, [I 2, I 7]))]⟩) (by as_aux_lemma => kernel_rfl) (by rfl) ?_
                  intro a hS
                  obtain ⟨r846, hgr49⟩ : ∃ r, law29_three = r := ⟨_, rfl⟩
                  replace hm := hm r846 hgr49
                  refine drcut (fun a w => ∃ (χ : Nat → Nat) (a866 : Option Addr) (c867 : Nat) (a869 : Option Addr) (c870 : Nat), St Try.f26.ntmps ⟨[(1, Pt 2 0), (2, Pt 3 0), (3, Pt 4 0), (106, B true), (107, V (.slice a866 r846.length c867)), (109, V (.slice a869 [(⟨2, 7⟩ : Api_Pick)].length c870))], [(2, (52, [I 0, I 7])), (3, (52, [I 1, I 7])), (4, (52, [I 2, I 7]))]⟩ ρ a w χ ∧ Old w0 χ0 w χ ∧ M0 w681 χ682 w χ ∧ Hold w681 χ682 (filt [2, 3, 4] ⟨[(1, Pt 2 0), (2, Pt 3 0), (3, Pt 4 0), (4, I r244.1), (5, I r244.2), (6, I r388.1), (7, I r388.2), (8, I r532.1), (9, I r532.2), (10, I r676.1), (11, I r676.2), (13, I r680.2)], [(2, (52, [I 0, I 7])), (3, (52, [I 1, I 7])), (4, (52, [I 2, I 7]))]⟩) ρ w ∧ RS tApi_Oper w χ a866 r846 c867 ∧ RS tApi_Pick w χ a869 [(⟨2, 7⟩ : Api_Pick)] c870) #[true, true, true, true, true, true, true, true, true, true, true, true, true, true, true, true, true, true, true, true, true, true, true, true, true, true, true, true, true, true, true, true, true, true, true, true, true, true, true, true, true, true, true, true, true, true, true, true, true, true, true, true, false, false, false, false, false, false, false, false, false, false, false, false, false, false, false, false, false, false, false, false, false, false, false, false, false, false, false] 27 ?_ (fun H => ?_)
                  · rintro a w894 ⟨χ893, a866, c867, a869, c870, hS, hO, hD, hH, h865, h868⟩
                    replace hm := hm (h865.sm (by kernel_rfl))
                    clear hgr49
                    refine only 52 (by kernel_rfl) (by rfl) (call hS (by kernel_rfl) (by kernel_rfl) hb28 (by kernel_rfl) (fun _ _ => rfl) (k28 _ _ r846 [(⟨2, 7⟩ : Api_Pick)] a866 c867 a869 c870 h865 h868) ?_)
                    intro v895 a w896 χ897 hE hp hS
                    replace hO := hO.mv hE rfl rfl
                    replace hD := hD.ev hE rfl
                    replace h865 := h865.mv hE rfl
                    replace h868 := h868.mv hE rfl
                    clear hE
                    obtain ⟨r898, hr⟩ : ∃ r, witness_Order r846 [(⟨2, 7⟩ : Api_Pick)] = r := ⟨_, rfl⟩
                    replace hm := hm r898 hr
                    rw [hr] at hp
                    clear hr
                    subst hp
                    replace hS := hS.sel [1, 2, 3, 106, 107, 109, 110] [2, 3, 4] (sy' := ⟨[(1, Pt 2 0), (2, Pt 3 0), (3, Pt 4 0), (106, B true), (107, V (.slice a866 r846.length c867)), (109, V (.slice a869 [(⟨2, 7⟩ : Api_Pick)].length c870)), (110, I r898)], [(2, (52, [I 0, I 7])), (3, (52, [I 1, I 7])), (4, (52, [I 2, I 7]))]⟩) (by kernel_rfl)
                    refine andH (Hold.of hS (bks := [2, 3, 4]) (by kernel_rfl) hD) ?_
                    intro hH
                    refine take T [53, 54, 55] [2, 3, 4] [1, 2, 3, 113] hS (by kernel_rfl) (by kernel_rfl) (by kernel_rfl) hH (listed' := #[true, true, true, true, true, true, true, true, true, true, true, true, true, true, true, true, true, true, true, true, true, true, true, true, true, true, true, true, true, true, true, true, true, true, true, true, true, true, true, true, true, true, true, true, true, true, true, true, true, true, true, true, true, true, true, true, false, false, false, false, false, false, false, false, false, false, false, false, false, false, false, false, false, false, false, false, false, false, false]) (fuel := 23) (sy' := ⟨[(1, Pt 2 0), (2, Pt 3 0), (3, Pt 4 0), (113, B (r898 == 0))], [(2, (52, [I 0, I 7])), (3, (52, [I 1, I 7])), (4, (52, [I 2, I 7]))]⟩) (by as_aux_lemma => kernel_rfl) (by rfl) ?_
                    intro a hS
                    rcases Bool.eq_false_or_eq_true (r898 == 0) with hb | hb
                    · replace hS := hS.lit (t := 113) (by kernel_rfl) hb
                      replace hm := hm.1 hb
                      refine take T [57, 58, 59] [2, 3, 4] [2, 113, 115, 116, 117] hS (by kernel_rfl) (by kernel_rfl) (by kernel_rfl) hH (listed' := #[true, true, true, true, true, true, true, true, true, true, true, true, true, true, true, true, true, true, true, true, true, true, true, true, true, true, true, true, true, true, true, true, true, true, true, true, true, true, true, true, true, true, true, true, true, true, true, true, true, true, true, true, true, true, true, true, false, true, true, true, false, false, false, false, false, false, false, false, false, false, false, false, false, false, false, false, false, false, false]) (fuel := 20) (sy' := ⟨[(2, Pt 3 0), (113, B true), (115, V (.agg #[.int .i64 0, .int .i64 7])), (116, V (.agg #[.int .i64 1, .int .i64 7])), (117, V (.agg #[.int .i64 2, .int .i64 7]))], [(2, (52, [I 0, I 7])), (3, (52, [I 1, I 7])), (4, (52, [I 2, I 7]))]⟩) (by as_aux_lemma => kernel_rfl) (by rfl) ?_
                      intro a hS
                      obtain ⟨r902, hgr56⟩ : ∃ r, law29_three = r := ⟨_, rfl⟩
                      replace hm := hm r902 hgr56
                      refine drcut (fun a w => ∃ (χ : Nat → Nat) (a922 : Option Addr) (c923 : Nat) (a925 : Option Addr) (c926 : Nat), St Try.f26.ntmps ⟨[(2, Pt 3 0), (113, B true), (114, V (.slice a922 r902.length c923)), (118, V (.slice a925 [(⟨0, 7⟩ : Api_Pick), (⟨1, 7⟩ : Api_Pick), (⟨2, 7⟩ : Api_Pick)].length c926))], [(2, (52, [I 0, I 7])), (3, (52, [I 1, I 7])), (4, (52, [I 2, I 7]))]⟩ ρ a w χ ∧ Old w0 χ0 w χ ∧ M0 w681 χ682 w χ ∧ Hold w681 χ682 (filt [2, 3, 4] ⟨[(1, Pt 2 0), (2, Pt 3 0), (3, Pt 4 0), (4, I r244.1), (5, I r244.2), (6, I r388.1), (7, I r388.2), (8, I r532.1), (9, I r532.2), (10, I r676.1), (11, I r676.2), (13, I r680.2)], [(2, (52, [I 0, I 7])), (3, (52, [I 1, I 7])), (4, (52, [I 2, I 7]))]⟩) ρ w ∧ RS tApi_Oper w χ a922 r902 c923 ∧ RS tApi_Pick w χ a925 [(⟨0, 7⟩ : Api_Pick), (⟨1, 7⟩ : Api_Pick), (⟨2, 7⟩ : Api_Pick)] c926) #[true, true, true, true, true, true, true, true, true, true, true, true, true, true, true, true, true, true, true, true, true, true, true, true, true, true, true, true, true, true, true, true, true, true, true, true, true, true, true, true, true, true, true, true, true, true, true, true, true, true, true, true, true, true, true, true, true, true, true, true, true, false, false, false, false, false, false, false, false, false, false, false, false, false, false, false, false, false, false] 18 ?_ (fun H => ?_)
                      · rintro a w950 ⟨χ949, a922, c923, a925, c926, hS, hO, hD, hH, h921, h924⟩
                        replace hm := hm (h921.sm (by kernel_rfl))
                        clear hgr56
                        refine only 61 (by kernel_rfl) (by rfl) (call hS (by kernel_rfl) (by kernel_rfl) hb28 (by kernel_rfl) (fun _ _ => rfl) (k28 _ _ r902 [(⟨0, 7⟩ : Api_Pick), (⟨1, 7⟩ : Api_Pick), (⟨2, 7⟩ : Api_Pick)] a922 c923 a925 c926 h921 h924) ?_)
                        intro v951 a w952 χ953 hE hp hS
                        replace hO := hO.mv hE rfl rfl
                        replace hD := hD.ev hE rfl
                        replace h921 := h921.mv hE rfl
                        replace h924 := h924.mv hE rfl
                        clear hE
                        obtain ⟨r954, hr⟩ : ∃ r, witness_Order r902 [(⟨0, 7⟩ : Api_Pick), (⟨1, 7⟩ : Api_Pick), (⟨2, 7⟩ : Api_Pick)] = r := ⟨_, rfl⟩
                        replace hm := hm r954 hr
                        rw [hr] at hp
                        clear hr
                        subst hp
                        replace hS := hS.sel [2, 113, 114, 118, 119] [2, 3, 4] (sy' := ⟨[(2, Pt 3 0), (113, B true), (114, V (.slice a922 r902.length c923)), (118, V (.slice a925 [(⟨0, 7⟩ : Api_Pick), (⟨1, 7⟩ : Api_Pick), (⟨2, 7⟩ : Api_Pick)].length c926)), (119, I r954)], [(2, (52, [I 0, I 7])), (3, (52, [I 1, I 7])), (4, (52, [I 2, I 7]))]⟩) (by kernel_rfl)
                        refine andH (Hold.of hS (bks := [2, 3, 4]) (by kernel_rfl) hD) ?_
                        intro hH
                        refine take T [62, 63, 64] [2, 3, 4] [2, 122] hS (by kernel_rfl) (by kernel_rfl) (by kernel_rfl) hH (listed' := #[true, true, true, true, true, true, true, true, true, true, true, true, true, true, true, true, true, true, true, true, true, true, true, true, true, true, true, true, true, true, true, true, true, true, true, true, true, true, true, true, true, true, true, true, true, true, true, true, true, true, true, true, true, true, true, true, true, true, true, true, true, true, true, true, true, false, false, false, false, false, false, false, false, false, false, false, false, false, false]) (fuel := 14) (sy' := ⟨[(2, Pt 3 0), (122, B (r954 == (-1)))], [(2, (52, [I 0, I 7])), (3, (52, [I 1, I 7])), (4, (52, [I 2, I 7]))]⟩) (by as_aux_lemma => kernel_rfl) (by rfl) ?_
                        intro a hS
                        rcases Bool.eq_false_or_eq_true (r954 == (-1)) with hb | hb
                        · replace hS := hS.lit (t := 122) (by kernel_rfl) hb
                          replace hm := hm.1 hb
                          refine take T [66] [2, 3, 4] [122, 124] hS (by kernel_rfl) (by kernel_rfl) (by kernel_rfl) hH (listed' := #[true, true, true, true, true, true, true, true, true, true, true, true, true, true, true, true, true, true, true, true, true, true, true, true, true, true, true, true, true, true, true, true, true, true, true, true, true, true, true, true, true, true, true, true, true, true, true, true, true, true, true, true, true, true, true, true, true, true, true, true, true, true, true, true, true, false, true, false, false, false, false, false, false, false, false, false, false, false, false]) (fuel := 13) (sy' := ⟨[(122, B true), (124, V (.agg #[.int .i64 1, .int .i64 7]))], [(2, (52, [I 0, I 7])), (3, (52, [I 1, I 7])), (4, (52, [I 2, I 7]))]⟩) (by as_aux_lemma => kernel_rfl) (by rfl) ?_
                          intro a hS
                          obtain ⟨r958, hgr65⟩ : ∃ r, law29_three = r := ⟨_, rfl⟩
                          replace hm := hm r958 hgr65
                          obtain ⟨hgp68, hm⟩ := hm
                          obtain ⟨r969, hgr68⟩ : ∃ r, witness_Missing r958 [(⟨1, 7⟩ : Api_Pick)] = r := ⟨_, rfl⟩
                          replace hm := hm r969 hgr68
                          refine drcut (fun a w => ∃ (χ : Nat → Nat) (a1192 : Option Addr) (c1193 : Nat) (a1195 : Option Addr) (c1196 : Nat), St Try.f26.ntmps ⟨[(122, B true), (126, V (.slice a1192 r969.length c1193)), (127, V (.slice a1195 [0].length c1196))], [(2, (52, [I 0, I 7])), (3, (52, [I 1, I 7])), (4, (52, [I 2, I 7]))]⟩ ρ a w χ ∧ Old w0 χ0 w χ ∧ M0 w681 χ682 w χ ∧ Hold w681 χ682 (filt [2, 3, 4] ⟨[(1, Pt 2 0), (2, Pt 3 0), (3, Pt 4 0), (4, I r244.1), (5, I r244.2), (6, I r388.1), (7, I r388.2), (8, I r532.1), (9, I r532.2), (10, I r676.1), (11, I r676.2), (13, I r680.2)], [(2, (52, [I 0, I 7])), (3, (52, [I 1, I 7])), (4, (52, [I 2, I 7]))]⟩) ρ w ∧ RS tI w χ a1192 r969 c1193 ∧ RS tI w χ a1195 [0] c1196) #[true, true, true, true, true, true, true, true, true, true, true, true, true, true, true, true, true, true, true, true, true, true, true, true, true, true, true, true, true, true, true, true, true, true, true, true, true, true, true, true, true, true, true, true, true, true, true, true, true, true, true, true, true, true, true, true, true, true, true, true, true, true, true, true, true, true, true, true, true, true, false, false, false, false, false, false, false, false, false] 9 ?_ (fun H => ?_)
                          · rintro a w1337 ⟨χ1336, a1192, c1193, a1195, c1196, hS, hO, hD, hH, h1191, h1194⟩
                            replace hm := hm (h1191.sm (by kernel_rfl))
                            clear hgr65 hgp68 hgr68
                            refine only 70 (by kernel_rfl) (by rfl) (call hS (by kernel_rfl) (by kernel_rfl) hb19 (by kernel_rfl) (fun _ _ => rfl) (k19 _ _ r969 [0] a1192 c1193 a1195 c1196 h1191 h1194) ?_)
                            intro v1338 a w1339 χ1340 hE hp hS
                            replace hO := hO.mv hE rfl rfl
                            replace hD := hD.ev hE rfl
                            replace h1191 := h1191.mv hE rfl
                            replace h1194 := h1194.mv hE rfl
                            clear hE
                            obtain ⟨r1341, hr⟩ : ∃ r, ref01_SameInts r969 [0] = r := ⟨_, rfl⟩
                            replace hm := hm r1341 hr
                            rw [hr] at hp
                            clear hr
                            subst hp
                            replace hS := hS.sel [122, 126, 127, 128] [2, 3, 4] (sy' := ⟨[(122, B true), (126, V (.slice a1192 r969.length c1193)), (127, V (.slice a1195 [0].length c1196)), (128, B r1341)], [(2, (52, [I 0, I 7])), (3, (52, [I 1, I 7])), (4, (52, [I 2, I 7]))]⟩) (by kernel_rfl)
                            refine andH (Hold.of hS (bks := [2, 3, 4]) (by kernel_rfl) hD) ?_
                            intro hH
                            refine take T [71, 72] [2, 3, 4] [130] hS (by kernel_rfl) (by kernel_rfl) (by kernel_rfl) hH (listed' := #[true, true, true, true, true, true, true, true, true, true, true, true, true, true, true, true, true, true, true, true, true, true, true, true, true, true, true, true, true, true, true, true, true, true, true, true, true, true, true, true, true, true, true, true, true, true, true, true, true, true, true, true, true, true, true, true, true, true, true, true, true, true, true, true, true, true, true, true, true, true, true, true, true, false, false, false, false, false, false]) (fuel := 6) (sy' := ⟨[(130, B r1341)], [(2, (52, [I 0, I 7])), (3, (52, [I 1, I 7])), (4, (52, [I 2, I 7]))]⟩) (by as_aux_lemma => kernel_rfl) (by rfl) ?_
                            intro a hS
                            rcases Bool.eq_false_or_eq_true r1341 with hb | hb
                            · replace hS := hS.lit (t := 130) (by kernel_rfl) hb
                              replace hm := hm.1 hb
                              obtain ⟨r1345, hgr73⟩ : ∃ r, law29_three = r := ⟨_, rfl⟩
                              replace hm := hm r1345 hgr73
                              obtain ⟨hgp74, hm⟩ := hm
                              obtain ⟨r1352, hgr74⟩ : ∃ r, witness_Left r1345 [] = r := ⟨_, rfl⟩
                              replace hm := hm r1352 hgr74
                              refine drcut (fun a w => ∃ (χ : Nat → Nat) (a1423 : Option Addr) (c1424 : Nat) (a1426 : Option Addr) (c1427 : Nat), St Try.f26.ntmps ⟨[(130, B true), (132, V (.slice a1423 r1352.length c1424)), (133, V (.slice a1426 [2].length c1427))], [(2, (52, [I 0, I 7])), (3, (52, [I 1, I 7])), (4, (52, [I 2, I 7]))]⟩ ρ a w χ ∧ Old w0 χ0 w χ ∧ M0 w681 χ682 w χ ∧ Hold w681 χ682 (filt [2, 3, 4] ⟨[(1, Pt 2 0), (2, Pt 3 0), (3, Pt 4 0), (4, I r244.1), (5, I r244.2), (6, I r388.1), (7, I r388.2), (8, I r532.1), (9, I r532.2), (10, I r676.1), (11, I r676.2), (13, I r680.2)], [(2, (52, [I 0, I 7])), (3, (52, [I 1, I 7])), (4, (52, [I 2, I 7]))]⟩) ρ w ∧ RS tI w χ a1423 r1352 c1424 ∧ RS tI w χ a1426 [2] c1427) #[true, true, true, true, true, true, true, true, true, true, true, true, true, true, true, true, true, true, true, true, true, true, true, true, true, true, true, true, true, true, true, true, true, true, true, true, true, true, true, true, true, true, true, true, true, true, true, true, true, true, true, true, true, true, true, true, true, true, true, true, true, true, true, true, true, true, true, true, true, true, true, true, true, true, true, true, false, false, false] 3 ?_ (fun H => ?_)
                              · rintro a w1476 ⟨χ1475, a1423, c1424, a1426, c1427, hS, hO, hD, hH, h1422, h1425⟩
                                replace hm := hm (h1422.sm (by kernel_rfl))
                                clear hgr73 hgp74 hgr74
                                refine only 76 (by kernel_rfl) (by rfl) (call hS (by kernel_rfl) (by kernel_rfl) hb19 (by kernel_rfl) (fun _ _ => rfl) (k19 _ _ r1352 [2] a1423 c1424 a1426 c1427 h1422 h1425) ?_)
                                intro v1477 a w1478 χ1479 hE hp hS
                                replace hO := hO.mv hE rfl rfl
                                replace hD := hD.ev hE rfl
                                replace h1422 := h1422.mv hE rfl
                                replace h1425 := h1425.mv hE rfl
                                clear hE
                                obtain ⟨r1480, hr⟩ : ∃ r, ref01_SameInts r1352 [2] = r := ⟨_, rfl⟩
                                replace hm := hm r1480 hr
                                rw [hr] at hp
                                clear hr
                                subst hp
                                replace hS := hS.sel [130, 132, 133, 134] [2, 3, 4] (sy' := ⟨[(130, B true), (132, V (.slice a1423 r1352.length c1424)), (133, V (.slice a1426 [2].length c1427)), (134, B r1480)], [(2, (52, [I 0, I 7])), (3, (52, [I 1, I 7])), (4, (52, [I 2, I 7]))]⟩) (by kernel_rfl)
                                refine andH (Hold.of hS (bks := [2, 3, 4]) (by kernel_rfl) hD) ?_
                                intro hH
                                refine take T [77, 78] [2, 3, 4] [0] hS (by kernel_rfl) (by kernel_rfl) (by kernel_rfl) hH (listed' := #[true, true, true, true, true, true, true, true, true, true, true, true, true, true, true, true, true, true, true, true, true, true, true, true, true, true, true, true, true, true, true, true, true, true, true, true, true, true, true, true, true, true, true, true, true, true, true, true, true, true, true, true, true, true, true, true, true, true, true, true, true, true, true, true, true, true, true, true, true, true, true, true, true, true, true, true, true, true, true]) (fuel := 0) (sy' := ⟨[(0, B r1480)], [(2, (52, [I 0, I 7])), (3, (52, [I 1, I 7])), (4, (52, [I 2, I 7]))]⟩) (by as_aux_lemma => kernel_rfl) (by rfl) ?_
                                intro a hS
                                refine drawnDone (by kernel_rfl) ?_
                                clear hD hH
                                replace hS := hS.sel [0] [] (sy' := ⟨[(0, B r1480)], []⟩) (by kernel_rfl)
                                refine wret ?_
                                exact fin T hS hO (fun c => c) rfl (r := [.bool r1480]) (by kernel_rfl) (fun χ' hM hC => ⟨r1480, hm, rfl⟩)
                              · clear hm
                                refine anyOf (is := [73, 75]) (by kernel_rfl) (by decide) ?_
                                intro i hi
                                rcases mem2 hi with rfl | rfl
                                · refine oneOp (by rfl) (call hS (by kernel_rfl) (by kernel_rfl) hb51 (by kernel_rfl) (fun _ _ => rfl) (k51 _ _) ?_)
                                  intro v1428 a w1429 χ1430 hE hp hS
                                  replace hO := hO.mv hE rfl rfl
                                  replace hD := hD.ev hE rfl
                                  replace h1191 := h1191.mv hE rfl
                                  replace h1194 := h1194.mv hE rfl
                                  clear hE
                                  obtain ⟨a1432, c1433, hp, h1434⟩ := hp
                                  rw [hgr73] at hp h1434
                                  subst hp
                                  replace hS := hS.sel [130, 131] [2, 3, 4] (sy' := ⟨[(130, B true), (131, V (.slice a1432 r1345.length c1433))], [(2, (52, [I 0, I 7])), (3, (52, [I 1, I 7])), (4, (52, [I 2, I 7]))]⟩) (by kernel_rfl)
                                  refine andH (Hold.of hS (bks := [2, 3, 4]) (by kernel_rfl) hD) ?_
                                  intro hH
                                  refine anyOf (is := [74, 75]) (by kernel_rfl) (by decide) ?_
                                  intro i hi
                                  rcases mem2 hi with rfl | rfl
                                  · have hq := hgp74
                                    refine oneOp (by rfl) (call hS (by kernel_rfl) (by kernel_rfl) hb29 (by kernel_rfl) (fun _ _ => rfl) (k29 _ _ r1345 [] a1432 c1433 none 0 hq h1434 (RS.empty _ _ _)) ?_)
                                    intro v1435 a w1436 χ1437 hE hp hS
                                    clear hq
                                    replace hO := hO.mv hE rfl rfl
                                    replace hD := hD.ev hE rfl
                                    replace h1191 := h1191.mv hE rfl
                                    replace h1194 := h1194.mv hE rfl
                                    replace h1434 := h1434.mv hE rfl
                                    clear hE
                                    obtain ⟨a1439, c1440, hp, h1441⟩ := hp
                                    rw [hgr74] at hp h1441
                                    subst hp
                                    replace hS := hS.sel [130, 131, 132] [2, 3, 4] (sy' := ⟨[(130, B true), (131, V (.slice a1432 r1345.length c1433)), (132, V (.slice a1439 r1352.length c1440))], [(2, (52, [I 0, I 7])), (3, (52, [I 1, I 7])), (4, (52, [I 2, I 7]))]⟩) (by kernel_rfl)
                                    refine andH (Hold.of hS (bks := [2, 3, 4]) (by kernel_rfl) hD) ?_
                                    intro hH
                                    refine only 75 (by kernel_rfl) (by rfl) (lit (E := 3) (col := 0) (T := tI) (vals := [.int .i64 2]) (ys := [2]) T hS (by kernel_rfl) (by kernel_rfl) (by kernel_rfl) (by kernel_rfl) (by exact ⟨rfl, trivial⟩) rfl (by kernel_rfl) (by kernel_rfl) (by kernel_rfl) (by kernel_rfl) ?_)
                                    intro b1442 a w1443 χ1444 hE h1445 hN hS
                                    clear hN
                                    replace hO := hO.mv hE rfl rfl
                                    replace hD := hD.ev hE rfl
                                    replace h1191 := h1191.mv hE rfl
                                    replace h1194 := h1194.mv hE rfl
                                    replace h1434 := h1434.mv hE rfl
                                    replace h1441 := h1441.mv hE rfl
                                    clear hE
                                    replace h1445 := h1445.rs0
                                    refine andH (Hold.of hS (bks := [2, 3, 4]) (by kernel_rfl) hD) ?_
                                    intro hH
                                    exact H _ _ ⟨_, a1439, c1440, (some ⟨b1442, 0, none⟩), 1, hS.sel [130, 132, 133] [2, 3, 4] (by kernel_rfl), hO, hD, hH, h1441, h1445⟩
                                  · refine oneOp (by rfl) (lit (E := 3) (col := 0) (T := tI) (vals := [.int .i64 2]) (ys := [2]) T hS (by kernel_rfl) (by kernel_rfl) (by kernel_rfl) (by kernel_rfl) (by exact ⟨rfl, trivial⟩) rfl (by kernel_rfl) (by kernel_rfl) (by kernel_rfl) (by kernel_rfl) ?_)
                                    intro b1446 a w1447 χ1448 hE h1449 hN hS
                                    clear hN
                                    replace hO := hO.mv hE rfl rfl
                                    replace hD := hD.ev hE rfl
                                    replace h1191 := h1191.mv hE rfl
                                    replace h1194 := h1194.mv hE rfl
                                    replace h1434 := h1434.mv hE rfl
                                    clear hE
                                    replace h1449 := h1449.rs0
                                    refine andH (Hold.of hS (bks := [2, 3, 4]) (by kernel_rfl) hD) ?_
                                    intro hH
                                    have hq := hgp74
                                    refine only 74 (by kernel_rfl) (by rfl) (call hS (by kernel_rfl) (by kernel_rfl) hb29 (by kernel_rfl) (fun _ _ => rfl) (k29 _ _ r1345 [] a1432 c1433 none 0 hq h1434 (RS.empty _ _ _)) ?_)
                                    intro v1450 a w1451 χ1452 hE hp hS
                                    clear hq
                                    replace hO := hO.mv hE rfl rfl
                                    replace hD := hD.ev hE rfl
                                    replace h1191 := h1191.mv hE rfl
                                    replace h1194 := h1194.mv hE rfl
                                    replace h1434 := h1434.mv hE rfl
                                    replace h1449 := h1449.mv hE rfl
                                    clear hE
                                    obtain ⟨a1454, c1455, hp, h1456⟩ := hp
                                    rw [hgr74] at hp h1456
                                    subst hp
                                    replace hS := hS.sel [130, 131, 133, 132] [2, 3, 4] (sy' := ⟨[(130, B true), (131, V (.slice a1432 r1345.length c1433)), (133, V (.slice (some ⟨b1446, 0, none⟩) [2].length 1)), (132, V (.slice a1454 r1352.length c1455))], [(2, (52, [I 0, I 7])), (3, (52, [I 1, I 7])), (4, (52, [I 2, I 7]))]⟩) (by kernel_rfl)
                                    refine andH (Hold.of hS (bks := [2, 3, 4]) (by kernel_rfl) hD) ?_
                                    intro hH
                                    exact H _ _ ⟨_, a1454, c1455, (some ⟨b1446, 0, none⟩), 1, hS.sel [130, 132, 133] [2, 3, 4] (by kernel_rfl), hO, hD, hH, h1456, h1449⟩
                                · refine oneOp (by rfl) (lit (E := 3) (col := 0) (T := tI) (vals := [.int .i64 2]) (ys := [2]) T hS (by kernel_rfl) (by kernel_rfl) (by kernel_rfl) (by kernel_rfl) (by exact ⟨rfl, trivial⟩) rfl (by kernel_rfl) (by kernel_rfl) (by kernel_rfl) (by kernel_rfl) ?_)
                                  intro b1457 a w1458 χ1459 hE h1460 hN hS
                                  clear hN
                                  replace hO := hO.mv hE rfl rfl
                                  replace hD := hD.ev hE rfl
                                  replace h1191 := h1191.mv hE rfl
                                  replace h1194 := h1194.mv hE rfl
                                  clear hE
                                  replace h1460 := h1460.rs0
                                  refine andH (Hold.of hS (bks := [2, 3, 4]) (by kernel_rfl) hD) ?_
                                  intro hH
                                  refine only 73 (by kernel_rfl) (by rfl) (call hS (by kernel_rfl) (by kernel_rfl) hb51 (by kernel_rfl) (fun _ _ => rfl) (k51 _ _) ?_)
                                  intro v1461 a w1462 χ1463 hE hp hS
                                  replace hO := hO.mv hE rfl rfl
                                  replace hD := hD.ev hE rfl
                                  replace h1191 := h1191.mv hE rfl
                                  replace h1194 := h1194.mv hE rfl
                                  replace h1460 := h1460.mv hE rfl
                                  clear hE
                                  obtain ⟨a1465, c1466, hp, h1467⟩ := hp
                                  rw [hgr73] at hp h1467
                                  subst hp
                                  replace hS := hS.sel [130, 133, 131] [2, 3, 4] (sy' := ⟨[(130, B true), (133, V (.slice (some ⟨b1457, 0, none⟩) [2].length 1)), (131, V (.slice a1465 r1345.length c1466))], [(2, (52, [I 0, I 7])), (3, (52, [I 1, I 7])), (4, (52, [I 2, I 7]))]⟩) (by kernel_rfl)
                                  refine andH (Hold.of hS (bks := [2, 3, 4]) (by kernel_rfl) hD) ?_
                                  intro hH
                                  have hq := hgp74
                                  refine only 74 (by kernel_rfl) (by rfl) (call hS (by kernel_rfl) (by kernel_rfl) hb29 (by kernel_rfl) (fun _ _ => rfl) (k29 _ _ r1345 [] a1465 c1466 none 0 hq h1467 (RS.empty _ _ _)) ?_)
                                  intro v1468 a w1469 χ1470 hE hp hS
                                  clear hq
                                  replace hO := hO.mv hE rfl rfl
                                  replace hD := hD.ev hE rfl
                                  replace h1191 := h1191.mv hE rfl
                                  replace h1194 := h1194.mv hE rfl
                                  replace h1460 := h1460.mv hE rfl
                                  replace h1467 := h1467.mv hE rfl
                                  clear hE
                                  obtain ⟨a1472, c1473, hp, h1474⟩ := hp
                                  rw [hgr74] at hp h1474
                                  subst hp
                                  replace hS := hS.sel [130, 133, 131, 132] [2, 3, 4] (sy' := ⟨[(130, B true), (133, V (.slice (some ⟨b1457, 0, none⟩) [2].length 1)), (131, V (.slice a1465 r1345.length c1466)), (132, V (.slice a1472 r1352.length c1473))], [(2, (52, [I 0, I 7])), (3, (52, [I 1, I 7])), (4, (52, [I 2, I 7]))]⟩) (by kernel_rfl)
                                  refine andH (Hold.of hS (bks := [2, 3, 4]) (by kernel_rfl) hD) ?_
                                  intro hH
                                  exact H _ _ ⟨_, a1472, c1473, (some ⟨b1457, 0, none⟩), 1, hS.sel [130, 132, 133] [2, 3, 4] (by kernel_rfl), hO, hD, hH, h1474, h1460⟩
                            · replace hS := hS.lit (t := 130) (by kernel_rfl) hb
                              replace hm := hm.2 hb
                              refine take T [73, 75, 74, 76, 77, 78] [2, 3, 4] [0] hS (by kernel_rfl) (by kernel_rfl) (by kernel_rfl) hH (listed' := #[true, true, true, true, true, true, true, true, true, true, true, true, true, true, true, true, true, true, true, true, true, true, true, true, true, true, true, true, true, true, true, true, true, true, true, true, true, true, true, true, true, true, true, true, true, true, true, true, true, true, true, true, true, true, true, true, true, true, true, true, true, true, true, true, true, true, true, true, true, true, true, true, true, true, true, true, true, true, true]) (fuel := 0) (sy' := ⟨[(0, B false)], [(2, (52, [I 0, I 7])), (3, (52, [I 1, I 7])), (4, (52, [I 2, I 7]))]⟩) (by as_aux_lemma => kernel_rfl) (by rfl) ?_
                              intro a hS
                              refine drawnDone (by kernel_rfl) ?_
                              clear hD hH
                              replace hS := hS.sel [0] [] (sy' := ⟨[(0, B false)], []⟩) (by kernel_rfl)
                              refine wret ?_
                              exact fin T hS hO (fun c => c) rfl (r := [.bool false]) (by kernel_rfl) (fun χ' hM hC => ⟨false, hm, rfl⟩)
                          · clear hm
                            refine anyOf (is := [65, 67, 69]) (by kernel_rfl) (by decide) ?_
                            intro i hi
                            rcases mem3 hi with rfl | rfl | rfl
                            · refine oneOp (by rfl) (call hS (by kernel_rfl) (by kernel_rfl) hb51 (by kernel_rfl) (fun _ _ => rfl) (k51 _ _) ?_)
                              intro v1197 a w1198 χ1199 hE hp hS
                              replace hO := hO.mv hE rfl rfl
                              replace hD := hD.ev hE rfl
                              replace h921 := h921.mv hE rfl
                              replace h924 := h924.mv hE rfl
                              clear hE
                              obtain ⟨a1201, c1202, hp, h1203⟩ := hp
                              rw [hgr65] at hp h1203
                              subst hp
                              replace hS := hS.sel [122, 124, 123] [2, 3, 4] (sy' := ⟨[(122, B true), (124, V (.agg #[.int .i64 1, .int .i64 7])), (123, V (.slice a1201 r958.length c1202))], [(2, (52, [I 0, I 7])), (3, (52, [I 1, I 7])), (4, (52, [I 2, I 7]))]⟩) (by kernel_rfl)
                              refine andH (Hold.of hS (bks := [2, 3, 4]) (by kernel_rfl) hD) ?_
                              intro hH
                              refine anyOf (is := [67, 69]) (by kernel_rfl) (by decide) ?_
                              intro i hi
                              rcases mem2 hi with rfl | rfl
                              · refine oneOp (by rfl) (lit (E := 52) (col := 0) (T := tApi_Pick) (vals := [.agg #[.int .i64 1, .int .i64 7]]) (ys := [(⟨1, 7⟩ : Api_Pick)]) T hS (by kernel_rfl) (by kernel_rfl) (by kernel_rfl) (by kernel_rfl) (by exact ⟨rfl, trivial⟩) rfl (by kernel_rfl) (by kernel_rfl) (by kernel_rfl) (by kernel_rfl) ?_)
                                intro b1204 a w1205 χ1206 hE h1207 hN hS
                                clear hN
                                replace hO := hO.mv hE rfl rfl
                                replace hD := hD.ev hE rfl
                                replace h921 := h921.mv hE rfl
                                replace h924 := h924.mv hE rfl
                                replace h1203 := h1203.mv hE rfl
                                clear hE
                                replace h1207 := h1207.rs0
                                refine andH (Hold.of hS (bks := [2, 3, 4]) (by kernel_rfl) hD) ?_
                                intro hH
                                refine anyOf (is := [68, 69]) (by kernel_rfl) (by decide) ?_
                                intro i hi
                                rcases mem2 hi with rfl | rfl
                                · have hq := hgp68
                                  refine oneOp (by rfl) (call hS (by kernel_rfl) (by kernel_rfl) hb27 (by kernel_rfl) (fun _ _ => rfl) (k27 _ _ r958 [(⟨1, 7⟩ : Api_Pick)] a1201 c1202 (some ⟨b1204, 0, none⟩) 1 hq h1203 h1207) ?_)
                                  intro v1208 a w1209 χ1210 hE hp hS
                                  clear hq
                                  replace hO := hO.mv hE rfl rfl
                                  replace hD := hD.ev hE rfl
                                  replace h921 := h921.mv hE rfl
                                  replace h924 := h924.mv hE rfl
                                  replace h1203 := h1203.mv hE rfl
                                  replace h1207 := h1207.mv hE rfl
                                  clear hE
                                  obtain ⟨a1212, c1213, hp, h1214⟩ := hp
                                  rw [hgr68] at hp h1214
                                  subst hp
                                  replace hS := hS.sel [122, 124, 123, 125, 126] [2, 3, 4] (sy' := ⟨[(122, B true), (124, V (.agg #[.int .i64 1, .int .i64 7])), (123, V (.slice a1201 r958.length c1202)), (125, V (.slice (some ⟨b1204, 0, none⟩) [(⟨1, 7⟩ : Api_Pick)].length 1)), (126, V (.slice a1212 r969.length c1213))], [(2, (52, [I 0, I 7])), (3, (52, [I 1, I 7])), (4, (52, [I 2, I 7]))]⟩) (by kernel_rfl)
                                  refine andH (Hold.of hS (bks := [2, 3, 4]) (by kernel_rfl) hD) ?_
                                  intro hH
                                  refine only 69 (by kernel_rfl) (by rfl) (lit (E := 3) (col := 0) (T := tI) (vals := [.int .i64 0]) (ys := [0]) T hS (by kernel_rfl) (by kernel_rfl) (by kernel_rfl) (by kernel_rfl) (by exact ⟨rfl, trivial⟩) rfl (by kernel_rfl) (by kernel_rfl) (by kernel_rfl) (by kernel_rfl) ?_)
                                  intro b1215 a w1216 χ1217 hE h1218 hN hS
                                  clear hN
                                  replace hO := hO.mv hE rfl rfl
                                  replace hD := hD.ev hE rfl
                                  replace h921 := h921.mv hE rfl
                                  replace h924 := h924.mv hE rfl
                                  replace h1203 := h1203.mv hE rfl
                                  replace h1207 := h1207.mv hE rfl
                                  replace h1214 := h1214.mv hE rfl
                                  clear hE
                                  replace h1218 := h1218.rs0
                                  refine andH (Hold.of hS (bks := [2, 3, 4]) (by kernel_rfl) hD) ?_
                                  intro hH
                                  exact H _ _ ⟨_, a1212, c1213, (some ⟨b1215, 0, none⟩), 1, hS.sel [122, 126, 127] [2, 3, 4] (by kernel_rfl), hO, hD, hH, h1214, h1218⟩
                                · refine oneOp (by rfl) (lit (E := 3) (col := 0) (T := tI) (vals := [.int .i64 0]) (ys := [0]) T hS (by kernel_rfl) (by kernel_rfl) (by kernel_rfl) (by kernel_rfl) (by exact ⟨rfl, trivial⟩) rfl (by kernel_rfl) (by kernel_rfl) (by kernel_rfl) (by kernel_rfl) ?_)
                                  intro b1219 a w1220 χ1221 hE h1222 hN hS
                                  clear hN
                                  replace hO := hO.mv hE rfl rfl
                                  replace hD := hD.ev hE rfl
                                  replace h921 := h921.mv hE rfl
                                  replace h924 := h924.mv hE rfl
                                  replace h1203 := h1203.mv hE rfl
                                  replace h1207 := h1207.mv hE rfl
                                  clear hE
                                  replace h1222 := h1222.rs0
                                  refine andH (Hold.of hS (bks := [2, 3, 4]) (by kernel_rfl) hD) ?_
                                  intro hH
                                  have hq := hgp68
                                  refine only 68 (by kernel_rfl) (by rfl) (call hS (by kernel_rfl) (by kernel_rfl) hb27 (by kernel_rfl) (fun _ _ => rfl) (k27 _ _ r958 [(⟨1, 7⟩ : Api_Pick)] a1201 c1202 (some ⟨b1204, 0, none⟩) 1 hq h1203 h1207) ?_)
                                  intro v1223 a w1224 χ1225 hE hp hS
                                  clear hq
                                  replace hO := hO.mv hE rfl rfl
                                  replace hD := hD.ev hE rfl
                                  replace h921 := h921.mv hE rfl
                                  replace h924 := h924.mv hE rfl
                                  replace h1203 := h1203.mv hE rfl
                                  replace h1207 := h1207.mv hE rfl
                                  replace h1222 := h1222.mv hE rfl
                                  clear hE
                                  obtain ⟨a1227, c1228, hp, h1229⟩ := hp
                                  rw [hgr68] at hp h1229
                                  subst hp
                                  replace hS := hS.sel [122, 124, 123, 125, 127, 126] [2, 3, 4] (sy' := ⟨[(122, B true), (124, V (.agg #[.int .i64 1, .int .i64 7])), (123, V (.slice a1201 r958.length c1202)), (125, V (.slice (some ⟨b1204, 0, none⟩) [(⟨1, 7⟩ : Api_Pick)].length 1)), (127, V (.slice (some ⟨b1219, 0, none⟩) [0].length 1)), (126, V (.slice a1227 r969.length c1228))], [(2, (52, [I 0, I 7])), (3, (52, [I 1, I 7])), (4, (52, [I 2, I 7]))]⟩) (by kernel_rfl)
                                  refine andH (Hold.of hS (bks := [2, 3, 4]) (by kernel_rfl) hD) ?_
                                  intro hH
                                  exact H _ _ ⟨_, a1227, c1228, (some ⟨b1219, 0, none⟩), 1, hS.sel [122, 126, 127] [2, 3, 4] (by kernel_rfl), hO, hD, hH, h1229, h1222⟩
                              · refine oneOp (by rfl) (lit (E := 3) (col := 0) (T := tI) (vals := [.int .i64 0]) (ys := [0]) T hS (by kernel_rfl) (by kernel_rfl) (by kernel_rfl) (by kernel_rfl) (by exact ⟨rfl, trivial⟩) rfl (by kernel_rfl) (by kernel_rfl) (by kernel_rfl) (by kernel_rfl) ?_)
                                intro b1230 a w1231 χ1232 hE h1233 hN hS
                                clear hN
                                replace hO := hO.mv hE rfl rfl
                                replace hD := hD.ev hE rfl
                                replace h921 := h921.mv hE rfl
                                replace h924 := h924.mv hE rfl
                                replace h1203 := h1203.mv hE rfl
                                clear hE
                                replace h1233 := h1233.rs0
                                refine andH (Hold.of hS (bks := [2, 3, 4]) (by kernel_rfl) hD) ?_
                                intro hH
                                refine only 67 (by kernel_rfl) (by rfl) (lit (E := 52) (col := 0) (T := tApi_Pick) (vals := [.agg #[.int .i64 1, .int .i64 7]]) (ys := [(⟨1, 7⟩ : Api_Pick)]) T hS (by kernel_rfl) (by kernel_rfl) (by kernel_rfl) (by kernel_rfl) (by exact ⟨rfl, trivial⟩) rfl (by kernel_rfl) (by kernel_rfl) (by kernel_rfl) (by kernel_rfl) ?_)
                                intro b1234 a w1235 χ1236 hE h1237 hN hS
                                clear hN
                                replace hO := hO.mv hE rfl rfl
                                replace hD := hD.ev hE rfl
                                replace h921 := h921.mv hE rfl
                                replace h924 := h924.mv hE rfl
                                replace h1203 := h1203.mv hE rfl
                                replace h1233 := h1233.mv hE rfl
                                clear hE
                                replace h1237 := h1237.rs0
                                refine andH (Hold.of hS (bks := [2, 3, 4]) (by kernel_rfl) hD) ?_
                                intro hH
                                have hq := hgp68
                                refine only 68 (by kernel_rfl) (by rfl) (call hS (by kernel_rfl) (by kernel_rfl) hb27 (by kernel_rfl) (fun _ _ => rfl) (k27 _ _ r958 [(⟨1, 7⟩ : Api_Pick)] a1201 c1202 (some ⟨b1234, 0, none⟩) 1 hq h1203 h1237) ?_)
                                intro v1238 a w1239 χ1240 hE hp hS
                                clear hq
                                replace hO := hO.mv hE rfl rfl
                                replace hD := hD.ev hE rfl
                                replace h921 := h921.mv hE rfl
                                replace h924 := h924.mv hE rfl
                                replace h1203 := h1203.mv hE rfl
                                replace h1233 := h1233.mv hE rfl
                                replace h1237 := h1237.mv hE rfl
                                clear hE
                                obtain ⟨a1242, c1243, hp, h1244⟩ := hp
                                rw [hgr68] at hp h1244
                                subst hp
                                replace hS := hS.sel [122, 124, 123, 127, 125, 126] [2, 3, 4] (sy' := ⟨[(122, B true), (124, V (.agg #[.int .i64 1, .int .i64 7])), (123, V (.slice a1201 r958.length c1202)), (127, V (.slice (some ⟨b1230, 0, none⟩) [0].length 1)), (125, V (.slice (some ⟨b1234, 0, none⟩) [(⟨1, 7⟩ : Api_Pick)].length 1)), (126, V (.slice a1242 r969.length c1243))], [(2, (52, [I 0, I 7])), (3, (52, [I 1, I 7])), (4, (52, [I 2, I 7]))]⟩) (by kernel_rfl)
                                refine andH (Hold.of hS (bks := [2, 3, 4]) (by kernel_rfl) hD) ?_
                                intro hH
                                exact H _ _ ⟨_, a1242, c1243, (some ⟨b1230, 0, none⟩), 1, hS.sel [122, 126, 127] [2, 3, 4] (by kernel_rfl), hO, hD, hH, h1244, h1233⟩
                            · refine oneOp (by rfl) (lit (E := 52) (col := 0) (T := tApi_Pick) (vals := [.agg #[.int .i64 1, .int .i64 7]]) (ys := [(⟨1, 7⟩ : Api_Pick)]) T hS (by kernel_rfl) (by kernel_rfl) (by kernel_rfl) (by kernel_rfl) (by exact ⟨rfl, trivial⟩) rfl (by kernel_rfl) (by kernel_rfl) (by kernel_rfl) (by kernel_rfl) ?_)
                              intro b1245 a w1246 χ1247 hE h1248 hN hS
                              clear hN
                              replace hO := hO.mv hE rfl rfl
                              replace hD := hD.ev hE rfl
                              replace h921 := h921.mv hE rfl
                              replace h924 := h924.mv hE rfl
                              clear hE
                              replace h1248 := h1248.rs0
                              refine andH (Hold.of hS (bks := [2, 3, 4]) (by kernel_rfl) hD) ?_
                              intro hH
                              refine anyOf (is := [65, 69]) (by kernel_rfl) (by decide) ?_
                              intro i hi
                              rcases mem2 hi with rfl | rfl
                              · refine oneOp (by rfl) (call hS (by kernel_rfl) (by kernel_rfl) hb51 (by kernel_rfl) (fun _ _ => rfl) (k51 _ _) ?_)
                                intro v1249 a w1250 χ1251 hE hp hS
                                replace hO := hO.mv hE rfl rfl
                                replace hD := hD.ev hE rfl
                                replace h921 := h921.mv hE rfl
                                replace h924 := h924.mv hE rfl
                                replace h1248 := h1248.mv hE rfl
                                clear hE
                                obtain ⟨a1253, c1254, hp, h1255⟩ := hp
                                rw [hgr65] at hp h1255
                                subst hp
                                replace hS := hS.sel [122, 124, 125, 123] [2, 3, 4] (sy' := ⟨[(122, B true), (124, V (.agg #[.int .i64 1, .int .i64 7])), (125, V (.slice (some ⟨b1245, 0, none⟩) [(⟨1, 7⟩ : Api_Pick)].length 1)), (123, V (.slice a1253 r958.length c1254))], [(2, (52, [I 0, I 7])), (3, (52, [I 1, I 7])), (4, (52, [I 2, I 7]))]⟩) (by kernel_rfl)
                                refine andH (Hold.of hS (bks := [2, 3, 4]) (by kernel_rfl) hD) ?_
                                intro hH
                                refine anyOf (is := [68, 69]) (by kernel_rfl) (by decide) ?_
                                intro i hi
                                rcases mem2 hi with rfl | rfl
                                · have hq := hgp68
                                  refine oneOp (by rfl) (call hS (by kernel_rfl) (by kernel_rfl) hb27 (by kernel_rfl) (fun _ _ => rfl) (k27 _ _ r958 [(⟨1, 7⟩ : Api_Pick)] a1253 c1254 (some ⟨b1245, 0, none⟩) 1 hq h1255 h1248) ?_)
                                  intro v1256 a w1257 χ1258 hE hp hS
                                  clear hq
                                  replace hO := hO.mv hE rfl rfl
                                  replace hD := hD.ev hE rfl
                                  replace h921 := h921.mv hE rfl
                                  replace h924 := h924.mv hE rfl
                                  replace h1248 := h1248.mv hE rfl
                                  replace h1255 := h1255.mv hE rfl
                                  clear hE
                                  obtain ⟨a1260, c1261, hp, h1262⟩ := hp
                                  rw [hgr68] at hp h1262
                                  subst hp
                                  replace hS := hS.sel [122, 124, 125, 123, 126] [2, 3, 4] (sy' := ⟨[(122, B true), (124, V (.agg #[.int .i64 1, .int .i64 7])), (125, V (.slice (some ⟨b1245, 0, none⟩) [(⟨1, 7⟩ : Api_Pick)].length 1)), (123, V (.slice a1253 r958.length c1254)), (126, V (.slice a1260 r969.length c1261))], [(2, (52, [I 0, I 7])), (3, (52, [I 1, I 7])), (4, (52, [I 2, I 7]))]⟩) (by kernel_rfl)
                                  refine andH (Hold.of hS (bks := [2, 3, 4]) (by kernel_rfl) hD) ?_
                                  intro hH
                                  refine only 69 (by kernel_rfl) (by rfl) (lit (E := 3) (col := 0) (T := tI) (vals := [.int .i64 0]) (ys := [0]) T hS (by kernel_rfl) (by kernel_rfl) (by kernel_rfl) (by kernel_rfl) (by exact ⟨rfl, trivial⟩) rfl (by kernel_rfl) (by kernel_rfl) (by kernel_rfl) (by kernel_rfl) ?_)
                                  intro b1263 a w1264 χ1265 hE h1266 hN hS
                                  clear hN
                                  replace hO := hO.mv hE rfl rfl
                                  replace hD := hD.ev hE rfl
                                  replace h921 := h921.mv hE rfl
                                  replace h924 := h924.mv hE rfl
                                  replace h1248 := h1248.mv hE rfl
                                  replace h1255 := h1255.mv hE rfl
                                  replace h1262 := h1262.mv hE rfl
                                  clear hE
                                  replace h1266 := h1266.rs0
                                  refine andH (Hold.of hS (bks := [2, 3, 4]) (by kernel_rfl) hD) ?_
                                  intro hH
                                  exact H _ _ ⟨_, a1260, c1261, (some ⟨b1263, 0, none⟩), 1, hS.sel [122, 126, 127] [2, 3, 4] (by kernel_rfl), hO, hD, hH, h1262, h1266⟩
                                · refine oneOp (by rfl) (lit (E := 3) (col := 0) (T := tI) (vals := [.int .i64 0]) (ys := [0]) T hS (by kernel_rfl) (by kernel_rfl) (by kernel_rfl) (by kernel_rfl) (by exact ⟨rfl, trivial⟩) rfl (by kernel_rfl) (by kernel_rfl) (by kernel_rfl) (by kernel_rfl) ?_)
                                  intro b1267 a w1268 χ1269 hE h1270 hN hS
                                  clear hN
                                  replace hO := hO.mv hE rfl rfl
                                  replace hD := hD.ev hE rfl
                                  replace h921 := h921.mv hE rfl
                                  replace h924 := h924.mv hE rfl
                                  replace h1248 := h1248.mv hE rfl
                                  replace h1255 := h1255.mv hE rfl
                                  clear hE
                                  replace h1270 := h1270.rs0
                                  refine andH (Hold.of hS (bks := [2, 3, 4]) (by kernel_rfl) hD) ?_
                                  intro hH
                                  have hq := hgp68
                                  refine only 68 (by kernel_rfl) (by rfl) (call hS (by kernel_rfl) (by kernel_rfl) hb27 (by kernel_rfl) (fun _ _ => rfl) (k27 _ _ r958 [(⟨1, 7⟩ : Api_Pick)] a1253 c1254 (some ⟨b1245, 0, none⟩) 1 hq h1255 h1248) ?_)
                                  intro v1271 a w1272 χ1273 hE hp hS
                                  clear hq
                                  replace hO := hO.mv hE rfl rfl
                                  replace hD := hD.ev hE rfl
                                  replace h921 := h921.mv hE rfl
                                  replace h924 := h924.mv hE rfl
                                  replace h1248 := h1248.mv hE rfl
                                  replace h1255 := h1255.mv hE rfl
                                  replace h1270 := h1270.mv hE rfl
                                  clear hE
                                  obtain ⟨a1275, c1276, hp, h1277⟩ := hp
                                  rw [hgr68] at hp h1277
                                  subst hp
                                  replace hS := hS.sel [122, 124, 125, 123, 127, 126] [2, 3, 4] (sy' := ⟨[(122, B true), (124, V (.agg #[.int .i64 1, .int .i64 7])), (125, V (.slice (some ⟨b1245, 0, none⟩) [(⟨1, 7⟩ : Api_Pick)].length 1)), (123, V (.slice a1253 r958.length c1254)), (127, V (.slice (some ⟨b1267, 0, none⟩) [0].length 1)), (126, V (.slice a1275 r969.length c1276))], [(2, (52, [I 0, I 7])), (3, (52, [I 1, I 7])), (4, (52, [I 2, I 7]))]⟩) (by kernel_rfl)
                                  refine andH (Hold.of hS (bks := [2, 3, 4]) (by kernel_rfl) hD) ?_
                                  intro hH
                                  exact H _ _ ⟨_, a1275, c1276, (some ⟨b1267, 0, none⟩), 1, hS.sel [122, 126, 127] [2, 3, 4] (by kernel_rfl), hO, hD, hH, h1277, h1270⟩
                              · refine oneOp (by rfl) (lit (E := 3) (col := 0) (T := tI) (vals := [.int .i64 0]) (ys := [0]) T hS (by kernel_rfl) (by kernel_rfl) (by kernel_rfl) (by kernel_rfl) (by exact ⟨rfl, trivial⟩) rfl (by kernel_rfl) (by kernel_rfl) (by kernel_rfl) (by kernel_rfl) ?_)
                                intro b1278 a w1279 χ1280 hE h1281 hN hS
                                clear hN
                                replace hO := hO.mv hE rfl rfl
                                replace hD := hD.ev hE rfl
                                replace h921 := h921.mv hE rfl
                                replace h924 := h924.mv hE rfl
                                replace h1248 := h1248.mv hE rfl
                                clear hE
                                replace h1281 := h1281.rs0
                                refine andH (Hold.of hS (bks := [2, 3, 4]) (by kernel_rfl) hD) ?_
                                intro hH
                                refine only 65 (by kernel_rfl) (by rfl) (call hS (by kernel_rfl) (by kernel_rfl) hb51 (by kernel_rfl) (fun _ _ => rfl) (k51 _ _) ?_)
                                intro v1282 a w1283 χ1284 hE hp hS
                                replace hO := hO.mv hE rfl rfl
                                replace hD := hD.ev hE rfl
                                replace h921 := h921.mv hE rfl
                                replace h924 := h924.mv hE rfl
                                replace h1248 := h1248.mv hE rfl
                                replace h1281 := h1281.mv hE rfl
                                clear hE
                                obtain ⟨a1286, c1287, hp, h1288⟩ := hp
                                rw [hgr65] at hp h1288
                                subst hp
                                replace hS := hS.sel [122, 124, 125, 127, 123] [2, 3, 4] (sy' := ⟨[(122, B true), (124, V (.agg #[.int .i64 1, .int .i64 7])), (125, V (.slice (some ⟨b1245, 0, none⟩) [(⟨1, 7⟩ : Api_Pick)].length 1)), (127, V (.slice (some ⟨b1278, 0, none⟩) [0].length 1)), (123, V (.slice a1286 r958.length c1287))], [(2, (52, [I 0, I 7])), (3, (52, [I 1, I 7])), (4, (52, [I 2, I 7]))]⟩) (by kernel_rfl)
                                refine andH (Hold.of hS (bks := [2, 3, 4]) (by kernel_rfl) hD) ?_
                                intro hH
                                have hq := hgp68
                                refine only 68 (by kernel_rfl) (by rfl) (call hS (by kernel_rfl) (by kernel_rfl) hb27 (by kernel_rfl) (fun _ _ => rfl) (k27 _ _ r958 [(⟨1, 7⟩ : Api_Pick)] a1286 c1287 (some ⟨b1245, 0, none⟩) 1 hq h1288 h1248) ?_)
                                intro v1289 a w1290 χ1291 hE hp hS
                                clear hq
                                replace hO := hO.mv hE rfl rfl
                                replace hD := hD.ev hE rfl
                                replace h921 := h921.mv hE rfl
                                replace h924 := h924.mv hE rfl
                                replace h1248 := h1248.mv hE rfl
                                replace h1281 := h1281.mv hE rfl
                                replace h1288 := h1288.mv hE rfl
                                clear hE
                                obtain ⟨a1293, c1294, hp, h1295⟩ := hp
                                rw [hgr68] at hp h1295
                                subst hp
                                replace hS := hS.sel [122, 124, 125, 127, 123, 126] [2, 3, 4] (sy' := ⟨[(122, B true), (124, V (.agg #[.int .i64 1, .int .i64 7])), (125, V (.slice (some ⟨b1245, 0, none⟩) [(⟨1, 7⟩ : Api_Pick)].length 1)), (127, V (.slice (some ⟨b1278, 0, none⟩) [0].length 1)), (123, V (.slice a1286 r958.length c1287)), (126, V (.slice a1293 r969.length c1294))], [(2, (52, [I 0, I 7])), (3, (52, [I 1, I 7])), (4, (52, [I 2, I 7]))]⟩) (by kernel_rfl)
                                refine andH (Hold.of hS (bks := [2, 3, 4]) (by kernel_rfl) hD) ?_
                                intro hH
                                exact H _ _ ⟨_, a1293, c1294, (some ⟨b1278, 0, none⟩), 1, hS.sel [122, 126, 127] [2, 3, 4] (by kernel_rfl), hO, hD, hH, h1295, h1281⟩
                            · refine oneOp (by rfl) (lit (E := 3) (col := 0) (T := tI) (vals := [.int .i64 0]) (ys := [0]) T hS (by kernel_rfl) (by kernel_rfl) (by kernel_rfl) (by kernel_rfl) (by exact ⟨rfl, trivial⟩) rfl (by kernel_rfl) (by kernel_rfl) (by kernel_rfl) (by kernel_rfl) ?_)
                              intro b1296 a w1297 χ1298 hE h1299 hN hS
                              clear hN
                              replace hO := hO.mv hE rfl rfl
                              replace hD := hD.ev hE rfl
                              replace h921 := h921.mv hE rfl
                              replace h924 := h924.mv hE rfl
                              clear hE
                              replace h1299 := h1299.rs0
                              refine andH (Hold.of hS (bks := [2, 3, 4]) (by kernel_rfl) hD) ?_
                              intro hH
                              refine anyOf (is := [65, 67]) (by kernel_rfl) (by decide) ?_
                              intro i hi
                              rcases mem2 hi with rfl | rfl
                              · refine oneOp (by rfl) (call hS (by kernel_rfl) (by kernel_rfl) hb51 (by kernel_rfl) (fun _ _ => rfl) (k51 _ _) ?_)
                                intro v1300 a w1301 χ1302 hE hp hS
                                replace hO := hO.mv hE rfl rfl
                                replace hD := hD.ev hE rfl
                                replace h921 := h921.mv hE rfl
                                replace h924 := h924.mv hE rfl
                                replace h1299 := h1299.mv hE rfl
                                clear hE
                                obtain ⟨a1304, c1305, hp, h1306⟩ := hp
                                rw [hgr65] at hp h1306
                                subst hp
                                replace hS := hS.sel [122, 124, 127, 123] [2, 3, 4] (sy' := ⟨[(122, B true), (124, V (.agg #[.int .i64 1, .int .i64 7])), (127, V (.slice (some ⟨b1296, 0, none⟩) [0].length 1)), (123, V (.slice a1304 r958.length c1305))], [(2, (52, [I 0, I 7])), (3, (52, [I 1, I 7])), (4, (52, [I 2, I 7]))]⟩) (by kernel_rfl)
                                refine andH (Hold.of hS (bks := [2, 3, 4]) (by kernel_rfl) hD) ?_
                                intro hH
                                refine only 67 (by kernel_rfl) (by rfl) (lit (E := 52) (col := 0) (T := tApi_Pick) (vals := [.agg #[.int .i64 1, .int .i64 7]]) (ys := [(⟨1, 7⟩ : Api_Pick)]) T hS (by kernel_rfl) (by kernel_rfl) (by kernel_rfl) (by kernel_rfl) (by exact ⟨rfl, trivial⟩) rfl (by kernel_rfl) (by kernel_rfl) (by kernel_rfl) (by kernel_rfl) ?_)
                                intro b1307 a w1308 χ1309 hE h1310 hN hS
                                clear hN
                                replace hO := hO.mv hE rfl rfl
                                replace hD := hD.ev hE rfl
                                replace h921 := h921.mv hE rfl
                                replace h924 := h924.mv hE rfl
                                replace h1299 := h1299.mv hE rfl
                                replace h1306 := h1306.mv hE rfl
                                clear hE
                                replace h1310 := h1310.rs0
                                refine andH (Hold.of hS (bks := [2, 3, 4]) (by kernel_rfl) hD) ?_
                                intro hH
                                have hq := hgp68
                                refine only 68 (by kernel_rfl) (by rfl) (call hS (by kernel_rfl) (by kernel_rfl) hb27 (by kernel_rfl) (fun _ _ => rfl) (k27 _ _ r958 [(⟨1, 7⟩ : Api_Pick)] a1304 c1305 (some ⟨b1307, 0, none⟩) 1 hq h1306 h1310) ?_)
                                intro v1311 a w1312 χ1313 hE hp hS
                                clear hq
                                replace hO := hO.mv hE rfl rfl
                                replace hD := hD.ev hE rfl
                                replace h921 := h921.mv hE rfl
                                replace h924 := h924.mv hE rfl
                                replace h1299 := h1299.mv hE rfl
                                replace h1306 := h1306.mv hE rfl
                                replace h1310 := h1310.mv hE rfl
                                clear hE
                                obtain ⟨a1315, c1316, hp, h1317⟩ := hp
                                rw [hgr68] at hp h1317
                                subst hp
                                replace hS := hS.sel [122, 124, 127, 123, 125, 126] [2, 3, 4] (sy' := ⟨[(122, B true), (124, V (.agg #[.int .i64 1, .int .i64 7])), (127, V (.slice (some ⟨b1296, 0, none⟩) [0].length 1)), (123, V (.slice a1304 r958.length c1305)), (125, V (.slice (some ⟨b1307, 0, none⟩) [(⟨1, 7⟩ : Api_Pick)].length 1)), (126, V (.slice a1315 r969.length c1316))], [(2, (52, [I 0, I 7])), (3, (52, [I 1, I 7])), (4, (52, [I 2, I 7]))]⟩) (by kernel_rfl)
                                refine andH (Hold.of hS (bks := [2, 3, 4]) (by kernel_rfl) hD) ?_
                                intro hH
                                exact H _ _ ⟨_, a1315, c1316, (some ⟨b1296, 0, none⟩), 1, hS.sel [122, 126, 127] [2, 3, 4] (by kernel_rfl), hO, hD, hH, h1317, h1299⟩
                              · refine oneOp (by rfl) (lit (E := 52) (col := 0) (T := tApi_Pick) (vals := [.agg #[.int .i64 1, .int .i64 7]]) (ys := [(⟨1, 7⟩ : Api_Pick)]) T hS (by kernel_rfl) (by kernel_rfl) (by kernel_rfl) (by kernel_rfl) (by exact ⟨rfl, trivial⟩) rfl (by kernel_rfl) (by kernel_rfl) (by kernel_rfl) (by kernel_rfl) ?_)
                                intro b1318 a w1319 χ1320 hE h1321 hN hS
                                clear hN
                                replace hO := hO.mv hE rfl rfl
                                replace hD := hD.ev hE rfl
                                replace h921 := h921.mv hE rfl
                                replace h924 := h924.mv hE rfl
                                replace h1299 := h1299.mv hE rfl
                                clear hE
                                replace h1321 := h1321.rs0
                                refine andH (Hold.of hS (bks := [2, 3, 4]) (by kernel_rfl) hD) ?_
                                intro hH
                                refine only 65 (by kernel_rfl) (by rfl) (call hS (by kernel_rfl) (by kernel_rfl) hb51 (by kernel_rfl) (fun _ _ => rfl) (k51 _ _) ?_)
                                intro v1322 a w1323 χ1324 hE hp hS
                                replace hO := hO.mv hE rfl rfl
                                replace hD := hD.ev hE rfl
                                replace h921 := h921.mv hE rfl
                                replace h924 := h924.mv hE rfl
                                replace h1299 := h1299.mv hE rfl
                                replace h1321 := h1321.mv hE rfl
                                clear hE
                                obtain ⟨a1326, c1327, hp, h1328⟩ := hp
                                rw [hgr65] at hp h1328
                                subst hp
                                replace hS := hS.sel [122, 124, 127, 125, 123] [2, 3, 4] (sy' := ⟨[(122, B true), (124, V (.agg #[.int .i64 1, .int .i64 7])), (127, V (.slice (some ⟨b1296, 0, none⟩) [0].length 1)), (125, V (.slice (some ⟨b1318, 0, none⟩) [(⟨1, 7⟩ : Api_Pick)].length 1)), (123, V (.slice a1326 r958.length c1327))], [(2, (52, [I 0, I 7])), (3, (52, [I 1, I 7])), (4, (52, [I 2, I 7]))]⟩) (by kernel_rfl)
                                refine andH (Hold.of hS (bks := [2, 3, 4]) (by kernel_rfl) hD) ?_
                                intro hH
                                have hq := hgp68
                                refine only 68 (by kernel_rfl) (by rfl) (call hS (by kernel_rfl) (by kernel_rfl) hb27 (by kernel_rfl) (fun _ _ => rfl) (k27 _ _ r958 [(⟨1, 7⟩ : Api_Pick)] a1326 c1327 (some ⟨b1318, 0, none⟩) 1 hq h1328 h1321) ?_)
                                intro v1329 a w1330 χ1331 hE hp hS
                                clear hq
                                replace hO := hO.mv hE rfl rfl
                                replace hD := hD.ev hE rfl
                                replace h921 := h921.mv hE rfl
                                replace h924 := h924.mv hE rfl
                                replace h1299 := h1299.mv hE rfl
                                replace h1321 := h1321.mv hE rfl
                                replace h1328 := h1328.mv hE rfl
                                clear hE
                                obtain ⟨a1333, c1334, hp, h1335⟩ := hp
                                rw [hgr68] at hp h1335
                                subst hp
                                replace hS := hS.sel [122, 124, 127, 125, 123, 126] [2, 3, 4] (sy' := ⟨[(122, B true), (124, V (.agg #[.int .i64 1, .int .i64 7])), (127, V (.slice (some ⟨b1296, 0, none⟩) [0].length 1)), (125, V (.slice (some ⟨b1318, 0, none⟩) [(⟨1, 7⟩ : Api_Pick)].length 1)), (123, V (.slice a1326 r958.length c1327)), (126, V (.slice a1333 r969.length c1334))], [(2, (52, [I 0, I 7])), (3, (52, [I 1, I 7])), (4, (52, [I 2, I 7]))]⟩) (by kernel_rfl)
                                refine andH (Hold.of hS (bks := [2, 3, 4]) (by kernel_rfl) hD) ?_
                                intro hH
                                exact H _ _ ⟨_, a1333, c1334, (some ⟨b1296, 0, none⟩), 1, hS.sel [122, 126, 127] [2, 3, 4] (by kernel_rfl), hO, hD, hH, h1335, h1299⟩
                        · replace hS := hS.lit (t := 122) (by kernel_rfl) hb
                          replace hm := hm.2 hb
                          refine take T [65, 66, 69, 67, 68, 70, 71, 72, 73, 75, 74, 76, 77, 78] [2, 3, 4] [0] hS (by kernel_rfl) (by kernel_rfl) (by kernel_rfl) hH (listed' := #[true, true, true, true, true, true, true, true, true, true, true, true, true, true, true, true, true, true, true, true, true, true, true, true, true, true, true, true, true, true, true, true, true, true, true, true, true, true, true, true, true, true, true, true, true, true, true, true, true, true, true, true, true, true, true, true, true, true, true, true, true, true, true, true, true, true, true, true, true, true, true, true, true, true, true, true, true, true, true]) (fuel := 0) (sy' := ⟨[(0, B false)], [(2, (52, [I 0, I 7])), (3, (52, [I 1, I 7])), (4, (52, [I 2, I 7]))]⟩) (by as_aux_lemma => kernel_rfl) (by rfl) ?_
                          intro a hS
                          refine drawnDone (by kernel_rfl) ?_
                          clear hD hH
                          replace hS := hS.sel [0] [] (sy' := ⟨[(0, B false)], []⟩) (by kernel_rfl)
                          refine wret ?_
                          exact fin T hS hO (fun c => c) rfl (r := [.bool false]) (by kernel_rfl) (fun χ' hM hC => ⟨false, hm, rfl⟩)
                      · clear hm
                        refine anyOf (is := [56, 60]) (by kernel_rfl) (by decide) ?_
                        intro i hi
                        rcases mem2 hi with rfl | rfl
                        · refine oneOp (by rfl) (call hS (by kernel_rfl) (by kernel_rfl) hb51 (by kernel_rfl) (fun _ _ => rfl) (k51 _ _) ?_)
                          intro v927 a w928 χ929 hE hp hS
                          replace hO := hO.mv hE rfl rfl
                          replace hD := hD.ev hE rfl
                          replace h865 := h865.mv hE rfl
                          replace h868 := h868.mv hE rfl
                          clear hE
                          obtain ⟨a931, c932, hp, h933⟩ := hp
                          rw [hgr56] at hp h933
                          subst hp
                          replace hS := hS.sel [2, 113, 115, 116, 117, 114] [2, 3, 4] (sy' := ⟨[(2, Pt 3 0), (113, B true), (115, V (.agg #[.int .i64 0, .int .i64 7])), (116, V (.agg #[.int .i64 1, .int .i64 7])), (117, V (.agg #[.int .i64 2, .int .i64 7])), (114, V (.slice a931 r902.length c932))], [(2, (52, [I 0, I 7])), (3, (52, [I 1, I 7])), (4, (52, [I 2, I 7]))]⟩) (by kernel_rfl)
                          refine andH (Hold.of hS (bks := [2, 3, 4]) (by kernel_rfl) hD) ?_
                          intro hH
                          refine only 60 (by kernel_rfl) (by rfl) (lit (E := 52) (col := 0) (T := tApi_Pick) (vals := [.agg #[.int .i64 0, .int .i64 7], .agg #[.int .i64 1, .int .i64 7], .agg #[.int .i64 2, .int .i64 7]]) (ys := [(⟨0, 7⟩ : Api_Pick), (⟨1, 7⟩ : Api_Pick), (⟨2, 7⟩ : Api_Pick)]) T hS (by kernel_rfl) (by kernel_rfl) (by kernel_rfl) (by kernel_rfl) (by exact ⟨rfl, rfl, rfl, trivial⟩) rfl (by kernel_rfl) (by kernel_rfl) (by kernel_rfl) (by kernel_rfl) ?_)
                          intro b934 a w935 χ936 hE h937 hN hS
                          clear hN
                          replace hO := hO.mv hE rfl rfl
                          replace hD := hD.ev hE rfl
                          replace h865 := h865.mv hE rfl
                          replace h868 := h868.mv hE rfl
                          replace h933 := h933.mv hE rfl
                          clear hE
                          replace h937 := h937.rs0
                          refine andH (Hold.of hS (bks := [2, 3, 4]) (by kernel_rfl) hD) ?_
                          intro hH
                          exact H _ _ ⟨_, a931, c932, (some ⟨b934, 0, none⟩), 3, hS.sel [2, 113, 114, 118] [2, 3, 4] (by kernel_rfl), hO, hD, hH, h933, h937⟩
                        · refine oneOp (by rfl) (lit (E := 52) (col := 0) (T := tApi_Pick) (vals := [.agg #[.int .i64 0, .int .i64 7], .agg #[.int .i64 1, .int .i64 7], .agg #[.int .i64 2, .int .i64 7]]) (ys := [(⟨0, 7⟩ : Api_Pick), (⟨1, 7⟩ : Api_Pick), (⟨2, 7⟩ : Api_Pick)]) T hS (by kernel_rfl) (by kernel_rfl) (by kernel_rfl) (by kernel_rfl) (by exact ⟨rfl, rfl, rfl, trivial⟩) rfl (by kernel_rfl) (by kernel_rfl) (by kernel_rfl) (by kernel_rfl) ?_)
                          intro b938 a w939 χ940 hE h941 hN hS
                          clear hN
                          replace hO := hO.mv hE rfl rfl
                          replace hD := hD.ev hE rfl
                          replace h865 := h865.mv hE rfl
                          replace h868 := h868.mv hE rfl
                          clear hE
                          replace h941 := h941.rs0
                          refine andH (Hold.of hS (bks := [2, 3, 4]) (by kernel_rfl) hD) ?_
                          intro hH
                          refine only 56 (by kernel_rfl) (by rfl) (call hS (by kernel_rfl) (by kernel_rfl) hb51 (by kernel_rfl) (fun _ _ => rfl) (k51 _ _) ?_)
                          intro v942 a w943 χ944 hE hp hS
                          replace hO := hO.mv hE rfl rfl
                          replace hD := hD.ev hE rfl
                          replace h865 := h865.mv hE rfl
                          replace h868 := h868.mv hE rfl
                          replace h941 := h941.mv hE rfl
                          clear hE
                          obtain ⟨a946, c947, hp, h948⟩ := hp
                          rw [hgr56] at hp h948
                          subst hp
                          replace hS := hS.sel [2, 113, 115, 116, 117, 118, 114] [2, 3, 4] (sy' := ⟨[(2, Pt 3 0), (113, B true), (115, V (.agg #[.int .i64 0, .int .i64 7])), (116, V (.agg #[.int .i64 1, .int .i64 7])), (117, V (.agg #[.int .i64 2, .int .i64 7])), (118, V (.slice (some ⟨b938, 0, none⟩) [(⟨0, 7⟩ : Api_Pick), (⟨1, 7⟩ : Api_Pick), (⟨2, 7⟩ : Api_Pick)].length 3)), (114, V (.slice a946 r902.length c947))], [(2, (52, [I 0, I 7])), (3, (52, [I 1, I 7])), (4, (52, [I 2, I 7]))]⟩) (by kernel_rfl)
                          refine andH (Hold.of hS (bks := [2, 3, 4]) (by kernel_rfl) hD) ?_
                          intro hH
                          exact H _ _ ⟨_, a946, c947, (some ⟨b938, 0, none⟩), 3, hS.sel [2, 113, 114, 118] [2, 3, 4] (by kernel_rfl), hO, hD, hH, h948, h941⟩
                    · replace hS := hS.lit (t := 113) (by kernel_rfl) hb
                      replace hm := hm.2 hb
                      refine take T [56, 57, 58, 59, 60, 61, 62, 63, 64, 65, 66, 69, 67, 68, 70, 71, 72, 73, 75, 74, 76, 77, 78] [2, 3, 4] [0] hS (by kernel_rfl) (by kernel_rfl) (by kernel_rfl) hH (listed' := #[true, true, true, true, true, true, true, true, true, true, true, true, true, true, true, true, true, true, true, true, true, true, true, true, true, true, true, true, true, true, true, true, true, true, true, true, true, true, true, true, true, true, true, true, true, true, true, true, true, true, true, true, true, true, true, true, true, true, true, true, true, true, true, true, true, true, true, true, true, true, true, true, true, true, true, true, true, true, true]) (fuel := 0) (sy' := ⟨[(0, B false)], [(2, (52, [I 0, I 7])), (3, (52, [I 1, I 7])), (4, (52, [I 2, I 7]))]⟩) (by as_aux_lemma => kernel_rfl) (by rfl) ?_
                      intro a hS
                      refine drawnDone (by kernel_rfl) ?_
                      clear hD hH
                      replace hS := hS.sel [0] [] (sy' := ⟨[(0, B false)], []⟩) (by kernel_rfl)
                      refine wret ?_
                      exact fin T hS hO (fun c => c) rfl (r := [.bool false]) (by kernel_rfl) (fun χ' hM hC => ⟨false, hm, rfl⟩)
                  · clear hm
                    refine anyOf (is := [49, 51]) (by kernel_rfl) (by decide) ?_
                    intro i hi
                    rcases mem2 hi with rfl | rfl
                    · refine oneOp (by rfl) (call hS (by kernel_rfl) (by kernel_rfl) hb51 (by kernel_rfl) (fun _ _ => rfl) (k51 _ _) ?_)
                      intro v871 a w872 χ873 hE hp hS
                      replace hO := hO.mv hE rfl rfl
                      replace hD := hD.ev hE rfl
                      replace h763 := h763.mv hE rfl
                      replace h766 := h766.mv hE rfl
                      replace h769 := h769.mv hE rfl
                      replace h831 := h831.mv hE rfl
                      replace h838 := h838.mv hE rfl
                      clear hE
                      obtain ⟨a875, c876, hp, h877⟩ := hp
                      rw [hgr49] at hp h877
                      subst hp
                      replace hS := hS.sel [1, 2, 3, 106, 108, 107] [2, 3, 4] (sy' := ⟨[(1, Pt 2 0), (2, Pt 3 0), (3, Pt 4 0), (106, B true), (108, V (.agg #[.int .i64 2, .int .i64 7])), (107, V (.slice a875 r846.length c876))], [(2, (52, [I 0, I 7])), (3, (52, [I 1, I 7])), (4, (52, [I 2, I 7]))]⟩) (by kernel_rfl)
                      refine andH (Hold.of hS (bks := [2, 3, 4]) (by kernel_rfl) hD) ?_
                      intro hH
                      refine only 51 (by kernel_rfl) (by rfl) (lit (E := 52) (col := 0) (T := tApi_Pick) (vals := [.agg #[.int .i64 2, .int .i64 7]]) (ys := [(⟨2, 7⟩ : Api_Pick)]) T hS (by kernel_rfl) (by kernel_rfl) (by kernel_rfl) (by kernel_rfl) (by exact ⟨rfl, trivial⟩) rfl (by kernel_rfl) (by kernel_rfl) (by kernel_rfl) (by kernel_rfl) ?_)
                      intro b878 a w879 χ880 hE h881 hN hS
                      clear hN
                      replace hO := hO.mv hE rfl rfl
                      replace hD := hD.ev hE rfl
                      replace h763 := h763.mv hE rfl
                      replace h766 := h766.mv hE rfl
                      replace h769 := h769.mv hE rfl
                      replace h831 := h831.mv hE rfl
                      replace h838 := h838.mv hE rfl
                      replace h877 := h877.mv hE rfl
                      clear hE
                      replace h881 := h881.rs0
                      refine andH (Hold.of hS (bks := [2, 3, 4]) (by kernel_rfl) hD) ?_
                      intro hH
                      exact H _ _ ⟨_, a875, c876, (some ⟨b878, 0, none⟩), 1, hS.sel [1, 2, 3, 106, 107, 109] [2, 3, 4] (by kernel_rfl), hO, hD, hH, h877, h881⟩
                    · refine oneOp (by rfl) (lit (E := 52) (col := 0) (T := tApi_Pick) (vals := [.agg #[.int .i64 2, .int .i64 7]]) (ys := [(⟨2, 7⟩ : Api_Pick)]) T hS (by kernel_rfl) (by kernel_rfl) (by kernel_rfl) (by kernel_rfl) (by exact ⟨rfl, trivial⟩) rfl (by kernel_rfl) (by kernel_rfl) (by kernel_rfl) (by kernel_rfl) ?_)
                      intro b882 a w883 χ884 hE h885 hN hS
                      clear hN
                      replace hO := hO.mv hE rfl rfl
                      replace hD := hD.ev hE rfl
                      replace h763 := h763.mv hE rfl
                      replace h766 := h766.mv hE rfl
                      replace h769 := h769.mv hE rfl
                      replace h831 := h831.mv hE rfl
                      replace h838 := h838.mv hE rfl
                      clear hE
                      replace h885 := h885.rs0
                      refine andH (Hold.of hS (bks := [2, 3, 4]) (by kernel_rfl) hD) ?_
                      intro hH
                      refine only 49 (by kernel_rfl) (by rfl) (call hS (by kernel_rfl) (by kernel_rfl) hb51 (by kernel_rfl) (fun _ _ => rfl) (k51 _ _) ?_)
                      intro v886 a w887 χ888 hE hp hS
                      replace hO := hO.mv hE rfl rfl
                      replace hD := hD.ev hE rfl
                      replace h763 := h763.mv hE rfl
                      replace h766 := h766.mv hE rfl
                      replace h769 := h769.mv hE rfl
                      replace h831 := h831.mv hE rfl
                      replace h838 := h838.mv hE rfl
                      replace h885 := h885.mv hE rfl
                      clear hE
                      obtain ⟨a890, c891, hp, h892⟩ := hp
                      rw [hgr49] at hp h892
                      subst hp
                      replace hS := hS.sel [1, 2, 3, 106, 108, 109, 107] [2, 3, 4] (sy' := ⟨[(1, Pt 2 0), (2, Pt 3 0), (3, Pt 4 0), (106, B true), (108, V (.agg #[.int .i64 2, .int .i64 7])), (109, V (.slice (some ⟨b882, 0, none⟩) [(⟨2, 7⟩ : Api_Pick)].length 1)), (107, V (.slice a890 r846.length c891))], [(2, (52, [I 0, I 7])), (3, (52, [I 1, I 7])), (4, (52, [I 2, I 7]))]⟩) (by kernel_rfl)
                      refine andH (Hold.of hS (bks := [2, 3, 4]) (by kernel_rfl) hD) ?_
                      intro hH
                      exact H _ _ ⟨_, a890, c891, (some ⟨b882, 0, none⟩), 1, hS.sel [1, 2, 3, 106, 107, 109] [2, 3, 4] (by kernel_rfl), hO, hD, hH, h892, h885⟩
                · replace hS := hS.lit (t := 106) (by kernel_rfl) hb
                  replace hm := hm.2 hb
                  refine take T [49, 50, 51, 52, 53, 54, 55, 56, 57, 58, 59, 60, 61, 62, 63, 64, 65, 66, 69, 67, 68, 70, 71, 72, 73, 75, 74, 76, 77, 78] [2, 3, 4] [0] hS (by kernel_rfl) (by kernel_rfl) (by kernel_rfl) hH (listed' := #[true, true, true, true, true, true, true, true, true, true, true, true, true, true, true, true, true, true, true, true, true, true, true, true, true, true, true, true, true, true, true, true, true, true, true, true, true, true, true, true, true, true, true, true, true, true, true, true, true, true, true, true, true, true, true, true, true, true, true, true, true, true, true, true, true, true, true, true, true, true, true, true, true, true, true, true, true, true, true]) (fuel := 0) (sy' := ⟨[(0, B false)], [(2, (52, [I 0, I 7])), (3, (52, [I 1, I 7])), (4, (52, [I 2, I 7]))]⟩) (by as_aux_lemma => kernel_rfl) (by rfl) ?_
                  intro a hS
                  refine drawnDone (by kernel_rfl) ?_
                  clear hD hH
                  replace hS := hS.sel [0] [] (sy' := ⟨[(0, B false)], []⟩) (by kernel_rfl)
                  refine wret ?_
                  exact fin T hS hO (fun c => c) rfl (r := [.bool false]) (by kernel_rfl) (fun χ' hM hC => ⟨false, hm, rfl⟩)
              · replace hS := hS.lit (t := 100) (by kernel_rfl) hb
                replace hm := hm.2 hb
                refine take T [43, 44, 45, 46, 47, 48, 49, 50, 51, 52, 53, 54, 55, 56, 57, 58, 59, 60, 61, 62, 63, 64, 65, 66, 69, 67, 68, 70, 71, 72, 73, 75, 74, 76, 77, 78] [2, 3, 4] [0] hS (by kernel_rfl) (by kernel_rfl) (by kernel_rfl) hH (listed' := #[true, true, true, true, true, true, true, true, true, true, true, true, true, true, true, true, true, true, true, true, true, true, true, true, true, true, true, true, true, true, true, true, true, true, true, true, true, true, true, true, true, true, true, true, true, true, true, true, true, true, true, true, true, true, true, true, true, true, true, true, true, true, true, true, true, true, true, true, true, true, true, true, true, true, true, true, true, true, true]) (fuel := 0) (sy' := ⟨[(0, B false)], [(2, (52, [I 0, I 7])), (3, (52, [I 1, I 7])), (4, (52, [I 2, I 7]))]⟩) (by as_aux_lemma => kernel_rfl) (by rfl) ?_
                intro a hS
                refine drawnDone (by kernel_rfl) ?_
                clear hD hH
                replace hS := hS.sel [0] [] (sy' := ⟨[(0, B false)], []⟩) (by kernel_rfl)
                refine wret ?_
                exact fin T hS hO (fun c => c) rfl (r := [.bool false]) (by kernel_rfl) (fun χ' hM hC => ⟨false, hm, rfl⟩)
            · clear hm
              refine anyOf (is := [35, 39]) (by kernel_rfl) (by decide) ?_
              intro i hi
              rcases mem2 hi with rfl | rfl
              · refine oneOp (by rfl) (call hS (by kernel_rfl) (by kernel_rfl) hb50 (by kernel_rfl) (fun _ _ => rfl) (k50 _ _) ?_)
                intro v772 a w773 χ774 hE hp hS
                replace hO := hO.mv hE rfl rfl
                replace hD := hD.ev hE rfl
                clear hE
                obtain ⟨a776, c777, hp, h778⟩ := hp
                rw [hgr35] at hp h778
                subst hp
                replace hS := hS.sel [1, 2, 3, 92, 95, 96, 93] [2, 3, 4] (sy' := ⟨[(1, Pt 2 0), (2, Pt 3 0), (3, Pt 4 0), (92, B true), (95, V (.agg #[.int .i64 0, .int .i64 7])), (96, V (.agg #[.int .i64 1, .int .i64 7])), (93, V (.agg #[.int .i64 r686.States, .int .i64 r686.Kinds, .int .i64 r686.Init, .slice a776 r686.Rows.length c777]))], [(2, (52, [I 0, I 7])), (3, (52, [I 1, I 7])), (4, (52, [I 2, I 7]))]⟩) (by kernel_rfl)
                refine andH (Hold.of hS (bks := [2, 3, 4]) (by kernel_rfl) hD) ?_
                intro hH
                refine anyOf (is := [36, 39]) (by kernel_rfl) (by decide) ?_
                intro i hi
                rcases mem2 hi with rfl | rfl
                · refine oneOp (by rfl) (call hS (by kernel_rfl) (by kernel_rfl) hb51 (by kernel_rfl) (fun _ _ => rfl) (k51 _ _) ?_)
                  intro v779 a w780 χ781 hE hp hS
                  replace hO := hO.mv hE rfl rfl
                  replace hD := hD.ev hE rfl
                  replace h778 := h778.mv hE rfl
                  clear hE
                  obtain ⟨a783, c784, hp, h785⟩ := hp
                  rw [hgr36] at hp h785
                  subst hp
                  replace hS := hS.sel [1, 2, 3, 92, 95, 96, 93, 94] [2, 3, 4] (sy' := ⟨[(1, Pt 2 0), (2, Pt 3 0), (3, Pt 4 0), (92, B true), (95, V (.agg #[.int .i64 0, .int .i64 7])), (96, V (.agg #[.int .i64 1, .int .i64 7])), (93, V (.agg #[.int .i64 r686.States, .int .i64 r686.Kinds, .int .i64 r686.Init, .slice a776 r686.Rows.length c777])), (94, V (.slice a783 r693.length c784))], [(2, (52, [I 0, I 7])), (3, (52, [I 1, I 7])), (4, (52, [I 2, I 7]))]⟩) (by kernel_rfl)
                  refine andH (Hold.of hS (bks := [2, 3, 4]) (by kernel_rfl) hD) ?_
                  intro hH
                  refine only 39 (by kernel_rfl) (by rfl) (lit (E := 52) (col := 0) (T := tApi_Pick) (vals := [.agg #[.int .i64 0, .int .i64 7], .agg #[.int .i64 1, .int .i64 7]]) (ys := [(⟨0, 7⟩ : Api_Pick), (⟨1, 7⟩ : Api_Pick)]) T hS (by kernel_rfl) (by kernel_rfl) (by kernel_rfl) (by kernel_rfl) (by exact ⟨rfl, rfl, trivial⟩) rfl (by kernel_rfl) (by kernel_rfl) (by kernel_rfl) (by kernel_rfl) ?_)
                  intro b786 a w787 χ788 hE h789 hN hS
                  clear hN
                  replace hO := hO.mv hE rfl rfl
                  replace hD := hD.ev hE rfl
                  replace h778 := h778.mv hE rfl
                  replace h785 := h785.mv hE rfl
                  clear hE
                  replace h789 := h789.rs0
                  refine andH (Hold.of hS (bks := [2, 3, 4]) (by kernel_rfl) hD) ?_
                  intro hH
                  exact H _ _ ⟨_, a776, c777, a783, c784, (some ⟨b786, 0, none⟩), 2, hS.sel [1, 2, 3, 92, 93, 94, 97] [2, 3, 4] (by kernel_rfl), hO, hD, hH, h778, h785, h789⟩
                · refine oneOp (by rfl) (lit (E := 52) (col := 0) (T := tApi_Pick) (vals := [.agg #[.int .i64 0, .int .i64 7], .agg #[.int .i64 1, .int .i64 7]]) (ys := [(⟨0, 7⟩ : Api_Pick), (⟨1, 7⟩ : Api_Pick)]) T hS (by kernel_rfl) (by kernel_rfl) (by kernel_rfl) (by kernel_rfl) (by exact ⟨rfl, rfl, trivial⟩) rfl (by kernel_rfl) (by kernel_rfl) (by kernel_rfl) (by kernel_rfl) ?_)
                  intro b790 a w791 χ792 hE h793 hN hS
                  clear hN
                  replace hO := hO.mv hE rfl rfl
                  replace hD := hD.ev hE rfl
                  replace h778 := h778.mv hE rfl
                  clear hE
                  replace h793 := h793.rs0
                  refine andH (Hold.of hS (bks := [2, 3, 4]) (by kernel_rfl) hD) ?_
                  intro hH
                  refine only 36 (by kernel_rfl) (by rfl) (call hS (by kernel_rfl) (by kernel_rfl) hb51 (by kernel_rfl) (fun _ _ => rfl) (k51 _ _) ?_)
                  intro v794 a w795 χ796 hE hp hS
                  replace hO := hO.mv hE rfl rfl
                  replace hD := hD.ev hE rfl
                  replace h778 := h778.mv hE rfl
                  replace h793 := h793.mv hE rfl
                  clear hE
                  obtain ⟨a798, c799, hp, h800⟩ := hp
                  rw [hgr36] at hp h800
                  subst hp
                  replace hS := hS.sel [1, 2, 3, 92, 95, 96, 93, 97, 94] [2, 3, 4] (sy' := ⟨[(1, Pt 2 0), (2, Pt 3 0), (3, Pt 4 0), (92, B true), (95, V (.agg #[.int .i64 0, .int .i64 7])), (96, V (.agg #[.int .i64 1, .int .i64 7])), (93, V (.agg #[.int .i64 r686.States, .int .i64 r686.Kinds, .int .i64 r686.Init, .slice a776 r686.Rows.length c777])), (97, V (.slice (some ⟨b790, 0, none⟩) [(⟨0, 7⟩ : Api_Pick), (⟨1, 7⟩ : Api_Pick)].length 2)), (94, V (.slice a798 r693.length c799))], [(2, (52, [I 0, I 7])), (3, (52, [I 1, I 7])), (4, (52, [I 2, I 7]))]⟩) (by kernel_rfl)
                  refine andH (Hold.of hS (bks := [2, 3, 4]) (by kernel_rfl) hD) ?_
                  intro hH
                  exact H _ _ ⟨_, a776, c777, a798, c799, (some ⟨b790, 0, none⟩), 2, hS.sel [1, 2, 3, 92, 93, 94, 97] [2, 3, 4] (by kernel_rfl), hO, hD, hH, h778, h800, h793⟩
              · refine oneOp (by rfl) (lit (E := 52) (col := 0) (T := tApi_Pick) (vals := [.agg #[.int .i64 0, .int .i64 7], .agg #[.int .i64 1, .int .i64 7]]) (ys := [(⟨0, 7⟩ : Api_Pick), (⟨1, 7⟩ : Api_Pick)]) T hS (by kernel_rfl) (by kernel_rfl) (by kernel_rfl) (by kernel_rfl) (by exact ⟨rfl, rfl, trivial⟩) rfl (by kernel_rfl) (by kernel_rfl) (by kernel_rfl) (by kernel_rfl) ?_)
                intro b801 a w802 χ803 hE h804 hN hS
                clear hN
                replace hO := hO.mv hE rfl rfl
                replace hD := hD.ev hE rfl
                clear hE
                replace h804 := h804.rs0
                refine andH (Hold.of hS (bks := [2, 3, 4]) (by kernel_rfl) hD) ?_
                intro hH
                refine only 35 (by kernel_rfl) (by rfl) (call hS (by kernel_rfl) (by kernel_rfl) hb50 (by kernel_rfl) (fun _ _ => rfl) (k50 _ _) ?_)
                intro v805 a w806 χ807 hE hp hS
                replace hO := hO.mv hE rfl rfl
                replace hD := hD.ev hE rfl
                replace h804 := h804.mv hE rfl
                clear hE
                obtain ⟨a809, c810, hp, h811⟩ := hp
                rw [hgr35] at hp h811
                subst hp
                replace hS := hS.sel [1, 2, 3, 92, 95, 96, 97, 93] [2, 3, 4] (sy' := ⟨[(1, Pt 2 0), (2, Pt 3 0), (3, Pt 4 0), (92, B true), (95, V (.agg #[.int .i64 0, .int .i64 7])), (96, V (.agg #[.int .i64 1, .int .i64 7])), (97, V (.slice (some ⟨b801, 0, none⟩) [(⟨0, 7⟩ : Api_Pick), (⟨1, 7⟩ : Api_Pick)].length 2)), (93, V (.agg #[.int .i64 r686.States, .int .i64 r686.Kinds, .int .i64 r686.Init, .slice a809 r686.Rows.length c810]))], [(2, (52, [I 0, I 7])), (3, (52, [I 1, I 7])), (4, (52, [I 2, I 7]))]⟩) (by kernel_rfl)
                refine andH (Hold.of hS (bks := [2, 3, 4]) (by kernel_rfl) hD) ?_
                intro hH
                refine only 36 (by kernel_rfl) (by rfl) (call hS (by kernel_rfl) (by kernel_rfl) hb51 (by kernel_rfl) (fun _ _ => rfl) (k51 _ _) ?_)
                intro v812 a w813 χ814 hE hp hS
                replace hO := hO.mv hE rfl rfl
                replace hD := hD.ev hE rfl
                replace h804 := h804.mv hE rfl
                replace h811 := h811.mv hE rfl
                clear hE
                obtain ⟨a816, c817, hp, h818⟩ := hp
                rw [hgr36] at hp h818
                subst hp
                replace hS := hS.sel [1, 2, 3, 92, 95, 96, 97, 93, 94] [2, 3, 4] (sy' := ⟨[(1, Pt 2 0), (2, Pt 3 0), (3, Pt 4 0), (92, B true), (95, V (.agg #[.int .i64 0, .int .i64 7])), (96, V (.agg #[.int .i64 1, .int .i64 7])), (97, V (.slice (some ⟨b801, 0, none⟩) [(⟨0, 7⟩ : Api_Pick), (⟨1, 7⟩ : Api_Pick)].length 2)), (93, V (.agg #[.int .i64 r686.States, .int .i64 r686.Kinds, .int .i64 r686.Init, .slice a809 r686.Rows.length c810])), (94, V (.slice a816 r693.length c817))], [(2, (52, [I 0, I 7])), (3, (52, [I 1, I 7])), (4, (52, [I 2, I 7]))]⟩) (by kernel_rfl)
                refine andH (Hold.of hS (bks := [2, 3, 4]) (by kernel_rfl) hD) ?_
                intro hH
                exact H _ _ ⟨_, a809, c810, a816, c817, (some ⟨b801, 0, none⟩), 2, hS.sel [1, 2, 3, 92, 93, 94, 97] [2, 3, 4] (by kernel_rfl), hO, hD, hH, h811, h818, h804⟩
          · replace hS := hS.lit (t := 92) (by kernel_rfl) hb
            replace hm := hm.2 hb
            refine take T [35, 37, 38, 36, 39, 40, 41, 42, 43, 44, 45, 46, 47, 48, 49, 50, 51, 52, 53, 54, 55, 56, 57, 58, 59, 60, 61, 62, 63, 64, 65, 66, 69, 67, 68, 70, 71, 72, 73, 75, 74, 76, 77, 78] [2, 3, 4] [0] hS (by kernel_rfl) (by kernel_rfl) (by kernel_rfl) hH (listed' := #[true, true, true, true, true, true, true, true, true, true, true, true, true, true, true, true, true, true, true, true, true, true, true, true, true, true, true, true, true, true, true, true, true, true, true, true, true, true, true, true, true, true, true, true, true, true, true, true, true, true, true, true, true, true, true, true, true, true, true, true, true, true, true, true, true, true, true, true, true, true, true, true, true, true, true, true, true, true, true]) (fuel := 0) (sy' := ⟨[(0, B false)], [(2, (52, [I 0, I 7])), (3, (52, [I 1, I 7])), (4, (52, [I 2, I 7]))]⟩) (by as_aux_lemma => kernel_rfl) (by rfl) ?_
            intro a hS
            refine drawnDone (by kernel_rfl) ?_
            clear hD hH
            replace hS := hS.sel [0] [] (sy' := ⟨[(0, B false)], []⟩) (by kernel_rfl)
            refine wret ?_
            exact fin T hS hO (fun c => c) rfl (r := [.bool false]) (by kernel_rfl) (fun χ' hM hC => ⟨false, hm, rfl⟩)
        · clear hm
          refine anyOf (is := [0, 4]) (by kernel_rfl) (by decide) ?_
          intro i hi
          rcases mem2 hi with rfl | rfl
          · refine oneOp (by rfl) (call hS (by kernel_rfl) (by kernel_rfl) hb50 (by kernel_rfl) (fun _ _ => rfl) (k50 _ _) ?_)
            intro v624 a w625 χ626 hE hp hS
            replace hO := hO.mv hE rfl rfl
            replace hD := hD.ev hE rfl
            clear hE
            obtain ⟨a628, c629, hp, h630⟩ := hp
            rw [hgr0] at hp h630
            subst hp
            replace hS := hS.sel [1, 2, 3, 4, 5, 6, 7, 8, 9, 47, 48, 45] [2, 3, 4] (sy' := ⟨[(1, Pt 2 0), (2, Pt 3 0), (3, Pt 4 0), (4, I r244.1), (5, I r244.2), (6, I r388.1), (7, I r388.2), (8, I r532.1), (9, I r532.2), (47, V (.agg #[.int .i64 0, .int .i64 7])), (48, V (.agg #[.int .i64 0, .int .i64 7])), (45, V (.agg #[.int .i64 r538.States, .int .i64 r538.Kinds, .int .i64 r538.Init, .slice a628 r538.Rows.length c629]))], [(2, (52, [I 0, I 7])), (3, (52, [I 1, I 7])), (4, (52, [I 2, I 7]))]⟩) (by kernel_rfl)
            refine andH (Hold.of hS (bks := [2, 3, 4]) (by kernel_rfl) hD) ?_
            intro hH
            refine anyOf (is := [1, 4]) (by kernel_rfl) (by decide) ?_
            intro i hi
            rcases mem2 hi with rfl | rfl
            · refine oneOp (by rfl) (call hS (by kernel_rfl) (by kernel_rfl) hb51 (by kernel_rfl) (fun _ _ => rfl) (k51 _ _) ?_)
              intro v631 a w632 χ633 hE hp hS
              replace hO := hO.mv hE rfl rfl
              replace hD := hD.ev hE rfl
              replace h630 := h630.mv hE rfl
              clear hE
              obtain ⟨a635, c636, hp, h637⟩ := hp
              rw [hgr1] at hp h637
              subst hp
              replace hS := hS.sel [1, 2, 3, 4, 5, 6, 7, 8, 9, 47, 48, 45, 46] [2, 3, 4] (sy' := ⟨[(1, Pt 2 0), (2, Pt 3 0), (3, Pt 4 0), (4, I r244.1), (5, I r244.2), (6, I r388.1), (7, I r388.2), (8, I r532.1), (9, I r532.2), (47, V (.agg #[.int .i64 0, .int .i64 7])), (48, V (.agg #[.int .i64 0, .int .i64 7])), (45, V (.agg #[.int .i64 r538.States, .int .i64 r538.Kinds, .int .i64 r538.Init, .slice a628 r538.Rows.length c629])), (46, V (.slice a635 r545.length c636))], [(2, (52, [I 0, I 7])), (3, (52, [I 1, I 7])), (4, (52, [I 2, I 7]))]⟩) (by kernel_rfl)
              refine andH (Hold.of hS (bks := [2, 3, 4]) (by kernel_rfl) hD) ?_
              intro hH
              refine only 4 (by kernel_rfl) (by rfl) (lit (E := 52) (col := 0) (T := tApi_Pick) (vals := [.agg #[.int .i64 0, .int .i64 7], .agg #[.int .i64 0, .int .i64 7]]) (ys := [(⟨0, 7⟩ : Api_Pick), (⟨0, 7⟩ : Api_Pick)]) T hS (by kernel_rfl) (by kernel_rfl) (by kernel_rfl) (by kernel_rfl) (by exact ⟨rfl, rfl, trivial⟩) rfl (by kernel_rfl) (by kernel_rfl) (by kernel_rfl) (by kernel_rfl) ?_)
              intro b638 a w639 χ640 hE h641 hN hS
              clear hN
              replace hO := hO.mv hE rfl rfl
              replace hD := hD.ev hE rfl
              replace h630 := h630.mv hE rfl
              replace h637 := h637.mv hE rfl
              clear hE
              replace h641 := h641.rs0
              refine andH (Hold.of hS (bks := [2, 3, 4]) (by kernel_rfl) hD) ?_
              intro hH
              exact H _ _ ⟨_, a628, c629, a635, c636, (some ⟨b638, 0, none⟩), 2, hS.sel [1, 2, 3, 4, 5, 6, 7, 8, 9, 45, 46, 49] [2, 3, 4] (by kernel_rfl), hO, hD, hH, h630, h637, h641⟩
            · refine oneOp (by rfl) (lit (E := 52) (col := 0) (T := tApi_Pick) (vals := [.agg #[.int .i64 0, .int .i64 7], .agg #[.int .i64 0, .int .i64 7]]) (ys := [(⟨0, 7⟩ : Api_Pick), (⟨0, 7⟩ : Api_Pick)]) T hS (by kernel_rfl) (by kernel_rfl) (by kernel_rfl) (by kernel_rfl) (by exact ⟨rfl, rfl, trivial⟩) rfl (by kernel_rfl) (by kernel_rfl) (by kernel_rfl) (by kernel_rfl) ?_)
              intro b642 a w643 χ644 hE h645 hN hS
              clear hN
              replace hO := hO.mv hE rfl rfl
              replace hD := hD.ev hE rfl
              replace h630 := h630.mv hE rfl
              clear hE
              replace h645 := h645.rs0
              refine andH (Hold.of hS (bks := [2, 3, 4]) (by kernel_rfl) hD) ?_
              intro hH
              refine only 1 (by kernel_rfl) (by rfl) (call hS (by kernel_rfl) (by kernel_rfl) hb51 (by kernel_rfl) (fun _ _ => rfl) (k51 _ _) ?_)
              intro v646 a w647 χ648 hE hp hS
              replace hO := hO.mv hE rfl rfl
              replace hD := hD.ev hE rfl
              replace h630 := h630.mv hE rfl
              replace h645 := h645.mv hE rfl
              clear hE
              obtain ⟨a650, c651, hp, h652⟩ := hp
              rw [hgr1] at hp h652
              subst hp
              replace hS := hS.sel [1, 2, 3, 4, 5, 6, 7, 8, 9, 47, 48, 45, 49, 46] [2, 3, 4] (sy' := ⟨[(1, Pt 2 0), (2, Pt 3 0), (3, Pt 4 0), (4, I r244.1), (5, I r244.2), (6, I r388.1), (7, I r388.2), (8, I r532.1), (9, I r532.2), (47, V (.agg #[.int .i64 0, .int .i64 7])), (48, V (.agg #[.int .i64 0, .int .i64 7])), (45, V (.agg #[.int .i64 r538.States, .int .i64 r538.Kinds, .int .i64 r538.Init, .slice a628 r538.Rows.length c629])), (49, V (.slice (some ⟨b642, 0, none⟩) [(⟨0, 7⟩ : Api_Pick), (⟨0, 7⟩ : Api_Pick)].length 2)), (46, V (.slice a650 r545.length c651))], [(2, (52, [I 0, I 7])), (3, (52, [I 1, I 7])), (4, (52, [I 2, I 7]))]⟩) (by kernel_rfl)
              refine andH (Hold.of hS (bks := [2, 3, 4]) (by kernel_rfl) hD) ?_
              intro hH
              exact H _ _ ⟨_, a628, c629, a650, c651, (some ⟨b642, 0, none⟩), 2, hS.sel [1, 2, 3, 4, 5, 6, 7, 8, 9, 45, 46, 49] [2, 3, 4] (by kernel_rfl), hO, hD, hH, h630, h652, h645⟩
          · refine oneOp (by rfl) (lit (E := 52) (col := 0) (T := tApi_Pick) (vals := [.agg #[.int .i64 0, .int .i64 7], .agg #[.int .i64 0, .int .i64 7]]) (ys := [(⟨0, 7⟩ : Api_Pick), (⟨0, 7⟩ : Api_Pick)]) T hS (by kernel_rfl) (by kernel_rfl) (by kernel_rfl) (by kernel_rfl) (by exact ⟨rfl, rfl, trivial⟩) rfl (by kernel_rfl) (by kernel_rfl) (by kernel_rfl) (by kernel_rfl) ?_)
            intro b653 a w654 χ655 hE h656 hN hS
            clear hN
            replace hO := hO.mv hE rfl rfl
            replace hD := hD.ev hE rfl
            clear hE
            replace h656 := h656.rs0
            refine andH (Hold.of hS (bks := [2, 3, 4]) (by kernel_rfl) hD) ?_
            intro hH
            refine only 0 (by kernel_rfl) (by rfl) (call hS (by kernel_rfl) (by kernel_rfl) hb50 (by kernel_rfl) (fun _ _ => rfl) (k50 _ _) ?_)
            intro v657 a w658 χ659 hE hp hS
            replace hO := hO.mv hE rfl rfl
            replace hD := hD.ev hE rfl
            replace h656 := h656.mv hE rfl
            clear hE
            obtain ⟨a661, c662, hp, h663⟩ := hp
            rw [hgr0] at hp h663
            subst hp
            replace hS := hS.sel [1, 2, 3, 4, 5, 6, 7, 8, 9, 47, 48, 49, 45] [2, 3, 4] (sy' := ⟨[(1, Pt 2 0), (2, Pt 3 0), (3, Pt 4 0), (4, I r244.1), (5, I r244.2), (6, I r388.1), (7, I r388.2), (8, I r532.1), (9, I r532.2), (47, V (.agg #[.int .i64 0, .int .i64 7])), (48, V (.agg #[.int .i64 0, .int .i64 7])), (49, V (.slice (some ⟨b653, 0, none⟩) [(⟨0, 7⟩ : Api_Pick), (⟨0, 7⟩ : Api_Pick)].length 2)), (45, V (.agg #[.int .i64 r538.States, .int .i64 r538.Kinds, .int .i64 r538.Init, .slice a661 r538.Rows.length c662]))], [(2, (52, [I 0, I 7])), (3, (52, [I 1, I 7])), (4, (52, [I 2, I 7]))]⟩) (by kernel_rfl)
            refine andH (Hold.of hS (bks := [2, 3, 4]) (by kernel_rfl) hD) ?_
            intro hH
            refine only 1 (by kernel_rfl) (by rfl) (call hS (by kernel_rfl) (by kernel_rfl) hb51 (by kernel_rfl) (fun _ _ => rfl) (k51 _ _) ?_)
            intro v664 a w665 χ666 hE hp hS
            replace hO := hO.mv hE rfl rfl
            replace hD := hD.ev hE rfl
            replace h656 := h656.mv hE rfl
            replace h663 := h663.mv hE rfl
            clear hE
            obtain ⟨a668, c669, hp, h670⟩ := hp
            rw [hgr1] at hp h670
            subst hp
            replace hS := hS.sel [1, 2, 3, 4, 5, 6, 7, 8, 9, 47, 48, 49, 45, 46] [2, 3, 4] (sy' := ⟨[(1, Pt 2 0), (2, Pt 3 0), (3, Pt 4 0), (4, I r244.1), (5, I r244.2), (6, I r388.1), (7, I r388.2), (8, I r532.1), (9, I r532.2), (47, V (.agg #[.int .i64 0, .int .i64 7])), (48, V (.agg #[.int .i64 0, .int .i64 7])), (49, V (.slice (some ⟨b653, 0, none⟩) [(⟨0, 7⟩ : Api_Pick), (⟨0, 7⟩ : Api_Pick)].length 2)), (45, V (.agg #[.int .i64 r538.States, .int .i64 r538.Kinds, .int .i64 r538.Init, .slice a661 r538.Rows.length c662])), (46, V (.slice a668 r545.length c669))], [(2, (52, [I 0, I 7])), (3, (52, [I 1, I 7])), (4, (52, [I 2, I 7]))]⟩) (by kernel_rfl)
            refine andH (Hold.of hS (bks := [2, 3, 4]) (by kernel_rfl) hD) ?_
            intro hH
            exact H _ _ ⟨_, a661, c662, a668, c669, (some ⟨b653, 0, none⟩), 2, hS.sel [1, 2, 3, 4, 5, 6, 7, 8, 9, 45, 46, 49] [2, 3, 4] (by kernel_rfl), hO, hD, hH, h663, h670, h656⟩
      · clear hm
        refine anyOf (is := [0, 3]) (by kernel_rfl) (by decide) ?_
        intro i hi
        rcases mem2 hi with rfl | rfl
        · refine oneOp (by rfl) (call hS (by kernel_rfl) (by kernel_rfl) hb50 (by kernel_rfl) (fun _ _ => rfl) (k50 _ _) ?_)
          intro v480 a w481 χ482 hE hp hS
          replace hO := hO.mv hE rfl rfl
          replace hD := hD.ev hE rfl
          clear hE
          obtain ⟨a484, c485, hp, h486⟩ := hp
          rw [hgr0] at hp h486
          subst hp
          replace hS := hS.sel [1, 2, 3, 4, 5, 6, 7, 39, 37] [2, 3, 4] (sy' := ⟨[(1, Pt 2 0), (2, Pt 3 0), (3, Pt 4 0), (4, I r244.1), (5, I r244.2), (6, I r388.1), (7, I r388.2), (39, V (.agg #[.int .i64 0, .int .i64 7])), (37, V (.agg #[.int .i64 r394.States, .int .i64 r394.Kinds, .int .i64 r394.Init, .slice a484 r394.Rows.length c485]))], [(2, (52, [I 0, I 7])), (3, (52, [I 1, I 7])), (4, (52, [I 2, I 7]))]⟩) (by kernel_rfl)
          refine andH (Hold.of hS (bks := [2, 3, 4]) (by kernel_rfl) hD) ?_
          intro hH
          refine anyOf (is := [1, 3]) (by kernel_rfl) (by decide) ?_
          intro i hi
          rcases mem2 hi with rfl | rfl
          · refine oneOp (by rfl) (call hS (by kernel_rfl) (by kernel_rfl) hb51 (by kernel_rfl) (fun _ _ => rfl) (k51 _ _) ?_)
            intro v487 a w488 χ489 hE hp hS
            replace hO := hO.mv hE rfl rfl
            replace hD := hD.ev hE rfl
            replace h486 := h486.mv hE rfl
            clear hE
            obtain ⟨a491, c492, hp, h493⟩ := hp
            rw [hgr1] at hp h493
            subst hp
            replace hS := hS.sel [1, 2, 3, 4, 5, 6, 7, 39, 37, 38] [2, 3, 4] (sy' := ⟨[(1, Pt 2 0), (2, Pt 3 0), (3, Pt 4 0), (4, I r244.1), (5, I r244.2), (6, I r388.1), (7, I r388.2), (39, V (.agg #[.int .i64 0, .int .i64 7])), (37, V (.agg #[.int .i64 r394.States, .int .i64 r394.Kinds, .int .i64 r394.Init, .slice a484 r394.Rows.length c485])), (38, V (.slice a491 r401.length c492))], [(2, (52, [I 0, I 7])), (3, (52, [I 1, I 7])), (4, (52, [I 2, I 7]))]⟩) (by kernel_rfl)
            refine andH (Hold.of hS (bks := [2, 3, 4]) (by kernel_rfl) hD) ?_
            intro hH
            refine only 3 (by kernel_rfl) (by rfl) (lit (E := 52) (col := 0) (T := tApi_Pick) (vals := [.agg #[.int .i64 0, .int .i64 7]]) (ys := [(⟨0, 7⟩ : Api_Pick)]) T hS (by kernel_rfl) (by kernel_rfl) (by kernel_rfl) (by kernel_rfl) (by exact ⟨rfl, trivial⟩) rfl (by kernel_rfl) (by kernel_rfl) (by kernel_rfl) (by kernel_rfl) ?_)
            intro b494 a w495 χ496 hE h497 hN hS
            clear hN
            replace hO := hO.mv hE rfl rfl
            replace hD := hD.ev hE rfl
            replace h486 := h486.mv hE rfl
            replace h493 := h493.mv hE rfl
            clear hE
            replace h497 := h497.rs0
            refine andH (Hold.of hS (bks := [2, 3, 4]) (by kernel_rfl) hD) ?_
            intro hH
            exact H _ _ ⟨_, a484, c485, a491, c492, (some ⟨b494, 0, none⟩), 1, hS.sel [1, 2, 3, 4, 5, 6, 7, 37, 38, 40] [2, 3, 4] (by kernel_rfl), hO, hD, hH, h486, h493, h497⟩
          · refine oneOp (by rfl) (lit (E := 52) (col := 0) (T := tApi_Pick) (vals := [.agg #[.int .i64 0, .int .i64 7]]) (ys := [(⟨0, 7⟩ : Api_Pick)]) T hS (by kernel_rfl) (by kernel_rfl) (by kernel_rfl) (by kernel_rfl) (by exact ⟨rfl, trivial⟩) rfl (by kernel_rfl) (by kernel_rfl) (by kernel_rfl) (by kernel_rfl) ?_)
            intro b498 a w499 χ500 hE h501 hN hS
            clear hN
            replace hO := hO.mv hE rfl rfl
            replace hD := hD.ev hE rfl
            replace h486 := h486.mv hE rfl
            clear hE
            replace h501 := h501.rs0
            refine andH (Hold.of hS (bks := [2, 3, 4]) (by kernel_rfl) hD) ?_
            intro hH
            refine only 1 (by kernel_rfl) (by rfl) (call hS (by kernel_rfl) (by kernel_rfl) hb51 (by kernel_rfl) (fun _ _ => rfl) (k51 _ _) ?_)
            intro v502 a w503 χ504 hE hp hS
            replace hO := hO.mv hE rfl rfl
            replace hD := hD.ev hE rfl
            replace h486 := h486.mv hE rfl
            replace h501 := h501.mv hE rfl
            clear hE
            obtain ⟨a506, c507, hp, h508⟩ := hp
            rw [hgr1] at hp h508
            subst hp
            replace hS := hS.sel [1, 2, 3, 4, 5, 6, 7, 39, 37, 40, 38] [2, 3, 4] (sy' := ⟨[(1, Pt 2 0), (2, Pt 3 0), (3, Pt 4 0), (4, I r244.1), (5, I r244.2), (6, I r388.1), (7, I r388.2), (39, V (.agg #[.int .i64 0, .int .i64 7])), (37, V (.agg #[.int .i64 r394.States, .int .i64 r394.Kinds, .int .i64 r394.Init, .slice a484 r394.Rows.length c485])), (40, V (.slice (some ⟨b498, 0, none⟩) [(⟨0, 7⟩ : Api_Pick)].length 1)), (38, V (.slice a506 r401.length c507))], [(2, (52, [I 0, I 7])), (3, (52, [I 1, I 7])), (4, (52, [I 2, I 7]))]⟩) (by kernel_rfl)
            refine andH (Hold.of hS (bks := [2, 3, 4]) (by kernel_rfl) hD) ?_
            intro hH
            exact H _ _ ⟨_, a484, c485, a506, c507, (some ⟨b498, 0, none⟩), 1, hS.sel [1, 2, 3, 4, 5, 6, 7, 37, 38, 40] [2, 3, 4] (by kernel_rfl), hO, hD, hH, h486, h508, h501⟩
        · refine oneOp (by rfl) (lit (E := 52) (col := 0) (T := tApi_Pick) (vals := [.agg #[.int .i64 0, .int .i64 7]]) (ys := [(⟨0, 7⟩ : Api_Pick)]) T hS (by kernel_rfl) (by kernel_rfl) (by kernel_rfl) (by kernel_rfl) (by exact ⟨rfl, trivial⟩) rfl (by kernel_rfl) (by kernel_rfl) (by kernel_rfl) (by kernel_rfl) ?_)
          intro b509 a w510 χ511 hE h512 hN hS
          clear hN
          replace hO := hO.mv hE rfl rfl
          replace hD := hD.ev hE rfl
          clear hE
          replace h512 := h512.rs0
          refine andH (Hold.of hS (bks := [2, 3, 4]) (by kernel_rfl) hD) ?_
          intro hH
          refine only 0 (by kernel_rfl) (by rfl) (call hS (by kernel_rfl) (by kernel_rfl) hb50 (by kernel_rfl) (fun _ _ => rfl) (k50 _ _) ?_)
          intro v513 a w514 χ515 hE hp hS
          replace hO := hO.mv hE rfl rfl
          replace hD := hD.ev hE rfl
          replace h512 := h512.mv hE rfl
          clear hE
          obtain ⟨a517, c518, hp, h519⟩ := hp
          rw [hgr0] at hp h519
          subst hp
          replace hS := hS.sel [1, 2, 3, 4, 5, 6, 7, 39, 40, 37] [2, 3, 4] (sy' := ⟨[(1, Pt 2 0), (2, Pt 3 0), (3, Pt 4 0), (4, I r244.1), (5, I r244.2), (6, I r388.1), (7, I r388.2), (39, V (.agg #[.int .i64 0, .int .i64 7])), (40, V (.slice (some ⟨b509, 0, none⟩) [(⟨0, 7⟩ : Api_Pick)].length 1)), (37, V (.agg #[.int .i64 r394.States, .int .i64 r394.Kinds, .int .i64 r394.Init, .slice a517 r394.Rows.length c518]))], [(2, (52, [I 0, I 7])), (3, (52, [I 1, I 7])), (4, (52, [I 2, I 7]))]⟩) (by kernel_rfl)
          refine andH (Hold.of hS (bks := [2, 3, 4]) (by kernel_rfl) hD) ?_
          intro hH
          refine only 1 (by kernel_rfl) (by rfl) (call hS (by kernel_rfl) (by kernel_rfl) hb51 (by kernel_rfl) (fun _ _ => rfl) (k51 _ _) ?_)
          intro v520 a w521 χ522 hE hp hS
          replace hO := hO.mv hE rfl rfl
          replace hD := hD.ev hE rfl
          replace h512 := h512.mv hE rfl
          replace h519 := h519.mv hE rfl
          clear hE
          obtain ⟨a524, c525, hp, h526⟩ := hp
          rw [hgr1] at hp h526
          subst hp
          replace hS := hS.sel [1, 2, 3, 4, 5, 6, 7, 39, 40, 37, 38] [2, 3, 4] (sy' := ⟨[(1, Pt 2 0), (2, Pt 3 0), (3, Pt 4 0), (4, I r244.1), (5, I r244.2), (6, I r388.1), (7, I r388.2), (39, V (.agg #[.int .i64 0, .int .i64 7])), (40, V (.slice (some ⟨b509, 0, none⟩) [(⟨0, 7⟩ : Api_Pick)].length 1)), (37, V (.agg #[.int .i64 r394.States, .int .i64 r394.Kinds, .int .i64 r394.Init, .slice a517 r394.Rows.length c518])), (38, V (.slice a524 r401.length c525))], [(2, (52, [I 0, I 7])), (3, (52, [I 1, I 7])), (4, (52, [I 2, I 7]))]⟩) (by kernel_rfl)
          refine andH (Hold.of hS (bks := [2, 3, 4]) (by kernel_rfl) hD) ?_
          intro hH
          exact H _ _ ⟨_, a517, c518, a524, c525, (some ⟨b509, 0, none⟩), 1, hS.sel [1, 2, 3, 4, 5, 6, 7, 37, 38, 40] [2, 3, 4] (by kernel_rfl), hO, hD, hH, h519, h526, h512⟩
    · clear hm
      refine anyOf (is := [0, 4]) (by kernel_rfl) (by decide) ?_
      intro i hi
      rcases mem2 hi with rfl | rfl
      · refine oneOp (by rfl) (call hS (by kernel_rfl) (by kernel_rfl) hb50 (by kernel_rfl) (fun _ _ => rfl) (k50 _ _) ?_)
        intro v336 a w337 χ338 hE hp hS
        replace hO := hO.mv hE rfl rfl
        replace hD := hD.ev hE rfl
        clear hE
        obtain ⟨a340, c341, hp, h342⟩ := hp
        rw [hgr0] at hp h342
        subst hp
        replace hS := hS.sel [1, 2, 3, 4, 5, 30, 31, 28] [2, 3, 4] (sy' := ⟨[(1, Pt 2 0), (2, Pt 3 0), (3, Pt 4 0), (4, I r244.1), (5, I r244.2), (30, V (.agg #[.int .i64 1, .int .i64 7])), (31, V (.agg #[.int .i64 0, .int .i64 7])), (28, V (.agg #[.int .i64 r250.States, .int .i64 r250.Kinds, .int .i64 r250.Init, .slice a340 r250.Rows.length c341]))], [(2, (52, [I 0, I 7])), (3, (52, [I 1, I 7])), (4, (52, [I 2, I 7]))]⟩) (by kernel_rfl)
        refine andH (Hold.of hS (bks := [2, 3, 4]) (by kernel_rfl) hD) ?_
        intro hH
        refine anyOf (is := [1, 4]) (by kernel_rfl) (by decide) ?_
        intro i hi
        rcases mem2 hi with rfl | rfl
        · refine oneOp (by rfl) (call hS (by kernel_rfl) (by kernel_rfl) hb51 (by kernel_rfl) (fun _ _ => rfl) (k51 _ _) ?_)
          intro v343 a w344 χ345 hE hp hS
          replace hO := hO.mv hE rfl rfl
          replace hD := hD.ev hE rfl
          replace h342 := h342.mv hE rfl
          clear hE
          obtain ⟨a347, c348, hp, h349⟩ := hp
          rw [hgr1] at hp h349
          subst hp
          replace hS := hS.sel [1, 2, 3, 4, 5, 30, 31, 28, 29] [2, 3, 4] (sy' := ⟨[(1, Pt 2 0), (2, Pt 3 0), (3, Pt 4 0), (4, I r244.1), (5, I r244.2), (30, V (.agg #[.int .i64 1, .int .i64 7])), (31, V (.agg #[.int .i64 0, .int .i64 7])), (28, V (.agg #[.int .i64 r250.States, .int .i64 r250.Kinds, .int .i64 r250.Init, .slice a340 r250.Rows.length c341])), (29, V (.slice a347 r257.length c348))], [(2, (52, [I 0, I 7])), (3, (52, [I 1, I 7])), (4, (52, [I 2, I 7]))]⟩) (by kernel_rfl)
          refine andH (Hold.of hS (bks := [2, 3, 4]) (by kernel_rfl) hD) ?_
          intro hH
          refine only 4 (by kernel_rfl) (by rfl) (lit (E := 52) (col := 0) (T := tApi_Pick) (vals := [.agg #[.int .i64 1, .int .i64 7], .agg #[.int .i64 0, .int .i64 7]]) (ys := [(⟨1, 7⟩ : Api_Pick), (⟨0, 7⟩ : Api_Pick)]) T hS (by kernel_rfl) (by kernel_rfl) (by kernel_rfl) (by kernel_rfl) (by exact ⟨rfl, rfl, trivial⟩) rfl (by kernel_rfl) (by kernel_rfl) (by kernel_rfl) (by kernel_rfl) ?_)
          intro b350 a w351 χ352 hE h353 hN hS
          clear hN
          replace hO := hO.mv hE rfl rfl
          replace hD := hD.ev hE rfl
          replace h342 := h342.mv hE rfl
          replace h349 := h349.mv hE rfl
          clear hE
          replace h353 := h353.rs0
          refine andH (Hold.of hS (bks := [2, 3, 4]) (by kernel_rfl) hD) ?_
          intro hH
          exact H _ _ ⟨_, a340, c341, a347, c348, (some ⟨b350, 0, none⟩), 2, hS.sel [1, 2, 3, 4, 5, 28, 29, 32] [2, 3, 4] (by kernel_rfl), hO, hD, hH, h342, h349, h353⟩
        · refine oneOp (by rfl) (lit (E := 52) (col := 0) (T := tApi_Pick) (vals := [.agg #[.int .i64 1, .int .i64 7], .agg #[.int .i64 0, .int .i64 7]]) (ys := [(⟨1, 7⟩ : Api_Pick), (⟨0, 7⟩ : Api_Pick)]) T hS (by kernel_rfl) (by kernel_rfl) (by kernel_rfl) (by kernel_rfl) (by exact ⟨rfl, rfl, trivial⟩) rfl (by kernel_rfl) (by kernel_rfl) (by kernel_rfl) (by kernel_rfl) ?_)
          intro b354 a w355 χ356 hE h357 hN hS
          clear hN
          replace hO := hO.mv hE rfl rfl
          replace hD := hD.ev hE rfl
          replace h342 := h342.mv hE rfl
          clear hE
          replace h357 := h357.rs0
          refine andH (Hold.of hS (bks := [2, 3, 4]) (by kernel_rfl) hD) ?_
          intro hH
          refine only 1 (by kernel_rfl) (by rfl) (call hS (by kernel_rfl) (by kernel_rfl) hb51 (by kernel_rfl) (fun _ _ => rfl) (k51 _ _) ?_)
          intro v358 a w359 χ360 hE hp hS
          replace hO := hO.mv hE rfl rfl
          replace hD := hD.ev hE rfl
          replace h342 := h342.mv hE rfl
          replace h357 := h357.mv hE rfl
          clear hE
          obtain ⟨a362, c363, hp, h364⟩ := hp
          rw [hgr1] at hp h364
          subst hp
          replace hS := hS.sel [1, 2, 3, 4, 5, 30, 31, 28, 32, 29] [2, 3, 4] (sy' := ⟨[(1, Pt 2 0), (2, Pt 3 0), (3, Pt 4 0), (4, I r244.1), (5, I r244.2), (30, V (.agg #[.int .i64 1, .int .i64 7])), (31, V (.agg #[.int .i64 0, .int .i64 7])), (28, V (.agg #[.int .i64 r250.States, .int .i64 r250.Kinds, .int .i64 r250.Init, .slice a340 r250.Rows.length c341])), (32, V (.slice (some ⟨b354, 0, none⟩) [(⟨1, 7⟩ : Api_Pick), (⟨0, 7⟩ : Api_Pick)].length 2)), (29, V (.slice a362 r257.length c363))], [(2, (52, [I 0, I 7])), (3, (52, [I 1, I 7])), (4, (52, [I 2, I 7]))]⟩) (by kernel_rfl)
          refine andH (Hold.of hS (bks := [2, 3, 4]) (by kernel_rfl) hD) ?_
          intro hH
          exact H _ _ ⟨_, a340, c341, a362, c363, (some ⟨b354, 0, none⟩), 2, hS.sel [1, 2, 3, 4, 5, 28, 29, 32] [2, 3, 4] (by kernel_rfl), hO, hD, hH, h342, h364, h357⟩
      · refine oneOp (by rfl) (lit (E := 52) (col := 0) (T := tApi_Pick) (vals := [.agg #[.int .i64 1, .int .i64 7], .agg #[.int .i64 0, .int .i64 7]]) (ys := [(⟨1, 7⟩ : Api_Pick), (⟨0, 7⟩ : Api_Pick)]) T hS (by kernel_rfl) (by kernel_rfl) (by kernel_rfl) (by kernel_rfl) (by exact ⟨rfl, rfl, trivial⟩) rfl (by kernel_rfl) (by kernel_rfl) (by kernel_rfl) (by kernel_rfl) ?_)
        intro b365 a w366 χ367 hE h368 hN hS
        clear hN
        replace hO := hO.mv hE rfl rfl
        replace hD := hD.ev hE rfl
        clear hE
        replace h368 := h368.rs0
        refine andH (Hold.of hS (bks := [2, 3, 4]) (by kernel_rfl) hD) ?_
        intro hH
        refine only 0 (by kernel_rfl) (by rfl) (call hS (by kernel_rfl) (by kernel_rfl) hb50 (by kernel_rfl) (fun _ _ => rfl) (k50 _ _) ?_)
        intro v369 a w370 χ371 hE hp hS
        replace hO := hO.mv hE rfl rfl
        replace hD := hD.ev hE rfl
        replace h368 := h368.mv hE rfl
        clear hE
        obtain ⟨a373, c374, hp, h375⟩ := hp
        rw [hgr0] at hp h375
        subst hp
        replace hS := hS.sel [1, 2, 3, 4, 5, 30, 31, 32, 28] [2, 3, 4] (sy' := ⟨[(1, Pt 2 0), (2, Pt 3 0), (3, Pt 4 0), (4, I r244.1), (5, I r244.2), (30, V (.agg #[.int .i64 1, .int .i64 7])), (31, V (.agg #[.int .i64 0, .int .i64 7])), (32, V (.slice (some ⟨b365, 0, none⟩) [(⟨1, 7⟩ : Api_Pick), (⟨0, 7⟩ : Api_Pick)].length 2)), (28, V (.agg #[.int .i64 r250.States, .int .i64 r250.Kinds, .int .i64 r250.Init, .slice a373 r250.Rows.length c374]))], [(2, (52, [I 0, I 7])), (3, (52, [I 1, I 7])), (4, (52, [I 2, I 7]))]⟩) (by kernel_rfl)
        refine andH (Hold.of hS (bks := [2, 3, 4]) (by kernel_rfl) hD) ?_
        intro hH
        refine only 1 (by kernel_rfl) (by rfl) (call hS (by kernel_rfl) (by kernel_rfl) hb51 (by kernel_rfl) (fun _ _ => rfl) (k51 _ _) ?_)
        intro v376 a w377 χ378 hE hp hS
        replace hO := hO.mv hE rfl rfl
        replace hD := hD.ev hE rfl
        replace h368 := h368.mv hE rfl
        replace h375 := h375.mv hE rfl
        clear hE
        obtain ⟨a380, c381, hp, h382⟩ := hp
        rw [hgr1] at hp h382
        subst hp
        replace hS := hS.sel [1, 2, 3, 4, 5, 30, 31, 32, 28, 29] [2, 3, 4] (sy' := ⟨[(1, Pt 2 0), (2, Pt 3 0), (3, Pt 4 0), (4, I r244.1), (5, I r244.2), (30, V (.agg #[.int .i64 1, .int .i64 7])), (31, V (.agg #[.int .i64 0, .int .i64 7])), (32, V (.slice (some ⟨b365, 0, none⟩) [(⟨1, 7⟩ : Api_Pick), (⟨0, 7⟩ : Api_Pick)].length 2)), (28, V (.agg #[.int .i64 r250.States, .int .i64 r250.Kinds, .int .i64 r250.Init, .slice a373 r250.Rows.length c374])), (29, V (.slice a380 r257.length c381))], [(2, (52, [I 0, I 7])), (3, (52, [I 1, I 7])), (4, (52, [I 2, I 7]))]⟩) (by kernel_rfl)
        refine andH (Hold.of hS (bks := [2, 3, 4]) (by kernel_rfl) hD) ?_
        intro hH
        exact H _ _ ⟨_, a373, c374, a380, c381, (some ⟨b365, 0, none⟩), 2, hS.sel [1, 2, 3, 4, 5, 28, 29, 32] [2, 3, 4] (by kernel_rfl), hO, hD, hH, h375, h382, h368⟩
  · clear hm
    refine anyOf (is := [0, 5]) (by kernel_rfl) (by decide) ?_
    intro i hi
    rcases mem2 hi with rfl | rfl
    · refine oneOp (by rfl) (call hS (by kernel_rfl) (by kernel_rfl) hb50 (by kernel_rfl) (fun _ _ => rfl) (k50 _ _) ?_)
      intro v192 a w193 χ194 hE hp hS
      replace hO := hO.mv hE rfl rfl
      replace hD := hD.ev hE rfl
      clear hE
      obtain ⟨a196, c197, hp, h198⟩ := hp
      rw [hgr0] at hp h198
      subst hp
      replace hS := hS.sel [1, 2, 3, 20, 21, 22, 18] [2, 3, 4] (sy' := ⟨[(1, Pt 2 0), (2, Pt 3 0), (3, Pt 4 0), (20, V (.agg #[.int .i64 0, .int .i64 7])), (21, V (.agg #[.int .i64 1, .int .i64 7])), (22, V (.agg #[.int .i64 2, .int .i64 7])), (18, V (.agg #[.int .i64 r106.States, .int .i64 r106.Kinds, .int .i64 r106.Init, .slice a196 r106.Rows.length c197]))], [(2, (52, [I 0, I 7])), (3, (52, [I 1, I 7])), (4, (52, [I 2, I 7]))]⟩) (by kernel_rfl)
      refine andH (Hold.of hS (bks := [2, 3, 4]) (by kernel_rfl) hD) ?_
      intro hH
      refine anyOf (is := [1, 5]) (by kernel_rfl) (by decide) ?_
      intro i hi
      rcases mem2 hi with rfl | rfl
      · refine oneOp (by rfl) (call hS (by kernel_rfl) (by kernel_rfl) hb51 (by kernel_rfl) (fun _ _ => rfl) (k51 _ _) ?_)
        intro v199 a w200 χ201 hE hp hS
        replace hO := hO.mv hE rfl rfl
        replace hD := hD.ev hE rfl
        replace h198 := h198.mv hE rfl
        clear hE
        obtain ⟨a203, c204, hp, h205⟩ := hp
        rw [hgr1] at hp h205
        subst hp
        replace hS := hS.sel [1, 2, 3, 20, 21, 22, 18, 19] [2, 3, 4] (sy' := ⟨[(1, Pt 2 0), (2, Pt 3 0), (3, Pt 4 0), (20, V (.agg #[.int .i64 0, .int .i64 7])), (21, V (.agg #[.int .i64 1, .int .i64 7])), (22, V (.agg #[.int .i64 2, .int .i64 7])), (18, V (.agg #[.int .i64 r106.States, .int .i64 r106.Kinds, .int .i64 r106.Init, .slice a196 r106.Rows.length c197])), (19, V (.slice a203 r113.length c204))], [(2, (52, [I 0, I 7])), (3, (52, [I 1, I 7])), (4, (52, [I 2, I 7]))]⟩) (by kernel_rfl)
        refine andH (Hold.of hS (bks := [2, 3, 4]) (by kernel_rfl) hD) ?_
        intro hH
        refine only 5 (by kernel_rfl) (by rfl) (lit (E := 52) (col := 0) (T := tApi_Pick) (vals := [.agg #[.int .i64 0, .int .i64 7], .agg #[.int .i64 1, .int .i64 7], .agg #[.int .i64 2, .int .i64 7]]) (ys := [(⟨0, 7⟩ : Api_Pick), (⟨1, 7⟩ : Api_Pick), (⟨2, 7⟩ : Api_Pick)]) T hS (by kernel_rfl) (by kernel_rfl) (by kernel_rfl) (by kernel_rfl) (by exact ⟨rfl, rfl, rfl, trivial⟩) rfl (by kernel_rfl) (by kernel_rfl) (by kernel_rfl) (by kernel_rfl) ?_)
        intro b206 a w207 χ208 hE h209 hN hS
        clear hN
        replace hO := hO.mv hE rfl rfl
        replace hD := hD.ev hE rfl
        replace h198 := h198.mv hE rfl
        replace h205 := h205.mv hE rfl
        clear hE
        replace h209 := h209.rs0
        refine andH (Hold.of hS (bks := [2, 3, 4]) (by kernel_rfl) hD) ?_
        intro hH
        exact H _ _ ⟨_, a196, c197, a203, c204, (some ⟨b206, 0, none⟩), 3, hS.sel [1, 2, 3, 18, 19, 23] [2, 3, 4] (by kernel_rfl), hO, hD, hH, h198, h205, h209⟩
      · refine oneOp (by rfl) (lit (E := 52) (col := 0) (T := tApi_Pick) (vals := [.agg #[.int .i64 0, .int .i64 7], .agg #[.int .i64 1, .int .i64 7], .agg #[.int .i64 2, .int .i64 7]]) (ys := [(⟨0, 7⟩ : Api_Pick), (⟨1, 7⟩ : Api_Pick), (⟨2, 7⟩ : Api_Pick)]) T hS (by kernel_rfl) (by kernel_rfl) (by kernel_rfl) (by kernel_rfl) (by exact ⟨rfl, rfl, rfl, trivial⟩) rfl (by kernel_rfl) (by kernel_rfl) (by kernel_rfl) (by kernel_rfl) ?_)
        intro b210 a w211 χ212 hE h213 hN hS
        clear hN
        replace hO := hO.mv hE rfl rfl
        replace hD := hD.ev hE rfl
        replace h198 := h198.mv hE rfl
        clear hE
        replace h213 := h213.rs0
        refine andH (Hold.of hS (bks := [2, 3, 4]) (by kernel_rfl) hD) ?_
        intro hH
        refine only 1 (by kernel_rfl) (by rfl) (call hS (by kernel_rfl) (by kernel_rfl) hb51 (by kernel_rfl) (fun _ _ => rfl) (k51 _ _) ?_)
        intro v214 a w215 χ216 hE hp hS
        replace hO := hO.mv hE rfl rfl
        replace hD := hD.ev hE rfl
        replace h198 := h198.mv hE rfl
        replace h213 := h213.mv hE rfl
        clear hE
        obtain ⟨a218, c219, hp, h220⟩ := hp
        rw [hgr1] at hp h220
        subst hp
        replace hS := hS.sel [1, 2, 3, 20, 21, 22, 18, 23, 19] [2, 3, 4] (sy' := ⟨[(1, Pt 2 0), (2, Pt 3 0), (3, Pt 4 0), (20, V (.agg #[.int .i64 0, .int .i64 7])), (21, V (.agg #[.int .i64 1, .int .i64 7])), (22, V (.agg #[.int .i64 2, .int .i64 7])), (18, V (.agg #[.int .i64 r106.States, .int .i64 r106.Kinds, .int .i64 r106.Init, .slice a196 r106.Rows.length c197])), (23, V (.slice (some ⟨b210, 0, none⟩) [(⟨0, 7⟩ : Api_Pick), (⟨1, 7⟩ : Api_Pick), (⟨2, 7⟩ : Api_Pick)].length 3)), (19, V (.slice a218 r113.length c219))], [(2, (52, [I 0, I 7])), (3, (52, [I 1, I 7])), (4, (52, [I 2, I 7]))]⟩) (by kernel_rfl)
        refine andH (Hold.of hS (bks := [2, 3, 4]) (by kernel_rfl) hD) ?_
        intro hH
        exact H _ _ ⟨_, a196, c197, a218, c219, (some ⟨b210, 0, none⟩), 3, hS.sel [1, 2, 3, 18, 19, 23] [2, 3, 4] (by kernel_rfl), hO, hD, hH, h198, h220, h213⟩
    · refine oneOp (by rfl) (lit (E := 52) (col := 0) (T := tApi_Pick) (vals := [.agg #[.int .i64 0, .int .i64 7], .agg #[.int .i64 1, .int .i64 7], .agg #[.int .i64 2, .int .i64 7]]) (ys := [(⟨0, 7⟩ : Api_Pick), (⟨1, 7⟩ : Api_Pick), (⟨2, 7⟩ : Api_Pick)]) T hS (by kernel_rfl) (by kernel_rfl) (by kernel_rfl) (by kernel_rfl) (by exact ⟨rfl, rfl, rfl, trivial⟩) rfl (by kernel_rfl) (by kernel_rfl) (by kernel_rfl) (by kernel_rfl) ?_)
      intro b221 a w222 χ223 hE h224 hN hS
      clear hN
      replace hO := hO.mv hE rfl rfl
      replace hD := hD.ev hE rfl
      clear hE
      replace h224 := h224.rs0
      refine andH (Hold.of hS (bks := [2, 3, 4]) (by kernel_rfl) hD) ?_
      intro hH
      refine only 0 (by kernel_rfl) (by rfl) (call hS (by kernel_rfl) (by kernel_rfl) hb50 (by kernel_rfl) (fun _ _ => rfl) (k50 _ _) ?_)
      intro v225 a w226 χ227 hE hp hS
      replace hO := hO.mv hE rfl rfl
      replace hD := hD.ev hE rfl
      replace h224 := h224.mv hE rfl
      clear hE
      obtain ⟨a229, c230, hp, h231⟩ := hp
      rw [hgr0] at hp h231
      subst hp
      replace hS := hS.sel [1, 2, 3, 20, 21, 22, 23, 18] [2, 3, 4] (sy' := ⟨[(1, Pt 2 0), (2, Pt 3 0), (3, Pt 4 0), (20, V (.agg #[.int .i64 0, .int .i64 7])), (21, V (.agg #[.int .i64 1, .int .i64 7])), (22, V (.agg #[.int .i64 2, .int .i64 7])), (23, V (.slice (some ⟨b221, 0, none⟩) [(⟨0, 7⟩ : Api_Pick), (⟨1, 7⟩ : Api_Pick), (⟨2, 7⟩ : Api_Pick)].length 3)), (18, V (.agg #[.int .i64 r106.States, .int .i64 r106.Kinds, .int .i64 r106.Init, .slice a229 r106.Rows.length c230]))], [(2, (52, [I 0, I 7])), (3, (52, [I 1, I 7])), (4, (52, [I 2, I 7]))]⟩) (by kernel_rfl)
      refine andH (Hold.of hS (bks := [2, 3, 4]) (by kernel_rfl) hD) ?_
      intro hH
      refine only 1 (by kernel_rfl) (by rfl) (call hS (by kernel_rfl) (by kernel_rfl) hb51 (by kernel_rfl) (fun _ _ => rfl) (k51 _ _) ?_)
      intro v232 a w233 χ234 hE hp hS
      replace hO := hO.mv hE rfl rfl
      replace hD := hD.ev hE rfl
      replace h224 := h224.mv hE rfl
      replace h231 := h231.mv hE rfl
      clear hE
      obtain ⟨a236, c237, hp, h238⟩ := hp
      rw [hgr1] at hp h238
      subst hp
      replace hS := hS.sel [1, 2, 3, 20, 21, 22, 23, 18, 19] [2, 3, 4] (sy' := ⟨[(1, Pt 2 0), (2, Pt 3 0), (3, Pt 4 0), (20, V (.agg #[.int .i64 0, .int .i64 7])), (21, V (.agg #[.int .i64 1, .int .i64 7])), (22, V (.agg #[.int .i64 2, .int .i64 7])), (23, V (.slice (some ⟨b221, 0, none⟩) [(⟨0, 7⟩ : Api_Pick), (⟨1, 7⟩ : Api_Pick), (⟨2, 7⟩ : Api_Pick)].length 3)), (18, V (.agg #[.int .i64 r106.States, .int .i64 r106.Kinds, .int .i64 r106.Init, .slice a229 r106.Rows.length c230])), (19, V (.slice a236 r113.length c237))], [(2, (52, [I 0, I 7])), (3, (52, [I 1, I 7])), (4, (52, [I 2, I 7]))]⟩) (by kernel_rfl)
      refine andH (Hold.of hS (bks := [2, 3, 4]) (by kernel_rfl) hD) ?_
      intro hH
      exact H _ _ ⟨_, a229, c230, a236, c237, (some ⟨b221, 0, none⟩), 3, hS.sel [1, 2, 3, 18, 19, 23] [2, 3, 4] (by kernel_rfl), hO, hD, hH, h231, h238, h224⟩
theorem C26 (k19 : S19) (k25 : S25) (k27 : S27) (k28 : S28) (k29 : S29) (k49 : S49) (k50 : S50) (k51 : S51) (v : ∀ (_ : Unit), VC26 (fun r => r = law29_awake)) : S26 := by
  intro w χ     
  refine (W26 k19 k25 k27 k28 k29 k49 k50 k51 w χ     _ (v ())).mono ?_
  rintro _ _ _ _ ⟨r, rfl, h⟩
  exact h
def S30 : Prop := ∀ (w : World) (χ : Nat → Nat) (picks : List Api_Pick) (i_ : Int) (a1 : Option Addr) (c1 : Nat), RS tApi_Pick w χ a1 picks c1 → Ret Try.prog 30 #[.slice a1 picks.length c1, .int .i64 i_] xnone w χ (fun w χ' v => v = .int .i64 (ref29_Place picks i_))
theorem hb30 : hasBody Try.prog 30 = true := by kernel_rfl
/-- replevin/replevinref29.Place -/
theorem W30 (w0 : World) (χ0 : Nat → Nat) (picks : List Api_Pick) (i_ : Int) (a1 : Option Addr) (c1 : Nat) (Q : Int → Prop) (hm : VC30 picks i_ Q) (h1 : RS tApi_Pick w0 χ0 a1 picks c1) :
    Ret Try.prog 30 #[.slice a1 picks.length c1, .int .i64 i_] xnone w0 χ0 (fun w χ' v => ∃ r, Q r ∧ v = .int .i64 r) := by
  unfold VC30 at hm
  replace hm := hm (h1.sm (by kernel_rfl))
  refine enter Try.func30 rfl (vals := [.slice a1 picks.length c1, .int .i64 i_]) (by kernel_rfl) ?_
  intro ρ a hS hO hM
  replace h1 := h1.m0 hM
  clear hM
  refine regP T hS (sp := []) (ks := [0, 1]) (bs := []) (sy' := ⟨[(0, V (.slice a1 picks.length c1)), (1, I i_)], []⟩) (by kernel_rfl) ?_
  intro a hS
  refine wcut (fun a w => ∃ (ρ : Nat → Nat) (χ : Nat → Nat), VC30_J1 Q ∧ St Try.f30.ntmps ⟨[], []⟩ ρ a w χ ∧ Old w0 χ0 w χ) ?_ ?_
  · refine regP T hS (sp := []) (ks := [0, 1, 5]) (bs := []) (sy' := ⟨[(0, V (.slice a1 picks.length c1)), (1, I i_), (5, I 0)], []⟩) (by kernel_rfl) ?_
    intro a hS
    refine wblock ?_
    obtain ⟨I1, μ1, hm0, hm⟩ := hm
    refine wloop (σ := Int) (fun s a w => ∃ (ρ : Nat → Nat) (χ : Nat → Nat), I1 s ∧ St Try.f30.ntmps ⟨[(0, V (.slice a1 picks.length c1)), (1, I i_), (5, I s)], []⟩ ρ a w χ ∧ Old w0 χ0 w χ ∧ RS tApi_Pick w χ a1 picks c1) (fun s => μ1 s) (0) ?_ ?_
    · exact ⟨ρ, _, hm0, hS.sel [0, 1, 5] [] (by kernel_rfl), hO, h1⟩
    · rintro k_102 a w109 ⟨ρ, χ108, hI, hS, hO, h101⟩
      replace hm := hm k_102 hI
      clear hI hm0
      refine wseq ?_
      refine regP T hS (sp := []) (ks := [0, 1, 5, 9]) (bs := []) (sy' := ⟨[(0, V (.slice a1 picks.length c1)), (1, I i_), (5, I k_102), (9, B (decide (k_102 < ((picks.length : Nat) : Int))))], []⟩) (by kernel_rfl) ?_
      intro a hS
      refine wcond hS (b := decide (k_102 < ((picks.length : Nat) : Int))) (by kernel_rfl) (fun hb => ?_) (fun hb => ?_)
      · replace hm := hm.1 hb
        refine wskip ?_
        refine wseq ?_
        refine wblock ?_
        refine regO ?_
        refine opsP T hS 2 (sp := []) (ks := [0, 1, 5, 12, 13]) (bs := []) (sy' := ⟨[(0, V (.slice a1 picks.length c1)), (1, I i_), (5, I k_102), (12, V (.slice a1 picks.length c1)), (13, I k_102)], []⟩) (by kernel_rfl) ?_
        intro a hS
        obtain ⟨hq, hm⟩ := hm
        refine op1 (index (e := 52) (k := .i64) T hS (by kernel_rfl) (by kernel_rfl) (by kernel_rfl) (by kernel_rfl) h101 (by kernel_rfl) (by kernel_rfl) hq.1 hq.2 ?_)
        intro A103 a h104 hS
        clear hq
        refine op1 (fieldA (off := 0) (fsz := 1) (ft := 3) (TF := tI) (y := (gi picks k_102).Oper) T hS (by kernel_rfl) (by kernel_rfl) (by kernel_rfl) h104 (by kernel_rfl) (by kernel_rfl) (by kernel_rfl) (fun cs h => Api_Pick_f0 h) ?_)
        intro A105 a h106 hS
        refine op1 (load1 T hS (by kernel_rfl) (by kernel_rfl) (by kernel_rfl) h106 rfl (by kernel_rfl) ?_)
        intro v107 a hv hS
        cases hv
        refine endP T hS (sp := []) (ks := [0, 1, 5, 18]) (bs := []) (sy' := ⟨[(0, V (.slice a1 picks.length c1)), (1, I i_), (5, I k_102), (18, B (((gi picks k_102).Oper) == i_))], []⟩) (by kernel_rfl) ?_
        intro a hS
        refine wcond hS (b := (((gi picks k_102).Oper) == i_)) (by kernel_rfl) (fun hb => ?_) (fun hb => ?_)
        · replace hm := hm.1 hb
          refine regP T hS (sp := []) (ks := [4]) (bs := []) (sy' := ⟨[(4, I k_102)], []⟩) (by kernel_rfl) ?_
          intro a hS
          refine wret ?_
          exact fin T hS hO (fun c => c) rfl (r := [.int .i64 k_102]) (by kernel_rfl) (fun χ' hM hC => ⟨k_102, hm, rfl⟩)
        · replace hm := hm.2 hb
          refine wskip ?_
          refine region (endP T hS (sp := []) (ks := [0, 1, 5]) (bs := []) (sy' := ⟨[(0, V (.slice a1 picks.length c1)), (1, I i_), (5, I (IntKind.i64.wrap (k_102 + 1)))], []⟩) (by kernel_rfl) ?_)
          intro a hS
          exact ⟨IntKind.i64.wrap (k_102 + 1), ⟨ρ, _, hm.1, hS.sel [0, 1, 5] [] (by kernel_rfl), hO, h101⟩, hm.2⟩
      · replace hm := hm.2 hb
        refine wexit (by rfl) ?_
        exact ⟨ρ, _, hm, hS.sel [] [] (by kernel_rfl), hO⟩
  · rintro a w111 ⟨ρ, χ110, hm, hS, hO⟩
    unfold VC30_J1 at hm
    refine regP T hS (sp := []) (ks := [4]) (bs := []) (sy' := ⟨[(4, I (-1))], []⟩) (by kernel_rfl) ?_
    intro a hS
    refine wret ?_
    exact fin T hS hO (fun c => c) rfl (r := [.int .i64 (-1)]) (by kernel_rfl) (fun χ' hM hC => ⟨(-1), hm, rfl⟩)
theorem C30 (v : ∀ (picks : List Api_Pick) (i_ : Int), VC30 picks i_ (fun r => r = ref29_Place picks i_)) : S30 := by
  intro w χ picks i_ a1 c1   h1
  refine (W30 w χ picks i_ a1 c1   _ (v picks i_) h1).mono ?_
  rintro _ _ _ _ ⟨r, rfl, h⟩
  exact h
def S47 : Prop := ∀ (w : World) (χ : Nat → Nat) (o_ : Api_Object) (state : Int) (kind : Int) (a1 : Option Addr) (c1 : Nat), RS tApi_Row w χ a1 o_.Rows c1 → Ret Try.prog 47 #[.agg #[.int .i64 o_.States, .int .i64 o_.Kinds, .int .i64 o_.Init, .slice a1 o_.Rows.length c1], .int .i64 state, .int .i64 kind] xnone w χ (fun w χ' v => v = .tuple #[.int .i64 ((ref23_Move o_ state kind).1), .int .i64 ((ref23_Move o_ state kind).2.1), .bool ((ref23_Move o_ state kind).2.2)])
theorem hb47 : hasBody Try.prog 47 = true := by kernel_rfl
/-- replevin/replevinref23.Move -/
theorem W47 (w0 : World) (χ0 : Nat → Nat) (o_ : Api_Object) (state : Int) (kind : Int) (a1 : Option Addr) (c1 : Nat) (Q : Int × Int × Bool → Prop) (hm : VC47 o_ state kind Q) (h1 : RS tApi_Row w0 χ0 a1 o_.Rows c1) :
    Ret Try.prog 47 #[.agg #[.int .i64 o_.States, .int .i64 o_.Kinds, .int .i64 o_.Init, .slice a1 o_.Rows.length c1], .int .i64 state, .int .i64 kind] xnone w0 χ0 (fun w χ' v => ∃ r, Q r ∧ v = .tuple #[.int .i64 r.1, .int .i64 r.2.1, .bool r.2.2]) := by
  unfold VC47 at hm
  replace hm := hm (h1.sm (by kernel_rfl))
  refine enter Try.func47 rfl (vals := [.agg #[.int .i64 o_.States, .int .i64 o_.Kinds, .int .i64 o_.Init, .slice a1 o_.Rows.length c1], .int .i64 state, .int .i64 kind]) (by kernel_rfl) ?_
  intro ρ a hS hO hM
  replace h1 := h1.m0 hM
  clear hM
  refine regM T hS (sp := []) (ks := [1, 2, 3]) (bs := [4]) (sy' := ⟨[(1, I state), (2, I kind), (3, Pt 4 0)], [(4, (24, [I o_.States, I o_.Kinds, I o_.Init, V (.slice a1 o_.Rows.length c1)]))]⟩) (by kernel_rfl) ?_
  intro ρ a w133 χ134 hS hE hr
  replace hO := hO.mv hE rfl rfl
  replace h1 := h1.mv hE rfl
  clear hE hr
  refine wcut (fun a w => ∃ (ρ : Nat → Nat) (χ : Nat → Nat), VC47_J1 Q ∧ St Try.f47.ntmps ⟨[], []⟩ ρ a w χ ∧ Old w0 χ0 w χ) ?_ ?_
  · refine regP T hS (sp := []) (ks := [1, 2, 3, 9]) (bs := [4]) (sy' := ⟨[(1, I state), (2, I kind), (3, Pt 4 0), (9, I 0)], [(4, (24, [I o_.States, I o_.Kinds, I o_.Init, V (.slice a1 o_.Rows.length c1)]))]⟩) (by kernel_rfl) ?_
    intro a hS
    refine wblock ?_
    obtain ⟨I1, μ1, hm0, hm⟩ := hm
    refine wloop (σ := Int) (fun s a w => ∃ (ρ : Nat → Nat) (χ : Nat → Nat), I1 s ∧ St Try.f47.ntmps ⟨[(1, I state), (2, I kind), (3, Pt 4 0), (9, I s)], [(4, (24, [I o_.States, I o_.Kinds, I o_.Init, V (.slice a1 o_.Rows.length c1)]))]⟩ ρ a w χ ∧ Old w0 χ0 w χ ∧ RS tApi_Row w χ a1 o_.Rows c1) (fun s => μ1 s) (0) ?_ ?_
    · exact ⟨ρ, _, hm0, hS.sel [1, 2, 3, 9] [4] (by kernel_rfl), hO, h1⟩
    · rintro i_101 a w130 ⟨ρ, χ129, hI, hS, hO, h102⟩
      replace hm := hm i_101 hI
      clear hI hm0
      refine wseq ?_
      refine regP T hS (sp := []) (ks := [1, 2, 3, 9, 14]) (bs := [4]) (sy' := ⟨[(1, I state), (2, I kind), (3, Pt 4 0), (9, I i_101), (14, B (decide (i_101 < ((o_.Rows.length : Nat) : Int))))], [(4, (24, [I o_.States, I o_.Kinds, I o_.Init, V (.slice a1 o_.Rows.length c1)]))]⟩) (by kernel_rfl) ?_
      intro a hS
      refine wcond hS (b := decide (i_101 < ((o_.Rows.length : Nat) : Int))) (by kernel_rfl) (fun hb => ?_) (fun hb => ?_)
      · replace hm := hm.1 hb
        refine wskip ?_
        refine wseq ?_
        refine wblock ?_
        refine wcut (fun a w => ∃ (ρ : Nat → Nat) (χ : Nat → Nat) (x_103 : Bool), VC47_J2 o_ Q I1 μ1 i_101 x_103 ∧ St Try.f47.ntmps ⟨[(1, I state), (2, I kind), (3, Pt 4 0), (9, I i_101), (34, B x_103)], [(4, (24, [I o_.States, I o_.Kinds, I o_.Init, V (.slice a1 o_.Rows.length c1)]))]⟩ ρ a w χ ∧ Old w0 χ0 w χ ∧ RS tApi_Row w χ a1 o_.Rows c1) ?_ ?_
        · refine region ?_
          refine opsP T hS 3 (sp := []) (ks := [1, 2, 3, 9, 18, 19]) (bs := [4]) (sy' := ⟨[(1, I state), (2, I kind), (3, Pt 4 0), (9, I i_101), (18, V (.slice a1 o_.Rows.length c1)), (19, I i_101)], [(4, (24, [I o_.States, I o_.Kinds, I o_.Init, V (.slice a1 o_.Rows.length c1)]))]⟩) (by kernel_rfl) ?_
          intro a hS
          obtain ⟨hq, hm⟩ := hm
          refine op1 (index (e := 102) (k := .i64) T hS (by kernel_rfl) (by kernel_rfl) (by kernel_rfl) (by kernel_rfl) h102 (by kernel_rfl) (by kernel_rfl) hq.1 hq.2 ?_)
          intro A117 a h118 hS
          clear hq
          refine op1 (fieldA (off := 0) (fsz := 1) (ft := 3) (TF := tI) (y := (gi o_.Rows i_101).State) T hS (by kernel_rfl) (by kernel_rfl) (by kernel_rfl) h118 (by kernel_rfl) (by kernel_rfl) (by kernel_rfl) (fun cs h => Api_Row_f0 h) ?_)
          intro A119 a h120 hS
          refine op1 (load1 T hS (by kernel_rfl) (by kernel_rfl) (by kernel_rfl) h120 rfl (by kernel_rfl) ?_)
          intro v121 a hv hS
          cases hv
          refine opsP T hS 3 (sp := []) (ks := [1, 2, 3, 9, 25]) (bs := [4]) (sy' := ⟨[(1, I state), (2, I kind), (3, Pt 4 0), (9, I i_101), (25, B (((gi o_.Rows i_101).State) == state))], [(4, (24, [I o_.States, I o_.Kinds, I o_.Init, V (.slice a1 o_.Rows.length c1)]))]⟩) (by kernel_rfl) ?_
          intro a hS
          rcases Bool.eq_false_or_eq_true (((gi o_.Rows i_101).State) == state) with hb | hb
          · replace hS := hS.lit (t := 25) (by kernel_rfl) hb
            replace hm := hm.1 hb
            refine opsP T hS 3 (sp := []) (ks := [1, 2, 3, 9, 25, 26, 27, 28]) (bs := [4]) (sy' := ⟨[(1, I state), (2, I kind), (3, Pt 4 0), (9, I i_101), (25, B true), (26, Pt 4 3), (27, V (.slice a1 o_.Rows.length c1)), (28, I i_101)], [(4, (24, [I o_.States, I o_.Kinds, I o_.Init, V (.slice a1 o_.Rows.length c1)]))]⟩) (by kernel_rfl) ?_
            intro a hS
            obtain ⟨hq, hm⟩ := hm
            refine op1 (index (e := 102) (k := .i64) T hS (by kernel_rfl) (by kernel_rfl) (by kernel_rfl) (by kernel_rfl) h102 (by kernel_rfl) (by kernel_rfl) hq.1 hq.2 ?_)
            intro A122 a h123 hS
            clear hq
            refine op1 (fieldA (off := 1) (fsz := 1) (ft := 3) (TF := tI) (y := (gi o_.Rows i_101).Kind) T hS (by kernel_rfl) (by kernel_rfl) (by kernel_rfl) h123 (by kernel_rfl) (by kernel_rfl) (by kernel_rfl) (fun cs h => Api_Row_f1 h) ?_)
            intro A124 a h125 hS
            refine op1 (load1 T hS (by kernel_rfl) (by kernel_rfl) (by kernel_rfl) h125 rfl (by kernel_rfl) ?_)
            intro v126 a hv hS
            cases hv
            refine endP T hS (sp := []) (ks := [1, 2, 3, 9, 26, 27, 28, 29, 30, 31, 32, 33, 34]) (bs := [4]) (sy' := ⟨[(1, I state), (2, I kind), (3, Pt 4 0), (9, I i_101), (26, Pt 4 3), (27, V (.slice a1 o_.Rows.length c1)), (28, I i_101), (29, V (.pointer (some A122))), (30, V (.pointer (some A124))), (31, I ((gi o_.Rows i_101).Kind)), (32, I kind), (33, B (((gi o_.Rows i_101).Kind) == kind)), (34, B (((gi o_.Rows i_101).Kind) == kind))], [(4, (24, [I o_.States, I o_.Kinds, I o_.Init, V (.slice a1 o_.Rows.length c1)]))]⟩) (by kernel_rfl) ?_
            intro a hS
            exact ⟨ρ, _, (((gi o_.Rows i_101).Kind) == kind), hm, hS.sel [1, 2, 3, 9, 34] [4] (by kernel_rfl), hO, h102⟩
          · replace hS := hS.lit (t := 25) (by kernel_rfl) hb
            replace hm := hm.2 hb
            refine endP T hS (sp := []) (ks := [1, 2, 3, 9, 34]) (bs := [4]) (sy' := ⟨[(1, I state), (2, I kind), (3, Pt 4 0), (9, I i_101), (34, B false)], [(4, (24, [I o_.States, I o_.Kinds, I o_.Init, V (.slice a1 o_.Rows.length c1)]))]⟩) (by kernel_rfl) ?_
            intro a hS
            exact ⟨ρ, _, false, hm, hS.sel [1, 2, 3, 9, 34] [4] (by kernel_rfl), hO, h102⟩
        · rintro a w128 ⟨ρ, χ127, x_103, hm, hS, hO, h104⟩
          unfold VC47_J2 at hm
          refine wcond hS (b := x_103) (by kernel_rfl) (fun hb => ?_) (fun hb => ?_)
          · replace hm := hm.1 hb
            refine drawnSX [4] mixed hS ?_
            intro w105 χ106 hS hE hD hH
            replace hO := hO.mv hE rfl rfl
            replace h104 := h104.mv hE rfl
            clear hE
            refine take T [0, 2, 6, 8, 1, 7] [4] [36, 37, 42, 43] hS (by kernel_rfl) (by kernel_rfl) (by kernel_rfl) hH (listed' := #[true, true, true, false, false, false, true, true, true, false, false, false, false, false, false]) (fuel := 9) (sy' := ⟨[(36, V (.slice a1 o_.Rows.length c1)), (37, I i_101), (42, V (.slice a1 o_.Rows.length c1)), (43, I i_101)], [(4, (24, [I o_.States, I o_.Kinds, I o_.Init, V (.slice a1 o_.Rows.length c1)]))]⟩) (by kernel_rfl) (by rfl) ?_
            intro a hS
            obtain ⟨hq, hm⟩ := hm
            refine dindex (e := 102) (k := .i64) T 3 hS (by kernel_rfl) (by kernel_rfl) (by kernel_rfl) (by rfl) (by kernel_rfl) hH (by kernel_rfl) (by kernel_rfl) h104 (by kernel_rfl) (by kernel_rfl) hq.1 hq.2 ?_
            intro A107 a h108 hS
            clear hq
            have h108b := h108.here
            refine dfieldA (off := 2) (fsz := 1) (ft := 3) (TF := tI) (y := (gi o_.Rows i_101).Next) 4 T hS (by kernel_rfl) (by kernel_rfl) (by kernel_rfl) (by rfl) (by kernel_rfl) hH (by kernel_rfl) h108 (by kernel_rfl) (by kernel_rfl) (by kernel_rfl) (fun cs h => Api_Row_f2 h) ?_
            intro A109 a h110 hbl hS
            have h110b := h108b
            rw [← hbl] at h110b
            clear hbl
            refine dload1 T 5 hS (by kernel_rfl) (by kernel_rfl) (by kernel_rfl) (by rfl) (by kernel_rfl) hH (by kernel_rfl) h110 h110b rfl (by kernel_rfl) ?_
            intro v111 a hv hS
            cases hv
            refine take T [12] [4] [6, 42, 43] hS (by kernel_rfl) (by kernel_rfl) (by kernel_rfl) hH (listed' := #[true, true, true, true, true, true, true, true, true, false, false, false, true, false, false]) (fuel := 5) (sy' := ⟨[(6, I ((gi o_.Rows i_101).Next)), (42, V (.slice a1 o_.Rows.length c1)), (43, I i_101)], [(4, (24, [I o_.States, I o_.Kinds, I o_.Init, V (.slice a1 o_.Rows.length c1)]))]⟩) (by kernel_rfl) (by rfl) ?_
            intro a hS
            obtain ⟨hq, hm⟩ := hm
            refine dindex (e := 102) (k := .i64) T 9 hS (by kernel_rfl) (by kernel_rfl) (by kernel_rfl) (by rfl) (by kernel_rfl) hH (by kernel_rfl) (by kernel_rfl) h104 (by kernel_rfl) (by kernel_rfl) hq.1 hq.2 ?_
            intro A112 a h113 hS
            clear hq
            have h113b := h113.here
            refine dfieldA (off := 3) (fsz := 1) (ft := 3) (TF := tI) (y := (gi o_.Rows i_101).Result) 10 T hS (by kernel_rfl) (by kernel_rfl) (by kernel_rfl) (by rfl) (by kernel_rfl) hH (by kernel_rfl) h113 (by kernel_rfl) (by kernel_rfl) (by kernel_rfl) (fun cs h => Api_Row_f3 h) ?_
            intro A114 a h115 hbl hS
            have h115b := h113b
            rw [← hbl] at h115b
            clear hbl
            refine dload1 T 11 hS (by kernel_rfl) (by kernel_rfl) (by kernel_rfl) (by rfl) (by kernel_rfl) hH (by kernel_rfl) h115 h115b rfl (by kernel_rfl) ?_
            intro v116 a hv hS
            cases hv
            refine take T [13, 14] [4] [6, 7, 8] hS (by kernel_rfl) (by kernel_rfl) (by kernel_rfl) hH (listed' := #[true, true, true, true, true, true, true, true, true, true, true, true, true, true, true]) (fuel := 0) (sy' := ⟨[(6, I ((gi o_.Rows i_101).Next)), (7, I ((gi o_.Rows i_101).Result)), (8, B true)], [(4, (24, [I o_.States, I o_.Kinds, I o_.Init, V (.slice a1 o_.Rows.length c1)]))]⟩) (by kernel_rfl) (by rfl) ?_
            intro a hS
            refine drawnDone (by kernel_rfl) ?_
            clear hD hH
            replace hS := hS.sel [6, 7, 8] [] (sy' := ⟨[(6, I ((gi o_.Rows i_101).Next)), (7, I ((gi o_.Rows i_101).Result)), (8, B true)], []⟩) (by kernel_rfl)
            refine wret ?_
            exact fin T hS hO (fun c => c) rfl (r := [.int .i64 ((gi o_.Rows i_101).Next), .int .i64 ((gi o_.Rows i_101).Result), .bool true]) (by kernel_rfl) (fun χ' hM hC => ⟨((gi o_.Rows i_101).Next, (gi o_.Rows i_101).Result, true), hm, rfl⟩)
          · replace hm := hm.2 hb
            refine wskip ?_
            refine region (endP T hS (sp := []) (ks := [1, 2, 3, 9]) (bs := [4]) (sy' := ⟨[(1, I state), (2, I kind), (3, Pt 4 0), (9, I (IntKind.i64.wrap (i_101 + 1)))], [(4, (24, [I o_.States, I o_.Kinds, I o_.Init, V (.slice a1 o_.Rows.length c1)]))]⟩) (by kernel_rfl) ?_)
            intro a hS
            exact ⟨IntKind.i64.wrap (i_101 + 1), ⟨ρ, _, hm.1, hS.sel [1, 2, 3, 9] [4] (by kernel_rfl), hO, h104⟩, hm.2⟩
      · replace hm := hm.2 hb
        refine wexit (by rfl) ?_
        exact ⟨ρ, _, hm, hS.sel [] [] (by kernel_rfl), hO⟩
  · rintro a w132 ⟨ρ, χ131, hm, hS, hO⟩
    unfold VC47_J1 at hm
    refine regP T hS (sp := []) (ks := [6, 7, 8]) (bs := []) (sy' := ⟨[(6, I 0), (7, I 0), (8, B false)], []⟩) (by kernel_rfl) ?_
    intro a hS
    refine wret ?_
    exact fin T hS hO (fun c => c) rfl (r := [.int .i64 0, .int .i64 0, .bool false]) (by kernel_rfl) (fun χ' hM hC => ⟨(0, 0, false), hm, rfl⟩)
theorem C47 (v : ∀ (o_ : Api_Object) (state : Int) (kind : Int), VC47 o_ state kind (fun r => r = ref23_Move o_ state kind)) : S47 := by
  intro w χ o_ state kind a1 c1   h1
  refine (W47 w χ o_ state kind a1 c1   _ (v o_ state kind) h1).mono ?_
  rintro _ _ _ _ ⟨r, rfl, h⟩
  exact h
def S18 : Prop := ∀ (w : World) (χ : Nat → Nat) (o_ : Api_Object) (state : Int) (kind : Int) (result : Int) (a1 : Option Addr) (c1 : Nat), RS tApi_Row w χ a1 o_.Rows c1 → Ret Try.prog 18 #[.agg #[.int .i64 o_.States, .int .i64 o_.Kinds, .int .i64 o_.Init, .slice a1 o_.Rows.length c1], .int .i64 state, .int .i64 kind, .int .i64 result] xnone w χ (fun w χ' v => v = .tuple #[.int .i64 ((ref28_Step o_ state kind result).1), .int .i64 ((ref28_Step o_ state kind result).2)])
theorem hb18 : hasBody Try.prog 18 = true := by kernel_rfl
/-- replevin/replevinref28.Step -/
theorem W18 (k47 : S47) (w0 : World) (χ0 : Nat → Nat) (o_ : Api_Object) (state : Int) (kind : Int) (result : Int) (a1 : Option Addr) (c1 : Nat) (Q : Int × Int → Prop) (hm : VC18 o_ state kind result Q) (h1 : RS tApi_Row w0 χ0 a1 o_.Rows c1) :
    Ret Try.prog 18 #[.agg #[.int .i64 o_.States, .int .i64 o_.Kinds, .int .i64 o_.Init, .slice a1 o_.Rows.length c1], .int .i64 state, .int .i64 kind, .int .i64 result] xnone w0 χ0 (fun w χ' v => ∃ r, Q r ∧ v = .tuple #[.int .i64 r.1, .int .i64 r.2]) := by
  unfold VC18 at hm
  replace hm := hm (h1.sm (by kernel_rfl))
  refine enter Try.func18 rfl (vals := [.agg #[.int .i64 o_.States, .int .i64 o_.Kinds, .int .i64 o_.Init, .slice a1 o_.Rows.length c1], .int .i64 state, .int .i64 kind, .int .i64 result]) (by kernel_rfl) ?_
  intro ρ a hS hO hM
  replace h1 := h1.m0 hM
  clear hM
  refine regM T hS (sp := []) (ks := [1, 2, 3, 4]) (bs := [5]) (sy' := ⟨[(1, I state), (2, I kind), (3, I result), (4, Pt 5 0)], [(5, (24, [I o_.States, I o_.Kinds, I o_.Init, V (.slice a1 o_.Rows.length c1)]))]⟩) (by kernel_rfl) ?_
  intro ρ a w105 χ106 hS hE hr
  replace hO := hO.mv hE rfl rfl
  replace h1 := h1.mv hE rfl
  clear hE hr
  refine wseq ?_
  refine regP T hS (sp := [15]) (ks := [1, 2, 3, 4, 20]) (bs := [5]) (sy' := ⟨[(1, I state), (2, I kind), (3, I result), (4, Pt 5 0), (20, B ((decide (state < 0)) || (decide (state ≥ o_.States))))], [(5, (24, [I o_.States, I o_.Kinds, I o_.Init, V (.slice a1 o_.Rows.length c1)]))]⟩) (by kernel_rfl) ?_
  intro a hS
  refine wcond hS (b := ((decide (state < 0)) || (decide (state ≥ o_.States)))) (by kernel_rfl) (fun hb => ?_) (fun hb => ?_)
  · replace hm := hm.1 hb
    refine regP T hS (sp := []) (ks := [8, 9]) (bs := []) (sy' := ⟨[(8, I 0), (9, I 30)], []⟩) (by kernel_rfl) ?_
    intro a hS
    refine wret ?_
    exact fin T hS hO (fun c => c) rfl (r := [.int .i64 0, .int .i64 30]) (by kernel_rfl) (fun χ' hM hC => ⟨(0, 30), hm, rfl⟩)
  · replace hm := hm.2 hb
    refine wskip ?_
    refine regO ?_
    refine opsP T hS 3 (sp := []) (ks := [3, 22, 23, 24]) (bs := []) (sy' := ⟨[(3, I result), (22, V (.agg #[.int .i64 o_.States, .int .i64 o_.Kinds, .int .i64 o_.Init, .slice a1 o_.Rows.length c1])), (23, I state), (24, I kind)], []⟩) (by kernel_rfl) ?_
    intro a hS
    refine op1 (call hS (by kernel_rfl) (by kernel_rfl) hb47 (by kernel_rfl) (fun _ _ => rfl) (k47 _ _ o_ state kind a1 c1 h1) ?_)
    intro v101 a w102 χ103 hE hp hS
    replace hO := hO.mv hE rfl rfl
    replace h1 := h1.mv hE rfl
    clear hE
    obtain ⟨r104, hr⟩ : ∃ r, ref23_Move o_ state kind = r := ⟨_, rfl⟩
    replace hm := hm r104 hr
    rw [hr] at hp
    clear hr
    subst hp
    refine endP T hS (sp := []) (ks := [3, 10, 11, 12]) (bs := []) (sy' := ⟨[(3, I result), (10, I r104.1), (11, I r104.2.1), (12, B r104.2.2)], []⟩) (by kernel_rfl) ?_
    intro a hS
    refine wseq ?_
    refine regP T hS (sp := [31]) (ks := [10, 35]) (bs := []) (sy' := ⟨[(10, I r104.1), (35, B ((!r104.2.2) || (r104.2.1 != result)))], []⟩) (by kernel_rfl) ?_
    intro a hS
    refine wcond hS (b := ((!r104.2.2) || (r104.2.1 != result))) (by kernel_rfl) (fun hb => ?_) (fun hb => ?_)
    · replace hm := hm.1 hb
      refine regP T hS (sp := []) (ks := [8, 9]) (bs := []) (sy' := ⟨[(8, I 0), (9, I 40)], []⟩) (by kernel_rfl) ?_
      intro a hS
      refine wret ?_
      exact fin T hS hO (fun c => c) rfl (r := [.int .i64 0, .int .i64 40]) (by kernel_rfl) (fun χ' hM hC => ⟨(0, 40), hm, rfl⟩)
    · replace hm := hm.2 hb
      refine wskip ?_
      refine regP T hS (sp := []) (ks := [8, 9]) (bs := []) (sy' := ⟨[(8, I r104.1), (9, I 0)], []⟩) (by kernel_rfl) ?_
      intro a hS
      refine wret ?_
      exact fin T hS hO (fun c => c) rfl (r := [.int .i64 r104.1, .int .i64 0]) (by kernel_rfl) (fun χ' hM hC => ⟨(r104.1, 0), hm, rfl⟩)
theorem C18 (k47 : S47) (v : ∀ (o_ : Api_Object) (state : Int) (kind : Int) (result : Int), VC18 o_ state kind result (fun r => r = ref28_Step o_ state kind result)) : S18 := by
  intro w χ o_ state kind result a1 c1   h1
  refine (W18 k47 w χ o_ state kind result a1 c1   _ (v o_ state kind result) h1).mono ?_
  rintro _ _ _ _ ⟨r, rfl, h⟩
  exact h
def S43 : Prop := ∀ (w : World) (χ : Nat → Nat) (o_ : Api_Object) (a1 : Option Addr) (c1 : Nat), RS tApi_Row w χ a1 o_.Rows c1 → Ret Try.prog 43 #[.agg #[.int .i64 o_.States, .int .i64 o_.Kinds, .int .i64 o_.Init, .slice a1 o_.Rows.length c1]] xnone w χ (fun w χ' v => v = .tuple #[.int .i64 ((ref23_Check o_).1), .int .i64 ((ref23_Check o_).2)])
theorem hb43 : hasBody Try.prog 43 = true := by kernel_rfl
/-- replevin/replevinref23.Check -/
theorem W43 (w0 : World) (χ0 : Nat → Nat) (o_ : Api_Object) (a1 : Option Addr) (c1 : Nat) (Q : Int × Int → Prop) (hm : VC43 o_ Q) (h1 : RS tApi_Row w0 χ0 a1 o_.Rows c1) :
    Ret Try.prog 43 #[.agg #[.int .i64 o_.States, .int .i64 o_.Kinds, .int .i64 o_.Init, .slice a1 o_.Rows.length c1]] xnone w0 χ0 (fun w χ' v => ∃ r, Q r ∧ v = .tuple #[.int .i64 r.1, .int .i64 r.2]) := by
  unfold VC43 at hm
  replace hm := hm (h1.sm (by kernel_rfl))
  refine enter Try.func43 rfl (vals := [.agg #[.int .i64 o_.States, .int .i64 o_.Kinds, .int .i64 o_.Init, .slice a1 o_.Rows.length c1]]) (by kernel_rfl) ?_
  intro ρ a hS hO hM
  replace h1 := h1.m0 hM
  clear hM
  refine regM T hS (sp := []) (ks := [1]) (bs := [2]) (sy' := ⟨[(1, Pt 2 0)], [(2, (24, [I o_.States, I o_.Kinds, I o_.Init, V (.slice a1 o_.Rows.length c1)]))]⟩) (by kernel_rfl) ?_
  intro ρ a w134 χ135 hS hE hr
  replace hO := hO.mv hE rfl rfl
  replace h1 := h1.mv hE rfl
  clear hE hr
  refine wseq ?_
  refine regP T hS (sp := [9, 14, 19, 24, 29]) (ks := [1, 35]) (bs := [2]) (sy' := ⟨[(1, Pt 2 0), (35, B ((((((decide (o_.States < 1)) || (decide (o_.States > 32))) || (decide (o_.Kinds < 1))) || (decide (o_.Kinds > 64))) || (decide (o_.Init < 0))) || (decide (o_.Init ≥ o_.States))))], [(2, (24, [I o_.States, I o_.Kinds, I o_.Init, V (.slice a1 o_.Rows.length c1)]))]⟩) (by kernel_rfl) ?_
  intro a hS
  refine wcond hS (b := ((((((decide (o_.States < 1)) || (decide (o_.States > 32))) || (decide (o_.Kinds < 1))) || (decide (o_.Kinds > 64))) || (decide (o_.Init < 0))) || (decide (o_.Init ≥ o_.States)))) (by kernel_rfl) (fun hb => ?_) (fun hb => ?_)
  · replace hm := hm.1 hb
    refine regP T hS (sp := []) (ks := [2, 3]) (bs := []) (sy' := ⟨[(2, I (-1)), (3, I 2)], []⟩) (by kernel_rfl) ?_
    intro a hS
    refine wret ?_
    exact fin T hS hO (fun c => c) rfl (r := [.int .i64 (-1), .int .i64 2]) (by kernel_rfl) (fun χ' hM hC => ⟨((-1), 2), hm, rfl⟩)
  · replace hm := hm.2 hb
    refine wskip ?_
    refine wcut (fun a w => ∃ (ρ : Nat → Nat) (χ : Nat → Nat), VC43_J1 o_ Q ∧ St Try.f43.ntmps ⟨[(1, Pt 2 0)], [(2, (24, [I o_.States, I o_.Kinds, I o_.Init, V (.slice a1 o_.Rows.length c1)]))]⟩ ρ a w χ ∧ Old w0 χ0 w χ ∧ RS tApi_Row w χ a1 o_.Rows c1) ?_ ?_
    · refine regP T hS (sp := []) (ks := [1, 4]) (bs := [2]) (sy' := ⟨[(1, Pt 2 0), (4, I 0)], [(2, (24, [I o_.States, I o_.Kinds, I o_.Init, V (.slice a1 o_.Rows.length c1)]))]⟩) (by kernel_rfl) ?_
      intro a hS
      refine wblock ?_
      obtain ⟨I1, μ1, hm0, hm⟩ := hm
      refine wloop (σ := Int) (fun s a w => ∃ (ρ : Nat → Nat) (χ : Nat → Nat), I1 s ∧ St Try.f43.ntmps ⟨[(1, Pt 2 0), (4, I s)], [(2, (24, [I o_.States, I o_.Kinds, I o_.Init, V (.slice a1 o_.Rows.length c1)]))]⟩ ρ a w χ ∧ Old w0 χ0 w χ ∧ RS tApi_Row w χ a1 o_.Rows c1) (fun s => μ1 s) (0) ?_ ?_
      · exact ⟨ρ, _, hm0, hS.sel [1, 4] [2] (by kernel_rfl), hO, h1⟩
      · rintro i_102 a w131 ⟨ρ, χ130, hI, hS, hO, h103⟩
        replace hm := hm i_102 hI
        clear hI hm0
        refine wseq ?_
        refine regP T hS (sp := []) (ks := [1, 4, 40]) (bs := [2]) (sy' := ⟨[(1, Pt 2 0), (4, I i_102), (40, B (decide (i_102 < ((o_.Rows.length : Nat) : Int))))], [(2, (24, [I o_.States, I o_.Kinds, I o_.Init, V (.slice a1 o_.Rows.length c1)]))]⟩) (by kernel_rfl) ?_
        intro a hS
        refine wcond hS (b := decide (i_102 < ((o_.Rows.length : Nat) : Int))) (by kernel_rfl) (fun hb => ?_) (fun hb => ?_)
        · replace hm := hm.1 hb
          refine wskip ?_
          refine wseq ?_
          refine wblock ?_
          refine regO ?_
          refine opsP T hS 3 (sp := []) (ks := [1, 4, 44, 45]) (bs := [2]) (sy' := ⟨[(1, Pt 2 0), (4, I i_102), (44, V (.slice a1 o_.Rows.length c1)), (45, I i_102)], [(2, (24, [I o_.States, I o_.Kinds, I o_.Init, V (.slice a1 o_.Rows.length c1)]))]⟩) (by kernel_rfl) ?_
          intro a hS
          obtain ⟨hq, hm⟩ := hm
          refine op1 (index (e := 102) (k := .i64) T hS (by kernel_rfl) (by kernel_rfl) (by kernel_rfl) (by kernel_rfl) h103 (by kernel_rfl) (by kernel_rfl) hq.1 hq.2 ?_)
          intro A104 a h105 hS
          clear hq
          refine op1 (loadA T hS (by kernel_rfl) (by kernel_rfl) (by kernel_rfl) h105 (by kernel_rfl) (by kernel_rfl) ?_)
          intro v106 a hv hS
          subst hv
          refine endM T hS (sp := []) (ks := [1, 4, 5]) (bs := [2, 6]) (sy' := ⟨[(1, Pt 2 0), (4, I i_102), (5, Pt 6 0)], [(2, (24, [I o_.States, I o_.Kinds, I o_.Init, V (.slice a1 o_.Rows.length c1)])), (6, (102, [I ((gi o_.Rows i_102).State), I ((gi o_.Rows i_102).Kind), I ((gi o_.Rows i_102).Next), I ((gi o_.Rows i_102).Result)]))]⟩) (by kernel_rfl) ?_
          intro ρ a w128 χ129 hS hE hr
          replace hO := hO.mv hE rfl rfl
          replace h103 := h103.mv hE rfl
          clear hE hr
          refine wseq ?_
          refine regP T hS (sp := [51, 58, 63]) (ks := [1, 4, 5, 69]) (bs := [2, 6]) (sy' := ⟨[(1, Pt 2 0), (4, I i_102), (5, Pt 6 0), (69, B ((((decide (((gi o_.Rows i_102).State) < 0)) || (decide (((gi o_.Rows i_102).State) ≥ o_.States))) || (decide (((gi o_.Rows i_102).Next) < 0))) || (decide (((gi o_.Rows i_102).Next) ≥ o_.States))))], [(2, (24, [I o_.States, I o_.Kinds, I o_.Init, V (.slice a1 o_.Rows.length c1)])), (6, (102, [I ((gi o_.Rows i_102).State), I ((gi o_.Rows i_102).Kind), I ((gi o_.Rows i_102).Next), I ((gi o_.Rows i_102).Result)]))]⟩) (by kernel_rfl) ?_
          intro a hS
          refine wcond hS (b := ((((decide (((gi o_.Rows i_102).State) < 0)) || (decide (((gi o_.Rows i_102).State) ≥ o_.States))) || (decide (((gi o_.Rows i_102).Next) < 0))) || (decide (((gi o_.Rows i_102).Next) ≥ o_.States)))) (by kernel_rfl) (fun hb => ?_) (fun hb => ?_)
          · replace hm := hm.1 hb
            refine regP T hS (sp := []) (ks := [2, 3]) (bs := []) (sy' := ⟨[(2, I i_102), (3, I 30)], []⟩) (by kernel_rfl) ?_
            intro a hS
            refine wret ?_
            exact fin T hS hO (fun c => c) rfl (r := [.int .i64 i_102, .int .i64 30]) (by kernel_rfl) (fun χ' hM hC => ⟨(i_102, 30), hm, rfl⟩)
          · replace hm := hm.2 hb
            refine wskip ?_
            refine wseq ?_
            refine regP T hS (sp := [74]) (ks := [1, 4, 5, 80]) (bs := [2, 6]) (sy' := ⟨[(1, Pt 2 0), (4, I i_102), (5, Pt 6 0), (80, B ((decide (((gi o_.Rows i_102).Kind) < 0)) || (decide (((gi o_.Rows i_102).Kind) ≥ o_.Kinds))))], [(2, (24, [I o_.States, I o_.Kinds, I o_.Init, V (.slice a1 o_.Rows.length c1)])), (6, (102, [I ((gi o_.Rows i_102).State), I ((gi o_.Rows i_102).Kind), I ((gi o_.Rows i_102).Next), I ((gi o_.Rows i_102).Result)]))]⟩) (by kernel_rfl) ?_
            intro a hS
            refine wcond hS (b := ((decide (((gi o_.Rows i_102).Kind) < 0)) || (decide (((gi o_.Rows i_102).Kind) ≥ o_.Kinds)))) (by kernel_rfl) (fun hb => ?_) (fun hb => ?_)
            · replace hm := hm.1 hb
              refine regP T hS (sp := []) (ks := [2, 3]) (bs := []) (sy' := ⟨[(2, I i_102), (3, I 31)], []⟩) (by kernel_rfl) ?_
              intro a hS
              refine wret ?_
              exact fin T hS hO (fun c => c) rfl (r := [.int .i64 i_102, .int .i64 31]) (by kernel_rfl) (fun χ' hM hC => ⟨(i_102, 31), hm, rfl⟩)
            · replace hm := hm.2 hb
              refine wskip ?_
              refine wseq ?_
              refine regP T hS (sp := [85]) (ks := [1, 4, 5, 89]) (bs := [2, 6]) (sy' := ⟨[(1, Pt 2 0), (4, I i_102), (5, Pt 6 0), (89, B ((decide (((gi o_.Rows i_102).Result) < 0)) || (decide (((gi o_.Rows i_102).Result) > 1000000))))], [(2, (24, [I o_.States, I o_.Kinds, I o_.Init, V (.slice a1 o_.Rows.length c1)])), (6, (102, [I ((gi o_.Rows i_102).State), I ((gi o_.Rows i_102).Kind), I ((gi o_.Rows i_102).Next), I ((gi o_.Rows i_102).Result)]))]⟩) (by kernel_rfl) ?_
              intro a hS
              refine wcond hS (b := ((decide (((gi o_.Rows i_102).Result) < 0)) || (decide (((gi o_.Rows i_102).Result) > 1000000)))) (by kernel_rfl) (fun hb => ?_) (fun hb => ?_)
              · replace hm := hm.1 hb
                refine regP T hS (sp := []) (ks := [2, 3]) (bs := []) (sy' := ⟨[(2, I i_102), (3, I 7)], []⟩) (by kernel_rfl) ?_
                intro a hS
                refine wret ?_
                exact fin T hS hO (fun c => c) rfl (r := [.int .i64 i_102, .int .i64 7]) (by kernel_rfl) (fun χ' hM hC => ⟨(i_102, 7), hm, rfl⟩)
              · replace hm := hm.2 hb
                refine wskip ?_
                refine wcut (fun a w => ∃ (ρ : Nat → Nat) (χ : Nat → Nat) (x_107 : Bool), VC43_J2 Q I1 μ1 i_102 x_107 ∧ St Try.f43.ntmps ⟨[(1, Pt 2 0), (4, I i_102), (128, B x_107)], [(2, (24, [I o_.States, I o_.Kinds, I o_.Init, V (.slice a1 o_.Rows.length c1)]))]⟩ ρ a w χ ∧ Old w0 χ0 w χ ∧ RS tApi_Row w χ a1 o_.Rows c1) ?_ ?_
                · refine drawnX [2, 6] mixed hS ?_
                  intro w109 χ110 hS hE hD hH
                  replace hO := hO.mv hE rfl rfl
                  replace h103 := h103.mv hE rfl
                  clear hE
                  refine take T [0, 1, 2] [2, 6] [1, 4, 5, 93] hS (by kernel_rfl) (by kernel_rfl) (by kernel_rfl) hH (listed' := #[true, true, true, false, false, false, false, false, false, false, false, false, false, false, false, false, false, false, false, false, false, false, false, false, false, false, false, false, false, false, false, false, false, false, false, false, false, false]) (fuel := 35) (sy' := ⟨[(1, Pt 2 0), (4, I i_102), (5, Pt 6 0), (93, B (decide (i_102 > 0)))], [(2, (24, [I o_.States, I o_.Kinds, I o_.Init, V (.slice a1 o_.Rows.length c1)])), (6, (102, [I ((gi o_.Rows i_102).State), I ((gi o_.Rows i_102).Kind), I ((gi o_.Rows i_102).Next), I ((gi o_.Rows i_102).Result)]))]⟩) (by as_aux_lemma => kernel_rfl) (by rfl) ?_
                  intro a hS
                  rcases Bool.eq_false_or_eq_true (decide (i_102 > 0)) with hb | hb
                  · replace hS := hS.lit (t := 93) (by kernel_rfl) hb
                    replace hm := hm.1 hb
                    refine take T [3, 5, 10, 4, 6, 11] [2, 6] [1, 4, 5, 93, 94, 95, 96, 97, 101, 102] hS (by kernel_rfl) (by kernel_rfl) (by kernel_rfl) hH (listed' := #[true, true, true, true, true, true, true, false, false, false, true, true, false, false, false, false, false, false, false, false, false, false, false, false, false, false, false, false, false, false, false, false, false, false, false, false, false, false]) (fuel := 29) (sy' := ⟨[(1, Pt 2 0), (4, I i_102), (5, Pt 6 0), (93, B true), (94, Pt 2 3), (95, V (.slice a1 o_.Rows.length c1)), (96, I i_102), (97, I (IntKind.i64.wrap (i_102 - 1))), (101, Pt 6 0), (102, I ((gi o_.Rows i_102).State))], [(2, (24, [I o_.States, I o_.Kinds, I o_.Init, V (.slice a1 o_.Rows.length c1)])), (6, (102, [I ((gi o_.Rows i_102).State), I ((gi o_.Rows i_102).Kind), I ((gi o_.Rows i_102).Next), I ((gi o_.Rows i_102).Result)]))]⟩) (by as_aux_lemma => kernel_rfl) (by rfl) ?_
                    intro a hS
                    obtain ⟨hq, hm⟩ := hm
                    refine dindex (e := 102) (k := .i64) T 7 hS (by kernel_rfl) (by kernel_rfl) (by kernel_rfl) (by rfl) (by kernel_rfl) hH (by kernel_rfl) (by kernel_rfl) h103 (by kernel_rfl) (by kernel_rfl) hq.1 hq.2 ?_
                    intro A111 a h112 hS
                    clear hq
                    have h112b := h112.here
                    refine dfieldA (off := 0) (fsz := 1) (ft := 3) (TF := tI) (y := (gi o_.Rows (IntKind.i64.wrap (i_102 - 1))).State) 8 T hS (by kernel_rfl) (by kernel_rfl) (by kernel_rfl) (by rfl) (by kernel_rfl) hH (by kernel_rfl) h112 (by kernel_rfl) (by kernel_rfl) (by kernel_rfl) (fun cs h => Api_Row_f0 h) ?_
                    intro A113 a h114 hbl hS
                    have h114b := h112b
                    rw [← hbl] at h114b
                    clear hbl
                    refine dload1 T 9 hS (by kernel_rfl) (by kernel_rfl) (by kernel_rfl) (by rfl) (by kernel_rfl) hH (by kernel_rfl) h114 h114b rfl (by kernel_rfl) ?_
                    intro v115 a hv hS
                    cases hv
                    refine take T [12, 13] [2, 6] [1, 4, 5, 93, 94, 95, 96, 97, 98, 99, 100, 101, 102, 103, 104] hS (by kernel_rfl) (by kernel_rfl) (by kernel_rfl) hH (listed' := #[true, true, true, true, true, true, true, true, true, true, true, true, true, true, false, false, false, false, false, false, false, false, false, false, false, false, false, false, false, false, false, false, false, false, false, false, false, false]) (fuel := 24) (sy' := ⟨[(1, Pt 2 0), (4, I i_102), (5, Pt 6 0), (93, B true), (94, Pt 2 3), (95, V (.slice a1 o_.Rows.length c1)), (96, I i_102), (97, I (IntKind.i64.wrap (i_102 - 1))), (98, V (.pointer (some A111))), (99, V (.pointer (some A113))), (100, I ((gi o_.Rows (IntKind.i64.wrap (i_102 - 1))).State)), (101, Pt 6 0), (102, I ((gi o_.Rows i_102).State)), (103, B (decide (((gi o_.Rows (IntKind.i64.wrap (i_102 - 1))).State) > ((gi o_.Rows i_102).State)))), (104, B (decide (((gi o_.Rows (IntKind.i64.wrap (i_102 - 1))).State) > ((gi o_.Rows i_102).State))))], [(2, (24, [I o_.States, I o_.Kinds, I o_.Init, V (.slice a1 o_.Rows.length c1)])), (6, (102, [I ((gi o_.Rows i_102).State), I ((gi o_.Rows i_102).Kind), I ((gi o_.Rows i_102).Next), I ((gi o_.Rows i_102).Result)]))]⟩) (by as_aux_lemma => kernel_rfl) (by rfl) ?_
                    intro a hS
                    rcases Bool.eq_false_or_eq_true (decide (((gi o_.Rows (IntKind.i64.wrap (i_102 - 1))).State) > ((gi o_.Rows i_102).State))) with hb | hb
                    · replace hS := hS.lit (t := 104) (by kernel_rfl) hb
                      replace hm := hm.1 hb
                      refine take T [14, 16, 21, 15, 17, 22, 18, 19, 20, 23, 24, 25, 27, 32, 26, 28, 33, 29, 30, 31, 34, 35, 36, 37] [2, 6] [1, 4, 94, 95, 96, 97, 98, 99, 100, 101, 102, 103, 104, 105, 106, 107, 108, 109, 110, 111, 112, 113, 114, 115, 116, 117, 118, 119, 120, 121, 122, 123, 124, 125, 126, 127, 128] hS (by kernel_rfl) (by kernel_rfl) (by kernel_rfl) hH (listed' := #[true, true, true, true, true, true, true, true, true, true, true, true, true, true, true, true, true, true, true, true, true, true, true, true, true, true, true, true, true, true, true, true, true, true, true, true, true, true]) (fuel := 0) (sy' := ⟨[(1, Pt 2 0), (4, I i_102), (94, Pt 2 3), (95, V (.slice a1 o_.Rows.length c1)), (96, I i_102), (97, I (IntKind.i64.wrap (i_102 - 1))), (98, V (.pointer (some A111))), (99, V (.pointer (some A113))), (100, I ((gi o_.Rows (IntKind.i64.wrap (i_102 - 1))).State)), (101, Pt 6 0), (102, I ((gi o_.Rows i_102).State)), (103, B (decide (((gi o_.Rows (IntKind.i64.wrap (i_102 - 1))).State) > ((gi o_.Rows i_102).State)))), (104, B true), (105, V undef), (106, V undef), (107, V undef), (108, V undef), (109, V undef), (110, V undef), (111, V undef), (112, V undef), (113, V undef), (114, V undef), (115, V undef), (116, V undef), (117, V undef), (118, V undef), (119, V undef), (120, V undef), (121, V undef), (122, V undef), (123, V undef), (124, V undef), (125, V undef), (126, V undef), (127, B true), (128, B true)], [(2, (24, [I o_.States, I o_.Kinds, I o_.Init, V (.slice a1 o_.Rows.length c1)])), (6, (102, [I ((gi o_.Rows i_102).State), I ((gi o_.Rows i_102).Kind), I ((gi o_.Rows i_102).Next), I ((gi o_.Rows i_102).Result)]))]⟩) (by as_aux_lemma => kernel_rfl) (by rfl) ?_
                      intro a hS
                      refine drawnDone (by kernel_rfl) ?_
                      clear hD hH
                      replace hS := hS.sel [1, 4, 94, 95, 96, 97, 98, 99, 100, 101, 102, 103, 104, 127, 128] [2, 6] (sy' := ⟨[(1, Pt 2 0), (4, I i_102), (94, Pt 2 3), (95, V (.slice a1 o_.Rows.length c1)), (96, I i_102), (97, I (IntKind.i64.wrap (i_102 - 1))), (98, V (.pointer (some A111))), (99, V (.pointer (some A113))), (100, I ((gi o_.Rows (IntKind.i64.wrap (i_102 - 1))).State)), (101, Pt 6 0), (102, I ((gi o_.Rows i_102).State)), (103, B (decide (((gi o_.Rows (IntKind.i64.wrap (i_102 - 1))).State) > ((gi o_.Rows i_102).State)))), (104, B true), (127, B true), (128, B true)], [(2, (24, [I o_.States, I o_.Kinds, I o_.Init, V (.slice a1 o_.Rows.length c1)])), (6, (102, [I ((gi o_.Rows i_102).State), I ((gi o_.Rows i_102).Kind), I ((gi o_.Rows i_102).Next), I ((gi o_.Rows i_102).Result)]))]⟩) (by kernel_rfl)
                      exact ⟨ρ, _, true, hm, hS.sel [1, 4, 128] [2] (by kernel_rfl), hO, h103⟩
                    · replace hS := hS.lit (t := 104) (by kernel_rfl) hb
                      replace hm := hm.2 hb
                      refine take T [14, 16, 21, 15, 17, 22] [2, 6] [1, 4, 5, 93, 94, 95, 96, 97, 98, 99, 100, 101, 102, 103, 104, 105, 106, 107, 108, 112, 113] hS (by kernel_rfl) (by kernel_rfl) (by kernel_rfl) hH (listed' := #[true, true, true, true, true, true, true, true, true, true, true, true, true, true, true, true, true, true, false, false, false, true, true, false, false, false, false, false, false, false, false, false, false, false, false, false, false, false]) (fuel := 18) (sy' := ⟨[(1, Pt 2 0), (4, I i_102), (5, Pt 6 0), (93, B true), (94, Pt 2 3), (95, V (.slice a1 o_.Rows.length c1)), (96, I i_102), (97, I (IntKind.i64.wrap (i_102 - 1))), (98, V (.pointer (some A111))), (99, V (.pointer (some A113))), (100, I ((gi o_.Rows (IntKind.i64.wrap (i_102 - 1))).State)), (101, Pt 6 0), (102, I ((gi o_.Rows i_102).State)), (103, B (decide (((gi o_.Rows (IntKind.i64.wrap (i_102 - 1))).State) > ((gi o_.Rows i_102).State)))), (104, B false), (105, Pt 2 3), (106, V (.slice a1 o_.Rows.length c1)), (107, I i_102), (108, I (IntKind.i64.wrap (i_102 - 1))), (112, Pt 6 0), (113, I ((gi o_.Rows i_102).State))], [(2, (24, [I o_.States, I o_.Kinds, I o_.Init, V (.slice a1 o_.Rows.length c1)])), (6, (102, [I ((gi o_.Rows i_102).State), I ((gi o_.Rows i_102).Kind), I ((gi o_.Rows i_102).Next), I ((gi o_.Rows i_102).Result)]))]⟩) (by as_aux_lemma => kernel_rfl) (by rfl) ?_
                      intro a hS
                      obtain ⟨hq, hm⟩ := hm
                      refine dindex (e := 102) (k := .i64) T 18 hS (by kernel_rfl) (by kernel_rfl) (by kernel_rfl) (by rfl) (by kernel_rfl) hH (by kernel_rfl) (by kernel_rfl) h103 (by kernel_rfl) (by kernel_rfl) hq.1 hq.2 ?_
                      intro A116 a h117 hS
                      clear hq
                      have h117b := h117.here
                      refine dfieldA (off := 0) (fsz := 1) (ft := 3) (TF := tI) (y := (gi o_.Rows (IntKind.i64.wrap (i_102 - 1))).State) 19 T hS (by kernel_rfl) (by kernel_rfl) (by kernel_rfl) (by rfl) (by kernel_rfl) hH (by kernel_rfl) h117 (by kernel_rfl) (by kernel_rfl) (by kernel_rfl) (fun cs h => Api_Row_f0 h) ?_
                      intro A118 a h119 hbl hS
                      have h119b := h117b
                      rw [← hbl] at h119b
                      clear hbl
                      refine dload1 T 20 hS (by kernel_rfl) (by kernel_rfl) (by kernel_rfl) (by rfl) (by kernel_rfl) hH (by kernel_rfl) h119 h119b rfl (by kernel_rfl) ?_
                      intro v120 a hv hS
                      cases hv
                      refine take T [23, 24] [2, 6] [1, 4, 5, 93, 94, 95, 96, 97, 98, 99, 100, 101, 102, 103, 104, 105, 106, 107, 108, 109, 110, 111, 112, 113, 114, 115] hS (by kernel_rfl) (by kernel_rfl) (by kernel_rfl) hH (listed' := #[true, true, true, true, true, true, true, true, true, true, true, true, true, true, true, true, true, true, true, true, true, true, true, true, true, false, false, false, false, false, false, false, false, false, false, false, false, false]) (fuel := 13) (sy' := ⟨[(1, Pt 2 0), (4, I i_102), (5, Pt 6 0), (93, B true), (94, Pt 2 3), (95, V (.slice a1 o_.Rows.length c1)), (96, I i_102), (97, I (IntKind.i64.wrap (i_102 - 1))), (98, V (.pointer (some A111))), (99, V (.pointer (some A113))), (100, I ((gi o_.Rows (IntKind.i64.wrap (i_102 - 1))).State)), (101, Pt 6 0), (102, I ((gi o_.Rows i_102).State)), (103, B (decide (((gi o_.Rows (IntKind.i64.wrap (i_102 - 1))).State) > ((gi o_.Rows i_102).State)))), (104, B false), (105, Pt 2 3), (106, V (.slice a1 o_.Rows.length c1)), (107, I i_102), (108, I (IntKind.i64.wrap (i_102 - 1))), (109, V (.pointer (some A116))), (110, V (.pointer (some A118))), (111, I ((gi o_.Rows (IntKind.i64.wrap (i_102 - 1))).State)), (112, Pt 6 0), (113, I ((gi o_.Rows i_102).State)), (114, B (((gi o_.Rows (IntKind.i64.wrap (i_102 - 1))).State) == ((gi o_.Rows i_102).State))), (115, B (((gi o_.Rows (IntKind.i64.wrap (i_102 - 1))).State) == ((gi o_.Rows i_102).State)))], [(2, (24, [I o_.States, I o_.Kinds, I o_.Init, V (.slice a1 o_.Rows.length c1)])), (6, (102, [I ((gi o_.Rows i_102).State), I ((gi o_.Rows i_102).Kind), I ((gi o_.Rows i_102).Next), I ((gi o_.Rows i_102).Result)]))]⟩) (by as_aux_lemma => kernel_rfl) (by rfl) ?_
                      intro a hS
                      rcases Bool.eq_false_or_eq_true (((gi o_.Rows (IntKind.i64.wrap (i_102 - 1))).State) == ((gi o_.Rows i_102).State)) with hb | hb
                      · replace hS := hS.lit (t := 115) (by kernel_rfl) hb
                        replace hm := hm.1 hb
                        refine take T [25, 27, 32, 26, 28, 33] [2, 6] [1, 4, 93, 94, 95, 96, 97, 98, 99, 100, 101, 102, 103, 104, 105, 106, 107, 108, 109, 110, 111, 112, 113, 114, 115, 116, 117, 118, 119, 123, 124] hS (by kernel_rfl) (by kernel_rfl) (by kernel_rfl) hH (listed' := #[true, true, true, true, true, true, true, true, true, true, true, true, true, true, true, true, true, true, true, true, true, true, true, true, true, true, true, true, true, false, false, false, true, true, false, false, false, false]) (fuel := 7) (sy' := ⟨[(1, Pt 2 0), (4, I i_102), (93, B true), (94, Pt 2 3), (95, V (.slice a1 o_.Rows.length c1)), (96, I i_102), (97, I (IntKind.i64.wrap (i_102 - 1))), (98, V (.pointer (some A111))), (99, V (.pointer (some A113))), (100, I ((gi o_.Rows (IntKind.i64.wrap (i_102 - 1))).State)), (101, Pt 6 0), (102, I ((gi o_.Rows i_102).State)), (103, B (decide (((gi o_.Rows (IntKind.i64.wrap (i_102 - 1))).State) > ((gi o_.Rows i_102).State)))), (104, B false), (105, Pt 2 3), (106, V (.slice a1 o_.Rows.length c1)), (107, I i_102), (108, I (IntKind.i64.wrap (i_102 - 1))), (109, V (.pointer (some A116))), (110, V (.pointer (some A118))), (111, I ((gi o_.Rows (IntKind.i64.wrap (i_102 - 1))).State)), (112, Pt 6 0), (113, I ((gi o_.Rows i_102).State)), (114, B (((gi o_.Rows (IntKind.i64.wrap (i_102 - 1))).State) == ((gi o_.Rows i_102).State))), (115, B true), (116, Pt 2 3), (117, V (.slice a1 o_.Rows.length c1)), (118, I i_102), (119, I (IntKind.i64.wrap (i_102 - 1))), (123, Pt 6 1), (124, I ((gi o_.Rows i_102).Kind))], [(2, (24, [I o_.States, I o_.Kinds, I o_.Init, V (.slice a1 o_.Rows.length c1)])), (6, (102, [I ((gi o_.Rows i_102).State), I ((gi o_.Rows i_102).Kind), I ((gi o_.Rows i_102).Next), I ((gi o_.Rows i_102).Result)]))]⟩) (by as_aux_lemma => kernel_rfl) (by rfl) ?_
                        intro a hS
                        obtain ⟨hq, hm⟩ := hm
                        refine dindex (e := 102) (k := .i64) T 29 hS (by kernel_rfl) (by kernel_rfl) (by kernel_rfl) (by rfl) (by kernel_rfl) hH (by kernel_rfl) (by kernel_rfl) h103 (by kernel_rfl) (by kernel_rfl) hq.1 hq.2 ?_
                        intro A121 a h122 hS
                        clear hq
                        have h122b := h122.here
                        refine dfieldA (off := 1) (fsz := 1) (ft := 3) (TF := tI) (y := (gi o_.Rows (IntKind.i64.wrap (i_102 - 1))).Kind) 30 T hS (by kernel_rfl) (by kernel_rfl) (by kernel_rfl) (by rfl) (by kernel_rfl) hH (by kernel_rfl) h122 (by kernel_rfl) (by kernel_rfl) (by kernel_rfl) (fun cs h => Api_Row_f1 h) ?_
                        intro A123 a h124 hbl hS
                        have h124b := h122b
                        rw [← hbl] at h124b
                        clear hbl
                        refine dload1 T 31 hS (by kernel_rfl) (by kernel_rfl) (by kernel_rfl) (by rfl) (by kernel_rfl) hH (by kernel_rfl) h124 h124b rfl (by kernel_rfl) ?_
                        intro v125 a hv hS
                        cases hv
                        refine take T [34, 35, 36, 37] [2, 6] [1, 4, 94, 95, 96, 97, 98, 99, 100, 101, 102, 103, 104, 105, 106, 107, 108, 109, 110, 111, 112, 113, 114, 115, 116, 117, 118, 119, 120, 121, 122, 123, 124, 125, 126, 127, 128] hS (by kernel_rfl) (by kernel_rfl) (by kernel_rfl) hH (listed' := #[true, true, true, true, true, true, true, true, true, true, true, true, true, true, true, true, true, true, true, true, true, true, true, true, true, true, true, true, true, true, true, true, true, true, true, true, true, true]) (fuel := 0) (sy' := ⟨[(1, Pt 2 0), (4, I i_102), (94, Pt 2 3), (95, V (.slice a1 o_.Rows.length c1)), (96, I i_102), (97, I (IntKind.i64.wrap (i_102 - 1))), (98, V (.pointer (some A111))), (99, V (.pointer (some A113))), (100, I ((gi o_.Rows (IntKind.i64.wrap (i_102 - 1))).State)), (101, Pt 6 0), (102, I ((gi o_.Rows i_102).State)), (103, B (decide (((gi o_.Rows (IntKind.i64.wrap (i_102 - 1))).State) > ((gi o_.Rows i_102).State)))), (104, B false), (105, Pt 2 3), (106, V (.slice a1 o_.Rows.length c1)), (107, I i_102), (108, I (IntKind.i64.wrap (i_102 - 1))), (109, V (.pointer (some A116))), (110, V (.pointer (some A118))), (111, I ((gi o_.Rows (IntKind.i64.wrap (i_102 - 1))).State)), (112, Pt 6 0), (113, I ((gi o_.Rows i_102).State)), (114, B (((gi o_.Rows (IntKind.i64.wrap (i_102 - 1))).State) == ((gi o_.Rows i_102).State))), (115, B true), (116, Pt 2 3), (117, V (.slice a1 o_.Rows.length c1)), (118, I i_102), (119, I (IntKind.i64.wrap (i_102 - 1))), (120, V (.pointer (some A121))), (121, V (.pointer (some A123))), (122, I ((gi o_.Rows (IntKind.i64.wrap (i_102 - 1))).Kind)), (123, Pt 6 1), (124, I ((gi o_.Rows i_102).Kind)), (125, B (decide (((gi o_.Rows (IntKind.i64.wrap (i_102 - 1))).Kind) ≥ ((gi o_.Rows i_102).Kind)))), (126, B (decide (((gi o_.Rows (IntKind.i64.wrap (i_102 - 1))).Kind) ≥ ((gi o_.Rows i_102).Kind)))), (127, B (decide (((gi o_.Rows (IntKind.i64.wrap (i_102 - 1))).Kind) ≥ ((gi o_.Rows i_102).Kind)))), (128, B (decide (((gi o_.Rows (IntKind.i64.wrap (i_102 - 1))).Kind) ≥ ((gi o_.Rows i_102).Kind))))], [(2, (24, [I o_.States, I o_.Kinds, I o_.Init, V (.slice a1 o_.Rows.length c1)])), (6, (102, [I ((gi o_.Rows i_102).State), I ((gi o_.Rows i_102).Kind), I ((gi o_.Rows i_102).Next), I ((gi o_.Rows i_102).Result)]))]⟩) (by as_aux_lemma => kernel_rfl) (by rfl) ?_
                        intro a hS
                        refine drawnDone (by kernel_rfl) ?_
                        clear hD hH
                        replace hS := hS.sel [1, 4, 94, 95, 96, 97, 98, 99, 100, 101, 102, 103, 104, 105, 106, 107, 108, 109, 110, 111, 112, 113, 114, 115, 116, 117, 118, 119, 120, 121, 122, 123, 124, 125, 126, 127, 128] [2, 6] (sy' := ⟨[(1, Pt 2 0), (4, I i_102), (94, Pt 2 3), (95, V (.slice a1 o_.Rows.length c1)), (96, I i_102), (97, I (IntKind.i64.wrap (i_102 - 1))), (98, V (.pointer (some A111))), (99, V (.pointer (some A113))), (100, I ((gi o_.Rows (IntKind.i64.wrap (i_102 - 1))).State)), (101, Pt 6 0), (102, I ((gi o_.Rows i_102).State)), (103, B (decide (((gi o_.Rows (IntKind.i64.wrap (i_102 - 1))).State) > ((gi o_.Rows i_102).State)))), (104, B false), (105, Pt 2 3), (106, V (.slice a1 o_.Rows.length c1)), (107, I i_102), (108, I (IntKind.i64.wrap (i_102 - 1))), (109, V (.pointer (some A116))), (110, V (.pointer (some A118))), (111, I ((gi o_.Rows (IntKind.i64.wrap (i_102 - 1))).State)), (112, Pt 6 0), (113, I ((gi o_.Rows i_102).State)), (114, B (((gi o_.Rows (IntKind.i64.wrap (i_102 - 1))).State) == ((gi o_.Rows i_102).State))), (115, B true), (116, Pt 2 3), (117, V (.slice a1 o_.Rows.length c1)), (118, I i_102), (119, I (IntKind.i64.wrap (i_102 - 1))), (120, V (.pointer (some A121))), (121, V (.pointer (some A123))), (122, I ((gi o_.Rows (IntKind.i64.wrap (i_102 - 1))).Kind)), (123, Pt 6 1), (124, I ((gi o_.Rows i_102).Kind)), (125, B (decide (((gi o_.Rows (IntKind.i64.wrap (i_102 - 1))).Kind) ≥ ((gi o_.Rows i_102).Kind)))), (126, B (decide (((gi o_.Rows (IntKind.i64.wrap (i_102 - 1))).Kind) ≥ ((gi o_.Rows i_102).Kind)))), (127, B (decide (((gi o_.Rows (IntKind.i64.wrap (i_102 - 1))).Kind) ≥ ((gi o_.Rows i_102).Kind)))), (128, B (decide (((gi o_.Rows (IntKind.i64.wrap (i_102 - 1))).Kind) ≥ ((gi o_.Rows i_102).Kind))))], [(2, (24, [I o_.States, I o_.Kinds, I o_.Init, V (.slice a1 o_.Rows.length c1)])), (6, (102, [I ((gi o_.Rows i_102).State), I ((gi o_.Rows i_102).Kind), I ((gi o_.Rows i_102).Next), I ((gi o_.Rows i_102).Result)]))]⟩) (by kernel_rfl)
                        exact ⟨ρ, _, decide (((gi o_.Rows (IntKind.i64.wrap (i_102 - 1))).Kind) ≥ ((gi o_.Rows i_102).Kind)), hm, hS.sel [1, 4, 128] [2] (by kernel_rfl), hO, h103⟩
                      · replace hS := hS.lit (t := 115) (by kernel_rfl) hb
                        replace hm := hm.2 hb
                        refine take T [25, 27, 32, 26, 28, 33, 29, 30, 31, 34, 35, 36, 37] [2, 6] [1, 4, 94, 95, 96, 97, 98, 99, 100, 101, 102, 103, 104, 105, 106, 107, 108, 109, 110, 111, 112, 113, 114, 115, 116, 117, 118, 119, 120, 121, 122, 123, 124, 125, 126, 127, 128] hS (by kernel_rfl) (by kernel_rfl) (by kernel_rfl) hH (listed' := #[true, true, true, true, true, true, true, true, true, true, true, true, true, true, true, true, true, true, true, true, true, true, true, true, true, true, true, true, true, true, true, true, true, true, true, true, true, true]) (fuel := 0) (sy' := ⟨[(1, Pt 2 0), (4, I i_102), (94, Pt 2 3), (95, V (.slice a1 o_.Rows.length c1)), (96, I i_102), (97, I (IntKind.i64.wrap (i_102 - 1))), (98, V (.pointer (some A111))), (99, V (.pointer (some A113))), (100, I ((gi o_.Rows (IntKind.i64.wrap (i_102 - 1))).State)), (101, Pt 6 0), (102, I ((gi o_.Rows i_102).State)), (103, B (decide (((gi o_.Rows (IntKind.i64.wrap (i_102 - 1))).State) > ((gi o_.Rows i_102).State)))), (104, B false), (105, Pt 2 3), (106, V (.slice a1 o_.Rows.length c1)), (107, I i_102), (108, I (IntKind.i64.wrap (i_102 - 1))), (109, V (.pointer (some A116))), (110, V (.pointer (some A118))), (111, I ((gi o_.Rows (IntKind.i64.wrap (i_102 - 1))).State)), (112, Pt 6 0), (113, I ((gi o_.Rows i_102).State)), (114, B (((gi o_.Rows (IntKind.i64.wrap (i_102 - 1))).State) == ((gi o_.Rows i_102).State))), (115, B false), (116, V undef), (117, V undef), (118, V undef), (119, V undef), (120, V undef), (121, V undef), (122, V undef), (123, V undef), (124, V undef), (125, V undef), (126, B false), (127, B false), (128, B false)], [(2, (24, [I o_.States, I o_.Kinds, I o_.Init, V (.slice a1 o_.Rows.length c1)])), (6, (102, [I ((gi o_.Rows i_102).State), I ((gi o_.Rows i_102).Kind), I ((gi o_.Rows i_102).Next), I ((gi o_.Rows i_102).Result)]))]⟩) (by as_aux_lemma => kernel_rfl) (by rfl) ?_
                        intro a hS
                        refine drawnDone (by kernel_rfl) ?_
                        clear hD hH
                        replace hS := hS.sel [1, 4, 94, 95, 96, 97, 98, 99, 100, 101, 102, 103, 104, 105, 106, 107, 108, 109, 110, 111, 112, 113, 114, 115, 126, 127, 128] [2, 6] (sy' := ⟨[(1, Pt 2 0), (4, I i_102), (94, Pt 2 3), (95, V (.slice a1 o_.Rows.length c1)), (96, I i_102), (97, I (IntKind.i64.wrap (i_102 - 1))), (98, V (.pointer (some A111))), (99, V (.pointer (some A113))), (100, I ((gi o_.Rows (IntKind.i64.wrap (i_102 - 1))).State)), (101, Pt 6 0), (102, I ((gi o_.Rows i_102).State)), (103, B (decide (((gi o_.Rows (IntKind.i64.wrap (i_102 - 1))).State) > ((gi o_.Rows i_102).State)))), (104, B false), (105, Pt 2 3), (106, V (.slice a1 o_.Rows.length c1)), (107, I i_102), (108, I (IntKind.i64.wrap (i_102 - 1))), (109, V (.pointer (some A116))), (110, V (.pointer (some A118))), (111, I ((gi o_.Rows (IntKind.i64.wrap (i_102 - 1))).State)), (112, Pt 6 0), (113, I ((gi o_.Rows i_102).State)), (114, B (((gi o_.Rows (IntKind.i64.wrap (i_102 - 1))).State) == ((gi o_.Rows i_102).State))), (115, B false), (126, B false), (127, B false), (128, B false)], [(2, (24, [I o_.States, I o_.Kinds, I o_.Init, V (.slice a1 o_.Rows.length c1)])), (6, (102, [I ((gi o_.Rows i_102).State), I ((gi o_.Rows i_102).Kind), I ((gi o_.Rows i_102).Next), I ((gi o_.Rows i_102).Result)]))]⟩) (by kernel_rfl)
                        exact ⟨ρ, _, false, hm, hS.sel [1, 4, 128] [2] (by kernel_rfl), hO, h103⟩
                  · replace hS := hS.lit (t := 93) (by kernel_rfl) hb
                    replace hm := hm.2 hb
                    refine take T [3, 5, 10, 4, 6, 11, 7, 8, 9, 12, 13, 14, 16, 21, 15, 17, 22, 18, 19, 20, 23, 24, 25, 27, 32, 26, 28, 33, 29, 30, 31, 34, 35, 36, 37] [2, 6] [1, 4, 94, 95, 96, 97, 98, 99, 100, 101, 102, 103, 104, 105, 106, 107, 108, 109, 110, 111, 112, 113, 114, 115, 116, 117, 118, 119, 120, 121, 122, 123, 124, 125, 126, 127, 128] hS (by kernel_rfl) (by kernel_rfl) (by kernel_rfl) hH (listed' := #[true, true, true, true, true, true, true, true, true, true, true, true, true, true, true, true, true, true, true, true, true, true, true, true, true, true, true, true, true, true, true, true, true, true, true, true, true, true]) (fuel := 0) (sy' := ⟨[(1, Pt 2 0), (4, I i_102), (94, V undef), (95, V undef), (96, V undef), (97, V undef), (98, V undef), (99, V undef), (100, V undef), (101, V undef), (102, V undef), (103, V undef), (104, V undef), (105, V undef), (106, V undef), (107, V undef), (108, V undef), (109, V undef), (110, V undef), (111, V undef), (112, V undef), (113, V undef), (114, V undef), (115, V undef), (116, V undef), (117, V undef), (118, V undef), (119, V undef), (120, V undef), (121, V undef), (122, V undef), (123, V undef), (124, V undef), (125, V undef), (126, V undef), (127, V undef), (128, B false)], [(2, (24, [I o_.States, I o_.Kinds, I o_.Init, V (.slice a1 o_.Rows.length c1)])), (6, (102, [I ((gi o_.Rows i_102).State), I ((gi o_.Rows i_102).Kind), I ((gi o_.Rows i_102).Next), I ((gi o_.Rows i_102).Result)]))]⟩) (by as_aux_lemma => kernel_rfl) (by rfl) ?_
                    intro a hS
                    refine drawnDone (by kernel_rfl) ?_
                    clear hD hH
                    replace hS := hS.sel [1, 4, 128] [2] (sy' := ⟨[(1, Pt 2 0), (4, I i_102), (128, B false)], [(2, (24, [I o_.States, I o_.Kinds, I o_.Init, V (.slice a1 o_.Rows.length c1)]))]⟩) (by kernel_rfl)
                    exact ⟨ρ, _, false, hm, hS.sel [1, 4, 128] [2] (by kernel_rfl), hO, h103⟩
                · rintro a w127 ⟨ρ, χ126, x_107, hm, hS, hO, h108⟩
                  unfold VC43_J2 at hm
                  refine wcond hS (b := x_107) (by kernel_rfl) (fun hb => ?_) (fun hb => ?_)
                  · replace hm := hm.1 hb
                    refine regP T hS (sp := []) (ks := [2, 3]) (bs := []) (sy' := ⟨[(2, I i_102), (3, I 32)], []⟩) (by kernel_rfl) ?_
                    intro a hS
                    refine wret ?_
                    exact fin T hS hO (fun c => c) rfl (r := [.int .i64 i_102, .int .i64 32]) (by kernel_rfl) (fun χ' hM hC => ⟨(i_102, 32), hm, rfl⟩)
                  · replace hm := hm.2 hb
                    refine wskip ?_
                    refine region (endP T hS (sp := []) (ks := [1, 4]) (bs := [2]) (sy' := ⟨[(1, Pt 2 0), (4, I (IntKind.i64.wrap (i_102 + 1)))], [(2, (24, [I o_.States, I o_.Kinds, I o_.Init, V (.slice a1 o_.Rows.length c1)]))]⟩) (by kernel_rfl) ?_)
                    intro a hS
                    exact ⟨IntKind.i64.wrap (i_102 + 1), ⟨ρ, _, hm.1, hS.sel [1, 4] [2] (by kernel_rfl), hO, h108⟩, hm.2⟩
        · replace hm := hm.2 hb
          refine wexit (by rfl) ?_
          exact ⟨ρ, _, hm, hS.sel [1] [2] (by kernel_rfl), hO, h103⟩
    · rintro a w133 ⟨ρ, χ132, hm, hS, hO, h101⟩
      unfold VC43_J1 at hm
      refine regP T hS (sp := []) (ks := [2, 3]) (bs := []) (sy' := ⟨[(2, I ((o_.Rows.length : Nat) : Int)), (3, I 0)], []⟩) (by kernel_rfl) ?_
      intro a hS
      refine wret ?_
      exact fin T hS hO (fun c => c) rfl (r := [.int .i64 ((o_.Rows.length : Nat) : Int), .int .i64 0]) (by kernel_rfl) (fun χ' hM hC => ⟨(((o_.Rows.length : Nat) : Int), 0), hm, rfl⟩)
theorem C43 (v : ∀ (o_ : Api_Object), VC43 o_ (fun r => r = ref23_Check o_)) : S43 := by
  intro w χ o_ a1 c1   h1
  refine (W43 w χ o_ a1 c1   _ (v o_) h1).mono ?_
  rintro _ _ _ _ ⟨r, rfl, h⟩
  exact h
end Go.Proofs.Ytnhdgebboafliaa
