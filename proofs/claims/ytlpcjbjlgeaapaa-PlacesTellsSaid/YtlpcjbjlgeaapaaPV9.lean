/- Plain lemmas about the specification functions. Conditions: in each lemma. -/
import Derived.Test.YtlpcjbjlgeaapaaPV4
set_option linter.all false
namespace Go.Proofs.Ytlpcjbjlgeaapaa
open Go Go.Sv Go.Pu

theorem who_col {s : Numbering_Size} {m : List Bool} {k : Nat} (h : (sel s.Ops.toNat (fun a => pon s m a (k : Int))).length = 1) : 0 ≤ who s m s.Ops.toNat k ∧ who s m s.Ops.toNat k < s.Ops.toNat ∧ pon s m (who s m s.Ops.toNat k) k = true := by
  have := sel_one h
  have hm : who s m s.Ops.toNat k ∈ sel s.Ops.toNat (fun a => pon s m a (k : Int)) := by
    unfold who
    rw [this]
    simp
  exact sel_mem.mp hm
theorem whos_get {s : Numbering_Size} {m : List Bool} {t j : Nat} (h : j < t) : gi ((List.range t).map (who s m s.Ops.toNat)) (j : Int) = who s m s.Ops.toNat j := by
  rw [gi_nat _ _ (by simp; omega)]; simp

theorem v52 (o st : Int) (m : List Bool) : VC52 o st m (fun r => r = ref32_Order o st m) := by
  unfold VC52
  intro _
  rintro _ rfl
  unfold ref32_Order
  simp only [Bool.or_eq_true, decide_eq_true_eq, Bool.or_eq_false_iff, decide_eq_false_iff_not, bne_iff_ne, bne_eq_false_iff_eq]
  refine ⟨fun h => (order_no fun hok => ?_).symm, fun h => ?_⟩
  · have hc : ref31_Check o st = 0 := hok.1
    rw [vars_eq hc] at h
    exact h.elim (fun h => h hc) (fun h => h hok.2.1)
  · obtain ⟨hc, hl⟩ := h
    rw [vars_eq hc] at hl
    have hc' : numbering_Check ⟨o, st⟩ = 0 := hc
    obtain ⟨c0, c1, c2, c3⟩ := check0 hc
    obtain ⟨n, rfl⟩ := Int.eq_ofNat_of_zero_le c0
    have hnn : (⟨(n : Int), st⟩ : Numbering_Size).Ops.toNat = n := rfl
    refine ⟨fun out r => ∃ t : Nat, r = t ∧ t ≤ n ∧ out = (List.range t).map (who ⟨n, st⟩ m n) ∧ (∀ k : Nat, k < t → (sel n (fun a => pon ⟨n, st⟩ m a (k : Int))).length = 1) ∧ out.Nodup, fun _ r => (n - r).toNat, ⟨0, rfl, by omega, rfl, fun k hk => by omega, by simp⟩, ?_⟩
    rintro _ _ ⟨t, rfl, ht, rfl, hcols, hnd⟩
    refine ⟨fun hx => ?_, fun hx => ?_⟩
    · have hx : t < n := by omega
      refine ⟨fun r a y x => r = (List.range t).map (who ⟨n, st⟩ m n) ∧ ∃ u : Nat, x = u ∧ u ≤ n ∧ a = (sel u (fun a => pon ⟨n, st⟩ m a (t : Int))).getLastD (-1) ∧ y = (sel u (fun a => pon ⟨n, st⟩ m a (t : Int))).length, fun _ _ _ x => (n - x).toNat, ⟨rfl, 0, rfl, by omega, rfl, rfl⟩, ?_⟩
      rintro _ _ _ _ ⟨rfl, u, rfl, hu, rfl, rfl⟩
      refine ⟨fun hb => ?_, fun hb => ?_⟩
      · have hb : u < n := by omega
        rintro _ rfl
        rw [at_place hc (by omega) (by omega) (by omega) (by omega)]
        obtain ⟨e, e1, e2, e3, e4⟩ := place_eq hc' (a := (u : Int)) (k := (t : Int)) (by omega) (by dsimp only; omega) (by omega) (by dsimp only; omega)
        dsimp only at e2 e3
        have hsl := sel_le u (fun a => pon ⟨n, st⟩ m a (t : Int))
        unfold VC52_J4
        rw [wrp (n := _ - 1) (by omega) (by omega), wrp (n := (u : Int) + 1) (by omega) (by omega)]
        refine ⟨⟨by omega, by omega⟩, fun hg => ?_, fun hg => ?_⟩
        · have hg : pon ⟨n, st⟩ m u t = true := hg
          have es : sel (u + 1) (fun a => pon ⟨n, st⟩ m a (t : Int)) = sel u (fun a => pon ⟨n, st⟩ m a (t : Int)) ++ [(u : Int)] := by
            rw [sel_succ, if_pos hg]
          rw [wrp (by omega) (by omega)]
          refine ⟨⟨rfl, u + 1, by simp, by omega, by rw [es]; simp, by rw [es]; simp⟩, by dsimp only; omega⟩
        · have hg : pon ⟨n, st⟩ m u t = false := hg
          have es : sel (u + 1) (fun a => pon ⟨n, st⟩ m a (t : Int)) = sel u (fun a => pon ⟨n, st⟩ m a (t : Int)) := by
            rw [sel_succ, if_neg (by rw [hg]; decide), List.append_nil]
          refine ⟨⟨rfl, u + 1, by simp, by omega, by rw [es], by rw [es]⟩, by dsimp only; omega⟩
      · have : u = n := by omega
        subst this
        unfold VC52_J2
        simp only [bne_iff_ne, bne_eq_false_iff_eq]
        refine ⟨fun hne => (order_no fun hok => ?_).symm, fun he => ?_⟩
        · have := mat_cols hok (k := t) hx
          dsimp only at this
          rw [show ((u : Int)).toNat = u from rfl] at this
          omega
        · have hone : (sel u (fun a => pon ⟨u, st⟩ m a (t : Int))).length = 1 := by omega
          obtain ⟨w0, w1, w2⟩ := who_col (s := ⟨u, st⟩) (m := m) (k := t) hone
          rw [hnn] at w0 w1 w2
          have ewho : (sel u (fun a => pon ⟨u, st⟩ m a (t : Int))).getLastD (-1) = who ⟨u, st⟩ m u t := rfl
          rw [ewho]
          simp only [decide_eq_true_eq, decide_eq_false_iff_not]
          refine ⟨fun r x => r = (List.range t).map (who ⟨u, st⟩ m u) ∧ ∃ v : Nat, x = v ∧ v ≤ t ∧ ∀ j : Nat, j < v → who ⟨u, st⟩ m u j ≠ who ⟨u, st⟩ m u t, fun _ x => (t - x).toNat, ⟨rfl, 0, rfl, by omega, fun j hj => by omega⟩, ?_⟩
          rintro _ _ ⟨rfl, v, rfl, hv, hall⟩
          have hlen : ((List.range t).map (who ⟨u, st⟩ m u)).length = t := by simp
          rw [hlen]
          refine ⟨fun hx2 => ?_, fun hx2 => ?_⟩
          · have hx2 : v < t := by omega
            have hget := whos_get (s := ⟨u, st⟩) (m := m) hx2
            rw [hnn] at hget
            rw [hget]
            refine ⟨⟨by omega, by omega⟩, fun hf => (order_no fun hok => ?_).symm, fun hf => ?_⟩
            · rw [beq_iff_eq] at hf
              obtain ⟨v0, v1, v2⟩ := who_col (s := ⟨u, st⟩) (m := m) (k := v) (hcols v hx2)
              rw [hnn, hf] at v2
              have hrow := mat_rows hok (a := (who ⟨u, st⟩ m u t).toNat) (by rw [hnn]; omega)
              rw [hnn, show (((who ⟨u, st⟩ m u t).toNat : Nat) : Int) = who ⟨u, st⟩ m u t by omega] at hrow
              have := two_le (p := (v : Int)) (q := (t : Int)) (sel_mem (t := u) (p := pon ⟨u, st⟩ m (who ⟨u, st⟩ m u t)) |>.mpr ⟨by omega, by omega, v2⟩) (sel_mem.mpr ⟨by omega, by omega, w2⟩) (by omega)
              omega
            · rw [beq_eq_false_iff_ne] at hf
              rw [wrp (by omega) (by omega)]
              refine ⟨⟨rfl, v + 1, by simp, by omega, fun j hj => ?_⟩, by dsimp only; omega⟩
              by_cases hjv : j < v
              · exact hall j hjv
              · rw [show j = v by omega]; exact hf
          · have : v = t := by omega
            subst this
            unfold VC52_J3
            rw [wrp (by omega) (by omega)]
            refine ⟨by simp only [List.length_append, List.length_cons, List.length_nil]; omega, ⟨v + 1, by simp, by omega, ?_, ?_, ?_⟩, by dsimp only; omega⟩
            · rw [map_range_succ]
            · intro k hk
              by_cases h1 : k < v
              · exact hcols k h1
              · rw [show k = v by omega]; exact hone
            · rw [List.nodup_append]
              refine ⟨hnd, by simp, fun a ha b hb2 he2 => ?_⟩
              rw [List.mem_singleton] at hb2
              rw [List.mem_map] at ha
              obtain ⟨j, hj, rfl⟩ := ha
              rw [List.mem_range] at hj
              exact hall j hj (he2.trans hb2)
    · have : t = n := by omega
      subst this
      have hok : matOK ⟨t, st⟩ m := by
        refine mat_of2 hc' hl (by rw [hnn]; exact hcols) (fun a ha => ?_)
        rw [hnn] at ha ⊢
        apply Classical.byContradiction
        intro hgt
        match hs : sel t (pon ⟨t, st⟩ m (a : Int)), hgt with
        | [], h => simp at h
        | [x], h => simp at h
        | x :: y :: r, _ =>
          have hx := sel_mem.mp (hs ▸ List.mem_cons_self .. : x ∈ sel t (pon ⟨t, st⟩ m (a : Int)))
          have hy := sel_mem.mp (hs ▸ List.mem_cons_of_mem _ (List.mem_cons_self ..) : y ∈ sel t (pon ⟨t, st⟩ m (a : Int)))
          have hnd2 : (sel t (pon ⟨t, st⟩ m (a : Int))).Nodup := by
            unfold sel
            rw [List.nodup_iff_pairwise_ne]
            refine List.Pairwise.filter _ ?_
            rw [List.pairwise_map]
            refine List.Pairwise.imp ?_ (List.nodup_iff_pairwise_ne.mp List.nodup_range)
            intro p q hne he
            exact hne (Int.ofNat.inj he)
          rw [hs, List.nodup_cons] at hnd2
          have hxy : x ≠ y := fun he => hnd2.1 (by rw [he]; exact List.mem_cons_self ..)
          have gx : ∀ z : Int, 0 ≤ z → z < t → pon ⟨t, st⟩ m a z = true → who ⟨t, st⟩ m t z.toNat = a := by
            intro z z0 z1 hz
            have hone := sel_one (hcols z.toNat (by omega))
            rw [show ((z.toNat : Nat) : Int) = z by omega] at hone
            have hmem : (a : Int) ∈ sel t (fun a => pon ⟨t, st⟩ m a z) := sel_mem.mpr ⟨by omega, by omega, hz⟩
            rw [hone, List.mem_singleton] at hmem
            unfold who
            rw [show ((z.toNat : Nat) : Int) = z by omega]
            exact hmem.symm
          have g1 := gx x hx.1 hx.2.1 hx.2.2
          have g2 := gx y hy.1 hy.2.1 hy.2.2
          have hlen : ((List.range t).map (who ⟨t, st⟩ m t)).length = t := by simp
          have i1 := whos_get (s := ⟨t, st⟩) (m := m) (t := t) (j := x.toNat) (by omega)
          have i2 := whos_get (s := ⟨t, st⟩) (m := m) (t := t) (j := y.toNat) (by omega)
          rw [hnn] at i1 i2
          have j1 := idx_nodup hnd (i := (x.toNat : Int)) (by omega) (by omega) (i1.trans g1)
          have j2 := idx_nodup hnd (i := (y.toNat : Int)) (by omega) (by omega) (i2.trans g2)
          omega
      unfold VC52_J1 places_Order
      rw [if_pos hok]
      rfl

theorem v72 : VC72 (fun r => r = law32_two) := rfl
theorem v46 : VC46 (fun r => r = law32_awake) := by
  have e1 : places_Order ⟨2, 1⟩ [false, true, true, false, false, false, false, false, false] = ([1, 0], true) := by decide
  have e2 : places_Order ⟨2, 1⟩ [true, true, false, false, false, false, false, false, false] = ([], false) := by decide
  have e3 : places_Truths ⟨2, 1⟩ [1, 0] = ([false, true, true, false, false, false, false, false, false], true) := by decide
  have e4 : places_Truths ⟨2, 1⟩ [1, 1] = ([], false) := by decide
  have e5 : places_Clauses ⟨2, 1⟩ = [[1, 2], [(-1), (-2)], [3, 4], [(-3), (-4)], [(-1), (-3)], [(-2), (-4)]] := by decide
  have e6 : (places_Most [1, 2, 3]).length = 3 := by decide
  unfold VC46
  simp only [law32_two, forall_eq', e1, e2, e3, e4, e5, e6, ref04_SameRows, ref01_SameInts, law32_awake]
  simp [gi, preMost]

theorem v12 (s : Numbering_Size) (vars : List Int) : VC12 s vars (fun r => r = true) := by
  unfold VC12
  intro _
  refine ⟨fun _ r hr => by subst hr; rfl, fun h => ?_⟩
  simp only [Bool.or_eq_false_iff, decide_eq_false_iff_not] at h
  have hp : preMost vars := by unfold preMost; omega
  have e1 : ref32_Clauses s.Ops s.States = places_Clauses s := rfl
  have e2 : ref32_Most vars = places_Most vars := rfl
  rintro _ rfl _ _ rfl _
  rw [e1]
  simp only [ref04_SameRows, forall_eq', decide_true]
  refine ⟨fun _ => ⟨hp, ?_⟩, (fun h => by cases h)⟩
  intro _
  refine ⟨hp, ?_⟩
  intro _
  rw [e2]
  simp [law32_awake]
theorem v13 (P : Numbering_Size) (O : List Bool) (S : List Int) : VC13 P O S (fun r => r = true) := by
  unfold VC13
  intro _ _
  refine ⟨fun _ r hr => by subst hr; rfl, fun h => ?_⟩
  have e1 : ref32_Order P.Ops P.States O = places_Order P O := rfl
  have e2 : ref32_Truths P.Ops P.States S = places_Truths P S := rfl
  rintro _ rfl _ _ rfl _ _ rfl _ _ rfl _ _ rfl
  rw [e1, e2]
  simp [ref01_SameInts, ref03_SameBools, law32_awake]

theorem filt_prow (s : Numbering_Size) (m : List Bool) (a : Int) (t : Nat) : ((prow s a t).filter (fun x => gi m (x - 1))).length = (sel t (pon s m a)).length := by
  unfold prow sel
  rw [List.filter_map, List.filter_map, List.length_map, List.length_map]
  rfl
theorem filt_pcol (s : Numbering_Size) (m : List Bool) (k : Int) (t : Nat) : ((pcol s k t).filter (fun x => gi m (x - 1))).length = (sel t (fun a => pon s m a k)).length := by
  unfold pcol sel
  rw [List.filter_map, List.filter_map, List.length_map, List.length_map]
  rfl
theorem clauses_ok {s : Numbering_Size} {m : List Bool} (hc : numbering_Check s = 0) (hl : (m.length : Int) = numbering_Vars s) (v : Int) : ref04_First ⟨v, places_Clauses s⟩ m < 0 ↔ matOK s m := by
  obtain ⟨c0, c1, c2, c3⟩ := check0 hc
  have okr : ∀ a : Nat, a < s.Ops.toNat → ∀ x ∈ prow s (a : Int) s.Ops.toNat, okl m x := by
    intro a ha x hx
    unfold prow at hx
    rw [List.mem_map] at hx
    obtain ⟨k, hk, rfl⟩ := hx
    rw [List.mem_range] at hk
    obtain ⟨e, e1, e2, e3, e4⟩ := place_eq hc (a := (a : Int)) (k := (k : Int)) (by omega) (by omega) (by omega) (by omega)
    exact ⟨e1, by omega, by omega⟩
  have okc : ∀ k : Nat, k < s.Ops.toNat → ∀ x ∈ pcol s (k : Int) s.Ops.toNat, okl m x := by
    intro k hk x hx
    unfold pcol at hx
    rw [List.mem_map] at hx
    obtain ⟨a, ha, rfl⟩ := hx
    rw [List.mem_range] at ha
    obtain ⟨e, e1, e2, e3, e4⟩ := place_eq hc (a := (a : Int)) (k := (k : Int)) (by omega) (by omega) (by omega) (by omega)
    exact ⟨e1, by omega, by omega⟩
  have hP : ∀ a : Nat, a < s.Ops.toNat → ((blkP s a).all (fun c => ref02_Holds c m) = true ↔ (sel s.Ops.toNat (pon s m (a : Int))).length = 1) := by
    intro a ha
    unfold blkP
    rw [List.all_cons, Bool.and_eq_true, holds_any (okr a ha), holds_most (okr a ha), any_filter, filt_prow]
    omega
  have hC : ∀ k : Nat, k < s.Ops.toNat → ((blkC s k).all (fun c => ref02_Holds c m) = true ↔ (sel s.Ops.toNat (fun a => pon s m a (k : Int))).length ≤ 1) := by
    intro k hk
    unfold blkC
    rw [holds_most (okc k hk), filt_pcol]
  rw [first_iff]
  unfold places_Clauses
  rw [if_pos hc, List.all_append, Bool.and_eq_true, List.all_flatMap, List.all_flatMap, List.all_eq_true, List.all_eq_true]
  constructor
  · rintro ⟨h1, h2⟩
    exact mat_of hc hl (fun a ha => (hP a ha).mp (h1 a (List.mem_range.mpr ha))) (fun k hk => (hC k hk).mp (h2 k (List.mem_range.mpr hk)))
  · intro hok
    refine ⟨fun a ha => ?_, fun k hk => ?_⟩
    · rw [List.mem_range] at ha
      exact (hP a ha).mpr (mat_rows hok ha)
    · rw [List.mem_range] at hk
      exact (hC k hk).mpr (Nat.le_of_eq (mat_cols hok hk))

theorem v14 (s : Numbering_Size) (m : List Bool) : VC14 s m (fun r => r = true) := by
  unfold VC14
  have key : ∀ b, (b = false → numbering_Check s = 0 ∧ (m.length : Int) = numbering_Vars s) → VC14_J1 s m (fun r => r = true) b := by
    intro b hb
    unfold VC14_J1
    refine ⟨fun _ r hr => by subst hr; rfl, fun hbf => ?_⟩
    obtain ⟨hc, hl⟩ := hb hbf
    obtain ⟨c0, c1, c2, c3⟩ := check0 hc
    rintro _ rfl _ _ rfl _ _ rfl
    have iff := clauses_ok hc hl 0
    by_cases hok : matOK s m
    · have e : places_Order s m = ((List.range s.Ops.toNat).map (who s m s.Ops.toNat), true) := by unfold places_Order; rw [if_pos hok]
      have hd : decide (ref04_First ⟨0, places_Clauses s⟩ m < 0) = true := by rw [decide_eq_true_eq]; exact iff.mpr hok
      rw [e, hd]
      have : ((s.Ops.toNat : Nat) : Int) = s.Ops := by omega
      simp [this, law32_awake]
    · have hd : decide (ref04_First ⟨0, places_Clauses s⟩ m < 0) = false := by rw [decide_eq_false_iff_not]; exact fun h => hok (iff.mp h)
      rw [order_no hok, hd]
      simp [law32_awake]
  intro _
  refine ⟨fun _ => key _ (fun h => by cases h), fun _ r hr => ⟨fun h => key _ (fun h => by cases h), fun h r2 hr2 => ?_⟩⟩
  subst hr hr2
  refine key _ fun hb => ⟨by simpa using h, by simpa using hb⟩

theorem sel_eq {x : Int} (h0 : 0 ≤ x) : ∀ t : Nat, sel t (fun a => x == a) = if x < t then [x] else []
  | 0 => by rw [if_neg (by omega)]; rfl
  | t + 1 => by
    rw [sel_succ, sel_eq h0 t]
    by_cases hx : x = (t : Int)
    · subst hx
      rw [if_neg (by omega), if_pos (by simp), if_pos (by omega)]; rfl
    · rw [if_neg (c := (x == (t : Int)) = true) (by simpa using hx), List.append_nil]
      by_cases h2 : x < (t : Int)
      · rw [if_pos h2, if_pos (by omega)]
      · rw [if_neg h2, if_neg (by omega)]
theorem sel_congr {t : Nat} {p q : Int → Bool} (h : ∀ x : Int, 0 ≤ x → x < t → p x = q x) : sel t p = sel t q := by
  unfold sel
  apply List.filter_congr
  intro x hx
  rw [List.mem_map] at hx
  obtain ⟨y, hy, rfl⟩ := hx
  rw [List.mem_range] at hy
  exact h _ (by simp) (by simpa using hy)
theorem flats_two {f : Nat → List (List Int)} {c : Int} (h : ∀ a, 2 * ((f a).length : Int) = c) : ∀ t : Nat, 2 * (((List.range t).flatMap f).length : Int) = t * c
  | 0 => by simp
  | t + 1 => by
    have h1 := flats_two h t
    have h2 := h t
    rw [flats_succ, List.length_append, Int.natCast_add, Int.mul_add, h1, h2, Int.natCast_add, Int.add_mul]
    simp

theorem v15 (P : Numbering_Size) (O : List Int) : VC15 P O (fun r => r = true) := by
  unfold VC15
  have key : ∀ b, (b = false → numbering_Check P = 0) → VC15_J1 P O (fun r => r = true) b := by
    intro b hb
    unfold VC15_J1
    refine ⟨fun _ r hr => by subst hr; rfl, fun hbf => ?_⟩
    have hc := hb hbf
    obtain ⟨c0, c1, c2, c3⟩ := check0 hc
    rintro _ rfl _
    have hlen : ((places_Clauses P).length : Int) = IntKind.i64.wrap (P.Ops + IntKind.i64.wrap (IntKind.i64.wrap (P.Ops * P.Ops) * IntKind.i64.wrap (P.Ops - 1))) := by
      have f1 := flats_two (f := blkP P) (c := 2 + P.Ops * (P.Ops - 1)) (fun a => by
        have := most_two (prow P (a : Int) P.Ops.toNat)
        rw [prow_len, show ((P.Ops.toNat : Nat) : Int) = P.Ops by omega] at this
        unfold blkP; rw [List.length_cons, ← this]; omega) P.Ops.toNat
      have f2 := flats_two (f := blkC P) (c := P.Ops * (P.Ops - 1)) (fun a => by
        have := most_two (pcol P (a : Int) P.Ops.toNat)
        rw [pcol_len, show ((P.Ops.toNat : Nat) : Int) = P.Ops by omega] at this
        unfold blkC; exact this) P.Ops.toNat
      rw [show ((P.Ops.toNat : Nat) : Int) = P.Ops by omega] at f1 f2
      have g1 := flats_len (blkP_len (s := P) c1) P.Ops.toNat
      have g2 := flats_len (blkC_len (s := P) c1) P.Ops.toNat
      have hm := mulb c0 c1 c0 c1
      have e : P.Ops * P.Ops * (P.Ops - 1) = 2 * (((List.range P.Ops.toNat).flatMap (blkC P)).length : Int) := by rw [f2, Int.mul_assoc]
      have e2 : 2 * (((List.range P.Ops.toNat).flatMap (blkP P)).length : Int) = 2 * P.Ops + 2 * (((List.range P.Ops.toNat).flatMap (blkC P)).length : Int) := by
        rw [f1, f2, Int.mul_add]; omega
      rw [wrp (n := P.Ops * P.Ops) (by omega) (by omega), wrp (n := P.Ops - 1) (by omega) (by omega), e, wrp (n := 2 * _) (by omega) (by omega), wrp (by omega) (by omega)]
      unfold places_Clauses
      rw [if_pos hc, List.length_append]
      omega
    rw [← hlen]
    refine ⟨fun h => by simp at h, fun _ => ?_⟩
    rintro _ rfl _
    by_cases hg : goodOrder P O
    · have e : places_Truths P O = (placeBits P O O.length, true) := by unfold places_Truths; rw [if_pos hg]
      obtain ⟨_, hl, hin, hd⟩ := hg
      rw [e]
      have hm := mulb c0 c1 c0 c1
      have hv : 0 ≤ numbering_Vars P := by
        have hz := mulb (a := P.Ops) (b := P.States) c0 c1 (by omega) c3
        have hv : numbering_Vars P = P.Ops * P.Ops + P.Ops + (P.Ops * P.States + P.States) := by
          unfold numbering_Vars; rw [if_pos hc, Int.mul_add, Int.mul_comm P.States, Int.mul_one]
        rw [hv]; omega
      have hml := bits_len hv O O.length
      have hpon : ∀ a k : Int, 0 ≤ a → a < P.Ops → 0 ≤ k → k < P.Ops → pon P (placeBits P O O.length) a k = (gi O k == a) := fun a k a0 a1 k0 k1 => bits_gi hc hl a0 a1 k0 k1
      have hcol : ∀ k : Nat, k < P.Ops.toNat → sel P.Ops.toNat (fun a => pon P (placeBits P O O.length) a (k : Int)) = [gi O k] := by
        intro k hk
        have hink := hin (gi O (k : Int)) (by rw [gi_nat _ _ (by omega)]; exact List.getElem_mem _)
        rw [sel_congr (q := fun a => gi O (k : Int) == a) (fun x x0 x1 => hpon x k x0 (by omega) (by omega) (by omega)), sel_eq hink.1, if_pos (by omega)]
      have hok : matOK P (placeBits P O O.length) := by
        refine mat_of2 hc hml (fun k hk => by rw [hcol k hk]; rfl) (fun a ha => ?_)
        rw [sel_congr (q := fun k => idx O (a : Int) == k) (fun x x0 x1 => ?_)]
        · by_cases h0 : 0 ≤ idx O (a : Int)
          · rw [sel_eq h0]; split <;> simp
          · have : sel P.Ops.toNat (fun k => idx O (a : Int) == k) = [] := by
              rw [List.eq_nil_iff_forall_not_mem]
              intro x hx
              have := sel_mem.mp hx
              rw [beq_iff_eq] at this
              omega
            rw [this]; simp
        · rw [hpon a x (by omega) (by omega) x0 (by omega), Bool.eq_iff_iff, beq_iff_eq, beq_iff_eq]
          constructor
          · intro h; exact idx_nodup hd x0 (by omega) h
          · intro h
            rw [← h]
            exact (idx_spec (by omega)).2
      have hord : places_Order P (placeBits P O O.length) = (O, true) := by
        unfold places_Order
        rw [if_pos hok]
        congr 1
        apply List.ext_getElem (by simp; omega)
        intro i hi hj
        simp only [List.getElem_map, List.getElem_range]
        unfold who
        rw [hcol i (by omega)]
        rw [← gi_nat _ _ hj]; rfl
      have hfirst : decide (ref04_First ⟨0, places_Clauses P⟩ (placeBits P O O.length) < 0) = true := by
        rw [decide_eq_true_eq]; exact (clauses_ok hc hml 0).mpr hok
      refine ⟨fun h => by simp at h, fun _ => ?_⟩
      rintro _ rfl _
      rw [hord]
      simp [ref01_SameInts, law32_awake]
      exact (clauses_ok hc hml 0).mpr hok
    · have e : places_Truths P O = ([], false) := by unfold places_Truths; rw [if_neg hg]
      rw [e]
      simp [law32_awake]
  intro _
  refine ⟨fun _ => key _ (fun h => by cases h), fun h r hr => ?_⟩
  subst hr
  refine key _ fun hb => ?_
  simp only [Bool.or_eq_false_iff, decide_eq_false_iff_not, bne_eq_false_iff_eq] at hb
  exact hb.1
end Go.Proofs.Ytlpcjbjlgeaapaa
