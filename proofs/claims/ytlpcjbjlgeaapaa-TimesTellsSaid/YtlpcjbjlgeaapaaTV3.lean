/- Plain lemmas about the specification functions. Conditions: in each lemma. -/
import Derived.Test.YtlpcjbjlgeaapaaTV2
set_option linter.all false
namespace Go.Proofs.Ytlpcjbjlgeaapaa
open Go Go.Sv Go.Pu

theorem place_eq {s : Numbering_Size} {a k : Int} (hc : numbering_Check s = 0) (ha : 0 ≤ a) (ha1 : a < s.Ops) (hk : 0 ≤ k) (hk1 : k < s.Ops) :
    place_at s a k = a * s.Ops + k + 1 ∧ 1 ≤ place_at s a k ∧ place_at s a k ≤ s.Ops * s.Ops ∧ s.Ops * s.Ops ≤ numbering_Vars s ∧ numbering_Vars s ≤ 10000 := by
  obtain ⟨h0, h1, h2, h3⟩ := check0 hc
  have hm := mulb h0 h1 h0 h1
  have hn := mulb (a := a) (b := s.Ops) ha (by omega : a ≤ 64) h0 h1
  have hz := mulb (a := s.Ops) (b := s.States) h0 h1 (by omega) h3
  have hk2 : (a + 1) * s.Ops ≤ s.Ops * s.Ops := Int.mul_le_mul_of_nonneg_right (by omega) h0
  rw [Int.add_mul, Int.one_mul] at hk2
  have hv : numbering_Vars s = s.Ops * s.Ops + s.Ops + (s.Ops * s.States + s.States) := by
    unfold numbering_Vars; rw [if_pos hc, Int.mul_add, Int.mul_comm s.States, Int.mul_one]
  have e : place_at s a k = a * s.Ops + k + 1 := by
    unfold place_at numbering_Var
    rw [if_pos]
    · simp [base, wide]
    · refine ⟨hc, by simp, by simp, ha, ?_, hk, ?_⟩
      · simpa [tall] using ha1
      · simpa [wide] using hk1
  rw [e, hv]
  omega
theorem at_place {o s a k : Int} (hc : ref31_Check o s = 0) (ha : 0 ≤ a) (ha1 : a < o) (hk : 0 ≤ k) (hk1 : k < o) : ref31_At o s a k = place_at ⟨o, s⟩ a k := by
  obtain ⟨h0, h1, h2, h3⟩ := check0 hc
  obtain ⟨e, _⟩ := place_eq (s := ⟨o, s⟩) hc ha ha1 hk hk1
  have hn := mulb (a := a) (b := o) ha (by omega : a ≤ 64) h0 h1
  rw [e]
  unfold ref31_At
  dsimp only
  rw [wrp (n := a * o) (by omega) (by omega), wrp (n := a * o + k) (by omega) (by omega), wrp (by omega) (by omega)]

theorem v70 (a b : Int) (s : Numbering_Size) : VC70 a b s (fun r => r = times_Clauses_1 a b s) := by
  intro r hr; exact hr.symm
theorem v71 (o s a b : Int) : VC71 o s a b (fun r => r = ref31_At o s a b) := rfl

theorem pairCl_succ (s : Numbering_Size) (p : Int × Int) (n : Nat) : pairCl s p (n + 1) = pairCl s p n ++ (List.range n).map (pairRow s p n) := by
  unfold pairCl
  rw [List.range_succ, List.flatMap_append]; simp
theorem pairCl_le (s : Numbering_Size) (p : Int × Int) : ∀ n : Nat, n ≤ 64 → (pairCl s p n).length ≤ 64 * n
  | 0, _ => by simp [pairCl]
  | n + 1, h => by
    have := pairCl_le s p n (by omega)
    rw [pairCl_succ, List.length_append, List.length_map, List.length_range]
    omega
theorem pairAll_le {s : Numbering_Size} (h : s.Ops ≤ 64) (p : Int × Int) : (pairAll s p).length ≤ 4096 := by
  unfold pairAll
  split
  · have := pairCl_le s p s.Ops.toNat (by omega); omega
  · simp
theorem alls_le {s : Numbering_Size} (h : s.Ops ≤ 64) : ∀ l : List (Int × Int), (l.flatMap (pairAll s)).length ≤ 4096 * l.length
  | [] => by simp
  | p :: l => by
    have h1 := alls_le h l
    have h2 := pairAll_le h p
    rw [List.flatMap_cons, List.length_append, List.length_cons]
    omega
theorem take_all {s : Numbering_Size} {l : List (Int × Int)} {t : Nat} (h : t < l.length) : (l.take (t + 1)).flatMap (pairAll s) = (l.take t).flatMap (pairAll s) ++ pairAll s (gi l t) := by
  rw [List.take_succ_eq_append_getElem h, List.flatMap_append, gi_nat _ _ h]; simp
theorem range_succ_map {α : Type} (f : Nat → α) (n : Nat) : (List.range (n + 1)).map f = (List.range n).map f ++ [f n] := by
  rw [List.range_succ, List.map_append]; rfl

theorem v42 (s : Numbering_Size) (pairs : List (Int × Int)) (h : preCl s pairs) : VC42 s pairs (fun r => r = times_Clauses s pairs) := by
  have hp : pairs.length ≤ 1000 := h
  unfold VC42
  intro _ r hr
  subst hr
  simp only [bne_iff_ne, bne_eq_false_iff_eq]
  refine ⟨fun h => ?_, fun hc => ?_⟩
  · unfold times_Clauses; rw [if_neg h]
  · obtain ⟨h0, h1, h2, h3⟩ := check0 hc
    simp only [decide_eq_true_eq, decide_eq_false_iff_not]
    refine ⟨fun out x => ∃ t : Nat, x = t ∧ t ≤ pairs.length ∧ out = (pairs.take t).flatMap (pairAll s), fun _ x => (pairs.length - x).toNat, ⟨0, rfl, by omega, by simp⟩, ?_⟩
    rintro _ _ ⟨t, rfl, ht, rfl⟩
    have hl := alls_le (s := s) h1 (pairs.take t)
    rw [List.length_take, Nat.min_eq_left ht] at hl
    refine ⟨fun hx => ⟨⟨by omega, hx⟩, fun r hr => ?_⟩, fun hx => ?_⟩
    · subst hr
      have hx : t < pairs.length := by omega
      refine ⟨fun hf => ?_, fun hf => ?_⟩
      · unfold VC42_J2
        rw [wrp (by omega) (by omega)]
        refine ⟨⟨t + 1, by simp, by omega, ?_⟩, by dsimp only; omega⟩
        have hf : times_proper (gi pairs t) s.Ops = false := by simpa using hf
        rw [take_all hx, pairAll, if_neg (by rw [hf]; decide), List.append_nil]
      · have hf : times_proper (gi pairs t) s.Ops = true := by simpa using hf
        refine ⟨fun out a => ∃ u : Nat, a = u ∧ (u : Int) ≤ s.Ops ∧ out = (pairs.take t).flatMap (pairAll s) ++ pairCl s (gi pairs t) u, fun _ a => (s.Ops - a).toNat, ⟨0, rfl, by omega, by simp [pairCl]⟩, ?_⟩
        rintro _ _ ⟨u, rfl, hu, rfl⟩
        have hcl := pairCl_le s (gi pairs t) u (by omega)
        refine ⟨fun ha => ?_, fun ha => ?_⟩
        · refine ⟨fun out b => ∃ v : Nat, b = v ∧ v ≤ u ∧ out = (pairs.take t).flatMap (pairAll s) ++ (pairCl s (gi pairs t) u ++ (List.range v).map (pairRow s (gi pairs t) u)), fun _ b => (u - b).toNat, ⟨0, rfl, by omega, by simp⟩, ?_⟩
          rintro _ _ ⟨v, rfl, hv, rfl⟩
          refine ⟨fun hb => ?_, fun hb => ?_⟩
          · rintro _ rfl _ rfl
            rw [wrp (n := (v : Int) + 1) (by omega) (by omega)]
            refine ⟨?_, ⟨v + 1, by simp, by omega, ?_⟩, by dsimp only; omega⟩
            · simp only [List.length_append, List.length_map, List.length_range, List.length_cons, List.length_nil]; omega
            · rw [range_succ_map]; simp [pairRow, times_Clauses_1, negw]
          · have : v = u := by omega
            subst this
            unfold VC42_J3
            rw [wrp (by omega) (by omega)]
            refine ⟨⟨v + 1, by simp, by omega, ?_⟩, by dsimp only; omega⟩
            rw [pairCl_succ]
        · have : u = s.Ops.toNat := by omega
          subst this
          unfold VC42_J2
          rw [wrp (by omega) (by omega)]
          refine ⟨⟨t + 1, by simp, by omega, ?_⟩, by dsimp only; omega⟩
          rw [take_all hx, pairAll, if_pos hf]
    · have : t = pairs.length := by omega
      subst this
      unfold VC42_J1 times_Clauses
      rw [if_pos hc, List.take_length]

theorem v43 (o s : Int) (pairs : List (Int × Int)) (h : preClR o s pairs) : VC43 o s pairs (fun r => r = ref33_Clauses o s pairs) := by
  have hp : pairs.length ≤ 1000 := h
  unfold VC43
  intro _
  simp only [decide_eq_true_eq, decide_eq_false_iff_not]
  unfold ref33_Clauses
  refine ⟨fun out x => ∃ t : Nat, x = t ∧ t ≤ pairs.length ∧ out = (pairs.take t).flatMap (pairAll ⟨o, s⟩) ∧ (t = 0 ∨ ref31_Check o s = 0), fun _ x => (pairs.length - x).toNat, ⟨0, rfl, by omega, by simp, Or.inl rfl⟩, ?_⟩
  rintro _ _ ⟨t, rfl, ht, rfl, hor⟩
  refine ⟨fun hx => ?_, fun hx => ?_⟩
  · rintro r rfl
    unfold VC43_J2
    refine ⟨fun hc => ⟨⟨by omega, hx⟩, ⟨by omega, hx⟩, ?_⟩, fun hc => ?_⟩
    · have hc : ref31_Check o s = 0 := by simpa using hc
      have hc' : numbering_Check ⟨o, s⟩ = 0 := hc
      obtain ⟨h0, h1, h2, h3⟩ := check0 hc
      have hl := alls_le (s := ⟨o, s⟩) h1 (pairs.take t)
      rw [List.length_take, Nat.min_eq_left ht] at hl
      have hx : t < pairs.length := by omega
      refine ⟨fun hf => ?_, fun hf => ?_⟩
      · unfold VC43_J3
        rw [wrp (by omega) (by omega)]
        refine ⟨⟨t + 1, by simp, by omega, ?_, Or.inr hc⟩, by dsimp only; omega⟩
        simp only [Bool.or_eq_true, decide_eq_true_eq, beq_iff_eq] at hf
        have hf : times_proper (gi pairs t) o = false := by
          unfold times_proper
          rw [decide_eq_false_iff_not]
          omega
        rw [take_all hx, pairAll, if_neg (by dsimp only; rw [hf]; decide), List.append_nil]
      · simp only [Bool.or_eq_false_iff, decide_eq_false_iff_not, beq_eq_false_iff_ne] at hf
        have hf' : times_proper (gi pairs t) o = true := by
          unfold times_proper
          rw [decide_eq_true_eq]
          omega
        simp only [decide_eq_true_eq, decide_eq_false_iff_not]
        refine ⟨fun out a => ∃ u : Nat, a = u ∧ (u : Int) ≤ o ∧ out = (pairs.take t).flatMap (pairAll ⟨o, s⟩) ++ pairCl ⟨o, s⟩ (gi pairs t) u, fun _ a => (o - a).toNat, ⟨0, rfl, by omega, by simp [pairCl]⟩, ?_⟩
        rintro _ _ ⟨u, rfl, hu, rfl⟩
        have hcl := pairCl_le ⟨o, s⟩ (gi pairs t) u (by omega)
        refine ⟨fun ha => ?_, fun ha => ?_⟩
        · refine ⟨fun out b => ∃ v : Nat, b = v ∧ v ≤ u ∧ out = (pairs.take t).flatMap (pairAll ⟨o, s⟩) ++ (pairCl ⟨o, s⟩ (gi pairs t) u ++ (List.range v).map (pairRow ⟨o, s⟩ (gi pairs t) u)), fun _ b => (u - b).toNat, ⟨0, rfl, by omega, by simp⟩, ?_⟩
          rintro _ _ ⟨v, rfl, hv, rfl⟩
          refine ⟨fun hb => ?_, fun hb => ?_⟩
          · rintro _ rfl _ rfl
            rw [wrp (n := (v : Int) + 1) (by omega) (by omega)]
            refine ⟨?_, ⟨v + 1, by simp, by omega, ?_⟩, by dsimp only; omega⟩
            · simp only [List.length_append, List.length_map, List.length_range, List.length_cons, List.length_nil]; omega
            · rw [at_place hc (by omega) (by omega) (by omega) (by omega), at_place hc (by omega) (by omega) (by omega) (by omega), range_succ_map]; simp [pairRow, negw]
          · have : v = u := by omega
            subst this
            unfold VC43_J4
            rw [wrp (by omega) (by omega)]
            refine ⟨⟨v + 1, by simp, by omega, ?_⟩, by dsimp only; omega⟩
            rw [pairCl_succ]
        · have : u = o.toNat := by omega
          subst this
          unfold VC43_J3
          rw [wrp (by omega) (by omega)]
          refine ⟨⟨t + 1, by simp, by omega, ?_, Or.inr hc⟩, by dsimp only; omega⟩
          rw [take_all hx, pairAll, if_pos hf']
    · have hc : ¬ ref31_Check o s = 0 := by simpa using hc
      have ht0 : t = 0 := by rcases hor with h | h; exact h; exact absurd h hc
      subst ht0
      unfold VC43_J1 times_Clauses
      rw [if_neg (show ¬ numbering_Check ⟨o, s⟩ = 0 from hc)]
      simp
  · have : t = pairs.length := by omega
    subst this
    unfold VC43_J2
    refine ⟨(fun h => by cases h), fun _ => ?_⟩
    unfold VC43_J1 times_Clauses
    rw [List.take_length]
    split
    · rfl
    · rename_i hc
      rcases hor with h | h
      · rw [List.length_eq_zero_iff] at h; rw [h]; rfl
      · exact absurd h hc

theorem divmod {a k n : Nat} (hk : k < n) : (a * n + k) / n = a ∧ (a * n + k) % n = k := by
  refine ⟨?_, ?_⟩
  · rw [Nat.mul_comm, Nat.mul_add_div (by omega), Nat.div_eq_of_lt hk]; omega
  · rw [Nat.mul_comm, Nat.mul_add_mod, Nat.mod_eq_of_lt hk]

theorem bits_set {s : Numbering_Size} {order : List Int} {t : Nat} {a : Int} (hc : numbering_Check s = 0) (ht : (t : Int) < s.Ops) (ha : gi order t = a) (h0 : 0 ≤ a) (h1 : a < s.Ops) :
    (placeBits s order t).set (place_at s a t - 1).toNat true = placeBits s order (t + 1) := by
  obtain ⟨e, e1, e2, e3, e4⟩ := place_eq hc h0 h1 (k := (t : Int)) (by omega) ht
  obtain ⟨c0, c1, c2, c3⟩ := check0 hc
  obtain ⟨n, hn⟩ := Int.eq_ofNat_of_zero_le c0
  obtain ⟨x, hx⟩ := Int.eq_ofNat_of_zero_le h0
  have hnn : s.Ops.toNat = n := by omega
  have epos : (place_at s a t - 1).toNat = x * n + t := by
    rw [e, hn, hx]
    have : ((x * n : Nat) : Int) = (x : Int) * n := Int.natCast_mul x n
    omega
  rw [epos]
  unfold placeBits
  apply List.ext_getElem (by simp)
  intro i hi hj
  simp only [List.getElem_set, List.getElem_map, List.getElem_range]
  have hm : x * n + t < n * n := by
    have : (x + 1) * n ≤ n * n := Nat.mul_le_mul_right n (by omega)
    rw [Nat.add_mul, Nat.one_mul] at this
    omega
  obtain ⟨d1, d2⟩ := divmod (a := x) (k := t) (n := n) (by omega)
  unfold bitOf
  rw [hnn]
  split
  · rename_i hi2
    subst hi2
    rw [d1, d2, ha, hx]
    simp [hm]
  · rename_i hi2
    rw [Bool.eq_iff_iff]
    simp only [Bool.and_eq_true, decide_eq_true_eq, beq_iff_eq]
    constructor
    · rintro ⟨⟨h2, h3⟩, h4⟩; exact ⟨⟨h2, by omega⟩, h4⟩
    · rintro ⟨⟨h2, h3⟩, h4⟩
      refine ⟨⟨h2, ?_⟩, h4⟩
      by_cases h5 : i % n = t
      · exfalso
        rw [h5, ha, hx] at h4
        apply hi2
        have := Nat.div_add_mod i n
        have h6 : i / n = x := by omega
        rw [h6, h5, Nat.mul_comm] at this
        omega
      · omega

theorem v45 (s : Numbering_Size) (order : List Int) : VC45 s order (fun r => r = places_Truths s order) := by
  unfold VC45
  intro _ r hr
  subst hr
  simp only [Bool.or_eq_true, decide_eq_true_eq, Bool.or_eq_false_iff, decide_eq_false_iff_not, bne_iff_ne, bne_eq_false_iff_eq]
  refine ⟨fun h => ?_, fun h => ?_⟩
  · unfold places_Truths
    rw [if_neg]
    rintro ⟨hc, hl, _⟩
    exact h.elim (fun h => h hc) (fun h => h hl)
  · obtain ⟨hc, hl⟩ := h
    obtain ⟨c0, c1, c2, c3⟩ := check0 hc
    rintro _ rfl
    have hv : 0 ≤ numbering_Vars s ∧ numbering_Vars s ≤ 10000 ∧ s.Ops * s.Ops ≤ numbering_Vars s := by
      have hm := mulb c0 c1 c0 c1
      have hz := mulb (a := s.Ops) (b := s.States) c0 c1 (by omega) c3
      have hv : numbering_Vars s = s.Ops * s.Ops + s.Ops + (s.Ops * s.States + s.States) := by
        unfold numbering_Vars; rw [if_pos hc, Int.mul_add, Int.mul_comm s.States, Int.mul_one]
      rw [hv]; omega
    have hlen : ∀ t, ((placeBits s order t).length : Int) = numbering_Vars s := fun t => by unfold placeBits; simp; omega
    refine ⟨by omega, fun m x => ∃ t : Nat, x = t ∧ t ≤ order.length ∧ m = placeBits s order t ∧ (∀ a ∈ order.take t, 0 ≤ a ∧ a < s.Ops) ∧ (order.take t).Nodup, fun _ x => (order.length - x).toNat, ⟨0, rfl, by omega, ?_, by simp, by simp⟩, ?_⟩
    · unfold placeBits bitOf
      apply List.ext_getElem (by simp)
      intro i hi hj
      simp
    rintro _ _ ⟨t, rfl, ht, rfl, hin, hnd⟩
    refine ⟨fun hx => ⟨⟨by omega, hx⟩, fun hb => ?_, fun hb => ⟨⟨by omega, by omega⟩, ?_⟩⟩, fun hx => ?_⟩
    · unfold VC45_J2
      refine ⟨fun _ => ?_, (fun h => by cases h)⟩
      unfold places_Truths
      rw [if_neg]
      rintro ⟨_, _, hall, _⟩
      have := hall (gi order t) (by rw [gi_nat _ _ (by omega)]; exact List.getElem_mem _)
      omega
    · have hx : t < order.length := by omega
      rintro _ rfl
      rw [show ((t : Int)).toNat = t from rfl]
      have etk : order.take (t + 1) = order.take t ++ [gi order t] := by rw [List.take_succ_eq_append_getElem hx, gi_nat _ _ hx]
      unfold VC45_J2 slices_Contains_int_int
      rw [decide_eq_true_eq, decide_eq_false_iff_not]
      refine ⟨fun hm => ?_, fun hm => ?_⟩
      · unfold places_Truths
        rw [if_neg]
        rintro ⟨_, _, _, hd⟩
        have hd2 : (order.take (t + 1)).Nodup := hd.sublist (List.take_sublist _ _)
        rw [etk, List.nodup_append] at hd2
        exact hd2.2.2 _ hm _ (List.mem_singleton_self _) rfl
      · rintro _ rfl
        obtain ⟨e, e1, e2, e3, e4⟩ := place_eq hc (a := gi order t) (by omega) (by omega) (k := (t : Int)) (by omega) (by omega)
        have ew : numbering_Var s ⟨1, gi order t, t⟩ = place_at s (gi order t) t := rfl
        rw [ew, wrp (n := place_at s (gi order t) t - 1) (by omega) (by omega), wrp (by omega) (by omega)]
        have hl2 := hlen t
        refine ⟨⟨by omega, by omega⟩, ⟨t + 1, by simp, by omega, bits_set hc (by omega) rfl (by omega) (by omega), ?_, ?_⟩, by dsimp only; omega⟩
        · intro a hma
          rw [etk, List.mem_append, List.mem_singleton] at hma
          rcases hma with hma | hma
          · exact hin a hma
          · rw [hma]; omega
        · rw [etk, List.nodup_append]
          refine ⟨hnd, by simp, ?_⟩
          intro a hma b hmb he
          rw [List.mem_singleton] at hmb
          rw [he, hmb] at hma
          exact hm hma
    · have : t = order.length := by omega
      subst this
      rw [List.take_length] at hin hnd
      unfold VC45_J1 places_Truths
      rw [if_pos ⟨hc, hl, hin, hnd⟩]

theorem v37 : VC37 (fun r => r = law33_awake) := by
  have e1 : times_Clauses ⟨2, 1⟩ [(0, 1)] = [[-2, -3]] := by decide
  have e2 : times_Against [1, 0] [(0, 1)] = (0, false) := by decide
  have e3 : times_Against [0, 1] [(0, 1)] = (1, true) := by decide
  have e4 : times_Sort 3 [(2, 0)] = ([1, 2, 0], true) := by decide
  have e5 : times_Sort 2 [(0, 1), (1, 0)] = ([], false) := by decide
  unfold VC37
  simp only [e1, e2, e3, e4, e5, forall_eq', ref04_SameRows, ref01_SameInts, law33_awake]
  simp
  show [((0 : Int), (1 : Int))].length ≤ 1000
  decide

theorem v9 (P : Numbering_Size) (O : List (Int × Int)) (S : List Int) : VC9 P O S (fun r => r = true) := by
  unfold VC9
  intro _ _
  refine ⟨fun _ r hr => by subst hr; rfl, fun h => ?_⟩
  have e1 : ref33_Against S O = times_Against S O := rfl
  have e2 : ref33_Sort P.Ops O = times_Sort P.Ops O := rfl
  have e3 : ref33_Clauses P.Ops P.States O = times_Clauses P O := rfl
  simp only [Bool.or_eq_false_iff, decide_eq_false_iff_not] at h
  have hp : O.length ≤ 1000 := by omega
  have hp1 : preCl P O := hp
  have hp2 : preClR P.Ops P.States O := hp
  rintro _ rfl _ rfl _ rfl _ _ rfl _
  refine ⟨hp1, ?_⟩
  rintro _ rfl _
  refine ⟨hp2, ?_⟩
  rintro _ rfl _ _ rfl
  rw [e1, e2, e3]
  simp only [forall_eq', ref04_SameRows, ref01_SameInts, law33_awake]
  simp
end Go.Proofs.Ytlpcjbjlgeaapaa
