/- Plain lemmas about the specification functions. Conditions: in each lemma. -/
import Derived.Test.YtlpcjbjlgeaapaaPV2
set_option linter.all false
namespace Go.Proofs.Ytlpcjbjlgeaapaa
open Go Go.Sv Go.Pu

theorem idx_min {l : List Int} {v j : Int} (j0 : 0 ≤ j) (h : j < idx l v) : gi l j ≠ v := by
  unfold idx at h
  cases hf : l.findIdx? (fun x => x == v) with
  | none => rw [hf] at h; dsimp only at h; omega
  | some i =>
    rw [hf] at h
    rw [List.findIdx?_eq_some_iff_getElem] at hf
    obtain ⟨hi, _, hlt⟩ := hf
    dsimp only at h
    have := hlt j.toNat (by omega)
    rw [gi_cast j0 (by omega)]
    simpa using this
theorem idx_le {l : List Int} {v j : Int} (j0 : 0 ≤ j) (j1 : j < l.length) (h : gi l j = v) : 0 ≤ idx l v ∧ idx l v ≤ j := by
  have hm : v ∈ l := by rw [← h, gi_cast j0 j1]; exact List.getElem_mem _
  refine ⟨idx_mem.mpr hm, ?_⟩
  apply Classical.byContradiction
  intro hn
  exact idx_min j0 (by omega) h

theorem full_nodup : ∀ (n : Nat) (l : List Int), l.length = n → (∀ i : Int, 0 ≤ i → i < n → i ∈ l) → l.Nodup ∧ ∀ x ∈ l, 0 ≤ x ∧ x < n
  | 0, l, hl, _ => by
    rw [List.length_eq_zero_iff] at hl
    subst hl
    simp
  | n + 1, l, hl, h => by
    have hm : (n : Int) ∈ l := h n (by omega) (by omega)
    have hp := List.perm_cons_erase hm
    obtain ⟨h1, h2⟩ := full_nodup n (l.erase (n : Int)) (by rw [List.length_erase_of_mem hm]; omega) (fun i i0 i1 => (List.mem_erase_of_ne (by omega)).mpr (h i i0 (by omega)))
    refine ⟨?_, fun x hx => ?_⟩
    · rw [hp.nodup_iff, List.nodup_cons]
      refine ⟨fun hm2 => ?_, h1⟩
      have := h2 _ hm2
      omega
    · rw [hp.mem_iff, List.mem_cons] at hx
      rcases hx with rfl | hx
      · omega
      · have := h2 x hx; omega

/-- Variable i is true, by the place of its operation. -/
def bitI (n : Nat) (order : List Int) (i : Nat) : Bool := decide (i < n * n) && (((i % n : Nat) : Int) == idx order ((i / n : Nat) : Int))
theorem map_range_succ {α : Type} (f : Nat → α) (t : Nat) : (List.range (t + 1)).map f = (List.range t).map f ++ [f t] := by
  rw [List.range_succ, List.map_append]; rfl

theorem bits_eq {s : Numbering_Size} {order : List Int} (hg : goodOrder s order) : placeBits s order order.length = (List.range (numbering_Vars s).toNat).map (bitI s.Ops.toNat order) := by
  obtain ⟨hc, hl, hin, hd⟩ := hg
  unfold placeBits
  apply List.map_congr_left
  intro i _
  unfold bitOf bitI
  by_cases hi : i < s.Ops.toNat * s.Ops.toNat
  · have hn : 0 < s.Ops.toNat := by
      rcases Nat.eq_zero_or_pos s.Ops.toNat with h | h
      · rw [h] at hi; simp at hi
      · exact h
    have h1 := Nat.mod_lt i hn
    have e1 : decide (i < s.Ops.toNat * s.Ops.toNat ∧ i % s.Ops.toNat < order.length) = true := by rw [decide_eq_true_eq]; exact ⟨hi, by omega⟩
    have e2 : decide (i < s.Ops.toNat * s.Ops.toNat) = true := by rw [decide_eq_true_eq]; exact hi
    rw [e1, e2, Bool.true_and, Bool.true_and, Bool.eq_iff_iff, beq_iff_eq, beq_iff_eq]
    constructor
    · intro h; exact (idx_nodup hd (by omega) (by omega) h).symm
    · intro h
      have h0 : 0 ≤ idx order ((i / s.Ops.toNat : Nat) : Int) := by omega
      rw [h]; exact (idx_spec h0).2
  · have e1 : decide (i < s.Ops.toNat * s.Ops.toNat ∧ i % s.Ops.toNat < order.length) = false := by rw [decide_eq_false_iff_not]; exact fun h => hi h.1
    have e2 : decide (i < s.Ops.toNat * s.Ops.toNat) = false := by rw [decide_eq_false_iff_not]; exact hi
    rw [e1, e2]; rfl

theorem truths_no {o st : Int} {order : List Int} {a : Int} (a0 : 0 ≤ a) (a1 : a < o) (h : a ∉ order) : places_Truths ⟨o, st⟩ order = ([], false) := by
  unfold places_Truths
  rw [if_neg]
  rintro ⟨hc, hl, hin, hd⟩
  dsimp only at hl
  exact h (nodup_full (n := o.toNat) hd (fun x hx => by have := hin x hx; dsimp only at this; omega) (by omega) a0 (by omega))

theorem v53 (o st : Int) (order : List Int) : VC53 o st order (fun r => r = ref32_Truths o st order) := by
  unfold VC53
  intro _
  rintro _ rfl
  unfold ref32_Truths
  simp only [Bool.or_eq_true, decide_eq_true_eq, Bool.or_eq_false_iff, decide_eq_false_iff_not, bne_iff_ne, bne_eq_false_iff_eq]
  refine ⟨fun h => ?_, fun h => ?_⟩
  · unfold places_Truths
    rw [if_neg]
    rintro ⟨hc, hl, _⟩
    exact h.elim (fun h => h hc) (fun h => h hl)
  · obtain ⟨hc, hl⟩ := h
    have hc' : numbering_Check ⟨o, st⟩ = 0 := hc
    obtain ⟨c0, c1, c2, c3⟩ := check0 hc
    obtain ⟨n, rfl⟩ := Int.eq_ofNat_of_zero_le c0
    have hln : order.length = n := by omega
    have hsq : n * n ≤ 64 * 64 := Nat.mul_le_mul (by omega) (by omega)
    have small : ∀ t u, t < n → u ≤ n → t * n + u ≤ n * n := fun t u ht hu => by
      have := Nat.mul_le_mul_right n (show t + 1 ≤ n by omega)
      rw [Nat.add_mul, Nat.one_mul] at this
      omega
    refine ⟨fun r a => ∃ t : Nat, a = t ∧ t ≤ n ∧ r = (List.range (t * n)).map (bitI n order) ∧ ∀ b : Nat, b < t → (b : Int) ∈ order, fun _ a => (n - a).toNat, ⟨0, rfl, by omega, by simp, fun b hb => by omega⟩, ?_⟩
    rintro _ _ ⟨t, rfl, ht, rfl, hall⟩
    refine ⟨fun ha => ?_, fun ha => ?_⟩
    · have ha : t < n := by omega
      refine ⟨fun r at_ y => r = (List.range (t * n)).map (bitI n order) ∧ ∃ u : Nat, y = u ∧ u ≤ n ∧ at_ = if 0 ≤ idx order t ∧ idx order t < u then idx order t else -1, fun _ _ y => (n - y).toNat, ⟨rfl, 0, rfl, by omega, by rw [if_neg (by omega)]⟩, ?_⟩
      rintro _ _ _ ⟨rfl, u, rfl, hu, rfl⟩
      refine ⟨fun hy => ?_, fun hy => ?_⟩
      · have hy : u < n := by omega
        refine ⟨⟨by omega, by omega⟩, ?_⟩
        simp only [Bool.and_eq_true, beq_iff_eq, decide_eq_true_eq, Bool.and_eq_false_iff, beq_eq_false_iff_ne, decide_eq_false_iff_not]
        unfold VC53_J5
        rw [wrp (by omega) (by omega)]
        refine ⟨fun ⟨h1, h2⟩ => ⟨⟨rfl, u + 1, by simp, by omega, ?_⟩, by dsimp only; omega⟩, fun h => ⟨⟨rfl, u + 1, by simp, by omega, ?_⟩, by dsimp only; omega⟩⟩
        · obtain ⟨q0, q1⟩ := idx_le (j := (u : Int)) (by omega) (by omega) h1
          split at h2
          · omega
          · rw [if_pos (by omega)]; omega
        · by_cases h3 : 0 ≤ idx order t ∧ idx order t < u
          · rw [if_pos h3, if_pos (by omega)]
          · rw [if_neg h3, if_neg]
            intro h4
            have h5 : idx order t = u := by omega
            have := (idx_spec h4.1).2
            rw [h5] at this
            rw [if_neg h3] at h
            rcases h with h | h
            · exact h this
            · omega
      · have : u = n := by omega
        subst this
        unfold VC53_J4
        simp only [decide_eq_true_eq, decide_eq_false_iff_not]
        refine ⟨fun hn => ?_, fun hn => ?_⟩
        · refine (truths_no (a := (t : Int)) (by omega) (by omega) ?_).symm
          intro hm
          have h0 := idx_mem.mpr hm
          have h1 := (idx_spec h0).1
          rw [if_pos (by omega)] at hn
          omega
        · have hix : 0 ≤ idx order t := by
            split at hn
            · omega
            · omega
          have h1 := (idx_spec hix).1
          rw [if_pos (by omega)]
          refine ⟨fun r x => ∃ v : Nat, x = v ∧ v ≤ u ∧ r = (List.range (t * u + v)).map (bitI u order), fun _ x => (u - x).toNat, ⟨0, rfl, by omega, by simp⟩, ?_⟩
          rintro _ _ ⟨v, rfl, hv, rfl⟩
          refine ⟨fun hx => ?_, fun hx => ?_⟩
          · have hx : v < u := by omega
            have := small t v ha hv
            rw [wrp (by omega) (by omega)]
            refine ⟨by simp only [List.length_append, List.length_cons, List.length_nil, List.length_map, List.length_range]; omega, ⟨v + 1, by simp, by omega, ?_⟩, by dsimp only; omega⟩
            rw [← Nat.add_assoc, map_range_succ]
            congr 2
            obtain ⟨d1, d2⟩ := divmod (a := t) (k := v) (n := u) hx
            have := small t (v + 1) ha hx
            unfold bitI
            rw [d1, d2]
            have : decide (t * u + v < u * u) = true := by rw [decide_eq_true_eq]; omega
            rw [this, Bool.true_and]
          · have : v = u := by omega
            subst this
            unfold VC53_J3
            rw [wrp (by omega) (by omega)]
            refine ⟨⟨t + 1, by simp, by omega, ?_, ?_⟩, by dsimp only; omega⟩
            · rw [Nat.add_mul, Nat.one_mul]
            · intro b hb
              by_cases hbt : b < t
              · exact hall b hbt
              · rw [show b = t by omega]; exact idx_mem.mp hix
    · have : t = n := by omega
      subst this
      have hg : goodOrder ⟨(t : Int), st⟩ order := by
        obtain ⟨h1, h2⟩ := full_nodup t order hln (fun i i0 i1 => by have := hall i.toNat (by omega); rwa [show ((i.toNat : Nat) : Int) = i by omega] at this)
        exact ⟨hc', hl, h2, h1⟩
      have hv : numbering_Vars ⟨(t : Int), st⟩ = ((t * t : Nat) : Int) + ((t : Int) + (t + 1) * st) := by
        unfold numbering_Vars; rw [if_pos hc']; dsimp only
        rw [Int.natCast_mul, Int.mul_comm st]; omega
      have hm := mulb (a := (t : Int) + 1) (b := st) (A := 65) (B := 32) (by omega) (by omega) (by omega) (by omega)
      unfold VC53_J1
      rw [wrp (n := (t : Int) + 1) (by omega) (by omega), wrp (n := ((t : Int) + 1) * st) (by omega) (by omega), wrp (n := (t : Int) + ((t : Int) + 1) * st) (by omega) (by omega)]
      generalize hR : (t : Int) + ((t : Int) + 1) * st = R at hv
      obtain ⟨R, rfl⟩ := Int.eq_ofNat_of_zero_le (show 0 ≤ R by omega)
      simp only [decide_eq_true_eq, decide_eq_false_iff_not]
      refine ⟨fun r x => ∃ v : Nat, x = v ∧ v ≤ R ∧ r = (List.range (t * t + v)).map (bitI t order), fun _ x => (R - x).toNat, ⟨0, rfl, by omega, by simp⟩, ?_⟩
      rintro _ _ ⟨v, rfl, hv2, rfl⟩
      refine ⟨fun hx => ?_, fun hx => ?_⟩
      · rw [wrp (by omega) (by omega)]
        refine ⟨by simp only [List.length_append, List.length_cons, List.length_nil, List.length_map, List.length_range]; omega, ⟨v + 1, by simp, by omega, ?_⟩, by dsimp only; omega⟩
        rw [← Nat.add_assoc, map_range_succ]
        congr 2
        unfold bitI
        have : decide (t * t + v < t * t) = false := by rw [decide_eq_false_iff_not]; omega
        rw [this, Bool.false_and]
      · have : v = R := by omega
        subst this
        unfold VC53_J2 places_Truths
        rw [if_pos hg, bits_eq hg, hv]
        rfl
end Go.Proofs.Ytlpcjbjlgeaapaa
