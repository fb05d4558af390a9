/- Plain lemmas about the specification functions. Conditions: in each lemma. -/
import Derived.Test.YtlpcjbjlgeaapaaTV1
set_option linter.all false
namespace Go.Proofs.Ytlpcjbjlgeaapaa
open Go Go.Sv Go.Pu

theorem idx_at {l : List Int} {v i : Int} (h0 : 0 ≤ i) (h1 : i < l.length) (h : gi l i = v) (h2 : ∀ j : Int, 0 ≤ j → j < i → gi l j ≠ v) : idx l v = i := by
  unfold idx
  rw [find_at (f := fun x => x == v) h0 h1 (by simpa using h) (fun j j0 j1 => by simpa using h2 j j0 j1)]
  dsimp only; omega
theorem idx_no {l : List Int} {v : Int} (h2 : ∀ j : Int, 0 ≤ j → j < l.length → gi l j ≠ v) : idx l v = -1 := by
  unfold idx
  rw [find_no (f := fun x => x == v) (fun j j0 j1 => by simpa using h2 j j0 j1)]
theorem idx_mem {l : List Int} {v : Int} : 0 ≤ idx l v ↔ v ∈ l := by
  unfold idx
  cases h : l.findIdx? (fun x => x == v) with
  | none =>
    rw [List.findIdx?_eq_none_iff] at h
    dsimp only
    constructor
    · intro h; omega
    · intro hm; have := h v hm; simp at this
  | some i =>
    rw [List.findIdx?_eq_some_iff_getElem] at h
    obtain ⟨hi, he, _⟩ := h
    have he : l[i] = v := by simpa using he
    dsimp only
    constructor
    · intro _; rw [← he]; exact List.getElem_mem _
    · intro _; omega
theorem idx_spec {l : List Int} {v : Int} (h : 0 ≤ idx l v) : idx l v < l.length ∧ gi l (idx l v) = v := by
  unfold idx at h ⊢
  cases hf : l.findIdx? (fun x => x == v) with
  | none => rw [hf] at h; simp at h
  | some i =>
    rw [List.findIdx?_eq_some_iff_getElem] at hf
    obtain ⟨hi, he, _⟩ := hf
    dsimp only
    refine ⟨by omega, ?_⟩
    rw [gi_nat _ _ hi]
    simpa using he

theorem v64 (l : List Int) (v : Int) : VC64 l v (fun r => r = slices_Index_int_int l v) := by
  unfold VC64
  intro hl
  simp only [sm] at hl
  refine ⟨fun i => 0 ≤ i ∧ i ≤ l.length ∧ ∀ j : Int, 0 ≤ j → j < i → gi l j ≠ v, fun i => (l.length - i).toNat, ⟨by omega, by omega, fun j h0 h1 => by omega⟩, ?_⟩
  rintro i ⟨h0, h1, h2⟩
  simp only [decide_eq_true_eq, decide_eq_false_iff_not]
  refine ⟨fun hi => ⟨⟨by omega, by omega⟩, fun he => ?_, fun he => ?_⟩, fun hi => ?_⟩
  · exact (idx_at h0 hi (by rw [beq_iff_eq] at he; exact he.symm) h2).symm
  · rw [wrp (by omega) (by omega)]
    refine ⟨⟨by omega, by omega, fun j j0 j1 => ?_⟩, by omega⟩
    by_cases hj : j < i
    · exact h2 j j0 hj
    · rw [show j = i by omega]; intro h; rw [h] at he; simp at he
  · exact (idx_no (fun j j0 j1 => h2 j j0 (by omega))).symm
theorem v44 (l : List Int) (v : Int) : VC44 l v (fun r => r = ref33_Place l v) := by
  unfold VC44
  intro hl
  simp only [sm] at hl
  refine ⟨fun i => 0 ≤ i ∧ i ≤ l.length ∧ ∀ j : Int, 0 ≤ j → j < i → gi l j ≠ v, fun i => (l.length - i).toNat, ⟨by omega, by omega, fun j h0 h1 => by omega⟩, ?_⟩
  rintro i ⟨h0, h1, h2⟩
  simp only [decide_eq_true_eq, decide_eq_false_iff_not]
  refine ⟨fun hi => ⟨⟨by omega, by omega⟩, fun he => ?_, fun he => ?_⟩, fun hi => ?_⟩
  · exact (idx_at h0 hi (by rw [beq_iff_eq] at he; exact he) h2).symm
  · rw [wrp (by omega) (by omega)]
    refine ⟨⟨by omega, by omega, fun j j0 j1 => ?_⟩, by omega⟩
    by_cases hj : j < i
    · exact h2 j j0 hj
    · rw [show j = i by omega]; intro h; rw [h] at he; simp at he
  · exact (idx_no (fun j j0 j1 => h2 j j0 (by omega))).symm
theorem v68 (l : List Int) (v : Int) : VC68 l v (fun r => r = slices_Contains_int_int l v) := by
  intro _ r hr
  subst hr
  unfold slices_Contains_int_int slices_Index_int_int
  rw [Bool.eq_iff_iff, decide_eq_true_eq, decide_eq_true_eq]
  exact idx_mem
theorem v67 (p : Int × Int) (n : Int) : VC67 p n (fun r => r = times_proper p n) := by
  unfold VC67 times_proper
  show _ = _
  rw [Bool.eq_iff_iff]
  simp only [Bool.and_eq_true, decide_eq_true_eq, bne_iff_ne]
  constructor
  · rintro ⟨⟨h1, h2⟩, h3⟩
    split at h1 <;> split at h2 <;> refine ⟨?_, ?_, ?_, ?_, h3⟩ <;> omega
  · rintro ⟨h1, h2, h3, h4, h5⟩
    refine ⟨⟨?_, ?_⟩, h5⟩ <;> split <;> omega
theorem v66 (p : Int × Int) (n x : Int) (out : List Int) : VC66 p n x out (fun r => r = times_Sort_1_1 p n x out) := by
  unfold VC66
  intro _ r hr
  subst hr
  refine ⟨fun h => ?_, fun h => ?_⟩
  · intro r hr
    subst hr
    have h : (times_proper p n && p.2 == x) = true := h
    unfold times_Sort_1_1 slices_Contains_int_int
    rw [h]; rfl
  · have h : (times_proper p n && p.2 == x) = false := h
    unfold times_Sort_1_1
    rw [h]; rfl
theorem v80_66 (l : List (Int × Int)) (n x : Int) (out : List Int) : VC80_66 l n x out (fun r => r = slices_IndexFunc_2_int_2_int_times_Sort_1_1 l n x out) := by
  unfold VC80_66
  intro hl _
  simp only [sm] at hl
  refine ⟨fun i => 0 ≤ i ∧ i ≤ l.length ∧ ∀ j : Int, 0 ≤ j → j < i → times_Sort_1_1 (gi l j) n x out = false, fun i => (l.length - i).toNat, ⟨by omega, by omega, fun j h0 h1 => by omega⟩, ?_⟩
  rintro i ⟨h0, h1, h2⟩
  simp only [decide_eq_true_eq, decide_eq_false_iff_not]
  refine ⟨fun hi => ⟨⟨by omega, by omega⟩, ?_⟩, fun hi => ?_⟩
  · intro r hr
    subst hr
    refine ⟨fun he => ?_, fun he => ?_⟩
    · unfold slices_IndexFunc_2_int_2_int_times_Sort_1_1
      rw [find_at (f := fun p => times_Sort_1_1 p n x out) h0 hi he h2]
      dsimp only; omega
    · rw [wrp (by omega) (by omega)]
      refine ⟨⟨by omega, by omega, fun j j0 j1 => ?_⟩, by omega⟩
      by_cases hj : j < i
      · exact h2 j j0 hj
      · rw [show j = i by omega]; exact he
  · unfold VC80_66_J1 slices_IndexFunc_2_int_2_int_times_Sort_1_1
    rw [find_no (f := fun p => times_Sort_1_1 p n x out) (fun j j0 j1 => h2 j j0 (by omega))]
theorem v69_66 (l : List (Int × Int)) (n x : Int) (out : List Int) : VC69_66 l n x out (fun r => r = slices_ContainsFunc_2_int_2_int_times_Sort_1_1 l n x out) := by
  unfold VC69_66
  intro _ _ r hr
  subst hr
  unfold slices_IndexFunc_2_int_2_int_times_Sort_1_1 slices_ContainsFunc_2_int_2_int_times_Sort_1_1
  cases h : l.findIdx? (fun p => times_Sort_1_1 p n x out) with
  | none =>
    rw [List.findIdx?_eq_none_iff] at h
    dsimp only
    have : l.any (fun p => times_Sort_1_1 p n x out) = false := by
      rw [List.any_eq_false]; intro y hy; simp [h y hy]
    rw [this]; decide
  | some i =>
    rw [List.findIdx?_eq_some_iff_getElem] at h
    obtain ⟨hi, he, _⟩ := h
    dsimp only
    have : l.any (fun p => times_Sort_1_1 p n x out) = true := by
      rw [List.any_eq_true]; exact ⟨_, List.getElem_mem _, he⟩
    rw [this]; simp
theorem v65 (x n : Int) (out : List Int) (pairs : List (Int × Int)) : VC65 x n out pairs (fun r => r = times_Sort_1 x n out pairs) := by
  unfold VC65
  intro _ _ r hr
  subst hr
  unfold times_Sort_1 slices_Contains_int_int
  refine ⟨fun h => by rw [h]; rfl, fun h => ?_⟩
  intro r hr
  subst hr
  rw [h]; rfl

theorem next_at {n : Int} {pairs : List (Int × Int)} {out : List Int} {t : Nat} (h : (t : Int) < n) (hw : times_Sort_1 t n out pairs = false) (h2 : ∀ y : Nat, y < t → times_Sort_1 y n out pairs = true) : nextOf n pairs out = some t := by
  unfold nextOf
  rw [List.find?_range_eq_some]
  refine ⟨by simp [hw], by rw [List.mem_range]; omega, fun y hy => by simp [h2 y hy]⟩
theorem next_no {n : Int} {pairs : List (Int × Int)} {out : List Int} (h2 : ∀ y : Nat, (y : Int) < n → times_Sort_1 y n out pairs = true) : nextOf n pairs out = none := by
  unfold nextOf
  rw [List.find?_range_eq_none]
  intro y hy
  simp [h2 y (by omega)]

theorem v40 (n : Int) (pairs : List (Int × Int)) : VC40 n pairs (fun r => r = times_Sort n pairs) := by
  unfold VC40
  intro _
  simp only [Bool.or_eq_true, decide_eq_true_eq, Bool.or_eq_false_iff, decide_eq_false_iff_not]
  refine ⟨fun h => ?_, fun h => ?_⟩
  · unfold times_Sort; rw [if_pos (by omega)]
  · obtain ⟨n0, n1⟩ := h
    have et : times_Sort n pairs = sortGo n pairs n.toNat [] := by unfold times_Sort; rw [if_neg (by omega)]
    rw [et]
    refine ⟨by omega, fun out => ∃ k : Nat, ((out.length + k : Nat) : Int) = n ∧ sortGo n pairs k out = sortGo n pairs n.toNat [], fun out => (n - out.length).toNat, ⟨n.toNat, by simp; omega, by simp⟩, ?_⟩
    rintro out ⟨k, hk, hgo⟩
    refine ⟨fun hlt => ?_, fun hge => ?_⟩
    · obtain ⟨k, rfl⟩ : ∃ j, k = j + 1 := ⟨k - 1, by omega⟩
      refine ⟨fun x o => o = out ∧ ∃ t : Nat, x = t ∧ (t : Int) ≤ n ∧ ∀ y : Nat, y < t → times_Sort_1 y n out pairs = true, fun x _ => (n - x).toNat, ⟨rfl, 0, rfl, by omega, fun y hy => by omega⟩, ?_⟩
      rintro _ _ ⟨rfl, t, rfl, ht, hw⟩
      refine ⟨fun hx => ?_, fun hx => ?_⟩
      · intro r hr
        subst hr
        unfold VC40_J3
        refine ⟨fun hwt => ?_, fun hwf => ?_⟩
        · rw [wrp (by omega) (by omega)]
          refine ⟨⟨rfl, t + 1, by simp, by omega, fun y hy => ?_⟩, by dsimp only; omega⟩
          by_cases hyt : y < t
          · exact hw y hyt
          · rw [show y = t by omega]; exact hwt
        · unfold VC40_J2
          refine ⟨fun he => ?_, fun _ => ⟨?_, ⟨k, ?_, ?_⟩, ?_⟩⟩
          · rw [beq_iff_eq] at he; omega
          · simp only [List.length_cons, List.length_nil]; omega
          · simp only [List.length_append, List.length_cons, List.length_nil]; omega
          · rw [← hgo, sortGo, next_at hx hwf hw]
          · simp only [List.length_append, List.length_cons, List.length_nil]; omega
      · have : (t : Int) = n := by omega
        unfold VC40_J3
        refine ⟨(fun h => by cases h), fun _ => ?_⟩
        unfold VC40_J2
        refine ⟨fun _ => ?_, fun he => ?_⟩
        · rw [← hgo, sortGo, next_no (fun y hy => hw y (by omega))]
        · rw [this] at he; simp at he
    · have : k = 0 := by omega
      subst this
      unfold VC40_J1
      rw [← hgo]; rfl

theorem v41 (n : Int) (pairs : List (Int × Int)) : VC41 n pairs (fun r => r = ref33_Sort n pairs) := by
  unfold VC41
  intro hsm
  simp only [sm] at hsm
  simp only [Bool.or_eq_true, decide_eq_true_eq, Bool.or_eq_false_iff, decide_eq_false_iff_not]
  unfold ref33_Sort
  refine ⟨fun h => ?_, fun h => ?_⟩
  · unfold times_Sort; rw [if_pos (by omega)]
  · obtain ⟨n0, n1⟩ := h
    have et : times_Sort n pairs = sortGo n pairs n.toNat [] := by unfold times_Sort; rw [if_neg (by omega)]
    rw [et]
    refine ⟨fun out a => ∃ k : Nat, (out.length : Int) = a ∧ ((out.length + k : Nat) : Int) = n ∧ sortGo n pairs k out = sortGo n pairs n.toNat [], fun out a => (n - a).toNat, ⟨n.toNat, by simp, by simp; omega, by simp⟩, ?_⟩
    rintro out a ⟨k, ha, hk, hgo⟩
    refine ⟨fun hlt => ?_, fun hge => ?_⟩
    · obtain ⟨k, rfl⟩ : ∃ j, k = j + 1 := ⟨k - 1, by omega⟩
      rw [wrp (n := n - 1) (by omega) (by omega)]
      refine ⟨fun o r x => out = o ∧ -1 ≤ x ∧ x < n ∧ ((r = -1 ∧ ∀ y : Int, x < y → y < n → times_Sort_1 y n out pairs = true) ∨ (x < r ∧ r < n ∧ times_Sort_1 r n out pairs = false ∧ ∀ y : Int, x < y → y < r → times_Sort_1 y n out pairs = true)), fun _ _ x => (x + 1).toNat, ⟨rfl, by omega, by omega, Or.inl ⟨rfl, fun y h0 h1 => by omega⟩⟩, ?_⟩
      rintro _ nx x ⟨rfl, x0, x1, hnx⟩
      refine ⟨fun hx r hr => ?_, fun hx => ?_⟩
      · subst hr
        refine ⟨fun o b y => out = o ∧ ∃ t : Nat, y = t ∧ t ≤ pairs.length ∧ b = (decide (idx out x < 0) && !(pairs.take t).any (fun p => times_Sort_1_1 p n x out)), fun _ _ y => (pairs.length - y).toNat, ⟨rfl, 0, rfl, by omega, by rw [List.take_zero, List.any_nil, Bool.not_false, Bool.and_true]; rfl⟩, ?_⟩
        rintro _ _ _ ⟨rfl, t, rfl, ht, rfl⟩
        refine ⟨fun hy => ⟨⟨by omega, hy⟩, ?_⟩, fun hy => ?_⟩
        · have hy : t < pairs.length := by omega
          have step : ∀ b, b = times_Sort_1_1 (gi pairs t) n x out → VC41_J6 (fun o b y => out = o ∧ ∃ t : Nat, y = t ∧ t ≤ pairs.length ∧ b = (decide (idx out x < 0) && !(pairs.take t).any (fun p => times_Sort_1_1 p n x out))) (fun _ _ y => (pairs.length - y).toNat) out (decide (idx out x < 0) && !(pairs.take t).any (fun p => times_Sort_1_1 p n x out)) t out b := by
            rintro b hb
            have e : (pairs.take (t + 1)).any (fun p => times_Sort_1_1 p n x out) = ((pairs.take t).any (fun p => times_Sort_1_1 p n x out) || b) := by
              rw [List.take_succ_eq_append_getElem hy, List.any_append, hb, gi_nat _ _ hy]; simp
            unfold VC41_J6 VC41_J5
            rw [wrp (by omega) (by omega)]
            refine ⟨fun hbt => ⟨⟨rfl, t + 1, by simp, by omega, ?_⟩, by dsimp only; omega⟩, fun hbf => ⟨⟨rfl, t + 1, by simp, by omega, ?_⟩, by dsimp only; omega⟩⟩
            · rw [e, hbt]; simp
            · rw [e, hbf]; simp
          refine ⟨fun hc r hr => ?_, fun hc => ?_⟩
          · subst hr
            apply step
            simp only [Bool.and_eq_true, beq_iff_eq, bne_iff_ne, decide_eq_true_eq] at hc
            obtain ⟨⟨⟨c1, c2⟩, c3⟩, c4⟩ := hc
            have hp : times_proper (gi pairs t) n = true := by
              unfold times_proper; rw [decide_eq_true_eq]; refine ⟨by omega, by omega, by omega, by omega, by omega⟩
            unfold times_Sort_1_1 ref33_Place
            rw [hp, c1]
            have := idx_mem (l := out) (v := (gi pairs t).1)
            rw [Bool.eq_iff_iff]
            simp only [decide_eq_true_eq, Bool.and_eq_true, beq_self_eq_true, Bool.not_eq_true', decide_eq_false_iff_not, true_and]
            rw [← this]; omega
          · apply step
            symm
            unfold times_Sort_1_1
            by_cases h1 : times_proper (gi pairs t) n = true
            · by_cases h2 : (gi pairs t).2 = x
              · exfalso
                unfold times_proper at h1
                rw [decide_eq_true_eq] at h1
                rw [← Bool.not_eq_true] at hc
                apply hc
                simp only [Bool.and_eq_true, beq_iff_eq, bne_iff_ne, decide_eq_true_eq]
                refine ⟨⟨⟨h2, by omega⟩, by omega⟩, by omega⟩
              · have : ((gi pairs t).2 == x) = false := by simpa using h2
                rw [this]; simp
            · have : times_proper (gi pairs t) n = false := by simpa using h1
              rw [this]; simp
        · have : t = pairs.length := by omega
          subst this
          rw [List.take_length]
          have ew : (decide (idx out x < 0) && !pairs.any (fun p => times_Sort_1_1 p n x out)) = !times_Sort_1 x n out pairs := by
            unfold times_Sort_1
            have := idx_mem (l := out) (v := x)
            rw [Bool.not_or]
            congr 1
            rw [Bool.eq_iff_iff, Bool.not_eq_true', decide_eq_true_eq, decide_eq_false_iff_not, ← this]
            omega
          unfold VC41_J4
          rw [ew]
          unfold VC41_J3
          rw [wrp (by omega) (by omega)]
          refine ⟨fun hf => ⟨⟨rfl, by omega, by omega, Or.inr ⟨by omega, x1, by simpa using hf, fun y h0 h1 => by omega⟩⟩, by dsimp only; omega⟩, fun hf => ⟨⟨rfl, by omega, by omega, ?_⟩, by dsimp only; omega⟩⟩
          have hf : times_Sort_1 x n out pairs = true := by simpa using hf
          rcases hnx with ⟨e, hall⟩ | ⟨r0, r1, hr, hall⟩
          · refine Or.inl ⟨e, fun y h0 h1 => ?_⟩
            by_cases hyx : y = x
            · rw [hyx]; exact hf
            · exact hall y (by omega) h1
          · refine Or.inr ⟨by omega, r1, hr, fun y h0 h1 => ?_⟩
            by_cases hyx : y = x
            · rw [hyx]; exact hf
            · exact hall y (by omega) h1
      · have : x = -1 := by omega
        subst this
        unfold VC41_J2
        simp only [decide_eq_true_eq, decide_eq_false_iff_not]
        refine ⟨fun hn => ?_, fun hn => ?_⟩
        · rcases hnx with ⟨e, hall⟩ | ⟨r0, r1, hr, hall⟩
          · rw [← hgo, sortGo, next_no (fun y hy => hall y (by omega) hy)]
          · omega
        · rcases hnx with ⟨e, hall⟩ | ⟨r0, r1, hr, hall⟩
          · omega
          · obtain ⟨t, ht⟩ := Int.eq_ofNat_of_zero_le (by omega : 0 ≤ nx)
            subst ht
            rw [wrp (by omega) (by omega)]
            refine ⟨?_, ⟨k, ?_, ?_, ?_⟩, ?_⟩
            · simp only [List.length_cons, List.length_nil]; omega
            · simp only [List.length_append, List.length_cons, List.length_nil]; omega
            · simp only [List.length_append, List.length_cons, List.length_nil]; omega
            · rw [← hgo, sortGo, next_at r1 hr (fun y hy => hall y (by omega) (by omega))]
            · omega
    · have : k = 0 := by omega
      subst this
      unfold VC41_J1
      rw [← hgo]; rfl

theorem v63 (x : Int) (order : List Int) : VC63 x order (fun r => r = times_Against_1 x order) := by
  intro _ r hr; exact hr.symm
theorem v38 (order : List Int) (pairs : List (Int × Int)) : VC38 order pairs (fun r => r = times_Against order pairs) := by
  unfold VC38
  intro _ hl
  simp only [sm] at hl
  refine ⟨fun i => 0 ≤ i ∧ i ≤ pairs.length ∧ ∀ j : Int, 0 ≤ j → j < i → badPair order (gi pairs j) = false, fun i => (pairs.length - i).toNat, ⟨by omega, by omega, fun j h0 h1 => by omega⟩, ?_⟩
  rintro i ⟨h0, h1, h2⟩
  have e : badPair order (gi pairs i) = (decide (times_Against_1 (gi pairs i).1 order ≥ 0) && decide (times_Against_1 (gi pairs i).2 order ≥ 0) && decide (times_Against_1 (gi pairs i).2 order < times_Against_1 (gi pairs i).1 order)) := by
    unfold badPair times_Against_1
    rw [Bool.eq_iff_iff]
    simp only [Bool.and_eq_true, decide_eq_true_eq]
    omega
  refine ⟨fun hi => ⟨⟨by omega, by simpa using hi⟩, ?_⟩, fun hi => ?_⟩
  · rintro _ rfl _ rfl
    rw [decide_eq_true_eq] at hi
    rw [← e]
    refine ⟨fun he => ?_, fun he => ?_⟩
    · unfold times_Against
      rw [find_at h0 hi he h2]
      dsimp only; rw [show ((i.toNat : Nat) : Int) = i by omega]
    · rw [wrp (by omega) (by omega)]
      refine ⟨⟨by omega, by omega, fun j j0 j1 => ?_⟩, by dsimp only; omega⟩
      by_cases hj : j < i
      · exact h2 j j0 hj
      · rw [show j = i by omega]; exact he
  · rw [decide_eq_false_iff_not] at hi
    unfold VC38_J1 times_Against
    rw [find_no (fun j j0 j1 => h2 j j0 (by omega))]
theorem v39 (order : List Int) (pairs : List (Int × Int)) : VC39 order pairs (fun r => r = ref33_Against order pairs) := by
  unfold VC39
  intro _ hl
  simp only [sm] at hl
  unfold ref33_Against
  refine ⟨fun i => 0 ≤ i ∧ i ≤ pairs.length ∧ ∀ j : Int, 0 ≤ j → j < i → badPair order (gi pairs j) = false, fun i => (pairs.length - i).toNat, ⟨by omega, by omega, fun j h0 h1 => by omega⟩, ?_⟩
  rintro i ⟨h0, h1, h2⟩
  have e : badPair order (gi pairs i) = (decide (ref33_Place order (gi pairs i).2 ≥ 0) && decide (ref33_Place order (gi pairs i).1 > ref33_Place order (gi pairs i).2)) := by
    unfold badPair ref33_Place
    rw [Bool.eq_iff_iff]
    simp only [Bool.and_eq_true, decide_eq_true_eq]
    omega
  refine ⟨fun hi => ?_, fun hi => ?_⟩
  · rw [decide_eq_true_eq] at hi
    refine ⟨⟨by omega, hi⟩, ⟨by omega, hi⟩, ?_⟩
    rintro _ rfl _ rfl
    rw [← e]
    refine ⟨fun he => ?_, fun he => ?_⟩
    · unfold times_Against
      rw [find_at h0 hi he h2]
      dsimp only; rw [show ((i.toNat : Nat) : Int) = i by omega]
    · rw [wrp (by omega) (by omega)]
      refine ⟨⟨by omega, by omega, fun j j0 j1 => ?_⟩, by dsimp only; omega⟩
      by_cases hj : j < i
      · exact h2 j j0 hj
      · rw [show j = i by omega]; exact he
  · rw [decide_eq_false_iff_not] at hi
    unfold VC39_J1 times_Against
    rw [find_no (fun j j0 j1 => h2 j j0 (by omega))]
end Go.Proofs.Ytlpcjbjlgeaapaa
