/- Plain lemmas about the specification functions. Conditions: in each lemma. -/
import Derived.Test.YtlpcjbjlgeaapaaUV1
set_option linter.all false
namespace Go.Proofs.Ytlpcjbjlgeaapaa
open Go Go.Sv Go.Pu

theorem v82 (o : Api_Oper) : VC82 o (fun r => r = oper_ended o) := by
  unfold VC82 oper_ended
  simp only [beq_iff_eq, beq_eq_false_iff_ne]
  exact ⟨fun h => by rw [if_pos h], fun h => by rw [if_neg h]⟩
theorem v77 (o : Api_Oper) : VC77 o (fun r => r = oper_alone o) := by
  unfold VC77 oper_alone
  simp only [Bool.or_eq_true, decide_eq_true_eq, Bool.or_eq_false_iff, decide_eq_false_iff_not]
  refine ⟨fun h => by rw [if_pos (by omega)], fun h => ⟨fun h2 => by rw [if_neg (by omega), if_pos h2], fun h2 => ?_⟩⟩
  rintro _ rfl
  refine ⟨fun h3 => ?_, fun h3 => ?_⟩
  · have h3 : oper_ended o = false := by simpa using h3
    rw [if_neg (by omega), if_neg (by omega), if_pos h3]
  · have h3 : oper_ended o = true := by simpa using h3
    rw [if_neg (by omega), if_neg (by omega), if_neg (by rw [h3]; decide)]
theorem v78 (a b : Api_Oper) : VC78 a b (fun r => r = oper_Ahead a b) := rfl

theorem v54 (l : List Api_Oper) : VC54 l (fun r => r = oper_Check l) := by
  unfold VC54
  intro hsm
  simp only [sm] at hsm
  refine ⟨fun h => ?_, fun h => ?_⟩
  · rw [decide_eq_true_eq] at h
    unfold oper_Check; rw [if_pos (by omega)]
  · rw [decide_eq_false_iff_not] at h
    have e : oper_Check l = checkGo l l.length [] [] 0 := by unfold oper_Check; rw [if_neg (by omega)]
    rw [e]
    refine ⟨fun u la x => ∃ i f : Nat, x = i ∧ i + f = l.length ∧ checkGo l f u la i = checkGo l l.length [] [] 0, fun _ _ x => (l.length - x).toNat, ⟨0, l.length, rfl, by omega, rfl⟩, ?_⟩
    rintro u la _ ⟨i, f, rfl, hif, hgo⟩
    refine ⟨fun hx => ⟨⟨by omega, by simpa using hx⟩, ?_⟩, fun hx => ?_⟩
    · rw [decide_eq_true_eq] at hx
      obtain ⟨f, rfl⟩ : ∃ k, f = k + 1 := ⟨f - 1, by omega⟩
      rw [checkGo] at hgo
      rintro _ rfl
      refine ⟨fun ha => ?_, fun ha => ?_⟩
      · rw [bne_iff_ne] at ha
        rw [← hgo, if_pos ha]
      · have ha : oper_alone (gi l (i : Int)) = 0 := by simpa using ha
        rw [if_neg (by omega)] at hgo
        have j2 : ¬ out32 l u i → out33 l la i = false → VC54_J2 l (fun u la x => ∃ i f : Nat, x = i ∧ i + f = l.length ∧ checkGo l f u la i = checkGo l l.length [] [] 0) (fun _ _ x => (l.length - x).toNat) u la i (usedNext l u i) := by
          intro h1 h2
          rw [if_neg h1, if_neg (by rw [h2]; decide)] at hgo
          unfold VC54_J2
          rw [wrp (by omega) (by omega)]
          exact ⟨⟨i + 1, f, by simp, by omega, hgo⟩, by dsimp only; omega⟩
        have j4 : ¬ out32 l u i → ∀ b, b = out33 l la i → VC54_J4 l (fun r => r = checkGo l l.length [] [] 0) (fun u la x => ∃ i f : Nat, x = i ∧ i + f = l.length ∧ checkGo l f u la i = checkGo l l.length [] [] 0) (fun _ _ x => (l.length - x).toNat) u la i b := by
          rintro h1 b rfl
          unfold VC54_J4
          refine ⟨fun hb => ?_, fun hb => ⟨fun he => ?_, fun he => ?_⟩⟩
          · rw [if_neg h1, if_pos hb] at hgo
            exact hgo
          · rw [decide_eq_true_eq] at he
            have := j2 h1 hb
            unfold usedNext at this
            rw [if_pos he] at this
            exact this
          · rw [decide_eq_false_iff_not] at he
            have := j2 h1 hb
            unfold usedNext at this
            rw [if_neg he] at this
            exact this
        have j3 : ∀ b, (b = true ↔ out32 l u i) → VC54_J3 l (fun r => r = checkGo l l.length [] [] 0) (fun u la x => ∃ i f : Nat, x = i ∧ i + f = l.length ∧ checkGo l f u la i = checkGo l l.length [] [] 0) (fun _ _ x => (l.length - x).toNat) u la i b := by
          intro b hb
          unfold VC54_J3
          refine ⟨fun h => ?_, fun h => ?_⟩
          · rw [if_pos (hb.mp h)] at hgo
            exact hgo
          · have h1 : ¬ out32 l u i := fun h2 => by rw [hb.mpr h2] at h; cases h
            refine ⟨fun hs => ?_, fun hs => j4 h1 _ ?_⟩
            · rintro _ rfl
              refine j4 h1 _ ?_
              unfold out33
              rw [hs]; rfl
            · unfold out33
              rw [hs]; rfl
        have m1 : ∀ z : Bool, (z = true ↔ (0 < i ∧ (gi l (i : Int)).Start ≤ (gi l ((i : Int) - 1)).Start)) → z = false → 
            ((decide ((mget u (gi l (i : Int)).Start).getD 0 > 0)) = true → VC54_J3 l (fun r => r = checkGo l l.length [] [] 0) (fun u la x => ∃ i f : Nat, x = i ∧ i + f = l.length ∧ checkGo l f u la i = checkGo l l.length [] [] 0) (fun _ _ x => (l.length - x).toNat) u la i true) ∧
            ((decide ((mget u (gi l (i : Int)).Start).getD 0 > 0)) = false → ((decide ((gi l (i : Int)).End ≥ 0)) = true → VC54_J3 l (fun r => r = checkGo l l.length [] [] 0) (fun u la x => ∃ i f : Nat, x = i ∧ i + f = l.length ∧ checkGo l f u la i = checkGo l l.length [] [] 0) (fun _ _ x => (l.length - x).toNat) u la i (decide ((mget u (gi l (i : Int)).End).getD 0 > 0))) ∧ ((decide ((gi l (i : Int)).End ≥ 0)) = false → VC54_J3 l (fun r => r = checkGo l l.length [] [] 0) (fun u la x => ∃ i f : Nat, x = i ∧ i + f = l.length ∧ checkGo l f u la i = checkGo l l.length [] [] 0) (fun _ _ x => (l.length - x).toNat) u la i false)) := by
          intro z hz hzf
          have hz0 : ¬ (0 < i ∧ (gi l (i : Int)).Start ≤ (gi l ((i : Int) - 1)).Start) := fun h => by rw [hz.mpr h] at hzf; cases hzf
          simp only [decide_eq_true_eq, decide_eq_false_iff_not]
          refine ⟨fun hu => j3 _ ⟨fun _ => Or.inr (Or.inl hu), fun _ => rfl⟩, fun hu => ⟨fun he => j3 _ ⟨fun h => Or.inr (Or.inr ⟨he, by rw [decide_eq_true_eq] at h; exact h⟩), fun h => ?_⟩, fun he => j3 _ ⟨(fun h => by cases h), fun h => ?_⟩⟩⟩
          · rw [decide_eq_true_eq]
            rcases h with h | h | h
            · exact absurd h hz0
            · exact absurd h hu
            · exact h.2
          · rcases h with h | h | h
            · exact absurd h hz0
            · exact absurd h hu
            · exact absurd h.1 he
        refine ⟨fun h0 => ?_, fun h0 => ?_⟩
        · rw [decide_eq_true_eq] at h0
          rw [wrp (n := (i : Int) - 1) (by omega) (by omega)]
          refine ⟨⟨by omega, by omega⟩, fun hs => ?_, fun hs => ?_⟩
          · rw [decide_eq_true_eq] at hs
            exact j3 true ⟨fun _ => Or.inl ⟨by omega, hs⟩, fun _ => rfl⟩
          · refine m1 (decide ((gi l (i : Int)).Start ≤ (gi l ((i : Int) - 1)).Start)) ?_ hs
            rw [decide_eq_true_eq]
            exact ⟨fun h => ⟨by omega, h⟩, fun h => h.2⟩
        · rw [decide_eq_false_iff_not] at h0
          exact m1 false ⟨(fun h => by cases h), fun h => by omega⟩ rfl
    · rw [decide_eq_false_iff_not] at hx
      have : f = 0 := by omega
      subst this
      unfold VC54_J1
      rw [← hgo]; rfl

theorem pairsOf_succ (l : List Api_Oper) (i t : Nat) : pairsOf l i (t + 1) = pairsOf l i t ++ (if oper_Ahead (gi l (i : Int)) (gi l (t : Int)) = true then [((i : Int), (t : Int))] else []) := by
  unfold pairsOf
  rw [List.range_succ, List.filter_append, List.map_append, List.filter_cons, List.filter_nil]
  split <;> rfl
theorem pairsOf_le (l : List Api_Oper) (i t : Nat) : (pairsOf l i t).length ≤ t := by
  unfold pairsOf
  rw [List.length_map]
  refine Nat.le_trans (List.length_filter_le _ _) ?_
  simp
theorem pairs_le (l : List Api_Oper) (n : Nat) : ∀ t, ((List.range t).flatMap (fun i => pairsOf l i n)).length ≤ n * t
  | 0 => by simp
  | t + 1 => by
    have h1 := pairs_le l n t
    have h2 := pairsOf_le l t n
    rw [List.range_succ, List.flatMap_append, List.length_append, Nat.mul_add]
    simp only [List.flatMap_cons, List.flatMap_nil, List.append_nil]
    omega

theorem v55 (l : List Api_Oper) (h : prePairs l) : VC55 l (fun r => r = oper_Pairs l) := by
  have hl : l.length ≤ 5000 := h
  have hsq : ∀ t, t ≤ l.length → l.length * t ≤ 5000 * 5000 := fun t ht => Nat.mul_le_mul hl (by omega)
  unfold VC55
  intro _
  simp only [decide_eq_true_eq, decide_eq_false_iff_not]
  refine ⟨fun out x => ∃ t : Nat, x = t ∧ t ≤ l.length ∧ out = (List.range t).flatMap (fun i => pairsOf l i l.length), fun _ x => (l.length - x).toNat, ⟨0, rfl, by omega, rfl⟩, ?_⟩
  rintro _ _ ⟨t, rfl, ht, rfl⟩
  have hpl := pairs_le l l.length t
  have hq := hsq t ht
  refine ⟨fun hx => ⟨⟨by omega, hx⟩, ?_⟩, fun hx => ?_⟩
  · refine ⟨fun out y => ∃ u : Nat, y = u ∧ u ≤ l.length ∧ out = (List.range t).flatMap (fun i => pairsOf l i l.length) ++ pairsOf l t u, fun _ y => (l.length - y).toNat, ⟨0, rfl, by omega, by simp [pairsOf]⟩, ?_⟩
    rintro _ _ ⟨u, rfl, hu, rfl⟩
    have hp2 := pairsOf_le l t u
    refine ⟨fun hy => ⟨⟨by omega, hy⟩, ?_⟩, fun hy => ?_⟩
    · rintro _ rfl
      refine ⟨fun ha => ⟨?_, ?_⟩, fun ha => ?_⟩
      · simp only [List.length_append, List.length_cons, List.length_nil]; omega
      · unfold VC55_J3
        rw [wrp (by omega) (by omega)]
        refine ⟨⟨u + 1, by simp, by omega, ?_⟩, by dsimp only; omega⟩
        rw [pairsOf_succ, if_pos ha, List.append_assoc]
      · unfold VC55_J3
        rw [wrp (by omega) (by omega)]
        refine ⟨⟨u + 1, by simp, by omega, ?_⟩, by dsimp only; omega⟩
        rw [pairsOf_succ, if_neg (by rw [ha]; decide), List.append_nil]
    · have : u = l.length := by omega
      subst this
      unfold VC55_J2
      rw [wrp (by omega) (by omega)]
      refine ⟨⟨t + 1, by simp, by omega, ?_⟩, by dsimp only; omega⟩
      rw [List.range_succ, List.flatMap_append]; simp
  · have : t = l.length := by omega
    subst this
    rfl

theorem check_ok (l : List Api_Oper) : ∀ (f : Nat) (u : List (Int × Int)) (la : List (Int × Api_Oper)) (i : Nat), i + f = l.length → (checkGo l f u la i).2 = 0 → ∀ j : Nat, i ≤ j → j < l.length → oper_alone (gi l (j : Int)) = 0 ∧ (0 < j → (gi l ((j : Int) - 1)).Start < (gi l (j : Int)).Start)
  | 0, u, la, i, hif, _, j, h1, h2 => by omega
  | f + 1, u, la, i, hif, h, j, h1, h2 => by
    rw [checkGo] at h
    by_cases ha : oper_alone (gi l (i : Int)) ≠ 0
    · rw [if_pos ha] at h; exact absurd h ha
    · rw [if_neg ha] at h
      by_cases h32 : out32 l u i
      · rw [if_pos h32] at h; simp at h
      · rw [if_neg h32] at h
        by_cases h33 : out33 l la i = true
        · rw [if_pos h33] at h; simp at h
        · rw [if_neg h33] at h
          by_cases hji : j = i
          · subst hji
            refine ⟨by omega, fun h0 => ?_⟩
            apply Classical.byContradiction
            intro hn
            exact h32 (Or.inl ⟨h0, by omega⟩)
          · exact check_ok l f _ _ (i + 1) (by omega) h j (by omega) h2

theorem starts_lt {l : List Api_Oper} (h : ∀ j : Nat, j < l.length → 0 < j → (gi l ((j : Int) - 1)).Start < (gi l (j : Int)).Start) {i : Nat} : ∀ j : Nat, i < j → j < l.length → (gi l (i : Int)).Start < (gi l (j : Int)).Start
  | 0, h1, _ => by omega
  | j + 1, h1, h2 => by
    have hs := h (j + 1) h2 (by omega)
    rw [show ((j + 1 : Nat) : Int) - 1 = j by omega] at hs
    by_cases hij : i = j
    · rw [hij]; exact hs
    · have := starts_lt h (i := i) j (by omega) (by omega)
      omega

theorem v16 (l : List Api_Oper) : VC16 l (fun r => r = true) := by
  unfold VC16
  intro _
  refine ⟨fun _ r hr => by subst hr; rfl, fun hlen => ?_⟩
  rw [decide_eq_false_iff_not] at hlen
  rintro _ rfl
  refine ⟨fun _ r hr => by subst hr; rfl, fun hok => ?_⟩
  have hok : (oper_Check l).2 = 0 := by simpa using hok
  have hp : l.length ≤ 5000 := by omega
  refine ⟨hp, ?_⟩
  rintro _ rfl _
  unfold oper_Check at hok
  rw [if_neg (by omega)] at hok
  have hall := fun j hj => check_ok l l.length [] [] 0 (by omega) hok j (Nat.zero_le _) hj
  have hst := fun (i : Nat) => starts_lt (l := l) (fun j hj h0 => (hall j hj).2 h0) (i := i)
  have hmem : ∀ p ∈ oper_Pairs l, ∃ i j : Nat, p = ((i : Int), (j : Int)) ∧ i < l.length ∧ j < l.length ∧ oper_Ahead (gi l (i : Int)) (gi l (j : Int)) = true := by
    intro p hp
    unfold oper_Pairs at hp
    rw [List.mem_flatMap] at hp
    obtain ⟨i, hi, hp⟩ := hp
    rw [List.mem_range] at hi
    unfold pairsOf at hp
    rw [List.mem_map] at hp
    obtain ⟨j, hj, rfl⟩ := hp
    rw [List.mem_filter, List.mem_range] at hj
    exact ⟨i, j, rfl, hi, hj.1, hj.2⟩
  have hgo : ∀ m k : Nat, k + m = l.length → sortGo l.length (oper_Pairs l) m ((List.range k).map Int.ofNat) = ((List.range l.length).map Int.ofNat, true) := by
    intro m
    induction m with
    | zero => intro k hk; rw [sortGo]; rw [show k = l.length by omega]
    | succ m ih =>
      intro k hk
      have hin : ∀ x : Int, x ∈ (List.range k).map Int.ofNat ↔ 0 ≤ x ∧ x < k := by
        intro x
        rw [List.mem_map]
        constructor
        · rintro ⟨y, hy, rfl⟩
          rw [List.mem_range] at hy
          exact ⟨by simp, by simpa using hy⟩
        · rintro ⟨h0, h1⟩
          exact ⟨x.toNat, by rw [List.mem_range]; omega, by simp; omega⟩
      have hnext : nextOf l.length (oper_Pairs l) ((List.range k).map Int.ofNat) = some k := by
        refine next_at (by omega) ?_ (fun y hy => ?_)
        · unfold times_Sort_1
          rw [Bool.or_eq_false_iff, decide_eq_false_iff_not, List.any_eq_false]
          refine ⟨fun hm => by have := (hin _).mp hm; omega, fun p hpm hb => ?_⟩
          obtain ⟨i, j, rfl, hi, hj, ha⟩ := hmem p hpm
          unfold times_Sort_1_1 at hb
          simp only [Bool.and_eq_true, beq_iff_eq, Bool.not_eq_true', decide_eq_false_iff_not] at hb
          obtain ⟨⟨hpr, hjk⟩, hni⟩ := hb
          have hjk : j = k := by omega
          subst hjk
          have hij : ¬ i < j := fun h => hni ((hin _).mpr ⟨by omega, by omega⟩)
          unfold times_proper at hpr
          rw [decide_eq_true_eq] at hpr
          have hne : i ≠ j := by intro e; apply hpr.2.2.2.2; rw [e]
          have hs := hst j i (by omega) hi
          have hal := (hall i hi).1
          unfold oper_Ahead at ha
          rw [Bool.and_eq_true, decide_eq_true_eq, decide_eq_true_eq] at ha
          unfold oper_alone at hal
          split at hal
          · cases hal
          · split at hal
            · cases hal
            · split at hal
              · cases hal
              · rename_i hen
                have hen : oper_ended (gi l (i : Int)) = true := by simpa using hen
                unfold oper_ended at hen
                split at hen
                · omega
                · simp only [Bool.and_eq_true, decide_eq_true_eq] at hen
                  omega
        · unfold times_Sort_1
          rw [Bool.or_eq_true, decide_eq_true_eq]
          exact Or.inl ((hin _).mpr ⟨by omega, by omega⟩)
      rw [sortGo, hnext]
      have := ih (k + 1) (by omega)
      rw [List.range_succ, List.map_append] at this
      exact this
  have hsort : times_Sort l.length (oper_Pairs l) = ((List.range l.length).map Int.ofNat, true) := by
    unfold times_Sort
    rw [if_neg (by omega)]
    exact hgo _ 0 (by simp)
  rintro _ rfl _
  rw [hsort]
  refine ⟨fun h => by simp at h, fun _ => ?_⟩
  refine ⟨fun x => 0 ≤ x ∧ x ≤ l.length, fun x => (l.length - x).toNat, ⟨by omega, by omega⟩, ?_⟩
  rintro x ⟨x0, x1⟩
  simp only [List.length_map, List.length_range]
  refine ⟨fun hx => ?_, fun hx => ?_⟩
  · rw [decide_eq_true_eq] at hx
    refine ⟨⟨x0, hx⟩, fun hb => ?_, fun _ => ?_⟩
    · exfalso
      rw [bne_iff_ne] at hb
      apply hb
      rw [gi_cast x0 (by simpa using hx)]
      simp; omega
    · rw [wrp (by omega) (by omega)]
      exact ⟨⟨by omega, by omega⟩, by omega⟩
  · unfold VC16_J1
    rintro _ rfl; rfl
end Go.Proofs.Ytlpcjbjlgeaapaa
