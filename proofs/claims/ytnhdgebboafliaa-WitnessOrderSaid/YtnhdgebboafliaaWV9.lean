/- Plain lemmas about the specification functions. Conditions: in each lemma. -/
import Derived.Test.YtnhdgebboafliaaWV3
set_option linter.all false
namespace Go.Proofs.Ytnhdgebboafliaa
open Go Go.Sv Go.Pu

theorem preOne : preO law29_one := ⟨⟨by decide, by decide⟩, ⟨by decide, by decide⟩⟩
theorem v26 : VC26 (fun r => r = law29_awake) := by
  have e1 : witness_Check law29_one law29_three [⟨0, 7⟩, ⟨1, 7⟩, ⟨2, 7⟩] = (3, 0) := by decide +kernel
  have e2 : witness_Check law29_one law29_three [⟨1, 7⟩, ⟨0, 7⟩] = (0, 42) := by decide +kernel
  have e3 : witness_Check law29_one law29_three [⟨0, 7⟩] = (1, 41) := by decide +kernel
  have e4 : witness_Check law29_one law29_three [⟨0, 7⟩, ⟨0, 7⟩] = (1, 21) := by decide +kernel
  have e5 : witness_Check ⟨0, 0, 0, []⟩ [] [] = (-1, 2) := by decide +kernel
  have e6 : witness_Is law29_one law29_three [⟨0, 7⟩, ⟨1, 7⟩] = true := by decide +kernel
  have e7 : witness_Is law29_one law29_three [] = false := by decide +kernel
  have e8 : witness_Order law29_three [⟨2, 7⟩] = 0 := by decide +kernel
  have e9 : witness_Order law29_three [⟨0, 7⟩, ⟨1, 7⟩, ⟨2, 7⟩] = -1 := by decide +kernel
  have e10 : witness_Missing law29_three [⟨1, 7⟩] = [0] := by decide +kernel
  have e11 : witness_Left law29_three [] = [2] := by decide +kernel
  have p2 : ∀ (x : List Api_Pick), x.length ≤ 1000000 → preO2 law29_one law29_three x := fun x h => ⟨preOne, h⟩
  have q1 := p2 [⟨0, 7⟩, ⟨1, 7⟩, ⟨2, 7⟩] (by decide)
  have q2 := p2 [⟨1, 7⟩, ⟨0, 7⟩] (by decide)
  have q3 := p2 [⟨0, 7⟩] (by decide)
  have q4 := p2 [⟨0, 7⟩, ⟨0, 7⟩] (by decide)
  have q5 := p2 [⟨0, 7⟩, ⟨1, 7⟩] (by decide)
  have q6 := p2 [] (by decide)
  have q7 : preO2 ⟨0, 0, 0, []⟩ [] [] := ⟨⟨⟨by decide, by decide⟩, ⟨by decide, by decide⟩⟩, by decide⟩
  have q8 : ∀ p, preT2 law29_three p := fun _ => by unfold preT2; decide
  unfold VC26
  simp only [forall_eq', e1, e2, e3, e4, e5, e6, e7, e8, e9, e10, e11, q1, q2, q3, q4, q5, q6, q7, q8, true_and, ref01_SameInts, law29_awake]
  simp

/-- What a run without a fault picks. -/
theorem run_ok {o : Api_Object} {l : List Api_Oper} : ∀ {p : List Api_Pick} {prev : List Int} {s : Int}, (runL o l prev s p).2.2 = 0 → (opers p).Nodup ∧ ∀ x ∈ opers p, 0 ≤ x ∧ x < l.length ∧ x ∉ prev
  | [], _, _, _ => ⟨List.nodup_nil, fun x hx => by cases hx⟩
  | q :: p, prev, s, h => by
    rw [runL] at h
    by_cases he : (stepOne o l prev s q).2 ≠ 0
    · rw [if_pos he] at h; exact absurd h he
    · rw [if_neg he] at h
      obtain ⟨i1, i2⟩ := run_ok (p := p) h
      have hin : ¬ (q.Oper < 0 ∨ q.Oper ≥ l.length) ∧ q.Oper ∉ prev := by
        unfold stepOne at he
        by_cases h1 : q.Oper < 0 ∨ q.Oper ≥ l.length
        · rw [if_pos h1] at he; exact absurd (by decide) he
        · rw [if_neg h1] at he
          refine ⟨h1, fun h2 => ?_⟩
          rw [if_pos h2] at he; exact absurd (by decide) he
      have e : opers (q :: p) = q.Oper :: opers p := rfl
      rw [e, List.nodup_cons]
      refine ⟨⟨fun hm => ?_, i1⟩, fun x hx => ?_⟩
      · exact (i2 _ hm).2.2 (List.mem_cons_self ..)
      · rcases List.mem_cons.mp hx with rfl | hx
        · exact ⟨by omega, by omega, hin.2⟩
        · obtain ⟨a, b, c⟩ := i2 x hx
          exact ⟨a, b, fun hp => c (List.mem_cons_of_mem _ hp)⟩
theorem not_count (n : Nat) : ∀ (S : List Int), S.Nodup → (∀ x ∈ S, 0 ≤ x ∧ x < n) → ((List.range n).filter (fun i : Nat => !decide ((i : Int) ∈ S))).length + S.length = n
  | [], _, _ => by simp; rw [List.filter_eq_self.mpr (fun _ _ => rfl), List.length_range]
  | a :: S, hn, hr => by
    have ih := not_count n S (List.nodup_cons.mp hn).2 (fun x hx => hr x (List.mem_cons_of_mem _ hx))
    obtain ⟨h0, h1⟩ := hr a (List.mem_cons_self ..)
    have hF : ((List.range n).filter (fun i : Nat => !decide ((i : Int) ∈ S))).Nodup := List.Pairwise.filter _ List.nodup_range
    have hm : a.toNat ∈ (List.range n).filter (fun i : Nat => !decide ((i : Int) ∈ S)) := by
      rw [List.mem_filter, List.mem_range]
      refine ⟨by omega, ?_⟩
      have : (a.toNat : Int) = a := by omega
      simp [this, (List.nodup_cons.mp hn).1]
    have he : (List.range n).filter (fun i : Nat => !decide ((i : Int) ∈ a :: S)) = ((List.range n).filter (fun i : Nat => !decide ((i : Int) ∈ S))).erase a.toNat := by
      rw [hF.erase_eq_filter, List.filter_filter]
      congr 1
      funext i
      rw [Bool.eq_iff_iff]
      simp only [Bool.not_eq_true', decide_eq_false_iff_not, List.mem_cons, Bool.and_eq_true, bne_iff_ne]
      constructor
      · intro h; exact ⟨fun h2 => h (Or.inl (by omega)), fun h2 => h (Or.inr h2)⟩
      · rintro ⟨h2, h3⟩ (h4 | h4)
        · exact h2 (by omega)
        · exact h3 h4
    have hpos := List.length_pos_of_mem hm
    rw [he, List.length_erase_of_mem hm, List.length_cons]
    omega
theorem part_len {α : Type} (c d : α → Bool) : ∀ L : List α, (L.filter (fun i => (c i == false) && d i)).length + (L.filter (fun i => (c i == true) && d i)).length = (L.filter d).length
  | [] => rfl
  | x :: L => by
    have ih := part_len c d L
    simp only [List.filter_cons]
    cases hc : c x <;> cases hd : d x <;> simp at ih ⊢ <;> omega
theorem those_len {l : List Api_Oper} {p : List Api_Pick} (hn : (opers p).Nodup) (hr : ∀ x ∈ opers p, 0 ≤ x ∧ x < l.length) : (witness_Missing l p).length + (witness_Left l p).length + p.length = l.length := by
  have h1 := not_count l.length (opers p) hn hr
  have h2 := part_len (fun i : Nat => (gi l (i : Int)).End == -1) (fun i : Nat => !decide ((i : Int) ∈ opers p)) (List.range l.length)
  have h3 : (opers p).length = p.length := by unfold opers; rw [List.length_map]
  have e1 : (witness_Missing l p).length = ((List.range l.length).filter (fun i : Nat => (((gi l (i : Int)).End == -1) == false) && !decide ((i : Int) ∈ opers p))).length := by
    unfold witness_Missing witness_those thoseTo isThose; rw [List.length_map]
  have e2 : (witness_Left l p).length = ((List.range l.length).filter (fun i : Nat => (((gi l (i : Int)).End == -1) == true) && !decide ((i : Int) ∈ opers p))).length := by
    unfold witness_Left witness_those thoseTo isThose; rw [List.length_map]
  omega
theorem mem_missing {l : List Api_Oper} {p : List Api_Pick} {m : Int} : m ∈ witness_Missing l p ↔ 0 ≤ m ∧ m < l.length ∧ (gi l m).End ≠ -1 ∧ m ∉ opers p := by
  unfold witness_Missing witness_those thoseTo isThose
  rw [List.mem_map]
  constructor
  · rintro ⟨i, hi, rfl⟩
    rw [List.mem_filter, List.mem_range] at hi
    obtain ⟨h1, h2⟩ := hi
    simp only [Bool.and_eq_true, beq_iff_eq, beq_eq_false_iff_ne, Bool.not_eq_true', decide_eq_false_iff_not] at h2
    exact ⟨by omega, by omega, h2.1, h2.2⟩
  · rintro ⟨h0, h1, h2, h3⟩
    refine ⟨m.toNat, ?_, by omega⟩
    have e : (m.toNat : Int) = m := by omega
    rw [List.mem_filter, List.mem_range, e]
    refine ⟨by omega, ?_⟩
    simp only [Bool.and_eq_true, beq_iff_eq, beq_eq_false_iff_ne, Bool.not_eq_true', decide_eq_false_iff_not]
    exact ⟨h2, h3⟩
theorem order_neg {l : List Api_Oper} {p : List Api_Pick} (h : ¬ witness_Order l p ≥ 0) : ∀ y : Nat, y < p.length → orderBad l p y = false := by
  unfold witness_Order orderTo at h
  cases hf : (List.range p.length).find? (orderBad l p) with
  | none =>
    rw [List.find?_eq_none] at hf
    intro y hy
    have := hf y (List.mem_range.mpr hy)
    simpa using this
  | some x => rw [hf] at h; exact absurd (by dsimp only; omega) h
theorem is_iff {o : Api_Object} {l : List Api_Oper} {p : List Api_Pick} : witness_Is o l p = true ↔ (object_Check o).2 = 0 ∧ (oper_Check l).2 = 0 ∧ (run_Picks o l p).2.2 = 0 ∧ (∀ y : Nat, y < p.length → orderBad l p y = false) ∧ ∀ m, m ∉ witness_Missing l p := by
  unfold witness_Is
  rw [beq_iff_eq]
  unfold witness_Check
  by_cases h1 : (object_Check o).2 ≠ 0 ∨ (oper_Check l).2 ≠ 0
  · rw [if_pos h1]
    exact ⟨(fun h => by cases h), fun h => by omega⟩
  · rw [if_neg h1]
    by_cases h2 : (run_Picks o l p).2.2 ≠ 0
    · rw [if_pos h2]
      exact ⟨fun h => absurd h h2, fun h => absurd h.2.2.1 h2⟩
    · rw [if_neg h2]
      by_cases h3 : witness_Order l p ≥ 0
      · rw [if_pos h3]
        refine ⟨(fun h => by cases h), fun h => ?_⟩
        rw [order_no h.2.2.2.1] at h3
        exact absurd h3 (by decide)
      · rw [if_neg h3]
        by_cases h4 : (witness_Missing l p).length > 0
        · rw [if_pos h4]
          refine ⟨(fun h => by cases h), fun h => ?_⟩
          exact absurd (List.getElem_mem h4) (h.2.2.2.2 _)
        · rw [if_neg h4]
          refine ⟨fun _ => ⟨by omega, by omega, by omega, order_neg h3, fun m hm => h4 (List.length_pos_of_mem hm)⟩, fun _ => rfl⟩
theorem picks_ok {o : Api_Object} {l : List Api_Oper} {p : List Api_Pick} (h : (run_Picks o l p).2.2 = 0) : (opers p).Nodup ∧ ∀ x ∈ opers p, 0 ≤ x ∧ x < l.length := by
  unfold run_Picks ref28_From at h
  split at h
  · rename_i hm; exact absurd h hm
  · have := run_ok h
    exact ⟨this.1, fun x hx => ⟨(this.2 x hx).1, (this.2 x hx).2.1⟩⟩
theorem place_mem {p : List Api_Pick} {i : Int} : ref29_Place p i ≥ 0 ↔ i ∈ opers p := by
  have hm := mem_opers (p := p) (i := i) (Nat.le_refl _)
  rw [List.take_length] at hm
  rcases place_spec p i with ⟨h1, h2⟩ | ⟨k, h1, h2, h3, _⟩
  · rw [h1]; exact ⟨fun h => absurd h (by decide), fun h => absurd h h2⟩
  · rw [h2, hm]; exact ⟨fun _ => ⟨k, h1, h3⟩, fun _ => by omega⟩
theorem take_bad {l : List Api_Oper} {p : List Api_Pick} {t y : Nat} (hy : y < t) (ht : t ≤ p.length) : orderBad l (p.take t) y = orderBad l p y := by
  have e1 : gi (p.take t) (y : Int) = gi p (y : Int) := by
    rw [gi_nat _ _ (by rw [List.length_take]; omega), gi_nat _ _ (by omega), List.getElem_take]
  have e2 : (p.take t).take y = p.take y := by rw [List.take_take, Nat.min_eq_left (by omega)]
  unfold orderBad
  rw [e1, e2]
theorem v7 {A B C : Prop} (o : Api_Object) (l : List Api_Oper) (p : List Api_Pick) (ho : inR .i64 o.States ∧ inR .i64 o.Kinds ∧ A) (_ : B) (_ : C) : VC7 o l p (fun r => r = true) := by
  have hp : preO o := ⟨ho.1, ho.2.1⟩
  unfold VC7
  intro _ _ _
  rintro _ rfl
  refine ⟨fun _ => ⟨fun _ r hr => hr.symm, (fun h => by cases h)⟩, fun h => ?_⟩
  simp only [Bool.or_eq_false_iff, decide_eq_false_iff_not] at h
  refine ⟨⟨hp, by omega⟩, ?_⟩
  rintro _ rfl
  unfold VC7_J1
  refine ⟨fun _ r hr => hr.symm, fun hi => ?_⟩
  have hi : witness_Is o l p = true := by simpa using hi
  obtain ⟨-, -, hrun, hord, hmis⟩ := is_iff.mp hi
  obtain ⟨hnd, hin⟩ := picks_ok hrun
  refine ⟨fun x => ∃ t : Nat, x = t ∧ t ≤ p.length + 1, fun x => (p.length + 1 - x).toNat, ⟨0, rfl, by omega⟩, ?_⟩
  rintro _ ⟨t, rfl, ht⟩
  refine ⟨fun hx => ?_, fun _ => fun r hr => hr.symm⟩
  rw [decide_eq_true_eq] at hx
  have et : (t : Int).toNat = t := by omega
  rw [et]
  refine ⟨⟨by omega, by omega⟩, (show l.length ≤ _ by omega), ?_⟩
  rintro _ rfl _ _ rfl
  have hlt : (p.take t).length = t := by rw [List.length_take]; omega
  have ho : witness_Order l (p.take t) = -1 := order_no (fun y hy => by rw [take_bad (by omega) (by omega)]; exact hord y (by omega))
  rw [ho]
  refine ⟨fun h => absurd h (by decide), fun _ => ⟨(show l.length ≤ _ by omega), ?_⟩⟩
  rintro _ rfl _
  have hsub : (opers (p.take t)).Sublist (opers p) := (List.take_sublist t p).map _
  have hlen := those_len (l := l) (p := p.take t) (hsub.nodup hnd) (fun x hx => hin x (hsub.subset hx))
  rw [hlt] at hlen
  rw [wrp (n := ((witness_Missing l (p.take t)).length : Int) + _) (by omega) (by omega), wrp (by omega) (by omega)]
  have e0 : ((((witness_Missing l (p.take t)).length : Int) + ((witness_Left l (p.take t)).length : Int) + (t : Int)) != (l.length : Int)) = false := by
    rw [bne_eq_false_iff_eq]; omega
  unfold VC7_J4
  refine ⟨(fun h => by rw [e0] at h; cases h), fun _ => ?_⟩
  refine ⟨fun x => 0 ≤ x ∧ x ≤ (witness_Missing l (p.take t)).length, fun x => ((witness_Missing l (p.take t)).length - x).toNat, ⟨by omega, by omega⟩, ?_⟩
  rintro k ⟨hk0, hk1⟩
  refine ⟨fun hk => ?_, fun _ => ?_⟩
  · rw [decide_eq_true_eq] at hk
    refine ⟨⟨by omega, by omega⟩, ⟨by omega, by omega⟩, ?_⟩
    rintro _ rfl
    have hm : gi (witness_Missing l (p.take t)) k ∈ witness_Missing l (p.take t) := by
      rw [gi_cast hk0 hk]; exact List.getElem_mem _
    have hm2 := mem_missing.mp hm
    have hm3 : gi (witness_Missing l (p.take t)) k ∈ opers p := by
      apply Classical.byContradiction
      intro hn
      exact hmis _ (mem_missing.mpr ⟨hm2.1, hm2.2.1, hm2.2.2.1, hn⟩)
    have hsplit : opers p = opers (p.take t) ++ opers (p.drop t) := by unfold opers; rw [← List.map_append, List.take_append_drop]
    rw [hsplit, List.mem_append] at hm3
    have hpl := place_mem.mpr (hm3.resolve_left hm2.2.2.2)
    refine ⟨fun h => ?_, fun _ => ?_⟩
    · rw [decide_eq_true_eq, et] at h; omega
    · rw [wrp (by omega) (by omega)]
      exact ⟨⟨by omega, by omega⟩, by dsimp only; omega⟩
  · unfold VC7_J3
    rw [wrp (by omega) (by omega)]
    exact ⟨⟨t + 1, by simp, by omega⟩, by dsimp only; omega⟩
theorem ahead_irr {l : List Api_Oper} (h : (oper_Check l).2 = 0) {i : Int} (h0 : 0 ≤ i) (h1 : i < l.length) : oper_Ahead (gi l i) (gi l i) = false := by
  have hl := check_len h
  unfold oper_Check at h
  rw [if_neg (by omega)] at h
  have ha := (check_ok l l.length [] [] 0 (by omega) h i.toNat (by omega) (by omega)).1
  have e : (i.toNat : Int) = i := by omega
  rw [e] at ha
  unfold oper_alone at ha
  unfold oper_Ahead
  split at ha
  · cases ha
  · split at ha
    · cases ha
    · split at ha
      · cases ha
      · rename_i _ _ he
        have he : oper_ended (gi l i) = true := by simpa using he
        unfold oper_ended at he
        rw [Bool.and_eq_false_iff, decide_eq_false_iff_not, decide_eq_false_iff_not]
        split at he
        · left; omega
        · simp only [Bool.and_eq_true, decide_eq_true_eq] at he
          right; omega
theorem lin_iff {o : Api_Object} {l : List Api_Oper} {p : List Api_Pick} : ref29_Lin o l p = true ↔ (run_Picks o l p).2.2 = 0 ∧ ∀ i : Nat, i < l.length → ((gi l (i : Int)).End ≠ -1 → ref29_Place p i ≥ 0) ∧ ∀ k : Nat, k < l.length → oper_Ahead (gi l (i : Int)) (gi l (k : Int)) = true → ref29_Place p k ≥ 0 → ref29_Place p i ≥ 0 ∧ ref29_Place p i ≤ ref29_Place p k := by
  unfold ref29_Lin
  rw [Bool.and_eq_true, decide_eq_true_eq, List.all_eq_true]
  have e : ∀ i, linAt l p i = true ↔ ((gi l (i : Int)).End ≠ -1 → ref29_Place p i ≥ 0) ∧ ∀ k : Nat, k < l.length → oper_Ahead (gi l (i : Int)) (gi l (k : Int)) = true → ref29_Place p k ≥ 0 → ref29_Place p i ≥ 0 ∧ ref29_Place p i ≤ ref29_Place p k := by
    intro i
    unfold linAt
    rw [Bool.and_eq_true, List.all_eq_true]
    have a1 : (!(((gi l (i : Int)).End != -1) && decide (ref29_Place p i < 0))) = true ↔ ((gi l (i : Int)).End ≠ -1 → ref29_Place p i ≥ 0) := by
      rw [Bool.not_eq_true', Bool.and_eq_false_iff, bne_eq_false_iff_eq, decide_eq_false_iff_not]
      omega
    rw [a1]
    refine and_congr Iff.rfl ⟨fun h k hk ha hp => ?_, fun h k hk => ?_⟩
    · have := h k (List.mem_range.mpr hk)
      unfold linPair at this
      rw [ha, Bool.not_eq_true', Bool.true_and, Bool.and_eq_false_iff, decide_eq_false_iff_not, Bool.or_eq_false_iff, decide_eq_false_iff_not, decide_eq_false_iff_not] at this
      omega
    · unfold linPair
      rw [Bool.not_eq_true', Bool.and_eq_false_iff, Bool.and_eq_false_iff, decide_eq_false_iff_not, Bool.or_eq_false_iff, decide_eq_false_iff_not, decide_eq_false_iff_not]
      cases ha : oper_Ahead (gi l (i : Int)) (gi l (k : Int)) with
      | false => exact Or.inl (Or.inl rfl)
      | true =>
        have := h k (List.mem_range.mp hk) ha
        by_cases hp : ref29_Place p k ≥ 0
        · have := this hp; right; omega
        · exact Or.inl (Or.inr hp)
  constructor
  · rintro ⟨h1, h2⟩
    exact ⟨h1, fun i hi => (e i).mp (h2 i (List.mem_range.mpr hi))⟩
  · rintro ⟨h1, h2⟩
    exact ⟨h1, fun i hi => (e i).mpr (h2 i (List.mem_range.mp hi))⟩
theorem is_lin {o : Api_Object} {l : List Api_Oper} {p : List Api_Pick} (hc : (object_Check o).2 = 0) (hl : (oper_Check l).2 = 0) : witness_Is o l p = ref29_Lin o l p := by
  rw [Bool.eq_iff_iff, is_iff, lin_iff]
  constructor
  · rintro ⟨-, -, hrun, hord, hmis⟩
    refine ⟨hrun, fun i hi => ⟨fun he => ?_, fun k hk ha hp => ?_⟩⟩
    · rw [ge_iff_le, ← ge_iff_le, place_mem]
      apply Classical.byContradiction
      intro hn
      exact hmis i (mem_missing.mpr ⟨by omega, by omega, he, hn⟩)
    · rcases place_spec p (k : Int) with ⟨h1, _⟩ | ⟨x, h1, h2, h3, _⟩
      · omega
      · have hb := hord x h1
        have hmem : (i : Int) ∈ opers (p.take x) := by
          apply Classical.byContradiction
          intro hn
          rw [bad_of (k := i) (by rw [h3]; omega) hi (by rw [h3]; exact ha) hn] at hb
          cases hb
        obtain ⟨j, hj, hji⟩ := (mem_opers (by omega)).mp hmem
        rcases place_spec p (i : Int) with ⟨g1, g2⟩ | ⟨y, g1, g2, g3, g4⟩
        · exfalso
          apply g2
          have := (mem_opers (p := p) (i := (i : Int)) (Nat.le_refl _)).mpr ⟨j, by omega, hji⟩
          rwa [List.take_length] at this
        · have : ¬ j < y := fun h => g4 j h hji
          omega
  · rintro ⟨hrun, h⟩
    obtain ⟨hnd, hin⟩ := picks_ok hrun
    refine ⟨hc, hl, hrun, fun x hx => bad_no (fun k hk hh => ?_), fun m hm => ?_⟩
    · obtain ⟨ha, hn⟩ := hh
      have hxm : (gi p (x : Int)).Oper ∈ opers p := by
        have := (mem_opers (p := p) (i := (gi p (x : Int)).Oper) (Nat.le_refl _)).mpr ⟨x, hx, rfl⟩
        rwa [List.take_length] at this
      have hr := hin _ hxm
      have e : (((gi p (x : Int)).Oper.toNat : Nat) : Int) = (gi p (x : Int)).Oper := by omega
      have hpl := place_mem.mpr hxm
      have h2 := (h k hk).2 (gi p (x : Int)).Oper.toNat (by omega) (by rw [e]; exact ha) (by rw [e]; exact hpl)
      rw [e] at h2
      rcases place_spec p (gi p (x : Int)).Oper with ⟨g1, _⟩ | ⟨y, g1, g2, g3, g4⟩
      · omega
      · have hyx : ¬ x < y := fun hh => g4 x hh rfl
        rcases place_spec p (k : Int) with ⟨f1, _⟩ | ⟨z, f1, f2, f3, f4⟩
        · omega
        · by_cases hzx : z < x
          · exact hn ((mem_opers (by omega)).mpr ⟨z, hzx, f3⟩)
          · have : z = y := by omega
            subst this
            rw [f3] at g3
            rw [← g3] at ha
            rw [ahead_irr hl (by omega) (by omega)] at ha
            cases ha
    · obtain ⟨h0, h1, h2, h3⟩ := mem_missing.mp hm
      have e : ((m.toNat : Nat) : Int) = m := by omega
      have := (h m.toNat (by omega)).1 (by rw [e]; exact h2)
      rw [e] at this
      exact h3 (place_mem.mp this)
theorem v8 {A B C : Prop} (o : Api_Object) (l : List Api_Oper) (p : List Api_Pick) (ho : inR .i64 o.States ∧ inR .i64 o.Kinds ∧ A) (_ : B) (_ : C) : VC8 o l p (fun r => r = true) := by
  have hp : preO o := ⟨ho.1, ho.2.1⟩
  unfold VC8
  intro _ _ _
  rintro _ rfl
  refine ⟨fun _ r hr => hr.symm, fun h => ?_⟩
  simp only [Bool.or_eq_false_iff, decide_eq_false_iff_not] at h
  have h2 : preO2 o l p := ⟨hp, by omega⟩
  have no : ¬ ((object_Check o).2 = 0 ∧ (oper_Check l).2 = 0) → witness_Is o l p = false := fun hn => by
    cases hi : witness_Is o l p with
    | false => rfl
    | true => have := is_iff.mp hi; exact absurd ⟨this.1, this.2.1⟩ hn
  refine ⟨hp, ?_⟩
  rintro _ rfl
  refine ⟨fun h3 => ⟨h2, ?_⟩, fun h3 => ?_⟩
  · rw [bne_iff_ne] at h3
    rintro _ rfl
    refine ⟨fun _ r hr => hr.symm, fun h4 => ?_⟩
    rw [no (fun hh => h3 hh.1)] at h4
    cases h4
  · rw [bne_eq_false_iff_eq] at h3
    rintro _ rfl
    refine ⟨fun h4 => ⟨h2, ?_⟩, fun h4 => ⟨h2, ?_⟩⟩
    · rw [bne_iff_ne] at h4
      rintro _ rfl
      refine ⟨fun _ r hr => hr.symm, fun h5 => ?_⟩
      rw [no (fun hh => h4 hh.2)] at h5
      cases h5
    · rw [bne_eq_false_iff_eq] at h4
      rintro _ rfl _ rfl
      refine ⟨fun _ r hr => hr.symm, fun h5 => ?_⟩
      rw [is_lin h3 h4] at h5
      simp at h5
end Go.Proofs.Ytnhdgebboafliaa
