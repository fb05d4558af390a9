/- Plain lemmas about the specification functions. Conditions: in each lemma. -/
import Derived.Test.YtnhdgebboafliaaRV3
set_option linter.all false
namespace Go.Proofs.Ytnhdgebboafliaa
open Go Go.Sv Go.Pu

theorem preFlag : preO law28_flag := ⟨⟨by decide, by decide⟩, ⟨by decide, by decide⟩⟩
theorem v13 : VC13 (fun r => r = law28_awake) := by
  have e1 : run_Picks law28_flag law28_ops [⟨0, 0⟩, ⟨1, 1⟩] = (1, 2, 0) := by decide
  have d1 : ([⟨0, 0⟩, ⟨1, 1⟩] : List Api_Pick).drop (1 : Int).toNat = [⟨1, 1⟩] := rfl
  have e2 : run_Picks law28_flag law28_ops [⟨1, 1⟩] = (0, 0, 40) := by decide
  have e3 : run_Fill law28_flag law28_ops [0, 1] = ([⟨0, 0⟩, ⟨1, 1⟩], 0) := by decide
  have e4 : run_Fill law28_flag law28_ops [1] = ([], 40) := by decide
  have e5 : run_Step law28_flag 0 0 0 = (1, 0) := by decide
  have e6 : run_Step law28_flag 2 0 0 = (0, 30) := by decide
  have e7 : run_From law28_flag law28_ops 1 [⟨1, 1⟩] = (1, 1, 0) := by decide
  have e8 : run_From law28_flag law28_ops 5 [] = (0, -1, 30) := by decide
  have e9 : run_States law28_flag law28_ops [⟨0, 0⟩, ⟨1, 1⟩] = [0, 1, 1] := by decide
  have e10 : run_States law28_flag law28_ops [⟨1, 1⟩] = [] := by decide
  have p2 : ∀ {α : Type} (x : List α), x.length ≤ 1000000 → preO2 law28_flag law28_ops x := fun x h => ⟨preFlag, h⟩
  have p3 : ∀ s x, preO3 law28_flag law28_ops s x := fun _ _ => preFlag
  have q1 : preO2 law28_flag law28_ops ([⟨0, 0⟩, ⟨1, 1⟩] : List Api_Pick) := p2 _ (by decide)
  have q2 : preO2 law28_flag law28_ops ([⟨1, 1⟩] : List Api_Pick) := p2 _ (by decide)
  have q3 : preO2 law28_flag law28_ops ([0, 1] : List Int) := p2 _ (by decide)
  have q4 : preO2 law28_flag law28_ops ([1] : List Int) := p2 _ (by decide)
  unfold VC13
  simp only [q1, q2, q3, q4, forall_eq', d1, e1, e2, e3, e4, e5, e6, e7, e8, e9, e10, p3, true_and, ref28_Same, ref01_SameInts, law28_awake, List.length_cons, List.length_nil]
  simp
  intros
  exact ⟨q3, fun _ _ _ => q4⟩


theorem v3 {A B C : Prop} (o : Api_Object) (l : List Api_Oper) (x : Law28_Case) (ho : inR .i64 o.States ∧ inR .i64 o.Kinds ∧ A) (_ : B) (_ : C) : VC3 o l x (fun r => r = true) := by
  have hp : preO o := ⟨ho.1, ho.2.1⟩
  unfold VC3
  intro _ _ _
  rintro _ rfl
  refine ⟨fun _ r hr => by subst hr; rfl, fun h => ?_⟩
  simp only [Bool.or_eq_false_iff, decide_eq_false_iff_not] at h
  have hlen : x.Picks.length ≤ 1000000 := by omega
  have h2 : preO2 o l x.Picks := ⟨hp, hlen⟩
  have h3 : preO3 o l x.State x.Picks := hp
  have h4 : preR2 o l x.Picks := hlen
  have e1 : ref28_From o l o.Init x.Picks = run_Picks o l x.Picks := rfl
  have e2 : ref28_From o l x.State x.Picks = run_From o l x.State x.Picks := rfl
  have e3 : ref28_Step o x.State x.Kind x.Result = run_Step o x.State x.Kind x.Result := rfl
  have e4 : ref28_States o l x.Picks = run_States o l x.Picks := rfl
  simp only [forall_eq', e1, e2, e3, e4, h2, h3, h4, true_and, ref01_SameInts, law28_awake]
  simp
theorem v4 {A B C : Prop} (o : Api_Object) (l : List Api_Oper) (p : List Int) (ho : inR .i64 o.States ∧ inR .i64 o.Kinds ∧ A) (_ : B) (_ : C) : VC4 o l p (fun r => r = true) := by
  have hp : preO o := ⟨ho.1, ho.2.1⟩
  unfold VC4
  intro _ _ _
  rintro _ rfl
  refine ⟨fun _ r hr => by subst hr; rfl, fun h => ?_⟩
  simp only [Bool.or_eq_false_iff, decide_eq_false_iff_not] at h
  have hlen : p.length ≤ 1000000 := by omega
  have h2 : preO2 o l p := ⟨hp, hlen⟩
  have h4 : preR2 o l p := hlen
  have e4 : ref28_Fill o l p = run_Fill o l p := rfl
  simp only [forall_eq', e4, h2, h4, true_and, ref28_Same, law28_awake]
  simp

theorem rows_next {o : Api_Object} : ∀ {f i : Nat}, i + f = o.Rows.length → (rowsGo o f i).2 = 0 → ∀ j : Nat, i ≤ j → j < o.Rows.length → rowErr o (j : Int) = 0
  | 0, i, h, _, j, h1, h2 => by omega
  | f + 1, i, h, h0, j, h1, h2 => by
    rw [rowsGo] at h0
    by_cases he : rowErr o (i : Int) ≠ 0
    · rw [if_pos he] at h0; exact absurd h0 he
    · rw [if_neg he] at h0
      by_cases hj : j = i
      · subst hj; omega
      · exact rows_next (f := f) (i := i + 1) (by omega) h0 j (by omega) h2
theorem move_in {o : Api_Object} {s k : Int} (hc : (ref23_Check o).2 = 0) (h : (ref23_Move o s k).2.2 = true) : 0 ≤ (ref23_Move o s k).1 ∧ (ref23_Move o s k).1 < o.States := by
  unfold ref23_Check at hc
  split at hc
  · cases hc
  · have hall := rows_next (by omega) hc
    unfold ref23_Move at h ⊢
    cases hf : o.Rows.find? (fun r => r.State == s && r.Kind == k) with
    | none => rw [hf] at h; cases h
    | some r =>
      have hm := List.mem_of_find?_eq_some hf
      obtain ⟨j, hj, rfl⟩ := List.getElem_of_mem hm
      have := hall j (by omega) hj
      unfold rowErr at this
      rw [gi_nat _ _ hj] at this
      dsimp only
      by_cases hb : o.Rows[j].State < 0 ∨ o.Rows[j].State ≥ o.States ∨ o.Rows[j].Next < 0 ∨ o.Rows[j].Next ≥ o.States
      · rw [if_pos hb] at this; cases this
      · omega
theorem states_less {o : Api_Object} {l : List Api_Oper} : ∀ {p : List Api_Pick} {prev prev2 : List Int} {s : Int} {L : List Int}, (∀ x ∈ prev2, x ∈ prev) → statesL o l prev s p = some L → statesL o l prev2 s p = some L ∧ True
  | [], _, _, _, _, _, h => ⟨h, trivial⟩
  | q :: p, prev, prev2, s, L, hs, h => by
    rw [statesL] at h ⊢
    by_cases he : (stepOne o l prev s q).2 ≠ 0
    · rw [if_pos he] at h; cases h
    · rw [if_neg he, Option.map_eq_some_iff] at h
      obtain ⟨M, hM, rfl⟩ := h
      have e : stepOne o l prev2 s q = stepOne o l prev s q := by
        unfold stepOne at he ⊢
        by_cases h1 : q.Oper < 0 ∨ q.Oper ≥ l.length
        · rw [if_pos h1, if_pos h1]
        · rw [if_neg h1] at he
          rw [if_neg h1, if_neg h1]
          by_cases h2 : q.Oper ∈ prev
          · rw [if_pos h2] at he; exact absurd (by decide) he
          · rw [if_neg h2, if_neg (fun h => h2 (hs _ h))]
      rw [e, if_neg he]
      have := (states_less (o := o) (l := l) (p := p) (prev := q.Oper :: prev) (prev2 := q.Oper :: prev2) (s := (stepOne o l prev s q).1) (fun x hx => by
        rcases List.mem_cons.mp hx with rfl | hx
        · exact List.mem_cons_self ..
        · exact List.mem_cons_of_mem _ (hs x hx)) hM).1
      rw [this]
      exact ⟨rfl, trivial⟩
/-- Each told state but the first one comes of a step. -/
theorem states_step {o : Api_Object} {l : List Api_Oper} : ∀ {p : List Api_Pick} {prev : List Int} {s : Int} {L : List Int}, statesL o l prev s p = some L → ∀ i : Nat, i < p.length → (gi p (i : Int)).Oper ≥ 0 ∧ (gi p (i : Int)).Oper < l.length ∧ ref28_Step o (gi L (i : Int)) (gi l (gi p (i : Int)).Oper).Kind (gi p (i : Int)).Result = (gi L ((i : Int) + 1), 0) ∧
    ∃ M, statesL o l [] (gi L (i : Int)) (p.drop i) = some M ∧ M.length = p.length - i + 1 ∧ gi M ((p.length : Int) - i) = gi L (p.length : Int)
  | [], _, _, _, _, i, hi => by simp at hi
  | q :: p, prev, s, L, h, i, hi => by
    have hfull := h
    rw [statesL] at h
    by_cases he : (stepOne o l prev s q).2 ≠ 0
    · rw [if_pos he] at h; cases h
    · rw [if_neg he, Option.map_eq_some_iff] at h
      obtain ⟨M, hM, rfl⟩ := h
      have hr := (states_run (o := o) (l := l) (p := p) (prev := q.Oper :: prev) (s := (stepOne o l prev s q).1)).1 M hM
      have hst : ¬ (q.Oper < 0 ∨ q.Oper ≥ l.length) ∧ stepOne o l prev s q = tail1 o l s q := by
        unfold stepOne at he ⊢
        by_cases h1 : q.Oper < 0 ∨ q.Oper ≥ l.length
        · rw [if_pos h1] at he; exact absurd (by decide) he
        · refine ⟨h1, ?_⟩
          rw [if_neg h1] at he ⊢
          by_cases h2 : q.Oper ∈ prev
          · rw [if_pos h2] at he; exact absurd (by decide) he
          · rw [if_neg h2]
      match i with
      | 0 =>
        have g0 : gi (q :: p) ((0 : Nat) : Int) = q := rfl
        have g1 : gi (s :: M) ((0 : Nat) : Int) = s := rfl
        have g2 : gi (s :: M) (((0 : Nat) : Int) + 1) = gi M 0 := rfl
        rw [g0, g1, g2, hr.2.1]
        refine ⟨by omega, by omega, ?_, ?_⟩
        · have ht := hst.2
          have hte : tailErr o l s q = 0 := by rw [← (tail_two _ _ _ _).1, ← ht]; omega
          rw [ht]
          unfold tail1
          rw [if_neg (fun h => h hte)]
          unfold tailErr at hte
          by_cases hh : (ref28_Step o s (gi l q.Oper).Kind q.Result).2 = 0 ∧ (gi l q.Oper).End ≠ -1 ∧ (gi l q.Oper).Result ≠ q.Result
          · rw [if_pos hh] at hte; cases hte
          · rw [if_neg hh] at hte
            dsimp only
            rw [← hte]
        · -- with fewer that are used
          have hM2 := (states_less (o := o) (l := l) (p := q :: p) (prev := prev) (prev2 := []) (s := s) (fun x hx => by cases hx) hfull).1
          rw [List.drop_zero]
          refine ⟨_, hM2, ?_, ?_⟩
          · rw [List.length_cons, hr.1, List.length_cons]; omega
          · rw [show (((q :: p).length : Nat) : Int) - ((0 : Nat) : Int) = (((q :: p).length : Nat) : Int) by omega]
      | i + 1 =>
        obtain ⟨a1, a2, a3, M2, b1, b2, b3⟩ := states_step hM i (by simp at hi; omega)
        have g0 : gi (q :: p) ((i + 1 : Nat) : Int) = gi p (i : Int) := by rw [gi_nat _ _ hi, gi_nat _ _ (by simp at hi; omega)]; simp
        have g1 : gi (s :: M) ((i + 1 : Nat) : Int) = gi M (i : Int) := by
          have := hr.1
          simp at hi
          rw [gi_nat _ _ (by simp; omega), gi_nat _ _ (by omega)]; simp
        have g2 : gi (s :: M) (((i + 1 : Nat) : Int) + 1) = gi M ((i : Int) + 1) := by
          have := hr.1
          simp at hi
          rw [show ((i + 1 : Nat) : Int) + 1 = ((i + 1 + 1 : Nat) : Int) by omega, show (i : Int) + 1 = ((i + 1 : Nat) : Int) by omega, gi_nat _ _ (by simp; omega), gi_nat _ _ (by omega)]; simp
        have g3 : gi (s :: M) (((q :: p).length : Nat) : Int) = gi M (p.length : Int) := by
          have := hr.1
          rw [gi_nat _ _ (by simp; omega), gi_nat _ _ (by omega)]; simp
        rw [g0, g1, g2, g3]
        refine ⟨a1, a2, a3, M2, by rw [List.drop_succ_cons]; exact b1, by rw [b2, List.length_cons]; omega, ?_⟩
        rw [← b3]
        congr 1
        rw [List.length_cons]; omega

theorem may_ok {o : Api_Object} {s : Int} (h : run_may o s = 0) : (ref23_Check o).2 = 0 ∧ 0 ≤ s ∧ s < o.States := by
  unfold run_may at h
  split at h
  · cases h
  · split at h
    · cases h
    · omega
theorem step_in {o : Api_Object} {s k r : Int} (h : (ref28_Step o s k r).2 = 0) : 0 ≤ s ∧ s < o.States := by
  unfold ref28_Step at h
  split at h
  · cases h
  · omega

theorem v5 {A B C : Prop} (o : Api_Object) (l : List Api_Oper) (x : Law28_Case) (ho : inR .i64 o.States ∧ inR .i64 o.Kinds ∧ A) (_ : B) (_ : C) : VC5 o l x (fun r => r = true) := by
  have hp : preO o := ⟨ho.1, ho.2.1⟩
  unfold VC5
  intro _ _ _
  rintro _ rfl
  refine ⟨fun _ r hr => by subst hr; rfl, fun h => ?_⟩
  simp only [Bool.or_eq_false_iff, decide_eq_false_iff_not] at h
  have hlen : x.Picks.length ≤ 1000000 := by omega
  have h2 : preO2 o l x.Picks := ⟨hp, hlen⟩
  refine ⟨h2, ?_⟩
  rintro _ rfl
  refine ⟨h2, ?_⟩
  rintro _ rfl _
  simp only [bne_iff_ne, bne_eq_false_iff_eq]
  by_cases hm : run_may o o.Init = 0
  · have ep : run_Picks o l x.Picks = runL o l [] o.Init x.Picks := by unfold run_Picks ref28_From; rw [hm, if_neg (by decide)]
    have es : run_States o l x.Picks = (statesL o l [] o.Init x.Picks).getD [] := by unfold run_States; rw [hm, if_neg (by decide)]
    rw [ep, es]
    cases hs : statesL o l [] o.Init x.Picks with
    | none =>
      obtain ⟨g1, g2, g3, g4⟩ := (states_run (o := o) (l := l) (p := x.Picks) (prev := []) (s := o.Init)).2 hs
      refine ⟨fun _ => ?_, fun h => absurd h g1⟩
      have : (((([] : List Int).length : Nat) : Int) == 0 && (runL o l [] o.Init x.Picks).1 == 0 && decide ((runL o l [] o.Init x.Picks).2.1 < (x.Picks.length : Int))) = true := by
        rw [g2]; simp [g4]
      show (_ = true → _) ∧ (_ = false → _)
      simp only [Option.getD_none]
      rw [this]
      exact ⟨fun _ r hr => by subst hr; rfl, (fun h => by cases h)⟩
    | some L =>
      obtain ⟨g1, g2, g3⟩ := (states_run (o := o) (l := l) (p := x.Picks) (prev := []) (s := o.Init)).1 L hs
      rw [g3]
      simp only [Option.getD_some]
      refine ⟨fun h => absurd rfl h, fun _ => ?_⟩
      rw [wrp (n := (x.Picks.length : Int) + 1) (by omega) (by omega), wrp (n := (L.length : Int) - 1) (by omega) (by omega)]
      refine ⟨fun h => by omega, fun _ => ⟨⟨by omega, by omega⟩, fun h => absurd g2 h, fun _ => ⟨⟨by omega, by omega⟩, ?_⟩⟩⟩
      have e1 : (L.length : Int) - 1 = x.Picks.length := by omega
      rw [e1]
      unfold VC5_J1
      refine ⟨fun h => by simp at h, fun _ => ?_⟩
      refine ⟨fun i => 0 ≤ i ∧ i ≤ x.Picks.length, fun i => (x.Picks.length - i).toNat, ⟨by omega, by omega⟩, ?_⟩
      rintro i ⟨i0, i1⟩
      obtain ⟨k, rfl⟩ := Int.eq_ofNat_of_zero_le i0
      refine ⟨fun hi => ⟨⟨i0, by simpa using hi⟩, ?_⟩, fun hi => ?_⟩
      · rw [decide_eq_true_eq] at hi
        have hk : k < x.Picks.length := by omega
        obtain ⟨a1, a2, a3, M, b1, b2, b3⟩ := states_step hs k hk
        obtain ⟨s0, s1⟩ := step_in (by rw [a3])
        have hmk : run_may o (gi L (k : Int)) = 0 := by
          unfold run_may
          rw [if_neg (by have := (may_ok hm).1; omega), if_neg (by omega)]
        refine ⟨fun h => ?_, fun _ => ?_⟩
        · simp only [Bool.or_eq_true, decide_eq_true_eq] at h; omega
        · refine ⟨⟨by omega, by omega⟩, ⟨by omega, by omega⟩, ?_⟩
          rintro _ rfl
          refine ⟨⟨by omega, by omega⟩, ⟨hp, by rw [List.length_take]; omega⟩, ?_⟩
          rintro _ rfl
          refine ⟨⟨by omega, by omega⟩, ⟨by omega, by omega⟩, hp, ?_⟩
          rintro _ rfl
          have es1 : run_Step o (gi L (k : Int)) (gi l (gi x.Picks (k : Int)).Oper).Kind (gi x.Picks (k : Int)).Result = (gi L ((k : Int) + 1), 0) := a3
          rw [es1, show ((k : Int)).toNat = k from rfl]
          refine ⟨fun h => by simp at h, fun _ => ?_⟩
          rw [wrp (n := (k : Int) + 1) (by omega) (by omega)]
          refine ⟨⟨by omega, by omega⟩, ?_⟩
          have htk := (states_take (o := o) (l := l) (p := x.Picks) (prev := []) (s := o.Init) k (by omega)).1 L hs
          have hrk := ((states_run (o := o) (l := l) (p := x.Picks.take k) (prev := []) (s := o.Init)).1 _ htk).2.2
          have et : run_Picks o l (x.Picks.take k) = (gi L (k : Int), (k : Int), 0) := by
            unfold run_Picks ref28_From
            rw [hm, if_neg (by decide), hrk, List.length_take, Nat.min_eq_left (by omega)]
            have : gi (L.take (k + 1)) (k : Int) = gi L (k : Int) := by
              rw [gi_nat _ _ (by rw [List.length_take]; omega), gi_nat _ _ (by omega), List.getElem_take]
            rw [this]
          have hrd := ((states_run (o := o) (l := l) (p := x.Picks.drop k) (prev := []) (s := gi L (k : Int))).1 _ b1).2.2
          have ed : run_From o l (gi L (k : Int)) (x.Picks.drop k) = (gi L (x.Picks.length : Int), ((x.Picks.length : Int) - k), 0) := by
            unfold run_From ref28_From
            rw [hmk, if_neg (by decide), hrd, List.length_drop, show ((x.Picks.length - k : Nat) : Int) = (x.Picks.length : Int) - k by omega, b3]
          rw [et, ed]
          refine ⟨fun h => by simp at h, fun _ => ⟨⟨by omega, by omega⟩, ?_⟩⟩
          unfold VC5_J3
          rw [wrp (by omega) (by omega)]
          refine ⟨fun h => by simp at h, fun _ => ⟨⟨by omega, by omega⟩, by dsimp only; omega⟩⟩
      · unfold VC5_J2
        rintro _ rfl; rfl
  · have ep : run_Picks o l x.Picks = (0, -1, run_may o o.Init) := by unfold run_Picks ref28_From; rw [if_pos hm]
    have es : run_States o l x.Picks = [] := by unfold run_States; rw [if_pos hm]
    rw [ep, es]
    refine ⟨fun _ => ?_, fun h => absurd h hm⟩
    have : (((([] : List Int).length : Nat) : Int) == 0 && (0 : Int) == 0 && decide ((-1 : Int) < (x.Picks.length : Int))) = true := by
      simp; omega
    show (_ = true → _) ∧ (_ = false → _)
    dsimp only
    rw [this]
    exact ⟨fun _ r hr => by subst hr; rfl, (fun h => by cases h)⟩

theorem fill_run {o : Api_Object} {l : List Api_Oper} : ∀ {p : List Api_Pick} {prev : List Int} {s : Int}, (runL o l prev s p).2.2 = 0 → fillL o l prev s (p.map (·.Oper)) = (p, 0)
  | [], _, _, _ => rfl
  | q :: p, prev, s, h => by
    rw [runL] at h
    by_cases he : (stepOne o l prev s q).2 ≠ 0
    · rw [if_pos he] at h; exact absurd h he
    · rw [if_neg he] at h
      dsimp only at h
      have eq : pickOf o l s q.Oper = q := by
        unfold stepOne at he
        by_cases h1 : q.Oper < 0 ∨ q.Oper ≥ l.length
        · rw [if_pos h1] at he; exact absurd (by decide) he
        · rw [if_neg h1] at he
          by_cases h2 : q.Oper ∈ prev
          · rw [if_pos h2] at he; exact absurd (by decide) he
          · rw [if_neg h2, (tail_two _ _ _ _).1] at he
            have hte : tailErr o l s q = 0 := by omega
            unfold tailErr at hte
            by_cases hh : (ref28_Step o s (gi l q.Oper).Kind q.Result).2 = 0 ∧ (gi l q.Oper).End ≠ -1 ∧ (gi l q.Oper).Result ≠ q.Result
            · rw [if_pos hh] at hte; cases hte
            · rw [if_neg hh] at hte
              unfold ref28_Step at hte
              unfold pickOf
              rw [if_pos (by omega)]
              split at hte
              · cases hte
              · split at hte
                · cases hte
                · rename_i h4
                  have : (ref23_Move o s (gi l q.Oper).Kind).2.1 = q.Result := by
                    apply Classical.byContradiction
                    intro hn; exact h4 (Or.inr hn)
                  rw [this]
      have ih := fill_run (p := p) h
      rw [List.map_cons, fillL, eq, if_neg he, ih, if_neg (fun h => h rfl)]
theorem run_fill {o : Api_Object} {l : List Api_Oper} : ∀ {is : List Int} {prev : List Int} {s : Int}, (fillL o l prev s is).2 = 0 → (runL o l prev s (fillL o l prev s is).1).2.2 = 0 ∧ (fillL o l prev s is).1.map (·.Oper) = is
  | [], _, _, _ => ⟨rfl, rfl⟩
  | i :: is, prev, s, h => by
    rw [fillL] at h ⊢
    by_cases he : (stepOne o l prev s (pickOf o l s i)).2 ≠ 0
    · rw [if_pos he] at h; exact absurd h he
    · rw [if_neg he] at h ⊢
      by_cases h2 : (fillL o l (i :: prev) (stepOne o l prev s (pickOf o l s i)).1 is).2 ≠ 0
      · rw [if_pos h2] at h; exact absurd h h2
      · rw [if_neg h2] at h ⊢
        obtain ⟨g1, g2⟩ := run_fill (o := o) (l := l) (is := is) (prev := i :: prev) (s := (stepOne o l prev s (pickOf o l s i)).1) (by omega)
        dsimp only
        rw [runL, if_neg he]
        refine ⟨g1, ?_⟩
        rw [List.map_cons, g2]; rfl

theorem v6 {A B C : Prop} (o : Api_Object) (l : List Api_Oper) (x : Law28_Case) (ho : inR .i64 o.States ∧ inR .i64 o.Kinds ∧ A) (_ : B) (_ : C) : VC6 o l x (fun r => r = true) := by
  have hp : preO o := ⟨ho.1, ho.2.1⟩
  unfold VC6
  intro _ _ _
  rintro _ rfl
  refine ⟨fun _ r hr => by subst hr; rfl, fun h => ?_⟩
  simp only [Bool.or_eq_false_iff, decide_eq_false_iff_not] at h
  have hlen : x.Picks.length ≤ 60 := by omega
  refine ⟨fun out i => ∃ k : Nat, i = k ∧ k ≤ x.Picks.length ∧ out = (x.Picks.take k).map (·.Oper), fun _ i => (x.Picks.length - i).toNat, ⟨0, rfl, by omega, by simp⟩, ?_⟩
  rintro _ _ ⟨k, rfl, hk, rfl⟩
  refine ⟨fun hi => ⟨⟨by omega, by simpa using hi⟩, ?_, ?_⟩, fun hi => ?_⟩
  · simp only [List.length_map, List.length_take, List.length_cons, List.length_nil]; omega
  · rw [decide_eq_true_eq] at hi
    rw [wrp (by omega) (by omega)]
    refine ⟨⟨k + 1, by simp, by omega, ?_⟩, by dsimp only; omega⟩
    rw [List.take_succ_eq_append_getElem (by omega), List.map_append, gi_nat _ _ (by omega)]; rfl
  · rw [decide_eq_false_iff_not] at hi
    have : k = x.Picks.length := by omega
    subst this
    rw [List.take_length]
    unfold VC6_J1
    have hol : (x.Picks.map (·.Oper)).length ≤ 1000000 := by rw [List.length_map]; omega
    refine ⟨⟨hp, hol⟩, ?_⟩
    rintro _ rfl _
    refine ⟨⟨hp, by omega⟩, ?_⟩
    rintro _ rfl
    have awake : ∀ (b : Bool), b = false → VC6_J2 o l (fun r => r = true) (x.Picks.map (·.Oper)) (run_Fill o l (x.Picks.map (·.Oper))) b := by
      rintro b rfl
      unfold VC6_J2
      refine ⟨(fun h => by cases h), fun _ => ?_⟩
      simp only [bne_iff_ne, bne_eq_false_iff_eq]
      refine ⟨fun he => ?_, fun he => ?_⟩
      · have : (run_Fill o l (x.Picks.map (·.Oper))).1 = [] := by
          unfold run_Fill at he ⊢
          split
          · rfl
          · rename_i h2
            rw [if_neg h2] at he
            exact fill_err _ _ _ _ _ he
        rw [this]
        exact ⟨fun _ r hr => by subst hr; rfl, fun h => by simp at h⟩
      · have hm : run_may o o.Init = 0 := by
          unfold run_Fill at he
          apply Classical.byContradiction
          intro hn
          rw [if_pos hn] at he; exact hn he
        have ef : run_Fill o l (x.Picks.map (·.Oper)) = fillL o l [] o.Init (x.Picks.map (·.Oper)) := by unfold run_Fill; rw [hm, if_neg (by decide)]
        rw [ef] at he ⊢
        obtain ⟨g1, g2⟩ := run_fill he
        have g3 : (fillL o l [] o.Init (x.Picks.map (·.Oper))).1.length = x.Picks.length := by
          have := congrArg List.length g2
          rw [List.length_map, List.length_map] at this; exact this
        refine ⟨⟨hp, by omega⟩, ?_⟩
        rintro _ rfl
        have ep : run_Picks o l (fillL o l [] o.Init (x.Picks.map (·.Oper))).1 = runL o l [] o.Init (fillL o l [] o.Init (x.Picks.map (·.Oper))).1 := by unfold run_Picks ref28_From; rw [hm, if_neg (by decide)]
        rw [ep, g1, run_count g1, g3, List.length_map]
        refine ⟨fun h => by simp at h, fun _ => ?_⟩
        refine ⟨fun i => 0 ≤ i ∧ i ≤ x.Picks.length, fun i => (x.Picks.length - i).toNat, ⟨by omega, by omega⟩, ?_⟩
        rintro i ⟨i0, i1⟩
        refine ⟨fun hi => ?_, fun hi => ?_⟩
        · rw [decide_eq_true_eq] at hi
          refine ⟨⟨i0, by omega⟩, ⟨i0, hi⟩, fun hne => ?_, fun _ => ?_⟩
          · exfalso
            apply hne
            have := congrArg (fun q => gi q i) g2
            rw [gi_cast i0 (by rw [List.length_map]; omega), List.getElem_map] at this
            rw [gi_cast i0 (by omega)]
            exact this
          · rw [wrp (by omega) (by omega)]
            exact ⟨⟨by omega, by omega⟩, by dsimp only; omega⟩
        · unfold VC6_J3
          rintro _ rfl; rfl
    by_cases hr : (run_Picks o l x.Picks).2.2 = 0
    · have hm : run_may o o.Init = 0 := by
        unfold run_Picks ref28_From at hr
        apply Classical.byContradiction
        intro hn
        rw [if_pos hn] at hr; exact hn hr
      have ep : run_Picks o l x.Picks = runL o l [] o.Init x.Picks := by unfold run_Picks ref28_From; rw [hm, if_neg (by decide)]
      rw [ep] at hr
      have ef : run_Fill o l (x.Picks.map (·.Oper)) = (x.Picks, 0) := by
        unfold run_Fill; rw [hm, if_neg (by decide)]; exact fill_run hr
      rw [ep, hr]
      refine ⟨fun _ => ⟨fun h => by rw [ef] at h; simp at h, fun _ => ?_⟩, fun h => by simp at h⟩
      rintro _ rfl
      refine awake _ ?_
      rw [ef]
      simp [ref28_Same]
    · have : ((run_Picks o l x.Picks).2.2 == 0) = false := by simpa using hr
      rw [this]
      exact ⟨(fun h => by cases h), fun _ => awake false rfl⟩
end Go.Proofs.Ytnhdgebboafliaa
