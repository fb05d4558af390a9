/- Plain lemmas about the specification functions. Conditions: in each lemma. -/
import Derived.Test.YtnhdgebboafliaaRV1
set_option linter.all false
namespace Go.Proofs.Ytnhdgebboafliaa
open Go Go.Sv Go.Pu

/-- The operations of the first k picks, the last one first. -/
def prevOf (picks : List Api_Pick) (k : Nat) : List Int := ((picks.take k).map (·.Oper)).reverse
theorem prev_zero (p : List Api_Pick) : prevOf p 0 = [] := by simp [prevOf]
theorem prev_succ {p : List Api_Pick} {k : Nat} (h : k < p.length) : prevOf p (k + 1) = (gi p (k : Int)).Oper :: prevOf p k := by
  unfold prevOf
  rw [List.take_succ_eq_append_getElem h, List.map_append, List.reverse_append, gi_nat _ _ h]; rfl
theorem mem_prev {p : List Api_Pick} {x : Int} : ∀ {k : Nat}, k ≤ p.length → (x ∈ prevOf p k ↔ ∃ j : Nat, j < k ∧ (gi p (j : Int)).Oper = x)
  | 0, _ => by rw [prev_zero]; simp
  | k + 1, h => by
    rw [prev_succ (by omega), List.mem_cons, mem_prev (by omega)]
    constructor
    · rintro (h2 | ⟨j, hj, h2⟩)
      · exact ⟨k, by omega, h2.symm⟩
      · exact ⟨j, by omega, h2⟩
    · rintro ⟨j, hj, h2⟩
      by_cases hjk : j = k
      · subst hjk; exact Or.inl h2.symm
      · exact Or.inr ⟨j, by omega, h2⟩

def comb (k : Nat) (r : Int × Int × Int) : Int × Int × Int := (r.1, r.2.1 + k, r.2.2)
theorem run_cons {o : Api_Object} {l : List Api_Oper} {p : List Api_Pick} {k : Nat} {prev : List Int} {s : Int} (h : k < p.length) :
    runL o l prev s (p.drop k) = if (stepOne o l prev s (gi p (k : Int))).2 ≠ 0 then (0, 0, (stepOne o l prev s (gi p (k : Int))).2) else comb 1 (runL o l ((gi p (k : Int)).Oper :: prev) (stepOne o l prev s (gi p (k : Int))).1 (p.drop (k + 1))) := by
  rw [drop_gi h, runL]; rfl
theorem comb_comb (a b : Nat) (r : Int × Int × Int) : comb a (comb b r) = comb (a + b) r := by
  unfold comb; simp; omega

theorem tail_two (o : Api_Object) (l : List Api_Oper) (s : Int) (p : Api_Pick) : (tail1 o l s p).2 = tailErr o l s p ∧ ((tail1 o l s p).2 ≠ 0 → (tail1 o l s p).1 = 0) := by
  unfold tail1
  split
  · exact ⟨rfl, fun _ => rfl⟩
  · rename_i h
    exact ⟨by dsimp only; omega, fun h2 => absurd rfl h2⟩

theorem v15 (o : Api_Object) (l : List Api_Oper) (s : Int) (p : List Api_Pick) : VC15 o l s p (fun r => r = ref28_From o l s p) := by
  unfold VC15
  intro _ hl hp
  simp only [sm] at hl hp
  rintro _ rfl
  simp only [Bool.or_eq_true, decide_eq_true_eq, Bool.or_eq_false_iff, decide_eq_false_iff_not, bne_iff_ne, bne_eq_false_iff_eq]
  refine ⟨fun h => ?_, fun h => ⟨fun h2 => ?_, fun h2 => ?_⟩⟩
  · have e : run_may o s = 2 := by unfold run_may; rw [if_pos h]
    unfold ref28_From; rw [e, if_pos (by decide)]
  · have e : run_may o s = 30 := by unfold run_may; rw [if_neg (by omega), if_pos h2]
    unfold ref28_From; rw [e, if_pos (by decide)]
  · have e : run_may o s = 0 := by unfold run_may; rw [if_neg (by omega), if_neg (by omega)]
    have ef : ref28_From o l s p = runL o l [] s p := by unfold ref28_From; rw [e, if_neg (by decide)]
    rw [ef]
    refine ⟨fun st i => ∃ k : Nat, i = k ∧ k ≤ p.length ∧ comb k (runL o l (prevOf p k) st (p.drop k)) = runL o l [] s p, fun _ i => (p.length - i).toNat, ⟨0, rfl, by omega, by rw [prev_zero]; simp [comb]⟩, ?_⟩
    rintro st _ ⟨k, rfl, hk, hgo⟩
    refine ⟨fun hi => ⟨⟨by omega, hi⟩, ?_⟩, fun hi => ?_⟩
    · have hi : k < p.length := by omega
      rw [run_cons hi] at hgo
      have bad : ∀ e : Int, (stepOne o l (prevOf p k) st (gi p (k : Int))).2 = e → e ≠ 0 → ((0 : Int), (k : Int), e) = runL o l [] s p := by
        rintro e rfl he
        rw [if_pos he] at hgo
        rw [← hgo]; unfold comb; simp
      refine ⟨fun h3 => bad 2 (by unfold stepOne; rw [if_pos h3]) (by decide), fun h3 => ?_⟩
      refine ⟨fun j => ∃ v : Nat, j = v ∧ v ≤ k ∧ ∀ q : Nat, q < v → (gi p (q : Int)).Oper ≠ (gi p (k : Int)).Oper, fun j => (k - j).toNat, ⟨0, rfl, by omega, fun q hq => by omega⟩, ?_⟩
      rintro _ ⟨v, rfl, hv, hall⟩
      refine ⟨fun hlt => ⟨⟨by omega, by omega⟩, fun he => ?_, fun he => ?_⟩, fun hge => ?_⟩
      · rw [beq_iff_eq] at he
        refine bad 21 ?_ (by decide)
        unfold stepOne
        rw [if_neg (by omega), if_pos ((mem_prev hk).mpr ⟨v, by omega, he⟩)]
      · rw [beq_eq_false_iff_ne] at he
        rw [wrp (by omega) (by omega)]
        refine ⟨⟨v + 1, by simp, by omega, fun q hq => ?_⟩, by dsimp only; omega⟩
        by_cases h : q < v
        · exact hall q h
        · rw [show q = v by omega]; exact he
      · have hv : v = k := by omega
        subst hv
        have hnm : (gi p (v : Int)).Oper ∉ prevOf p v := by
          rw [mem_prev hk]; rintro ⟨j, hj, h⟩; exact hall j hj h
        have hso : stepOne o l (prevOf p v) st (gi p (v : Int)) = tail1 o l st (gi p (v : Int)) := by
          unfold stepOne; rw [if_neg (by omega), if_neg hnm]
        rw [hso] at bad hgo
        unfold VC15_J2
        refine ⟨⟨by omega, by omega⟩, ?_⟩
        rintro _ rfl
        simp only [bne_iff_ne, bne_eq_false_iff_eq]
        refine ⟨fun he => bad _ ?_ he, fun he => ⟨⟨by omega, by omega⟩, ?_⟩⟩
        · rw [(tail_two _ _ _ _).1]
          unfold tailErr
          rw [if_neg (fun h => he h.1)]
        · have j3 : ∀ b, (b = true ↔ ((gi l (gi p (v : Int)).Oper).End ≠ -1 ∧ (gi l (gi p (v : Int)).Oper).Result ≠ (gi p (v : Int)).Result)) → VC15_J3 (fun r => r = runL o l [] s p) (fun st i => ∃ k : Nat, i = k ∧ k ≤ p.length ∧ comb k (runL o l (prevOf p k) st (p.drop k)) = runL o l [] s p) (fun _ i => (p.length - i).toNat) st v (ref28_Step o st (gi l (gi p (v : Int)).Oper).Kind (gi p (v : Int)).Result) b := by
            intro b hb
            unfold VC15_J3
            refine ⟨fun h => bad 40 ?_ (by decide), fun h => ?_⟩
            · rw [(tail_two _ _ _ _).1]
              unfold tailErr
              rw [if_pos ⟨he, hb.mp h⟩]
            · have hno : ¬ ((gi l (gi p (v : Int)).Oper).End ≠ -1 ∧ (gi l (gi p (v : Int)).Oper).Result ≠ (gi p (v : Int)).Result) := fun h2 => by rw [hb.mpr h2] at h; cases h
              have ht : tail1 o l st (gi p (v : Int)) = ((ref28_Step o st (gi l (gi p (v : Int)).Oper).Kind (gi p (v : Int)).Result).1, 0) := by
                have hte : tailErr o l st (gi p (v : Int)) = 0 := by
                  unfold tailErr
                  rw [if_neg (fun h => hno h.2)]; exact he
                unfold tail1
                rw [if_neg (fun h => h hte)]
              rw [ht] at hgo
              rw [if_neg (by simp), comb_comb, ← prev_succ hi] at hgo
              rw [wrp (by omega) (by omega)]
              exact ⟨⟨v + 1, by simp, by omega, hgo⟩, by dsimp only; omega⟩
          refine ⟨fun h4 => ⟨⟨by omega, by omega⟩, j3 _ ?_⟩, fun h4 => j3 false ⟨(fun h => by cases h), fun h => absurd h4 h.1⟩⟩
          rw [bne_iff_ne]
          exact ⟨fun h => ⟨h4, h⟩, fun h => h.2⟩
    · have : k = p.length := by omega
      subst this
      unfold VC15_J1
      rw [← hgo, List.drop_length, runL]
      unfold comb; simp

/-- What is used, as the map has it. -/
def Used (u : List (Int × Int)) (prev : List Int) : Prop := ∀ x, (mget u x).getD 0 = if x ∈ prev then 1 else 0
theorem used_nil : Used [] [] := fun x => by simp [mget]
theorem used_cons {u : List (Int × Int)} {prev : List Int} {x : Int} (h : Used u prev) (hx : x ∉ prev) : Used (usedUp u x) (x :: prev) := by
  intro y
  unfold usedUp
  have hx0 := h x
  rw [if_neg hx] at hx0
  rw [mget_mput, hx0]
  by_cases hy : y = x
  · subst hy
    rw [if_pos rfl, if_pos (List.mem_cons_self ..)]
    show IntKind.i64.wrap (0 + 1) = 1
    rw [wrp (by omega) (by omega)]; rfl
  · rw [if_neg hy, h y]
    simp [hy]
theorem runner_eq {o : Api_Object} {l : List Api_Oper} {u : List (Int × Int)} {prev : List Int} {s : Int} {p : Api_Pick} (h : Used u prev) :
    ((run_runner_1 p l u o s).1, (run_runner_1 p l u o s).2.1) = stepOne o l prev s p ∧ ((run_runner_1 p l u o s).2.1 = 0 → Used (run_runner_1 p l u o s).2.2.1 (p.Oper :: prev) ∧ (run_runner_1 p l u o s).2.2.2 = (run_runner_1 p l u o s).1) := by
  have hu := h p.Oper
  unfold run_runner_1 stepOne
  by_cases h1 : p.Oper < 0 ∨ p.Oper ≥ l.length
  · rw [if_pos h1, if_pos h1]; exact ⟨rfl, fun h => by cases h⟩
  · rw [if_neg h1, if_neg h1]
    by_cases h2 : p.Oper ∈ prev
    · rw [if_pos h2] at hu
      rw [if_pos (by omega), if_pos h2]; exact ⟨rfl, fun h => by cases h⟩
    · rw [if_neg h2] at hu
      rw [if_neg (by omega), if_neg h2]
      by_cases h3 : (tail1 o l s p).2 ≠ 0
      · rw [if_pos h3]
        refine ⟨?_, fun h => absurd h h3⟩
        have : (tail1 o l s p).1 = 0 := (tail_two _ _ _ _).2 h3
        rw [← this]
      · rw [if_neg h3]
        refine ⟨?_, fun _ => ⟨used_cons h h2, rfl⟩⟩
        have : (tail1 o l s p).2 = 0 := by omega
        rw [← this]

theorem v16 (o : Api_Object) (l : List Api_Oper) (s : Int) (p : List Api_Pick) (h : preO3 o l s p) : VC16 o l s p (fun r => r = run_From o l s p) := by
  unfold VC16 run_From
  intro _ hl hp
  simp only [sm] at hl hp
  refine ⟨h, ?_⟩
  rintro _ rfl
  simp only [bne_iff_ne, bne_eq_false_iff_eq]
  refine ⟨fun h => by unfold ref28_From; rw [if_pos h], fun e => ?_⟩
  have ef : ref28_From o l s p = runL o l [] s p := by unfold ref28_From; rw [e, if_neg (by decide)]
  rw [ef]
  rintro _ rfl _ _
  unfold run_runner
  dsimp only
  simp only [decide_eq_true_eq, decide_eq_false_iff_not]
  refine ⟨fun st i u st2 => st = st2 ∧ ∃ k : Nat, i = k ∧ k ≤ p.length ∧ Used u (prevOf p k) ∧ comb k (runL o l (prevOf p k) st (p.drop k)) = runL o l [] s p, fun _ i _ _ => (p.length - i).toNat, ⟨rfl, 0, rfl, by omega, by rw [prev_zero]; exact used_nil, by rw [prev_zero]; simp [comb]⟩, ?_⟩
  rintro st _ u _ ⟨rfl, k, rfl, hk, hu, hgo⟩
  refine ⟨fun hi => ⟨⟨by omega, hi⟩, ?_⟩, fun hi => ?_⟩
  · have hi : k < p.length := by omega
    rw [run_cons hi] at hgo
    rintro _ rfl
    obtain ⟨q1, q2⟩ := runner_eq (o := o) (l := l) (s := st) (p := gi p (k : Int)) hu
    rw [← q1] at hgo
    dsimp only at hgo
    refine ⟨fun he => ?_, fun he => ?_⟩
    · rw [if_pos he] at hgo
      rw [← hgo]; unfold comb; simp
    · rw [if_neg (by omega), comb_comb, ← prev_succ hi] at hgo
      obtain ⟨q3, q4⟩ := q2 he
      rw [wrp (by omega) (by omega)]
      exact ⟨⟨q4.symm, k + 1, by simp, by omega, by rw [prev_succ hi]; exact q3, hgo⟩, by dsimp only; omega⟩
  · have : k = p.length := by omega
    subst this
    unfold VC16_J1
    rw [← hgo, List.drop_length, runL]
    unfold comb; simp

theorem statesL_cons {o : Api_Object} {l : List Api_Oper} {p : List Api_Pick} {k : Nat} {prev : List Int} {s : Int} (h : k < p.length) :
    statesL o l prev s (p.drop k) = if (stepOne o l prev s (gi p (k : Int))).2 ≠ 0 then none else (statesL o l ((gi p (k : Int)).Oper :: prev) (stepOne o l prev s (gi p (k : Int))).1 (p.drop (k + 1))).map (s :: ·) := by
  rw [drop_gi h, statesL]

theorem v20 (o : Api_Object) (l : List Api_Oper) (p : List Api_Pick) (h : preO2 o l p) : VC20 o l p (fun r => r = run_States o l p) := by
  obtain ⟨ho, hlen⟩ := h
  unfold VC20
  intro _ hl hp
  simp only [sm] at hl hp
  refine ⟨ho, ?_⟩
  rintro _ rfl
  simp only [bne_iff_ne, bne_eq_false_iff_eq]
  refine ⟨fun h => by unfold run_States; rw [if_pos h], fun e => ?_⟩
  have ef : run_States o l p = (statesL o l [] o.Init p).getD [] := by unfold run_States; rw [e, if_neg (by decide)]
  rw [ef]
  rintro _ rfl _ _
  unfold run_runner
  dsimp only
  simp only [decide_eq_true_eq, decide_eq_false_iff_not]
  refine ⟨fun out i u st => ∃ k : Nat, i = k ∧ k ≤ p.length ∧ Used u (prevOf p k) ∧ ∃ a : List Int, a.length = k ∧ out = a ++ [st] ∧ (statesL o l (prevOf p k) st (p.drop k)).map (a ++ ·) = statesL o l [] o.Init p, fun _ i _ _ => (p.length - i).toNat, ⟨0, rfl, by omega, by rw [prev_zero]; exact used_nil, [], rfl, rfl, by rw [prev_zero]; simp⟩, ?_⟩
  rintro _ _ u st ⟨k, rfl, hk, hu, a, ha, rfl, hgo⟩
  refine ⟨fun hi => ⟨⟨by omega, hi⟩, ?_⟩, fun hi => ?_⟩
  · have hi : k < p.length := by omega
    rw [statesL_cons hi] at hgo
    rintro _ rfl
    obtain ⟨q1, q2⟩ := runner_eq (o := o) (l := l) (s := st) (p := gi p (k : Int)) hu
    rw [← q1] at hgo
    dsimp only at hgo
    refine ⟨fun he => ?_, fun he => ?_⟩
    · rw [if_pos he] at hgo
      rw [← hgo]; rfl
    · rw [if_neg (by omega), ← prev_succ hi, Option.map_map] at hgo
      obtain ⟨q3, q4⟩ := q2 he
      rw [wrp (by omega) (by omega)]
      refine ⟨by simp only [List.length_append, List.length_cons, List.length_nil]; omega, ⟨k + 1, by simp, by omega, by rw [prev_succ hi]; exact q3, a ++ [st], by simp [ha], by rw [q4], ?_⟩, by dsimp only; omega⟩
      rw [q4, ← hgo]
      congr 1
      funext x
      simp [Function.comp]
  · have : k = p.length := by omega
    subst this
    unfold VC20_J1
    rw [← hgo, List.drop_length, statesL]
    rfl

/-- Of a run: its last state is the last one told. -/
theorem states_run {o : Api_Object} {l : List Api_Oper} : ∀ {p : List Api_Pick} {prev : List Int} {s : Int},
    (∀ L, statesL o l prev s p = some L → L.length = p.length + 1 ∧ gi L 0 = s ∧ runL o l prev s p = (gi L (p.length : Int), (p.length : Int), 0)) ∧
    (statesL o l prev s p = none → (runL o l prev s p).2.2 ≠ 0 ∧ (runL o l prev s p).1 = 0 ∧ 0 ≤ (runL o l prev s p).2.1 ∧ (runL o l prev s p).2.1 < p.length)
  | [], prev, s => by
    refine ⟨fun L h => ?_, fun h => by cases h⟩
    simp only [statesL, Option.some.injEq] at h
    subst h
    exact ⟨rfl, rfl, rfl⟩
  | q :: p, prev, s => by
    rw [statesL, runL]
    by_cases he : (stepOne o l prev s q).2 ≠ 0
    · rw [if_pos he, if_pos he]
      exact ⟨(fun L h => by cases h), fun _ => ⟨he, rfl, by dsimp only; omega, by dsimp only; simp⟩⟩
    · rw [if_neg he, if_neg he]
      obtain ⟨i1, i2⟩ := states_run (o := o) (l := l) (p := p) (prev := q.Oper :: prev) (s := (stepOne o l prev s q).1)
      refine ⟨fun L h => ?_, fun h => ?_⟩
      · rw [Option.map_eq_some_iff] at h
        obtain ⟨M, hM, rfl⟩ := h
        obtain ⟨g1, g2, g3⟩ := i1 M hM
        refine ⟨by simp [g1], rfl, ?_⟩
        rw [g3]
        dsimp only
        have : gi (s :: M) (((q :: p).length : Nat) : Int) = gi M (p.length : Int) := by
          rw [gi_nat _ _ (by simp; omega), gi_nat _ _ (by omega)]; simp
        rw [this]
        simp
      · rw [Option.map_eq_none_iff] at h
        obtain ⟨g1, g2, g3, g4⟩ := i2 h
        dsimp only
        exact ⟨g1, g2, by omega, by rw [List.length_cons]; omega⟩

theorem states_take {o : Api_Object} {l : List Api_Oper} : ∀ {p : List Api_Pick} {prev : List Int} {s : Int} (i : Nat), i ≤ p.length →
    (∀ L, statesL o l prev s p = some L → statesL o l prev s (p.take i) = some (L.take (i + 1))) ∧ (statesL o l prev s (p.take i) = none → statesL o l prev s p = none)
  | [], prev, s, i, hi => by
    simp at hi; subst hi
    refine ⟨fun L h => ?_, fun h => h⟩
    simp only [statesL, Option.some.injEq] at h
    subst h; rfl
  | q :: p, prev, s, 0, _ => by
    refine ⟨fun L h => ?_, fun h => by cases h⟩
    have := (states_run (o := o) (l := l) (p := q :: p) (prev := prev) (s := s)).1 L h
    match L, this with
    | x :: L, ⟨_, h2, _⟩ =>
      have : x = s := h2
      subst this; rfl
  | q :: p, prev, s, i + 1, hi => by
    rw [List.take_succ_cons, statesL, statesL]
    by_cases he : (stepOne o l prev s q).2 ≠ 0
    · rw [if_pos he, if_pos he]
      exact ⟨fun L h => (by cases h), fun _ => rfl⟩
    · rw [if_neg he, if_neg he]
      obtain ⟨i1, i2⟩ := states_take (o := o) (l := l) (p := p) (prev := q.Oper :: prev) (s := (stepOne o l prev s q).1) i (by simp at hi; omega)
      refine ⟨fun L h => ?_, fun h => ?_⟩
      · rw [Option.map_eq_some_iff] at h
        obtain ⟨M, hM, rfl⟩ := h
        rw [i1 M hM]; rfl
      · rw [Option.map_eq_none_iff] at h
        rw [i2 h]; rfl

theorem v21 (o : Api_Object) (l : List Api_Oper) (p : List Api_Pick) (h : preR2 o l p) : VC21 o l p (fun r => r = ref28_States o l p) := by
  have hlen : p.length ≤ 1000000 := h
  unfold VC21 ref28_States
  intro _ hl hp
  simp only [sm] at hl hp
  simp only [decide_eq_true_eq, decide_eq_false_iff_not]
  refine ⟨fun out i => ∃ k : Nat, i = k ∧ k ≤ p.length + 1 ∧ ((k = 0 ∧ out = []) ∨ (0 < k ∧ run_may o o.Init = 0 ∧ statesL o l [] o.Init (p.take (k - 1)) = some out)), fun _ i => (p.length + 1 - i).toNat, ⟨0, rfl, by omega, Or.inl ⟨rfl, rfl⟩⟩, ?_⟩
  rintro out _ ⟨k, rfl, hk, hor⟩
  have hol : out.length = k := by
    rcases hor with ⟨h0, rfl⟩ | ⟨h0, _, hs⟩
    · simp [h0]
    · have := ((states_run (o := o) (l := l) (p := p.take (k - 1)) (prev := []) (s := o.Init)).1 out hs).1
      rw [List.length_take] at this; omega
  refine ⟨fun hi => ⟨⟨by omega, hi⟩, ?_⟩, fun hi => ?_⟩
  · rintro _ rfl
    rw [show ((k : Int)).toNat = k from rfl]
    simp only [bne_iff_ne, bne_eq_false_iff_eq]
    by_cases hm : run_may o o.Init = 0
    · have ef : ref28_From o l o.Init (p.take k) = runL o l [] o.Init (p.take k) := by unfold ref28_From; rw [hm, if_neg (by decide)]
      rw [ef]
      have er : run_States o l p = (statesL o l [] o.Init p).getD [] := by unfold run_States; rw [hm, if_neg (by decide)]
      cases hs : statesL o l [] o.Init (p.take k) with
      | none =>
        have h2 := (states_take (o := o) (l := l) (p := p) (prev := []) (s := o.Init) k (by omega)).2 hs
        have h3 := (states_run (o := o) (l := l) (p := p.take k) (prev := []) (s := o.Init)).2 hs
        refine ⟨fun _ => by rw [er, h2]; rfl, fun h => absurd h h3.1⟩
      | some M =>
        obtain ⟨g1, g2, g3⟩ := (states_run (o := o) (l := l) (p := p.take k) (prev := []) (s := o.Init)).1 M hs
        rw [g3]
        have hlt : (p.take k).length = k := by rw [List.length_take]; omega
        rw [hlt] at g1 ⊢
        refine ⟨fun h => absurd rfl h, fun _ => ⟨by simp only [List.length_append, List.length_cons, List.length_nil]; omega, ?_⟩⟩
        rw [wrp (by omega) (by omega)]
        refine ⟨⟨k + 1, by simp, by omega, Or.inr ⟨by omega, hm, ?_⟩⟩, by omega⟩
        rw [Nat.add_sub_cancel, hs]
        congr 1
        -- the first k states are those that are told
        have hpre : out = M.take k := by
          rcases hor with ⟨h0, rfl⟩ | ⟨h0, _, hs2⟩
          · subst h0; simp
          · have := (states_take (o := o) (l := l) (p := p.take k) (prev := []) (s := o.Init) (k - 1) (by omega)).1 M hs
            rw [List.take_take, Nat.min_eq_left (by omega), hs2, show k - 1 + 1 = k by omega] at this
            exact Option.some.inj this
        rw [hpre, gi_nat _ _ (by omega)]
        have := List.take_append_getElem (l := M) (i := k) (by omega)
        rw [this, List.take_of_length_le (by omega)]
    · have ef : ref28_From o l o.Init (p.take k) = (0, -1, run_may o o.Init) := by unfold ref28_From; rw [if_pos hm]
      have er : run_States o l p = [] := by unfold run_States; rw [if_pos hm]
      rw [ef, er]
      exact ⟨fun _ => rfl, fun h => absurd h hm⟩
  · have : k = p.length + 1 := by omega
    subst this
    rcases hor with ⟨h0, _⟩ | ⟨h0, hm, hs⟩
    · omega
    · rw [Nat.add_sub_cancel, List.take_length] at hs
      unfold VC21_J1 run_States
      rw [hm, if_neg (by decide), hs]; rfl
end Go.Proofs.Ytnhdgebboafliaa
