/- Plain lemmas about the specification functions. Conditions: in each lemma. -/
import Derived.Test.YtnhdgebboafliaaWV1
set_option linter.all false
namespace Go.Proofs.Ytnhdgebboafliaa
open Go Go.Sv Go.Pu

/-- The operations of the first k picks, the last one first. -/
def prevOf (picks : List Api_Pick) (k : Nat) : List Int := ((picks.take k).map (·.Oper)).reverse
theorem prev_zero (p : List Api_Pick) : prevOf p 0 = [] := by simp [prevOf]
theorem prev_succ {p : List Api_Pick} {k : Nat} (h : k < p.length) : prevOf p (k + 1) = (gi p (k : Int)).Oper :: prevOf p k := by
  unfold prevOf
  rw [List.take_succ_eq_append_getElem h, List.map_append, List.reverse_append, gi_nat _ _ h]; rfl
theorem mem_prev {p : List Api_Pick} {x : Int} : ∀ {k : Nat}, k ≤ p.length → (x ∈ prevOf p k ↔ ∃ j : Nat, j < k ∧ (gi p (j : Int)).Oper = x)
  | 0, _ => by rw [prev_zero]; simp
  | k + 1, h => by
    rw [prev_succ (by omega), List.mem_cons, mem_prev (by omega)]
    constructor
    · rintro (h2 | ⟨j, hj, h2⟩)
      · exact ⟨k, by omega, h2.symm⟩
      · exact ⟨j, by omega, h2⟩
    · rintro ⟨j, hj, h2⟩
      by_cases hjk : j = k
      · subst hjk; exact Or.inl h2.symm
      · exact Or.inr ⟨j, by omega, h2⟩
def comb (k : Nat) (r : Int × Int × Int) : Int × Int × Int := (r.1, r.2.1 + k, r.2.2)
theorem run_cons {o : Api_Object} {l : List Api_Oper} {p : List Api_Pick} {k : Nat} {prev : List Int} {s : Int} (h : k < p.length) :
    runL o l prev s (p.drop k) = if (stepOne o l prev s (gi p (k : Int))).2 ≠ 0 then (0, 0, (stepOne o l prev s (gi p (k : Int))).2) else comb 1 (runL o l ((gi p (k : Int)).Oper :: prev) (stepOne o l prev s (gi p (k : Int))).1 (p.drop (k + 1))) := by
  rw [drop_gi h, runL]; rfl
theorem comb_comb (a b : Nat) (r : Int × Int × Int) : comb a (comb b r) = comb (a + b) r := by
  unfold comb; simp; omega
theorem tail_two (o : Api_Object) (l : List Api_Oper) (s : Int) (p : Api_Pick) : (tail1 o l s p).2 = tailErr o l s p ∧ ((tail1 o l s p).2 ≠ 0 → (tail1 o l s p).1 = 0) := by
  unfold tail1
  split
  · exact ⟨rfl, fun _ => rfl⟩
  · rename_i h
    exact ⟨by dsimp only; omega, fun h2 => absurd rfl h2⟩
theorem v15 (o : Api_Object) (l : List Api_Oper) (s : Int) (p : List Api_Pick) : VC15 o l s p (fun r => r = ref28_From o l s p) := by
  unfold VC15
  intro _ hl hp
  simp only [sm] at hl hp
  rintro _ rfl
  simp only [Bool.or_eq_true, decide_eq_true_eq, Bool.or_eq_false_iff, decide_eq_false_iff_not, bne_iff_ne, bne_eq_false_iff_eq]
  refine ⟨fun h => ?_, fun h => ⟨fun h2 => ?_, fun h2 => ?_⟩⟩
  · have e : run_may o s = 2 := by unfold run_may; rw [if_pos h]
    unfold ref28_From; rw [e, if_pos (by decide)]
  · have e : run_may o s = 30 := by unfold run_may; rw [if_neg (by omega), if_pos h2]
    unfold ref28_From; rw [e, if_pos (by decide)]
  · have e : run_may o s = 0 := by unfold run_may; rw [if_neg (by omega), if_neg (by omega)]
    have ef : ref28_From o l s p = runL o l [] s p := by unfold ref28_From; rw [e, if_neg (by decide)]
    rw [ef]
    refine ⟨fun st i => ∃ k : Nat, i = k ∧ k ≤ p.length ∧ comb k (runL o l (prevOf p k) st (p.drop k)) = runL o l [] s p, fun _ i => (p.length - i).toNat, ⟨0, rfl, by omega, by rw [prev_zero]; simp [comb]⟩, ?_⟩
    rintro st _ ⟨k, rfl, hk, hgo⟩
    refine ⟨fun hi => ⟨⟨by omega, hi⟩, ?_⟩, fun hi => ?_⟩
    · have hi : k < p.length := by omega
      rw [run_cons hi] at hgo
      have bad : ∀ e : Int, (stepOne o l (prevOf p k) st (gi p (k : Int))).2 = e → e ≠ 0 → ((0 : Int), (k : Int), e) = runL o l [] s p := by
        rintro e rfl he
        rw [if_pos he] at hgo
        rw [← hgo]; unfold comb; simp
      refine ⟨fun h3 => bad 2 (by unfold stepOne; rw [if_pos h3]) (by decide), fun h3 => ?_⟩
      refine ⟨fun j => ∃ v : Nat, j = v ∧ v ≤ k ∧ ∀ q : Nat, q < v → (gi p (q : Int)).Oper ≠ (gi p (k : Int)).Oper, fun j => (k - j).toNat, ⟨0, rfl, by omega, fun q hq => by omega⟩, ?_⟩
      rintro _ ⟨v, rfl, hv, hall⟩
      refine ⟨fun hlt => ⟨⟨by omega, by omega⟩, fun he => ?_, fun he => ?_⟩, fun hge => ?_⟩
      · rw [beq_iff_eq] at he
        refine bad 21 ?_ (by decide)
        unfold stepOne
        rw [if_neg (by omega), if_pos ((mem_prev hk).mpr ⟨v, by omega, he⟩)]
      · rw [beq_eq_false_iff_ne] at he
        rw [wrp (by omega) (by omega)]
        refine ⟨⟨v + 1, by simp, by omega, fun q hq => ?_⟩, by dsimp only; omega⟩
        by_cases h : q < v
        · exact hall q h
        · rw [show q = v by omega]; exact he
      · have hv : v = k := by omega
        subst hv
        have hnm : (gi p (v : Int)).Oper ∉ prevOf p v := by
          rw [mem_prev hk]; rintro ⟨j, hj, h⟩; exact hall j hj h
        have hso : stepOne o l (prevOf p v) st (gi p (v : Int)) = tail1 o l st (gi p (v : Int)) := by
          unfold stepOne; rw [if_neg (by omega), if_neg hnm]
        rw [hso] at bad hgo
        unfold VC15_J2
        refine ⟨⟨by omega, by omega⟩, ?_⟩
        rintro _ rfl
        simp only [bne_iff_ne, bne_eq_false_iff_eq]
        refine ⟨fun he => bad _ ?_ he, fun he => ⟨⟨by omega, by omega⟩, ?_⟩⟩
        · rw [(tail_two _ _ _ _).1]
          unfold tailErr
          rw [if_neg (fun h => he h.1)]
        · have j3 : ∀ b, (b = true ↔ ((gi l (gi p (v : Int)).Oper).End ≠ -1 ∧ (gi l (gi p (v : Int)).Oper).Result ≠ (gi p (v : Int)).Result)) → VC15_J3 (fun r => r = runL o l [] s p) (fun st i => ∃ k : Nat, i = k ∧ k ≤ p.length ∧ comb k (runL o l (prevOf p k) st (p.drop k)) = runL o l [] s p) (fun _ i => (p.length - i).toNat) st v (ref28_Step o st (gi l (gi p (v : Int)).Oper).Kind (gi p (v : Int)).Result) b := by
            intro b hb
            unfold VC15_J3
            refine ⟨fun h => bad 40 ?_ (by decide), fun h => ?_⟩
            · rw [(tail_two _ _ _ _).1]
              unfold tailErr
              rw [if_pos ⟨he, hb.mp h⟩]
            · have hno : ¬ ((gi l (gi p (v : Int)).Oper).End ≠ -1 ∧ (gi l (gi p (v : Int)).Oper).Result ≠ (gi p (v : Int)).Result) := fun h2 => by rw [hb.mpr h2] at h; cases h
              have ht : tail1 o l st (gi p (v : Int)) = ((ref28_Step o st (gi l (gi p (v : Int)).Oper).Kind (gi p (v : Int)).Result).1, 0) := by
                have hte : tailErr o l st (gi p (v : Int)) = 0 := by
                  unfold tailErr
                  rw [if_neg (fun h => hno h.2)]; exact he
                unfold tail1
                rw [if_neg (fun h => h hte)]
              rw [ht] at hgo
              rw [if_neg (by simp), comb_comb, ← prev_succ hi] at hgo
              rw [wrp (by omega) (by omega)]
              exact ⟨⟨v + 1, by simp, by omega, hgo⟩, by dsimp only; omega⟩
          refine ⟨fun h4 => ⟨⟨by omega, by omega⟩, j3 _ ?_⟩, fun h4 => j3 false ⟨(fun h => by cases h), fun h => absurd h4 h.1⟩⟩
          rw [bne_iff_ne]
          exact ⟨fun h => ⟨h4, h⟩, fun h => h.2⟩
    · have : k = p.length := by omega
      subst this
      unfold VC15_J1
      rw [← hgo, List.drop_length, runL]
      unfold comb; simp
/-- What is used, as the map has it. -/
def Used (u : List (Int × Int)) (prev : List Int) : Prop := ∀ x, (mget u x).getD 0 = if x ∈ prev then 1 else 0
theorem used_nil : Used [] [] := fun x => by simp [mget]
theorem used_cons {u : List (Int × Int)} {prev : List Int} {x : Int} (h : Used u prev) (hx : x ∉ prev) : Used (usedUp u x) (x :: prev) := by
  intro y
  unfold usedUp
  have hx0 := h x
  rw [if_neg hx] at hx0
  rw [mget_mput, hx0]
  by_cases hy : y = x
  · subst hy
    rw [if_pos rfl, if_pos (List.mem_cons_self ..)]
    show IntKind.i64.wrap (0 + 1) = 1
    rw [wrp (by omega) (by omega)]; rfl
  · rw [if_neg hy, h y]
    simp [hy]
theorem runner_eq {o : Api_Object} {l : List Api_Oper} {u : List (Int × Int)} {prev : List Int} {s : Int} {p : Api_Pick} (h : Used u prev) :
    ((run_runner_1 p l u o s).1, (run_runner_1 p l u o s).2.1) = stepOne o l prev s p ∧ ((run_runner_1 p l u o s).2.1 = 0 → Used (run_runner_1 p l u o s).2.2.1 (p.Oper :: prev) ∧ (run_runner_1 p l u o s).2.2.2 = (run_runner_1 p l u o s).1) := by
  have hu := h p.Oper
  unfold run_runner_1 stepOne
  by_cases h1 : p.Oper < 0 ∨ p.Oper ≥ l.length
  · rw [if_pos h1, if_pos h1]; exact ⟨rfl, fun h => by cases h⟩
  · rw [if_neg h1, if_neg h1]
    by_cases h2 : p.Oper ∈ prev
    · rw [if_pos h2] at hu
      rw [if_pos (by omega), if_pos h2]; exact ⟨rfl, fun h => by cases h⟩
    · rw [if_neg h2] at hu
      rw [if_neg (by omega), if_neg h2]
      by_cases h3 : (tail1 o l s p).2 ≠ 0
      · rw [if_pos h3]
        refine ⟨?_, fun h => absurd h h3⟩
        have : (tail1 o l s p).1 = 0 := (tail_two _ _ _ _).2 h3
        rw [← this]
      · rw [if_neg h3]
        refine ⟨?_, fun _ => ⟨used_cons h h2, rfl⟩⟩
        have : (tail1 o l s p).2 = 0 := by omega
        rw [← this]
theorem v16 (o : Api_Object) (l : List Api_Oper) (s : Int) (p : List Api_Pick) (h : preO3 o l s p) : VC16 o l s p (fun r => r = run_From o l s p) := by
  unfold VC16 run_From
  intro _ hl hp
  simp only [sm] at hl hp
  refine ⟨h, ?_⟩
  rintro _ rfl
  simp only [bne_iff_ne, bne_eq_false_iff_eq]
  refine ⟨fun h => by unfold ref28_From; rw [if_pos h], fun e => ?_⟩
  have ef : ref28_From o l s p = runL o l [] s p := by unfold ref28_From; rw [e, if_neg (by decide)]
  rw [ef]
  rintro _ rfl _ _
  unfold run_runner
  dsimp only
  simp only [decide_eq_true_eq, decide_eq_false_iff_not]
  refine ⟨fun st i u st2 => st = st2 ∧ ∃ k : Nat, i = k ∧ k ≤ p.length ∧ Used u (prevOf p k) ∧ comb k (runL o l (prevOf p k) st (p.drop k)) = runL o l [] s p, fun _ i _ _ => (p.length - i).toNat, ⟨rfl, 0, rfl, by omega, by rw [prev_zero]; exact used_nil, by rw [prev_zero]; simp [comb]⟩, ?_⟩
  rintro st _ u _ ⟨rfl, k, rfl, hk, hu, hgo⟩
  refine ⟨fun hi => ⟨⟨by omega, hi⟩, ?_⟩, fun hi => ?_⟩
  · have hi : k < p.length := by omega
    rw [run_cons hi] at hgo
    rintro _ rfl
    obtain ⟨q1, q2⟩ := runner_eq (o := o) (l := l) (s := st) (p := gi p (k : Int)) hu
    rw [← q1] at hgo
    dsimp only at hgo
    refine ⟨fun he => ?_, fun he => ?_⟩
    · rw [if_pos he] at hgo
      rw [← hgo]; unfold comb; simp
    · rw [if_neg (by omega), comb_comb, ← prev_succ hi] at hgo
      obtain ⟨q3, q4⟩ := q2 he
      rw [wrp (by omega) (by omega)]
      exact ⟨⟨q4.symm, k + 1, by simp, by omega, by rw [prev_succ hi]; exact q3, hgo⟩, by dsimp only; omega⟩
  · have : k = p.length := by omega
    subst this
    unfold VC16_J1
    rw [← hgo, List.drop_length, runL]
    unfold comb; simp
end Go.Proofs.Ytnhdgebboafliaa
