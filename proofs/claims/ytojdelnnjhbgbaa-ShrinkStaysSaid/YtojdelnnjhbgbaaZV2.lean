/- Runs. -/
import Derived.Test.YtojdelnnjhbgbaaZV1
set_option linter.all false
namespace Go.Proofs.Ytojdelnnjhbgbaa
open Go Go.Sv Go.Pu
def prevOf (picks : List Api_Pick) (k : Nat) : List Int := ((picks.take k).map (·.Oper)).reverse
theorem prev_zero (p : List Api_Pick) : prevOf p 0 = [] := by simp [prevOf]
theorem prev_succ {p : List Api_Pick} {k : Nat} (h : k < p.length) : prevOf p (k + 1) = (gi p (k : Int)).Oper :: prevOf p k := by
 unfold prevOf
 rw [List.take_succ_eq_append_getElem h, List.map_append, List.reverse_append, gi_nat _ _ h]; rfl
def comb (k : Nat) (r : Int × Int × Int) : Int × Int × Int := (r.1, r.2.1 + k, r.2.2)
theorem run_cons {o : Api_Object} {l : List Api_Oper} {p : List Api_Pick} {k : Nat} {prev : List Int} {s : Int} (h : k < p.length) :
  runL o l prev s (p.drop k) = if (stepOne o l prev s (gi p (k : Int))).2 ≠ 0 then (0, 0, (stepOne o l prev s (gi p (k : Int))).2) else comb 1 (runL o l ((gi p (k : Int)).Oper :: prev) (stepOne o l prev s (gi p (k : Int))).1 (p.drop (k + 1))) := by
 rw [drop_gi h, runL]; rfl
theorem comb_comb (a b : Nat) (r : Int × Int × Int) : comb a (comb b r) = comb (a + b) r := by
 unfold comb; simp; omega
theorem tail_two (o : Api_Object) (l : List Api_Oper) (s : Int) (p : Api_Pick) : (tail1 o l s p).2 = tailErr o l s p ∧ ((tail1 o l s p).2 ≠ 0 → (tail1 o l s p).1 = 0) := by
 unfold tail1
 split
 ·exact ⟨rfl, fun _ => rfl⟩
 ·rename_i h
  exact ⟨by dsimp only; omega, fun h2 => absurd rfl h2⟩
def Used (u : List (Int × Int)) (prev : List Int) : Prop := ∀ x, (mget u x).getD 0 = if x ∈ prev then 1 else 0
theorem used_nil : Used [] [] := fun x => by simp [mget]
theorem used_cons {u : List (Int × Int)} {prev : List Int} {x : Int} (h : Used u prev) (hx : x ∉ prev) : Used (usedUp u x) (x :: prev) := by
 intro y
 unfold usedUp
 have hx0 := h x
 rw [if_neg hx] at hx0
 rw [mget_mput, hx0]
 by_cases hy : y = x
 ·subst hy
  rw [if_pos rfl, if_pos (List.mem_cons_self ..)]
  show IntKind.i64.wrap (0 + 1) = 1
  rw [wrp (by omega) (by omega)]; rfl
 ·rw [if_neg hy, h y]
  simp [hy]
theorem runner_eq {o : Api_Object} {l : List Api_Oper} {u : List (Int × Int)} {prev : List Int} {s : Int} {p : Api_Pick} (h : Used u prev) :
  ((run_runner_1 p l u o s).1, (run_runner_1 p l u o s).2.1) = stepOne o l prev s p ∧ ((run_runner_1 p l u o s).2.1 = 0 → Used (run_runner_1 p l u o s).2.2.1 (p.Oper :: prev) ∧ (run_runner_1 p l u o s).2.2.2 = (run_runner_1 p l u o s).1) := by
 have hu := h p.Oper
 unfold run_runner_1 stepOne
 by_cases h1 : p.Oper < 0 ∨ p.Oper ≥ l.length
 ·rw [if_pos h1, if_pos h1]; exact ⟨rfl, fun h => by cases h⟩
 ·rw [if_neg h1, if_neg h1]
  by_cases h2 : p.Oper ∈ prev
  ·rw [if_pos h2] at hu
   rw [if_pos (by omega), if_pos h2]; exact ⟨rfl, fun h => by cases h⟩
  ·rw [if_neg h2] at hu
   rw [if_neg (by omega), if_neg h2]
   by_cases h3 : (tail1 o l s p).2 ≠ 0
   ·rw [if_pos h3]
    refine ⟨?_, fun h => absurd h h3⟩
    have : (tail1 o l s p).1 = 0 := (tail_two _ _ _ _).2 h3
    rw [← this]
   ·rw [if_neg h3]
    refine ⟨?_, fun _ => ⟨used_cons h h2, rfl⟩⟩
    have : (tail1 o l s p).2 = 0 := by omega
    rw [← this]
theorem v86 (o : Api_Object) (l : List Api_Oper) (s : Int) (p : List Api_Pick) (h : preO3 o l s p) : VC86 o l s p (fun r => r = run_From o l s p) := by
 unfold VC86 run_From
 intro _ hl hp
 simp only [sm] at hl hp
 refine ⟨h, ?_⟩
 rintro _ rfl
 simp only [bne_iff_ne, bne_eq_false_iff_eq]
 refine ⟨fun h => by unfold ref28_From; rw [if_pos h], fun e => ?_⟩
 have ef : ref28_From o l s p = runL o l [] s p := by unfold ref28_From; rw [e, if_neg (by decide)]
 rw [ef]
 rintro _ rfl _ _
 unfold run_runner
 dsimp only
 simp only [decide_eq_true_eq, decide_eq_false_iff_not]
 refine ⟨fun st i u st2 => st = st2 ∧ ∃ k : Nat, i = k ∧ k ≤ p.length ∧ Used u (prevOf p k) ∧ comb k (runL o l (prevOf p k) st (p.drop k)) = runL o l [] s p, fun _ i _ _ => (p.length - i).toNat, ⟨rfl, 0, rfl, by omega, by rw [prev_zero]; exact used_nil, by rw [prev_zero]; simp [comb]⟩, ?_⟩
 rintro st _ u _ ⟨rfl, k, rfl, hk, hu, hgo⟩
 refine ⟨fun hi => ⟨⟨by omega, hi⟩, ?_⟩, fun hi => ?_⟩
 ·have hi : k < p.length := by omega
  rw [run_cons hi] at hgo
  rintro _ rfl
  obtain ⟨q1, q2⟩ := runner_eq (o := o) (l := l) (s := st) (p := gi p (k : Int)) hu
  rw [← q1] at hgo
  dsimp only at hgo
  refine ⟨fun he => ?_, fun he => ?_⟩
  ·rw [if_pos he] at hgo
   rw [← hgo]; unfold comb; simp
  ·rw [if_neg (by omega), comb_comb, ← prev_succ hi] at hgo
   obtain ⟨q3, q4⟩ := q2 he
   rw [wrp (by omega) (by omega)]
   exact ⟨⟨q4.symm, k + 1, by simp, by omega, by rw [prev_succ hi]; exact q3, hgo⟩, by dsimp only; omega⟩
 ·have : k = p.length := by omega
  subst this
  unfold VC86_J1
  rw [← hgo, List.drop_length, runL]
  unfold comb; simp
end Go.Proofs.Ytojdelnnjhbgbaa
