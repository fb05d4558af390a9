/- Runs. -/
import Derived.Test.YteahldlmkheleaaLV1
set_option linter.all false
namespace Go.Proofs.Yteahldlmkheleaa
open Go Go.Sv Go.Pu
def hY (picks : List ah) (k : Nat) : List Int := ((picks.take k).map (·.Oper)).reverse
theorem prev_zero (p : List ah) : hY p 0 = [] := by simp [hY]
theorem kH {p : List ah} {k : Nat} (h : k < p.length) : hY p (k + 1) = (gi p (k : Int)).Oper :: hY p k := by
 unfold hY
 rw [List.take_succ_eq_append_getElem h, List.map_append, List.reverse_append, cx _ _ h]; rfl
def comb (k : Nat) (r : Int × Int × Int) : Int × Int × Int := (r.1, r.2.1 + k, r.2.2)
theorem ow {o : ai} {l : List aa} {p : List ah} {k : Nat} {prev : List Int} {s : Int} (h : k < p.length) :
  gK o l prev s (p.drop k) = if (dy o l prev s (gi p (k : Int))).2 ≠ 0 then (0, 0, (dy o l prev s (gi p (k : Int))).2) else comb 1 (gK o l ((gi p (k : Int)).Oper :: prev) (dy o l prev s (gi p (k : Int))).1 (p.drop (k + 1))) := by
 rw [fq h, gK]; rfl
theorem n5 (a b : Nat) (r : Int × Int × Int) : comb a (comb b r) = comb (a + b) r := by
 unfold comb; simp; omega
theorem oe (o : ai) (l : List aa) (s : Int) (p : ah) : (fc o l s p).2 = gq o l s p ∧ ((fc o l s p).2 ≠ 0 → (fc o l s p).1 = 0) := by
 unfold fc
 split
 ·exact ⟨rfl, fun _ => rfl⟩
 ·rename_i h
  exact ⟨by dsimp only; omega, fun h2 => absurd rfl h2⟩
def Used (u : List (Int × Int)) (prev : List Int) : Prop := ∀ x, (ay u x).getD 0 = if x ∈ prev then 1 else 0
theorem ob : Used [] [] := fun x => by simp [ay]
theorem nL {u : List (Int × Int)} {prev : List Int} {x : Int} (h : Used u prev) (hx : x ∉ prev) : Used (fH u x) (x :: prev) := by
 intro y
 unfold fH
 have hx0 := h x
 rw [if_neg hx] at hx0
 rw [dP, hx0]
 by_cases hy : y = x
 ·subst hy
  rw [if_pos rfl, if_pos (List.mem_cons_self ..)]
  show IntKind.i64.wrap (0 + 1) = 1
  rw [wrp (by omega) (by omega)]; rfl
 ·rw [if_neg hy, h y]
  simp [hy]
theorem nR {o : ai} {l : List aa} {u : List (Int × Int)} {prev : List Int} {s : Int} {p : ah} (h : Used u prev) :
  ((b9 p l u o s).1, (b9 p l u o s).2.1) = dy o l prev s p ∧ ((b9 p l u o s).2.1 = 0 → Used (b9 p l u o s).2.2.1 (p.Oper :: prev) ∧ (b9 p l u o s).2.2.2 = (b9 p l u o s).1) := by
 have hu := h p.Oper
 unfold b9 dy
 by_cases h1 : p.Oper < 0 ∨ p.Oper ≥ l.length
 ·rw [if_pos h1, if_pos h1]; exact ⟨rfl, fun h => by cases h⟩
 ·rw [if_neg h1, if_neg h1]
  by_cases h2 : p.Oper ∈ prev
  ·rw [if_pos h2] at hu
   rw [if_pos (by omega), if_pos h2]; exact ⟨rfl, fun h => by cases h⟩
  ·rw [if_neg h2] at hu
   rw [if_neg (by omega), if_neg h2]
   by_cases h3 : (fc o l s p).2 ≠ 0
   ·rw [if_pos h3]
    refine ⟨?_, fun h => absurd h h3⟩
    have : (fc o l s p).1 = 0 := (oe _ _ _ _).2 h3
    rw [← this]
   ·rw [if_neg h3]
    refine ⟨?_, fun _ => ⟨nL h h2, rfl⟩⟩
    have : (fc o l s p).2 = 0 := by omega
    rw [← this]
theorem v63 (o : ai) (l : List aa) (s : Int) (p : List ah) (h : np o l s p) : VC63 o l s p (fun r => r = fu o l s p) := by
 unfold VC63 fu
 intro _ hl hp
 simp only [sm] at hl hp
 refine ⟨h, ?_⟩
 rintro _ rfl
 simp only [bne_iff_ne, bne_eq_false_iff_eq]
 refine ⟨fun h => by unfold eR; rw [if_pos h], fun e => ?_⟩
 have ef : eR o l s p = gK o l [] s p := by unfold eR; rw [e, if_neg (by decide)]
 rw [ef]
 rintro _ rfl _ _
 unfold cS
 dsimp only
 simp only [decide_eq_true_eq, decide_eq_false_iff_not]
 refine ⟨fun st i u st2 => st = st2 ∧ ∃ k : Nat, i = k ∧ k ≤ p.length ∧ Used u (hY p k) ∧ comb k (gK o l (hY p k) st (p.drop k)) = gK o l [] s p, fun _ i _ _ => (p.length - i).toNat, ⟨rfl, 0, rfl, by omega, by rw [prev_zero]; exact ob, by rw [prev_zero]; simp [comb]⟩, ?_⟩
 rintro st _ u _ ⟨rfl, k, rfl, hk, hu, hgo⟩
 refine ⟨fun hi => ⟨⟨by omega, hi⟩, ?_⟩, fun hi => ?_⟩
 ·have hi : k < p.length := by omega
  rw [ow hi] at hgo
  rintro _ rfl
  obtain ⟨q1, q2⟩ := nR (o := o) (l := l) (s := st) (p := gi p (k : Int)) hu
  rw [← q1] at hgo
  dsimp only at hgo
  refine ⟨fun he => ?_, fun he => ?_⟩
  ·rw [if_pos he] at hgo
   rw [← hgo]; unfold comb; simp
  ·rw [if_neg (by omega), n5, ← kH hi] at hgo
   obtain ⟨q3, q4⟩ := q2 he
   rw [wrp (by omega) (by omega)]
   exact ⟨⟨q4.symm, k + 1, by simp, by omega, by rw [kH hi]; exact q3, hgo⟩, by dsimp only; omega⟩
 ·have : k = p.length := by omega
  subst this
  unfold VC63_J1
  rw [← hgo, List.drop_length, gK]
  unfold comb; simp
end Go.Proofs.Yteahldlmkheleaa
