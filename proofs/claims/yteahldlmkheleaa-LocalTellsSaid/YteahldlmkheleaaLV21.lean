/- What the law reaches besides; it is awake. -/
import Derived.Test.YteahldlmkheleaaLV20
set_option linter.all false
namespace Go.Proofs.Yteahldlmkheleaa
open Go Go.Sv Go.Pu
theorem v22 : VC22 (fun r => r = cn) := rfl
theorem v19 (o : Int) : VC19 o (fun r => r = bN o) := by
 unfold VC19
 rintro _ rfl _ _ rfl _
 rfl
theorem v8 (h : ak) (hp : fZ h) : VC8 h (fun r => r = cN h) := by
 unfold VC8 fZ at *
 intro _ _
 refine ⟨fun out x => ∃ k : Nat, x = k ∧ k ≤ h.aj.length ∧ out = (h.aj.take k).map (fun x => (⟨x.ar, x.aH⟩ : aD)), fun _ x => (h.aj.length - x).toNat, ⟨0, rfl, by omega, rfl⟩, ?_⟩
 rintro _ _ ⟨k, rfl, hk, rfl⟩
 refine ⟨fun hi => ?_, fun hi => ?_⟩
 ·rw [decide_eq_true_eq] at hi
  rw [wrp (n := (k : Int) + 1) (by omega) (by omega)]
  refine ⟨⟨by omega, hi⟩, ⟨by omega, hi⟩, by simp; omega, ⟨k + 1, by push_cast; rfl, by omega, ?_⟩, by dsimp only; omega⟩
  rw [ep (by omega), List.map_append]; rfl
 ·rw [decide_eq_false_iff_not] at hi
  unfold VC8_J1 cN
  rw [List.take_of_length_le (by omega)]
theorem v4 (h : ak) : VC4 h (fun r => r = eF h) := by
 unfold VC4
 intro hs _
 simp only [sm] at hs
 refine ⟨fun h1 => ?_, fun h1 => ?_⟩
 ·unfold eF
  have : ¬ (h.ae.length ≤ 10 ∧ h.aj.length ≤ 20) := by simp at h1; omega
  by_cases a : h.ae.length ≤ 10
  ·rw [decide_eq_true a, decide_eq_false (fun b => this ⟨a, b⟩)]; rfl
  ·rw [decide_eq_false a]; rfl
 ·have h1 : h.ae.length ≤ 10 ∧ h.aj.length ≤ 20 := by simp at h1; omega
  unfold eF
  rw [decide_eq_true h1.1, decide_eq_true h1.2, Bool.true_and, Bool.true_and]
  refine ⟨fun x => ∃ k : Nat, x = k ∧ k ≤ h.ae.length ∧ ∀ y : Nat, y < k → eG (gi h.ae (y : Int)) = true, fun x => (h.ae.length - x).toNat, ⟨0, rfl, by omega, fun y hy => by omega⟩, ?_⟩
  rintro _ ⟨k, rfl, hk, hb⟩
  refine ⟨fun hi => ?_, fun hi => ?_⟩
  ·rw [decide_eq_true_eq] at hi
   refine ⟨⟨by omega, hi⟩, fun _ => ?_⟩
   rintro _ rfl
   refine ⟨fun hf => ?_, fun hf => ?_⟩
   ·refine Eq.symm ?_
    rw [List.all_eq_false]
    exact ⟨_, fh (by omega) hi, by simpa using hf⟩
   ·rw [wrp (n := (k : Int) + 1) (by omega) (by omega)]
    refine ⟨⟨k + 1, by push_cast; rfl, by omega, fun y hy => ?_⟩, by dsimp only; omega⟩
    by_cases e : y = k
    ·subst e; simpa using hf
    ·exact hb y (by omega)
  ·rw [decide_eq_false_iff_not] at hi
   unfold VC4_J1
   refine Eq.symm ?_
   rw [List.all_eq_true]
   intro x hx
   obtain ⟨i, hi2, rfl⟩ := List.getElem_of_mem hx
   have := hb i (by omega)
   rwa [cx _ _ hi2] at this
theorem eN (o : Int) : dS (bN o) := by
 have hf : fV cn := by unfold fV inR; decide
 refine ⟨fun x hx => ?_, by show (4 : Nat) ≤ 1000000; decide, fun x hx => ?_⟩
 ·have : x = cn := by
   unfold bN at hx; simpa using hx
  rw [this]; exact hf
 ·have : x = cn := by
   unfold bN at hx; simpa using hx
  rw [this]; decide
theorem pj {os : List ai} {a b : List aR} (h : dS ⟨os, a⟩) (hb : b.length ≤ 1000000) : dS ⟨os, b⟩ := ⟨h.1, hb, h.2.2⟩
theorem v5 : VC5 (fun r => r = dj) := by
 unfold VC5
 rintro _ rfl _ _
 refine ⟨eN 0, ?_⟩
 rintro _ rfl _ rfl _ _
 refine ⟨eN 1, ?_⟩
 rintro _ rfl _ rfl _ _
 refine ⟨eN 0, ?_⟩
 rintro _ rfl _ _ rfl _ _
 refine ⟨eN 1, ?_⟩
 rintro _ rfl _ _ rfl _ _
 refine ⟨eN 0, ?_⟩
 rintro _ rfl
 refine ⟨⟨(fun x hx => by cases hx), by decide, (fun x hx => by cases hx)⟩, ?_⟩
 rintro _ rfl _ rfl _ _
 refine ⟨by decide, pj (eN 0) (by decide), ?_⟩
 rintro _ rfl _ rfl _ _
 refine ⟨eN 1, ?_⟩
 rintro _ rfl _ _ _ rfl _ _
 refine ⟨eN 1, ?_⟩
 rintro _ rfl _ _
 refine ⟨fun _ => ?_, fun h => ?_⟩
 ·rintro _ rfl _ _
  refine ⟨⟨eN 0, by decide +kernel⟩, ?_⟩
  rintro _ rfl
  refine ⟨fun _ => ?_, fun h => ?_⟩
  ·rintro _ rfl
   refine ⟨fun _ => ?_, fun h => ?_⟩
   ·rintro _ rfl _ _ rfl
    refine ⟨fun _ => ?_, fun h => ?_⟩
    ·rintro _ rfl _ _
     refine ⟨⟨eN 0, by decide⟩, ?_⟩
     rintro _ rfl
     decide +kernel
    ·exfalso; revert h; decide +kernel
   ·exfalso; revert h; decide +kernel
  ·exfalso; revert h; decide +kernel
 ·exfalso; revert h; decide +kernel
end Go.Proofs.Yteahldlmkheleaa
