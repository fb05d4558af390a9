/- The laws of verdicts as text: plain. -/
import Derived.Test.YtkgcdoeldilhaaaGreatDoorNV20
set_option linter.all false
namespace Go.Proofs.YtkgcdoeldilhaaaGreatDoor
open Go Go.Sv Go.Pu
theorem pickedB_iff (l : List Api_Pick) : pickedB l = true ↔ l.length ≤ 64 ∧ (∀ p ∈ l, pickOK p = true) ∧ (l.map Api_Pick.Oper).Nodup := by
  unfold pickedB; simp [and_assoc]
theorem pickOK_iff (p : Api_Pick) : pickOK p = true ↔ 0 ≤ p.Oper ∧ p.Oper ≤ 63 ∧ 0 ≤ p.Result ∧ p.Result ≤ 1000000 := by
  unfold pickOK; simp only [Bool.and_eq_true, decide_eq_true_eq]; omega
theorem nodup_snoc (l : List Int) (n : Int) : (l ++ [n]).Nodup ↔ l.Nodup ∧ n ∉ l := by
  rw [List.nodup_append]; simp
  intro _; constructor
  · intro h hn; exact h n hn rfl
  · intro h a ha e; exact h (e ▸ ha)
theorem picksGo_succ (e : Int) (n : Nat) (p : PL) (L : List PL) (out : List Api_Pick) : picksGo e (n + 1) (p :: L) out =
    if (numsOf p wPick [0, 0] [63, 1000000] e).2.2 ≠ 0 then (([], (numsOf p wPick [0, 0] [63, 1000000] e).2.1, (numsOf p wPick [0, 0] [63, 1000000] e).2.2), L)
    else if out.any (fun q => q.Oper == gi (numsOf p wPick [0, 0] [63, 1000000] e).1 0) then (([], (gi p 0).1, 21), L)
    else picksGo e n L (out ++ [⟨gi (numsOf p wPick [0, 0] [63, 1000000] e).1 0, gi (numsOf p wPick [0, 0] [63, 1000000] e).1 1⟩]) := rfl
theorem chk_zero {v : Api_Verdict} (h : chkV v = 0) : (1 ≤ v.Kind ∧ v.Kind ≤ 5) ∧ placedB v = true ∧ pickedB v.Picks = true ∧ (chkS v.Proof).2 = 0 ∧ (v.Kind ≠ 4 → v.Picks = []) ∧ (v.Kind ≠ 5 → v.Proof = []) := by
  unfold chkV at h
  by_cases h1 : v.Kind < 1 ∨ v.Kind > 5
  · rw [if_pos h1] at h; simp at h
  rw [if_neg h1] at h
  by_cases h2 : fineV v = true
  · unfold fineV at h2
    simp only [Bool.and_eq_true, Bool.or_eq_true, beq_iff_eq, List.isEmpty_iff] at h2
    obtain ⟨⟨⟨⟨a, b⟩, c⟩, d⟩, e⟩ := h2
    exact ⟨by omega, a, b, c, fun h => d.resolve_left h, fun h => e.resolve_left h⟩
  · rw [if_neg h2] at h; simp at h
theorem linesV_cons (s : Bs) (p : PL) (L : List PL) : linesV s (p :: L) = if kindW (gi p 0).2 = 0 then (v0, (gi p 0).1, 8)
      else if (headV p s.length).2.2 ≠ 0 then (v0, (headV p s.length).2.1, (headV p s.length).2.2)
      else kindV s (kindW (gi p 0).2) (headV p s.length).1 L := rfl
end Go.Proofs.YtkgcdoeldilhaaaGreatDoor
