/- The document's check of operations is the code's. -/
import Derived.Test.YteahldlmkheleaaLV10
set_option linter.all false
namespace Go.Proofs.Yteahldlmkheleaa
open Go Go.Sv Go.Pu
theorem ju {x : aa} (h : cX x = 0) : 0 ≤ x.aA ∧ (x.End = -1 ∨ x.End > x.aA) := by
 unfold cX at h
 split at h
 ·cases h
 ·split at h
  ·cases h
  ·split at h
   ·cases h
   ·rename_i h1 _ h3
    refine ⟨by omega, ?_⟩
    have h3 : cW x = true := by simpa using h3
    unfold cW at h3
    split at h3
    ·left; assumption
    ·right
     simp only [Bool.and_eq_true, decide_eq_true_eq] at h3
     exact h3.1.1.1
end Go.Proofs.Yteahldlmkheleaa
