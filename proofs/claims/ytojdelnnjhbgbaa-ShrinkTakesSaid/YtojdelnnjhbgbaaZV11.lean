/- The document's check of operations is the code's. -/
import Derived.Test.YtojdelnnjhbgbaaZV10
set_option linter.all false
namespace Go.Proofs.Ytojdelnnjhbgbaa
open Go Go.Sv Go.Pu
theorem alone_facts {x : Api_Oper} (h : oper_alone x = 0) : 0 ≤ x.Start ∧ (x.End = -1 ∨ x.End > x.Start) := by
  unfold oper_alone at h
  split at h
  · cases h
  · split at h
    · cases h
    · split at h
      · cases h
      · rename_i h1 _ h3
        refine ⟨by omega, ?_⟩
        have h3 : oper_ended x = true := by simpa using h3
        unfold oper_ended at h3
        split at h3
        · left; assumption
        · right
          simp only [Bool.and_eq_true, decide_eq_true_eq] at h3
          exact h3.1.1.1
end Go.Proofs.Ytojdelnnjhbgbaa
