/- The library's three contracts, out of the shelf, in the form that the walks ask. -/
import Derived.Test.YtkgcdoeldilhaaaDoorNWalksS
import Derived.Test.YtkgcdoeldilhaaaDoorShelf
import Derived.Sort.Grow
set_option linter.all false
namespace Go.Proofs.YtkgcdoeldilhaaaDoor
open Go Go.Sv
theorem x50 : S50 := by
  intro w χ s c
  refine Calls.mono (Tryd.strings_IndexByte (bs s) c w) fun e w' ⟨he, hw⟩ => ?_
  subst hw; subst he
  exact ⟨_, χ, rfl, Ev.refl _ _ _, by simp [strings_IndexByte, bs]⟩
theorem x60 : S60 := by
  intro w χ s p hp
  obtain ⟨h1, _⟩ := hp
  obtain ⟨c, rfl⟩ : ∃ c, p = [c] := by
    rcases p with _ | ⟨c, _ | ⟨_, _⟩⟩
    · simp at h1
    · exact ⟨c, rfl⟩
    · simp at h1
  refine Calls.mono (Tryd.stringslite_Index_one (bs s) c w) fun e w' ⟨he, hw⟩ => ?_
  subst hw; subst he
  exact ⟨_, χ, rfl, Ev.refl _ _ _, by simp [internal_stringslite_Index, bs]⟩
theorem drewN_heap (w : World) (k : Nat) : (w.drewN k).heap = w.heap ∧ (w.drewN k).os = w.os ∧ (w.drewN k).tape = w.tape ∧ (w.drewN k).output = w.output := ⟨rfl, rfl, rfl, rfl⟩
theorem x43 : S43 := by
  intro w χ n hn hA
  have h0 : -9223372036854775808 ≤ n ∧ n ≤ 9223372036854775807 := ⟨hn.1, hn.2⟩
  refine Calls.mono (Tryd.strconv_Itoa n h0.1 h0.2 w hA.1) fun e w' ⟨he, k, os, hw⟩ => ?_
  subst hw; subst he
  refine ⟨_, χ, rfl, ⟨rfl, rfl, rfl, by simp [Sort.grow, World.drewN], fun b hb _ => ⟨?_, rfl⟩⟩, rfl⟩
  rw [Sort.heap_grow_old _ _ (by exact hb)]
  rfl
end Go.Proofs.YtkgcdoeldilhaaaDoor
