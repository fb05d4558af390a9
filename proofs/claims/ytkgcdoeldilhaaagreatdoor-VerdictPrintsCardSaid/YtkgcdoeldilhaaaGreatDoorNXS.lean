/- The library's three contracts, out of the shelf, in the form that the walks ask. -/
import Derived.Test.YtkgcdoeldilhaaaGreatDoorNWalksS
import Derived.Test.YtkgcdoeldilhaaaGreatDoorShelf
import Derived.Sort.Grow
set_option linter.all false
namespace Go.Proofs.YtkgcdoeldilhaaaGreatDoor
open Go Go.Sv
theorem x70 : S70 := by
  intro w χ s c
  refine Calls.mono (Tryz.strings_IndexByte (bs s) c w) fun e w' ⟨he, hw⟩ => ?_
  subst hw; subst he
  exact ⟨_, χ, rfl, Ev.refl _ _ _, by simp [strings_IndexByte, bs]⟩
theorem x84 : S84 := by
  intro w χ s p hp
  obtain ⟨h1, _⟩ := hp
  obtain ⟨c, rfl⟩ : ∃ c, p = [c] := by
    rcases p with _ | ⟨c, _ | ⟨_, _⟩⟩
    · simp at h1
    · exact ⟨c, rfl⟩
    · simp at h1
  refine Calls.mono (Tryz.stringslite_Index_one (bs s) c w) fun e w' ⟨he, hw⟩ => ?_
  subst hw; subst he
  exact ⟨_, χ, rfl, Ev.refl _ _ _, by simp [internal_stringslite_Index, bs]⟩
theorem x78 : S78 := by
  intro w χ n hn hA
  have h0 : -9223372036854775808 ≤ n ∧ n ≤ 9223372036854775807 := ⟨hn.1, hn.2⟩
  refine Calls.mono (Tryz.strconv_Itoa n h0.1 h0.2 w hA.1) fun e w' ⟨he, k, os, hw⟩ => ?_
  subst hw; subst he
  refine ⟨_, χ, rfl, ⟨rfl, rfl, rfl, by simp [Sort.grow, World.drewN], fun b hb _ => ⟨?_, rfl⟩⟩, rfl⟩
  rw [Sort.heap_grow_old _ _ (by exact hb)]
  rfl
end Go.Proofs.YtkgcdoeldilhaaaGreatDoor
