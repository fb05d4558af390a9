/- The document's lines are those of the token layer. -/
import Derived.Test.YtkgcdoeldilhaaaGreatDoorNV2
set_option linter.all false
namespace Go.Proofs.YtkgcdoeldilhaaaGreatDoor
open Go Go.Sv Go.Pu
theorem tw_seg {s : Bs} {i e : Int} (h0 : 0 ≤ i) (h1 : i ≤ e) (h2 : e ≤ s.length) (hin : ∀ j : Int, i ≤ j → j < e → gi s j ≠ 10) (hend : e < s.length → gi s e = 10) : tw (s.drop i.toNat) = (s.take e.toNat).drop i.toNat := by
  have key : ∀ (n : Nat) (i : Int), 0 ≤ i → i ≤ e → (e - i).toNat = n → (∀ j : Int, i ≤ j → j < e → gi s j ≠ 10) → tw (s.drop i.toNat) = (s.take e.toNat).drop i.toNat := by
    intro n
    induction n with
    | zero =>
      intro i h0 h1 hn hin
      have : i = e := by omega
      subst this
      rw [seg_nil (Int.le_refl _)]
      by_cases he : i < s.length
      · rw [drop_gi h0 he]
        unfold tw
        rw [List.takeWhile_cons, hend he]
        rfl
      · rw [List.drop_eq_nil_of_le (by omega)]; rfl
    | succ n ih =>
      intro i h0 h1 hn hin
      rw [drop_gi h0 (by omega), seg_cons h0 (by omega) h2, ← ih (i + 1) (by omega) (by omega) (by omega) (fun j j0 j1 => hin j (by omega) j1)]
      unfold tw
      rw [List.takeWhile_cons, if_pos (by simpa using hin i (Int.le_refl _) (by omega))]
  exact key _ i h0 h1 rfl hin
end Go.Proofs.YtkgcdoeldilhaaaGreatDoor
