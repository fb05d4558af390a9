/- Tokens put together; the document's tokens; the same. -/
import Derived.Test.YtkgcdoeldilhaaaGreatDoorNV3
set_option linter.all false
namespace Go.Proofs.YtkgcdoeldilhaaaGreatDoor
open Go Go.Sv Go.Pu
theorem gi_map {α β : Type} [Inhabited α] [Inhabited β] (f : α → β) {l : List α} {i : Int} (h0 : 0 ≤ i) (h : i < l.length) : gi (l.map f) i = f (gi l i) := by
  rw [gi_cast h0 (by simpa using h), gi_cast h0 h, List.getElem_map]
theorem gi_ext {α : Type} [Inhabited α] {a b : List α} (hl : a.length = b.length) (h : ∀ j : Int, 0 ≤ j → j < a.length → gi a j = gi b j) : a = b := by
  apply List.ext_getElem hl
  intro i h1 h2
  have := h i (by omega) (by omega)
  rwa [gi_nat _ _ h1, gi_nat _ _ h2] at this
theorem joinRow_snoc (l : List Bs) (t : Bs) : joinRow (l ++ [t]) = if l = [] then t else joinRow l ++ 32 :: t := by
  cases l with
  | nil => simp [joinRow]
  | cons x r => simp [joinRow]
theorem joinAll_app (a b : List (List Bs)) : joinAll (a ++ b) = joinAll a ++ joinAll b := by simp [joinAll]
theorem joinAll_one (r : List Bs) : joinAll [r] = joinRow r ++ [10] := by simp [joinAll]
end Go.Proofs.YtkgcdoeldilhaaaGreatDoor
