/- Tokens put together; the document's tokens; the same. -/
import Derived.Test.YtkgcdoeldilhaaaDoorNV3
set_option linter.all false
namespace Go.Proofs.YtkgcdoeldilhaaaDoor
open Go Go.Sv Go.Pu
theorem gi_map {α β : Type} [Inhabited α] [Inhabited β] (f : α → β) {l : List α} {i : Int} (h0 : 0 ≤ i) (h : i < l.length) : gi (l.map f) i = f (gi l i) := by
  rw [gi_cast h0 (by simpa using h), gi_cast h0 h, List.getElem_map]
theorem gi_ext {α : Type} [Inhabited α] {a b : List α} (hl : a.length = b.length) (h : ∀ j : Int, 0 ≤ j → j < a.length → gi a j = gi b j) : a = b := by
  apply List.ext_getElem hl
  intro i h1 h2
  have := h i (by omega) (by omega)
  rwa [gi_nat _ _ h1, gi_nat _ _ h2] at this
theorem joinRow_snoc (l : List Bs) (t : Bs) : joinRow (l ++ [t]) = if l = [] then t else joinRow l ++ 32 :: t := by
  cases l with
  | nil => simp [joinRow]
  | cons x r => simp [joinRow]
theorem joinRow_app (a b : List Bs) : (joinRow a).length ≤ (joinRow (a ++ b)).length := by
  cases a with
  | nil => simp [joinRow]
  | cons x r => simp [joinRow]
theorem joinAll_app (a b : List (List Bs)) : joinAll (a ++ b) = joinAll a ++ joinAll b := by simp [joinAll]
theorem joinAll_one (r : List Bs) : joinAll [r] = joinRow r ++ [10] := by simp [joinAll]
theorem jbnd {L : List (List Bs)} {x : Int} (h0 : 0 ≤ x) (h : x < L.length) (k : Nat) : (joinAll (L.take x.toNat)).length + (joinRow ((gi L x).take k)).length + 1 ≤ (joinAll L).length := by
  have e : joinAll L = joinAll (L.take x.toNat) ++ ((joinRow (gi L x) ++ [10]) ++ joinAll (L.drop (x + 1).toNat)) := by
    conv => lhs; rw [← List.take_append_drop x.toNat L, drop_gi h0 h]
    rw [joinAll_app, ← List.singleton_append, joinAll_app, joinAll_one]
  have h2 := joinRow_app ((gi L x).take k) ((gi L x).drop k)
  rw [List.take_append_drop] at h2
  rw [e]
  simp only [List.length_append, List.length_singleton]
  omega
theorem joinRow_step {r : List Bs} {k : Int} (h0 : 0 ≤ k) (h : k < r.length) : joinRow (r.take (k + 1).toNat) = if 0 < k then joinRow (r.take k.toNat) ++ 32 :: gi r k else joinRow (r.take k.toNat) ++ gi r k := by
  rw [take_gi h0 h, joinRow_snoc]
  by_cases hk : 0 < k
  · rw [if_pos hk, if_neg]
    intro e
    have := congrArg List.length e
    rw [List.length_take] at this
    simp only [List.length_nil] at this
    omega
  · have : k = 0 := by omega
    subst this
    simp [joinRow]
theorem tok_eq (x y : Ref05_Token) : (!((x.Line) == (y.Line) && ((x.At) == (y.At) && ((x.Text) == (y.Text) && true)))) = !decide (x = y) := by
  cases x; cases y
  congr 1
  rw [Bool.eq_iff_iff]
  simp
end Go.Proofs.YtkgcdoeldilhaaaDoor
