/- The search's order; a pending operation more; law 5. -/
import Derived.Test.YtojdelnnjhbgbaaZV8
set_option linter.all false
namespace Go.Proofs.Ytojdelnnjhbgbaa
open Go Go.Sv Go.Pu
theorem gi_app {l : List Api_Oper} {x : Api_Oper} {i : Int} (h0 : 0 ≤ i) (h1 : i < l.length) : gi (l ++ [x]) i = gi l i := by
 unfold gi
 rw [List.getD_eq_getElem?_getD, List.getD_eq_getElem?_getD, List.getElem?_append_left (by omega)]
theorem gi_last (l : List Api_Oper) (x : Api_Oper) : gi (l ++ [x]) (l.length : Int) = x := by
 rw [gi_nat _ _ (by simp)]; simp
theorem gib_app {l : List Bool} {x : Bool} {i : Int} (h0 : 0 ≤ i) (h1 : i < l.length) : gi (l ++ [x]) i = gi l i := by
 unfold gi
 rw [List.getD_eq_getElem?_getD, List.getD_eq_getElem?_getD, List.getElem?_append_left (by omega)]
theorem isDone_app {done : List Bool} {k : Nat} (h : k < done.length) : isDone (done ++ [false]) (k : Int) = isDone done (k : Int) := by
 unfold isDone
 rw [gib_app (by omega) (by omega), decide_eq_true (by simp; omega), decide_eq_true (by omega)]
theorem free_app {l : List Api_Oper} {x : Api_Oper} {done : List Bool} (hd : done.length = l.length) (hx : x.End = -1) {i : Nat} (hi : i < l.length) : freeB (l ++ [x]) (done ++ [false]) i = freeB l done i := by
 unfold freeB
 rw [isDone_app (by omega)]
 congr 1
 rw [List.length_append, List.length_singleton, List.range_succ, List.all_append]
 have e : ([l.length].all fun k : Nat => isDone (done ++ [false]) (k : Int) || !oper_Ahead (gi (l ++ [x]) (k : Int)) (gi (l ++ [x]) (i : Int))) = true := by
  simp only [List.all_cons, List.all_nil, Bool.and_true]
  rw [gi_last]
  unfold oper_Ahead
  rw [hx]; simp
 rw [e, Bool.and_true, Bool.eq_iff_iff, List.all_eq_true, List.all_eq_true]
 refine forall_congr' fun k => forall_congr' fun hk => ?_
 have hk := List.mem_range.1 hk
 rw [isDone_app (by omega), gi_app (by omega) (by omega), gi_app (by omega) (by omega)]
theorem lins_pending {o : Api_Object} {l : List Api_Oper} (h : ∀ i : Nat, i < l.length → (gi l (i : Int)).End = -1) : ∃ L, linsOf o l = [] :: L := by
 unfold linsOf allF
 have hw : wholeB l (List.replicate l.length false) = true := by
  unfold wholeB
  rw [List.all_eq_true]
  intro i hi
  rw [h i (List.mem_range.1 hi)]; simp
 rw [if_pos hw]
 exact ⟨_, rfl⟩
end Go.Proofs.Ytojdelnnjhbgbaa
