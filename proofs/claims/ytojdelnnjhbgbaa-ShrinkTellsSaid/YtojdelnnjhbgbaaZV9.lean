/- The search's order; a pending operation more; law 5. -/
import Derived.Test.YtojdelnnjhbgbaaZV8
set_option linter.all false
namespace Go.Proofs.Ytojdelnnjhbgbaa
open Go Go.Sv Go.Pu
theorem less_irr : ∀ a : List Api_Pick, lessP a a = false
 | [] => rfl
 | p :: a => by unfold lessP; rw [if_neg (by simp)]; exact less_irr a
theorem free_sorted (l : List Api_Oper) (done : List Bool) : List.Pairwise (· < ·) (oper_Free l done) := by
 unfold oper_Free freeTo
 rw [List.pairwise_map]
 refine List.Pairwise.filter _ ?_
 refine List.pairwise_lt_range.imp ?_
 intro a b h; omega
theorem next_sorted (o : Api_Object) (l : List Api_Oper) (st : Int) (done : List Bool) : List.Pairwise (fun a b : Api_Pick => a.Oper < b.Oper) (search_Next o l st done) := by
 unfold search_Next
 split
 ·exact List.Pairwise.nil
 ·unfold nextP
  rw [List.pairwise_filterMap]
  refine (free_sorted l done).imp ?_
  intro a b h p hp q hq
  rw [pick_oper hp, pick_oper hq]; exact h
theorem all_sorted (o : Api_Object) (l : List Api_Oper) : ∀ (n : Nat) (st : Int) (done : List Bool), List.Pairwise (fun a b => lessP a b = true) (allF o l n st done)
 | 0, _, _ => List.Pairwise.nil
 | n + 1, st, done => by
  unfold allF
  rw [List.pairwise_append]
  refine ⟨by split <;> simp, ?_, ?_⟩
  ·rw [List.pairwise_flatMap]
   refine ⟨fun p _ => ?_, ?_⟩
   ·rw [List.pairwise_map]
    refine (all_sorted o l n _ _).imp ?_
    intro a b h
    unfold lessP; rw [if_neg (by simp)]; exact h
   ·refine (next_sorted o l st done).imp ?_
    intro p q h x hx y hy
    obtain ⟨a, _, rfl⟩ := List.mem_map.1 hx
    obtain ⟨b, _, rfl⟩ := List.mem_map.1 hy
    unfold lessP
    rw [if_pos (by omega)]
    exact decide_eq_true h
  ·intro a ha b hb
   split at ha
   ·obtain rfl : a = [] := by simpa using ha
    obtain ⟨p, _, hb⟩ := List.mem_flatMap.1 hb
    obtain ⟨b, _, rfl⟩ := List.mem_map.1 hb
    rfl
   ·cases ha
theorem sorted_nodup {L : List (List Api_Pick)} (h : List.Pairwise (fun a b => lessP a b = true) L) : L.Nodup := by
 refine h.imp ?_
 intro a b h e
 subst e
 rw [less_irr] at h; cases h
theorem lins_sorted (o : Api_Object) (l : List Api_Oper) : List.Pairwise (fun a b => lessP a b = true) (linsOf o l) := all_sorted o l _ _ _
theorem nodup_le {α : Type} [DecidableEq α] : ∀ {a b : List α}, a.Nodup → (∀ x ∈ a, x ∈ b) → a.length ≤ b.length
 | [], b, _, _ => by simp
 | x :: a, b, hn, hs => by
  obtain ⟨h1, h2⟩ := List.nodup_cons.1 hn
  have := nodup_le (a := a) (b := b.erase x) h2 (fun y hy => (List.mem_erase_of_ne (by rintro rfl; exact h1 hy)).2 (hs y (by simp [hy])))
  have hm := hs x (by simp)
  rw [List.length_erase_of_mem hm] at this
  have := List.length_pos_of_mem hm
  simp only [List.length_cons]; omega
theorem gi_app {l : List Api_Oper} {x : Api_Oper} {i : Int} (h0 : 0 ≤ i) (h1 : i < l.length) : gi (l ++ [x]) i = gi l i := by
 unfold gi
 rw [List.getD_eq_getElem?_getD, List.getD_eq_getElem?_getD, List.getElem?_append_left (by omega)]
theorem gi_last (l : List Api_Oper) (x : Api_Oper) : gi (l ++ [x]) (l.length : Int) = x := by
 rw [gi_nat _ _ (by simp)]; simp
theorem gib_app {l : List Bool} {x : Bool} {i : Int} (h0 : 0 ≤ i) (h1 : i < l.length) : gi (l ++ [x]) i = gi l i := by
 unfold gi
 rw [List.getD_eq_getElem?_getD, List.getD_eq_getElem?_getD, List.getElem?_append_left (by omega)]
theorem isDone_app {done : List Bool} {k : Nat} (h : k < done.length) : isDone (done ++ [false]) (k : Int) = isDone done (k : Int) := by
 unfold isDone
 rw [gib_app (by omega) (by omega), decide_eq_true (by simp; omega), decide_eq_true (by omega)]
theorem free_app {l : List Api_Oper} {x : Api_Oper} {done : List Bool} (hd : done.length = l.length) (hx : x.End = -1) {i : Nat} (hi : i < l.length) : freeB (l ++ [x]) (done ++ [false]) i = freeB l done i := by
 unfold freeB
 rw [isDone_app (by omega)]
 congr 1
 rw [List.length_append, List.length_singleton, List.range_succ, List.all_append]
 have e : ([l.length].all fun k : Nat => isDone (done ++ [false]) (k : Int) || !oper_Ahead (gi (l ++ [x]) (k : Int)) (gi (l ++ [x]) (i : Int))) = true := by
  simp only [List.all_cons, List.all_nil, Bool.and_true]
  rw [gi_last]
  unfold oper_Ahead
  rw [hx]; simp
 rw [e, Bool.and_true, Bool.eq_iff_iff, List.all_eq_true, List.all_eq_true]
 refine forall_congr' fun k => forall_congr' fun hk => ?_
 have hk := List.mem_range.1 hk
 rw [isDone_app (by omega), gi_app (by omega) (by omega), gi_app (by omega) (by omega)]
theorem lins_pending {o : Api_Object} {l : List Api_Oper} (h : ∀ i : Nat, i < l.length → (gi l (i : Int)).End = -1) : ∃ L, linsOf o l = [] :: L := by
 unfold linsOf allF
 have hw : wholeB l (List.replicate l.length false) = true := by
  unfold wholeB
  rw [List.all_eq_true]
  intro i hi
  rw [h i (List.mem_range.1 hi)]; simp
 rw [if_pos hw]
 exact ⟨_, rfl⟩
end Go.Proofs.Ytojdelnnjhbgbaa
