/- The document's linearizations are the search's; law 3. -/
import Derived.Test.YtojdelnnjhbgbaaZV11
set_option linter.all false
namespace Go.Proofs.Ytojdelnnjhbgbaa
open Go Go.Sv Go.Pu
theorem grow_mem {n : Nat} {L : List (List Int)} {y : List Int} : y ∈ grow (n : Int) L ↔ ∃ x ∈ L, ∃ k : Nat, k < n ∧ (k : Int) ∉ x ∧ y = x ++ [(k : Int)] := by
 rw [grow_row, List.mem_flatMap]
 refine exists_congr fun x => and_congr Iff.rfl ?_
 unfold rowTo
 rw [List.mem_map]
 constructor
 ·rintro ⟨k, hk, rfl⟩
  obtain ⟨h1, h2⟩ := List.mem_filter.1 hk
  exact ⟨k, List.mem_range.1 h1, by simpa using h2, rfl⟩
 ·rintro ⟨k, h1, h2, rfl⟩
  exact ⟨k, List.mem_filter.2 ⟨List.mem_range.2 h1, by simpa using h2⟩, rfl⟩
theorem lev_has {n : Nat} : ∀ (k : Nat) (y : List Int), y.length = k → y.Nodup → (∀ i ∈ y, 0 ≤ i ∧ i < n) → y ∈ lev n k
 | 0, y, h, _, _ => by
  obtain rfl := List.length_eq_zero_iff.1 h
  simp [lev]
 | k + 1, y, h, hn, hr => by
  rcases List.eq_nil_or_concat y with e | ⟨x, a, e⟩
  ·subst e; simp at h
  ·rw [List.concat_eq_append] at e
   subst e
   rw [List.nodup_append] at hn
   have ih := lev_has k x (by simpa using h) hn.1 (fun i hi => hr i (by simp [hi]))
   have ha := hr a (by simp)
   refine grow_mem.2 ⟨x, ih, a.toNat, by omega, ?_, ?_⟩
   ·rw [show ((a.toNat : Nat) : Int) = a by omega]
    intro hm
    exact hn.2.2 a hm a (by simp) rfl
   ·rw [show ((a.toNat : Nat) : Int) = a by omega]
theorem orders_lev : ((List.range 6).all fun n => (List.range 6).all fun k => (lev n k).all fun x => (ref30_Orders (n : Int)).contains x) = true := by decide +kernel
theorem orders_nodup : ((List.range 6).all fun n => decide (ref30_Orders (n : Int)).Nodup) = true := by decide +kernel
theorem orders_has {n : Nat} (hn : n ≤ 5) {y : List Int} (hd : y.Nodup) (hr : ∀ i ∈ y, 0 ≤ i ∧ i < n) : y ∈ ref30_Orders (n : Int) := by
 have h := orders_lev
 rw [List.all_eq_true] at h
 have h := h n (List.mem_range.2 (by omega))
 rw [List.all_eq_true] at h
 have hc := not_count n y hd hr
 have h := h y.length (List.mem_range.2 (by omega))
 rw [List.all_eq_true] at h
 have := h y (lev_has y.length y rfl hd hr)
 simpa using this
theorem orders_nd {n : Nat} (hn : n ≤ 5) : (ref30_Orders (n : Int)).Nodup := by
 have h := orders_nodup
 rw [List.all_eq_true] at h
 exact of_decide_eq_true (h n (List.mem_range.2 (by omega)))
theorem linOf_some {o : Api_Object} {l : List Api_Oper} {y : List Int} {x : List Api_Pick} (h : linOf o l y = some x) : opers x = y ∧ ref29_Lin o l x = true := by
 unfold linOf at h
 split at h
 ·rename_i hh
  obtain rfl := Option.some.inj h
  refine ⟨?_, hh.2⟩
  have h1 := hh.1
  unfold ref28_Fill run_Fill at h1 ⊢
  split at h1
  ·rename_i hm; exact absurd h1 hm
  ·rename_i hm; rw [if_neg hm]; exact (run_fill h1).2
 ·cases h
theorem all_mem {o : Api_Object} {l : List Api_Oper} (hc : (object_Check o).2 = 0) (hl : (oper_Check l).2 = 0) (h5 : l.length ≤ 5) {x : List Api_Pick} : x ∈ ref30_All o l ↔ witness_Is o l x = true := by
 unfold ref30_All
 rw [List.mem_filterMap, is_lin hc hl]
 constructor
 ·rintro ⟨y, _, h⟩; exact (linOf_some h).2
 ·intro h
  obtain ⟨hm, _, _⟩ := may_of hc
  have hr := (lin_iff.1 h).1
  obtain ⟨p1, p2⟩ := picks_ok hr
  refine ⟨opers x, orders_has h5 p1 p2, ?_⟩
  have er : run_Picks o l x = runL o l [] o.Init x := by unfold run_Picks ref28_From; rw [hm, if_neg (by decide)]
  rw [er] at hr
  have hf : ref28_Fill o l (opers x) = (x, 0) := by
   unfold ref28_Fill run_Fill
   rw [if_neg (by omega)]
   exact fill_run hr
  unfold linOf
  rw [hf, if_pos ⟨rfl, h⟩]
theorem all_nodup {o : Api_Object} {l : List Api_Oper} (h5 : l.length ≤ 5) : (ref30_All o l).Nodup := by
 unfold ref30_All List.Nodup
 rw [List.pairwise_filterMap]
 refine (orders_nd h5).imp ?_
 intro a b hab x hx y hy e
 subst e
 exact hab ((linOf_some hx).1.symm.trans (linOf_some hy).1)
theorem less_asym : ∀ (a b : List Api_Pick), lessP a b = true → lessP b a = false
 | [], [], h => by cases h
 | [], _ :: _, _ => rfl
 | _ :: _, [], h => by cases h
 | p :: a, q :: b, h => by
  rw [lessP_cons] at h ⊢
  by_cases e : p.Oper = q.Oper
  ·rw [if_neg (by simp [e])] at h
   rw [if_neg (by simp [e])]
   exact less_asym a b h
  ·rw [if_pos e, decide_eq_true_eq] at h
   rw [if_pos (by omega), decide_eq_false_iff_not]
   omega
theorem fold_first {x : List Api_Pick} : ∀ (r : List (List Api_Pick)) (best : List Api_Pick), (best = x ∨ x ∈ r) → (∀ y, y = best ∨ y ∈ r → y ≠ x → lessP x y = true) → r.foldl (fun best y => if lessP y best then y else best) best = x
 | [], best, h, _ => by
  rcases h with h | h
  ·exact h
  ·cases h
 | z :: r, best, h, hl => by
  rw [List.foldl_cons]
  refine fold_first r _ ?_ ?_
  ·by_cases e : best = x
   ·subst e
    by_cases e2 : z = best
    ·subst e2; rw [less_irr]; left; rfl
    ·rw [less_asym _ _ (hl z (.inr (by simp)) e2)]; left; rfl
   ·by_cases e2 : z = x
    ·subst e2
     rw [hl best (.inl rfl) e]; left; rfl
    ·right
     rcases h with h | h
     ·exact absurd h e
     ·rcases List.mem_cons.1 h with h | h
      ·exact absurd h.symm e2
      ·exact h
  ·intro y hy hn
   rcases hy with hy | hy
   ·split at hy
    ·exact hl y (.inr (by simp [hy])) hn
    ·exact hl y (.inl hy) hn
   ·exact hl y (.inr (by simp [hy])) hn
theorem first_of {M : List (List Api_Pick)} {x : List Api_Pick} (hx : x ∈ M) (hl : ∀ y ∈ M, y ≠ x → lessP x y = true) : ref30_First M = (x, true) := by
 cases M with
 | nil => cases hx
 | cons z r =>
  have : r.foldl (fun best y => if lessP y best then y else best) z = x := by
   refine fold_first r z ?_ ?_
   ·rcases List.mem_cons.1 hx with h | h
    ·exact .inl h.symm
    ·exact .inr h
   ·intro y hy hn
    refine hl y ?_ hn
    rcases hy with h | h
    ·simp [h]
    ·simp [h]
  show (_, true) = _
  rw [this]
theorem all_is {o : Api_Object} {l : List Api_Oper} (hk : search_check o l 20 = 0) (h5 : l.length ≤ 5) : (ref30_All o l).length = (linsOf o l).length ∧ ref30_First (ref30_All o l) = match linsOf o l with | [] => ([], false) | x :: _ => (x, true) := by
 obtain ⟨hc, hl, _⟩ := check_fits hk
 have hm : ∀ x, x ∈ ref30_All o l ↔ x ∈ linsOf o l := fun x => (all_mem hc hl h5).trans (mem_lins hc hl x).symm
 have n1 := all_nodup (o := o) h5
 have n2 := sorted_nodup (lins_sorted o l)
 have l1 := nodup_le n1 (fun x hx => (hm x).1 hx)
 have l2 := nodup_le n2 (fun x hx => (hm x).2 hx)
 refine ⟨by omega, ?_⟩
 cases hL : linsOf o l with
 | nil =>
  rw [hL] at l1
  have : ref30_All o l = [] := List.length_eq_zero_iff.1 (by simpa using l1)
  rw [this]; rfl
 | cons x L =>
  have hs := lins_sorted o l
  rw [hL] at hs
  refine first_of ((hm x).2 (by rw [hL]; simp)) fun y hy hn => ?_
  have := (hm y).1 hy
  rw [hL] at this
  rcases List.mem_cons.1 this with h | h
  ·exact absurd h hn
  ·exact (List.pairwise_cons.1 hs).1 y h
end Go.Proofs.Ytojdelnnjhbgbaa
