/- The search's order; a pending operation more; law 5. -/
import Derived.Test.YtomodhnocjmfpaaQV8
set_option linter.all false
namespace Go.Proofs.Ytomodhnocjmfpaa
open Go Go.Sv Go.Pu
theorem less_irr : ∀ a : List Api_Pick, lessP a a = false
  | [] => rfl
  | p :: a => by unfold lessP; rw [if_neg (by simp)]; exact less_irr a
theorem free_sorted (l : List Api_Oper) (done : List Bool) : List.Pairwise (· < ·) (oper_Free l done) := by
  unfold oper_Free freeTo
  rw [List.pairwise_map]
  refine List.Pairwise.filter _ ?_
  refine List.pairwise_lt_range.imp ?_
  intro a b h; omega
theorem next_sorted (o : Api_Object) (l : List Api_Oper) (st : Int) (done : List Bool) : List.Pairwise (fun a b : Api_Pick => a.Oper < b.Oper) (search_Next o l st done) := by
  unfold search_Next
  split
  · exact List.Pairwise.nil
  · unfold nextP
    rw [List.pairwise_filterMap]
    refine (free_sorted l done).imp ?_
    intro a b h p hp q hq
    rw [pick_oper hp, pick_oper hq]; exact h
theorem all_sorted (o : Api_Object) (l : List Api_Oper) : ∀ (n : Nat) (st : Int) (done : List Bool), List.Pairwise (fun a b => lessP a b = true) (allF o l n st done)
  | 0, _, _ => List.Pairwise.nil
  | n + 1, st, done => by
    unfold allF
    rw [List.pairwise_append]
    refine ⟨by split <;> simp, ?_, ?_⟩
    · rw [List.pairwise_flatMap]
      refine ⟨fun p _ => ?_, ?_⟩
      · rw [List.pairwise_map]
        refine (all_sorted o l n _ _).imp ?_
        intro a b h
        unfold lessP; rw [if_neg (by simp)]; exact h
      · refine (next_sorted o l st done).imp ?_
        intro p q h x hx y hy
        obtain ⟨a, _, rfl⟩ := List.mem_map.1 hx
        obtain ⟨b, _, rfl⟩ := List.mem_map.1 hy
        unfold lessP
        rw [if_pos (by omega)]
        exact decide_eq_true h
    · intro a ha b hb
      split at ha
      · obtain rfl : a = [] := by simpa using ha
        obtain ⟨p, _, hb⟩ := List.mem_flatMap.1 hb
        obtain ⟨b, _, rfl⟩ := List.mem_map.1 hb
        rfl
      · cases ha
theorem sorted_nodup {L : List (List Api_Pick)} (h : List.Pairwise (fun a b => lessP a b = true) L) : L.Nodup := by
  refine h.imp ?_
  intro a b h e
  subst e
  rw [less_irr] at h; cases h
theorem lins_sorted (o : Api_Object) (l : List Api_Oper) : List.Pairwise (fun a b => lessP a b = true) (linsOf o l) := all_sorted o l _ _ _
theorem nodup_le {α : Type} [DecidableEq α] : ∀ {a b : List α}, a.Nodup → (∀ x ∈ a, x ∈ b) → a.length ≤ b.length
  | [], b, _, _ => by simp
  | x :: a, b, hn, hs => by
    obtain ⟨h1, h2⟩ := List.nodup_cons.1 hn
    have := nodup_le (a := a) (b := b.erase x) h2 (fun y hy => (List.mem_erase_of_ne (by rintro rfl; exact h1 hy)).2 (hs y (by simp [hy])))
    have hm := hs x (by simp)
    rw [List.length_erase_of_mem hm] at this
    have := List.length_pos_of_mem hm
    simp only [List.length_cons]; omega
/-! a pending operation more -/
theorem gi_app {l : List Api_Oper} {x : Api_Oper} {i : Int} (h0 : 0 ≤ i) (h1 : i < l.length) : gi (l ++ [x]) i = gi l i := by
  unfold gi
  rw [List.getD_eq_getElem?_getD, List.getD_eq_getElem?_getD, List.getElem?_append_left (by omega)]
theorem gi_last (l : List Api_Oper) (x : Api_Oper) : gi (l ++ [x]) (l.length : Int) = x := by
  rw [gi_nat _ _ (by simp)]; simp
theorem gib_app {l : List Bool} {x : Bool} {i : Int} (h0 : 0 ≤ i) (h1 : i < l.length) : gi (l ++ [x]) i = gi l i := by
  unfold gi
  rw [List.getD_eq_getElem?_getD, List.getD_eq_getElem?_getD, List.getElem?_append_left (by omega)]
theorem isDone_app {done : List Bool} {k : Nat} (h : k < done.length) : isDone (done ++ [false]) (k : Int) = isDone done (k : Int) := by
  unfold isDone
  rw [gib_app (by omega) (by omega), decide_eq_true (by simp; omega), decide_eq_true (by omega)]
theorem free_app {l : List Api_Oper} {x : Api_Oper} {done : List Bool} (hd : done.length = l.length) (hx : x.End = -1) {i : Nat} (hi : i < l.length) : freeB (l ++ [x]) (done ++ [false]) i = freeB l done i := by
  unfold freeB
  rw [isDone_app (by omega)]
  congr 1
  rw [List.length_append, List.length_singleton, List.range_succ, List.all_append]
  have e : ([l.length].all fun k : Nat => isDone (done ++ [false]) (k : Int) || !oper_Ahead (gi (l ++ [x]) (k : Int)) (gi (l ++ [x]) (i : Int))) = true := by
    simp only [List.all_cons, List.all_nil, Bool.and_true]
    rw [gi_last]
    unfold oper_Ahead
    rw [hx]; simp
  rw [e, Bool.and_true, Bool.eq_iff_iff, List.all_eq_true, List.all_eq_true]
  refine forall_congr' fun k => forall_congr' fun hk => ?_
  have hk := List.mem_range.1 hk
  rw [isDone_app (by omega), gi_app (by omega) (by omega), gi_app (by omega) (by omega)]
theorem next_app {o : Api_Object} {l : List Api_Oper} {x : Api_Oper} {st : Int} {done : List Bool} (hd : done.length = l.length) (hx : x.End = -1) {p : Api_Pick} (h : p ∈ search_Next o l st done) : p ∈ search_Next o (l ++ [x]) st (done ++ [false]) := by
  obtain ⟨hc, a, b, c, d⟩ := next_mem h
  unfold search_Next nextP
  rw [if_neg (by omega)]
  refine List.mem_filterMap.2 ⟨p.Oper, ?_, ?_⟩
  · have := mem_free (l := l ++ [x]) (done := done ++ [false]) (i := p.Oper.toNat) (by simp; omega) (by rw [free_app hd hx (by omega)]; exact c)
    rwa [show ((p.Oper.toNat : Nat) : Int) = p.Oper by omega] at this
  · unfold pickAt at d ⊢
    rw [gi_app a b]; exact d
theorem way_app {o : Api_Object} {l : List Api_Oper} {x : Api_Oper} (hx : x.End = -1) : ∀ (ps : List Api_Pick) (st : Int) (done : List Bool), done.length = l.length → wayOn o l st done ps → wayOn o (l ++ [x]) st (done ++ [false]) ps
  | [], st, done, hd, h => by
    unfold wayOn wholeB at h ⊢
    rw [List.length_append, List.length_singleton, List.range_succ, List.all_append, Bool.and_eq_true]
    constructor
    · rw [List.all_eq_true] at h ⊢
      intro i hi
      have := List.mem_range.1 hi
      rw [gi_app (by omega) (by omega), gib_app (by omega) (by omega)]
      exact h i hi
    · simp only [List.all_cons, List.all_nil, Bool.and_true]
      rw [gi_last, hx]; simp
  | p :: ps, st, done, hd, h => by
    unfold wayOn at h ⊢
    obtain ⟨_, a, b, _, _⟩ := next_mem h.1
    refine ⟨next_app hd hx h.1, ?_⟩
    have ih := way_app hx ps _ _ (by simpa using hd) h.2
    have e1 : moveTo o (l ++ [x]) st p = moveTo o l st p := by unfold moveTo; rw [gi_app a b]
    rw [e1, List.set_append_left _ _ (by omega)]
    exact ih
theorem lins_app {o : Api_Object} {l : List Api_Oper} {x : Api_Oper} (hx : x.End = -1) : (linsOf o l).length ≤ (linsOf o (l ++ [x])).length := by
  refine nodup_le (sorted_nodup (lins_sorted o l)) fun ps hp => ?_
  have h1 := all_iff (o := o) (l := l) (st := o.Init) (done := List.replicate l.length false) (by simp) (ps := ps)
  have h2 := all_iff (o := o) (l := l ++ [x]) (st := o.Init) (done := List.replicate (l ++ [x]).length false) (by simp) (ps := ps)
  rw [cf_rep] at h1 h2
  refine h2.2 ?_
  have := way_app (x := x) hx ps _ _ (by simp) (h1.1 hp)
  rw [List.length_append, List.length_singleton, List.replicate_succ']
  exact this
theorem lins_pending {o : Api_Object} {l : List Api_Oper} (h : ∀ i : Nat, i < l.length → (gi l (i : Int)).End = -1) : ∃ L, linsOf o l = [] :: L := by
  unfold linsOf allF
  have hw : wholeB l (List.replicate l.length false) = true := by
    unfold wholeB
    rw [List.all_eq_true]
    intro i hi
    rw [h i (List.mem_range.1 hi)]; simp
  rw [if_pos hw]
  exact ⟨_, rfl⟩
theorem check_any {o : Api_Object} {l : List Api_Oper} {a b : Int} (ha : (l.length : Int) ≤ a) (hb : (l.length : Int) ≤ b) : search_check o l a = search_check o l b := by
  unfold search_check
  rw [if_neg (show ¬ (l.length : Int) > a by omega), if_neg (show ¬ (l.length : Int) > b by omega)]
theorem count_is (o : Api_Object) (l : List Api_Oper) : search_Count o l = if search_check o l 6 ≠ 0 then (0, search_check o l 6) else (((linsOf o l).length : Int), 0) := rfl
theorem v5 {A B C : Prop} (o : Api_Object) (l : List Api_Oper) (kind : Int) (ho : inR .i64 o.States ∧ inR .i64 o.Kinds ∧ A) (_ : B) (_ : C) : VC5 o l kind (fun r => r = true) := by
  have hO : preO o := ⟨ho.1, ho.2.1⟩
  intro _ hsl
  rintro _ rfl
  refine ⟨fun _ => by rintro _ rfl; rfl, fun h => ?_⟩
  simp only [Bool.or_eq_false_iff, Bool.not_eq_false', decide_eq_false_iff_not] at h
  obtain ⟨⟨⟨hfew, hl5⟩, _⟩, _⟩ := h
  refine ⟨hO, ?_⟩
  rintro _ rfl
  refine ⟨hO, ?_⟩
  rintro _ rfl _
  have h620 := check_any (o := o) (l := l) (a := 6) (b := 20) (by omega) (by omega)
  rw [count_is, h620]
  rcases search_cases o l with ⟨h1, h2⟩ | ⟨h1, hL, h2⟩ | ⟨x, L, h1, hL, h2⟩
  · rw [if_pos h1, h2]
    refine ⟨fun _ => ⟨fun _ => by rintro _ rfl; rfl, fun h => ?_⟩, fun h => ?_⟩
    · exfalso; revert h; simp [h1]
    · exact absurd h (by simp [h1])
  · have e0 : (if search_check o l 20 ≠ 0 then (0, search_check o l 20) else (((linsOf o l).length : Int), (0 : Int))) = (0, 0) := by rw [if_neg (by omega), hL]; rfl
    rw [e0, h2]
    refine ⟨(fun h => by cases h), fun _ => ⟨fun h => by simp at h, fun _ => ⟨by simp; omega, by simp; omega, hO, ?_⟩⟩⟩
    rintro _ rfl
    refine ⟨fun h => ?_, fun _ => ?_⟩
    · exfalso
      rw [Bool.and_eq_true, decide_eq_true_eq, beq_iff_eq, count_is] at h
      split at h
      · rename_i h3; exact h3 h.1
      · have := h.2; dsimp only at this; omega
    · refine ⟨fun i => 0 ≤ i ∧ i ≤ l.length ∧ ∀ j : Nat, (j : Int) < i → (gi l (j : Int)).End = -1, fun i => (l.length - i).toNat, ⟨by omega, by omega, fun j h => by omega⟩, ?_⟩
      rintro i ⟨i0, i1, hi⟩
      refine ⟨fun h => ?_, fun h => ?_⟩
      · have h := of_decide_eq_true h
        refine ⟨⟨i0, h⟩, fun _ => by rintro _ rfl; rfl, fun h2 => ?_⟩
        rw [wrp (by omega) (by omega)]
        refine ⟨⟨by omega, by omega, fun j hj => ?_⟩, by first | omega | (dsimp only; omega)⟩
        by_cases e : (j : Int) = i
        · rw [e]; rw [bne_eq_false_iff_eq] at h2; exact h2
        · exact hi j (by omega)
      · have h := of_decide_eq_false h
        obtain ⟨L', e⟩ := lins_pending (o := o) (l := l) (fun j hj => hi j (by omega))
        rw [hL] at e; cases e
  · have e0 : (if search_check o l 20 ≠ 0 then (0, search_check o l 20) else (((linsOf o l).length : Int), (0 : Int))) = (((linsOf o l).length : Int), 0) := by rw [if_neg (by omega)]
    rw [e0, h2]
    have hpos : 0 < (linsOf o l).length := by rw [hL]; simp
    refine ⟨(fun h => by cases h), fun _ => ⟨fun h => ?_, fun _ => ⟨by simp; omega, by simp; omega, hO, ?_⟩⟩⟩
    · exfalso
      dsimp only at h
      rw [decide_eq_true (by omega), decide_eq_false (by omega)] at h
      cases h
    rintro _ rfl
    refine ⟨fun h => ?_, fun _ => ?_⟩
    · exfalso
      rw [Bool.and_eq_true, decide_eq_true_eq, beq_iff_eq, count_is] at h
      split at h
      · rename_i h3; exact h3 h.1
      · have := h.2; dsimp only at this
        have h4 := lins_app (o := o) (l := l) (x := ⟨1000, kind, 9999, -1, -1⟩) rfl
        rw [List.nil_append] at this
        omega
    · refine ⟨fun i => 0 ≤ i ∧ i ≤ l.length ∧ ∀ j : Nat, (j : Int) < i → (gi l (j : Int)).End = -1, fun i => (l.length - i).toNat, ⟨by omega, by omega, fun j h => by omega⟩, ?_⟩
      rintro i ⟨i0, i1, hi⟩
      refine ⟨fun h => ?_, fun h => ?_⟩
      · have h := of_decide_eq_true h
        refine ⟨⟨i0, h⟩, fun _ => by rintro _ rfl; rfl, fun h2 => ?_⟩
        rw [wrp (by omega) (by omega)]
        refine ⟨⟨by omega, by omega, fun j hj => ?_⟩, by first | omega | (dsimp only; omega)⟩
        by_cases e : (j : Int) = i
        · rw [e]; rw [bne_eq_false_iff_eq] at h2; exact h2
        · exact hi j (by omega)
      · have h := of_decide_eq_false h
        obtain ⟨L', e⟩ := lins_pending (o := o) (l := l) (fun j hj => hi j (by omega))
        rw [hL] at e
        obtain rfl := (List.cons.inj e).1
        unfold VC5_J1
        refine ⟨fun _ => by rintro _ rfl; rfl, fun h => ?_⟩
        exfalso
        dsimp only at h
        rw [decide_eq_true (by omega)] at h
        cases h
end Go.Proofs.Ytomodhnocjmfpaa
