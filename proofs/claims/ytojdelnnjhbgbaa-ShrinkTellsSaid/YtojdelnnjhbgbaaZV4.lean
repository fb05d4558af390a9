/- Orders filled; linearizations, plain. -/
import Derived.Test.YtojdelnnjhbgbaaZV3
set_option linter.all false
namespace Go.Proofs.Ytojdelnnjhbgbaa
open Go Go.Sv Go.Pu
def prevI (order : List Int) (k : Nat) : List Int := (order.take k).reverse
theorem prevI_zero (p : List Int) : prevI p 0 = [] := by simp [prevI]
theorem prevI_succ {p : List Int} {k : Nat} (h : k < p.length) : prevI p (k + 1) = gi p (k : Int) :: prevI p k := by
 unfold prevI
 rw [List.take_succ_eq_append_getElem h, List.reverse_append, gi_nat _ _ h]; rfl
def onto (a : List Api_Pick) (r : List Api_Pick × Int) : List Api_Pick × Int := if r.2 ≠ 0 then ([], r.2) else (a ++ r.1, 0)
theorem fill_cons {o : Api_Object} {l : List Api_Oper} {p : List Int} {k : Nat} {prev : List Int} {s : Int} (h : k < p.length) :
  fillL o l prev s (p.drop k) = if (stepOne o l prev s (pickOf o l s (gi p (k : Int)))).2 ≠ 0 then ([], (stepOne o l prev s (pickOf o l s (gi p (k : Int)))).2) else onto [pickOf o l s (gi p (k : Int))] (fillL o l (gi p (k : Int) :: prev) (stepOne o l prev s (pickOf o l s (gi p (k : Int)))).1 (p.drop (k + 1))) := by
 rw [drop_gi h, fillL]; rfl
theorem onto_onto (a b : List Api_Pick) (r : List Api_Pick × Int) : onto a (onto b r) = onto (a ++ b) r := by
 unfold onto
 by_cases h : r.2 ≠ 0
 ·rw [if_pos h, if_pos h, if_pos h]
 ·rw [if_neg h, if_neg h, if_neg (by simp)]
  simp
theorem fill_err (o : Api_Object) (l : List Api_Oper) (prev : List Int) (s : Int) (p : List Int) (hr : (fillL o l prev s p).2 ≠ 0) : (fillL o l prev s p).1 = [] := by
 cases p with
 | nil => exact absurd rfl hr
 | cons i is =>
  rw [fillL] at hr ⊢
  split at hr
  ·rename_i h2; rw [if_pos h2]
  ·rename_i h2
   rw [if_neg h2]
   split at hr
   ·rename_i h3; rw [if_pos h3]
   ·exact absurd rfl hr
theorem onto_nil (o : Api_Object) (l : List Api_Oper) (prev : List Int) (s : Int) (p : List Int) : onto [] (fillL o l prev s p) = fillL o l prev s p := by
 unfold onto
 by_cases hr : (fillL o l prev s p).2 ≠ 0
 ·rw [if_pos hr, ← fill_err o l prev s p hr]
 ·rw [if_neg hr]
  have : (fillL o l prev s p).2 = 0 := by omega
  rw [← this]; simp
theorem run_snoc {o : Api_Object} {l : List Api_Oper} {q : Api_Pick} : ∀ {a : List Api_Pick} {prev : List Int} {s : Int}, (runL o l prev s a).2.2 = 0 →
  runL o l prev s (a ++ [q]) = if (stepOne o l ((a.map (·.Oper)).reverse ++ prev) (runL o l prev s a).1 q).2 ≠ 0 then (0, (a.length : Int), (stepOne o l ((a.map (·.Oper)).reverse ++ prev) (runL o l prev s a).1 q).2) else ((stepOne o l ((a.map (·.Oper)).reverse ++ prev) (runL o l prev s a).1 q).1, (a.length : Int) + 1, 0)
 | [], prev, s, _ => by
  simp only [List.nil_append, runL, List.map_nil, List.reverse_nil, List.length_nil]
  by_cases h : (stepOne o l prev s q).2 ≠ 0
  ·rw [if_pos h, if_pos h]; rfl
  ·rw [if_neg h, if_neg h]; rfl
 | p :: a, prev, s, h0 => by
  rw [runL] at h0
  by_cases he : (stepOne o l prev s p).2 ≠ 0
  ·rw [if_pos he] at h0; exact absurd h0 he
  ·rw [if_neg he] at h0
   dsimp only at h0
   have ih := run_snoc (o := o) (l := l) (q := q) (a := a) (prev := p.Oper :: prev) (s := (stepOne o l prev s p).1) h0
   rw [List.cons_append, runL, if_neg he, ih, runL, if_neg he]
   dsimp only
   have e : ((p :: a).map (·.Oper)).reverse ++ prev = (a.map (·.Oper)).reverse ++ (p.Oper :: prev) := by simp
   rw [e]
   split
   ·simp
   ·simp
theorem v46 (o : Api_Object) (l : List Api_Oper) (p : List Int) (h : preR2 o l p) : VC46 o l p (fun r => r = ref28_Fill o l p) := by
 have hlen : p.length ≤ 1000000 := h
 unfold VC46 ref28_Fill
 intro _ hl hp
 simp only [sm] at hl hp
 rintro _ rfl
 simp only [bne_iff_ne, bne_eq_false_iff_eq]
 have ef0 : ∀ a, run_may o o.Init = 0 → ref28_From o l o.Init a = runL o l [] o.Init a := fun a hm => by unfold ref28_From; rw [hm, if_neg (by decide)]
 by_cases hm : run_may o o.Init = 0
 ·have e0 : ref28_From o l o.Init [] = (o.Init, 0, 0) := by rw [ef0 _ hm]; rfl
  have er : run_Fill o l p = fillL o l [] o.Init p := by unfold run_Fill; rw [hm, if_neg (by decide)]
  rw [e0, er]
  refine ⟨fun h => absurd rfl h, fun _ => ?_⟩
  simp only [decide_eq_true_eq, decide_eq_false_iff_not]
  refine ⟨fun out st i => ∃ k : Nat, i = k ∧ k ≤ p.length ∧ out.length = k ∧ out.map (·.Oper) = p.take k ∧ runL o l [] o.Init out = (st, (k : Int), 0) ∧ onto out (fillL o l (prevI p k) st (p.drop k)) = fillL o l [] o.Init p, fun _ _ i => (p.length - i).toNat, ⟨0, rfl, by omega, rfl, by simp, rfl, by rw [prevI_zero, List.drop_zero]; exact onto_nil _ _ _ _ _⟩, ?_⟩
  rintro out st _ ⟨k, rfl, hk, hol, hmap, hrun, hgo⟩
  refine ⟨fun hi => ?_, fun hi => ?_⟩
  ·have hi : k < p.length := by omega
   rw [fill_cons hi] at hgo
   have hprev : (out.map (·.Oper)).reverse ++ [] = prevI p k := by rw [hmap, List.append_nil]; rfl
   have j2 : ∀ x, x = (pickOf o l st (gi p (k : Int))).Result → VC46_J2 o l p (fun r => r = fillL o l [] o.Init p) (fun out st i => ∃ k : Nat, i = k ∧ k ≤ p.length ∧ out.length = k ∧ out.map (·.Oper) = p.take k ∧ runL o l [] o.Init out = (st, (k : Int), 0) ∧ onto out (fillL o l (prevI p k) st (p.drop k)) = fillL o l [] o.Init p) (fun _ _ i => (p.length - i).toNat) out st k out x := by
    rintro x hx
    unfold VC46_J2
    rw [show (⟨gi p (k : Int), x⟩ : Api_Pick) = pickOf o l st (gi p (k : Int)) by rw [hx]; rfl]
    refine ⟨by simp only [List.length_append, List.length_cons, List.length_nil]; omega, ?_⟩
    rintro _ rfl
    have hsn := run_snoc (o := o) (l := l) (q := pickOf o l st (gi p (k : Int))) (a := out) (prev := []) (s := o.Init) (by rw [hrun])
    rw [hprev, hrun, hol] at hsn
    dsimp only at hsn
    rw [ef0 _ hm, hsn]
    simp only [bne_iff_ne, bne_eq_false_iff_eq]
    by_cases he : (stepOne o l (prevI p k) st (pickOf o l st (gi p (k : Int)))).2 ≠ 0
    ·rw [if_pos he]
     refine ⟨fun _ => ?_, fun h => absurd h he⟩
     rw [if_pos he] at hgo
     rw [← hgo]; unfold onto; rw [if_pos he]
    ·rw [if_neg he]
     refine ⟨fun h => absurd rfl h, fun _ => ?_⟩
     rw [if_neg he, onto_onto, ← prevI_succ hi] at hgo
     rw [wrp (by omega) (by omega)]
     refine ⟨⟨k + 1, by simp, by omega, by simp [hol], ?_, ?_, hgo⟩, by omega⟩
     ·rw [List.map_append, hmap, List.take_succ_eq_append_getElem hi, gi_nat _ _ hi]; rfl
     ·rw [hsn, if_neg he]; simp
   have jn : ¬ (0 ≤ gi p (k : Int) ∧ gi p (k : Int) < l.length) → VC46_J2 o l p (fun r => r = fillL o l [] o.Init p) (fun out st i => ∃ k : Nat, i = k ∧ k ≤ p.length ∧ out.length = k ∧ out.map (·.Oper) = p.take k ∧ runL o l [] o.Init out = (st, (k : Int), 0) ∧ onto out (fillL o l (prevI p k) st (p.drop k)) = fillL o l [] o.Init p) (fun _ _ i => (p.length - i).toNat) out st k out 0 := fun h => j2 0 (by unfold pickOf; dsimp only; rw [if_neg h])
   refine ⟨⟨by omega, by omega⟩, ⟨by omega, by omega⟩, fun hb => ⟨⟨by omega, by omega⟩, ?_⟩, fun hb => ?_⟩
   ·unfold VC46_J3
    rw [decide_eq_true_eq, decide_eq_false_iff_not]
    refine ⟨fun hb2 => ⟨⟨by omega, by omega⟩, ⟨by omega, by omega⟩, ?_⟩, fun hb2 => jn (by omega)⟩
    rintro _ rfl
    refine j2 _ ?_
    unfold pickOf
    dsimp only
    rw [if_pos ⟨by omega, hb2⟩]
   ·unfold VC46_J3
    exact ⟨(fun h => by cases h), fun _ => jn (by omega)⟩
  ·have : k = p.length := by omega
   subst this
   unfold VC46_J1
   rw [← hgo, List.drop_length, fillL]
   unfold onto; simp
 ·have e0 : ref28_From o l o.Init [] = (0, -1, run_may o o.Init) := by unfold ref28_From; rw [if_pos hm]
  rw [e0]
  refine ⟨fun _ => by unfold run_Fill; rw [if_pos hm], fun h => absurd h hm⟩
theorem rows_next {o : Api_Object} : ∀ {f i : Nat}, i + f = o.Rows.length → (rowsGo o f i).2 = 0 → ∀ j : Nat, i ≤ j → j < o.Rows.length → rowErr o (j : Int) = 0
 | 0, i, h, _, j, h1, h2 => by omega
 | f + 1, i, h, h0, j, h1, h2 => by
  rw [rowsGo] at h0
  by_cases he : rowErr o (i : Int) ≠ 0
  ·rw [if_pos he] at h0; exact absurd h0 he
  ·rw [if_neg he] at h0
   by_cases hj : j = i
   ·subst hj; omega
   ·exact rows_next (f := f) (i := i + 1) (by omega) h0 j (by omega) h2
theorem move_in {o : Api_Object} {s k : Int} (hc : (ref23_Check o).2 = 0) (h : (ref23_Move o s k).2.2 = true) : 0 ≤ (ref23_Move o s k).1 ∧ (ref23_Move o s k).1 < o.States := by
 unfold ref23_Check at hc
 split at hc
 ·cases hc
 ·have hall := rows_next (by omega) hc
  unfold ref23_Move at h ⊢
  cases hf : o.Rows.find? (fun r => r.State == s && r.Kind == k) with
  | none => rw [hf] at h; cases h
  | some r =>
   have hm := List.mem_of_find?_eq_some hf
   obtain ⟨j, hj, rfl⟩ := List.getElem_of_mem hm
   have := hall j (by omega) hj
   unfold rowErr at this
   rw [gi_nat _ _ hj] at this
   dsimp only
   by_cases hb : o.Rows[j].State < 0 ∨ o.Rows[j].State ≥ o.States ∨ o.Rows[j].Next < 0 ∨ o.Rows[j].Next ≥ o.States
   ·rw [if_pos hb] at this; cases this
   ·omega
theorem fill_run {o : Api_Object} {l : List Api_Oper} : ∀ {p : List Api_Pick} {prev : List Int} {s : Int}, (runL o l prev s p).2.2 = 0 → fillL o l prev s (p.map (·.Oper)) = (p, 0)
 | [], _, _, _ => rfl
 | q :: p, prev, s, h => by
  rw [runL] at h
  by_cases he : (stepOne o l prev s q).2 ≠ 0
  ·rw [if_pos he] at h; exact absurd h he
  ·rw [if_neg he] at h
   dsimp only at h
   have eq : pickOf o l s q.Oper = q := by
    unfold stepOne at he
    by_cases h1 : q.Oper < 0 ∨ q.Oper ≥ l.length
    ·rw [if_pos h1] at he; exact absurd (by decide) he
    ·rw [if_neg h1] at he
     by_cases h2 : q.Oper ∈ prev
     ·rw [if_pos h2] at he; exact absurd (by decide) he
     ·rw [if_neg h2, (tail_two _ _ _ _).1] at he
      have hte : tailErr o l s q = 0 := by omega
      unfold tailErr at hte
      by_cases hh : (ref28_Step o s (gi l q.Oper).Kind q.Result).2 = 0 ∧ (gi l q.Oper).End ≠ -1 ∧ (gi l q.Oper).Result ≠ q.Result
      ·rw [if_pos hh] at hte; cases hte
      ·rw [if_neg hh] at hte
       unfold ref28_Step at hte
       unfold pickOf
       rw [if_pos (by omega)]
       split at hte
       ·cases hte
       ·split at hte
        ·cases hte
        ·rename_i h4
         have : (ref23_Move o s (gi l q.Oper).Kind).2.1 = q.Result := by
          apply Classical.byContradiction
          intro hn; exact h4 (Or.inr hn)
         rw [this]
   have ih := fill_run (p := p) h
   rw [List.map_cons, fillL, eq, if_neg he, ih, if_neg (fun h => h rfl)]
theorem run_fill {o : Api_Object} {l : List Api_Oper} : ∀ {is : List Int} {prev : List Int} {s : Int}, (fillL o l prev s is).2 = 0 → (runL o l prev s (fillL o l prev s is).1).2.2 = 0 ∧ (fillL o l prev s is).1.map (·.Oper) = is
 | [], _, _, _ => ⟨rfl, rfl⟩
 | i :: is, prev, s, h => by
  rw [fillL] at h ⊢
  by_cases he : (stepOne o l prev s (pickOf o l s i)).2 ≠ 0
  ·rw [if_pos he] at h; exact absurd h he
  ·rw [if_neg he] at h ⊢
   by_cases h2 : (fillL o l (i :: prev) (stepOne o l prev s (pickOf o l s i)).1 is).2 ≠ 0
   ·rw [if_pos h2] at h; exact absurd h h2
   ·rw [if_neg h2] at h ⊢
    obtain ⟨g1, g2⟩ := run_fill (o := o) (l := l) (is := is) (prev := i :: prev) (s := (stepOne o l prev s (pickOf o l s i)).1) (by omega)
    dsimp only
    rw [runL, if_neg he]
    refine ⟨g1, ?_⟩
    rw [List.map_cons, g2]; rfl
theorem run_ok {o : Api_Object} {l : List Api_Oper} : ∀ {p : List Api_Pick} {prev : List Int} {s : Int}, (runL o l prev s p).2.2 = 0 → (opers p).Nodup ∧ ∀ x ∈ opers p, 0 ≤ x ∧ x < l.length ∧ x ∉ prev
 | [], _, _, _ => ⟨List.nodup_nil, fun x hx => by cases hx⟩
 | q :: p, prev, s, h => by
  rw [runL] at h
  by_cases he : (stepOne o l prev s q).2 ≠ 0
  ·rw [if_pos he] at h; exact absurd h he
  ·rw [if_neg he] at h
   obtain ⟨i1, i2⟩ := run_ok (p := p) h
   have hin : ¬ (q.Oper < 0 ∨ q.Oper ≥ l.length) ∧ q.Oper ∉ prev := by
    unfold stepOne at he
    by_cases h1 : q.Oper < 0 ∨ q.Oper ≥ l.length
    ·rw [if_pos h1] at he; exact absurd (by decide) he
    ·rw [if_neg h1] at he
     refine ⟨h1, fun h2 => ?_⟩
     rw [if_pos h2] at he; exact absurd (by decide) he
   have e : opers (q :: p) = q.Oper :: opers p := rfl
   rw [e, List.nodup_cons]
   refine ⟨⟨fun hm => ?_, i1⟩, fun x hx => ?_⟩
   ·exact (i2 _ hm).2.2 (List.mem_cons_self ..)
   ·rcases List.mem_cons.mp hx with rfl | hx
    ·exact ⟨by omega, by omega, hin.2⟩
    ·obtain ⟨a, b, c⟩ := i2 x hx
     exact ⟨a, b, fun hp => c (List.mem_cons_of_mem _ hp)⟩
theorem not_count (n : Nat) : ∀ (S : List Int), S.Nodup → (∀ x ∈ S, 0 ≤ x ∧ x < n) → ((List.range n).filter (fun i : Nat => !decide ((i : Int) ∈ S))).length + S.length = n
 | [], _, _ => by simp; rw [List.filter_eq_self.mpr (fun _ _ => rfl), List.length_range]
 | a :: S, hn, hr => by
  have ih := not_count n S (List.nodup_cons.mp hn).2 (fun x hx => hr x (List.mem_cons_of_mem _ hx))
  obtain ⟨h0, h1⟩ := hr a (List.mem_cons_self ..)
  have hF : ((List.range n).filter (fun i : Nat => !decide ((i : Int) ∈ S))).Nodup := List.Pairwise.filter _ List.nodup_range
  have hm : a.toNat ∈ (List.range n).filter (fun i : Nat => !decide ((i : Int) ∈ S)) := by
   rw [List.mem_filter, List.mem_range]
   refine ⟨by omega, ?_⟩
   have : (a.toNat : Int) = a := by omega
   simp [this, (List.nodup_cons.mp hn).1]
  have he : (List.range n).filter (fun i : Nat => !decide ((i : Int) ∈ a :: S)) = ((List.range n).filter (fun i : Nat => !decide ((i : Int) ∈ S))).erase a.toNat := by
   rw [hF.erase_eq_filter, List.filter_filter]
   congr 1
   funext i
   rw [Bool.eq_iff_iff]
   simp only [Bool.not_eq_true', decide_eq_false_iff_not, List.mem_cons, Bool.and_eq_true, bne_iff_ne]
   constructor
   ·intro h; exact ⟨fun h2 => h (Or.inl (by omega)), fun h2 => h (Or.inr h2)⟩
   ·rintro ⟨h2, h3⟩ (h4 | h4)
    ·exact h2 (by omega)
    ·exact h3 h4
  have hpos := List.length_pos_of_mem hm
  rw [he, List.length_erase_of_mem hm, List.length_cons]
  omega
theorem mem_missing {l : List Api_Oper} {p : List Api_Pick} {m : Int} : m ∈ witness_Missing l p ↔ 0 ≤ m ∧ m < l.length ∧ (gi l m).End ≠ -1 ∧ m ∉ opers p := by
 unfold witness_Missing witness_those thoseTo isThose
 rw [List.mem_map]
 constructor
 ·rintro ⟨i, hi, rfl⟩
  rw [List.mem_filter, List.mem_range] at hi
  obtain ⟨h1, h2⟩ := hi
  simp only [Bool.and_eq_true, beq_iff_eq, beq_eq_false_iff_ne, Bool.not_eq_true', decide_eq_false_iff_not] at h2
  exact ⟨by omega, by omega, h2.1, h2.2⟩
 ·rintro ⟨h0, h1, h2, h3⟩
  refine ⟨m.toNat, ?_, by omega⟩
  have e : (m.toNat : Int) = m := by omega
  rw [List.mem_filter, List.mem_range, e]
  refine ⟨by omega, ?_⟩
  simp only [Bool.and_eq_true, beq_iff_eq, beq_eq_false_iff_ne, Bool.not_eq_true', decide_eq_false_iff_not]
  exact ⟨h2, h3⟩
theorem order_neg {l : List Api_Oper} {p : List Api_Pick} (h : ¬ witness_Order l p ≥ 0) : ∀ y : Nat, y < p.length → orderBad l p y = false := by
 unfold witness_Order orderTo at h
 cases hf : (List.range p.length).find? (orderBad l p) with
 | none =>
  rw [List.find?_eq_none] at hf
  intro y hy
  have := hf y (List.mem_range.mpr hy)
  simpa using this
 | some x => rw [hf] at h; exact absurd (by dsimp only; omega) h
theorem is_iff {o : Api_Object} {l : List Api_Oper} {p : List Api_Pick} : witness_Is o l p = true ↔ (object_Check o).2 = 0 ∧ (oper_Check l).2 = 0 ∧ (run_Picks o l p).2.2 = 0 ∧ (∀ y : Nat, y < p.length → orderBad l p y = false) ∧ ∀ m, m ∉ witness_Missing l p := by
 unfold witness_Is
 rw [beq_iff_eq]
 unfold witness_Check
 by_cases h1 : (object_Check o).2 ≠ 0 ∨ (oper_Check l).2 ≠ 0
 ·rw [if_pos h1]
  exact ⟨(fun h => by cases h), fun h => by omega⟩
 ·rw [if_neg h1]
  by_cases h2 : (run_Picks o l p).2.2 ≠ 0
  ·rw [if_pos h2]
   exact ⟨fun h => absurd h h2, fun h => absurd h.2.2.1 h2⟩
  ·rw [if_neg h2]
   by_cases h3 : witness_Order l p ≥ 0
   ·rw [if_pos h3]
    refine ⟨(fun h => by cases h), fun h => ?_⟩
    rw [order_no h.2.2.2.1] at h3
    exact absurd h3 (by decide)
   ·rw [if_neg h3]
    by_cases h4 : (witness_Missing l p).length > 0
    ·rw [if_pos h4]
     refine ⟨(fun h => by cases h), fun h => ?_⟩
     exact absurd (List.getElem_mem h4) (h.2.2.2.2 _)
    ·rw [if_neg h4]
     refine ⟨fun _ => ⟨by omega, by omega, by omega, order_neg h3, fun m hm => h4 (List.length_pos_of_mem hm)⟩, fun _ => rfl⟩
theorem picks_ok {o : Api_Object} {l : List Api_Oper} {p : List Api_Pick} (h : (run_Picks o l p).2.2 = 0) : (opers p).Nodup ∧ ∀ x ∈ opers p, 0 ≤ x ∧ x < l.length := by
 unfold run_Picks ref28_From at h
 split at h
 ·rename_i hm; exact absurd h hm
 ·have := run_ok h
  exact ⟨this.1, fun x hx => ⟨(this.2 x hx).1, (this.2 x hx).2.1⟩⟩
theorem place_mem {p : List Api_Pick} {i : Int} : ref29_Place p i ≥ 0 ↔ i ∈ opers p := by
 have hm := mem_opers (p := p) (i := i) (Nat.le_refl _)
 rw [List.take_length] at hm
 rcases place_spec p i with ⟨h1, h2⟩ | ⟨k, h1, h2, h3, _⟩
 ·rw [h1]; exact ⟨fun h => absurd h (by decide), fun h => absurd h h2⟩
 ·rw [h2, hm]; exact ⟨fun _ => ⟨k, h1, h3⟩, fun _ => by omega⟩
theorem ahead_irr {l : List Api_Oper} (h : (oper_Check l).2 = 0) {i : Int} (h0 : 0 ≤ i) (h1 : i < l.length) : oper_Ahead (gi l i) (gi l i) = false := by
 have hl := check_len h
 unfold oper_Check at h
 rw [if_neg (by omega)] at h
 have ha := (check_ok l l.length [] [] 0 (by omega) h i.toNat (by omega) (by omega)).1
 have e : (i.toNat : Int) = i := by omega
 rw [e] at ha
 unfold oper_alone at ha
 unfold oper_Ahead
 split at ha
 ·cases ha
 ·split at ha
  ·cases ha
  ·split at ha
   ·cases ha
   ·rename_i _ _ he
    have he : oper_ended (gi l i) = true := by simpa using he
    unfold oper_ended at he
    rw [Bool.and_eq_false_iff, decide_eq_false_iff_not, decide_eq_false_iff_not]
    split at he
    ·left; omega
    ·simp only [Bool.and_eq_true, decide_eq_true_eq] at he
     right; omega
theorem lin_iff {o : Api_Object} {l : List Api_Oper} {p : List Api_Pick} : ref29_Lin o l p = true ↔ (run_Picks o l p).2.2 = 0 ∧ ∀ i : Nat, i < l.length → ((gi l (i : Int)).End ≠ -1 → ref29_Place p i ≥ 0) ∧ ∀ k : Nat, k < l.length → oper_Ahead (gi l (i : Int)) (gi l (k : Int)) = true → ref29_Place p k ≥ 0 → ref29_Place p i ≥ 0 ∧ ref29_Place p i ≤ ref29_Place p k := by
 unfold ref29_Lin
 rw [Bool.and_eq_true, decide_eq_true_eq, List.all_eq_true]
 have e : ∀ i, linAt l p i = true ↔ ((gi l (i : Int)).End ≠ -1 → ref29_Place p i ≥ 0) ∧ ∀ k : Nat, k < l.length → oper_Ahead (gi l (i : Int)) (gi l (k : Int)) = true → ref29_Place p k ≥ 0 → ref29_Place p i ≥ 0 ∧ ref29_Place p i ≤ ref29_Place p k := by
  intro i
  unfold linAt
  rw [Bool.and_eq_true, List.all_eq_true]
  have a1 : (!(((gi l (i : Int)).End != -1) && decide (ref29_Place p i < 0))) = true ↔ ((gi l (i : Int)).End ≠ -1 → ref29_Place p i ≥ 0) := by
   rw [Bool.not_eq_true', Bool.and_eq_false_iff, bne_eq_false_iff_eq, decide_eq_false_iff_not]
   omega
  rw [a1]
  refine and_congr Iff.rfl ⟨fun h k hk ha hp => ?_, fun h k hk => ?_⟩
  ·have := h k (List.mem_range.mpr hk)
   unfold linPair at this
   rw [ha, Bool.not_eq_true', Bool.true_and, Bool.and_eq_false_iff, decide_eq_false_iff_not, Bool.or_eq_false_iff, decide_eq_false_iff_not, decide_eq_false_iff_not] at this
   omega
  ·unfold linPair
   rw [Bool.not_eq_true', Bool.and_eq_false_iff, Bool.and_eq_false_iff, decide_eq_false_iff_not, Bool.or_eq_false_iff, decide_eq_false_iff_not, decide_eq_false_iff_not]
   cases ha : oper_Ahead (gi l (i : Int)) (gi l (k : Int)) with
   | false => exact Or.inl (Or.inl rfl)
   | true =>
    have := h k (List.mem_range.mp hk) ha
    by_cases hp : ref29_Place p k ≥ 0
    ·have := this hp; right; omega
    ·exact Or.inl (Or.inr hp)
 constructor
 ·rintro ⟨h1, h2⟩
  exact ⟨h1, fun i hi => (e i).mp (h2 i (List.mem_range.mpr hi))⟩
 ·rintro ⟨h1, h2⟩
  exact ⟨h1, fun i hi => (e i).mpr (h2 i (List.mem_range.mp hi))⟩
theorem is_lin {o : Api_Object} {l : List Api_Oper} {p : List Api_Pick} (hc : (object_Check o).2 = 0) (hl : (oper_Check l).2 = 0) : witness_Is o l p = ref29_Lin o l p := by
 rw [Bool.eq_iff_iff, is_iff, lin_iff]
 constructor
 ·rintro ⟨-, -, hrun, hord, hmis⟩
  refine ⟨hrun, fun i hi => ⟨fun he => ?_, fun k hk ha hp => ?_⟩⟩
  ·rw [ge_iff_le, ← ge_iff_le, place_mem]
   apply Classical.byContradiction
   intro hn
   exact hmis i (mem_missing.mpr ⟨by omega, by omega, he, hn⟩)
  ·rcases place_spec p (k : Int) with ⟨h1, _⟩ | ⟨x, h1, h2, h3, _⟩
   ·omega
   ·have hb := hord x h1
    have hmem : (i : Int) ∈ opers (p.take x) := by
     apply Classical.byContradiction
     intro hn
     rw [bad_of (k := i) (by rw [h3]; omega) hi (by rw [h3]; exact ha) hn] at hb
     cases hb
    obtain ⟨j, hj, hji⟩ := (mem_opers (by omega)).mp hmem
    rcases place_spec p (i : Int) with ⟨g1, g2⟩ | ⟨y, g1, g2, g3, g4⟩
    ·exfalso
     apply g2
     have := (mem_opers (p := p) (i := (i : Int)) (Nat.le_refl _)).mpr ⟨j, by omega, hji⟩
     rwa [List.take_length] at this
    ·have : ¬ j < y := fun h => g4 j h hji
     omega
 ·rintro ⟨hrun, h⟩
  obtain ⟨hnd, hin⟩ := picks_ok hrun
  refine ⟨hc, hl, hrun, fun x hx => bad_no (fun k hk hh => ?_), fun m hm => ?_⟩
  ·obtain ⟨ha, hn⟩ := hh
   have hxm : (gi p (x : Int)).Oper ∈ opers p := by
    have := (mem_opers (p := p) (i := (gi p (x : Int)).Oper) (Nat.le_refl _)).mpr ⟨x, hx, rfl⟩
    rwa [List.take_length] at this
   have hr := hin _ hxm
   have e : (((gi p (x : Int)).Oper.toNat : Nat) : Int) = (gi p (x : Int)).Oper := by omega
   have hpl := place_mem.mpr hxm
   have h2 := (h k hk).2 (gi p (x : Int)).Oper.toNat (by omega) (by rw [e]; exact ha) (by rw [e]; exact hpl)
   rw [e] at h2
   rcases place_spec p (gi p (x : Int)).Oper with ⟨g1, _⟩ | ⟨y, g1, g2, g3, g4⟩
   ·omega
   ·have hyx : ¬ x < y := fun hh => g4 x hh rfl
    rcases place_spec p (k : Int) with ⟨f1, _⟩ | ⟨z, f1, f2, f3, f4⟩
    ·omega
    ·by_cases hzx : z < x
     ·exact hn ((mem_opers (by omega)).mpr ⟨z, hzx, f3⟩)
     ·have : z = y := by omega
      subst this
      rw [f3] at g3
      rw [← g3] at ha
      rw [ahead_irr hl (by omega) (by omega)] at ha
      cases ha
  ·obtain ⟨h0, h1, h2, h3⟩ := mem_missing.mp hm
   have e : ((m.toNat : Nat) : Int) = m := by omega
   have := (h m.toNat (by omega)).1 (by rw [e]; exact h2)
   rw [e] at this
   exact h3 (place_mem.mp this)
end Go.Proofs.Ytojdelnnjhbgbaa
