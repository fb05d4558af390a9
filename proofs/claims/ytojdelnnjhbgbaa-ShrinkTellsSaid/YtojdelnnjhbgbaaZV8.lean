/- Ways on are linearizations; what is found is one, and if any is there, one is found. -/
import Derived.Test.YtojdelnnjhbgbaaZV7
set_option linter.all false
namespace Go.Proofs.Ytojdelnnjhbgbaa
open Go Go.Sv Go.Pu
def ordOn (l : List Api_Oper) : List Int → List Api_Pick → Prop
 | _, [] => True
 | prev, p :: ps => (∀ k : Nat, k < l.length → oper_Ahead (gi l (k : Int)) (gi l p.Oper) = true → (k : Int) ∈ prev) ∧ ordOn l (p.Oper :: prev) ps
def sameDone (l : List Api_Oper) (done : List Bool) (prev : List Int) : Prop := done.length = l.length ∧ ∀ i : Nat, i < l.length → (gi done (i : Int) = true ↔ (i : Int) ∈ prev)
theorem same_set {l : List Api_Oper} {done : List Bool} {prev : List Int} {i : Int} (h : sameDone l done prev) (h0 : 0 ≤ i) (h1 : i < l.length) : sameDone l (done.set i.toNat true) (i :: prev) := by
 obtain ⟨a, b⟩ := h
 refine ⟨by simpa using a, fun j hj => ?_⟩
 rw [List.mem_cons]
 by_cases e : i = (j : Int)
 ·subst e
  rw [gi_set_eq h0 (by omega)]
  simp
 ·rw [gi_set_ne h0 (by omega) e, b j hj]
  constructor
  ·intro h; exact .inr h
  ·rintro (h | h)
   ·exact absurd h.symm e
   ·exact h
theorem same_nil (l : List Api_Oper) : sameDone l (List.replicate l.length false) [] := by
 refine ⟨by simp, fun i hi => ?_⟩
 rw [gi_nat _ _ (by simpa using hi)]
 simp
theorem done_iff {l : List Api_Oper} {done : List Bool} {prev : List Int} (h : sameDone l done prev) {i : Nat} (hi : i < l.length) : isDone done (i : Int) = true ↔ (i : Int) ∈ prev := by
 unfold isDone
 rw [decide_eq_true (by rw [h.1]; omega), Bool.true_and]
 exact h.2 i hi
theorem free_iff {l : List Api_Oper} {done : List Bool} {prev : List Int} (h : sameDone l done prev) {i : Nat} (hi : i < l.length) : freeB l done i = true ↔ (i : Int) ∉ prev ∧ ∀ k : Nat, k < l.length → oper_Ahead (gi l (k : Int)) (gi l (i : Int)) = true → (k : Int) ∈ prev := by
 unfold freeB
 rw [Bool.and_eq_true, Bool.not_eq_true', List.all_eq_true, ← Bool.not_eq_true, done_iff h hi]
 refine and_congr Iff.rfl ⟨fun hh k hk ha => ?_, fun hh k hk => ?_⟩
 ·have := hh k (List.mem_range.2 hk)
  rw [ha] at this
  exact (done_iff h hk).1 (by simpa using this)
 ·have hk := List.mem_range.1 hk
  by_cases ha : oper_Ahead (gi l (k : Int)) (gi l (i : Int)) = true
  ·rw [(done_iff h hk).2 (hh k hk ha)]; rfl
  ·simp [ha]
theorem mem_free {l : List Api_Oper} {done : List Bool} {i : Nat} (hi : i < l.length) (h : freeB l done i = true) : (i : Int) ∈ oper_Free l done := by
 unfold oper_Free freeTo
 exact List.mem_map.2 ⟨i, List.mem_filter.2 ⟨List.mem_range.2 hi, h⟩, rfl⟩
theorem pick_oper {o : Api_Object} {l : List Api_Oper} {st i : Int} {p : Api_Pick} (h : pickAt o l st i = some p) : p.Oper = i := by
 unfold pickAt at h
 split at h
 ·rw [← Option.some.inj h]
 ·cases h
theorem next_iff {o : Api_Object} {l : List Api_Oper} {st : Int} {done : List Bool} {prev : List Int} (hc : (object_Check o).2 = 0) (hs : sameDone l done prev) (p : Api_Pick) : p ∈ search_Next o l st done ↔ 0 ≤ p.Oper ∧ p.Oper < l.length ∧ p.Oper ∉ prev ∧ (∀ k : Nat, k < l.length → oper_Ahead (gi l (k : Int)) (gi l p.Oper) = true → (k : Int) ∈ prev) ∧ pickAt o l st p.Oper = some p := by
 constructor
 ·intro h
  obtain ⟨_, a, b, c, d⟩ := next_mem h
  have e : ((p.Oper.toNat : Nat) : Int) = p.Oper := by omega
  have := (free_iff hs (i := p.Oper.toNat) (by omega)).1 c
  rw [e] at this
  exact ⟨a, b, this.1, this.2, d⟩
 ·rintro ⟨a, b, c, d, e⟩
  unfold search_Next nextP
  rw [if_neg (by omega)]
  have ee : ((p.Oper.toNat : Nat) : Int) = p.Oper := by omega
  have hm := mem_free (l := l) (done := done) (i := p.Oper.toNat) (by omega) ((free_iff hs (by omega)).2 ⟨by rw [ee]; exact c, by rw [ee]; exact d⟩)
  rw [ee] at hm
  exact List.mem_filterMap.2 ⟨_, hm, e⟩
theorem step_iff {o : Api_Object} {l : List Api_Oper} {prev : List Int} {st : Int} {p : Api_Pick} (h0 : 0 ≤ st) (h1 : st < o.States) (a : 0 ≤ p.Oper) (b : p.Oper < l.length) (c : p.Oper ∉ prev) :
  ((stepOne o l prev st p).2 = 0 ↔ pickAt o l st p.Oper = some p) ∧ ((stepOne o l prev st p).2 = 0 → (stepOne o l prev st p).1 = moveTo o l st p ∧ (ref23_Move o st (gi l p.Oper).Kind).2.2 = true) := by
 unfold stepOne moveTo pickAt
 rw [if_neg (by omega), if_neg c]
 have hst : ∀ k r, ref28_Step o st k r = if (ref23_Move o st k).2.2 = false ∨ (ref23_Move o st k).2.1 ≠ r then (0, 40) else ((ref23_Move o st k).1, 0) := fun k r => by
  unfold ref28_Step; rw [if_neg (by omega)]
 unfold tail1 tailErr object_Move
 simp only [hst]
 generalize ref23_Move o st (gi l p.Oper).Kind = m
 obtain ⟨x, y, z⟩ := m
 obtain ⟨pi, pr⟩ := p
 dsimp only at *
 cases z with
 | false => simp
 | true =>
  by_cases hy : y = pr
  ·subst hy
   simp only [Bool.true_and]
   by_cases he : (gi l pi).End = -1
   ·simp [he]
   ·by_cases hr : (gi l pi).Result = y
    ·simp [he, hr]
    ·simp [he, hr]
  ·simp [hy]
theorem way_iff {o : Api_Object} {l : List Api_Oper} (hc : (object_Check o).2 = 0) : ∀ (ps : List Api_Pick) (st : Int) (done : List Bool) (prev : List Int), sameDone l done prev → 0 ≤ st → st < o.States →
  (wayOn o l st done ps ↔ (runL o l prev st ps).2.2 = 0 ∧ ordOn l prev ps ∧ ∀ m : Nat, m < l.length → (gi l (m : Int)).End ≠ -1 → (m : Int) ∈ prev ∨ (m : Int) ∈ opers ps)
 | [], st, done, prev, hs, h0, h1 => by
  unfold wayOn wholeB ordOn runL opers
  rw [List.all_eq_true]
  constructor
  ·intro h
   refine ⟨rfl, trivial, fun m hm he => .inl ?_⟩
   have := h m (List.mem_range.2 hm)
   rw [Bool.not_eq_true', Bool.and_eq_false_iff] at this
   rcases this with h | h
   ·exact absurd h (by simpa using he)
   ·exact (hs.2 m hm).1 (by simpa using h)
  ·rintro ⟨_, _, h⟩ m hm
   have hm := List.mem_range.1 hm
   by_cases he : (gi l (m : Int)).End = -1
   ·simp [he]
   ·rcases h m hm he with h | h
    ·rw [(hs.2 m hm).2 h]; simp
    ·cases h
 | p :: ps, st, done, prev, hs, h0, h1 => by
  unfold wayOn ordOn
  rw [next_iff hc hs p]
  by_cases hr : 0 ≤ p.Oper ∧ p.Oper < l.length ∧ p.Oper ∉ prev
  ·obtain ⟨a, b, c⟩ := hr
   obtain ⟨s1, s2⟩ := step_iff (l := l) (prev := prev) (p := p) h0 h1 a b c
   rw [← s1, runL]
   by_cases he : (stepOne o l prev st p).2 = 0
   ·obtain ⟨e1, e2⟩ := s2 he
    obtain ⟨m0, m1⟩ := move_in hc e2
    have ih := way_iff hc ps (moveTo o l st p) _ _ (same_set hs a b) m0 m1
    rw [ih, if_neg (by omega), e1]
    have eo : opers (p :: ps) = p.Oper :: opers ps := rfl
    rw [eo]
    simp only [List.mem_cons]
    constructor
    ·rintro ⟨⟨_, _, _, ha, _⟩, g1, g2, g3⟩
     refine ⟨g1, ⟨ha, g2⟩, fun m hm hh => ?_⟩
     rcases g3 m hm hh with (h | h) | h
     ·exact .inr (.inl h)
     ·exact .inl h
     ·exact .inr (.inr h)
    ·rintro ⟨g1, ⟨ha, g2⟩, g3⟩
     refine ⟨⟨a, b, c, ha, he⟩, g1, g2, fun m hm hh => ?_⟩
     rcases g3 m hm hh with h | h | h
     ·exact .inl (.inr h)
     ·exact .inl (.inl h)
     ·exact .inr h
   ·rw [if_pos he]
    exact ⟨fun h => absurd h.1.2.2.2.2 he, fun h => absurd h.1 he⟩
  ·constructor
   ·intro h; exact absurd ⟨h.1.1, h.1.2.1, h.1.2.2.1⟩ hr
   ·intro h
    exfalso
    have h := h.1
    rw [runL] at h
    unfold stepOne at h
    by_cases h3 : p.Oper < 0 ∨ p.Oper ≥ l.length
    ·rw [if_pos h3, if_pos (by decide)] at h; exact absurd h (by decide)
    ·by_cases h4 : p.Oper ∈ prev
     ·rw [if_neg h3, if_pos h4, if_pos (by decide)] at h; exact absurd h (by decide)
     ·exact hr ⟨by omega, by omega, h4⟩
theorem ord_iff {l : List Api_Oper} : ∀ (ps : List Api_Pick) (prev : List Int), ordOn l prev ps ↔ ∀ x : Nat, x < ps.length → ∀ k : Nat, k < l.length → oper_Ahead (gi l (k : Int)) (gi l (gi ps (x : Int)).Oper) = true → (k : Int) ∈ prev ∨ (k : Int) ∈ opers (ps.take x)
 | [], prev => by simp [ordOn]
 | p :: ps, prev => by
  unfold ordOn
  rw [ord_iff ps (p.Oper :: prev)]
  constructor
  ·rintro ⟨h1, h2⟩ x hx k hk ha
   cases x with
   | zero => exact .inl (h1 k hk ha)
   | succ x =>
    have e : gi (p :: ps) ((x + 1 : Nat) : Int) = gi ps (x : Int) := rfl
    rw [e] at ha
    rcases h2 x (by simpa using hx) k hk ha with h | h
    ·rcases List.mem_cons.1 h with h | h
     ·right; rw [List.take_succ_cons]; exact List.mem_cons.2 (.inl h)
     ·exact .inl h
    ·right; rw [List.take_succ_cons]; exact List.mem_cons.2 (.inr h)
  ·intro h
   refine ⟨fun k hk ha => ?_, fun x hx k hk ha => ?_⟩
   ·rcases h 0 (by simp) k hk ha with h | h
    ·exact h
    ·cases h
   ·rcases h (x + 1) (by simpa using hx) k hk ha with h | h
    ·exact .inl (List.mem_cons_of_mem _ h)
    ·rw [List.take_succ_cons] at h
     rcases List.mem_cons.1 h with h | h
     ·exact .inl (List.mem_cons.2 (.inl h))
     ·exact .inr h
theorem may_of {o : Api_Object} (hc : (object_Check o).2 = 0) : run_may o o.Init = 0 ∧ 0 ≤ o.Init ∧ o.Init < o.States := by
 have h : 0 ≤ o.Init ∧ o.Init < o.States := by
  unfold object_Check ref23_Check at hc
  split at hc
  ·cases hc
  ·rename_i hh; unfold headBad at hh; omega
 refine ⟨?_, h⟩
 unfold run_may
 have hc' : (ref23_Check o).2 = 0 := hc
 simp only [hc, hc']
 simp; omega
theorem lin_way {o : Api_Object} {l : List Api_Oper} (hc : (object_Check o).2 = 0) (hl : (oper_Check l).2 = 0) (ps : List Api_Pick) : witness_Is o l ps = true ↔ wayOn o l o.Init (List.replicate l.length false) ps := by
 obtain ⟨hm, i0, i1⟩ := may_of hc
 rw [way_iff hc ps o.Init _ [] (same_nil l) i0 i1, is_iff, ord_iff]
 have er : run_Picks o l ps = runL o l [] o.Init ps := by unfold run_Picks ref28_From; rw [hm, if_neg (by decide)]
 rw [er]
 constructor
 ·rintro ⟨_, _, hrun, hord, hmis⟩
  refine ⟨hrun, fun x hx k hk ha => .inr ?_, fun m hm he => .inr ?_⟩
  ·apply Classical.byContradiction
   intro hn
   have hin := (run_ok hrun).2 (gi ps (x : Int)).Oper (by
    have := (mem_opers (p := ps) (i := (gi ps (x : Int)).Oper) (Nat.le_refl _)).mpr ⟨x, hx, rfl⟩
    rwa [List.take_length] at this)
   have := hord x hx
   rw [bad_of ⟨hin.1, hin.2.1⟩ hk ha hn] at this
   cases this
  ·apply Classical.byContradiction
   intro hn
   exact hmis m (mem_missing.2 ⟨by omega, by omega, he, hn⟩)
 ·rintro ⟨hrun, hord, hmis⟩
  refine ⟨hc, hl, hrun, fun x hx => bad_no (fun k hk hh => ?_), fun m hm => ?_⟩
  ·rcases hord x hx k hk hh.1 with h | h
   ·cases h
   ·exact hh.2 h
  ·obtain ⟨h0, h1, h2, h3⟩ := mem_missing.1 hm
   have e : ((m.toNat : Nat) : Int) = m := by omega
   rcases hmis m.toNat (by omega) (by rw [e]; exact h2) with h | h
   ·cases h
   ·rw [e] at h; exact h3 h
def linsOf (o : Api_Object) (l : List Api_Oper) : List (List Api_Pick) := allF o l (l.length + 1) o.Init (List.replicate l.length false)
theorem mem_lins {o : Api_Object} {l : List Api_Oper} (hc : (object_Check o).2 = 0) (hl : (oper_Check l).2 = 0) (ps : List Api_Pick) : ps ∈ linsOf o l ↔ witness_Is o l ps = true := by
 rw [lin_way hc hl]
 have := all_iff (o := o) (l := l) (st := o.Init) (done := List.replicate l.length false) (by simp) (ps := ps)
 rw [cf_rep] at this
 exact this
theorem found_is {o : Api_Object} {l : List Api_Oper} (h : search_check o l 20 = 0) : search_Search o l = match linsOf o l with | [] => ([], 41) | x :: _ => (x, 0) := by
 obtain ⟨hc, hl, h20⟩ := check_fits h
 have hf := (first_is (o := o) (l := l) (by omega) (cf (List.replicate l.length false) + 1) o.Init [] (List.replicate l.length false) [] rfl (by simp) (memo_nil o l)).1
 have hf : (firstK (search_begin o l) o.Init []).1 = headOr [] (allF o l (cf (List.replicate l.length false) + 1) o.Init (List.replicate l.length false)) := hf
 rw [cf_rep] at hf
 have hf : (firstK (search_begin o l) o.Init []).1 = headOr [] (linsOf o l) := hf
 unfold search_Search
 rw [if_neg (by omega), hf]
 cases hL : linsOf o l with
 | nil => simp [headOr]
 | cons x L =>
  have := (mem_lins hc hl x).1 (by rw [hL]; simp)
  simp [headOr, this]
theorem search_cases (o : Api_Object) (l : List Api_Oper) : (search_check o l 20 ≠ 0 ∧ search_Search o l = ([], search_check o l 20)) ∨ (search_check o l 20 = 0 ∧ linsOf o l = [] ∧ search_Search o l = ([], 41)) ∨ (∃ x L, search_check o l 20 = 0 ∧ linsOf o l = x :: L ∧ search_Search o l = (x, 0)) := by
 by_cases h : search_check o l 20 = 0
 ·right
  have := found_is h
  cases hL : linsOf o l with
  | nil => rw [hL] at this; exact .inl ⟨h, rfl, this⟩
  | cons x L => rw [hL] at this; exact .inr ⟨x, L, h, rfl, this⟩
 ·left
  exact ⟨h, by unfold search_Search; rw [if_pos h]⟩
end Go.Proofs.Ytojdelnnjhbgbaa
