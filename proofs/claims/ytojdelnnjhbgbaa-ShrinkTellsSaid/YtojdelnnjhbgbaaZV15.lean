/- What has no linearization has none with more events. -/
import Derived.Test.YtojdelnnjhbgbaaZV14
set_option linter.all false
namespace Go.Proofs.Ytojdelnnjhbgbaa
open Go Go.Sv Go.Pu
theorem way_cut {o : Api_Object} {l : List Api_Oper} {x : Api_Oper} (hx : x.End = -1) (hE : ∀ i : Nat, i < l.length → (gi l (i : Int)).End ≠ -1 → (gi l (i : Int)).End ≥ 0 ∧ (gi l (i : Int)).End < x.Start) : ∀ (ps : List Api_Pick) (st : Int) (done : List Bool), done.length = l.length → wayOn o (l ++ [x]) st (done ++ [false]) ps → ∃ qs, wayOn o l st done qs
 | [], st, done, hd, h => by
  refine ⟨[], ?_⟩
  unfold wayOn wholeB at h ⊢
  rw [List.length_append, List.length_singleton, List.range_succ, List.all_append, Bool.and_eq_true] at h
  have h := h.1
  rw [List.all_eq_true] at h ⊢
  intro i hi
  have := List.mem_range.1 hi
  have h := h i hi
  rw [gi_app (by omega) (by omega), gib_app (by omega) (by omega)] at h
  exact h
 | p :: ps, st, done, hd, h => by
  unfold wayOn at h
  obtain ⟨hp, hw⟩ := h
  obtain ⟨hc, a, b, c, d⟩ := next_mem hp
  rw [List.length_append, List.length_singleton] at b
  by_cases e : p.Oper < l.length
  ·have e1 : moveTo o (l ++ [x]) st p = moveTo o l st p := by unfold moveTo; rw [gi_app a e]
   rw [e1, List.set_append_left _ _ (by omega)] at hw
   obtain ⟨qs, hq⟩ := way_cut hx hE ps _ _ (by simpa using hd) hw
   refine ⟨p :: qs, ?_, hq⟩
   unfold search_Next nextP
   rw [if_neg (by omega)]
   rw [free_app hd hx (by omega)] at c
   have hm := mem_free (l := l) (done := done) (i := p.Oper.toNat) (by omega) c
   rw [show ((p.Oper.toNat : Nat) : Int) = p.Oper by omega] at hm
   refine List.mem_filterMap.2 ⟨p.Oper, hm, ?_⟩
   unfold pickAt at d ⊢
   rw [gi_app a e] at d; exact d
  ·have e : p.Oper.toNat = l.length := by omega
   rw [e] at c
   refine ⟨[], ?_⟩
   unfold wayOn wholeB
   rw [List.all_eq_true]
   intro i hi
   have hi := List.mem_range.1 hi
   unfold freeB at c
   rw [Bool.and_eq_true, List.all_eq_true] at c
   have c := c.2 i (List.mem_range.2 (by simp; omega))
   rw [isDone_app (by omega), gi_app (by omega) (by omega), gi_last] at c
   by_cases he : (gi l (i : Int)).End = -1
   ·simp [he]
   ·obtain ⟨g1, g2⟩ := hE i hi he
    have ha : oper_Ahead (gi l (i : Int)) x = true := by
     unfold oper_Ahead; rw [Bool.and_eq_true, decide_eq_true_eq, decide_eq_true_eq]; exact ⟨g1, g2⟩
    rw [ha] at c
    have c : isDone done (i : Int) = true := by simpa using c
    unfold isDone at c
    rw [Bool.and_eq_true] at c
    rw [c.2]; simp
theorem way_less {o : Api_Object} {l m : List Api_Oper} (hlen : m.length = l.length) (hm : ∀ i : Nat, i < l.length → (gi m (i : Int)).Start = (gi l (i : Int)).Start ∧ (gi m (i : Int)).Kind = (gi l (i : Int)).Kind ∧ ((gi l (i : Int)).End = -1 ∨ ((gi m (i : Int)).End = (gi l (i : Int)).End ∧ (gi m (i : Int)).Result = (gi l (i : Int)).Result))) :
  ∀ (ps : List Api_Pick) (st : Int) (done : List Bool), done.length = l.length → wayOn o m st done ps → wayOn o l st done ps
 | [], st, done, hd, h => by
  unfold wayOn wholeB at h ⊢
  rw [List.all_eq_true] at h ⊢
  intro i hi
  have hi2 := List.mem_range.1 hi
  have h := h i (List.mem_range.2 (by omega))
  rcases (hm i hi2).2.2 with e | ⟨e, _⟩
  ·simp [e]
  ·rw [e] at h; exact h
 | p :: ps, st, done, hd, h => by
  unfold wayOn at h ⊢
  obtain ⟨hp, hw⟩ := h
  obtain ⟨hc, a, b, c, d⟩ := next_mem hp
  have ep : ((p.Oper.toNat : Nat) : Int) = p.Oper := by omega
  obtain ⟨m1, m2, m3⟩ := hm p.Oper.toNat (by omega)
  rw [ep] at m1 m2 m3
  have e1 : moveTo o m st p = moveTo o l st p := by unfold moveTo; rw [m2]
  rw [e1] at hw
  refine ⟨?_, way_less hlen hm ps _ _ (by simpa using hd) hw⟩
  unfold search_Next nextP
  rw [if_neg (by omega)]
  have c2 : freeB l done p.Oper.toNat = true := by
   unfold freeB at c ⊢
   rw [Bool.and_eq_true, List.all_eq_true] at c ⊢
   refine ⟨c.1, fun k hk => ?_⟩
   have hk2 := List.mem_range.1 hk
   have c := c.2 k (List.mem_range.2 (by omega))
   rw [Bool.or_eq_true] at c ⊢
   rcases c with c | c
   ·exact .inl c
   ·right
    rw [Bool.not_eq_true'] at c ⊢
    rw [ep] at c ⊢
    obtain ⟨k1, k2, k3⟩ := hm k hk2
    unfold oper_Ahead at c ⊢
    rw [m1] at c
    rcases k3 with k3 | k3
    ·rw [k3]; simp
    ·rw [k3.1] at c; exact c
  have hmf := mem_free (l := l) (done := done) (i := p.Oper.toNat) (by omega) c2
  rw [ep] at hmf
  refine List.mem_filterMap.2 ⟨p.Oper, hmf, ?_⟩
  unfold pickAt at d ⊢
  rw [m2] at d
  split at d
  ·rename_i hh
   rw [Bool.and_eq_true, Bool.or_eq_true] at hh
   rw [if_pos]
   ·exact d
   ·rw [Bool.and_eq_true, Bool.or_eq_true]
    refine ⟨hh.1, ?_⟩
    rcases m3 with m3 | m3
    ·left; rw [m3]; rfl
    ·rw [m3.1, m3.2] at hh; exact hh.2
  ·cases d
theorem lins_some {o : Api_Object} {l : List Api_Oper} : linsOf o l ≠ [] ↔ ∃ ps, wayOn o l o.Init (List.replicate l.length false) ps := by
 have h : ∀ ps, ps ∈ linsOf o l ↔ wayOn o l o.Init (List.replicate l.length false) ps := fun ps => by
  have := all_iff (o := o) (l := l) (st := o.Init) (done := List.replicate l.length false) (by simp) (ps := ps)
  rw [cf_rep] at this
  exact this
 constructor
 ·intro hne
  cases hL : linsOf o l with
  | nil => exact absurd hL hne
  | cons x L => exact ⟨x, (h x).1 (by rw [hL]; simp)⟩
 ·rintro ⟨ps, hp⟩ e
  have := (h ps).2 hp
  rw [e] at this; cases this
theorem lins_step {o : Api_Object} {l : List Api_Event} {ops : List Api_Oper} {x : Api_Event} (H : OpsOk l ops) (hx : evNext l x) (h : linsOf o (opsStep ops (l.length : Int) x) ≠ []) : linsOf o ops ≠ [] := by
 rw [lins_some] at h ⊢
 obtain ⟨ps, hp⟩ := h
 rcases next_inv hx with ⟨w, hl⟩ | ⟨w, hl⟩
 ·have e : opsStep ops (l.length : Int) x = ops ++ [⟨x.Prc, x.N, (l.length : Int), -1, -1⟩] := by
   unfold opsStep
   rw [if_pos w]
   congr 1
   apply List.ext_getElem (by simp)
   intro i h1 h2
   rw [List.getElem_map]
   have := close_call H hl (l.length : Int) i h2
   rw [gi_nat _ _ h2] at this
   exact this
  rw [e, List.length_append, List.length_singleton, List.replicate_succ'] at hp
  exact way_cut rfl (fun i hi he => by
   obtain ⟨a, b, c⟩ := H.one i hi
   have := alone_facts a
   exact ⟨by omega, c⟩) ps _ _ (by simp) hp
 ·have hL : (opsStep ops (l.length : Int) x).length = ops.length := by rw [step_len, if_neg (by omega)]; rfl
  rw [hL] at hp
  refine ⟨ps, way_less hL (fun i hi => ?_) ps _ _ (by simp) hp⟩
  rw [gi_step hi]
  obtain ⟨s1, s2, s3⟩ := close_same (l.length : Int) x (gi ops (i : Int))
  refine ⟨s3, s2, ?_⟩
  by_cases e : (gi ops (i : Int)).End = -1 ∧ (gi ops (i : Int)).Prc = x.Prc
  ·exact .inl e.1
  ·right; rw [close_no e]; exact ⟨rfl, rfl⟩
theorem lins_take {o : Api_Object} {l : List Api_Event} (h : (event_Check l).2 = 0) {a : Nat} : ∀ b : Nat, a ≤ b → b ≤ l.length → linsOf o (opsOf (l.take b)) ≠ [] → linsOf o (opsOf (l.take a)) ≠ []
 | 0, hab, _, hb => by
  obtain rfl : a = 0 := by omega
  exact hb
 | b + 1, hab, hbl, hb => by
  by_cases e : a = b + 1
  ·subst e; exact hb
  ·refine lins_take h b (by omega) (by omega) ?_
   have hl : ((l.take b).length : Int) = (b : Int) := by rw [List.length_take]; omega
   rw [take_snoc (by omega), opsOf_snoc] at hb
   exact lins_step (ops_ok h b (by omega)) (ev_next h (by omega)) hb
end Go.Proofs.Ytojdelnnjhbgbaa
