/- The operations of a history. -/
import Derived.Test.YtojdelnnjhbgbaaZV13
import Derived.Test.YtojdelnnjhbgbaaZV11
set_option linter.all false
namespace Go.Proofs.Ytojdelnnjhbgbaa
open Go Go.Sv Go.Pu
theorem opsGo_app : ∀ (a b : List Api_Event) (i : Int) (ops : List Api_Oper), opsGo (a ++ b) i ops = opsGo b (i + a.length) (opsGo a i ops)
 | [], b, i, ops => by simp [opsGo]
 | x :: a, b, i, ops => by
  rw [List.cons_append, opsGo, opsGo_app a b, opsGo]
  congr 1
  simp only [List.length_cons]; push_cast; omega
theorem opsOf_snoc (l : List Api_Event) (x : Api_Event) : opsOf (l ++ [x]) = opsStep (opsOf l) (l.length : Int) x := by
 unfold opsOf
 rw [opsGo_app]
 simp [opsGo]
theorem close_same (k : Int) (x : Api_Event) (o : Api_Oper) : (closeAt k x o).Prc = o.Prc ∧ (closeAt k x o).Kind = o.Kind ∧ (closeAt k x o).Start = o.Start := by
 unfold closeAt; split <;> exact ⟨rfl, rfl, rfl⟩
theorem close_no {k : Int} {x : Api_Event} {o : Api_Oper} (h : ¬ (o.End = -1 ∧ o.Prc = x.Prc)) : closeAt k x o = o := by
 unfold closeAt; rw [if_neg h]
theorem close_yes {k : Int} {x : Api_Event} {o : Api_Oper} (h : o.End = -1 ∧ o.Prc = x.Prc) : closeAt k x o = ⟨o.Prc, o.Kind, o.Start, k, x.N⟩ := by
 unfold closeAt; rw [if_pos h]
theorem gi_step {ops : List Api_Oper} {k : Int} {x : Api_Event} {i : Nat} (h : i < ops.length) : gi (opsStep ops k x) (i : Int) = closeAt k x (gi ops (i : Int)) := by
 unfold opsStep
 rw [gi_nat _ _ (by rw [List.length_append, List.length_map]; omega), gi_nat _ _ h, List.getElem_append_left (by rw [List.length_map]; exact h), List.getElem_map]
theorem gi_new {ops : List Api_Oper} {k : Int} {x : Api_Event} (h : x.What = 1) : gi (opsStep ops k x) (ops.length : Int) = ⟨x.Prc, x.N, k, -1, -1⟩ := by
 unfold opsStep
 rw [if_pos h, gi_nat _ _ (by simp)]
 rw [List.getElem_append_right (by simp)]
 simp
theorem step_len (ops : List Api_Oper) (k : Int) (x : Api_Event) : (opsStep ops k x).length = ops.length + (if x.What = 1 then 1 else 0) := by
 unfold opsStep
 rw [List.length_append, List.length_map]
 split <;> simp
theorem calls_snoc (l : List Api_Event) (x : Api_Event) : callsN (l ++ [x]) = callsN l + (if x.What = 1 then 1 else 0) := by
 unfold callsN
 rw [List.countP_append]
 by_cases h : x.What = 1
 ·simp [h]
 ·simp [h]
theorem snoc_ind {α : Type} {P : List α → Prop} (h0 : P []) (h1 : ∀ l x, P l → P (l ++ [x])) (l : List α) : P l := by
 rw [← List.reverse_reverse l]
 generalize l.reverse = r
 induction r with
 | nil => exact h0
 | cons x r ih => rw [List.reverse_cons]; exact h1 _ _ ih
theorem calls_len (l : List Api_Event) : ((opsOf l).length : Int) = callsN l := by
 refine snoc_ind (P := fun l => ((opsOf l).length : Int) = callsN l) rfl (fun l x ih => ?_) l
 rw [opsOf_snoc, calls_snoc, step_len, ← ih]; push_cast; split <;> rfl
theorem alone_iff (o : Api_Oper) : oper_alone o = 0 ↔ 1 ≤ o.Prc ∧ o.Prc ≤ 1000 ∧ 0 ≤ o.Start ∧ o.Start ≤ 9999 ∧ 0 ≤ o.Kind ∧ o.Kind < 64 ∧ oper_ended o = true := by
 unfold oper_alone
 by_cases h1 : o.Prc < 1 ∨ o.Prc > 1000 ∨ o.Start < 0 ∨ o.Start > 9999
 ·rw [if_pos h1]; simp; omega
 ·rw [if_neg h1]
  by_cases h2 : o.Kind < 0 ∨ o.Kind ≥ 64
  ·rw [if_pos h2]; simp; omega
  ·rw [if_neg h2]
   cases h3 : oper_ended o with
   | true => simp; omega
   | false => simp
structure OpsOk (l : List Api_Event) (ops : List Api_Oper) : Prop where
 one : ∀ i : Nat, i < ops.length → oper_alone (gi ops (i : Int)) = 0 ∧ (gi ops (i : Int)).Start < l.length ∧ (gi ops (i : Int)).End < l.length
 two : ∀ i j : Nat, i < j → j < ops.length → (gi ops (i : Int)).Start < (gi ops (j : Int)).Start ∧ ((gi ops (i : Int)).End ≠ -1 → (gi ops (i : Int)).End ≠ (gi ops (j : Int)).End) ∧ (gi ops (i : Int)).End ≠ (gi ops (j : Int)).Start ∧ (gi ops (i : Int)).Start ≠ (gi ops (j : Int)).End ∧ ((gi ops (i : Int)).Prc = (gi ops (j : Int)).Prc → (gi ops (i : Int)).End ≠ -1 ∧ (gi ops (i : Int)).End < (gi ops (j : Int)).Start)
 opn : ∀ p, lastW l p = 1 → ∃ j : Nat, j < ops.length ∧ (gi ops (j : Int)).Prc = p ∧ (gi ops (j : Int)).End = -1
 shut : ∀ p, lastW l p ≠ 1 → ∀ j : Nat, j < ops.length → (gi ops (j : Int)).Prc = p → (gi ops (j : Int)).End ≠ -1
def evNext (l : List Api_Event) (x : Api_Event) : Prop := evE x = 0 ∧ ((lastW l x.Prc == 1) == (x.What == 1)) = false ∧ l.length < 10000
theorem ev_kind {x : Api_Event} (h : evE x = 0) (hw : x.What = 1) : x.N < 64 := by
 unfold evE at h
 split at h
 ·cases h
 split at h
 ·cases h
 split at h
 ·cases h
 ·rename_i h3; omega
theorem next_inv {l : List Api_Event} {x : Api_Event} (h : evNext l x) : (x.What = 1 ∧ lastW l x.Prc ≠ 1) ∨ (x.What = 2 ∧ lastW l x.Prc = 1) := by
 obtain ⟨h1, h2, _⟩ := h
 rcases (evE_ok h1).1 with h | h
 ·left; refine ⟨h, fun hh => ?_⟩
  rw [h, hh] at h2; simp at h2
 ·right; refine ⟨h, ?_⟩
  rw [h] at h2
  simpa using h2
theorem close_call {l : List Api_Event} {ops : List Api_Oper} {x : Api_Event} (H : OpsOk l ops) (hl : lastW l x.Prc ≠ 1) (k : Int) : ∀ i : Nat, i < ops.length → closeAt k x (gi ops (i : Int)) = gi ops (i : Int) := fun i hi =>
 close_no (fun hh => H.shut _ hl i hi hh.2 hh.1)
theorem ops_step {l : List Api_Event} {ops : List Api_Oper} {x : Api_Event} (H : OpsOk l ops) (hx : evNext l x) : OpsOk (l ++ [x]) (opsStep ops (l.length : Int) x) := by
 obtain ⟨e1, e2, e3, e4, e5⟩ := evE_ok hx.1
 have hlen := hx.2.2
 have hlx : ((l ++ [x]).length : Int) = l.length + 1 := by simp
 have hf : ∀ i : Nat, i < ops.length → 0 ≤ (gi ops (i : Int)).Start ∧ ((gi ops (i : Int)).End = -1 ∨ (gi ops (i : Int)).End > (gi ops (i : Int)).Start) := fun i hi => alone_facts (H.one i hi).1
 rcases next_inv hx with ⟨w, hl⟩ | ⟨w, hl⟩
 ·
  have hg : ∀ i : Nat, i < ops.length → gi (opsStep ops (l.length : Int) x) (i : Int) = gi ops (i : Int) := fun i hi => by rw [gi_step hi, close_call H hl _ i hi]
  have hn := gi_new (ops := ops) (k := (l.length : Int)) w
  have hL : (opsStep ops (l.length : Int) x).length = ops.length + 1 := by rw [step_len, if_pos w]
  have hk := ev_kind hx.1 w
  refine ⟨fun i hi => ?_, fun i j hij hj => ?_, fun p hp => ?_, fun p hp j hj hpr => ?_⟩
  ·by_cases e : i = ops.length
   ·subst e
    rw [hn, hlx]
    refine ⟨(alone_iff _).2 ⟨e2, e3, by dsimp only; omega, by dsimp only; omega, e4, hk, rfl⟩, by dsimp only; omega, by dsimp only; omega⟩
   ·rw [hg i (by omega), hlx]
    obtain ⟨a, b, c⟩ := H.one i (by omega)
    exact ⟨a, by omega, by omega⟩
  ·rw [hg i (by omega)]
   by_cases e : j = ops.length
   ·subst e
    rw [hn]
    obtain ⟨a, b, c⟩ := H.one i (by omega)
    have := hf i (by omega)
    refine ⟨b, fun h => h, by dsimp only; omega, by dsimp only; omega, fun hpr => ⟨H.shut _ hl i (by omega) hpr, c⟩⟩
   ·rw [hg j (by omega)]
    exact H.two i j hij (by omega)
  ·rw [lastW_snoc] at hp
   by_cases e : x.Prc = p
   ·exact ⟨ops.length, by omega, by rw [hn]; exact e, by rw [hn]⟩
   ·rw [if_neg e] at hp
    obtain ⟨j, hj, a, b⟩ := H.opn p hp
    exact ⟨j, by omega, by rw [hg j hj]; exact a, by rw [hg j hj]; exact b⟩
  ·rw [lastW_snoc] at hp
   by_cases e : x.Prc = p
   ·rw [if_pos e] at hp; exact absurd w hp
   ·rw [if_neg e] at hp
    by_cases ej : j = ops.length
    ·subst ej; rw [hn] at hpr; exact absurd hpr e
    ·rw [hg j (by omega)] at hpr ⊢
     exact H.shut p hp j (by omega) hpr
 ·
  have hL : (opsStep ops (l.length : Int) x).length = ops.length := by rw [step_len, if_neg (by omega)]; rfl
  have hg : ∀ i : Nat, i < ops.length → gi (opsStep ops (l.length : Int) x) (i : Int) = closeAt (l.length : Int) x (gi ops (i : Int)) := fun i hi => gi_step hi
  have hE : ∀ i : Nat, (closeAt (l.length : Int) x (gi ops (i : Int))).End = if (gi ops (i : Int)).End = -1 ∧ (gi ops (i : Int)).Prc = x.Prc then (l.length : Int) else (gi ops (i : Int)).End := fun i => by unfold closeAt; split <;> rfl
  have hs := fun i : Nat => close_same (l.length : Int) x (gi ops (i : Int))
  have H1 := H.one; have H2 := H.two
  refine ⟨fun i hi => ?_, fun i j hij hj => ?_, fun p hp => ?_, fun p hp j hj hpr => ?_⟩
  ·obtain ⟨a, b, c⟩ := H1 i (by omega)
   rw [hg i (by omega), hlx]
   by_cases e : (gi ops (i : Int)).End = -1 ∧ (gi ops (i : Int)).Prc = x.Prc
   ·rw [close_yes e]
    obtain ⟨a1, a2, a3, a4, a5, a6, a7⟩ := (alone_iff _).1 a
    refine ⟨(alone_iff _).2 ⟨a1, a2, a3, a4, a5, a6, ?_⟩, by dsimp only; omega, by dsimp only; omega⟩
    unfold oper_ended
    dsimp only
    rw [if_neg (by omega)]
    simp only [Bool.and_eq_true, decide_eq_true_eq]
    omega
   ·rw [close_no e]; exact ⟨a, by omega, by omega⟩
  ·rw [hg i (by omega), hg j (by omega)]
   obtain ⟨a1, b1, c1⟩ := H1 i (by omega)
   obtain ⟨a2, b2, c2⟩ := H1 j (by omega)
   obtain ⟨t1, t2, t3, t4, t5⟩ := H2 i j hij (by omega)
   have f1 := hf i (by omega)
   have f2 := hf j (by omega)
   rw [hE i, hE j, (hs i).2.2, (hs j).2.2, (hs i).1, (hs j).1]
   by_cases ei : (gi ops (i : Int)).End = -1 ∧ (gi ops (i : Int)).Prc = x.Prc
   ·rw [if_pos ei]
    have hne : (gi ops (j : Int)).Prc ≠ x.Prc := fun h => (t5 (by rw [ei.2, h])).1 ei.1
    rw [if_neg (fun h => hne h.2)]
    exact ⟨t1, fun _ => by omega, by omega, by omega, fun h => absurd (h.symm.trans ei.2) hne⟩
   ·rw [if_neg ei]
    by_cases ej : (gi ops (j : Int)).End = -1 ∧ (gi ops (j : Int)).Prc = x.Prc
    ·rw [if_pos ej]
     exact ⟨t1, fun _ => by omega, t3, by omega, t5⟩
    ·rw [if_neg ej]
     exact ⟨t1, t2, t3, t4, t5⟩
  ·rw [lastW_snoc] at hp
   by_cases e : x.Prc = p
   ·rw [if_pos e] at hp; omega
   ·rw [if_neg e] at hp
    obtain ⟨j, hj, a, b⟩ := H.opn p hp
    have : closeAt (l.length : Int) x (gi ops (j : Int)) = gi ops (j : Int) := close_no (fun h => e (h.2.symm.trans a))
    exact ⟨j, by omega, by rw [hg j (by omega), this]; exact a, by rw [hg j (by omega), this]; exact b⟩
  ·rw [hg j (by omega), (hs j).1] at hpr
   rw [hg j (by omega), hE j]
   rw [lastW_snoc] at hp
   have f1 := hf j (by omega)
   by_cases e : x.Prc = p
   ·split
    ·omega
    ·rename_i hh
     exact fun h => hh ⟨h, by rw [hpr, e]⟩
   ·rw [if_neg e] at hp
    have := H.shut p hp j (by omega) hpr
    rw [if_neg (fun h => this h.1)]; exact this
theorem ops_nil : OpsOk [] [] := ⟨fun i h => by simp at h, fun i j _ h => by simp at h, fun p h => by simp [lastW] at h, fun p _ j h => by simp at h⟩
theorem ev_next {l : List Api_Event} (h : (event_Check l).2 = 0) {k : Nat} (hk : k < l.length) : evNext (l.take k) (gi l (k : Int)) := by
 obtain ⟨h1, h2⟩ := evs_ok h
 obtain ⟨a, b⟩ := h2 (k : Int) (by omega) (by omega)
 rw [show ((k : Nat) : Int).toNat = k by omega] at b
 exact ⟨a, b, by rw [List.length_take]; omega⟩
theorem take_snoc {l : List Api_Event} {k : Nat} (hk : k < l.length) : l.take (k + 1) = l.take k ++ [gi l (k : Int)] := by
 have := take_gi (l := l) (i := (k : Int)) (by omega) (by omega)
 rwa [show ((k : Int) + 1).toNat = k + 1 by omega, show ((k : Nat) : Int).toNat = k by omega] at this
theorem ops_ok {l : List Api_Event} (h : (event_Check l).2 = 0) : ∀ k : Nat, k ≤ l.length → OpsOk (l.take k) (opsOf (l.take k))
 | 0, _ => by rw [List.take_zero]; exact ops_nil
 | k + 1, hk => by
  rw [take_snoc hk, opsOf_snoc]
  exact ops_step (ops_ok h k (by omega)) (ev_next h hk)
theorem check_go {l : List Api_Oper} (h5 : l.length ≤ 5000) (h1 : ∀ i : Nat, i < l.length → oper_alone (gi l (i : Int)) = 0) (h2 : ∀ i j : Nat, i < j → j < l.length → (gi l (i : Int)).Start < (gi l (j : Int)).Start ∧ ref27_meets (gi l (i : Int)) (gi l (j : Int)) = false ∧ ((gi l (i : Int)).Prc = (gi l (j : Int)).Prc → oper_Ahead (gi l (i : Int)) (gi l (j : Int)) = true)) :
  ∀ (f : Nat) (u : List (Int × Int)) (la : List (Int × Api_Oper)) (i : Nat), i + f = l.length → usedOk l u i → lastOk l la i → (checkGo l f u la i).2 = 0
 | 0, u, la, i, _, _, _ => rfl
 | f + 1, u, la, i, hi, hu, hla => by
  have hp : prevOk l i := fun k hk => ⟨h1 k (by omega), fun j hj => ⟨(h2 j k hj (by omega)).1, (h2 j k hj (by omega)).2.2⟩⟩
  rw [checkGo, if_neg (by rw [h1 i (by omega)]; simp), if_neg, if_neg]
  ·exact check_go h5 h1 h2 f _ _ (i + 1) (by omega) (used_next hu (by omega)) (last_next hla)
  ·rw [out33_iff hla hp]
   rintro ⟨k, hk, a, b⟩
   rw [(h2 k i hk (by omega)).2.2 a] at b; cases b
  ·rw [out32_iff hu hp (h1 i (by omega))]
   rintro ⟨k, hk, a | a⟩
   ·have := (h2 k i hk (by omega)).1; omega
   ·rw [(h2 k i hk (by omega)).2.1] at a; cases a
theorem ops_check {l : List Api_Event} {ops : List Api_Oper} (H : OpsOk l ops) (h5 : ops.length ≤ 5000) : (oper_Check ops).2 = 0 := by
 unfold oper_Check
 rw [if_neg (by omega)]
 refine check_go h5 (fun i hi => (H.one i hi).1) (fun i j hij hj => ?_) _ _ _ 0 (by omega) (fun t => ⟨by simp [usedBy, mget], by simp [usedBy, mget], by simp [usedBy, mget]⟩) (fun p => by simp [mget])
 obtain ⟨t1, t2, t3, t4, t5⟩ := H.two i j hij hj
 refine ⟨t1, ?_, fun hp => ?_⟩
 ·rw [← Bool.not_eq_true, meets_iff]
  rintro (h | h | h | h)
  ·omega
  ·exact t3 h
  ·exact t4 h
  ·exact t2 h.2 h.1
 ·obtain ⟨a, b⟩ := t5 hp
  have := alone_facts (H.one i (by omega)).1
  unfold oper_Ahead
  rw [Bool.and_eq_true, decide_eq_true_eq, decide_eq_true_eq]
  exact ⟨by omega, b⟩
end Go.Proofs.Ytojdelnnjhbgbaa
