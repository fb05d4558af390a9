/- The document's check of operations is the code's. -/
import Derived.Test.YtojdelnnjhbgbaaZV10
set_option linter.all false
namespace Go.Proofs.Ytojdelnnjhbgbaa
open Go Go.Sv Go.Pu
def usedOk (l : List Api_Oper) (u : List (Int × Int)) (i : Nat) : Prop := ∀ t, 0 ≤ usedBy u t ∧ usedBy u t ≤ 2 * i ∧ (usedBy u t > 0 ↔ ∃ k : Nat, k < i ∧ ((gi l (k : Int)).Start = t ∨ ((gi l (k : Int)).End ≥ 0 ∧ (gi l (k : Int)).End = t)))
def lastOk (l : List Api_Oper) (la : List (Int × Api_Oper)) (i : Nat) : Prop := ∀ p, match mget la p with
 | none => ∀ k : Nat, k < i → (gi l (k : Int)).Prc ≠ p
 | some x => ∃ k : Nat, k < i ∧ (gi l (k : Int)).Prc = p ∧ x = gi l (k : Int) ∧ ∀ j : Nat, k < j → j < i → (gi l (j : Int)).Prc ≠ p
def prevOk (l : List Api_Oper) (i : Nat) : Prop := ∀ k : Nat, k < i → oper_alone (gi l (k : Int)) = 0 ∧ ∀ j : Nat, j < k → (gi l (j : Int)).Start < (gi l (k : Int)).Start ∧ ((gi l (j : Int)).Prc = (gi l (k : Int)).Prc → oper_Ahead (gi l (j : Int)) (gi l (k : Int)) = true)
theorem use_by {u : List (Int × Int)} {k t : Int} (h0 : 0 ≤ usedBy u k) (h : usedBy u k ≤ 1000000) : usedBy (use u k) t = if t = k then usedBy u k + 1 else usedBy u t := by
 unfold use
 rw [wrp (by omega) (by omega)]
 unfold usedBy
 rw [mget_mput]
 split <;> rfl
theorem used_next {l : List Api_Oper} {u : List (Int × Int)} {i : Nat} (h : usedOk l u i) (hi : i < 5000) : usedOk l (usedNext l u i) (i + 1) := by
 have ex : ∀ P : Nat → Prop, (∃ k : Nat, k < i + 1 ∧ P k) ↔ (∃ k : Nat, k < i ∧ P k) ∨ P i := fun P => by
  constructor
  ·rintro ⟨k, hk, hp⟩
   by_cases e : k = i
   ·subst e; exact .inr hp
   ·exact .inl ⟨k, by omega, hp⟩
  ·rintro (⟨k, hk, hp⟩ | hp)
   ·exact ⟨k, by omega, hp⟩
   ·exact ⟨i, by omega, hp⟩
 intro t
 obtain ⟨a, b, c⟩ := h t
 rw [ex, ← c]
 have hs := h (gi l (i : Int)).Start
 have h1 : ∀ t, usedBy (use u (gi l (i : Int)).Start) t = if t = (gi l (i : Int)).Start then usedBy u (gi l (i : Int)).Start + 1 else usedBy u t := fun t => use_by hs.1 (by omega)
 unfold usedNext
 by_cases he : (gi l (i : Int)).End ≥ 0
 ·rw [if_pos he]
  have he1 := h (gi l (i : Int)).End
  have hb : 0 ≤ usedBy (use u (gi l (i : Int)).Start) (gi l (i : Int)).End ∧ usedBy (use u (gi l (i : Int)).Start) (gi l (i : Int)).End ≤ 2 * i + 1 := by
   rw [h1]; split <;> omega
  rw [use_by hb.1 (by omega), h1, h1]
  by_cases e1 : t = (gi l (i : Int)).End
  ·subst e1
   rw [if_pos rfl]
   split <;> (rename_i e2; refine ⟨by omega, by omega, fun _ => .inr (.inr ⟨he, rfl⟩), fun _ => by omega⟩)
  ·rw [if_neg e1]
   by_cases e2 : t = (gi l (i : Int)).Start
   ·subst e2
    rw [if_pos rfl]
    exact ⟨by omega, by omega, fun _ => .inr (.inl rfl), fun _ => by omega⟩
   ·rw [if_neg e2]
    refine ⟨a, by omega, fun h => .inl h, ?_⟩
    rintro (h | h | h)
    ·exact h
    ·exact absurd h.symm e2
    ·exact absurd h.2.symm e1
 ·rw [if_neg he, h1]
  by_cases e2 : t = (gi l (i : Int)).Start
  ·subst e2
   rw [if_pos rfl]
   exact ⟨by omega, by omega, fun _ => .inr (.inl rfl), fun _ => by omega⟩
  ·rw [if_neg e2]
   refine ⟨a, by omega, fun h => .inl h, ?_⟩
   rintro (h | h | h)
   ·exact h
   ·exact absurd h.symm e2
   ·exact absurd h.1 he
theorem last_next {l : List Api_Oper} {la : List (Int × Api_Oper)} {i : Nat} (h : lastOk l la i) : lastOk l (mput la (gi l (i : Int)).Prc (gi l (i : Int))) (i + 1) := by
 intro p
 have hp := h p
 rw [mget_mput]
 by_cases e : p = (gi l (i : Int)).Prc
 ·rw [if_pos e]
  exact ⟨i, by omega, e.symm, rfl, fun j h1 h2 => by omega⟩
 ·rw [if_neg e]
  cases hm : mget la p with
  | none =>
   rw [hm] at hp
   intro k hk
   by_cases e2 : k = i
   ·subst e2; exact fun h => e h.symm
   ·exact hp k (by omega)
  | some x =>
   rw [hm] at hp
   obtain ⟨k, h1, h2, h3, h4⟩ := hp
   refine ⟨k, by omega, h2, h3, fun j hj1 hj2 => ?_⟩
   by_cases e2 : j = i
   ·subst e2; exact fun h => e h.symm
   ·exact h4 j hj1 (by omega)
theorem alone_facts {x : Api_Oper} (h : oper_alone x = 0) : 0 ≤ x.Start ∧ (x.End = -1 ∨ x.End > x.Start) := by
 unfold oper_alone at h
 split at h
 ·cases h
 ·split at h
  ·cases h
  ·split at h
   ·cases h
   ·rename_i h1 _ h3
    refine ⟨by omega, ?_⟩
    have h3 : oper_ended x = true := by simpa using h3
    unfold oper_ended at h3
    split at h3
    ·left; assumption
    ·right
     simp only [Bool.and_eq_true, decide_eq_true_eq] at h3
     exact h3.1.1.1
theorem meets_iff {a b : Api_Oper} : ref27_meets a b = true ↔ a.Start = b.Start ∨ a.End = b.Start ∨ a.Start = b.End ∨ (a.End = b.End ∧ a.End ≠ -1) := by
 unfold ref27_meets
 simp only [Bool.or_eq_true, Bool.and_eq_true, beq_iff_eq, bne_iff_ne, or_assoc]
theorem out32_iff {l : List Api_Oper} {u : List (Int × Int)} {i : Nat} (hu : usedOk l u i) (hp : prevOk l i) (ha : oper_alone (gi l (i : Int)) = 0) : out32 l u i ↔ ∃ k : Nat, k < i ∧ ((gi l (k : Int)).Start ≥ (gi l (i : Int)).Start ∨ ref27_meets (gi l (k : Int)) (gi l (i : Int)) = true) := by
 obtain ⟨f1, f2⟩ := alone_facts ha
 unfold out32
 rw [(hu (gi l (i : Int)).Start).2.2, (hu (gi l (i : Int)).End).2.2]
 constructor
 ·rintro (⟨h0, h1⟩ | ⟨k, hk, h⟩ | ⟨he, k, hk, h⟩)
  ·refine ⟨i - 1, by omega, .inl ?_⟩
   rw [show ((i - 1 : Nat) : Int) = (i : Int) - 1 by omega]; exact h1
  ·refine ⟨k, hk, .inr (meets_iff.2 ?_)⟩
   rcases h with h | h
   ·exact .inl h
   ·exact .inr (.inl h.2)
  ·refine ⟨k, hk, .inr (meets_iff.2 ?_)⟩
   rcases h with h | h
   ·exact .inr (.inr (.inl h))
   ·exact .inr (.inr (.inr ⟨h.2, by omega⟩))
 ·rintro ⟨k, hk, h | h⟩
  ·left
   refine ⟨by omega, ?_⟩
   by_cases e : k = i - 1
   ·subst e; rw [show ((i - 1 : Nat) : Int) = (i : Int) - 1 by omega] at h; exact h
   ·have := ((hp (i - 1) (by omega)).2 k (by omega)).1
    rw [show ((i - 1 : Nat) : Int) = (i : Int) - 1 by omega] at this
    omega
  ·obtain ⟨g1, g2⟩ := alone_facts (hp k hk).1
   rcases meets_iff.1 h with h | h | h | h
   ·exact .inr (.inl ⟨k, hk, .inl h⟩)
   ·exact .inr (.inl ⟨k, hk, .inr ⟨by omega, h⟩⟩)
   ·exact .inr (.inr ⟨by omega, k, hk, .inl h⟩)
   ·exact .inr (.inr ⟨by omega, k, hk, .inr ⟨by omega, h.1⟩⟩)
theorem ahead_trans {a b c : Api_Oper} (hb : oper_alone b = 0) (h1 : oper_Ahead a b = true) (h2 : oper_Ahead b c = true) : oper_Ahead a c = true := by
 obtain ⟨f1, f2⟩ := alone_facts hb
 unfold oper_Ahead at *
 rw [Bool.and_eq_true, decide_eq_true_eq, decide_eq_true_eq] at *
 omega
theorem out33_iff {l : List Api_Oper} {la : List (Int × Api_Oper)} {i : Nat} (hl : lastOk l la i) (hp : prevOk l i) : out33 l la i = true ↔ ∃ k : Nat, k < i ∧ (gi l (k : Int)).Prc = (gi l (i : Int)).Prc ∧ oper_Ahead (gi l (k : Int)) (gi l (i : Int)) = false := by
 unfold out33
 have h := hl (gi l (i : Int)).Prc
 cases hm : mget la (gi l (i : Int)).Prc with
 | none =>
  rw [hm] at h
  constructor
  ·intro h2; simp at h2
  ·rintro ⟨k, hk, h1, _⟩; exact absurd h1 (h k hk)
 | some x =>
  rw [hm] at h
  obtain ⟨k, h1, h2, h3, h4⟩ := h
  subst h3
  show (true && !oper_Ahead (gi l (k : Int)) (gi l (i : Int))) = true ↔ _
  rw [Bool.true_and, Bool.not_eq_true']
  constructor
  ·intro h; exact ⟨k, h1, h2, h⟩
  ·rintro ⟨j, hj, e1, e2⟩
   have : j ≤ k := by
    apply Classical.byContradiction
    intro hh
    exact h4 j (by omega) hj e1
   by_cases e : j = k
   ·subst e; exact e2
   ·have hjk := ((hp k h1).2 j (by omega)).2 (by rw [e1, h2])
    apply Classical.byContradiction
    intro hh
    rw [Bool.not_eq_false] at hh
    rw [ahead_trans (hp k h1).1 hjk hh] at e2
    cases e2
end Go.Proofs.Ytojdelnnjhbgbaa
