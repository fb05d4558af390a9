/- Orders filled; linearizations, plain. -/
import Derived.Test.YteahldlmkheleaaLV3
set_option linter.all false
namespace Go.Proofs.Yteahldlmkheleaa
open Go Go.Sv Go.Pu
theorem kG {o : ai} : ∀ {f i : Nat}, i + f = o.Rows.length → (en o f i).2 = 0 → ∀ j : Nat, i ≤ j → j < o.Rows.length → dN o (j : Int) = 0
 | 0, i, h, _, j, h1, h2 => by omega
 | f + 1, i, h, h0, j, h1, h2 => by
  rw [en] at h0
  by_cases he : dN o (i : Int) ≠ 0
  ·rw [if_pos he] at h0; exact absurd h0 he
  ·rw [if_neg he] at h0
   by_cases hj : j = i
   ·subst hj; omega
   ·exact kG (f := f) (i := i + 1) (by omega) h0 j (by omega) h2
theorem pA {o : ai} {s k : Int} (hc : (b5 o).2 = 0) (h : (cI o s k).2.2 = true) : 0 ≤ (cI o s k).1 ∧ (cI o s k).1 < o.ao := by
 unfold b5 at hc
 split at hc
 ·cases hc
 ·have hall := kG (by omega) hc
  unfold cI at h ⊢
  cases hf : o.Rows.find? (fun r => r.State == s && r.Kind == k) with
  | none => rw [hf] at h; cases h
  | some r =>
   have hm := List.mem_of_find?_eq_some hf
   obtain ⟨j, hj, rfl⟩ := List.getElem_of_mem hm
   have := hall j (by omega) hj
   unfold dN at this
   rw [cx _ _ hj] at this
   dsimp only
   by_cases hb : o.Rows[j].State < 0 ∨ o.Rows[j].State ≥ o.ao ∨ o.Rows[j].Next < 0 ∨ o.Rows[j].Next ≥ o.ao
   ·rw [if_pos hb] at this; cases this
   ·omega
theorem mI {o : ai} {l : List aa} : ∀ {p : List ah} {prev : List Int} {s : Int}, (gK o l prev s p).2.2 = 0 → (opers p).Nodup ∧ ∀ x ∈ opers p, 0 ≤ x ∧ x < l.length ∧ x ∉ prev
 | [], _, _, _ => ⟨List.nodup_nil, fun x hx => by cases hx⟩
 | q :: p, prev, s, h => by
  rw [gK] at h
  by_cases he : (dy o l prev s q).2 ≠ 0
  ·rw [if_pos he] at h; exact absurd h he
  ·rw [if_neg he] at h
   obtain ⟨i1, i2⟩ := mI (p := p) h
   have hin : ¬ (q.Oper < 0 ∨ q.Oper ≥ l.length) ∧ q.Oper ∉ prev := by
    unfold dy at he
    by_cases h1 : q.Oper < 0 ∨ q.Oper ≥ l.length
    ·rw [if_pos h1] at he; exact absurd (by decide) he
    ·rw [if_neg h1] at he
     refine ⟨h1, fun h2 => ?_⟩
     rw [if_pos h2] at he; exact absurd (by decide) he
   have e : opers (q :: p) = q.Oper :: opers p := rfl
   rw [e, List.nodup_cons]
   refine ⟨⟨fun hm => ?_, i1⟩, fun x hx => ?_⟩
   ·exact (i2 _ hm).2.2 (List.mem_cons_self ..)
   ·rcases List.mem_cons.mp hx with rfl | hx
    ·exact ⟨by omega, by omega, hin.2⟩
    ·obtain ⟨a, b, c⟩ := i2 x hx
     exact ⟨a, b, fun hp => c (List.mem_cons_of_mem _ hp)⟩
theorem jq {l : List aa} {p : List ah} {m : Int} : m ∈ bO l p ↔ 0 ≤ m ∧ m < l.length ∧ (gi l m).End ≠ -1 ∧ m ∉ opers p := by
 unfold bO c7 eC gz
 rw [List.mem_map]
 constructor
 ·rintro ⟨i, hi, rfl⟩
  rw [List.mem_filter, List.mem_range] at hi
  obtain ⟨h1, h2⟩ := hi
  simp only [Bool.and_eq_true, beq_iff_eq, beq_eq_false_iff_ne, Bool.not_eq_true', decide_eq_false_iff_not] at h2
  exact ⟨by omega, by omega, h2.1, h2.2⟩
 ·rintro ⟨h0, h1, h2, h3⟩
  refine ⟨m.toNat, ?_, by omega⟩
  have e : (m.toNat : Int) = m := by omega
  rw [List.mem_filter, List.mem_range, e]
  refine ⟨by omega, ?_⟩
  simp only [Bool.and_eq_true, beq_iff_eq, beq_eq_false_iff_ne, Bool.not_eq_true', decide_eq_false_iff_not]
  exact ⟨h2, h3⟩
theorem nU {l : List aa} {p : List ah} (h : ¬ bR l p ≥ 0) : ∀ y : Nat, y < p.length → dx l p y = false := by
 unfold bR jE at h
 cases hf : (List.range p.length).find? (dx l p) with
 | none =>
  rw [List.find?_eq_none] at hf
  intro y hy
  have := hf y (List.mem_range.mpr hy)
  simpa using this
 | some x => rw [hf] at h; exact absurd (by dsimp only; omega) h
theorem oW {o : ai} {l : List aa} {p : List ah} : c6 o l p = true ↔ (bd o).2 = 0 ∧ (b6 l).2 = 0 ∧ (cr o l p).2.2 = 0 ∧ (∀ y : Nat, y < p.length → dx l p y = false) ∧ ∀ m, m ∉ bO l p := by
 unfold c6
 rw [beq_iff_eq]
 unfold c8
 by_cases h1 : (bd o).2 ≠ 0 ∨ (b6 l).2 ≠ 0
 ·rw [if_pos h1]
  exact ⟨(fun h => by cases h), fun h => by omega⟩
 ·rw [if_neg h1]
  by_cases h2 : (cr o l p).2.2 ≠ 0
  ·rw [if_pos h2]
   exact ⟨fun h => absurd h h2, fun h => absurd h.2.2.1 h2⟩
  ·rw [if_neg h2]
   by_cases h3 : bR l p ≥ 0
   ·rw [if_pos h3]
    refine ⟨(fun h => by cases h), fun h => ?_⟩
    rw [l6 h.2.2.2.1] at h3
    exact absurd h3 (by decide)
   ·rw [if_neg h3]
    by_cases h4 : (bO l p).length > 0
    ·rw [if_pos h4]
     refine ⟨(fun h => by cases h), fun h => ?_⟩
     exact absurd (List.getElem_mem h4) (h.2.2.2.2 _)
    ·rw [if_neg h4]
     refine ⟨fun _ => ⟨by omega, by omega, by omega, nU h3, fun m hm => h4 (List.length_pos_of_mem hm)⟩, fun _ => rfl⟩
theorem oy {o : ai} {l : List aa} {p : List ah} (h : (cr o l p).2.2 = 0) : (opers p).Nodup ∧ ∀ x ∈ opers p, 0 ≤ x ∧ x < l.length := by
 unfold cr eR at h
 split at h
 ·rename_i hm; exact absurd h hm
 ·have := mI h
  exact ⟨this.1, fun x hx => ⟨(this.2 x hx).1, (this.2 x hx).2.1⟩⟩
end Go.Proofs.Yteahldlmkheleaa
