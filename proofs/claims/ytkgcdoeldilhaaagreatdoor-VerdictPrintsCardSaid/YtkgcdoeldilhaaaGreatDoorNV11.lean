/- Proofs as text: both readings are one, and back. Plain. -/
import Derived.Test.YtkgcdoeldilhaaaGreatDoorNV10
set_option linter.all false
namespace Go.Proofs.YtkgcdoeldilhaaaGreatDoor
open Go Go.Sv Go.Pu
def litsB (c : List Int) : Bs := c.flatMap fun l => Lib.itoa l ++ [32]
abbrev flat (s : Bs) (k a : Int) : List Token_Token := (linesL s k a).flatten
theorem numOf_in {t : Bs} {lo hi : Int} (h : (numOf t lo hi).2 = 0) : lo ≤ (numOf t lo hi).1 ∧ (numOf t lo hi).1 ≤ hi := by
  unfold numOf at *
  split at h
  · split at h
    · rename_i h1 h2; rw [if_pos h1, if_pos h2]; exact h2
    · simp at h
  · simp at h
theorem litsE_iff (vars : Int) (hv : 0 ≤ vars ∧ vars ≤ 100000) : ∀ c : List Int, litsE vars c = 0 ↔ ∀ l ∈ c, l ≠ 0 ∧ -vars ≤ l ∧ l ≤ vars
  | [] => by simp [litsE]
  | l :: c => by
    have ih := litsE_iff vars hv c
    have e : litE l vars = 0 ↔ l ≠ 0 ∧ -vars ≤ l ∧ l ≤ vars := by unfold litE; rw [if_neg (by omega)]; split <;> simp <;> omega
    unfold litsE
    by_cases h : litE l vars = 0
    · rw [if_neg (by simp [h])]; rw [ih]; simp [e.1 h]
    · rw [if_pos h]; constructor
      · intro h'; exact absurd h' h
      · intro h'; exact absurd (e.2 (h' l (by simp))) h
theorem clauseE_iff (c : List Int) (vars : Int) (hv : 0 ≤ vars ∧ vars ≤ 100000) : clauseE c vars = 0 ↔ c.length ≤ 1000 ∧ (∀ l ∈ c, l ≠ 0 ∧ -vars ≤ l ∧ l ≤ vars) ∧ c.Nodup := by
  unfold clauseE
  rw [if_neg (by omega)]
  by_cases h1 : c.length > 1000
  · rw [if_pos h1]; constructor
    · intro h; simp at h
    · intro h; omega
  · rw [if_neg h1]
    have hl := litsE_iff vars hv c
    by_cases h2 : litsE vars c = 0
    · rw [if_neg (by simp [h2])]
      by_cases h3 : c.Nodup
      · rw [if_pos h3]; simp [h3, hl.1 h2]; exact ⟨by omega, hl.1 h2⟩
      · rw [if_neg h3]; simp [h3]
    · rw [if_pos h2]; constructor
      · intro h; exact absurd h h2
      · intro h; exact absurd (hl.2 h.2.1) h2
theorem tw_no : ∀ {p : Bs} (y : Bs), (∀ b ∈ p, b ≠ 10) → tw (p ++ y) = p ++ tw y
  | [], y, _ => rfl
  | b :: p, y, h => by
    have hb : (b != 10) = true := by simpa using h b (by simp)
    have := tw_no (p := p) y (fun c hc => h c (by simp [hc]))
    unfold tw at *
    rw [List.cons_append, List.takeWhile_cons, hb]
    simp only [if_true]
    rw [this]; rfl
theorem tw_ten : ∀ {l : Bs} (r : Bs), (∀ b ∈ l, b ≠ 10) → tw (l ++ 10 :: r) = l := fun {l} r h => by rw [tw_no _ h]; simp [tw]
theorem flat_good (s : Bs) : (∀ t ∈ flat s 1 0, ∃ k, Good s k t) ∧ (flat s 1 0).Pairwise (fun t u => tend t ≤ u.At) := by
  obtain ⟨h1, _, h3⟩ := lines_good (s := s) s.length 0 1 (Int.le_refl _) (by omega) (fun _ => by simp [cnl])
  have e : s.drop (0 : Int).toNat = s := rfl
  rw [e] at h1 h3
  refine ⟨fun t ht => ?_, h3⟩
  obtain ⟨r, hr, htr⟩ := List.mem_flatten.1 ht
  obtain ⟨i, hi⟩ := List.getElem?_of_mem hr
  exact ⟨_, h1 i r hi t htr⟩
theorem row_rel (lo hi : Int) (tw : Bool) : ∀ (T : List Token_Token) (a k : Int) (out : List Int),
    ((rrGo lo hi tw T a k out).E ≠ 0 → (rowGo lo hi tw T a out).2.e = (rrGo lo hi tw T a k out).E ∧ (rowGo lo hi tw T a out).2.at_ = (rrGo lo hi tw T a k out).At) ∧
    ((rrGo lo hi tw T a k out).E = 0 → (rowGo lo hi tw T a out).2.e = 0 ∧ (rowGo lo hi tw T a out).1 = (rrGo lo hi tw T a k out).L ∧ ∃ j : Nat, 1 ≤ j ∧ j ≤ T.length ∧ (rrGo lo hi tw T a k out).Taken = k + j ∧ (rowGo lo hi tw T a out).2.rest = T.drop j ∧ (rowGo lo hi tw T a out).2.at_ = (gi T ((j : Int) - 1)).At + ((gi T ((j : Int) - 1)).Text.length : Int))
  | [], a, k, out => by unfold rrGo rowGo; simp
  | t :: T, a, k, out => by
    have s1 : rrGo lo hi tw (t :: T) a k out = if (numOf t.Text lo hi).2 ≠ 0 then ⟨[], 0, t.At, (numOf t.Text lo hi).2⟩ else if (numOf t.Text lo hi).1 = 0 then ⟨out, k + 1, 0, 0⟩ else if addR out tw (numOf t.Text lo hi).1 ≠ 0 then ⟨[], 0, t.At, addR out tw (numOf t.Text lo hi).1⟩ else rrGo lo hi tw T (t.At + t.Text.length) (k + 1) (out ++ [(numOf t.Text lo hi).1]) := rfl
    have s2 : rowGo lo hi tw (t :: T) a out = if (numOf t.Text lo hi).2 ≠ 0 then (out, ⟨T, t.At, (numOf t.Text lo hi).2⟩) else if (numOf t.Text lo hi).1 = 0 then (out, ⟨T, t.At + t.Text.length, 0⟩) else if addR out tw (numOf t.Text lo hi).1 ≠ 0 then (out ++ [(numOf t.Text lo hi).1], ⟨T, t.At, addR out tw (numOf t.Text lo hi).1⟩) else rowGo lo hi tw T (t.At + t.Text.length) (out ++ [(numOf t.Text lo hi).1]) := rfl
    rw [s1, s2]
    by_cases h1 : (numOf t.Text lo hi).2 ≠ 0
    · rw [if_pos h1, if_pos h1]; exact ⟨fun _ => ⟨rfl, rfl⟩, fun h => absurd h h1⟩
    · rw [if_neg h1, if_neg h1]
      by_cases h2 : (numOf t.Text lo hi).1 = 0
      · rw [if_pos h2, if_pos h2]
        exact ⟨fun h => absurd rfl h, fun _ => ⟨rfl, rfl, 1, by omega, by simp, by simp, by simp, by simp [gi]⟩⟩
      · rw [if_neg h2, if_neg h2]
        by_cases h3 : addR out tw (numOf t.Text lo hi).1 ≠ 0
        · rw [if_pos h3, if_pos h3]; exact ⟨fun _ => ⟨rfl, rfl⟩, fun h => absurd h h3⟩
        · rw [if_neg h3, if_neg h3]
          obtain ⟨i1, i2⟩ := row_rel lo hi tw T (t.At + t.Text.length) (k + 1) (out ++ [(numOf t.Text lo hi).1])
          refine ⟨i1, fun h => ?_⟩
          obtain ⟨a1, a2, j, a3, a4, a5, a6, a7⟩ := i2 h
          refine ⟨a1, a2, j + 1, by omega, by simp; omega, by rw [a5]; push_cast; omega, by rw [a6]; rfl, ?_⟩
          rw [a7]
          have : gi (t :: T) (((j + 1 : Nat) : Int) - 1) = gi T ((j : Int) - 1) := by
            obtain ⟨m, rfl⟩ : ∃ m, j = m + 1 := ⟨j - 1, by omega⟩
            simp [gi]
          rw [this]
def rowOK (lo hi : Int) (tw : Bool) (l : List Int) : Prop := l.length ≤ 1000 ∧ (∀ n ∈ l, n ≠ 0 ∧ lo ≤ n ∧ n ≤ hi) ∧ (tw = true → l.Nodup)
theorem within_iff (l : List Int) (lo : Int) : withinB l lo = true ↔ l.length ≤ 1000 ∧ ∀ n ∈ l, n ≠ 0 ∧ lo ≤ n ∧ n ≤ 10000000 := by
  unfold withinB
  rw [Bool.and_eq_true, decide_eq_true_eq, List.all_eq_true]
  constructor
  · rintro ⟨a, b⟩
    refine ⟨a, fun n hn => ?_⟩
    have := b n hn
    unfold inH at this
    simp at this; omega
  · rintro ⟨a, b⟩
    refine ⟨a, fun n hn => ?_⟩
    have := b n hn
    unfold inH
    simp; omega
theorem may_iff (s : Api_Step) : mayS s = true ↔ (s.Kind = 1 ∧ 1 ≤ s.Id ∧ s.Id ≤ 10000000 ∧ rowOK (-100000) 100000 true s.Lits ∧ rowOK (-10000000) 10000000 false s.Hints) ∨ (s.Kind = 2 ∧ 0 ≤ s.Id ∧ s.Id ≤ 10000000 ∧ s.Lits = [] ∧ rowOK 1 10000000 false s.Hints) := by
  unfold mayS
  by_cases h1 : s.Kind = 1
  · rw [if_pos h1]
    simp only [Bool.and_eq_true, decide_eq_true_eq, within_iff, beq_iff_eq, clauseE_iff s.Lits 100000 (by omega)]
    unfold rowOK
    constructor
    · rintro ⟨⟨⟨a, b⟩, c, d, e⟩, f, g⟩
      exact .inl ⟨h1, a, b, ⟨c, d, fun _ => e⟩, f, g, fun h => by simp at h⟩
    · rintro (⟨_, a, b, ⟨c, d, e⟩, f, g, _⟩ | ⟨k, _⟩)
      · exact ⟨⟨⟨a, b⟩, c, d, e rfl⟩, f, g⟩
      · omega
  · rw [if_neg h1]
    by_cases h2 : s.Kind = 2
    · rw [if_pos h2]
      simp only [Bool.and_eq_true, decide_eq_true_eq, within_iff, List.isEmpty_iff]
      unfold rowOK
      constructor
      · rintro ⟨⟨⟨a, b⟩, c⟩, f, g⟩
        exact .inr ⟨h2, a, b, c, f, g, fun h => by simp at h⟩
      · rintro (⟨k, _⟩ | ⟨_, a, b, c, f, g, _⟩)
        · omega
        · exact ⟨⟨⟨a, b⟩, c⟩, f, g⟩
    · rw [if_neg h2]; simp [h1, h2]
theorem badGo_iff : ∀ (l : List Api_Step) (i : Int), 0 ≤ i → ((badGo l i ≥ 0) ↔ ∃ s ∈ l, mayS s = false)
  | [], i, _ => by simp [badGo]
  | s :: l, i, h => by
    have st : badGo (s :: l) i = if mayS s then badGo l (i + 1) else i := rfl
    rw [st]
    by_cases hm : mayS s = true
    · rw [if_pos hm, badGo_iff l (i + 1) (by omega)]; simp [hm]
    · rw [if_neg hm]; simp [hm]; exact h
theorem chk_iff (l : List Api_Step) : (chkS l).2 = 0 ↔ l.length ≤ 1000000 ∧ ∀ s ∈ l, mayS s = true := by
  unfold chkS
  by_cases h : l.length > 1000000
  · rw [if_pos h]; simp; omega
  · rw [if_neg h]
    have := badGo_iff l 0 (by decide)
    by_cases hb : badGo l 0 ≥ 0
    · rw [if_pos hb]
      obtain ⟨s, hs, hm⟩ := this.1 hb
      simp
      intro _
      exact ⟨s, hs, hm⟩
    · rw [if_neg hb]
      simp
      refine ⟨by omega, fun s hs => ?_⟩
      cases hm : mayS s with
      | true => rfl
      | false => exact absurd (this.2 ⟨s, hs, hm⟩) hb
def szS (s : Api_Step) : Nat := s.Lits.length + s.Hints.length + 2
theorem nums_len {l : List Int} (h : ∀ n ∈ l, -10000000 ≤ n ∧ n ≤ 10000000) : (numsB l).length ≤ 22 * l.length + 1 := by
  unfold numsB
  induction l with
  | nil => simp
  | cons n l ih =>
    have := ih (fun x hx => h x (by simp [hx]))
    have b := h n (by simp)
    have a3 := itoa_len (x := n) ⟨by show (-9223372036854775808 : Int) ≤ _; omega, by show _ ≤ (9223372036854775807 : Int); omega⟩
    simp at this ⊢; omega
theorem stepT_len {s : Api_Step} (h : mayS s = true) : (stepT s).length ≤ 30 * szS s := by
  have hh : 0 ≤ s.Id ∧ s.Id ≤ 10000000 ∧ (∀ n ∈ s.Lits, -10000000 ≤ n ∧ n ≤ 10000000) ∧ (∀ n ∈ s.Hints, -10000000 ≤ n ∧ n ≤ 10000000) := by
    rcases (may_iff s).1 h with ⟨_, a, b, c, d⟩ | ⟨_, a, b, c, d⟩
    · exact ⟨by omega, b, fun n hn => by have := c.2.1 n hn; omega, fun n hn => by have := d.2.1 n hn; omega⟩
    · exact ⟨by omega, b, fun n hn => by rw [c] at hn; simp at hn, fun n hn => by have := d.2.1 n hn; omega⟩
  have a := itoa_len (x := s.Id) ⟨by show (-9223372036854775808 : Int) ≤ _; omega, by show _ ≤ (9223372036854775807 : Int); omega⟩
  have b := nums_len hh.2.2.1
  have c := nums_len hh.2.2.2
  unfold stepT szS
  split
  · simp; omega
  · simp; omega
end Go.Proofs.YtkgcdoeldilhaaaGreatDoor
