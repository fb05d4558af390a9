/- The laws of verdicts as text: plain. -/
import Derived.Test.YtkgcdoeldilhaaaGreatDoorNV19
set_option linter.all false
namespace Go.Proofs.YtkgcdoeldilhaaaGreatDoor
open Go Go.Sv Go.Pu
theorem idxW_spec (w : Bs) : ∀ (l : List Bs) (i : Int), (idxW w l i = -1 ∧ w ∉ l) ∨ ∃ j : Nat, idxW w l i = i + j ∧ l[j]? = some w
  | [], i => .inl ⟨rfl, by simp⟩
  | x :: l, i => by
    have st : idxW w (x :: l) i = if w == x then i else idxW w l (i + 1) := rfl
    rw [st]
    by_cases h : w = x
    · subst h; rw [if_pos (by simp)]; exact .inr ⟨0, by simp, by simp⟩
    · rw [if_neg (by simpa using h)]
      rcases idxW_spec w l (i + 1) with ⟨a, b⟩ | ⟨j, a, b⟩
      · exact .inl ⟨a, by simp [h, b]⟩
      · exact .inr ⟨j + 1, by rw [a]; push_cast; omega, by simpa using b⟩
theorem wordV_of {k : Int} (h : 1 ≤ k ∧ k ≤ 5) : k = 1 ∨ k = 2 ∨ k = 3 ∨ k = 4 ∨ k = 5 := by omega
theorem kindW_cases (w : Bs) : (kindW w = 0 ∧ w ∉ wordsV) ∨ (1 ≤ kindW w ∧ kindW w ≤ 5 ∧ wordV (kindW w) = w) := by
  unfold kindW
  rcases idxW_spec w wordsV 0 with ⟨a, b⟩ | ⟨j, a, b⟩
  · exact .inl ⟨by rw [a]; rfl, b⟩
  · have hj : j < 5 := by
      by_cases h : j < 5
      · exact h
      · have e : wordsV[j]? = none := by
          rw [List.getElem?_eq_none_iff]; have e2 : wordsV.length = 5 := rfl
          omega
        rw [e] at b; cases b
    refine .inr ?_
    rw [a]
    have hj' : j = 0 ∨ j = 1 ∨ j = 2 ∨ j = 3 ∨ j = 4 := by omega
    rcases hj' with rfl | rfl | rfl | rfl | rfl <;> (have b := Option.some.inj b; subst b; refine ⟨by decide, by decide, by decide⟩)
theorem no10_or (s : Bs) : (∀ c ∈ s, c ≠ 10) ∨ ∃ l p, s = l ++ 10 :: p ∧ ∀ c ∈ l, c ≠ 10 := by
  by_cases h : (10 : UInt8) ∈ s
  · obtain ⟨l, r, rfl, hl⟩ := List.eq_append_cons_of_mem h
    exact .inr ⟨l, r, rfl, fun c hc (e : c = 10) => hl (e ▸ hc)⟩
  · exact .inl fun c hc (e : c = 10) => h (e ▸ hc)
theorem drop_ten (l z : Bs) : (l ++ 10 :: z).drop (l.length + 1) = z := by
  rw [show l.length + 1 = (l ++ [10]).length by simp, show l ++ 10 :: z = (l ++ [10]) ++ z by simp, List.drop_left]
theorem tw_self {s : Bs} (h : ∀ c ∈ s, c ≠ 10) : tw s = s := by have := tw_no (p := s) [] h; simpa [tw] using this
theorem behGo_fuel : ∀ (f : Nat) (l : Bs) (k a : Int), l.length ≤ f → behGo f l k a = behGo l.length l k a := by
  have key : ∀ (n f g : Nat) (l : Bs) (k a : Int), l.length ≤ n → l.length ≤ f → l.length ≤ g → behGo f l k a = behGo g l k a := by
    intro n
    induction n with
    | zero =>
      intro f g l k a h _ _
      have : l = [] := List.length_eq_zero_iff.1 (by omega)
      subst this
      cases f <;> cases g <;> simp [behGo]
    | succ n ih =>
      intro f g l k a h hf hg
      cases l with
      | nil => cases f <;> cases g <;> simp [behGo]
      | cons b r =>
        cases f with
        | zero => simp at hf
        | succ f =>
          cases g with
          | zero => simp at hg
          | succ g =>
            simp only [behGo, List.isEmpty_cons]
            congr 2
            simp only [List.length_cons] at h hf hg
            apply ih <;> simp <;> omega
  intro f l k a h
  exact key l.length f l.length l k a (Nat.le_refl _) h (Nat.le_refl _)
def beh (s : Bs) (k a : Int) : Int := behGo s.length s k a
theorem beh_nil (k a : Int) : beh [] k a = a := rfl
theorem beh_cons {l : Bs} (h : l ≠ []) (k a : Int) : beh l k a = if rowOf (tw l) k a = [] then beh (l.drop ((tw l).length + 1)) (k + 1) (a + min ((tw l).length + 1) l.length) else a + min ((tw l).length + 1) l.length := by
  unfold beh
  cases l with
  | nil => exact absurd rfl h
  | cons b r =>
    rw [← behGo_fuel r.length ((b :: r).drop ((tw (b :: r)).length + 1)) _ _ (by simp)]
    simp only [List.length_cons, behGo, List.isEmpty_cons]
    by_cases hr : rowOf (tw (b :: r)) k a = []
    · rw [if_pos hr]
      have hr2 : (rowOf ((b :: r).takeWhile fun b => b != 10) k a).isEmpty = true := by unfold tw at hr; rw [hr]; rfl
      simp [hr2, tw]
    · rw [if_neg hr]
      have hr2 : (rowOf ((b :: r).takeWhile fun b => b != 10) k a).isEmpty = false := by
        unfold tw at hr; cases hx : rowOf ((b :: r).takeWhile fun b => b != 10) k a with
        | nil => exact absurd hx hr
        | cons _ _ => rfl
      simp [hr2, tw]
theorem beh_app (b : Bs) : ∀ (n : Nat) (s : Bs), s.length = n → ∀ (k a : Int), linesP (linesL s k a) ≠ [] → ∃ i : Nat, i ≤ s.length ∧ beh s k a = a + i ∧ (beh (s ++ 10 :: b) k a = a + i ∨ (i = s.length ∧ beh (s ++ 10 :: b) k a = a + i + 1)) := by
  intro n
  induction n using Nat.strongRecOn with
  | _ n ih =>
    intro s hs k a h
    by_cases he : s = []
    · subst he; exact absurd rfl h
    rw [linesL_cons he, linesP_cons] at h
    rcases no10_or s with hnl | ⟨l, p, rfl, hl⟩
    · have e1 : tw (s ++ 10 :: b) = s := tw_ten _ hnl
      rw [tw_self hnl, show s.drop (s.length + 1) = [] from List.drop_eq_nil_of_le (by omega), linesL_nil] at h
      have hr : rowOf s k a ≠ [] := by
        intro e; rw [e] at h; exact h rfl
      refine ⟨s.length, Nat.le_refl _, ?_, .inr ⟨rfl, ?_⟩⟩
      · rw [beh_cons he, tw_self hnl, if_neg hr]; omega
      · rw [beh_cons (by simp), e1, if_neg hr]; simp; omega
    · have e0 : ∀ z : Bs, tw (l ++ 10 :: z) = l := fun z => tw_ten _ hl
      rw [e0, drop_ten] at h
      rw [List.append_assoc, List.cons_append, beh_cons (l := l ++ 10 :: (p ++ 10 :: b)) (by simp), beh_cons (l := l ++ 10 :: p) (by simp), e0, e0, drop_ten, drop_ten]
      by_cases hr : rowOf l k a = []
      · rw [hr, if_pos List.isEmpty_nil] at h
        rw [if_pos hr, if_pos hr]
        have m1 : a + ((min (l.length + 1) (l ++ 10 :: p).length : Nat) : Int) = a + l.length + 1 := by simp; omega
        have m2 : a + ((min (l.length + 1) (l ++ 10 :: (p ++ 10 :: b)).length : Nat) : Int) = a + l.length + 1 := by simp; omega
        rw [m1, m2]
        obtain ⟨i, i0, i1, i2⟩ := ih p.length (by rw [← hs]; simp; omega) p rfl (k + 1) (a + l.length + 1) h
        refine ⟨l.length + 1 + i, by simp; omega, by rw [i1]; push_cast; omega, ?_⟩
        rcases i2 with i2 | ⟨i2, i3⟩
        · exact .inl (by rw [i2]; push_cast; omega)
        · exact .inr ⟨by simp; omega, by rw [i3]; push_cast; omega⟩
      · rw [if_neg hr, if_neg hr]
        refine ⟨l.length + 1, by simp, by simp <;> omega, .inl (by simp <;> omega)⟩
theorem behind_le {s : Bs} (h : linesP (token_Lines s) ≠ []) : 0 ≤ verdict_behind s ∧ verdict_behind s ≤ s.length := by
  obtain ⟨i, a, b, _⟩ := beh_app [] _ s rfl 1 0 h
  have b : verdict_behind s = 0 + i := b
  omega
theorem nums_two {l : PL} {w : Bs} {a b c d e : Int} (h : (numsOf l w [a, b] [c, d] e).2.2 = 0) : (numsOf l w [a, b] [c, d] e).2.1 = e ∧ ∃ x y, (numsOf l w [a, b] [c, d] e).1 = [x, y] ∧ a ≤ x ∧ x ≤ c ∧ b ≤ y ∧ y ≤ d := by
  cases l with
  | nil => simp [numsOf] at h
  | cons p l =>
    rw [numsOf_cons] at h ⊢
    by_cases hw : p.2 ≠ w
    · rw [if_pos hw] at h; simp at h
    rw [if_neg hw] at h ⊢
    simp only [List.zip_cons_cons, List.zip_nil_left] at h ⊢
    cases l with
    | nil => simp [numsGo] at h
    | cons q l =>
      simp only [numsGo] at h ⊢
      by_cases h1 : (numOf q.2 a c).2 ≠ 0
      · rw [if_pos h1] at h; exact absurd h h1
      rw [if_neg h1] at h ⊢
      cases l with
      | nil => simp [numsGo] at h
      | cons r l =>
        simp only [numsGo] at h ⊢
        by_cases h2 : (numOf r.2 b d).2 ≠ 0
        · rw [if_pos h2] at h; exact absurd h h2
        rw [if_neg h2] at h ⊢
        cases l with
        | cons z l => simp [numsGo] at h
        | nil =>
          have b1 := numOf_in (t := q.2) (lo := a) (hi := c) (by simpa using h1)
          have b2 := numOf_in (t := r.2) (lo := b) (hi := d) (by simpa using h2)
          exact ⟨rfl, _, _, rfl, b1.1, b1.2, b2.1, b2.2⟩
theorem nums_one {l : PL} {w : Bs} {a c e : Int} (h : (numsOf l w [a] [c] e).2.2 = 0) : (numsOf l w [a] [c] e).2.1 = e ∧ ∃ x, (numsOf l w [a] [c] e).1 = [x] ∧ a ≤ x ∧ x ≤ c := by
  cases l with
  | nil => simp [numsOf] at h
  | cons p l =>
    rw [numsOf_cons] at h ⊢
    by_cases hw : p.2 ≠ w
    · rw [if_pos hw] at h; simp at h
    rw [if_neg hw] at h ⊢
    simp only [List.zip_cons_cons, List.zip_nil_left] at h ⊢
    cases l with
    | nil => simp [numsGo] at h
    | cons q l =>
      simp only [numsGo] at h ⊢
      by_cases h1 : (numOf q.2 a c).2 ≠ 0
      · rw [if_pos h1] at h; exact absurd h h1
      rw [if_neg h1] at h ⊢
      cases l with
      | cons z l => simp [numsGo] at h
      | nil =>
        have b1 := numOf_in (t := q.2) (lo := a) (hi := c) (by simpa using h1)
        exact ⟨rfl, _, rfl, b1.1, b1.2⟩
end Go.Proofs.YtkgcdoeldilhaaaGreatDoor
