/- The laws of verdicts as text: plain. -/
import Derived.Test.YtkgcdoeldilhaaaDoorNV19
set_option linter.all false
namespace Go.Proofs.YtkgcdoeldilhaaaDoor
open Go Go.Sv Go.Pu
/-! words of kinds -/
theorem idxW_spec (w : Bs) : ∀ (l : List Bs) (i : Int), (idxW w l i = -1 ∧ w ∉ l) ∨ ∃ j : Nat, idxW w l i = i + j ∧ l[j]? = some w
  | [], i => .inl ⟨rfl, by simp⟩
  | x :: l, i => by
    have st : idxW w (x :: l) i = if w == x then i else idxW w l (i + 1) := rfl
    rw [st]
    by_cases h : w = x
    · subst h; rw [if_pos (by simp)]; exact .inr ⟨0, by simp, by simp⟩
    · rw [if_neg (by simpa using h)]
      rcases idxW_spec w l (i + 1) with ⟨a, b⟩ | ⟨j, a, b⟩
      · exact .inl ⟨a, by simp [h, b]⟩
      · exact .inr ⟨j + 1, by rw [a]; push_cast; omega, by simpa using b⟩
theorem wordV_of {k : Int} (h : 1 ≤ k ∧ k ≤ 5) : k = 1 ∨ k = 2 ∨ k = 3 ∨ k = 4 ∨ k = 5 := by omega
theorem kindW_wordV {k : Int} (h : 1 ≤ k ∧ k ≤ 5) : kindW (wordV k) = k := by
  rcases wordV_of h with rfl | rfl | rfl | rfl | rfl <;> decide
theorem kindW_cases (w : Bs) : (kindW w = 0 ∧ w ∉ wordsV) ∨ (1 ≤ kindW w ∧ kindW w ≤ 5 ∧ wordV (kindW w) = w) := by
  unfold kindW
  rcases idxW_spec w wordsV 0 with ⟨a, b⟩ | ⟨j, a, b⟩
  · exact .inl ⟨by rw [a]; rfl, b⟩
  · have hj : j < 5 := by
      by_cases h : j < 5
      · exact h
      · have e : wordsV[j]? = none := by
          rw [List.getElem?_eq_none_iff]; have e2 : wordsV.length = 5 := rfl
          omega
        rw [e] at b; cases b
    refine .inr ?_
    rw [a]
    have hj' : j = 0 ∨ j = 1 ∨ j = 2 ∨ j = 3 ∨ j = 4 := by omega
    rcases hj' with rfl | rfl | rfl | rfl | rfl <;> (have b := Option.some.inj b; subst b; refine ⟨by decide, by decide, by decide⟩)
theorem wordV_line {k : Int} (h : 1 ≤ k ∧ k ≤ 5) (n : List Int) : lineOK (wordsB (wordV k) n) := by
  rcases wordV_of h with rfl | rfl | rfl | rfl | rfl <;> exact words_line (by decide) (by decide) _
theorem pick_line (n : List Int) : lineOK (wordsB wPick n) := words_line (by decide) (by decide) _
theorem line_join (w : Bs) (n : List Int) : lineB w n = joinAll [wordsB w n] := by simp [lineB, joinAll]
theorem joinAll_app2 (a b : List (List Bs)) : joinAll (a ++ b) = joinAll a ++ joinAll b := by simp [joinAll]
/-! lines with tokens -/
theorem linesP_app (a b : List (List Token_Token)) : linesP (a ++ b) = linesP a ++ linesP b := by simp [linesP, saidP]
theorem linesP_nils : ∀ {m : List (List Token_Token)}, (∀ r ∈ m, r = []) → linesP m = []
  | [], _ => rfl
  | r :: m, h => by
    have e := h r (by simp)
    subst e
    rw [linesP_cons, if_pos List.isEmpty_nil]; exact linesP_nils (fun x hx => h x (by simp [hx]))
theorem linesP_of {l : List (List Token_Token)} {T : List (List Bs)} (h : l.map (fun r => r.map Token_Token.Text) = T) (hT : ∀ W ∈ T, W ≠ []) : (linesP l).map (fun r => r.map (fun p => p.2)) = T := by
  have hne : ∀ r ∈ l, r ≠ [] := by
    intro r hr e
    have : r.map Token_Token.Text ∈ T := by rw [← h]; exact List.mem_map.2 ⟨r, hr, rfl⟩
    exact hT _ this (by rw [e]; rfl)
  have hL : linesP l = l.map pairsT := by
    unfold linesP saidP
    rw [List.filter_eq_self]
    intro r hr
    obtain ⟨q, hq, rfl⟩ := List.mem_map.1 hr
    cases hx : q with
    | nil => exact absurd hx (hne q hq)
    | cons t q => simp [pairsT]
  rw [hL, ← h, List.map_map]
  apply List.map_congr_left
  intro r _
  simp [pairsT]
theorem no10_or (s : Bs) : (∀ c ∈ s, c ≠ 10) ∨ ∃ l p, s = l ++ 10 :: p ∧ ∀ c ∈ l, c ≠ 10 := by
  by_cases h : (10 : UInt8) ∈ s
  · obtain ⟨l, r, rfl, hl⟩ := List.eq_append_cons_of_mem h
    exact .inr ⟨l, r, rfl, fun c hc (e : c = 10) => hl (e ▸ hc)⟩
  · exact .inl fun c hc (e : c = 10) => h (e ▸ hc)
theorem drop_ten (l z : Bs) : (l ++ 10 :: z).drop (l.length + 1) = z := by
  rw [show l.length + 1 = (l ++ [10]).length by simp, show l ++ 10 :: z = (l ++ [10]) ++ z by simp, List.drop_left]
theorem tw_self {s : Bs} (h : ∀ c ∈ s, c ≠ 10) : tw s = s := by have := tw_no (p := s) [] h; simpa [tw] using this
theorem rowOf_nil (k a : Int) : rowOf [] k a = [] := by simp [rowOf, wgo]
theorem lines_sfx {b : Bs} (hb : ∀ k a : Int, ∀ r ∈ linesL b k a, r = []) : ∀ (n : Nat) (s : Bs), s.length = n → ∀ (k a : Int), ∃ M, linesL (s ++ 10 :: b) k a = linesL s k a ++ M ∧ ∀ r ∈ M, r = [] := by
  intro n
  induction n using Nat.strongRecOn with
  | _ n ih =>
    intro s hs k a
    by_cases he : s = []
    · subst he
      refine ⟨linesL (10 :: b) k a, by rw [linesL_nil]; rfl, ?_⟩
      rw [linesL_cons (by simp)]
      intro r hr
      have e0 : tw (10 :: b) = [] := tw_ten (l := []) b (by simp)
      rw [e0] at hr
      rcases List.mem_cons.1 hr with rfl | hr
      · exact rowOf_nil _ _
      · exact hb _ _ r hr
    rcases no10_or s with hnl | ⟨l, p, rfl, hl⟩
    · have e1 : tw (s ++ 10 :: b) = s := tw_ten _ hnl
      rw [linesL_cons (by simp), linesL_cons he, e1, tw_self hnl, drop_ten]
      have : s.drop (s.length + 1) = [] := List.drop_eq_nil_of_le (by omega)
      rw [this, linesL_nil]
      exact ⟨_, rfl, fun r hr => hb _ _ r hr⟩
    · obtain ⟨M, hM, hM2⟩ := ih p.length (by rw [← hs]; simp; omega) p rfl (k + 1) (a + l.length + 1)
      refine ⟨M, ?_, hM2⟩
      have e0 : ∀ z : Bs, tw (l ++ 10 :: z) = l := fun z => tw_ten _ hl
      rw [List.append_assoc, List.cons_append, linesL_cons (l := l ++ 10 :: (p ++ 10 :: b)) (by simp), linesL_cons (l := l ++ 10 :: p) (by simp), e0, e0, drop_ten, drop_ten, hM]
      rfl
/-! the place behind the first line with tokens -/
theorem behGo_fuel : ∀ (f : Nat) (l : Bs) (k a : Int), l.length ≤ f → behGo f l k a = behGo l.length l k a := by
  have key : ∀ (n f g : Nat) (l : Bs) (k a : Int), l.length ≤ n → l.length ≤ f → l.length ≤ g → behGo f l k a = behGo g l k a := by
    intro n
    induction n with
    | zero =>
      intro f g l k a h _ _
      have : l = [] := List.length_eq_zero_iff.1 (by omega)
      subst this
      cases f <;> cases g <;> simp [behGo]
    | succ n ih =>
      intro f g l k a h hf hg
      cases l with
      | nil => cases f <;> cases g <;> simp [behGo]
      | cons b r =>
        cases f with
        | zero => simp at hf
        | succ f =>
          cases g with
          | zero => simp at hg
          | succ g =>
            simp only [behGo, List.isEmpty_cons]
            congr 2
            simp only [List.length_cons] at h hf hg
            apply ih <;> simp <;> omega
  intro f l k a h
  exact key l.length f l.length l k a (Nat.le_refl _) h (Nat.le_refl _)
def beh (s : Bs) (k a : Int) : Int := behGo s.length s k a
theorem beh_nil (k a : Int) : beh [] k a = a := rfl
theorem beh_cons {l : Bs} (h : l ≠ []) (k a : Int) : beh l k a = if rowOf (tw l) k a = [] then beh (l.drop ((tw l).length + 1)) (k + 1) (a + min ((tw l).length + 1) l.length) else a + min ((tw l).length + 1) l.length := by
  unfold beh
  cases l with
  | nil => exact absurd rfl h
  | cons b r =>
    rw [← behGo_fuel r.length ((b :: r).drop ((tw (b :: r)).length + 1)) _ _ (by simp)]
    simp only [List.length_cons, behGo, List.isEmpty_cons]
    by_cases hr : rowOf (tw (b :: r)) k a = []
    · rw [if_pos hr]
      have hr2 : (rowOf ((b :: r).takeWhile fun b => b != 10) k a).isEmpty = true := by unfold tw at hr; rw [hr]; rfl
      simp [hr2, tw]
    · rw [if_neg hr]
      have hr2 : (rowOf ((b :: r).takeWhile fun b => b != 10) k a).isEmpty = false := by
        unfold tw at hr; cases hx : rowOf ((b :: r).takeWhile fun b => b != 10) k a with
        | nil => exact absurd hx hr
        | cons _ _ => rfl
      simp [hr2, tw]
theorem beh_app (b : Bs) : ∀ (n : Nat) (s : Bs), s.length = n → ∀ (k a : Int), linesP (linesL s k a) ≠ [] → ∃ i : Nat, i ≤ s.length ∧ beh s k a = a + i ∧ (beh (s ++ 10 :: b) k a = a + i ∨ (i = s.length ∧ beh (s ++ 10 :: b) k a = a + i + 1)) := by
  intro n
  induction n using Nat.strongRecOn with
  | _ n ih =>
    intro s hs k a h
    by_cases he : s = []
    · subst he; exact absurd rfl h
    rw [linesL_cons he, linesP_cons] at h
    rcases no10_or s with hnl | ⟨l, p, rfl, hl⟩
    · have e1 : tw (s ++ 10 :: b) = s := tw_ten _ hnl
      rw [tw_self hnl, show s.drop (s.length + 1) = [] from List.drop_eq_nil_of_le (by omega), linesL_nil] at h
      have hr : rowOf s k a ≠ [] := by
        intro e; rw [e] at h; exact h rfl
      refine ⟨s.length, Nat.le_refl _, ?_, .inr ⟨rfl, ?_⟩⟩
      · rw [beh_cons he, tw_self hnl, if_neg hr]; omega
      · rw [beh_cons (by simp), e1, if_neg hr]; simp; omega
    · have e0 : ∀ z : Bs, tw (l ++ 10 :: z) = l := fun z => tw_ten _ hl
      rw [e0, drop_ten] at h
      rw [List.append_assoc, List.cons_append, beh_cons (l := l ++ 10 :: (p ++ 10 :: b)) (by simp), beh_cons (l := l ++ 10 :: p) (by simp), e0, e0, drop_ten, drop_ten]
      by_cases hr : rowOf l k a = []
      · rw [hr, if_pos List.isEmpty_nil] at h
        rw [if_pos hr, if_pos hr]
        have m1 : a + ((min (l.length + 1) (l ++ 10 :: p).length : Nat) : Int) = a + l.length + 1 := by simp; omega
        have m2 : a + ((min (l.length + 1) (l ++ 10 :: (p ++ 10 :: b)).length : Nat) : Int) = a + l.length + 1 := by simp; omega
        rw [m1, m2]
        obtain ⟨i, i0, i1, i2⟩ := ih p.length (by rw [← hs]; simp; omega) p rfl (k + 1) (a + l.length + 1) h
        refine ⟨l.length + 1 + i, by simp; omega, by rw [i1]; push_cast; omega, ?_⟩
        rcases i2 with i2 | ⟨i2, i3⟩
        · exact .inl (by rw [i2]; push_cast; omega)
        · exact .inr ⟨by simp; omega, by rw [i3]; push_cast; omega⟩
      · rw [if_neg hr, if_neg hr]
        refine ⟨l.length + 1, by simp, by simp <;> omega, .inl (by simp <;> omega)⟩
theorem tw_drop {s : Bs} {j : Nat} (h : j ≤ (tw s).length) : (tw (s.drop j)).length = (tw s).length - j := by
  rcases no10_or s with hnl | ⟨l, p, rfl, hl⟩
  · rw [tw_self hnl] at h ⊢
    rw [tw_self (fun c hc => hnl c (List.mem_of_mem_drop hc))]; simp
  · rw [tw_ten _ hl] at h ⊢
    rw [List.drop_append_of_le_length h, tw_ten _ (fun c hc => hl c (List.mem_of_mem_drop hc))]; simp
theorem beh_ref : ∀ (n : Nat) (s : Bs), s.length = n → ∀ (k a : Int), linesP (linesL s k a) ≠ [] → ∃ j : Nat, (gi (gi (linesP (linesL s k a)) 0) 0).1 = a + j ∧ j ≤ s.length ∧ beh s k a = a + j + (min ((tw (s.drop j)).length + 1) (s.length - j) : Nat) := by
  intro n
  induction n using Nat.strongRecOn with
  | _ n ih =>
    intro s hs k a h
    by_cases he : s = []
    · subst he; exact absurd rfl h
    rw [linesL_cons he, linesP_cons] at h ⊢
    rw [beh_cons he]
    have hle := tw_le s
    by_cases hr : rowOf (tw s) k a = []
    · rw [hr, if_pos List.isEmpty_nil] at h ⊢
      rw [if_pos rfl]
      rcases no10_or s with hnl | ⟨l, p, rfl, hl⟩
      · rw [tw_self hnl, show s.drop (s.length + 1) = [] from List.drop_eq_nil_of_le (by omega)] at h
        exact absurd rfl h
      · have e0 : ∀ z : Bs, tw (l ++ 10 :: z) = l := fun z => tw_ten _ hl
        rw [e0, drop_ten] at h ⊢
        have m1 : a + ((min (l.length + 1) (l ++ 10 :: p).length : Nat) : Int) = a + l.length + 1 := by simp; omega
        rw [m1]
        obtain ⟨j, j0, j1, j2⟩ := ih p.length (by rw [← hs]; simp; omega) p rfl (k + 1) (a + l.length + 1) h
        refine ⟨l.length + 1 + j, by rw [j0]; push_cast; omega, by simp; omega, ?_⟩
        have d : (l ++ 10 :: p).drop (l.length + 1 + j) = p.drop j := by rw [← List.drop_drop, drop_ten]
        rw [j2, d]
        have : (l ++ 10 :: p).length = l.length + 1 + p.length := by simp; omega
        rw [this, show l.length + 1 + p.length - (l.length + 1 + j) = p.length - j by omega]
        push_cast; omega
    · have hr2 : (rowOf (tw s) k a).isEmpty = false := by
        cases hx : rowOf (tw s) k a with
        | nil => exact absurd hx hr
        | cons _ _ => rfl
      rw [hr2, if_neg (by simp), if_neg hr]
      obtain ⟨t, T, ht⟩ := List.exists_cons_of_ne_nil hr
      have g := row_range (l := tw s) (k := k) (a := a) (t := t) (by rw [ht]; simp)
      have e1 : gi (gi (pairsT (rowOf (tw s) k a) :: linesP (linesL (s.drop ((tw s).length + 1)) (k + 1) (a + (tw s).length + 1))) 0) 0 = (t.At, t.Text) := by rw [ht]; rfl
      rw [e1]
      have hj : (t.At - a).toNat ≤ (tw s).length := by omega
      refine ⟨(t.At - a).toNat, by show t.At = _; omega, by omega, ?_⟩
      rw [tw_drop hj]; omega
theorem behind_ref {s : Bs} (h : linesP (token_Lines s) ≠ []) : verdict_behind s = ref39_behind s (gi (gi (linesP (token_Lines s)) 0) 0).1 := by
  obtain ⟨j, a, b, c⟩ := beh_ref _ s rfl 1 0 h
  have a : (gi (gi (linesP (token_Lines s)) 0) 0).1 = 0 + j := a
  rw [a]
  show beh s 1 0 = _
  rw [c]; unfold ref39_behind
  rw [show ((0 : Int) + (j : Int)).toNat = j by omega]; rfl
theorem behind_le {s : Bs} (h : linesP (token_Lines s) ≠ []) : 0 ≤ verdict_behind s ∧ verdict_behind s ≤ s.length := by
  obtain ⟨i, a, b, _⟩ := beh_app [] _ s rfl 1 0 h
  have b : verdict_behind s = 0 + i := b
  omega
/-! numbers of a line -/
theorem nums_words {l : PL} {w : Bs} {ns lo hi : List Int} (e : Int) (h : l.map (fun p => p.2) = wordsB w ns) (hl : ns.length = (lo.zip hi).length) (hb : ∀ p ∈ ns.zip (lo.zip hi), p.2.1 ≤ p.1 ∧ p.1 ≤ p.2.2) : numsOf l w lo hi e = (ns, e, 0) := by
  cases l with
  | nil => simp [wordsB] at h
  | cons p l =>
    unfold wordsB at h
    rw [List.map_cons] at h
    obtain ⟨h1, h2⟩ := List.cons.inj h
    rw [numsOf_cons, if_neg (by simpa using h1), numsGo_words e ns (lo.zip hi) l _ [] h2 hl hb]; rfl
theorem nums_two {l : PL} {w : Bs} {a b c d e : Int} (h : (numsOf l w [a, b] [c, d] e).2.2 = 0) : (numsOf l w [a, b] [c, d] e).2.1 = e ∧ ∃ x y, (numsOf l w [a, b] [c, d] e).1 = [x, y] ∧ a ≤ x ∧ x ≤ c ∧ b ≤ y ∧ y ≤ d := by
  cases l with
  | nil => simp [numsOf] at h
  | cons p l =>
    rw [numsOf_cons] at h ⊢
    by_cases hw : p.2 ≠ w
    · rw [if_pos hw] at h; simp at h
    rw [if_neg hw] at h ⊢
    simp only [List.zip_cons_cons, List.zip_nil_left] at h ⊢
    cases l with
    | nil => simp [numsGo] at h
    | cons q l =>
      simp only [numsGo] at h ⊢
      by_cases h1 : (numOf q.2 a c).2 ≠ 0
      · rw [if_pos h1] at h; exact absurd h h1
      rw [if_neg h1] at h ⊢
      cases l with
      | nil => simp [numsGo] at h
      | cons r l =>
        simp only [numsGo] at h ⊢
        by_cases h2 : (numOf r.2 b d).2 ≠ 0
        · rw [if_pos h2] at h; exact absurd h h2
        rw [if_neg h2] at h ⊢
        cases l with
        | cons z l => simp [numsGo] at h
        | nil =>
          have b1 := numOf_in (t := q.2) (lo := a) (hi := c) (by simpa using h1)
          have b2 := numOf_in (t := r.2) (lo := b) (hi := d) (by simpa using h2)
          exact ⟨rfl, _, _, rfl, b1.1, b1.2, b2.1, b2.2⟩
theorem nums_one {l : PL} {w : Bs} {a c e : Int} (h : (numsOf l w [a] [c] e).2.2 = 0) : (numsOf l w [a] [c] e).2.1 = e ∧ ∃ x, (numsOf l w [a] [c] e).1 = [x] ∧ a ≤ x ∧ x ≤ c := by
  cases l with
  | nil => simp [numsOf] at h
  | cons p l =>
    rw [numsOf_cons] at h ⊢
    by_cases hw : p.2 ≠ w
    · rw [if_pos hw] at h; simp at h
    rw [if_neg hw] at h ⊢
    simp only [List.zip_cons_cons, List.zip_nil_left] at h ⊢
    cases l with
    | nil => simp [numsGo] at h
    | cons q l =>
      simp only [numsGo] at h ⊢
      by_cases h1 : (numOf q.2 a c).2 ≠ 0
      · rw [if_pos h1] at h; exact absurd h h1
      rw [if_neg h1] at h ⊢
      cases l with
      | cons z l => simp [numsGo] at h
      | nil =>
        have b1 := numOf_in (t := q.2) (lo := a) (hi := c) (by simpa using h1)
        exact ⟨rfl, _, rfl, b1.1, b1.2⟩
theorem numsGo_end (e e' : Int) : ∀ (bs : List (Int × Int)) (l : PL) (q : Int) (acc : List Int), (numsGo e' l bs q acc).1 = (numsGo e l bs q acc).1 ∧ (numsGo e' l bs q acc).2.2 = (numsGo e l bs q acc).2.2
  | [], [], q, acc => by simp [numsGo]
  | [], p :: l, q, acc => by simp [numsGo]
  | b :: bs, [], q, acc => by simp [numsGo]
  | b :: bs, p :: l, q, acc => by
    simp only [numsGo]
    split
    · exact ⟨rfl, rfl⟩
    · exact numsGo_end e e' bs l _ _
theorem numsOf_end (e e' : Int) (l : PL) (w : Bs) (lo hi : List Int) : (numsOf l w lo hi e').1 = (numsOf l w lo hi e).1 ∧ (numsOf l w lo hi e').2.2 = (numsOf l w lo hi e).2.2 := by
  cases l with
  | nil => exact ⟨rfl, rfl⟩
  | cons p l =>
    rw [numsOf_cons, numsOf_cons]
    split
    · exact ⟨rfl, rfl⟩
    · exact numsGo_end e e' _ _ _ _
theorem numsGo_in (n e : Int) (he : 0 ≤ e ∧ e ≤ n) : ∀ (bs : List (Int × Int)) (l : PL) (q : Int) (acc : List Int), 0 ≤ q → q ≤ n → (∀ p ∈ l, 0 ≤ p.1 ∧ p.1 + (p.2.length : Int) ≤ n) → 0 ≤ (numsGo e l bs q acc).2.1 ∧ (numsGo e l bs q acc).2.1 ≤ n
  | [], [], q, acc, _, _, _ => he
  | [], p :: l, q, acc, _, _, h => by have := h p (by simp); simp only [numsGo]; omega
  | b :: bs, [], q, acc, h0, h1, _ => by simp only [numsGo]; omega
  | b :: bs, p :: l, q, acc, _, _, h => by
    have := h p (by simp)
    simp only [numsGo]
    split
    · exact ⟨this.1, by show p.1 ≤ n; omega⟩
    · exact numsGo_in n e he bs l _ _ (by omega) this.2 (fun x hx => h x (by simp [hx]))
theorem numsOf_in (n e : Int) (he : 0 ≤ e ∧ e ≤ n) {l : PL} (h : ∀ p ∈ l, 0 ≤ p.1 ∧ p.1 + (p.2.length : Int) ≤ n) (w : Bs) (lo hi : List Int) : 0 ≤ (numsOf l w lo hi e).2.1 ∧ (numsOf l w lo hi e).2.1 ≤ n := by
  cases l with
  | nil => exact he
  | cons p l =>
    have := h p (by simp)
    rw [numsOf_cons]
    split
    · exact ⟨this.1, by show p.1 ≤ n; omega⟩
    · exact numsGo_in n e he _ _ _ _ (by omega) this.2 (fun x hx => h x (by simp [hx]))
end Go.Proofs.YtkgcdoeldilhaaaDoor
