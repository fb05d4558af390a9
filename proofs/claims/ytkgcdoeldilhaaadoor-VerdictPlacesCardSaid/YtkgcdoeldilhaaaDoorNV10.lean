/- Texts of lines, numerals: plain. -/
import Derived.Test.YtkgcdoeldilhaaaDoorNV8
import Derived.Lib.ItoaLen
set_option linter.all false
namespace Go.Proofs.YtkgcdoeldilhaaaDoor
open Go Go.Sv Go.Pu
theorem numOf_e (t : Bs) (lo hi : Int) : (numOf t lo hi).2 ≠ 4 := by
  unfold numOf
  split
  · split <;> simp
  · simp
theorem itoa_d (k : Nat) (h : k < 10) : Lib.itoa (k : Int) = [UInt8.ofNat (48 + k)] := by rw [Lib.itoa_nonneg, Lib.decDigits_one h]
/-! Reads -/
theorem itoa_len {x : Int} (h : inR .i64 x) : (Lib.itoa x).length ≤ 21 := Lib.itoa_length_le x h.1 h.2
def wordOK (w : Bs) : Prop := w ≠ [] ∧ w.all inB = true
theorem wgo_word : ∀ (w r : Bs) (i : Int) (cur : Bs), w.all inB = true → wgo (w ++ r) i cur = wgo r (i + w.length) (cur ++ w)
  | [], r, i, cur, _ => by simp
  | b :: w, r, i, cur, h => by
    rw [List.all_cons, Bool.and_eq_true] at h
    have hg : gapB b = false := by
      have := h.1
      unfold inB at this
      rw [Bool.and_eq_true] at this
      simpa using this.1
    rw [List.cons_append, wgo_in hg, wgo_word w r _ _ h.2, List.length_cons, List.append_assoc]
    rw [show i + 1 + (w.length : Int) = i + ((w.length + 1 : Nat) : Int) by omega]
    rfl
theorem wgo_join : ∀ (ts : List Bs) (i : Int) (cur : Bs), cur ≠ [] → (∀ t ∈ ts, wordOK t) → (wgo (ts.flatMap fun t => 32 :: t) i cur).map (fun p => p.2) = cur :: ts
  | [], i, cur, hc, _ => by
    show (wgo [] i cur).map _ = _
    rw [wgo_nil i hc]; rfl
  | t :: ts, i, cur, hc, h => by
    have ht := h t (by simp)
    rw [List.flatMap_cons, List.cons_append, wgo_gap (by decide) hc, List.map_cons, wgo_word _ _ _ _ ht.2, List.nil_append, wgo_join ts _ t ht.1 (fun u hu => h u (by simp [hu]))]
theorem wgo_row (t : Bs) (ts : List Bs) (i : Int) (h : ∀ u ∈ t :: ts, wordOK u) : (wgo (joinRow (t :: ts)) i []).map (fun p => p.2) = t :: ts := by
  unfold joinRow
  rw [wgo_word _ _ _ _ (h t (by simp)).2, List.nil_append]
  exact wgo_join ts _ t (h t (by simp)).1 (fun u hu => h u (by simp [hu]))
theorem remark_no {b : UInt8} {r : Bs} (h : b ≠ 99) : remark (b :: r) = false := by
  unfold remark Lib.hasPrefix
  have h2 : ((99 : UInt8) == b) = false := by simpa using Ne.symm h
  have e1 : ([99, 32] : Bs).isPrefixOf (b :: r) = false := by
    show (((99 : UInt8) == b) && _) = false
    rw [h2, Bool.false_and]
  rw [e1, Bool.or_false]
  simp [h]
theorem row_no10 : ∀ ts : List Bs, (∀ t ∈ ts, wordOK t) → ∀ b ∈ joinRow ts, b ≠ 10 := by
  have one : ∀ t : Bs, wordOK t → ∀ b ∈ t, b ≠ 10 := by
    intro t ht b hb e
    have := List.all_eq_true.1 ht.2 b hb
    rw [e] at this
    exact absurd this (by decide)
  intro ts h b hb
  cases ts with
  | nil => simp [joinRow] at hb
  | cons t ts =>
    unfold joinRow at hb
    rcases List.mem_append.1 hb with hb | hb
    · exact one t (h t (by simp)) b hb
    · obtain ⟨u, hu, hbu⟩ := List.mem_flatMap.1 hb
      rcases List.mem_cons.1 hbu with rfl | hbu
      · decide
      · exact one u (h u (by simp [hu])) b hbu
theorem tw_append : ∀ (l r : Bs), (∀ b ∈ l, b ≠ 10) → tw (l ++ 10 :: r) = l
  | [], r, _ => by simp [tw]
  | b :: l, r, h => by
    unfold tw
    have hb := h b (by simp)
    rw [List.cons_append, List.takeWhile_cons, if_pos (by simpa using hb)]
    congr 1
    exact tw_append l r (fun x hx => h x (by simp [hx]))
def lineOK (W : List Bs) : Prop := ∃ b w ts, W = (b :: w) :: ts ∧ b ≠ 99 ∧ ∀ t ∈ W, wordOK t
theorem lines_join : ∀ (L : List (List Bs)) (f : Nat) (k a : Int), (joinAll L).length ≤ f → (∀ W ∈ L, lineOK W) → (linesGo f (joinAll L) k a).map (fun r => r.map Token_Token.Text) = L
  | [], f, k, a, _, _ => by cases f <;> simp [linesGo, joinAll]
  | W :: L, f, k, a, hf, h => by
    obtain ⟨b, w, ts, hW, hb, ht⟩ := h W (by simp)
    have e : joinAll (W :: L) = joinRow W ++ 10 :: joinAll L := by
      rw [← List.singleton_append, joinAll_app, joinAll_one, List.append_assoc]; rfl
    rw [e] at hf ⊢
    rw [List.length_append, List.length_cons] at hf
    cases f with
    | zero => omega
    | succ f =>
      have htw := tw_append (joinRow W) (joinAll L) (row_no10 W ht)
      have hne : joinRow W ++ 10 :: joinAll L ≠ [] := by simp
      have hx : linesGo (f + 1) (joinRow W ++ 10 :: joinAll L) k a = rowOf (joinRow W) k a :: linesGo f (joinAll L) (k + 1) (a + (joinRow W).length + 1) := by
        have : ∀ l : Bs, l ≠ [] → linesGo (f + 1) l k a = rowOf (tw l) k a :: linesGo f (l.drop ((tw l).length + 1)) (k + 1) (a + (tw l).length + 1) := by
          intro l hl
          cases l with
          | nil => exact absurd rfl hl
          | cons _ _ => rfl
        rw [this _ hne, htw]
        congr 2
        simp [List.drop_append]
      rw [hx, List.map_cons, lines_join L f _ _ (by omega) (fun V hV => h V (by simp [hV]))]
      congr 1
      have hr : remark (joinRow W) = false := by
        rw [hW]
        exact remark_no hb
      unfold rowOf
      rw [if_neg (by rw [hr]; simp), List.map_map]
      rw [hW] at ht ⊢
      exact wgo_row _ _ _ ht
/-! numbers of words -/
theorem numOf_itoa {n lo hi : Int} (h : lo ≤ n ∧ n ≤ hi) : numOf (Lib.itoa n) lo hi = (n, 0) := by
  obtain ⟨h1, h2⟩ := itoa_num n
  unfold numOf
  rw [if_pos h1, h2, if_pos h]
theorem itoa_word (n : Int) : wordOK (Lib.itoa n) := by
  have dig : ∀ u : Nat, Lib.decDigits u ≠ [] ∧ (Lib.decDigits u).all inB = true := by
    intro u
    obtain ⟨_, h1, h2, _⟩ := dd_props u
    refine ⟨h1, List.all_eq_true.2 fun b hb => ?_⟩
    have := (digB_iff b).1 (List.all_eq_true.1 h2 b hb)
    rw [isin]
    unfold ref05_gap
    have e1 : ((b.toNat : Int) == 32) = false := by simp; omega
    have e2 : ((b.toNat : Int) == 9) = false := by simp; omega
    have e3 : ((b.toNat : Int) == 13) = false := by simp; omega
    have e4 : ((b.toNat : Int) == 10) = false := by simp; omega
    rw [e1, e2, e3, e4]; rfl
  by_cases hn : n < 0
  · obtain ⟨u, rfl⟩ : ∃ u : Nat, n = -(u : Int) := ⟨n.natAbs, by omega⟩
    rw [Lib.itoa_neg u (by omega)]
    exact ⟨by simp, by rw [List.all_cons, (dig u).2]; decide⟩
  · obtain ⟨u, rfl⟩ : ∃ u : Nat, n = (u : Int) := ⟨n.toNat, by omega⟩
    rw [Lib.itoa_nonneg]
    exact dig u
end Go.Proofs.YtkgcdoeldilhaaaDoor
