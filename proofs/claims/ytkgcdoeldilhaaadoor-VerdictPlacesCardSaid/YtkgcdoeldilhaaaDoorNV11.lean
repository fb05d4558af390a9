/- Proofs as text: both readings are one, and back. Plain. -/
import Derived.Test.YtkgcdoeldilhaaaDoorNV10
set_option linter.all false
namespace Go.Proofs.YtkgcdoeldilhaaaDoor
open Go Go.Sv Go.Pu
def litsB (c : List Int) : Bs := c.flatMap fun l => Lib.itoa l ++ [32]
abbrev flat (s : Bs) (k a : Int) : List Token_Token := (linesL s k a).flatten
theorem numOf_in {t : Bs} {lo hi : Int} (h : (numOf t lo hi).2 = 0) : lo ≤ (numOf t lo hi).1 ∧ (numOf t lo hi).1 ≤ hi := by
  unfold numOf at *
  split at h
  · split at h
    · rename_i h1 h2; rw [if_pos h1, if_pos h2]; exact h2
    · simp at h
  · simp at h
def textC (c : List Int) : List Bs := c.map Lib.itoa ++ [[48]]
theorem row_lits : ∀ c : List Int, joinRow (textC c) = litsB c ++ [48]
  | [] => rfl
  | l :: c => by
    have ih := row_lits c
    unfold textC litsB at *
    cases c with
    | nil => simp [joinRow]
    | cons m c =>
      simp only [List.map_cons, List.cons_append, joinRow, List.flatMap_cons, List.append_assoc] at ih ⊢
      rw [ih]; simp
theorem itoa_head (n : Int) : ∃ b w, Lib.itoa n = b :: w ∧ b ≠ 99 := by
  by_cases hn : n < 0
  · obtain ⟨u, rfl⟩ : ∃ u : Nat, n = -(u : Int) := ⟨n.natAbs, by omega⟩
    rw [Lib.itoa_neg u (by omega)]
    exact ⟨_, _, rfl, by decide⟩
  · obtain ⟨u, rfl⟩ : ∃ u : Nat, n = (u : Int) := ⟨n.toNat, by omega⟩
    rw [Lib.itoa_nonneg]
    obtain ⟨_, h1, h2, _⟩ := dd_props u
    cases hd : Lib.decDigits u with
    | nil => exact absurd hd h1
    | cons b w =>
      refine ⟨b, w, rfl, fun e => ?_⟩
      rw [hd, List.all_cons, Bool.and_eq_true] at h2
      have := (digB_iff b).1 h2.1
      rw [e] at this
      simp at this
theorem word48 : wordOK [48] := ⟨by simp, by decide⟩
theorem zero_itoa : Lib.itoa 0 = [48] := by have := itoa_d 0 (by decide); simpa using this
theorem litsE_iff (vars : Int) (hv : 0 ≤ vars ∧ vars ≤ 100000) : ∀ c : List Int, litsE vars c = 0 ↔ ∀ l ∈ c, l ≠ 0 ∧ -vars ≤ l ∧ l ≤ vars
  | [] => by simp [litsE]
  | l :: c => by
    have ih := litsE_iff vars hv c
    have e : litE l vars = 0 ↔ l ≠ 0 ∧ -vars ≤ l ∧ l ≤ vars := by unfold litE; rw [if_neg (by omega)]; split <;> simp <;> omega
    unfold litsE
    by_cases h : litE l vars = 0
    · rw [if_neg (by simp [h])]; rw [ih]; simp [e.1 h]
    · rw [if_pos h]; constructor
      · intro h'; exact absurd h' h
      · intro h'; exact absurd (e.2 (h' l (by simp))) h
theorem clauseE_iff (c : List Int) (vars : Int) (hv : 0 ≤ vars ∧ vars ≤ 100000) : clauseE c vars = 0 ↔ c.length ≤ 1000 ∧ (∀ l ∈ c, l ≠ 0 ∧ -vars ≤ l ∧ l ≤ vars) ∧ c.Nodup := by
  unfold clauseE
  rw [if_neg (by omega)]
  by_cases h1 : c.length > 1000
  · rw [if_pos h1]; constructor
    · intro h; simp at h
    · intro h; omega
  · rw [if_neg h1]
    have hl := litsE_iff vars hv c
    by_cases h2 : litsE vars c = 0
    · rw [if_neg (by simp [h2])]
      by_cases h3 : c.Nodup
      · rw [if_pos h3]; simp [h3, hl.1 h2]; exact ⟨by omega, hl.1 h2⟩
      · rw [if_neg h3]; simp [h3]
    · rw [if_pos h2]; constructor
      · intro h; exact absurd h h2
      · intro h; exact absurd (hl.2 h.2.1) h2
theorem flat_nil (k a : Int) : flat [] k a = [] := rfl
theorem flat_cons {l : Bs} (h : l ≠ []) (k a : Int) : flat l k a = rowOf (tw l) k a ++ flat (l.drop ((tw l).length + 1)) (k + 1) (a + (tw l).length + 1) := by
  unfold flat; rw [linesL_cons h, List.flatten_cons]
theorem wgo_in_range : ∀ (l : Bs) (i : Int) (cur : Bs), ∀ q ∈ wgo l i cur, i - cur.length ≤ q.1 ∧ q.1 + q.2.length ≤ i + l.length
  | [], i, cur, q, hq => by
    unfold wgo at hq; split at hq
    · simp at hq
    · simp at hq; subst hq; simp
  | b :: r, i, cur, q, hq => by
    unfold wgo at hq
    split at hq
    · split at hq
      · have := wgo_in_range r (i + 1) [] q hq; simp at this ⊢; omega
      · rcases List.mem_cons.1 hq with rfl | hq
        · simp; omega
        · have := wgo_in_range r (i + 1) [] q hq; simp at this ⊢; omega
    · have := wgo_in_range r (i + 1) (cur ++ [b]) q hq; simp at this ⊢; omega
theorem row_range {l : Bs} {k a : Int} {t : Token_Token} (h : t ∈ rowOf l k a) : a ≤ t.At ∧ t.At + t.Text.length ≤ a + l.length := by
  unfold rowOf at h
  split at h
  · simp at h
  · obtain ⟨q, hq, rfl⟩ := List.mem_map.1 h
    have := wgo_in_range l a [] q hq
    simpa using this
theorem flat_ge : ∀ (n : Nat) (l : Bs), l.length = n → ∀ (k a : Int), ∀ t ∈ flat l k a, a ≤ t.At := by
  intro n
  induction n using Nat.strongRecOn with
  | _ n ih =>
    intro l hl k a t ht
    by_cases h : l = []
    · subst h; simp [flat_nil] at ht
    · rw [flat_cons h] at ht
      rcases List.mem_append.1 ht with ht | ht
      · exact (row_range ht).1
      · have hp : 0 < l.length := List.length_pos_iff.2 h
        have := ih _ (by rw [List.length_drop]; omega) (l.drop ((tw l).length + 1)) rfl _ _ t ht
        omega
theorem tw_no : ∀ {p : Bs} (y : Bs), (∀ b ∈ p, b ≠ 10) → tw (p ++ y) = p ++ tw y
  | [], y, _ => rfl
  | b :: p, y, h => by
    have hb : (b != 10) = true := by simpa using h b (by simp)
    have := tw_no (p := p) y (fun c hc => h c (by simp [hc]))
    unfold tw at *
    rw [List.cons_append, List.takeWhile_cons, hb]
    simp only [if_true]
    rw [this]; rfl
theorem tw_ten : ∀ {l : Bs} (r : Bs), (∀ b ∈ l, b ≠ 10) → tw (l ++ 10 :: r) = l := fun {l} r h => by rw [tw_no _ h]; simp [tw]
theorem wgo_count : ∀ (l : Bs) (i : Int) (cur : Bs), (wgo l i cur).length ≤ l.length + min 1 cur.length
  | [], i, cur => by
    cases cur with
    | nil => simp [wgo]
    | cons b c => rw [wgo_nil _ (by simp)]; simp
  | b :: r, i, cur => by
    by_cases hb : gapB b = true
    · by_cases hc : cur = []
      · subst hc; rw [wgo_gap0 hb]; have := wgo_count r (i + 1) []; simp at this ⊢; omega
      · rw [wgo_gap hb hc]; have := wgo_count r (i + 1) []; simp at this ⊢; omega
    · have hb : gapB b = false := by simpa using hb
      rw [wgo_in hb]; have := wgo_count r (i + 1) (cur ++ [b]); simp at this ⊢; omega
theorem flat_len : ∀ (n : Nat) (l : Bs), l.length = n → ∀ (k a : Int), (flat l k a).length ≤ l.length := by
  intro n
  induction n using Nat.strongRecOn with
  | _ n ih =>
    intro l hl k a
    by_cases h : l = []
    · subst h; simp [flat_nil]
    · rw [flat_cons h, List.length_append]
      have hp : 0 < l.length := List.length_pos_iff.2 h
      have h1 : (rowOf (tw l) k a).length ≤ (tw l).length := by
        unfold rowOf
        split
        · simp
        · have := wgo_count (tw l) a []; simpa using this
      have h2 := ih _ (by rw [List.length_drop]; omega) (l.drop ((tw l).length + 1)) rfl (k + 1) (a + (tw l).length + 1)
      have h3 := tw_le l
      rw [List.length_drop] at h2
      by_cases h4 : (tw l).length < l.length
      · omega
      · have : l.drop ((tw l).length + 1) = [] := List.drop_eq_nil_of_le (by omega)
        rw [this] at h2 ⊢
        simp [flat_nil]; omega
theorem flat_good (s : Bs) : (∀ t ∈ flat s 1 0, ∃ k, Good s k t) ∧ (flat s 1 0).Pairwise (fun t u => tend t ≤ u.At) := by
  obtain ⟨h1, _, h3⟩ := lines_good (s := s) s.length 0 1 (Int.le_refl _) (by omega) (fun _ => by simp [cnl])
  have e : s.drop (0 : Int).toNat = s := rfl
  rw [e] at h1 h3
  refine ⟨fun t ht => ?_, h3⟩
  obtain ⟨r, hr, htr⟩ := List.mem_flatten.1 ht
  obtain ⟨i, hi⟩ := List.getElem?_of_mem hr
  exact ⟨_, h1 i r hi t htr⟩
theorem gi_toRef {T : List Token_Token} {i : Int} (h0 : 0 ≤ i) (h : i < T.length) : (gi (T.map toRef) i).At = (gi T i).At ∧ (gi (T.map toRef) i).Text = (gi T i).Text := by
  rw [gi_map toRef h0 h]; exact ⟨rfl, rfl⟩
theorem flatten_step {α : Type} [Inhabited α] {l : List (List α)} {i : Int} (h0 : 0 ≤ i) (h : i < l.length) : (l.take (i + 1).toNat).flatten = (l.take i.toNat).flatten ++ gi l i := by
  rw [take_gi h0 h, List.flatten_append]; simp
theorem flatten_le {α : Type} (l : List (List α)) (k : Nat) : (l.take k).flatten.length ≤ l.flatten.length := by
  have : l.flatten = (l.take k).flatten ++ (l.drop k).flatten := by rw [← List.flatten_append, List.take_append_drop]
  rw [this, List.length_append]; omega
/-! the two readings of a step -/
theorem addR_ne (out : List Int) (tw : Bool) (n : Int) : addR out tw n = 0 ∨ addR out tw n = 3 ∨ addR out tw n = 21 := by
  unfold addR; repeat' split
  all_goals simp
theorem row_rel (lo hi : Int) (tw : Bool) : ∀ (T : List Token_Token) (a k : Int) (out : List Int),
    ((rrGo lo hi tw T a k out).E ≠ 0 → (rowGo lo hi tw T a out).2.e = (rrGo lo hi tw T a k out).E ∧ (rowGo lo hi tw T a out).2.at_ = (rrGo lo hi tw T a k out).At) ∧
    ((rrGo lo hi tw T a k out).E = 0 → (rowGo lo hi tw T a out).2.e = 0 ∧ (rowGo lo hi tw T a out).1 = (rrGo lo hi tw T a k out).L ∧ ∃ j : Nat, 1 ≤ j ∧ j ≤ T.length ∧ (rrGo lo hi tw T a k out).Taken = k + j ∧ (rowGo lo hi tw T a out).2.rest = T.drop j ∧ (rowGo lo hi tw T a out).2.at_ = (gi T ((j : Int) - 1)).At + ((gi T ((j : Int) - 1)).Text.length : Int))
  | [], a, k, out => by unfold rrGo rowGo; simp
  | t :: T, a, k, out => by
    have s1 : rrGo lo hi tw (t :: T) a k out = if (numOf t.Text lo hi).2 ≠ 0 then ⟨[], 0, t.At, (numOf t.Text lo hi).2⟩ else if (numOf t.Text lo hi).1 = 0 then ⟨out, k + 1, 0, 0⟩ else if addR out tw (numOf t.Text lo hi).1 ≠ 0 then ⟨[], 0, t.At, addR out tw (numOf t.Text lo hi).1⟩ else rrGo lo hi tw T (t.At + t.Text.length) (k + 1) (out ++ [(numOf t.Text lo hi).1]) := rfl
    have s2 : rowGo lo hi tw (t :: T) a out = if (numOf t.Text lo hi).2 ≠ 0 then (out, ⟨T, t.At, (numOf t.Text lo hi).2⟩) else if (numOf t.Text lo hi).1 = 0 then (out, ⟨T, t.At + t.Text.length, 0⟩) else if addR out tw (numOf t.Text lo hi).1 ≠ 0 then (out ++ [(numOf t.Text lo hi).1], ⟨T, t.At, addR out tw (numOf t.Text lo hi).1⟩) else rowGo lo hi tw T (t.At + t.Text.length) (out ++ [(numOf t.Text lo hi).1]) := rfl
    rw [s1, s2]
    by_cases h1 : (numOf t.Text lo hi).2 ≠ 0
    · rw [if_pos h1, if_pos h1]; exact ⟨fun _ => ⟨rfl, rfl⟩, fun h => absurd h h1⟩
    · rw [if_neg h1, if_neg h1]
      by_cases h2 : (numOf t.Text lo hi).1 = 0
      · rw [if_pos h2, if_pos h2]
        exact ⟨fun h => absurd rfl h, fun _ => ⟨rfl, rfl, 1, by omega, by simp, by simp, by simp, by simp [gi]⟩⟩
      · rw [if_neg h2, if_neg h2]
        by_cases h3 : addR out tw (numOf t.Text lo hi).1 ≠ 0
        · rw [if_pos h3, if_pos h3]; exact ⟨fun _ => ⟨rfl, rfl⟩, fun h => absurd h h3⟩
        · rw [if_neg h3, if_neg h3]
          obtain ⟨i1, i2⟩ := row_rel lo hi tw T (t.At + t.Text.length) (k + 1) (out ++ [(numOf t.Text lo hi).1])
          refine ⟨i1, fun h => ?_⟩
          obtain ⟨a1, a2, j, a3, a4, a5, a6, a7⟩ := i2 h
          refine ⟨a1, a2, j + 1, by omega, by simp; omega, by rw [a5]; push_cast; omega, by rw [a6]; rfl, ?_⟩
          rw [a7]
          have : gi (t :: T) (((j + 1 : Nat) : Int) - 1) = gi T ((j : Int) - 1) := by
            obtain ⟨m, rfl⟩ : ∃ m, j = m + 1 := ⟨j - 1, by omega⟩
            simp [gi]
          rw [this]
theorem from_to (t : Token_Token) : fromR (toRef t) = t := rfl
theorem map_from (T : List Token_Token) : (T.map toRef).map fromR = T := by
  rw [List.map_map]
  have : fromR ∘ toRef = id := rfl
  rw [this, List.map_id]
theorem drop_from (T : List Token_Token) (k : Nat) : ((T.map toRef).drop k).map fromR = T.drop k := by
  rw [List.map_drop, map_from]
theorem at_toRef (L : List Token_Token) {i : Int} (h0 : 0 ≤ i) (h : i < L.length) : (gi (L.map toRef) i).At = (gi L i).At := (gi_toRef h0 h).1
theorem end_toRef (L : List Token_Token) {i : Int} (h0 : 0 ≤ i) (h : i < L.length) : ref10_behind (gi (L.map toRef) i) = (gi L i).At + ((gi L i).Text.length : Int) := by
  unfold ref10_behind; rw [(gi_toRef h0 h).1, (gi_toRef h0 h).2]
theorem endS_bad {r : Ln} (h : r.e ≠ 0) : endS r = r := by
  unfold endS; split
  · rfl
  · unfold proof_line_wrong; rw [if_neg h]
theorem endS_ok {r : Ln} (h : r.e = 0) {z : Token_Token} {V : List Token_Token} (hz : r.rest = z :: V) : endS r = ⟨r.rest, z.At, 6⟩ := by
  unfold endS; rw [hz]; simp only; unfold proof_line_wrong; rw [if_pos h, hz]
theorem endS_nil {r : Ln} (hz : r.rest = []) : endS r = r := by unfold endS; rw [hz]
theorem step_eq (t : List Token_Token) (ht : t ≠ []) : (stepOf t).2.e = (ref10_step (t.map toRef)).2.2 ∧ ((stepOf t).2.e ≠ 0 → (stepOf t).2.at_ = (ref10_step (t.map toRef)).2.1) ∧ ((stepOf t).2.e = 0 → (stepOf t).1 = (ref10_step (t.map toRef)).1) := by
  obtain ⟨x, T, rfl⟩ : ∃ x T, t = x :: T := by cases t with | nil => exact absurd rfl ht | cons x T => exact ⟨x, T, rfl⟩
  unfold stepOf proof_line_step ref10_step
  have hg0 : gi ((x :: T).map toRef) 0 = toRef x := rfl
  have hn : proof_line_number 0 10000000 ⟨x :: T, 0, 0⟩ = if (numOf x.Text 0 10000000).2 ≠ 0 then (0, 0, false, ⟨T, x.At, (numOf x.Text 0 10000000).2⟩) else ((numOf x.Text 0 10000000).1, x.At, true, ⟨T, x.At + x.Text.length, 0⟩) := by simp [proof_line_number]
  rw [hn, hg0]
  have hx0 : gi (x :: T) 0 = x := rfl
  simp only [hx0]
  show _ = (if (numOf x.Text 0 10000000).2 ≠ 0 then _ else _ : Api_Step × Int × Int).2.2 ∧ _
  by_cases h1 : (numOf x.Text 0 10000000).2 ≠ 0
  · -- the id is none
    have e1 : ∀ lo hi tw a T, proof_line_row lo hi tw ⟨T, a, (numOf x.Text 0 10000000).2⟩ = ([], ⟨T, a, (numOf x.Text 0 10000000).2⟩) := fun _ _ _ _ _ => by simp [proof_line_row, h1]
    have e2 : ∀ a e T a', proof_line_wrong a e ⟨T, a', (numOf x.Text 0 10000000).2⟩ = ⟨T, a', (numOf x.Text 0 10000000).2⟩ := fun _ _ _ _ => by simp [proof_line_wrong, h1]
    have e3 : ∀ T a', endS ⟨T, a', (numOf x.Text 0 10000000).2⟩ = ⟨T, a', (numOf x.Text 0 10000000).2⟩ := fun T a' => by cases T <;> simp [endS, e2]
    rw [if_pos h1]
    have : toRef x = ⟨x.Line, x.At, x.Text⟩ := rfl
    rw [this]
    simp only [if_pos h1]
    unfold stepB
    rw [if_neg (by simp [h1])]
    simp only [e1, e2]
    split <;> simp [e3]
    all_goals exact fun h => absurd h h1
  · rw [if_neg h1]
    have hnm : (toRef x).Text = x.Text := rfl
    rw [hnm, if_neg h1]
    simp only
    generalize hid : (numOf x.Text 0 10000000).1 = id
    by_cases hd : T.head?.map Token_Token.Text = some wD
    · -- a deletion
      obtain ⟨y, U, rfl⟩ : ∃ y U, T = y :: U := by cases T with | nil => simp at hd | cons y U => exact ⟨y, U, rfl⟩
      have hy : y.Text = wD := by simpa using hd
      unfold stepB
      rw [if_pos ⟨rfl, hd⟩]
      have hg1 : gi ((x :: y :: U).map toRef) 1 = toRef y := rfl
      rw [if_pos ⟨by simp, by rw [hg1]; exact hy⟩]
      simp only [List.tail_cons]
      have hgy : gi (y :: U) 0 = y := rfl
      rw [hgy]
      have hb : ref10_behind (gi ((x :: y :: U).map toRef) 1) = y.At + 1 := by rw [hg1]; unfold ref10_behind toRef; simp [hy, wD]
      have hrow : ref10_row ((x :: y :: U).map toRef) 2 (ref10_behind (gi ((x :: y :: U).map toRef) 1)) 0 10000000 false = rrGo 0 10000000 false U (y.At + 1) 0 [] := by
        unfold ref10_row; rw [hb]; congr 1; exact drop_from (x :: y :: U) 2
      rw [hrow]
      have hlr : proof_line_row 0 10000000 false ⟨U, y.At + 1, 0⟩ = rowGo 0 10000000 false U (y.At + 1) [] := by simp [proof_line_row]
      rw [hlr]
      obtain ⟨r1, r2⟩ := row_rel 0 10000000 false U (y.At + 1) 0 []
      generalize rrGo 0 10000000 false U (y.At + 1) 0 [] = w at *
      generalize rowGo 0 10000000 false U (y.At + 1) [] = q at *
      by_cases hE : w.E ≠ 0
      · obtain ⟨a1, a2⟩ := r1 hE
        rw [if_pos hE]
        have : endS q.2 = q.2 := by
          unfold endS; split
          · rfl
          · unfold proof_line_wrong; rw [if_neg (by rw [a1]; exact hE)]
        rw [this]
        exact ⟨a1, fun _ => a2, fun h => absurd (a1 ▸ h) hE⟩
      · rw [if_neg hE]
        obtain ⟨a1, a2, j, b1, b2, b3, b4, b5⟩ := r2 (by simpa using hE)
        have hlen : (2 + w.Taken < (((x :: y :: U).map toRef).length : Int)) ↔ j < U.length := by rw [b3]; simp; omega
        by_cases hj : j < U.length
        · rw [if_pos (hlen.2 hj)]
          obtain ⟨z, V, hz⟩ : ∃ z V, U.drop j = z :: V := by
            cases hd : U.drop j with
            | nil => have := congrArg List.length hd; simp at this; omega
            | cons z V => exact ⟨z, V, rfl⟩
          have he : endS q.2 = ⟨q.2.rest, z.At, 6⟩ := by
            unfold endS; rw [b4, hz]; simp only; unfold proof_line_wrong; rw [if_pos a1, b4, hz]
          rw [he]
          refine ⟨rfl, fun _ => ?_, fun h => by simp at h⟩
          have hz2 : U[j]? = some z := by
            have := congrArg List.head? hz
            rwa [List.head?_drop] at this
          show z.At = (gi ((x :: y :: U).map toRef) (2 + w.Taken)).At
          rw [b3]
          rw [at_toRef (x :: y :: U) (by omega) (by simp; omega)]
          have : (2 + (0 + (j : Int))).toNat = j + 2 := by omega
          unfold gi; rw [this]; simp [hz2]
        · rw [if_neg (fun h => hj (hlen.1 h))]
          have he : endS q.2 = q.2 := by
            unfold endS; rw [b4, List.drop_eq_nil_of_le (by omega)]
          rw [he]
          refine ⟨a1, fun h => absurd a1 h, fun _ => ?_⟩
          simp [a2]
    · -- an addition
      unfold stepB
      rw [if_neg (fun h => hd h.2)]
      have hnd : ¬ (((x :: T).map toRef).length > 1 ∧ (gi ((x :: T).map toRef) 1).Text = wD) := by
        rintro ⟨a, b⟩
        cases T with
        | nil => simp at a
        | cons y U => exact hd (by have : y.Text = wD := b
                                   simp [this])
      rw [if_neg hnd]
      have hr1 : ref10_row ((x :: T).map toRef) 1 (ref10_behind (toRef x)) (-100000) 100000 true = rrGo (-100000) 100000 true T (x.At + x.Text.length) 0 [] := by
        unfold ref10_row; congr 1; exact drop_from (x :: T) 1
      have hl1 : proof_line_row (-100000) 100000 true ⟨T, x.At + x.Text.length, 0⟩ = rowGo (-100000) 100000 true T (x.At + x.Text.length) [] := by simp [proof_line_row]
      rw [hr1, hl1]
      obtain ⟨p1, p2⟩ := row_rel (-100000) 100000 true T (x.At + x.Text.length) 0 []
      generalize rrGo (-100000) 100000 true T (x.At + x.Text.length) 0 [] = w1 at *
      generalize rowGo (-100000) 100000 true T (x.At + x.Text.length) [] = q1 at *
      unfold ref10_step.addStep
      by_cases hE1 : w1.E ≠ 0
      · obtain ⟨a1, a2⟩ := p1 hE1
        have e1 : q1.2.e ≠ 0 := by rw [a1]; exact hE1
        rw [if_pos hE1]
        have e2 : proof_line_row (-10000000) 10000000 false q1.2 = ([], q1.2) := by unfold proof_line_row; rw [if_pos e1]
        have e3 : proof_line_wrong x.At 7 q1.2 = q1.2 := by unfold proof_line_wrong; rw [if_neg e1]
        simp only [e2, e3]
        have e4 : (if id = 0 then q1.2 else q1.2) = q1.2 := by split <;> rfl
        rw [e4, endS_bad e1]
        exact ⟨a1, fun _ => a2, fun h => absurd h e1⟩
      · rw [if_neg hE1]
        obtain ⟨a1, a2, j, b1, b2, b3, b4, b5⟩ := p2 (by simpa using hE1)
        have hr2 : ref10_row ((x :: T).map toRef) (1 + w1.Taken) (ref10_behind (gi ((x :: T).map toRef) (1 + w1.Taken - 1))) (-10000000) 10000000 false = rrGo (-10000000) 10000000 false q1.2.rest q1.2.at_ 0 [] := by
          unfold ref10_row
          rw [b3, end_toRef (x :: T) (by omega) (by simp; omega), drop_from, b4, b5]
          have k1 : (1 + (0 + (j : Int))).toNat = j + 1 := by omega
          have k2 : gi (x :: T) (1 + (0 + (j : Int)) - 1) = gi T ((j : Int) - 1) := by
            obtain ⟨m, rfl⟩ : ∃ m, j = m + 1 := ⟨j - 1, by omega⟩
            have u1 : (1 + (0 + ((m + 1 : Nat) : Int)) - 1).toNat = m + 1 := by omega
            have u2 : (((m + 1 : Nat) : Int) - 1).toNat = m := by omega
            simp only [gi, u1, u2, List.getD_cons_succ]
          rw [k1, k2]; rfl
        have hl2 : proof_line_row (-10000000) 10000000 false q1.2 = rowGo (-10000000) 10000000 false q1.2.rest q1.2.at_ [] := by unfold proof_line_row; rw [if_neg (by simp [a1])]
        rw [hr2, hl2]
        obtain ⟨r1, r2⟩ := row_rel (-10000000) 10000000 false q1.2.rest q1.2.at_ 0 []
        generalize rrGo (-10000000) 10000000 false q1.2.rest q1.2.at_ 0 [] = w2 at *
        generalize rowGo (-10000000) 10000000 false q1.2.rest q1.2.at_ [] = q2 at *
        unfold ref10_step.addStep2
        by_cases hE2 : w2.E ≠ 0
        · obtain ⟨c1, c2⟩ := r1 hE2
          have e1 : q2.2.e ≠ 0 := by rw [c1]; exact hE2
          rw [if_pos hE2]
          have e3 : proof_line_wrong x.At 7 q2.2 = q2.2 := by unfold proof_line_wrong; rw [if_neg e1]
          have e4 : (if id = 0 then q2.2 else q2.2) = q2.2 := by split <;> rfl
          rw [e3, e4, endS_bad e1]
          exact ⟨c1, fun _ => c2, fun h => absurd h e1⟩
        · rw [if_neg hE2]
          obtain ⟨c1, c2, i, d1, d2, d3, d4, d5⟩ := r2 (by simpa using hE2)
          by_cases hi : id = 0
          · rw [if_pos hi, if_pos hi]
            have e3 : proof_line_wrong x.At 7 q2.2 = ⟨q2.2.rest, x.At, 7⟩ := by unfold proof_line_wrong; rw [if_pos c1]
            rw [e3, endS_bad (by simp)]
            refine ⟨rfl, fun _ => rfl, fun h => by simp at h⟩
          · rw [if_neg hi, if_neg hi]
            have hrest : q2.2.rest = T.drop (j + i) := by rw [d4, b4, List.drop_drop]
            have hij : j + i ≤ T.length := by rw [b4] at d2; simp at d2; omega
            have hlen : (1 + w1.Taken + w2.Taken < (((x :: T).map toRef).length : Int)) ↔ j + i < T.length := by rw [b3, d3]; simp; omega
            by_cases hj : j + i < T.length
            · rw [if_pos (hlen.2 hj)]
              obtain ⟨z, V, hz⟩ : ∃ z V, T.drop (j + i) = z :: V := by
                cases hd : T.drop (j + i) with
                | nil => have := congrArg List.length hd; simp at this; omega
                | cons z V => exact ⟨z, V, rfl⟩
              rw [endS_ok c1 (hrest.trans hz)]
              refine ⟨rfl, fun _ => ?_, fun h => by simp at h⟩
              have hz2 : T[j + i]? = some z := by
                have := congrArg List.head? hz
                rwa [List.head?_drop] at this
              show z.At = (gi ((x :: T).map toRef) (1 + w1.Taken + w2.Taken)).At
              rw [b3, d3, at_toRef (x :: T) (by omega) (by simp; omega)]
              have : (1 + (0 + (j : Int)) + (0 + (i : Int))).toNat = (j + i) + 1 := by omega
              unfold gi; rw [this]; simp [hz2]
            · rw [if_neg (fun h => hj (hlen.1 h)), endS_nil (by rw [hrest, List.drop_eq_nil_of_le (by omega)])]
              refine ⟨c1, fun h => absurd c1 h, fun _ => ?_⟩
              simp [a2, c2]
/-! a proof comes back of its text -/
def wordsS (s : Api_Step) : List Bs := Lib.itoa s.Id :: (if s.Kind = 2 then [wD] else textC s.Lits) ++ textC s.Hints
theorem joinRow_two : ∀ (A B : List Bs), A ≠ [] → B ≠ [] → joinRow (A ++ B) = joinRow A ++ 32 :: joinRow B
  | [], B, h, _ => absurd rfl h
  | a :: A, [], _, h => absurd rfl h
  | a :: A, b :: B, _, _ => by simp [joinRow]
theorem textC_ne (c : List Int) : textC c ≠ [] := by simp [textC]
theorem nums_row (c : List Int) : joinRow (textC c) = numsB c := row_lits c
theorem step_row (s : Api_Step) : joinRow (wordsS s) ++ [10] = stepT s := by
  unfold wordsS stepT
  by_cases h : s.Kind = 2
  · rw [if_pos h, if_pos h, joinRow_two _ _ (by simp) (textC_ne _), nums_row]
    simp [joinRow, wD]
  · rw [if_neg h, if_neg h, joinRow_two _ _ (by simp) (textC_ne _), nums_row]
    have : joinRow (Lib.itoa s.Id :: textC s.Lits) = Lib.itoa s.Id ++ 32 :: numsB s.Lits := by
      rw [show Lib.itoa s.Id :: textC s.Lits = [Lib.itoa s.Id] ++ textC s.Lits from rfl, joinRow_two _ _ (by simp) (textC_ne _), nums_row]
      simp [joinRow]
    rw [this]; simp
theorem proof_join (l : List Api_Step) : joinAll (l.map wordsS) = proofT l := by
  unfold joinAll proofT
  rw [List.flatMap_map]
  congr 1
  funext s
  show joinRow (wordsS s) ++ [10] = _
  exact step_row s
theorem textC_words (c : List Int) : ∀ t ∈ textC c, wordOK t := by
  intro t ht
  unfold textC at ht
  rcases List.mem_append.1 ht with ht | ht
  · obtain ⟨l, _, rfl⟩ := List.mem_map.1 ht; exact itoa_word l
  · simp at ht; subst ht; exact word48
theorem step_line (s : Api_Step) : lineOK (wordsS s) := by
  obtain ⟨b, w, hb, hn⟩ := itoa_head s.Id
  refine ⟨b, w, (if s.Kind = 2 then [wD] else textC s.Lits) ++ textC s.Hints, by unfold wordsS; rw [hb]; rfl, hn, fun t ht => ?_⟩
  unfold wordsS at ht
  rcases List.mem_append.1 ht with ht | ht
  · rcases List.mem_cons.1 ht with rfl | ht
    · exact itoa_word _
    · split at ht
      · simp at ht; subst ht; exact ⟨by simp [wD], by decide⟩
      · exact textC_words _ t ht
  · exact textC_words _ t ht
def rowOK (lo hi : Int) (tw : Bool) (l : List Int) : Prop := l.length ≤ 1000 ∧ (∀ n ∈ l, n ≠ 0 ∧ lo ≤ n ∧ n ≤ hi) ∧ (tw = true → l.Nodup)
theorem row_words (lo hi : Int) (tw : Bool) (h0 : lo ≤ 0) (h1 : 0 ≤ hi) : ∀ (l acc : List Int) (T R : List Token_Token) (a : Int), T.map Token_Token.Text = textC l → rowOK lo hi tw (acc ++ l) →
    (rowGo lo hi tw (T ++ R) a acc).1 = acc ++ l ∧ (rowGo lo hi tw (T ++ R) a acc).2.rest = R ∧ (rowGo lo hi tw (T ++ R) a acc).2.e = 0
  | [], acc, T, R, a, hT, _ => by
    obtain ⟨t, rfl, ht⟩ : ∃ t, T = [t] ∧ t.Text = [48] := by
      cases T with
      | nil => simp [textC] at hT
      | cons t T => simp [textC] at hT; exact ⟨t, by simp [hT.2], hT.1⟩
    have hn : numOf t.Text lo hi = (0, 0) := by rw [ht, ← zero_itoa]; exact numOf_itoa ⟨h0, h1⟩
    rw [List.singleton_append]
    unfold rowGo
    rw [hn]
    simp
  | n :: l, acc, T, R, a, hT, hok => by
    obtain ⟨t, T', rfl, ht, hT'⟩ : ∃ t T', T = t :: T' ∧ t.Text = Lib.itoa n ∧ T'.map Token_Token.Text = textC l := by
      cases T with
      | nil => simp [textC] at hT
      | cons t T => simp [textC] at hT; exact ⟨t, T, rfl, hT.1, by simp [textC, hT.2]⟩
    obtain ⟨k1, k2, k3⟩ := hok
    have hl := k2 n (by simp)
    have hn : numOf t.Text lo hi = (n, 0) := by rw [ht]; exact numOf_itoa ⟨hl.2.1, hl.2.2⟩
    have ha : addR acc tw n = 0 := by
      unfold addR
      rw [if_neg (by simp at k1; omega), if_neg]
      intro h
      simp at h
      have := k3 h.1
      rw [List.nodup_append] at this
      exact this.2.2 n h.2 n (by simp) rfl
    rw [List.cons_append]
    unfold rowGo
    rw [hn]
    simp only [ne_eq, not_true_eq_false, if_false, if_neg hl.1, ha]
    have := row_words lo hi tw h0 h1 l (acc ++ [n]) T' R (t.At + t.Text.length) hT' ⟨by simpa using k1, by simpa using k2, by simpa using k3⟩
    rw [List.append_assoc] at this
    exact this
theorem within_iff (l : List Int) (lo : Int) : withinB l lo = true ↔ l.length ≤ 1000 ∧ ∀ n ∈ l, n ≠ 0 ∧ lo ≤ n ∧ n ≤ 10000000 := by
  unfold withinB
  rw [Bool.and_eq_true, decide_eq_true_eq, List.all_eq_true]
  constructor
  · rintro ⟨a, b⟩
    refine ⟨a, fun n hn => ?_⟩
    have := b n hn
    unfold inH at this
    simp at this; omega
  · rintro ⟨a, b⟩
    refine ⟨a, fun n hn => ?_⟩
    have := b n hn
    unfold inH
    simp; omega
theorem may_iff (s : Api_Step) : mayS s = true ↔ (s.Kind = 1 ∧ 1 ≤ s.Id ∧ s.Id ≤ 10000000 ∧ rowOK (-100000) 100000 true s.Lits ∧ rowOK (-10000000) 10000000 false s.Hints) ∨ (s.Kind = 2 ∧ 0 ≤ s.Id ∧ s.Id ≤ 10000000 ∧ s.Lits = [] ∧ rowOK 1 10000000 false s.Hints) := by
  unfold mayS
  by_cases h1 : s.Kind = 1
  · rw [if_pos h1]
    simp only [Bool.and_eq_true, decide_eq_true_eq, within_iff, beq_iff_eq, clauseE_iff s.Lits 100000 (by omega)]
    unfold rowOK
    constructor
    · rintro ⟨⟨⟨a, b⟩, c, d, e⟩, f, g⟩
      exact .inl ⟨h1, a, b, ⟨c, d, fun _ => e⟩, f, g, fun h => by simp at h⟩
    · rintro (⟨_, a, b, ⟨c, d, e⟩, f, g, _⟩ | ⟨k, _⟩)
      · exact ⟨⟨⟨a, b⟩, c, d, e rfl⟩, f, g⟩
      · omega
  · rw [if_neg h1]
    by_cases h2 : s.Kind = 2
    · rw [if_pos h2]
      simp only [Bool.and_eq_true, decide_eq_true_eq, within_iff, List.isEmpty_iff]
      unfold rowOK
      constructor
      · rintro ⟨⟨⟨a, b⟩, c⟩, f, g⟩
        exact .inr ⟨h2, a, b, c, f, g, fun h => by simp at h⟩
      · rintro (⟨k, _⟩ | ⟨_, a, b, c, f, g, _⟩)
        · omega
        · exact ⟨⟨⟨a, b⟩, c⟩, f, g⟩
    · rw [if_neg h2]; simp [h1, h2]
theorem row_start (lo hi : Int) (tw : Bool) (r : Ln) (h : r.e = 0) : proof_line_row lo hi tw r = rowGo lo hi tw r.rest r.at_ [] := by
  unfold proof_line_row; rw [if_neg (by simp [h])]
theorem step_words (s : Api_Step) (h : mayS s = true) (t : List Token_Token) (ht : t.map Token_Token.Text = wordsS s) : (stepOf t).1 = s ∧ (stepOf t).2.e = 0 := by
  obtain ⟨x, T, rfl, hx, hT⟩ : ∃ x T, t = x :: T ∧ x.Text = Lib.itoa s.Id ∧ T.map Token_Token.Text = (if s.Kind = 2 then [wD] else textC s.Lits) ++ textC s.Hints := by
    cases t with
    | nil => simp [wordsS] at ht
    | cons x T => simp [wordsS] at ht; exact ⟨x, T, rfl, ht.1, by simpa using ht.2⟩
  have hid : 0 ≤ s.Id ∧ s.Id ≤ 10000000 := by rcases (may_iff s).1 h with h | h <;> omega
  have hn : numOf x.Text 0 10000000 = (s.Id, 0) := by rw [hx]; exact numOf_itoa hid
  unfold stepOf proof_line_step
  have hnum : proof_line_number 0 10000000 ⟨x :: T, 0, 0⟩ = (s.Id, x.At, true, ⟨T, x.At + x.Text.length, 0⟩) := by simp [proof_line_number, hn]
  rw [hnum]
  simp only
  obtain ⟨k, id, lits, hints⟩ := s
  rcases (may_iff _).1 h with ⟨hk, i1, i2, hl, hh⟩ | ⟨hk, i1, i2, hl, hh⟩
  · simp only at hk hT hl hh i1 i2
    subst hk
    rw [if_neg (by decide)] at hT
    unfold stepB
    have hnd : ¬ T.head?.map Token_Token.Text = some wD := by
      intro e
      have e2 : (T.map Token_Token.Text).head? = some wD := by rw [List.head?_map]; exact e
      rw [hT] at e2
      cases lits with
      | nil => simp [textC, wD] at e2
      | cons n ls =>
        have : Lib.itoa n = wD := by simpa [textC] using e2
        have i := (itoa_num n).1
        rw [this] at i
        exact absurd i (by decide)
    rw [if_neg (fun e => hnd e.2), row_start _ _ _ _ rfl]
    have e1 : T = T.take (textC lits).length ++ T.drop (textC lits).length := (List.take_append_drop _ _).symm
    have e2 : (T.take (textC lits).length).map Token_Token.Text = textC lits := by rw [List.map_take, hT, List.take_left]
    have e3 : (T.drop (textC lits).length).map Token_Token.Text = textC hints := by rw [List.map_drop, hT, List.drop_left]
    have p := row_words (-100000) 100000 true (by decide) (by decide) lits [] _ (T.drop (textC lits).length) (x.At + x.Text.length) e2 (by simpa using hl)
    rw [← e1] at p
    simp only [List.nil_append] at p
    generalize rowGo (-100000) 100000 true T (x.At + x.Text.length) [] = q1 at *
    rw [row_start _ _ _ _ p.2.2, p.2.1]
    have q := row_words (-10000000) 10000000 false (by decide) (by decide) hints [] (T.drop (textC lits).length) [] q1.2.at_ e3 (by simpa using hh)
    rw [List.append_nil] at q
    simp only [List.nil_append] at q
    generalize rowGo (-10000000) 10000000 false (T.drop (textC lits).length) q1.2.at_ [] = q2 at *
    simp only [if_neg (show ¬ id = 0 by omega)]
    rw [endS_nil q.2.1, p.1, q.1]
    exact ⟨rfl, q.2.2⟩
  · simp only at hk hT hl hh i1 i2
    subst hk hl
    rw [if_pos rfl] at hT
    obtain ⟨y, U, rfl, hy, hU⟩ : ∃ y U, T = y :: U ∧ y.Text = wD ∧ U.map Token_Token.Text = textC hints := by
      cases T with
      | nil => simp at hT
      | cons y U => simp at hT; exact ⟨y, U, rfl, hT.1, hT.2⟩
    unfold stepB
    rw [if_pos ⟨rfl, by simp [hy]⟩]
    simp only [List.tail_cons]
    rw [row_start _ _ _ _ rfl]
    have q := row_words 0 10000000 false (by decide) (by decide) hints [] U [] ((gi (y :: U) 0).At + 1) hU ⟨by simpa using hh.1, fun n hn => by have := hh.2.1 n (by simpa using hn); omega, fun h => by simp at h⟩
    rw [List.append_nil] at q
    simp only [List.nil_append] at q
    generalize rowGo 0 10000000 false U ((gi (y :: U) 0).At + 1) [] = q2 at *
    rw [endS_nil q.2.1, q.1]
    exact ⟨rfl, q.2.2⟩
theorem badGo_iff : ∀ (l : List Api_Step) (i : Int), 0 ≤ i → ((badGo l i ≥ 0) ↔ ∃ s ∈ l, mayS s = false)
  | [], i, _ => by simp [badGo]
  | s :: l, i, h => by
    have st : badGo (s :: l) i = if mayS s then badGo l (i + 1) else i := rfl
    rw [st]
    by_cases hm : mayS s = true
    · rw [if_pos hm, badGo_iff l (i + 1) (by omega)]; simp [hm]
    · rw [if_neg hm]; simp [hm]; exact h
theorem chk_iff (l : List Api_Step) : (chkS l).2 = 0 ↔ l.length ≤ 1000000 ∧ ∀ s ∈ l, mayS s = true := by
  unfold chkS
  by_cases h : l.length > 1000000
  · rw [if_pos h]; simp; omega
  · rw [if_neg h]
    have := badGo_iff l 0 (by decide)
    by_cases hb : badGo l 0 ≥ 0
    · rw [if_pos hb]
      obtain ⟨s, hs, hm⟩ := this.1 hb
      simp
      intro _
      exact ⟨s, hs, hm⟩
    · rw [if_neg hb]
      simp
      refine ⟨by omega, fun s hs => ?_⟩
      cases hm : mayS s with
      | true => rfl
      | false => exact absurd (this.2 ⟨s, hs, hm⟩) hb
theorem steps_words (e : Int) : ∀ (l acc : List Api_Step) (L : List (List Token_Token)), L.map (fun t => t.map Token_Token.Text) = l.map wordsS → (∀ s ∈ l, mayS s = true) → acc.length + l.length ≤ 1000000 → stepsGo e L acc = (acc ++ l, e, 0)
  | [], acc, L, hL, _, _ => by
    have : L = [] := by simpa using hL
    subst this; simp [stepsGo]
  | s :: l, acc, L, hL, hm, hn => by
    obtain ⟨t, L', rfl, ht, hL'⟩ : ∃ t L', L = t :: L' ∧ t.map Token_Token.Text = wordsS s ∧ L'.map (fun t => t.map Token_Token.Text) = l.map wordsS := by
      cases L with
      | nil => simp at hL
      | cons t L' => simp at hL; exact ⟨t, L', rfl, hL.1, hL.2⟩
    obtain ⟨a, b⟩ := step_words s (hm s (by simp)) t ht
    have hne : t ≠ [] := by intro e; rw [e] at ht; simp [wordsS] at ht
    have st : stepsGo e (t :: L') acc = if t = [] then stepsGo e L' acc else if (acc.length : Int) ≥ 1000000 then ([], (gi t 0).At, 3) else if (stepOf t).2.e ≠ 0 then ([], (stepOf t).2.at_, (stepOf t).2.e) else stepsGo e L' (acc ++ [(stepOf t).1]) := rfl
    rw [st, if_neg hne, if_neg (by simp at hn; omega), if_neg (by simp [b]), a, steps_words e l (acc ++ [s]) L' hL' (fun x hx => hm x (by simp [hx])) (by simp at hn ⊢; omega)]
    simp
theorem parse_proof (l : List Api_Step) (h : (printP l).2 = 0) : proof_Parse (printP l).1 = (l, ((printP l).1.length : Int), 0) := by
  unfold printP at h ⊢
  by_cases h1 : (chkS l).2 ≠ 0
  · rw [if_pos h1] at h; exact absurd h h1
  rw [if_neg h1] at h ⊢
  by_cases h2 : (proofT l).length > 1000000
  · rw [if_pos h2] at h; simp at h
  rw [if_neg h2] at h ⊢
  obtain ⟨c1, c2⟩ := (chk_iff l).1 (by simpa using h1)
  show proof_Parse (proofT l) = (l, ((proofT l).length : Int), 0)
  unfold proof_Parse
  rw [if_neg h2, ← proof_join]
  have hL := lines_join (l.map wordsS) (joinAll (l.map wordsS)).length 1 0 (Nat.le_refl _) (fun W hW => by obtain ⟨s, _, rfl⟩ := List.mem_map.1 hW; exact step_line s)
  exact (steps_words _ l [] _ hL c2 (by simp; omega)).trans (by simp)
/-! what is read may be -/
theorem row_ok (lo hi : Int) (tw : Bool) : ∀ (T : List Token_Token) (a : Int) (out : List Int), rowOK lo hi tw out → (rowGo lo hi tw T a out).2.e = 0 →
    rowOK lo hi tw (rowGo lo hi tw T a out).1 ∧ (rowGo lo hi tw T a out).1.length + (rowGo lo hi tw T a out).2.rest.length + 1 = out.length + T.length
  | [], a, out, _, h => by simp [rowGo] at h
  | t :: T, a, out, ho, h => by
    have st : rowGo lo hi tw (t :: T) a out = if (numOf t.Text lo hi).2 ≠ 0 then (out, ⟨T, t.At, (numOf t.Text lo hi).2⟩) else if (numOf t.Text lo hi).1 = 0 then (out, ⟨T, t.At + t.Text.length, 0⟩) else if addR out tw (numOf t.Text lo hi).1 ≠ 0 then (out ++ [(numOf t.Text lo hi).1], ⟨T, t.At, addR out tw (numOf t.Text lo hi).1⟩) else rowGo lo hi tw T (t.At + t.Text.length) (out ++ [(numOf t.Text lo hi).1]) := rfl
    rw [st] at h ⊢
    by_cases h1 : (numOf t.Text lo hi).2 ≠ 0
    · rw [if_pos h1] at h; exact absurd h h1
    rw [if_neg h1] at h ⊢
    by_cases h2 : (numOf t.Text lo hi).1 = 0
    · rw [if_pos h2]; exact ⟨ho, by simp; omega⟩
    rw [if_neg h2] at h ⊢
    by_cases h3 : addR out tw (numOf t.Text lo hi).1 ≠ 0
    · rw [if_pos h3] at h; exact absurd h h3
    rw [if_neg h3] at h ⊢
    have hb := numOf_in (t := t.Text) (lo := lo) (hi := hi) (by simpa using h1)
    obtain ⟨k1, k2, k3⟩ := ho
    have h3' : addR out tw (numOf t.Text lo hi).1 = 0 := by simpa using h3
    unfold addR at h3'
    have c1 : ¬ out.length ≥ 1000 := by intro c; rw [if_pos c] at h3'; simp at h3'
    rw [if_neg c1] at h3'
    have c2 : ¬ (tw = true ∧ (numOf t.Text lo hi).1 ∈ out) := by
      rintro ⟨c, d⟩
      rw [if_pos (by simp [c, d])] at h3'; simp at h3'
    obtain ⟨a1, a2⟩ := row_ok lo hi tw T (t.At + t.Text.length) (out ++ [(numOf t.Text lo hi).1]) ⟨by simp; omega, fun n hn => by
      rcases List.mem_append.1 hn with hn | hn
      · exact k2 n hn
      · simp at hn; subst hn; exact ⟨h2, hb⟩, fun ht => by
      rw [List.nodup_append]
      exact ⟨k3 ht, by simp, fun x hx y hy e => by simp at hy; subst hy; subst e; exact c2 ⟨ht, hx⟩⟩⟩ h
    exact ⟨a1, by rw [List.length_append] at a2; simp at a2 ⊢; omega⟩
theorem rowOK_nil (lo hi : Int) (tw : Bool) : rowOK lo hi tw [] := ⟨by simp, by simp, by simp⟩
theorem wrong_zero {a e : Int} {r : Ln} (h : (proof_line_wrong a e r).e = 0) (he : e ≠ 0) : r.e = 0 → False := by
  intro hr
  unfold proof_line_wrong at h
  rw [if_pos hr] at h
  exact he h
theorem wrong_bad {a e : Int} {r : Ln} (he : e ≠ 0) : (proof_line_wrong a e r).e ≠ 0 := by
  unfold proof_line_wrong; split
  · exact he
  · rename_i h; exact h
theorem endS_zero {r : Ln} (h : (endS r).e = 0) : r.e = 0 ∧ r.rest = [] := by
  unfold endS at h
  split at h
  · rename_i hr; exact ⟨h, hr⟩
  · exact absurd h (wrong_bad (by decide))
def szS (s : Api_Step) : Nat := s.Lits.length + s.Hints.length + 2
theorem step_ok (t : List Token_Token) (ht : t ≠ []) (h : (stepOf t).2.e = 0) : mayS (stepOf t).1 = true ∧ szS (stepOf t).1 ≤ t.length := by
  obtain ⟨x, T, rfl⟩ : ∃ x T, t = x :: T := by cases t with | nil => exact absurd rfl ht | cons x T => exact ⟨x, T, rfl⟩
  unfold stepOf proof_line_step at *
  have hn : proof_line_number 0 10000000 ⟨x :: T, 0, 0⟩ = if (numOf x.Text 0 10000000).2 ≠ 0 then (0, 0, false, ⟨T, x.At, (numOf x.Text 0 10000000).2⟩) else ((numOf x.Text 0 10000000).1, x.At, true, ⟨T, x.At + x.Text.length, 0⟩) := by simp [proof_line_number]
  rw [hn] at h ⊢
  by_cases h1 : (numOf x.Text 0 10000000).2 ≠ 0
  · rw [if_pos h1] at h
    exfalso
    have h := (endS_zero h).1
    unfold stepB at h
    simp only at h
    rw [if_neg (fun e => h1 e.1)] at h
    have e1 : ∀ lo hi tw a T, proof_line_row lo hi tw ⟨T, a, (numOf x.Text 0 10000000).2⟩ = ([], ⟨T, a, (numOf x.Text 0 10000000).2⟩) := fun _ _ _ _ _ => by simp [proof_line_row, h1]
    simp only [e1] at h
    split at h
    · exact wrong_bad (by decide) h
    · exact h1 h
  · rw [if_neg h1] at h ⊢
    have hid := numOf_in (t := x.Text) (lo := 0) (hi := 10000000) (by simpa using h1)
    simp only at h ⊢
    generalize (numOf x.Text 0 10000000).1 = id at *
    obtain ⟨h2, h3⟩ := endS_zero h
    clear h
    by_cases hd : T.head?.map Token_Token.Text = some wD
    · unfold stepB at h2 h3 ⊢
      rw [if_pos ⟨rfl, hd⟩] at h2 h3 ⊢
      obtain ⟨y, U, rfl⟩ : ∃ y U, T = y :: U := by cases T with | nil => simp at hd | cons y U => exact ⟨y, U, rfl⟩
      simp only [List.tail_cons] at h2 h3 ⊢
      rw [row_start _ _ _ _ rfl] at h2 h3 ⊢
      obtain ⟨a1, a2⟩ := row_ok 0 10000000 false U _ [] (rowOK_nil _ _ _) h2
      refine ⟨(may_iff _).2 (.inr ⟨rfl, hid.1, hid.2, rfl, a1.1, fun n hn => by have := a1.2.1 n hn; omega, fun h => by simp at h⟩), ?_⟩
      simp only at h3 a2
      rw [h3] at a2
      simp [szS] at a2 ⊢; omega
    · unfold stepB at h2 h3 ⊢
      rw [if_neg (fun e => hd e.2)] at h2 h3 ⊢
      simp only at h2 h3 ⊢
      by_cases hz : id = 0
      · rw [if_pos hz] at h2; exact absurd h2 (wrong_bad (by decide))
      rw [if_neg hz] at h2 h3
      rw [row_start (-100000) 100000 true ⟨T, x.At + x.Text.length, 0⟩ rfl] at h2 h3 ⊢
      simp only at h2 h3 ⊢
      have e1 : (rowGo (-100000) 100000 true T (x.At + x.Text.length) []).2.e = 0 := by
        by_cases e : (rowGo (-100000) 100000 true T (x.At + x.Text.length) []).2.e = 0
        · exact e
        · exfalso
          have : proof_line_row (-10000000) 10000000 false (rowGo (-100000) 100000 true T (x.At + x.Text.length) []).2 = ([], (rowGo (-100000) 100000 true T (x.At + x.Text.length) []).2) := by unfold proof_line_row; rw [if_pos e]
          rw [this] at h2; exact e h2
      obtain ⟨a1, a2⟩ := row_ok (-100000) 100000 true T _ [] (rowOK_nil _ _ _) e1
      generalize rowGo (-100000) 100000 true T (x.At + x.Text.length) [] = q1 at *
      rw [row_start _ _ _ _ e1] at h2 h3 ⊢
      obtain ⟨b1, b2⟩ := row_ok (-10000000) 10000000 false q1.2.rest _ [] (rowOK_nil _ _ _) h2
      refine ⟨(may_iff _).2 (.inl ⟨rfl, by simp only; omega, hid.2, a1, b1⟩), ?_⟩
      rw [h3] at b2
      simp [szS] at a2 b2 ⊢; omega
theorem steps_ok (e : Int) : ∀ (L : List (List Token_Token)) (acc : List Api_Step), (∀ s ∈ acc, mayS s = true) → acc.length ≤ 1000000 → (stepsGo e L acc).2.2 = 0 →
    (∀ s ∈ (stepsGo e L acc).1, mayS s = true) ∧ (stepsGo e L acc).1.length ≤ 1000000 ∧ ((stepsGo e L acc).1.map szS).sum ≤ (acc.map szS).sum + L.flatten.length
  | [], acc, h, hl, _ => ⟨h, hl, by simp [stepsGo]⟩
  | t :: L, acc, h, hl, h0 => by
    have st : stepsGo e (t :: L) acc = if t = [] then stepsGo e L acc else if (acc.length : Int) ≥ 1000000 then ([], (gi t 0).At, 3) else if (stepOf t).2.e ≠ 0 then ([], (stepOf t).2.at_, (stepOf t).2.e) else stepsGo e L (acc ++ [(stepOf t).1]) := rfl
    rw [st] at h0 ⊢
    by_cases h1 : t = []
    · rw [if_pos h1] at h0 ⊢
      have := steps_ok e L acc h hl h0
      refine ⟨this.1, this.2.1, ?_⟩
      rw [h1]; simpa using this.2.2
    rw [if_neg h1] at h0 ⊢
    by_cases h2 : (acc.length : Int) ≥ 1000000
    · rw [if_pos h2] at h0; simp at h0
    rw [if_neg h2] at h0 ⊢
    by_cases h3 : (stepOf t).2.e ≠ 0
    · rw [if_pos h3] at h0; exact absurd h0 h3
    rw [if_neg h3] at h0 ⊢
    obtain ⟨m, z⟩ := step_ok t h1 (by simpa using h3)
    obtain ⟨a, b, c⟩ := steps_ok e L (acc ++ [(stepOf t).1]) (fun s hs => by
      rcases List.mem_append.1 hs with hs | hs
      · exact h s hs
      · simp at hs; subst hs; exact m) (by simp; omega) h0
    refine ⟨a, b, Nat.le_trans c ?_⟩
    simp only [List.map_append, List.sum_append, List.map_cons, List.map_nil, List.sum_cons, List.sum_nil, List.flatten_cons, List.length_append]
    omega
theorem nums_len {l : List Int} (h : ∀ n ∈ l, -10000000 ≤ n ∧ n ≤ 10000000) : (numsB l).length ≤ 22 * l.length + 1 := by
  unfold numsB
  induction l with
  | nil => simp
  | cons n l ih =>
    have := ih (fun x hx => h x (by simp [hx]))
    have b := h n (by simp)
    have a3 := itoa_len (x := n) ⟨by show (-9223372036854775808 : Int) ≤ _; omega, by show _ ≤ (9223372036854775807 : Int); omega⟩
    simp at this ⊢; omega
theorem stepT_len {s : Api_Step} (h : mayS s = true) : (stepT s).length ≤ 30 * szS s := by
  have hh : 0 ≤ s.Id ∧ s.Id ≤ 10000000 ∧ (∀ n ∈ s.Lits, -10000000 ≤ n ∧ n ≤ 10000000) ∧ (∀ n ∈ s.Hints, -10000000 ≤ n ∧ n ≤ 10000000) := by
    rcases (may_iff s).1 h with ⟨_, a, b, c, d⟩ | ⟨_, a, b, c, d⟩
    · exact ⟨by omega, b, fun n hn => by have := c.2.1 n hn; omega, fun n hn => by have := d.2.1 n hn; omega⟩
    · exact ⟨by omega, b, fun n hn => by rw [c] at hn; simp at hn, fun n hn => by have := d.2.1 n hn; omega⟩
  have a := itoa_len (x := s.Id) ⟨by show (-9223372036854775808 : Int) ≤ _; omega, by show _ ≤ (9223372036854775807 : Int); omega⟩
  have b := nums_len hh.2.2.1
  have c := nums_len hh.2.2.2
  unfold stepT szS
  split
  · simp; omega
  · simp; omega
theorem proofT_len : ∀ {l : List Api_Step}, (∀ s ∈ l, mayS s = true) → (proofT l).length ≤ 30 * (l.map szS).sum
  | [], _ => by simp [proofT]
  | s :: l, h => by
    have a := stepT_len (h s (by simp))
    have b := proofT_len (l := l) (fun x hx => h x (by simp [hx]))
    have e : proofT (s :: l) = stepT s ++ proofT l := by simp [proofT]
    rw [e, List.length_append, List.map_cons, List.sum_cons]; omega
theorem read_proof {s : Bs} (hs : s.length ≤ 3000) (h : (proof_Parse s).2.2 = 0) : (printP (proof_Parse s).1).2 = 0 ∧ ∀ x ∈ (proof_Parse s).1, mayS x = true := by
  unfold proof_Parse at *
  rw [if_neg (by omega)] at h ⊢
  obtain ⟨a, b, c⟩ := steps_ok _ _ [] (by simp) (by simp) h
  have d := flat_len _ s rfl 1 0
  have d : (token_Lines s).flatten.length ≤ s.length := d
  have e := proofT_len a
  refine ⟨?_, a⟩
  unfold printP
  have hc := (chk_iff _).2 ⟨b, a⟩
  simp only [List.map_nil, List.sum_nil, Nat.zero_add] at c
  rw [if_neg (by simp [hc]), if_neg (by omega)]
/-! places, and lines behind -/
theorem steps_end (e : Int) : ∀ (L : List (List Token_Token)) (acc : List Api_Step), (stepsGo e L acc).2.2 = 0 → (stepsGo e L acc).2.1 = e
  | [], acc, _ => rfl
  | t :: L, acc, h => by
    have st : stepsGo e (t :: L) acc = if t = [] then stepsGo e L acc else if (acc.length : Int) ≥ 1000000 then ([], (gi t 0).At, 3) else if (stepOf t).2.e ≠ 0 then ([], (stepOf t).2.at_, (stepOf t).2.e) else stepsGo e L (acc ++ [(stepOf t).1]) := rfl
    rw [st] at h ⊢
    by_cases h1 : t = []
    · rw [if_pos h1] at h ⊢; exact steps_end e L acc h
    rw [if_neg h1] at h ⊢
    by_cases h2 : (acc.length : Int) ≥ 1000000
    · rw [if_pos h2] at h; simp at h
    rw [if_neg h2] at h ⊢
    by_cases h3 : (stepOf t).2.e ≠ 0
    · rw [if_pos h3] at h; exact absurd h h3
    rw [if_neg h3] at h ⊢; exact steps_end e L _ h
theorem steps_bad (e : Int) : ∀ (L : List (List Token_Token)) (acc : List Api_Step), (stepsGo e L acc).2.2 ≠ 0 → (stepsGo e L acc).1 = [] ∧ L ≠ [] ∧ ∀ (M : List (List Token_Token)) (e' : Int), stepsGo e' (L ++ M) acc = stepsGo e L acc
  | [], acc, h => by simp [stepsGo] at h
  | t :: L, acc, h => by
    have st : ∀ e L acc, stepsGo e (t :: L) acc = if t = [] then stepsGo e L acc else if (acc.length : Int) ≥ 1000000 then ([], (gi t 0).At, 3) else if (stepOf t).2.e ≠ 0 then ([], (stepOf t).2.at_, (stepOf t).2.e) else stepsGo e L (acc ++ [(stepOf t).1]) := fun _ _ _ => rfl
    refine ⟨?_, by simp, ?_⟩
    · rw [st] at h ⊢
      split
      · rename_i h1; rw [if_pos h1] at h; exact (steps_bad e L acc h).1
      · rename_i h1; rw [if_neg h1] at h
        split
        · rfl
        · rename_i h2; rw [if_neg h2] at h
          split
          · rfl
          · rename_i h3; rw [if_neg h3] at h; exact (steps_bad e L _ h).1
    · intro M e'
      rw [List.cons_append, st, st]
      rw [st] at h
      split
      · rename_i h1; rw [if_pos h1] at h; exact (steps_bad e L acc h).2.2 M e'
      · rename_i h1; rw [if_neg h1] at h
        split
        · rfl
        · rename_i h2; rw [if_neg h2] at h
          split
          · rfl
          · rename_i h3; rw [if_neg h3] at h; exact (steps_bad e L _ h).2.2 M e'
theorem lines_app : ∀ (n : Nat) (s : Bs), s.length = n → ∀ (b : Bs) (k a : Int), ∃ M, linesL (s ++ 10 :: b) k a = linesL s k a ++ M := by
  intro n
  induction n using Nat.strongRecOn with
  | _ n ih =>
    intro s hs b k a
    by_cases he : s = []
    · subst he; exact ⟨linesL (10 :: b) k a, by rw [linesL_nil]; rfl⟩
    by_cases hnl : ∀ c ∈ s, c ≠ 10
    · have e1 : tw (s ++ 10 :: b) = s := tw_ten _ hnl
      have e2 : tw s = s := by have := tw_no (p := s) [] hnl; simpa [tw] using this
      rw [linesL_cons (by simp), linesL_cons he, e1, e2]
      have : s.drop (s.length + 1) = [] := List.drop_eq_nil_of_le (by omega)
      rw [this, linesL_nil]
      exact ⟨_, rfl⟩
    · obtain ⟨l, p, hlp, hl⟩ : ∃ l p, s = l ++ 10 :: p ∧ ∀ c ∈ l, c ≠ 10 := by
        have : (10 : UInt8) ∈ s := by
          by_cases h : (10 : UInt8) ∈ s
          · exact h
          · exact absurd (fun c hc (e : c = 10) => h (e ▸ hc)) hnl
        obtain ⟨l, r, rfl, hl⟩ := List.eq_append_cons_of_mem this
        exact ⟨l, r, rfl, fun c hc (e : c = 10) => hl (e ▸ hc)⟩
      subst hlp
      obtain ⟨M, hM⟩ := ih p.length (by rw [← hs]; simp; omega) p rfl b (k + 1) (a + l.length + 1)
      refine ⟨M, ?_⟩
      have e0 : ∀ z : Bs, tw (l ++ 10 :: z) = l := fun z => tw_ten _ hl
      have dr : ∀ z : Bs, (l ++ 10 :: z).drop (l.length + 1) = z := fun z => by
        rw [show l.length + 1 = (l ++ [10]).length by simp, show l ++ 10 :: z = (l ++ [10]) ++ z by simp, List.drop_left]
      rw [List.append_assoc, List.cons_append, linesL_cons (l := l ++ 10 :: (p ++ 10 :: b)) (by simp), linesL_cons (l := l ++ 10 :: p) (by simp), e0, e0, dr, dr, hM]
      rfl
theorem proof_same {s : Bs} (hs : s.length ≤ 3000) (b : Bs) (hb : b.length ≤ 300) (h : (proof_Parse s).2.2 ≠ 0) : proof_Parse (s ++ [10] ++ b) = proof_Parse s ∧ (proof_Parse s).1 = [] ∧ token_Lines s ≠ [] := by
  unfold proof_Parse at *
  have hl : ¬ (s ++ [10] ++ b).length > 1000000 := by simp; omega
  have hs' : ¬ s.length > 1000000 := by omega
  rw [if_neg hs'] at h ⊢
  rw [if_neg hl]
  obtain ⟨a1, a2, a3⟩ := steps_bad _ _ _ h
  obtain ⟨M, hM⟩ := lines_app _ s rfl b 1 0
  have e : token_Lines (s ++ [10] ++ b) = token_Lines s ++ M := by
    have : s ++ [10] ++ b = s ++ 10 :: b := by simp
    rw [this]; exact hM
  rw [e]
  exact ⟨a3 M _, a1, a2⟩
/-! hints in parts -/
theorem splitGo_app : ∀ (a b : List Int) (g : List (List Int)), splitGo (a ++ b) g = splitGo b (splitGo a g)
  | [], b, g => rfl
  | n :: a, b, g => by
    have st : ∀ r, splitGo (n :: r) g = if n < 0 then splitGo r (g ++ [[n]]) else splitGo r (g.dropLast ++ [(g.getLast?.getD []) ++ [n]]) := fun _ => rfl
    rw [List.cons_append, st, st]
    split
    · exact splitGo_app a b _
    · exact splitGo_app a b _
/-- what has been parted after some hints -/
def spl (h : List Int) : List Int × List (List Int) := (splitA h, splitR h)
theorem split_snoc (h : List Int) (n : Int) : spl (h ++ [n]) = if n < 0 then (splitA h, splitR h ++ [[n]]) else if splitR h = [] then (splitA h ++ [n], []) else (splitA h, (splitR h).dropLast ++ [((splitR h).getLast?.getD []) ++ [n]]) := by
  have key : ∀ h : List Int, (h.dropWhile fun n => decide (n ≥ 0)) = [] ↔ ∀ x ∈ h, x ≥ 0 := by
    intro h
    induction h with
    | nil => simp
    | cons x h ih =>
      rw [List.dropWhile_cons]
      by_cases hx : x ≥ 0
      · rw [if_pos (decide_eq_true hx), ih]; simp [hx]
      · rw [if_neg (by simpa using hx)]; simp [hx]
  have hne : ∀ l : List Int, l ≠ [] → (∃ x r, l = x :: r ∧ x < 0) → splitGo l [] ≠ [] := by
    intro l _ ⟨x, r, hl, hx⟩
    subst hl
    have st : splitGo (x :: r) [] = splitGo r [[x]] := by show (if x < 0 then _ else _) = _; rw [if_pos hx]; rfl
    rw [st]
    have gen : ∀ (r : List Int) (g : List (List Int)), g ≠ [] → splitGo r g ≠ [] := by
      intro r
      induction r with
      | nil => intro g hg; exact hg
      | cons y r ih =>
        intro g hg
        have st : splitGo (y :: r) g = if y < 0 then splitGo r (g ++ [[y]]) else splitGo r (g.dropLast ++ [(g.getLast?.getD []) ++ [y]]) := rfl
        rw [st]
        split
        · exact ih _ (by simp)
        · exact ih _ (by simp)
    exact gen r _ (by simp)
  unfold spl splitA splitR
  by_cases hall : ∀ x ∈ h, x ≥ 0
  · have e0 := (key h).2 hall
    have e1 : h.takeWhile (fun n => decide (n ≥ 0)) = h := by
      have := List.takeWhile_append_dropWhile (p := fun n : Int => decide (n ≥ 0)) (l := h)
      rw [e0, List.append_nil] at this; exact this
    have e2 : (h ++ [n]).dropWhile (fun n => decide (n ≥ 0)) = [n].dropWhile (fun n => decide (n ≥ 0)) := by
      rw [List.dropWhile_append, e0]; rfl
    have e3 : (h ++ [n]).takeWhile (fun n => decide (n ≥ 0)) = h ++ [n].takeWhile (fun n => decide (n ≥ 0)) := by
      rw [List.takeWhile_append, e1, if_pos rfl]
    rw [e2, e3, e0, e1]
    by_cases hn : n < 0
    · have : decide (n ≥ 0) = false := decide_eq_false (by omega)
      rw [if_pos hn]
      simp [List.takeWhile, List.dropWhile, this, splitGo, hn]
    · have : decide (n ≥ 0) = true := decide_eq_true (by omega)
      rw [if_neg hn, if_pos (show splitGo [] [] = [] from rfl)]
      simp [List.takeWhile, List.dropWhile, this, splitGo]
  · have e0 : ¬ (h.dropWhile fun n => decide (n ≥ 0)) = [] := fun e => hall ((key h).1 e)
    have e2 : (h ++ [n]).dropWhile (fun n => decide (n ≥ 0)) = (h.dropWhile fun n => decide (n ≥ 0)) ++ [n] := by
      rw [List.dropWhile_append]
      cases hd : (h.dropWhile fun n => decide (n ≥ 0)) with
      | nil => exact absurd hd e0
      | cons a b => rfl
    have e3 : (h ++ [n]).takeWhile (fun n => decide (n ≥ 0)) = h.takeWhile (fun n => decide (n ≥ 0)) := by
      rw [List.takeWhile_append, if_neg]
      intro e
      have := List.takeWhile_append_dropWhile (p := fun n : Int => decide (n ≥ 0)) (l := h)
      have l := congrArg List.length this
      rw [List.length_append, e] at l
      exact e0 (List.eq_nil_of_length_eq_zero (by omega))
    have hg : splitGo (h.dropWhile fun n => decide (n ≥ 0)) [] ≠ [] := by
      refine hne _ e0 ?_
      cases hd : (h.dropWhile fun n => decide (n ≥ 0)) with
      | nil => exact absurd hd e0
      | cons a b =>
        refine ⟨a, b, rfl, ?_⟩
        have := List.head_dropWhile_not (fun n : Int => decide (n ≥ 0)) (l := h) (by rw [hd]; simp)
        simp only [hd, List.head_cons] at this
        have := of_decide_eq_false this; omega
    rw [e2, e3, splitGo_app]
    by_cases hn : n < 0
    · rw [if_pos hn]; simp [splitGo, hn]
    · rw [if_neg hn, if_neg hg]; simp [splitGo, hn]
theorem split_flat (h : List Int) : splitA h ++ (splitR h).flatten = h ∧ ∀ r ∈ splitR h, r ≠ [] ∧ gi r 0 < 0 := by
  have key : ∀ (r : List Int) (g : List (List Int)), g ≠ [] ∨ (∀ x y, r = x :: y → x < 0) → (∀ q ∈ g, q ≠ [] ∧ gi q 0 < 0) → (splitGo r g).flatten = g.flatten ++ r ∧ ∀ q ∈ splitGo r g, q ≠ [] ∧ gi q 0 < 0 := by
    intro r
    induction r with
    | nil => intro g _ hg; exact ⟨by simp [splitGo], hg⟩
    | cons x r ih =>
      intro g hx hg
      have st : splitGo (x :: r) g = if x < 0 then splitGo r (g ++ [[x]]) else splitGo r (g.dropLast ++ [(g.getLast?.getD []) ++ [x]]) := rfl
      rw [st]
      by_cases hn : x < 0
      · rw [if_pos hn]
        obtain ⟨a, b⟩ := ih (g ++ [[x]]) (.inl (by simp)) (fun q hq => by
          rcases List.mem_append.1 hq with hq | hq
          · exact hg q hq
          · simp at hq; subst hq; exact ⟨by simp, by simpa [gi] using hn⟩)
        exact ⟨by rw [a]; simp, b⟩
      · rw [if_neg hn]
        have hgn : g ≠ [] := by
          rcases hx with h | h
          · exact h
          · exact absurd (h x r rfl) hn
        obtain ⟨g', l, rfl⟩ : ∃ g' l, g = g' ++ [l] := ⟨g.dropLast, g.getLast hgn, (List.dropLast_concat_getLast hgn).symm⟩
        have hl := hg l (by simp)
        obtain ⟨a, b⟩ := ih (g' ++ [l ++ [x]]) (.inl (by simp)) (fun q hq => by
          rcases List.mem_append.1 hq with hq | hq
          · exact hg q (by simp [hq])
          · simp at hq; subst hq
            refine ⟨by simp, ?_⟩
            obtain ⟨y, l', rfl⟩ : ∃ y l', l = y :: l' := by cases l with | nil => exact absurd rfl hl.1 | cons y l' => exact ⟨y, l', rfl⟩
            exact hl.2)
        have e : (g' ++ [l]).dropLast ++ [((g' ++ [l]).getLast?.getD []) ++ [x]] = g' ++ [l ++ [x]] := by simp
        rw [e]
        exact ⟨by rw [a]; simp, b⟩
  unfold splitA splitR
  obtain ⟨a, b⟩ := key (h.dropWhile fun n => decide (n ≥ 0)) [] (.inr (fun x y e => by
    have := List.head_dropWhile_not (fun n : Int => decide (n ≥ 0)) (l := h) (by rw [e]; simp)
    simp only [e, List.head_cons] at this
    have := of_decide_eq_false this; omega)) (by simp)
  exact ⟨by rw [a]; simp [List.takeWhile_append_dropWhile], b⟩
/-! the document's parts -/
theorem splitA_take {h : List Int} {i : Int} (h0 : 0 ≤ i) (h1 : i ≤ h.length) (hp : ∀ j : Int, 0 ≤ j → j < i → gi h j ≥ 0) (he : i < h.length → gi h i < 0) : splitA h = h.take i.toNat := by
  have e : h = h.take i.toNat ++ h.drop i.toNat := (List.take_append_drop _ _).symm
  have a : ∀ x ∈ h.take i.toNat, decide (x ≥ 0) = true := by
    intro x hx
    obtain ⟨k, hk⟩ := List.getElem?_of_mem hx
    have hl := (List.getElem?_eq_some_iff.1 hk).1
    rw [List.getElem?_take] at hk
    split at hk
    · have := hp (k : Int) (by omega) (by omega)
      have e2 : gi h (k : Int) = x := by unfold gi; simp [hk]
      rw [e2] at this; exact decide_eq_true this
    · cases hk
  unfold splitA
  conv => lhs; rw [e]
  rw [List.takeWhile_append_of_pos a]
  have b : (h.drop i.toNat).takeWhile (fun n => decide (n ≥ 0)) = [] := by
    by_cases hi : i < h.length
    · rw [drop_gi h0 hi, List.takeWhile_cons, if_neg]
      have := he hi
      simp; omega
    · rw [List.drop_eq_nil_of_le (by omega)]; rfl
  rw [b, List.append_nil]
theorem splitR_pos {h : List Int} (hp : ∀ x ∈ h, x ≥ 0) : splitR h = [] := by
  unfold splitR
  have : h.dropWhile (fun n => decide (n ≥ 0)) = [] := by
    induction h with
    | nil => rfl
    | cons x h ih => rw [List.dropWhile_cons, if_pos (decide_eq_true (hp x (by simp)))]; exact ih (fun y hy => hp y (by simp [hy]))
  rw [this]; rfl
theorem split_neg {h : List Int} {k : Int} (h0 : 0 ≤ k) (h1 : k < h.length) (hn : gi h k < 0) : splitR (h.take (k + 1).toNat) = splitR (h.take k.toNat) ++ [[gi h k]] := by
  have := congrArg Prod.snd (split_snoc (h.take k.toNat) (gi h k))
  rw [if_pos hn, ← take_gi h0 h1] at this
  exact this
theorem split_pos {h : List Int} {k : Int} (h0 : 0 ≤ k) (h1 : k < h.length) (hn : gi h k ≥ 0) {X : List (List Int)} {s : List Int} (hx : splitR (h.take k.toNat) = X ++ [s]) : splitR (h.take (k + 1).toNat) = X ++ [s ++ [gi h k]] := by
  have := congrArg Prod.snd (split_snoc (h.take k.toNat) (gi h k))
  rw [if_neg (by omega), ← take_gi h0 h1, if_neg (by rw [hx]; simp), hx] at this
  exact this.trans (by simp)
theorem seg_snocL {s : List Int} {i k : Int} (h0 : 0 ≤ i) (h1 : i ≤ k) (h2 : k < s.length) : (s.take (k + 1).toNat).drop i.toNat = (s.take k.toNat).drop i.toNat ++ [gi s k] := by
  rw [take_gi (by omega) h2, List.drop_append_of_le_length (by simp; omega)]
theorem seg_nilL {s : List Int} {i e : Int} (h : e ≤ i) : (s.take e.toNat).drop i.toNat = [] := List.drop_eq_nil_of_le (by simp; omega)
theorem split_seg {h : List Int} {k : Int} (h0 : 0 ≤ k) (h1 : k < h.length) (hn : gi h k < 0) : ∀ (n : Nat) (j : Int), (j - (k + 1)).toNat = n → k + 1 ≤ j → j ≤ h.length → (∀ x : Int, k < x → x < j → gi h x ≥ 0) → splitR (h.take j.toNat) = splitR (h.take k.toNat) ++ [(h.take j.toNat).drop k.toNat] := by
  intro n
  induction n with
  | zero =>
    intro j hj j0 j1 _
    have : j = k + 1 := by omega
    subst this
    rw [split_neg h0 h1 hn, seg_snocL h0 (Int.le_refl _) h1, seg_nilL (Int.le_refl _)]; simp
  | succ n ih =>
    intro j hj j0 j1 hp
    have i := ih (j - 1) (by omega) (by omega) (by omega) (fun x x0 x1 => hp x x0 (by omega))
    have q := split_pos (k := j - 1) (by omega) (by omega) (hp (j - 1) (by omega) (by omega)) i
    rw [show j - 1 + 1 = j by omega] at q
    rw [q]
    have s := seg_snocL (s := h) (i := k) (k := j - 1) h0 (by omega) (by omega)
    rw [show j - 1 + 1 = j by omega] at s
    rw [s]
end Go.Proofs.YtkgcdoeldilhaaaDoor
