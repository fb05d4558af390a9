/- Proofs as text: both readings are one, and back. Plain. -/
import Derived.Test.YtkgcdoeldilhaaaGreatDoorNV10
set_option linter.all false
namespace Go.Proofs.YtkgcdoeldilhaaaGreatDoor
open Go Go.Sv Go.Pu
def litsB (c : List Int) : Bs := c.flatMap fun l => Lib.itoa l ++ [32]
abbrev flat (s : Bs) (k a : Int) : List Token_Token := (linesL s k a).flatten
theorem numOf_in {t : Bs} {lo hi : Int} (h : (numOf t lo hi).2 = 0) : lo ≤ (numOf t lo hi).1 ∧ (numOf t lo hi).1 ≤ hi := by
  unfold numOf at *
  split at h
  · split at h
    · rename_i h1 h2; rw [if_pos h1, if_pos h2]; exact h2
    · simp at h
  · simp at h
theorem litsE_iff (vars : Int) (hv : 0 ≤ vars ∧ vars ≤ 100000) : ∀ c : List Int, litsE vars c = 0 ↔ ∀ l ∈ c, l ≠ 0 ∧ -vars ≤ l ∧ l ≤ vars
  | [] => by simp [litsE]
  | l :: c => by
    have ih := litsE_iff vars hv c
    have e : litE l vars = 0 ↔ l ≠ 0 ∧ -vars ≤ l ∧ l ≤ vars := by unfold litE; rw [if_neg (by omega)]; split <;> simp <;> omega
    unfold litsE
    by_cases h : litE l vars = 0
    · rw [if_neg (by simp [h])]; rw [ih]; simp [e.1 h]
    · rw [if_pos h]; constructor
      · intro h'; exact absurd h' h
      · intro h'; exact absurd (e.2 (h' l (by simp))) h
theorem clauseE_iff (c : List Int) (vars : Int) (hv : 0 ≤ vars ∧ vars ≤ 100000) : clauseE c vars = 0 ↔ c.length ≤ 1000 ∧ (∀ l ∈ c, l ≠ 0 ∧ -vars ≤ l ∧ l ≤ vars) ∧ c.Nodup := by
  unfold clauseE
  rw [if_neg (by omega)]
  by_cases h1 : c.length > 1000
  · rw [if_pos h1]; constructor
    · intro h; simp at h
    · intro h; omega
  · rw [if_neg h1]
    have hl := litsE_iff vars hv c
    by_cases h2 : litsE vars c = 0
    · rw [if_neg (by simp [h2])]
      by_cases h3 : c.Nodup
      · rw [if_pos h3]; simp [h3, hl.1 h2]; exact ⟨by omega, hl.1 h2⟩
      · rw [if_neg h3]; simp [h3]
    · rw [if_pos h2]; constructor
      · intro h; exact absurd h h2
      · intro h; exact absurd (hl.2 h.2.1) h2
theorem wgo_in_range : ∀ (l : Bs) (i : Int) (cur : Bs), ∀ q ∈ wgo l i cur, i - cur.length ≤ q.1 ∧ q.1 + q.2.length ≤ i + l.length
  | [], i, cur, q, hq => by
    unfold wgo at hq; split at hq
    · simp at hq
    · simp at hq; subst hq; simp
  | b :: r, i, cur, q, hq => by
    unfold wgo at hq
    split at hq
    · split at hq
      · have := wgo_in_range r (i + 1) [] q hq; simp at this ⊢; omega
      · rcases List.mem_cons.1 hq with rfl | hq
        · simp; omega
        · have := wgo_in_range r (i + 1) [] q hq; simp at this ⊢; omega
    · have := wgo_in_range r (i + 1) (cur ++ [b]) q hq; simp at this ⊢; omega
theorem row_range {l : Bs} {k a : Int} {t : Token_Token} (h : t ∈ rowOf l k a) : a ≤ t.At ∧ t.At + t.Text.length ≤ a + l.length := by
  unfold rowOf at h
  split at h
  · simp at h
  · obtain ⟨q, hq, rfl⟩ := List.mem_map.1 h
    have := wgo_in_range l a [] q hq
    simpa using this
theorem tw_no : ∀ {p : Bs} (y : Bs), (∀ b ∈ p, b ≠ 10) → tw (p ++ y) = p ++ tw y
  | [], y, _ => rfl
  | b :: p, y, h => by
    have hb : (b != 10) = true := by simpa using h b (by simp)
    have := tw_no (p := p) y (fun c hc => h c (by simp [hc]))
    unfold tw at *
    rw [List.cons_append, List.takeWhile_cons, hb]
    simp only [if_true]
    rw [this]; rfl
theorem tw_ten : ∀ {l : Bs} (r : Bs), (∀ b ∈ l, b ≠ 10) → tw (l ++ 10 :: r) = l := fun {l} r h => by rw [tw_no _ h]; simp [tw]
theorem flat_good (s : Bs) : (∀ t ∈ flat s 1 0, ∃ k, Good s k t) ∧ (flat s 1 0).Pairwise (fun t u => tend t ≤ u.At) := by
  obtain ⟨h1, _, h3⟩ := lines_good (s := s) s.length 0 1 (Int.le_refl _) (by omega) (fun _ => by simp [cnl])
  have e : s.drop (0 : Int).toNat = s := rfl
  rw [e] at h1 h3
  refine ⟨fun t ht => ?_, h3⟩
  obtain ⟨r, hr, htr⟩ := List.mem_flatten.1 ht
  obtain ⟨i, hi⟩ := List.getElem?_of_mem hr
  exact ⟨_, h1 i r hi t htr⟩
theorem gi_toRef {T : List Token_Token} {i : Int} (h0 : 0 ≤ i) (h : i < T.length) : (gi (T.map toRef) i).At = (gi T i).At ∧ (gi (T.map toRef) i).Text = (gi T i).Text := by
  rw [gi_map toRef h0 h]; exact ⟨rfl, rfl⟩
theorem row_rel (lo hi : Int) (tw : Bool) : ∀ (T : List Token_Token) (a k : Int) (out : List Int),
    ((rrGo lo hi tw T a k out).E ≠ 0 → (rowGo lo hi tw T a out).2.e = (rrGo lo hi tw T a k out).E ∧ (rowGo lo hi tw T a out).2.at_ = (rrGo lo hi tw T a k out).At) ∧
    ((rrGo lo hi tw T a k out).E = 0 → (rowGo lo hi tw T a out).2.e = 0 ∧ (rowGo lo hi tw T a out).1 = (rrGo lo hi tw T a k out).L ∧ ∃ j : Nat, 1 ≤ j ∧ j ≤ T.length ∧ (rrGo lo hi tw T a k out).Taken = k + j ∧ (rowGo lo hi tw T a out).2.rest = T.drop j ∧ (rowGo lo hi tw T a out).2.at_ = (gi T ((j : Int) - 1)).At + ((gi T ((j : Int) - 1)).Text.length : Int))
  | [], a, k, out => by unfold rrGo rowGo; simp
  | t :: T, a, k, out => by
    have s1 : rrGo lo hi tw (t :: T) a k out = if (numOf t.Text lo hi).2 ≠ 0 then ⟨[], 0, t.At, (numOf t.Text lo hi).2⟩ else if (numOf t.Text lo hi).1 = 0 then ⟨out, k + 1, 0, 0⟩ else if addR out tw (numOf t.Text lo hi).1 ≠ 0 then ⟨[], 0, t.At, addR out tw (numOf t.Text lo hi).1⟩ else rrGo lo hi tw T (t.At + t.Text.length) (k + 1) (out ++ [(numOf t.Text lo hi).1]) := rfl
    have s2 : rowGo lo hi tw (t :: T) a out = if (numOf t.Text lo hi).2 ≠ 0 then (out, ⟨T, t.At, (numOf t.Text lo hi).2⟩) else if (numOf t.Text lo hi).1 = 0 then (out, ⟨T, t.At + t.Text.length, 0⟩) else if addR out tw (numOf t.Text lo hi).1 ≠ 0 then (out ++ [(numOf t.Text lo hi).1], ⟨T, t.At, addR out tw (numOf t.Text lo hi).1⟩) else rowGo lo hi tw T (t.At + t.Text.length) (out ++ [(numOf t.Text lo hi).1]) := rfl
    rw [s1, s2]
    by_cases h1 : (numOf t.Text lo hi).2 ≠ 0
    · rw [if_pos h1, if_pos h1]; exact ⟨fun _ => ⟨rfl, rfl⟩, fun h => absurd h h1⟩
    · rw [if_neg h1, if_neg h1]
      by_cases h2 : (numOf t.Text lo hi).1 = 0
      · rw [if_pos h2, if_pos h2]
        exact ⟨fun h => absurd rfl h, fun _ => ⟨rfl, rfl, 1, by omega, by simp, by simp, by simp, by simp [gi]⟩⟩
      · rw [if_neg h2, if_neg h2]
        by_cases h3 : addR out tw (numOf t.Text lo hi).1 ≠ 0
        · rw [if_pos h3, if_pos h3]; exact ⟨fun _ => ⟨rfl, rfl⟩, fun h => absurd h h3⟩
        · rw [if_neg h3, if_neg h3]
          obtain ⟨i1, i2⟩ := row_rel lo hi tw T (t.At + t.Text.length) (k + 1) (out ++ [(numOf t.Text lo hi).1])
          refine ⟨i1, fun h => ?_⟩
          obtain ⟨a1, a2, j, a3, a4, a5, a6, a7⟩ := i2 h
          refine ⟨a1, a2, j + 1, by omega, by simp; omega, by rw [a5]; push_cast; omega, by rw [a6]; rfl, ?_⟩
          rw [a7]
          have : gi (t :: T) (((j + 1 : Nat) : Int) - 1) = gi T ((j : Int) - 1) := by
            obtain ⟨m, rfl⟩ : ∃ m, j = m + 1 := ⟨j - 1, by omega⟩
            simp [gi]
          rw [this]
theorem map_from (T : List Token_Token) : (T.map toRef).map fromR = T := by
  rw [List.map_map]
  have : fromR ∘ toRef = id := rfl
  rw [this, List.map_id]
theorem drop_from (T : List Token_Token) (k : Nat) : ((T.map toRef).drop k).map fromR = T.drop k := by
  rw [List.map_drop, map_from]
theorem at_toRef (L : List Token_Token) {i : Int} (h0 : 0 ≤ i) (h : i < L.length) : (gi (L.map toRef) i).At = (gi L i).At := (gi_toRef h0 h).1
theorem end_toRef (L : List Token_Token) {i : Int} (h0 : 0 ≤ i) (h : i < L.length) : ref10_behind (gi (L.map toRef) i) = (gi L i).At + ((gi L i).Text.length : Int) := by
  unfold ref10_behind; rw [(gi_toRef h0 h).1, (gi_toRef h0 h).2]
theorem endS_bad {r : Ln} (h : r.e ≠ 0) : endS r = r := by
  unfold endS; split
  · rfl
  · unfold proof_line_wrong; rw [if_neg h]
theorem endS_ok {r : Ln} (h : r.e = 0) {z : Token_Token} {V : List Token_Token} (hz : r.rest = z :: V) : endS r = ⟨r.rest, z.At, 6⟩ := by
  unfold endS; rw [hz]; simp only; unfold proof_line_wrong; rw [if_pos h, hz]
theorem endS_nil {r : Ln} (hz : r.rest = []) : endS r = r := by unfold endS; rw [hz]
theorem step_eq (t : List Token_Token) (ht : t ≠ []) : (stepOf t).2.e = (ref10_step (t.map toRef)).2.2 ∧ ((stepOf t).2.e ≠ 0 → (stepOf t).2.at_ = (ref10_step (t.map toRef)).2.1) ∧ ((stepOf t).2.e = 0 → (stepOf t).1 = (ref10_step (t.map toRef)).1) := by
  obtain ⟨x, T, rfl⟩ : ∃ x T, t = x :: T := by cases t with | nil => exact absurd rfl ht | cons x T => exact ⟨x, T, rfl⟩
  unfold stepOf proof_line_step ref10_step
  have hg0 : gi ((x :: T).map toRef) 0 = toRef x := rfl
  have hn : proof_line_number 0 10000000 ⟨x :: T, 0, 0⟩ = if (numOf x.Text 0 10000000).2 ≠ 0 then (0, 0, false, ⟨T, x.At, (numOf x.Text 0 10000000).2⟩) else ((numOf x.Text 0 10000000).1, x.At, true, ⟨T, x.At + x.Text.length, 0⟩) := by simp [proof_line_number]
  rw [hn, hg0]
  have hx0 : gi (x :: T) 0 = x := rfl
  simp only [hx0]
  show _ = (if (numOf x.Text 0 10000000).2 ≠ 0 then _ else _ : Api_Step × Int × Int).2.2 ∧ _
  by_cases h1 : (numOf x.Text 0 10000000).2 ≠ 0
  · -- the id is none
    have e1 : ∀ lo hi tw a T, proof_line_row lo hi tw ⟨T, a, (numOf x.Text 0 10000000).2⟩ = ([], ⟨T, a, (numOf x.Text 0 10000000).2⟩) := fun _ _ _ _ _ => by simp [proof_line_row, h1]
    have e2 : ∀ a e T a', proof_line_wrong a e ⟨T, a', (numOf x.Text 0 10000000).2⟩ = ⟨T, a', (numOf x.Text 0 10000000).2⟩ := fun _ _ _ _ => by simp [proof_line_wrong, h1]
    have e3 : ∀ T a', endS ⟨T, a', (numOf x.Text 0 10000000).2⟩ = ⟨T, a', (numOf x.Text 0 10000000).2⟩ := fun T a' => by cases T <;> simp [endS, e2]
    rw [if_pos h1]
    have : toRef x = ⟨x.Line, x.At, x.Text⟩ := rfl
    rw [this]
    simp only [if_pos h1]
    unfold stepB
    rw [if_neg (by simp [h1])]
    simp only [e1, e2]
    split <;> simp [e3]
    all_goals exact fun h => absurd h h1
  · rw [if_neg h1]
    have hnm : (toRef x).Text = x.Text := rfl
    rw [hnm, if_neg h1]
    simp only
    generalize hid : (numOf x.Text 0 10000000).1 = id
    by_cases hd : T.head?.map Token_Token.Text = some wD
    · -- a deletion
      obtain ⟨y, U, rfl⟩ : ∃ y U, T = y :: U := by cases T with | nil => simp at hd | cons y U => exact ⟨y, U, rfl⟩
      have hy : y.Text = wD := by simpa using hd
      unfold stepB
      rw [if_pos ⟨rfl, hd⟩]
      have hg1 : gi ((x :: y :: U).map toRef) 1 = toRef y := rfl
      rw [if_pos ⟨by simp, by rw [hg1]; exact hy⟩]
      simp only [List.tail_cons]
      have hgy : gi (y :: U) 0 = y := rfl
      rw [hgy]
      have hb : ref10_behind (gi ((x :: y :: U).map toRef) 1) = y.At + 1 := by rw [hg1]; unfold ref10_behind toRef; simp [hy, wD]
      have hrow : ref10_row ((x :: y :: U).map toRef) 2 (ref10_behind (gi ((x :: y :: U).map toRef) 1)) 0 10000000 false = rrGo 0 10000000 false U (y.At + 1) 0 [] := by
        unfold ref10_row; rw [hb]; congr 1; exact drop_from (x :: y :: U) 2
      rw [hrow]
      have hlr : proof_line_row 0 10000000 false ⟨U, y.At + 1, 0⟩ = rowGo 0 10000000 false U (y.At + 1) [] := by simp [proof_line_row]
      rw [hlr]
      obtain ⟨r1, r2⟩ := row_rel 0 10000000 false U (y.At + 1) 0 []
      generalize rrGo 0 10000000 false U (y.At + 1) 0 [] = w at *
      generalize rowGo 0 10000000 false U (y.At + 1) [] = q at *
      by_cases hE : w.E ≠ 0
      · obtain ⟨a1, a2⟩ := r1 hE
        rw [if_pos hE]
        have : endS q.2 = q.2 := by
          unfold endS; split
          · rfl
          · unfold proof_line_wrong; rw [if_neg (by rw [a1]; exact hE)]
        rw [this]
        exact ⟨a1, fun _ => a2, fun h => absurd (a1 ▸ h) hE⟩
      · rw [if_neg hE]
        obtain ⟨a1, a2, j, b1, b2, b3, b4, b5⟩ := r2 (by simpa using hE)
        have hlen : (2 + w.Taken < (((x :: y :: U).map toRef).length : Int)) ↔ j < U.length := by rw [b3]; simp; omega
        by_cases hj : j < U.length
        · rw [if_pos (hlen.2 hj)]
          obtain ⟨z, V, hz⟩ : ∃ z V, U.drop j = z :: V := by
            cases hd : U.drop j with
            | nil => have := congrArg List.length hd; simp at this; omega
            | cons z V => exact ⟨z, V, rfl⟩
          have he : endS q.2 = ⟨q.2.rest, z.At, 6⟩ := by
            unfold endS; rw [b4, hz]; simp only; unfold proof_line_wrong; rw [if_pos a1, b4, hz]
          rw [he]
          refine ⟨rfl, fun _ => ?_, fun h => by simp at h⟩
          have hz2 : U[j]? = some z := by
            have := congrArg List.head? hz
            rwa [List.head?_drop] at this
          show z.At = (gi ((x :: y :: U).map toRef) (2 + w.Taken)).At
          rw [b3]
          rw [at_toRef (x :: y :: U) (by omega) (by simp; omega)]
          have : (2 + (0 + (j : Int))).toNat = j + 2 := by omega
          unfold gi; rw [this]; simp [hz2]
        · rw [if_neg (fun h => hj (hlen.1 h))]
          have he : endS q.2 = q.2 := by
            unfold endS; rw [b4, List.drop_eq_nil_of_le (by omega)]
          rw [he]
          refine ⟨a1, fun h => absurd a1 h, fun _ => ?_⟩
          simp [a2]
    · -- an addition
      unfold stepB
      rw [if_neg (fun h => hd h.2)]
      have hnd : ¬ (((x :: T).map toRef).length > 1 ∧ (gi ((x :: T).map toRef) 1).Text = wD) := by
        rintro ⟨a, b⟩
        cases T with
        | nil => simp at a
        | cons y U => exact hd (by have : y.Text = wD := b
                                   simp [this])
      rw [if_neg hnd]
      have hr1 : ref10_row ((x :: T).map toRef) 1 (ref10_behind (toRef x)) (-100000) 100000 true = rrGo (-100000) 100000 true T (x.At + x.Text.length) 0 [] := by
        unfold ref10_row; congr 1; exact drop_from (x :: T) 1
      have hl1 : proof_line_row (-100000) 100000 true ⟨T, x.At + x.Text.length, 0⟩ = rowGo (-100000) 100000 true T (x.At + x.Text.length) [] := by simp [proof_line_row]
      rw [hr1, hl1]
      obtain ⟨p1, p2⟩ := row_rel (-100000) 100000 true T (x.At + x.Text.length) 0 []
      generalize rrGo (-100000) 100000 true T (x.At + x.Text.length) 0 [] = w1 at *
      generalize rowGo (-100000) 100000 true T (x.At + x.Text.length) [] = q1 at *
      unfold ref10_step.addStep
      by_cases hE1 : w1.E ≠ 0
      · obtain ⟨a1, a2⟩ := p1 hE1
        have e1 : q1.2.e ≠ 0 := by rw [a1]; exact hE1
        rw [if_pos hE1]
        have e2 : proof_line_row (-10000000) 10000000 false q1.2 = ([], q1.2) := by unfold proof_line_row; rw [if_pos e1]
        have e3 : proof_line_wrong x.At 7 q1.2 = q1.2 := by unfold proof_line_wrong; rw [if_neg e1]
        simp only [e2, e3]
        have e4 : (if id = 0 then q1.2 else q1.2) = q1.2 := by split <;> rfl
        rw [e4, endS_bad e1]
        exact ⟨a1, fun _ => a2, fun h => absurd h e1⟩
      · rw [if_neg hE1]
        obtain ⟨a1, a2, j, b1, b2, b3, b4, b5⟩ := p2 (by simpa using hE1)
        have hr2 : ref10_row ((x :: T).map toRef) (1 + w1.Taken) (ref10_behind (gi ((x :: T).map toRef) (1 + w1.Taken - 1))) (-10000000) 10000000 false = rrGo (-10000000) 10000000 false q1.2.rest q1.2.at_ 0 [] := by
          unfold ref10_row
          rw [b3, end_toRef (x :: T) (by omega) (by simp; omega), drop_from, b4, b5]
          have k1 : (1 + (0 + (j : Int))).toNat = j + 1 := by omega
          have k2 : gi (x :: T) (1 + (0 + (j : Int)) - 1) = gi T ((j : Int) - 1) := by
            obtain ⟨m, rfl⟩ : ∃ m, j = m + 1 := ⟨j - 1, by omega⟩
            have u1 : (1 + (0 + ((m + 1 : Nat) : Int)) - 1).toNat = m + 1 := by omega
            have u2 : (((m + 1 : Nat) : Int) - 1).toNat = m := by omega
            simp only [gi, u1, u2, List.getD_cons_succ]
          rw [k1, k2]; rfl
        have hl2 : proof_line_row (-10000000) 10000000 false q1.2 = rowGo (-10000000) 10000000 false q1.2.rest q1.2.at_ [] := by unfold proof_line_row; rw [if_neg (by simp [a1])]
        rw [hr2, hl2]
        obtain ⟨r1, r2⟩ := row_rel (-10000000) 10000000 false q1.2.rest q1.2.at_ 0 []
        generalize rrGo (-10000000) 10000000 false q1.2.rest q1.2.at_ 0 [] = w2 at *
        generalize rowGo (-10000000) 10000000 false q1.2.rest q1.2.at_ [] = q2 at *
        unfold ref10_step.addStep2
        by_cases hE2 : w2.E ≠ 0
        · obtain ⟨c1, c2⟩ := r1 hE2
          have e1 : q2.2.e ≠ 0 := by rw [c1]; exact hE2
          rw [if_pos hE2]
          have e3 : proof_line_wrong x.At 7 q2.2 = q2.2 := by unfold proof_line_wrong; rw [if_neg e1]
          have e4 : (if id = 0 then q2.2 else q2.2) = q2.2 := by split <;> rfl
          rw [e3, e4, endS_bad e1]
          exact ⟨c1, fun _ => c2, fun h => absurd h e1⟩
        · rw [if_neg hE2]
          obtain ⟨c1, c2, i, d1, d2, d3, d4, d5⟩ := r2 (by simpa using hE2)
          by_cases hi : id = 0
          · rw [if_pos hi, if_pos hi]
            have e3 : proof_line_wrong x.At 7 q2.2 = ⟨q2.2.rest, x.At, 7⟩ := by unfold proof_line_wrong; rw [if_pos c1]
            rw [e3, endS_bad (by simp)]
            refine ⟨rfl, fun _ => rfl, fun h => by simp at h⟩
          · rw [if_neg hi, if_neg hi]
            have hrest : q2.2.rest = T.drop (j + i) := by rw [d4, b4, List.drop_drop]
            have hij : j + i ≤ T.length := by rw [b4] at d2; simp at d2; omega
            have hlen : (1 + w1.Taken + w2.Taken < (((x :: T).map toRef).length : Int)) ↔ j + i < T.length := by rw [b3, d3]; simp; omega
            by_cases hj : j + i < T.length
            · rw [if_pos (hlen.2 hj)]
              obtain ⟨z, V, hz⟩ : ∃ z V, T.drop (j + i) = z :: V := by
                cases hd : T.drop (j + i) with
                | nil => have := congrArg List.length hd; simp at this; omega
                | cons z V => exact ⟨z, V, rfl⟩
              rw [endS_ok c1 (hrest.trans hz)]
              refine ⟨rfl, fun _ => ?_, fun h => by simp at h⟩
              have hz2 : T[j + i]? = some z := by
                have := congrArg List.head? hz
                rwa [List.head?_drop] at this
              show z.At = (gi ((x :: T).map toRef) (1 + w1.Taken + w2.Taken)).At
              rw [b3, d3, at_toRef (x :: T) (by omega) (by simp; omega)]
              have : (1 + (0 + (j : Int)) + (0 + (i : Int))).toNat = (j + i) + 1 := by omega
              unfold gi; rw [this]; simp [hz2]
            · rw [if_neg (fun h => hj (hlen.1 h)), endS_nil (by rw [hrest, List.drop_eq_nil_of_le (by omega)])]
              refine ⟨c1, fun h => absurd c1 h, fun _ => ?_⟩
              simp [a2, c2]
def rowOK (lo hi : Int) (tw : Bool) (l : List Int) : Prop := l.length ≤ 1000 ∧ (∀ n ∈ l, n ≠ 0 ∧ lo ≤ n ∧ n ≤ hi) ∧ (tw = true → l.Nodup)
theorem within_iff (l : List Int) (lo : Int) : withinB l lo = true ↔ l.length ≤ 1000 ∧ ∀ n ∈ l, n ≠ 0 ∧ lo ≤ n ∧ n ≤ 10000000 := by
  unfold withinB
  rw [Bool.and_eq_true, decide_eq_true_eq, List.all_eq_true]
  constructor
  · rintro ⟨a, b⟩
    refine ⟨a, fun n hn => ?_⟩
    have := b n hn
    unfold inH at this
    simp at this; omega
  · rintro ⟨a, b⟩
    refine ⟨a, fun n hn => ?_⟩
    have := b n hn
    unfold inH
    simp; omega
theorem may_iff (s : Api_Step) : mayS s = true ↔ (s.Kind = 1 ∧ 1 ≤ s.Id ∧ s.Id ≤ 10000000 ∧ rowOK (-100000) 100000 true s.Lits ∧ rowOK (-10000000) 10000000 false s.Hints) ∨ (s.Kind = 2 ∧ 0 ≤ s.Id ∧ s.Id ≤ 10000000 ∧ s.Lits = [] ∧ rowOK 1 10000000 false s.Hints) := by
  unfold mayS
  by_cases h1 : s.Kind = 1
  · rw [if_pos h1]
    simp only [Bool.and_eq_true, decide_eq_true_eq, within_iff, beq_iff_eq, clauseE_iff s.Lits 100000 (by omega)]
    unfold rowOK
    constructor
    · rintro ⟨⟨⟨a, b⟩, c, d, e⟩, f, g⟩
      exact .inl ⟨h1, a, b, ⟨c, d, fun _ => e⟩, f, g, fun h => by simp at h⟩
    · rintro (⟨_, a, b, ⟨c, d, e⟩, f, g, _⟩ | ⟨k, _⟩)
      · exact ⟨⟨⟨a, b⟩, c, d, e rfl⟩, f, g⟩
      · omega
  · rw [if_neg h1]
    by_cases h2 : s.Kind = 2
    · rw [if_pos h2]
      simp only [Bool.and_eq_true, decide_eq_true_eq, within_iff, List.isEmpty_iff]
      unfold rowOK
      constructor
      · rintro ⟨⟨⟨a, b⟩, c⟩, f, g⟩
        exact .inr ⟨h2, a, b, c, f, g, fun h => by simp at h⟩
      · rintro (⟨k, _⟩ | ⟨_, a, b, c, f, g, _⟩)
        · omega
        · exact ⟨⟨⟨a, b⟩, c⟩, f, g⟩
    · rw [if_neg h2]; simp [h1, h2]
theorem badGo_iff : ∀ (l : List Api_Step) (i : Int), 0 ≤ i → ((badGo l i ≥ 0) ↔ ∃ s ∈ l, mayS s = false)
  | [], i, _ => by simp [badGo]
  | s :: l, i, h => by
    have st : badGo (s :: l) i = if mayS s then badGo l (i + 1) else i := rfl
    rw [st]
    by_cases hm : mayS s = true
    · rw [if_pos hm, badGo_iff l (i + 1) (by omega)]; simp [hm]
    · rw [if_neg hm]; simp [hm]; exact h
theorem chk_iff (l : List Api_Step) : (chkS l).2 = 0 ↔ l.length ≤ 1000000 ∧ ∀ s ∈ l, mayS s = true := by
  unfold chkS
  by_cases h : l.length > 1000000
  · rw [if_pos h]; simp; omega
  · rw [if_neg h]
    have := badGo_iff l 0 (by decide)
    by_cases hb : badGo l 0 ≥ 0
    · rw [if_pos hb]
      obtain ⟨s, hs, hm⟩ := this.1 hb
      simp
      intro _
      exact ⟨s, hs, hm⟩
    · rw [if_neg hb]
      simp
      refine ⟨by omega, fun s hs => ?_⟩
      cases hm : mayS s with
      | true => rfl
      | false => exact absurd (this.2 ⟨s, hs, hm⟩) hb
end Go.Proofs.YtkgcdoeldilhaaaGreatDoor
