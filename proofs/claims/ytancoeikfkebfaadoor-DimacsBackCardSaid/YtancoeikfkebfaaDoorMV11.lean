/- Formulas as text: both readings are one, places, and back. Plain. -/
import Derived.Test.YtancoeikfkebfaaDoorMV10
set_option linter.all false
namespace Go.Proofs.YtancoeikfkebfaaDoor
open Go Go.Sv Go.Pu
/-! the two readings -/
def numE (t : Bs) (lo hi : Int) : Int := (numOf t lo hi).2
def refGo (vars many end_ : Int) : List Token_Token → List (List Int) → List Int → Api_Formula × Int × Int
  | [], cl, _ => if (cl.length : Int) < many then (f0, end_, 4) else (⟨vars, cl⟩, end_, 0)
  | t :: r, cl, c => if (cl.length : Int) = many then (f0, t.At, 6)
      else if (numOf t.Text (-vars) vars).2 ≠ 0 then (f0, t.At, (numOf t.Text (-vars) vars).2)
      else if (numOf t.Text (-vars) vars).1 = 0 then refGo vars many end_ r (cl ++ [c]) []
      else if addE c (numOf t.Text (-vars) vars).1 ≠ 0 then (f0, t.At, addE c (numOf t.Text (-vars) vars).1)
      else refGo vars many end_ r cl (c ++ [(numOf t.Text (-vars) vars).1])
/-- the rest of the reading, in the middle of a clause -/
def midR (vars many : Int) (cl : List (List Int)) (len : Int) (q : List Int × Rd) : Api_Formula × Int × Int :=
  endR vars len (clsGo vars (many - (cl.length + 1)).toNat q.2 (cl ++ [q.1]))
theorem clsGo_bad (vars : Int) : ∀ (n : Nat) (r : Rd) (cl : List (List Int)), r.fault.e ≠ 0 → clsGo vars n r cl = (cl, r)
  | 0, _, _, _ => rfl
  | n + 1, r, cl, h => by simp [clsGo, h]
theorem clsGo_succ (vars : Int) (n : Nat) (r : Rd) (cl : List (List Int)) (h : r.fault.e = 0) : clsGo vars (n + 1) r cl = clsGo vars n (clGo vars r.fault r.end_ r.rest []).2 (cl ++ [(clGo vars r.fault r.end_ r.rest []).1]) := by
  simp [clsGo, h, dimacs_reader_clause]
theorem mid_bad (vars many len : Int) (cl : List (List Int)) (c : List Int) (r : Rd) (h : r.fault.e ≠ 0) : midR vars many cl len (c, r) = (f0, r.fault.at_, r.fault.e) := by
  simp [midR, clsGo_bad _ _ _ _ h, endR, h]
theorem addE_ne (c : List Int) (l : Int) : addE c l = 0 ∨ addE c l = 3 ∨ addE c l = 21 ∨ addE c l = 11 := by
  unfold addE; repeat' split
  all_goals simp
theorem go_eq (vars many end_ : Int) (fl : Dimacs_fault) (hf : fl.e = 0) : ∀ (n : Nat) (T : List Token_Token), T.length = n → ∀ (cl : List (List Int)) (c : List Int),
    ((cl.length : Int) < many → midR vars many cl end_ (clGo vars fl end_ T c) = refGo vars many end_ T cl c) ∧
    ((cl.length : Int) = many → endR vars end_ (cl, ⟨fl, T, end_⟩) = refGo vars many end_ T cl c) := by
  intro n
  induction n with
  | zero =>
    intro T hT cl c
    obtain rfl : T = [] := List.eq_nil_of_length_eq_zero hT
    refine ⟨fun h => ?_, fun h => ?_⟩
    · rw [show clGo vars fl end_ [] c = (c, ⟨⟨end_, 4⟩, [], end_⟩) from rfl, mid_bad _ _ _ _ _ _ (by simp)]
      simp [refGo, h]
    · simp [endR, hf, refGo, h]
  | succ n ih =>
    intro T hT cl c
    obtain ⟨t, T, rfl⟩ : ∃ t T', T = t :: T' := by cases T with | nil => simp at hT | cons t T => exact ⟨t, T, rfl⟩
    simp only [List.length_cons, Nat.add_right_cancel_iff] at hT
    refine ⟨fun h => ?_, fun h => ?_⟩
    · have hne : ¬ ((cl.length : Int) = many) := by omega
      unfold clGo refGo
      rw [if_neg hne]
      by_cases h1 : (numOf t.Text (-vars) vars).2 ≠ 0
      · rw [if_pos h1, if_pos h1, mid_bad _ _ _ _ _ _ h1]
      · rw [if_neg h1, if_neg h1]
        by_cases h2 : (numOf t.Text (-vars) vars).1 = 0
        · rw [if_pos h2, if_pos h2]
          rcases Int.lt_or_eq_of_le (show ((cl ++ [c]).length : Int) ≤ many by simp; omega) with h3 | h3
          · rw [← ((ih T hT (cl ++ [c]) []).1 h3)]
            unfold midR
            simp only
            obtain ⟨k, hk⟩ : ∃ k, (many - (cl.length + 1)).toNat = k + 1 := ⟨(many - (cl.length + 1)).toNat - 1, by simp at h3; omega⟩
            rw [hk, clsGo_succ _ _ _ _ hf, show k = (many - (((cl ++ [c]).length : Nat) + 1 : Int)).toNat by simp at h3 ⊢; omega]
          · rw [← ((ih T hT (cl ++ [c]) []).2 h3)]
            unfold midR
            have : (many - (cl.length + 1)).toNat = 0 := by simp at h3; omega
            rw [this]
            rfl
        · rw [if_neg h2, if_neg h2]
          by_cases h3 : addE c (numOf t.Text (-vars) vars).1 ≠ 0
          · rw [if_pos h3, if_pos h3, mid_bad _ _ _ _ _ _ h3]
          · rw [if_neg h3, if_neg h3]
            exact (ih T hT cl _).1 h
    · simp [endR, hf, refGo, h]
theorem body_eq (vars many end_ : Int) (fl : Dimacs_fault) (hf : fl.e = 0) (T : List Token_Token) (h0 : 0 ≤ many) :
    endR vars end_ (clsGo vars many.toNat ⟨fl, T, end_⟩ []) = refGo vars many end_ T [] [] := by
  rcases Int.lt_or_eq_of_le h0 with h | h
  · rw [← ((go_eq vars many end_ fl hf _ T rfl [] []).1 (by simpa using h))]
    unfold midR
    obtain ⟨k, hk⟩ : ∃ k, many.toNat = k + 1 := ⟨many.toNat - 1, by omega⟩
    rw [hk, clsGo_succ _ _ _ _ hf, show k = (many - ((([] : List (List Int)).length : Nat) + 1 : Int)).toNat by simp; omega]
  · subst h
    exact (go_eq vars 0 end_ fl hf _ T rfl [] []).2 (by simp)
/-- the whole reading of tokens -/
def parseT (T : List Token_Token) (end_ : Int) : Api_Formula × Int × Int :=
  match T with
  | [] => (f0, end_, 4)
  | a :: T => if a.Text ≠ wP then (f0, a.At, 8) else match T with
    | [] => (f0, end_, 4)
    | b :: T => if b.Text ≠ wCnf then (f0, b.At, 8) else match T with
      | [] => (f0, end_, 4)
      | c :: T => if (numOf c.Text 0 100000).2 ≠ 0 then (f0, c.At, (numOf c.Text 0 100000).2) else match T with
        | [] => (f0, end_, 4)
        | d :: T => if (numOf d.Text 0 1000000).2 ≠ 0 then (f0, d.At, (numOf d.Text 0 1000000).2) else refGo (numOf c.Text 0 100000).1 (numOf d.Text 0 1000000).1 end_ T [] []
theorem numOf_in {t : Bs} {lo hi : Int} (h : (numOf t lo hi).2 = 0) : lo ≤ (numOf t lo hi).1 ∧ (numOf t lo hi).1 ≤ hi := by
  unfold numOf at *
  split at h
  · split at h
    · rename_i h1 h2; rw [if_pos h1, if_pos h2]; exact h2
    · simp at h
  · simp at h
theorem fin_bad (vars len : Int) (n : Nat) (r : Rd) (h : r.fault.e ≠ 0) : endR vars len (clsGo vars n r []) = (f0, r.fault.at_, r.fault.e) := by
  rw [clsGo_bad _ _ _ _ h]; simp [endR, h]
theorem bad_word (w : Bs) (r : Rd) (h : r.fault.e ≠ 0) : dimacs_reader_word w r = r := by
  simp [dimacs_reader_word, dimacs_reader_next, h]
theorem bad_number (lo hi : Int) (r : Rd) (h : r.fault.e ≠ 0) : dimacs_reader_number lo hi r = (0, tok0, r) := by
  simp [dimacs_reader_number, dimacs_reader_next, h]
theorem word_nil (w : Bs) (e : Int) : dimacs_reader_word w ⟨⟨0, 0⟩, [], e⟩ = ⟨⟨e, 4⟩, [], e⟩ := by
  simp [dimacs_reader_word, dimacs_reader_next]
theorem word_cons (w : Bs) (e : Int) (t : Token_Token) (T : List Token_Token) : dimacs_reader_word w ⟨⟨0, 0⟩, t :: T, e⟩ = if t.Text ≠ w then ⟨⟨t.At, 8⟩, T, e⟩ else ⟨⟨0, 0⟩, T, e⟩ := by
  by_cases h : t.Text = w <;> simp [dimacs_reader_word, dimacs_reader_next, dimacs_reader_wrong, h]
theorem number_nil (lo hi e : Int) : dimacs_reader_number lo hi ⟨⟨0, 0⟩, [], e⟩ = (0, tok0, ⟨⟨e, 4⟩, [], e⟩) := by
  simp [dimacs_reader_number, dimacs_reader_next]
theorem number_cons (lo hi e : Int) (t : Token_Token) (T : List Token_Token) : dimacs_reader_number lo hi ⟨⟨0, 0⟩, t :: T, e⟩ = ((numOf t.Text lo hi).1, t, if (numOf t.Text lo hi).2 ≠ 0 then ⟨⟨t.At, (numOf t.Text lo hi).2⟩, T, e⟩ else ⟨⟨0, 0⟩, T, e⟩) := by
  by_cases h : (numOf t.Text lo hi).2 = 0 <;> simp [dimacs_reader_number, dimacs_reader_next, dimacs_reader_wrong, h]
theorem parse_eq (s : Bs) (hs : s.length ≤ 1000000) : dimacs_Parse s = parseT (token_Lines s).flatten s.length := by
  have hl : ¬ s.length > 1000000 := by omega
  unfold dimacs_Parse headR
  rw [if_neg hl]
  unfold dimacs_open
  generalize (token_Lines s).flatten = T
  generalize (s.length : Int) = e
  cases T with
  | nil => 
    rw [word_nil, bad_word _ _ (by simp), bad_number _ _ _ (by simp), bad_number _ _ _ (by simp), fin_bad _ _ _ _ (by simp)]
    rfl
  | cons a T =>
    rw [word_cons]
    unfold parseT
    by_cases h1 : a.Text ≠ wP
    · rw [if_pos h1, bad_word _ _ (by simp), bad_number _ _ _ (by simp), bad_number _ _ _ (by simp), fin_bad _ _ _ _ (by simp)]
      simp only [if_pos h1]
    · rw [if_neg h1]
      simp only [if_neg h1]
      cases T with
      | nil => rw [word_nil, bad_number _ _ _ (by simp), bad_number _ _ _ (by simp), fin_bad _ _ _ _ (by simp)]
      | cons b T =>
        rw [word_cons]
        by_cases h2 : b.Text ≠ wCnf
        · rw [if_pos h2, bad_number _ _ _ (by simp), bad_number _ _ _ (by simp), fin_bad _ _ _ _ (by simp)]
          simp only [if_pos h2]
        · rw [if_neg h2]
          simp only [if_neg h2]
          cases T with
          | nil => rw [number_nil, bad_number _ _ _ (by simp), fin_bad _ _ _ _ (by simp)]
          | cons c T =>
            rw [number_cons]
            by_cases h3 : (numOf c.Text 0 100000).2 ≠ 0
            · simp only [if_pos h3]
              rw [bad_number _ _ _ h3, fin_bad _ _ _ _ h3]
            · simp only [if_neg h3]
              cases T with
              | nil => rw [number_nil, fin_bad _ _ _ _ (by simp)]
              | cons d T =>
                rw [number_cons]
                by_cases h4 : (numOf d.Text 0 1000000).2 ≠ 0
                · simp only [if_pos h4]
                  rw [fin_bad _ _ _ _ h4]
                · simp only [if_neg h4]
                  exact body_eq _ _ _ _ rfl T (numOf_in (by simpa using h4)).1
/-! places -/
theorem ref_end (vars many e : Int) : ∀ (T : List Token_Token) (cl : List (List Int)) (c : List Int), (refGo vars many e T cl c).2.2 = 0 ∨ (refGo vars many e T cl c).2.2 = 4 → (refGo vars many e T cl c).2.1 = e
  | [], cl, c, _ => by unfold refGo; split <;> rfl
  | t :: r, cl, c, h => by
    unfold refGo at h ⊢
    by_cases h1 : (cl.length : Int) = many
    · rw [if_pos h1] at h; simp at h
    · rw [if_neg h1] at h ⊢
      by_cases h2 : (numOf t.Text (-vars) vars).2 ≠ 0
      · rw [if_pos h2] at h; have := numOf_e t.Text (-vars) vars; simp at h; omega
      · rw [if_neg h2] at h ⊢
        by_cases h3 : (numOf t.Text (-vars) vars).1 = 0
        · rw [if_pos h3] at h ⊢; exact ref_end vars many e r _ _ h
        · rw [if_neg h3] at h ⊢
          by_cases h4 : addE c (numOf t.Text (-vars) vars).1 ≠ 0
          · rw [if_pos h4] at h; have := addE_ne c (numOf t.Text (-vars) vars).1; simp at h; omega
          · rw [if_neg h4] at h ⊢; exact ref_end vars many e r _ _ h
theorem ref_hit (vars many e : Int) : ∀ (T : List Token_Token) (cl : List (List Int)) (c : List Int), (refGo vars many e T cl c).2.2 ≠ 0 → (refGo vars many e T cl c).2.2 ≠ 4 →
    ∃ A t B, T = A ++ t :: B ∧ (refGo vars many e T cl c).2.1 = t.At ∧ ∀ X e', refGo vars many e' (A ++ t :: X) cl c = refGo vars many e T cl c
  | [], cl, c, h0, h4 => by unfold refGo at h0 h4; split at h0 <;> simp_all
  | t :: r, cl, c, h0, h4 => by
    by_cases h1 : (cl.length : Int) = many
    · exact ⟨[], t, r, rfl, by simp [refGo, h1], fun X e' => by simp [refGo, h1]⟩
    · by_cases h2 : (numOf t.Text (-vars) vars).2 ≠ 0
      · exact ⟨[], t, r, rfl, by simp [refGo, h1, h2], fun X e' => by simp [refGo, h1, h2]⟩
      · have h2' : (numOf t.Text (-vars) vars).2 = 0 := by simpa using h2
        have st : ∀ (e' : Int) (X : List Token_Token), refGo vars many e' (t :: X) cl c = if (numOf t.Text (-vars) vars).1 = 0 then refGo vars many e' X (cl ++ [c]) [] else if addE c (numOf t.Text (-vars) vars).1 ≠ 0 then (f0, t.At, addE c (numOf t.Text (-vars) vars).1) else refGo vars many e' X cl (c ++ [(numOf t.Text (-vars) vars).1]) := by
          intro e' X; conv => lhs; unfold refGo
          rw [if_neg h1, if_neg h2]
        rw [st] at h0 h4
        by_cases h3 : (numOf t.Text (-vars) vars).1 = 0
        · rw [if_pos h3] at h0 h4
          obtain ⟨A, u, B, hr, ha, hx⟩ := ref_hit vars many e r _ _ h0 h4
          exact ⟨t :: A, u, B, by rw [hr]; rfl, by rw [st, if_pos h3]; exact ha, fun X e' => by rw [List.cons_append, st, st, if_pos h3, if_pos h3]; exact hx X e'⟩
        · rw [if_neg h3] at h0 h4
          by_cases h5 : addE c (numOf t.Text (-vars) vars).1 ≠ 0
          · exact ⟨[], t, r, rfl, by rw [st, if_neg h3, if_pos h5], fun X e' => by rw [List.nil_append, st, st, if_neg h3, if_pos h5, if_neg h3, if_pos h5]⟩
          · rw [if_neg h5] at h0 h4
            obtain ⟨A, u, B, hr, ha, hx⟩ := ref_hit vars many e r _ _ h0 h4
            exact ⟨t :: A, u, B, by rw [hr]; rfl, by rw [st, if_neg h3, if_neg h5]; exact ha, fun X e' => by rw [List.cons_append, st, st, if_neg h3, if_neg h5, if_neg h3, if_neg h5]; exact hx X e'⟩
theorem parse_end (T : List Token_Token) (e : Int) (h : (parseT T e).2.2 = 0 ∨ (parseT T e).2.2 = 4) : (parseT T e).2.1 = e := by
  unfold parseT at h ⊢
  cases T with
  | nil => rfl
  | cons a T =>
    simp only at h ⊢
    by_cases h1 : a.Text ≠ wP
    · rw [if_pos h1] at h; simp at h
    rw [if_neg h1] at h ⊢
    cases T with
    | nil => rfl
    | cons b T =>
      simp only at h ⊢
      by_cases h2 : b.Text ≠ wCnf
      · rw [if_pos h2] at h; simp at h
      rw [if_neg h2] at h ⊢
      cases T with
      | nil => rfl
      | cons c T =>
        simp only at h ⊢
        by_cases h3 : (numOf c.Text 0 100000).2 ≠ 0
        · rw [if_pos h3] at h; have := numOf_e c.Text 0 100000; simp at h; omega
        rw [if_neg h3] at h ⊢
        cases T with
        | nil => rfl
        | cons d T =>
          simp only at h ⊢
          by_cases h4 : (numOf d.Text 0 1000000).2 ≠ 0
          · rw [if_pos h4] at h; have := numOf_e d.Text 0 1000000; simp at h; omega
          rw [if_neg h4] at h ⊢
          exact ref_end _ _ _ _ _ _ h
theorem parse_hit (T : List Token_Token) (e : Int) (h0 : (parseT T e).2.2 ≠ 0) (h4 : (parseT T e).2.2 ≠ 4) : ∃ A t B, T = A ++ t :: B ∧ (parseT T e).2.1 = t.At ∧ ∀ X e', parseT (A ++ t :: X) e' = parseT T e := by
  cases T with
  | nil => simp [parseT] at h4
  | cons a T =>
    by_cases h1 : a.Text ≠ wP
    · exact ⟨[], a, T, rfl, by simp [parseT, h1], fun X e' => by simp [parseT, h1]⟩
    have h1' : a.Text = wP := by simpa using h1
    cases T with
    | nil => simp [parseT, h1'] at h4
    | cons b T =>
      by_cases h2 : b.Text ≠ wCnf
      · exact ⟨[a], b, T, rfl, by simp [parseT, h1', h2], fun X e' => by simp [parseT, h1', h2]⟩
      have h2' : b.Text = wCnf := by simpa using h2
      cases T with
      | nil => simp [parseT, h1', h2'] at h4
      | cons c T =>
        by_cases h3 : (numOf c.Text 0 100000).2 ≠ 0
        · exact ⟨[a, b], c, T, rfl, by simp [parseT, h1', h2', h3], fun X e' => by simp [parseT, h1', h2', h3]⟩
        have h3' : (numOf c.Text 0 100000).2 = 0 := by simpa using h3
        cases T with
        | nil => simp [parseT, h1', h2', h3'] at h4
        | cons d T =>
          by_cases h5 : (numOf d.Text 0 1000000).2 ≠ 0
          · exact ⟨[a, b, c], d, T, rfl, by simp [parseT, h1', h2', h3', h5], fun X e' => by simp [parseT, h1', h2', h3', h5]⟩
          have h5' : (numOf d.Text 0 1000000).2 = 0 := by simpa using h5
          have st : ∀ X e', parseT (a :: b :: c :: d :: X) e' = refGo (numOf c.Text 0 100000).1 (numOf d.Text 0 1000000).1 e' X [] [] := by
            intro X e'; simp [parseT, h1', h2', h3', h5']
          rw [st] at h0 h4
          obtain ⟨A, u, B, hr, ha, hx⟩ := ref_hit _ _ _ _ _ _ h0 h4
          exact ⟨a :: b :: c :: d :: A, u, B, by rw [hr]; rfl, by rw [st]; exact ha, fun X e' => by
            rw [st]
            exact (st _ _).trans (hx X e')⟩
/-! tokens ahead of a cut -/
abbrev flat (s : Bs) (k a : Int) : List Token_Token := (linesL s k a).flatten
theorem flat_nil (k a : Int) : flat [] k a = [] := rfl
theorem flat_cons {l : Bs} (h : l ≠ []) (k a : Int) : flat l k a = rowOf (tw l) k a ++ flat (l.drop ((tw l).length + 1)) (k + 1) (a + (tw l).length + 1) := by
  unfold flat; rw [linesL_cons h, List.flatten_cons]
theorem wgo_in_range : ∀ (l : Bs) (i : Int) (cur : Bs), ∀ q ∈ wgo l i cur, i - cur.length ≤ q.1 ∧ q.1 + q.2.length ≤ i + l.length
  | [], i, cur, q, hq => by
    unfold wgo at hq; split at hq
    · simp at hq
    · simp at hq; subst hq; simp
  | b :: r, i, cur, q, hq => by
    unfold wgo at hq
    split at hq
    · split at hq
      · have := wgo_in_range r (i + 1) [] q hq; simp at this ⊢; omega
      · rcases List.mem_cons.1 hq with rfl | hq
        · simp; omega
        · have := wgo_in_range r (i + 1) [] q hq; simp at this ⊢; omega
    · have := wgo_in_range r (i + 1) (cur ++ [b]) q hq; simp at this ⊢; omega
theorem row_range {l : Bs} {k a : Int} {t : Token_Token} (h : t ∈ rowOf l k a) : a ≤ t.At ∧ t.At + t.Text.length ≤ a + l.length := by
  unfold rowOf at h
  split at h
  · simp at h
  · obtain ⟨q, hq, rfl⟩ := List.mem_map.1 h
    have := wgo_in_range l a [] q hq
    simpa using this
theorem flat_ge : ∀ (n : Nat) (l : Bs), l.length = n → ∀ (k a : Int), ∀ t ∈ flat l k a, a ≤ t.At := by
  intro n
  induction n using Nat.strongRecOn with
  | _ n ih =>
    intro l hl k a t ht
    by_cases h : l = []
    · subst h; simp [flat_nil] at ht
    · rw [flat_cons h] at ht
      rcases List.mem_append.1 ht with ht | ht
      · exact (row_range ht).1
      · have hp : 0 < l.length := List.length_pos_iff.2 h
        have := ih _ (by rw [List.length_drop]; omega) (l.drop ((tw l).length + 1)) rfl _ _ t ht
        omega
theorem wgo_split : ∀ (p : Bs) (g : UInt8) (r : Bs) (i : Int) (cur : Bs), gapB g = true → wgo (p ++ g :: r) i cur = wgo p i cur ++ wgo r (i + p.length + 1) []
  | [], g, r, i, cur, hg => by
    by_cases hc : cur = []
    · subst hc; simp [wgo_gap0 hg, wgo]
    · rw [List.nil_append, wgo_gap hg hc, wgo_nil _ hc]; simp
  | b :: p, g, r, i, cur, hg => by
    rw [List.cons_append]
    by_cases hb : gapB b = true
    · by_cases hc : cur = []
      · subst hc; rw [wgo_gap0 hb, wgo_gap0 hb, wgo_split p g r _ _ hg, List.length_cons]
        congr 2; omega
      · rw [wgo_gap hb hc, wgo_gap hb hc, wgo_split p g r _ _ hg, List.length_cons, List.cons_append]
        congr 3; omega
    · have hb : gapB b = false := by simpa using hb
      rw [wgo_in hb, wgo_in hb, wgo_split p g r _ _ hg, List.length_cons]
      congr 2; omega
def okY (y : Bs) : Prop := ∀ b r, y = b :: r → inB b = false
theorem tw_no : ∀ {p : Bs} (y : Bs), (∀ b ∈ p, b ≠ 10) → tw (p ++ y) = p ++ tw y
  | [], y, _ => rfl
  | b :: p, y, h => by
    have hb : (b != 10) = true := by simpa using h b (by simp)
    have := tw_no (p := p) y (fun c hc => h c (by simp [hc]))
    unfold tw at *
    rw [List.cons_append, List.takeWhile_cons, hb]
    simp only [if_true]
    rw [this]; rfl
theorem tw_ten : ∀ {l : Bs} (r : Bs), (∀ b ∈ l, b ≠ 10) → tw (l ++ 10 :: r) = l := fun {l} r h => by rw [tw_no _ h]; simp [tw]
theorem gap10 : gapB 10 = false := by decide
theorem gap9 : gapB 9 = true := by decide
theorem remark_9 (p x : Bs) : remark (p ++ 9 :: x) = true → ∃ q, p = 99 :: 32 :: q := by
  intro h
  unfold remark at h
  rw [Bool.or_eq_true] at h
  rcases p with _ | ⟨a, _ | ⟨b, q⟩⟩
  · rcases h with h | h
    · simp at h
    · simp [Lib.hasPrefix] at h
  · rcases h with h | h
    · simp at h
    · simp [Lib.hasPrefix] at h
  · rcases h with h | h
    · simp at h
    · simp [Lib.hasPrefix] at h; exact ⟨q, by rw [h.1, h.2]⟩
theorem row_no {l : Bs} {k a : Int} (h : remark l = false) : rowOf l k a = mkT k (wgo l a []) := by unfold rowOf; simp [h, mkT]
theorem toks_pre : ∀ (n : Nat) (p : Bs), p.length = n → ∀ (y x : Bs) (k a : Int), okY y → (∃ t ∈ flat (p ++ y) k a, t.At + t.Text.length = a + p.length ∧ t.Text ≠ []) →
    ∃ P Y X, flat (p ++ y) k a = P ++ Y ∧ flat (p ++ 9 :: x) k a = P ++ X ∧ ∀ t ∈ Y, a + p.length ≤ t.At := by
  intro n
  induction n using Nat.strongRecOn with
  | _ n ih =>
    intro p hp y x k a hy ⟨t, ht, hend, hne⟩
    have htl : 0 < t.Text.length := List.length_pos_iff.2 hne
    have hpy : p ++ y ≠ [] := by intro e; rw [e] at ht; simp [flat_nil] at ht
    have hp9 : p ++ 9 :: x ≠ [] := by simp
    by_cases hnl : ∀ b ∈ p, b ≠ 10
    · -- no line ends within p
      have e1 : tw (p ++ y) = p ++ tw y := tw_no y hnl
      have e2 : tw (p ++ 9 :: x) = p ++ 9 :: tw x := by rw [tw_no _ hnl]; rfl
      have hrm : remark (p ++ tw y) = false := by
        cases hr : remark (p ++ tw y) with
        | false => rfl
        | true =>
          rw [flat_cons hpy, e1] at ht
          have : rowOf (p ++ tw y) k a = [] := by unfold rowOf; simp [hr]
          rw [this, List.nil_append] at ht
          have := flat_ge _ _ rfl _ _ t ht
          simp only [List.length_append] at this
          omega
      have hr9 : remark (p ++ 9 :: tw x) = false := by
        cases hr : remark (p ++ 9 :: tw x) with
        | false => rfl
        | true =>
          obtain ⟨q, rfl⟩ := remark_9 _ _ hr
          simp [remark, Lib.hasPrefix] at hrm
      have hw9 : rowOf (p ++ 9 :: tw x) k a = mkT k (wgo p a []) ++ mkT k (wgo (tw x) (a + p.length + 1) []) := by
        rw [row_no hr9, wgo_split _ _ _ _ _ gap9]; simp [mkT]
      obtain ⟨Y0, hY0, hYr⟩ : ∃ Y0, rowOf (p ++ tw y) k a = mkT k (wgo p a []) ++ Y0 ∧ ∀ u ∈ Y0, a + p.length ≤ u.At := by
        rw [row_no hrm]
        cases hty : tw y with
        | nil => exact ⟨[], by simp, by simp⟩
        | cons g r =>
          have hg : gapB g = true := by
            cases y with
            | nil => simp [tw] at hty
            | cons b r' =>
              have hb := hy b r' rfl
              have : b = g ∧ b ≠ 10 := by
                unfold tw at hty
                rw [List.takeWhile_cons] at hty
                split at hty
                · rename_i h10; simp at hty; exact ⟨hty.1, by simpa using h10⟩
                · simp at hty
              obtain ⟨rfl, h10⟩ := this
              unfold inB at hb
              cases hgb : gapB b with
              | true => rfl
              | false =>
                simp [hgb] at hb
                exact absurd (UInt8.toNat_inj.1 (by simpa using hb)) h10
          refine ⟨mkT k (wgo r (a + p.length + 1) []), by rw [wgo_split _ _ _ _ _ hg]; simp [mkT], fun u hu => ?_⟩
          obtain ⟨q, hq, rfl⟩ := List.mem_map.1 hu
          have := (wgo_in_range r _ [] q hq).1
          simp at this ⊢; omega
      refine ⟨mkT k (wgo p a []), Y0 ++ flat ((p ++ y).drop ((tw (p ++ y)).length + 1)) (k + 1) (a + (tw (p ++ y)).length + 1), mkT k (wgo (tw x) (a + p.length + 1) []) ++ flat ((p ++ 9 :: x).drop ((tw (p ++ 9 :: x)).length + 1)) (k + 1) (a + (tw (p ++ 9 :: x)).length + 1), ?_, ?_, ?_⟩
      · rw [flat_cons hpy, e1, hY0, List.append_assoc]
      · rw [flat_cons hp9, e2, hw9, List.append_assoc]
      · intro u hu
        rcases List.mem_append.1 hu with hu | hu
        · exact hYr u hu
        · have := flat_ge _ _ rfl _ _ u hu
          rw [e1] at this
          simp only [List.length_append] at this
          omega
    · -- a line ends within p
      obtain ⟨l, p', hlp, hl⟩ : ∃ l p', p = l ++ 10 :: p' ∧ ∀ b ∈ l, b ≠ 10 := by
        have : (10 : UInt8) ∈ p := by
          by_cases h : (10 : UInt8) ∈ p
          · exact h
          · exact absurd (fun b hb (e : b = 10) => h (e ▸ hb)) hnl
        obtain ⟨l, r, rfl, hl⟩ := List.eq_append_cons_of_mem this
        exact ⟨l, r, rfl, fun b hb (e : b = 10) => hl (e ▸ hb)⟩
      subst hlp
      have e0 : ∀ z : Bs, tw ((l ++ 10 :: p') ++ z) = l := fun z => by rw [List.append_assoc, List.cons_append]; exact tw_ten _ hl
      have e3 : ∀ z : Bs, flat ((l ++ 10 :: p') ++ z) k a = rowOf l k a ++ flat (p' ++ z) (k + 1) (a + l.length + 1) := fun z => by
        rw [flat_cons (by simp), e0]
        congr 2
        rw [List.append_assoc, List.cons_append, show l.length + 1 = (l ++ [10]).length by simp, show l ++ 10 :: (p' ++ z) = (l ++ [10]) ++ (p' ++ z) by simp, List.drop_left]
      rw [e3] at ht
      have htr : t ∈ flat (p' ++ y) (k + 1) (a + l.length + 1) := by
        rcases List.mem_append.1 ht with h | h
        · have := (row_range h).2; simp only [List.length_append, List.length_cons] at hend; omega
        · exact h
      obtain ⟨P, Y, X, h1, h2, h3⟩ := ih p'.length (by rw [← hp]; simp; omega) p' rfl y x (k + 1) (a + l.length + 1) hy ⟨t, htr, by simp only [List.length_append, List.length_cons] at hend; omega, hne⟩
      refine ⟨rowOf l k a ++ P, Y, X, by rw [e3, h1, List.append_assoc], by rw [e3, h2, List.append_assoc], fun u hu => ?_⟩
      have := h3 u hu
      simp only [List.length_append, List.length_cons] at this ⊢
      omega
/-! a formula comes back of its text -/
def textC (c : List Int) : List Bs := c.map Lib.itoa ++ [[48]]
def textM (f : Api_Formula) : List (List Bs) := [wP, wCnf, Lib.itoa f.Vars, Lib.itoa f.Clauses.length] :: f.Clauses.map textC
theorem row_lits : ∀ c : List Int, joinRow (textC c) = litsB c ++ [48]
  | [] => rfl
  | l :: c => by
    have ih := row_lits c
    unfold textC litsB at *
    cases c with
    | nil => simp [joinRow]
    | cons m c =>
      simp only [List.map_cons, List.cons_append, joinRow, List.flatMap_cons, List.append_assoc] at ih ⊢
      rw [ih]; simp
theorem head_row (v n : Int) : joinRow [wP, wCnf, Lib.itoa v, Lib.itoa n] ++ [10] = headB v n := by
  simp [joinRow, headB, wP, wCnf]
theorem text_join (f : Api_Formula) : joinAll (textM f) = headB f.Vars f.Clauses.length ++ clsB f.Clauses := by
  unfold joinAll textM clsB
  rw [List.flatMap_cons, head_row, List.flatMap_map]
  congr 1
  congr 1
  funext c
  show joinRow (textC c) ++ [10] = _; rw [row_lits]; simp
theorem itoa_head (n : Int) : ∃ b w, Lib.itoa n = b :: w ∧ b ≠ 99 := by
  by_cases hn : n < 0
  · obtain ⟨u, rfl⟩ : ∃ u : Nat, n = -(u : Int) := ⟨n.natAbs, by omega⟩
    rw [Lib.itoa_neg u (by omega)]
    exact ⟨_, _, rfl, by decide⟩
  · obtain ⟨u, rfl⟩ : ∃ u : Nat, n = (u : Int) := ⟨n.toNat, by omega⟩
    rw [Lib.itoa_nonneg]
    obtain ⟨_, h1, h2, _⟩ := dd_props u
    cases hd : Lib.decDigits u with
    | nil => exact absurd hd h1
    | cons b w =>
      refine ⟨b, w, rfl, fun e => ?_⟩
      rw [hd, List.all_cons, Bool.and_eq_true] at h2
      have := (digB_iff b).1 h2.1
      rw [e] at this
      simp at this
theorem word48 : wordOK [48] := ⟨by simp, by decide⟩
theorem text_ok (f : Api_Formula) : ∀ W ∈ textM f, lineOK W := by
  intro W hW
  unfold textM at hW
  rcases List.mem_cons.1 hW with rfl | hW
  · refine ⟨112, [], _, rfl, by decide, fun t ht => ?_⟩
    simp at ht
    rcases ht with rfl | rfl | rfl | rfl
    · exact ⟨by simp [wP], by decide⟩
    · exact ⟨by simp [wCnf], by decide⟩
    · exact itoa_word _
    · exact itoa_word _
  · obtain ⟨c, _, rfl⟩ := List.mem_map.1 hW
    have ha : ∀ t ∈ textC c, wordOK t := by
      intro t ht
      unfold textC at ht
      rcases List.mem_append.1 ht with ht | ht
      · obtain ⟨l, _, rfl⟩ := List.mem_map.1 ht; exact itoa_word l
      · simp at ht; subst ht; exact word48
    cases c with
    | nil => exact ⟨48, [], [], rfl, by decide, ha⟩
    | cons l c =>
      obtain ⟨b, w, hb, hn⟩ := itoa_head l
      exact ⟨b, w, c.map Lib.itoa ++ [[48]], by unfold textC; rw [List.map_cons, hb]; rfl, hn, ha⟩
theorem zero_itoa : Lib.itoa 0 = [48] := by have := itoa_d 0 (by decide); simpa using this
theorem litsE_iff (vars : Int) (hv : 0 ≤ vars ∧ vars ≤ 100000) : ∀ c : List Int, litsE vars c = 0 ↔ ∀ l ∈ c, l ≠ 0 ∧ -vars ≤ l ∧ l ≤ vars
  | [] => by simp [litsE]
  | l :: c => by
    have ih := litsE_iff vars hv c
    have e : litE l vars = 0 ↔ l ≠ 0 ∧ -vars ≤ l ∧ l ≤ vars := by unfold litE; rw [if_neg (by omega)]; split <;> simp <;> omega
    unfold litsE
    by_cases h : litE l vars = 0
    · rw [if_neg (by simp [h])]; rw [ih]; simp [e.1 h]
    · rw [if_pos h]; constructor
      · intro h'; exact absurd h' h
      · intro h'; exact absurd (e.2 (h' l (by simp))) h
theorem clauseE_iff (c : List Int) (vars : Int) (hv : 0 ≤ vars ∧ vars ≤ 100000) : clauseE c vars = 0 ↔ c.length ≤ 1000 ∧ (∀ l ∈ c, l ≠ 0 ∧ -vars ≤ l ∧ l ≤ vars) ∧ c.Nodup := by
  unfold clauseE
  rw [if_neg (by omega)]
  by_cases h1 : c.length > 1000
  · rw [if_pos h1]; constructor
    · intro h; simp at h
    · intro h; omega
  · rw [if_neg h1]
    have hl := litsE_iff vars hv c
    by_cases h2 : litsE vars c = 0
    · rw [if_neg (by simp [h2])]
      by_cases h3 : c.Nodup
      · rw [if_pos h3]; simp [h3, hl.1 h2]; exact ⟨by omega, hl.1 h2⟩
      · rw [if_neg h3]; simp [h3]
    · rw [if_pos h2]; constructor
      · intro h; exact absurd h h2
      · intro h; exact absurd (hl.2 h.2.1) h2
theorem taut_iff (c : List Int) (vars : Int) (hv : 0 ≤ vars ∧ vars ≤ 100000) (h : ∀ l ∈ c, l ≠ 0 ∧ -vars ≤ l ∧ l ≤ vars) : tautOf c = false ↔ ∀ l ∈ c, -l ∉ c := by
  unfold tautOf
  rw [List.any_eq_false]
  have hvar : ∀ l ∈ c, varOf l ≠ 0 := by
    intro l hl
    have := h l hl
    unfold varOf
    repeat' split
    all_goals omega
  constructor
  · intro h2 l hl hm
    exact h2 l hl (by simp [hvar l hl, hm])
  · intro h2 l hl hm
    simp at hm
    exact h2 l hl hm.2
theorem addE_zero {c : List Int} {l : Int} : addE c l = 0 ↔ c.length < 1000 ∧ l ∉ c ∧ -l ∉ c := by
  unfold addE
  split
  · simp; omega
  · split
    · simp_all
    · split <;> simp_all
/-- a clause is read -/
theorem ref_clause (vars many e : Int) (hv : 0 ≤ vars ∧ vars ≤ 100000) : ∀ (c acc : List Int) (T R : List Token_Token) (cl : List (List Int)), T.map Token_Token.Text = textC c → (cl.length : Int) < many →
    (acc ++ c).length ≤ 1000 → (∀ l ∈ c, l ≠ 0 ∧ -vars ≤ l ∧ l ≤ vars) → (acc ++ c).Nodup → (∀ l ∈ acc ++ c, -l ∉ acc ++ c) → refGo vars many e (T ++ R) cl acc = refGo vars many e R (cl ++ [acc ++ c]) []
  | [], acc, T, R, cl, hT, hm, _, _, _, _ => by
    obtain ⟨t, rfl, ht⟩ : ∃ t, T = [t] ∧ t.Text = [48] := by
      cases T with
      | nil => simp [textC] at hT
      | cons t T => simp [textC] at hT; exact ⟨t, by simp [hT.2], hT.1⟩
    have hn : numOf t.Text (-vars) vars = (0, 0) := by rw [ht, ← zero_itoa]; exact numOf_itoa ⟨by omega, by omega⟩
    rw [List.singleton_append]
    conv => lhs; unfold refGo
    rw [if_neg (by omega), hn]
    simp
  | l :: c, acc, T, R, cl, hT, hm, h1, h2, h3, h4 => by
    obtain ⟨t, T', rfl, ht, hT'⟩ : ∃ t T', T = t :: T' ∧ t.Text = Lib.itoa l ∧ T'.map Token_Token.Text = textC c := by
      cases T with
      | nil => simp [textC] at hT
      | cons t T => simp [textC] at hT; exact ⟨t, T, rfl, hT.1, by simp [textC, hT.2]⟩
    have hl := h2 l (by simp)
    have hn : numOf t.Text (-vars) vars = (l, 0) := by rw [ht]; exact numOf_itoa ⟨hl.2.1, hl.2.2⟩
    have ha : addE acc l = 0 := by
      rw [addE_zero]
      refine ⟨by simp at h1; omega, fun h => ?_, fun h => ?_⟩
      · rw [List.nodup_append] at h3
        exact h3.2.2 l h l (by simp) rfl
      · exact h4 l (by simp) (by simp [h])
    rw [List.cons_append]
    conv => lhs; unfold refGo
    rw [if_neg (by omega), hn]
    simp only [ne_eq, not_true_eq_false, if_false, if_neg hl.1, ha]
    rw [ref_clause vars many e hv c (acc ++ [l]) T' R cl hT' hm (by simpa using h1) (fun x hx => h2 x (by simp [hx])) (by simpa using h3) (by simpa using h4)]
    simp
theorem ref_clauses (vars many e : Int) (hv : 0 ≤ vars ∧ vars ≤ 100000) : ∀ (cs cl : List (List Int)) (T : List Token_Token), T.map Token_Token.Text = (cs.map textC).flatten → (cl.length : Int) + cs.length = many →
    (∀ c ∈ cs, clauseE c vars = 0 ∧ tautOf c = false) → refGo vars many e T cl [] = (⟨vars, cl ++ cs⟩, e, 0)
  | [], cl, T, hT, hm, _ => by
    have : T = [] := by simpa using hT
    subst this
    unfold refGo
    rw [if_neg (by simp at hm; omega)]
    simp
  | c :: cs, cl, T, hT, hm, h => by
    obtain ⟨h1, h2⟩ := h c (by simp)
    obtain ⟨a1, a2, a3⟩ := (clauseE_iff c vars hv).1 h1
    have a4 := (taut_iff c vars hv a2).1 h2
    rw [List.map_cons, List.flatten_cons] at hT
    have e1 : T = T.take (textC c).length ++ T.drop (textC c).length := (List.take_append_drop _ _).symm
    have e2 : (T.take (textC c).length).map Token_Token.Text = textC c := by rw [List.map_take, hT, List.take_left]
    have e3 : (T.drop (textC c).length).map Token_Token.Text = (cs.map textC).flatten := by rw [List.map_drop, hT, List.drop_left]
    rw [e1, ref_clause vars many e hv c [] _ _ cl e2 (by simp at hm; omega) (by simpa using a1) a2 (by simpa using a3) (by simpa using a4), List.nil_append,
      ref_clauses vars many e hv cs (cl ++ [c]) _ e3 (by simp at hm ⊢; omega) (fun x hx => h x (by simp [hx]))]
    simp
theorem cnfGo_iff (vars : Int) : ∀ (cs : List (List Int)) (i : Int), (cnfGo vars cs i).2 = 0 ↔ ∀ c ∈ cs, clauseE c vars = 0 ∧ tautOf c = false
  | [], i => by simp [cnfGo]
  | c :: cs, i => by
    have ih := cnfGo_iff vars cs (i + 1)
    unfold cnfGo
    by_cases h1 : clauseE c vars = 0
    · rw [if_neg (by simp [h1])]
      cases h2 : tautOf c with
      | true => simp [h2]
      | false => simp [ih, h1, h2]
    · rw [if_pos h1]; simp [h1]
theorem cnfE_iff (f : Api_Formula) : (cnfE f).2 = 0 ↔ (0 ≤ f.Vars ∧ f.Vars ≤ 100000) ∧ f.Clauses.length ≤ 1000000 ∧ ∀ c ∈ f.Clauses, clauseE c f.Vars = 0 ∧ tautOf c = false := by
  unfold cnfE
  by_cases h1 : f.Vars < 0 ∨ f.Vars > 100000
  · rw [if_pos h1]; simp; omega
  · rw [if_neg h1]
    by_cases h2 : f.Clauses.length > 1000000
    · rw [if_pos h2]; simp; omega
    · rw [if_neg h2, cnfGo_iff]
      constructor
      · intro h; exact ⟨by omega, by omega, h⟩
      · intro h; exact h.2.2
theorem parse_print (f : Api_Formula) (h : (dimacs_Print f).2 = 0) : dimacs_Parse (dimacs_Print f).1 = (f, ((dimacs_Print f).1.length : Int), 0) := by
  unfold dimacs_Print at h ⊢
  by_cases h1 : (cnfE f).2 ≠ 0
  · rw [if_pos h1] at h; exact absurd h h1
  rw [if_neg h1] at h ⊢
  have hc := (cnfE_iff f).1 (by simpa using h1)
  by_cases h2 : (headB f.Vars f.Clauses.length ++ clsB f.Clauses).length > 1000000 ∧ f.Clauses ≠ []
  · rw [if_pos h2] at h; simp at h
  rw [if_neg h2] at h ⊢
  have hlen : (headB f.Vars f.Clauses.length ++ clsB f.Clauses).length ≤ 1000000 := by
    by_cases hf : f.Clauses = []
    · rw [hf]
      have a1 := itoa_len (x := f.Vars) ⟨by show (-9223372036854775808 : Int) ≤ _; omega, by show _ ≤ (9223372036854775807 : Int); omega⟩
      have a2 := itoa_len (x := 0) ⟨by decide, by decide⟩
      simp [headB, clsB] at a2 ⊢; omega
    · by_cases h3 : (headB f.Vars f.Clauses.length ++ clsB f.Clauses).length > 1000000
      · exact absurd ⟨h3, hf⟩ h2
      · omega
  show dimacs_Parse (headB f.Vars f.Clauses.length ++ clsB f.Clauses) = (f, ((headB f.Vars f.Clauses.length ++ clsB f.Clauses).length : Int), 0)
  rw [parse_eq _ hlen, ← text_join]
  have hL := lines_join (textM f) (joinAll (textM f)).length 1 0 (Nat.le_refl _) (text_ok f)
  have hT : (token_Lines (joinAll (textM f))).flatten.map Token_Token.Text = (textM f).flatten := by
    rw [List.map_flatten]; exact congrArg List.flatten hL
  generalize (token_Lines (joinAll (textM f))).flatten = T at hT
  generalize ((joinAll (textM f)).length : Int) = e
  unfold textM at hT
  rw [List.flatten_cons] at hT
  obtain ⟨a, b, c, d, R, rfl, ha, hb, hcc, hd, hR⟩ : ∃ a b c d R, T = a :: b :: c :: d :: R ∧ a.Text = wP ∧ b.Text = wCnf ∧ c.Text = Lib.itoa f.Vars ∧ d.Text = Lib.itoa f.Clauses.length ∧ R.map Token_Token.Text = (f.Clauses.map textC).flatten := by
    rcases T with _ | ⟨a, _ | ⟨b, _ | ⟨c, _ | ⟨d, R⟩⟩⟩⟩
    all_goals simp only [List.map_nil, List.map_cons, List.cons_append, List.nil_append, List.cons.injEq, List.nil_eq, reduceCtorEq, false_and, and_false] at hT
    exact ⟨a, b, c, d, R, rfl, hT.1, hT.2.1, hT.2.2.1, hT.2.2.2.1, hT.2.2.2.2⟩
  have hn1 : numOf c.Text 0 100000 = (f.Vars, 0) := by rw [hcc]; exact numOf_itoa hc.1
  have hn2 : numOf d.Text 0 1000000 = ((f.Clauses.length : Int), 0) := by rw [hd]; exact numOf_itoa ⟨by omega, by omega⟩
  unfold parseT
  simp only [ha, hb, hn1, hn2, ne_eq, not_true_eq_false, if_false]
  rw [ref_clauses f.Vars f.Clauses.length e hc.1 f.Clauses [] R hR (by simp) hc.2.2]
  simp
/-! what is read may be -/
def szC (cl : List (List Int)) : Nat := (cl.map fun c => c.length + 1).sum
theorem szC_app (a : List (List Int)) (c : List Int) : szC (a ++ [c]) = szC a + c.length + 1 := by simp [szC]; omega
def okC (vars : Int) (c : List Int) : Prop := c.length ≤ 1000 ∧ (∀ l ∈ c, l ≠ 0 ∧ -vars ≤ l ∧ l ≤ vars) ∧ c.Nodup ∧ ∀ l ∈ c, -l ∉ c
theorem okC_snoc {vars : Int} {c : List Int} {l : Int} (h : okC vars c) (hl : l ≠ 0 ∧ -vars ≤ l ∧ l ≤ vars) (ha : addE c l = 0) : okC vars (c ++ [l]) := by
  obtain ⟨a1, a2, a3⟩ := addE_zero.1 ha
  obtain ⟨h1, h2, h3, h4⟩ := h
  refine ⟨by simp; omega, fun x hx => ?_, ?_, fun x hx hn => ?_⟩
  · rcases List.mem_append.1 hx with hx | hx
    · exact h2 x hx
    · simp at hx; subst hx; exact hl
  · rw [List.nodup_append]
    exact ⟨h3, by simp, fun x hx y hy e => by simp at hy; subst hy; subst e; exact a2 hx⟩
  · rcases List.mem_append.1 hx with hx | hx
    · rcases List.mem_append.1 hn with hn | hn
      · exact h4 x hx hn
      · simp at hn; apply a3; rw [← hn]; simpa using hx
    · simp at hx; subst hx
      rcases List.mem_append.1 hn with hn | hn
      · exact a3 hn
      · simp at hn; omega
theorem ref_ok (vars many e : Int) (hv : 0 ≤ vars ∧ vars ≤ 100000) : ∀ (T : List Token_Token) (cl : List (List Int)) (c : List Int), (∀ x ∈ cl, okC vars x) → okC vars c → (cl.length : Int) ≤ many → (refGo vars many e T cl c).2.2 = 0 →
    (refGo vars many e T cl c).1.Vars = vars ∧ ((refGo vars many e T cl c).1.Clauses.length : Int) ≤ many ∧ (∀ x ∈ (refGo vars many e T cl c).1.Clauses, okC vars x) ∧ szC (refGo vars many e T cl c).1.Clauses ≤ szC cl + c.length + T.length
  | [], cl, c, h1, h2, h3, h0 => by
    unfold refGo at h0 ⊢
    split at h0
    · simp at h0
    · rename_i hx; rw [if_neg hx]; exact ⟨rfl, h3, h1, by simp⟩
  | t :: r, cl, c, h1, h2, h3, h0 => by
    by_cases k1 : (cl.length : Int) = many
    · simp [refGo, k1] at h0
    · by_cases k2 : (numOf t.Text (-vars) vars).2 = 0
      · have st : refGo vars many e (t :: r) cl c = if (numOf t.Text (-vars) vars).1 = 0 then refGo vars many e r (cl ++ [c]) [] else if addE c (numOf t.Text (-vars) vars).1 ≠ 0 then (f0, t.At, addE c (numOf t.Text (-vars) vars).1) else refGo vars many e r cl (c ++ [(numOf t.Text (-vars) vars).1]) := by
          conv => lhs; unfold refGo
          rw [if_neg k1, if_neg (by simp [k2])]
        have hb := numOf_in k2
        rw [st] at h0 ⊢
        by_cases k3 : (numOf t.Text (-vars) vars).1 = 0
        · rw [if_pos k3] at h0 ⊢
          obtain ⟨r1, r2, r3, r4⟩ := ref_ok vars many e hv r (cl ++ [c]) [] (fun x hx => by rcases List.mem_append.1 hx with hx | hx; exact h1 x hx; simp at hx; subst hx; exact h2) ⟨by simp, by simp, by simp, by simp⟩ (by simp; omega) h0
          exact ⟨r1, r2, r3, by rw [szC_app] at r4; simp at r4 ⊢; omega⟩
        · rw [if_neg k3] at h0 ⊢
          by_cases k4 : addE c (numOf t.Text (-vars) vars).1 = 0
          · rw [if_neg (by simp [k4])] at h0 ⊢
            obtain ⟨r1, r2, r3, r4⟩ := ref_ok vars many e hv r cl _ h1 (okC_snoc h2 ⟨k3, hb.1, hb.2⟩ k4) h3 h0
            exact ⟨r1, r2, r3, by simp at r4 ⊢; omega⟩
          · rw [if_pos k4] at h0; exact absurd h0 k4
      · have : refGo vars many e (t :: r) cl c = (f0, t.At, (numOf t.Text (-vars) vars).2) := by
          conv => lhs; unfold refGo
          rw [if_neg k1, if_pos k2]
        rw [this] at h0; exact absurd h0 k2
theorem wgo_count : ∀ (l : Bs) (i : Int) (cur : Bs), (wgo l i cur).length ≤ l.length + min 1 cur.length
  | [], i, cur => by
    cases cur with
    | nil => simp [wgo]
    | cons b c => rw [wgo_nil _ (by simp)]; simp
  | b :: r, i, cur => by
    by_cases hb : gapB b = true
    · by_cases hc : cur = []
      · subst hc; rw [wgo_gap0 hb]; have := wgo_count r (i + 1) []; simp at this ⊢; omega
      · rw [wgo_gap hb hc]; have := wgo_count r (i + 1) []; simp at this ⊢; omega
    · have hb : gapB b = false := by simpa using hb
      rw [wgo_in hb]; have := wgo_count r (i + 1) (cur ++ [b]); simp at this ⊢; omega
theorem flat_len : ∀ (n : Nat) (l : Bs), l.length = n → ∀ (k a : Int), (flat l k a).length ≤ l.length := by
  intro n
  induction n using Nat.strongRecOn with
  | _ n ih =>
    intro l hl k a
    by_cases h : l = []
    · subst h; simp [flat_nil]
    · rw [flat_cons h, List.length_append]
      have hp : 0 < l.length := List.length_pos_iff.2 h
      have h1 : (rowOf (tw l) k a).length ≤ (tw l).length := by
        unfold rowOf
        split
        · simp
        · have := wgo_count (tw l) a []; simpa using this
      have h2 := ih _ (by rw [List.length_drop]; omega) (l.drop ((tw l).length + 1)) rfl (k + 1) (a + (tw l).length + 1)
      have h3 := tw_le l
      rw [List.length_drop] at h2
      by_cases h4 : (tw l).length < l.length
      · omega
      · have : l.drop ((tw l).length + 1) = [] := List.drop_eq_nil_of_le (by omega)
        rw [this] at h2 ⊢
        simp [flat_nil]; omega
theorem parseT_ok (T : List Token_Token) (e : Int) (h : (parseT T e).2.2 = 0) : (0 ≤ (parseT T e).1.Vars ∧ (parseT T e).1.Vars ≤ 100000) ∧ (parseT T e).1.Clauses.length ≤ 1000000 ∧ (∀ x ∈ (parseT T e).1.Clauses, okC (parseT T e).1.Vars x) ∧ szC (parseT T e).1.Clauses ≤ T.length := by
  unfold parseT at h ⊢
  cases T with
  | nil => simp at h
  | cons a T =>
    simp only at h ⊢
    by_cases h1 : a.Text ≠ wP
    · rw [if_pos h1] at h; simp at h
    rw [if_neg h1] at h ⊢
    cases T with
    | nil => simp at h
    | cons b T =>
      simp only at h ⊢
      by_cases h2 : b.Text ≠ wCnf
      · rw [if_pos h2] at h; simp at h
      rw [if_neg h2] at h ⊢
      cases T with
      | nil => simp at h
      | cons c T =>
        simp only at h ⊢
        by_cases h3 : (numOf c.Text 0 100000).2 ≠ 0
        · rw [if_pos h3] at h; exact absurd h h3
        rw [if_neg h3] at h ⊢
        cases T with
        | nil => simp at h
        | cons d T =>
          simp only at h ⊢
          by_cases h4 : (numOf d.Text 0 1000000).2 ≠ 0
          · rw [if_pos h4] at h; exact absurd h h4
          rw [if_neg h4] at h ⊢
          have n1 := numOf_in (t := c.Text) (lo := 0) (hi := 100000) (by simpa using h3)
          have n2 := numOf_in (t := d.Text) (lo := 0) (hi := 1000000) (by simpa using h4)
          obtain ⟨r1, r2, r3, r4⟩ := ref_ok _ _ _ n1 T [] [] (by simp) ⟨by simp, by simp, by simp, by simp⟩ (by simpa using n2.1) h
          rw [r1]
          refine ⟨n1, by omega, r3, ?_⟩
          simp [szC] at r4 ⊢
          exact Nat.le_trans r4 (by omega)
theorem okC_iff {vars : Int} (hv : 0 ≤ vars ∧ vars ≤ 100000) (c : List Int) : okC vars c ↔ clauseE c vars = 0 ∧ tautOf c = false := by
  constructor
  · rintro ⟨h1, h2, h3, h4⟩
    exact ⟨(clauseE_iff c vars hv).2 ⟨h1, h2, h3⟩, (taut_iff c vars hv h2).2 h4⟩
  · rintro ⟨h1, h2⟩
    obtain ⟨a1, a2, a3⟩ := (clauseE_iff c vars hv).1 h1
    exact ⟨a1, a2, a3, (taut_iff c vars hv a2).1 h2⟩
theorem text_len {f : Api_Formula} (hv : 0 ≤ f.Vars ∧ f.Vars ≤ 100000) (hn : f.Clauses.length ≤ 1000000) (hc : ∀ x ∈ f.Clauses, okC f.Vars x) : (headB f.Vars f.Clauses.length ++ clsB f.Clauses).length ≤ 50 + 24 * szC f.Clauses := by
  have a1 := itoa_len (x := f.Vars) ⟨by show (-9223372036854775808 : Int) ≤ _; omega, by show _ ≤ (9223372036854775807 : Int); omega⟩
  have a2 := itoa_len (x := (f.Clauses.length : Int)) ⟨by show (-9223372036854775808 : Int) ≤ _; omega, by show _ ≤ (9223372036854775807 : Int); omega⟩
  have hl : ∀ c : List Int, (∀ l ∈ c, l ≠ 0 ∧ -f.Vars ≤ l ∧ l ≤ f.Vars) → (litsB c).length ≤ 22 * c.length := by
    intro c
    induction c with
    | nil => intro _; simp [litsB]
    | cons l c ih =>
      intro h
      have := ih (fun x hx => h x (by simp [hx]))
      have b := h l (by simp)
      have a3 := itoa_len (x := l) ⟨by show (-9223372036854775808 : Int) ≤ _; omega, by show _ ≤ (9223372036854775807 : Int); omega⟩
      have e : litsB (l :: c) = Lib.itoa l ++ [32] ++ litsB c := by simp [litsB]
      rw [e]; simp; omega
  have hs : ∀ cs : List (List Int), (∀ x ∈ cs, okC f.Vars x) → (clsB cs).length ≤ 24 * szC cs := by
    intro cs
    induction cs with
    | nil => intro _; simp [clsB]
    | cons c cs ih =>
      intro h
      have := ih (fun x hx => h x (by simp [hx]))
      have b := hl c (h c (by simp)).2.1
      have e : clsB (c :: cs) = litsB c ++ [48, 10] ++ clsB cs := by simp [clsB]
      have e2 : szC (c :: cs) = c.length + 1 + szC cs := by simp [szC]
      rw [e, e2]; simp; omega
  have := hs f.Clauses hc
  rw [List.length_append]
  have : (headB f.Vars f.Clauses.length).length ≤ 50 := by simp [headB]; omega
  omega
theorem print_ok {f : Api_Formula} (hc : (cnfE f).2 = 0) (hs : szC f.Clauses ≤ 41000) : (dimacs_Print f).2 = 0 := by
  obtain ⟨h1, h2, h3⟩ := (cnfE_iff f).1 hc
  have := text_len h1 h2 (fun x hx => (okC_iff h1 x).2 (h3 x hx))
  unfold dimacs_Print
  rw [if_neg (by simp [hc]), if_neg (by omega)]
theorem few_sz {f : Api_Formula} (h : law04_Few f = true) : szC f.Clauses ≤ 10200 := by
  unfold law04_Few at h
  rw [Bool.and_eq_true] at h
  have h1 : f.Clauses.length ≤ 200 := by simpa using h.1
  have key : ∀ cs : List (List Int), (∀ c ∈ cs, c.length ≤ 50) → szC cs ≤ 51 * cs.length := by
    intro cs
    induction cs with
    | nil => intro _; simp [szC]
    | cons c cs ih =>
      intro hh
      have a := ih (fun x hx => hh x (by simp [hx]))
      have b := hh c (by simp)
      have e2 : szC (c :: cs) = c.length + 1 + szC cs := by simp [szC]
      rw [e2]; simp; omega
  have := key f.Clauses (fun c hc => by have := List.all_eq_true.1 h.2 c hc; simpa using this)
  omega
theorem read_ok {s : Bs} (hs : s.length ≤ 3000) (h : (dimacs_Parse s).2.2 = 0) : (cnfE (dimacs_Parse s).1).2 = 0 ∧ szC (dimacs_Parse s).1.Clauses ≤ 3000 ∧ (dimacs_Parse s).1.Clauses.length ≤ 1000000 := by
  rw [parse_eq _ (by omega)] at h ⊢
  obtain ⟨h1, h2, h3, h4⟩ := parseT_ok _ _ h
  refine ⟨(cnfE_iff _).2 ⟨h1, h2, fun x hx => (okC_iff h1 x).1 (h3 x hx)⟩, ?_, h2⟩
  have := flat_len _ s rfl 1 0
  have e : flat s 1 0 = (token_Lines s).flatten := rfl
  rw [e] at this
  omega
theorem ref_f0 (vars many e : Int) : ∀ (T : List Token_Token) (cl : List (List Int)) (c : List Int), (refGo vars many e T cl c).2.2 ≠ 0 → (refGo vars many e T cl c).1 = f0
  | [], cl, c, h => by unfold refGo at h ⊢; split at h <;> simp_all
  | t :: r, cl, c, h => by
    unfold refGo at h ⊢
    split
    · rfl
    · rename_i h1; rw [if_neg h1] at h
      split
      · rfl
      · rename_i h2; rw [if_neg h2] at h
        split
        · rename_i h3; rw [if_pos h3] at h; exact ref_f0 _ _ _ _ _ _ h
        · rename_i h3; rw [if_neg h3] at h
          split
          · rfl
          · rename_i h4; rw [if_neg h4] at h; exact ref_f0 _ _ _ _ _ _ h
theorem read_bad {s : Bs} (h : (dimacs_Parse s).2.2 ≠ 0) : (dimacs_Parse s).1 = f0 := by
  by_cases hs : s.length > 1000000
  · unfold dimacs_Parse; rw [if_pos hs]
  · unfold dimacs_Parse at *
    rw [if_neg hs] at h ⊢
    unfold endR at h ⊢
    split
    · rfl
    · rename_i h1
      rw [if_neg h1] at h
      split
      · rename_i h2; rw [h2] at h; simp at h
      · rfl
/-! the same fault, whatever stands behind it -/
theorem flat_good (s : Bs) : (∀ t ∈ flat s 1 0, ∃ k, Good s k t) ∧ (flat s 1 0).Pairwise (fun t u => tend t ≤ u.At) := by
  obtain ⟨h1, _, h3⟩ := lines_good (s := s) s.length 0 1 (Int.le_refl _) (by omega) (fun _ => by simp [cnl])
  have e : s.drop (0 : Int).toNat = s := rfl
  rw [e] at h1 h3
  refine ⟨fun t ht => ?_, h3⟩
  obtain ⟨r, hr, htr⟩ := List.mem_flatten.1 ht
  obtain ⟨i, hi⟩ := List.getElem?_of_mem hr
  exact ⟨_, h1 i r hi t htr⟩
theorem flat_one {s : Bs} {t u : Token_Token} (ht : t ∈ flat s 1 0) (hu : u ∈ flat s 1 0) (h : u.At = t.At) : tend u = tend t := by
  obtain ⟨hg, hp⟩ := flat_good s
  have key : ∀ l : List Token_Token, l.Pairwise (fun t u => tend t ≤ u.At) → (∀ t ∈ l, t.At < tend t) → t ∈ l → u ∈ l → tend u = tend t := by
    intro l
    induction l with
    | nil => intro _ _ h; simp at h
    | cons x l ih =>
      intro hp hl h1 h2
      rw [List.pairwise_cons] at hp
      have h1' := List.mem_cons.1 h1; have h2' := List.mem_cons.1 h2
      rcases h1' with e1 | h1' <;> rcases h2' with e2 | h2'
      · rw [e1, e2]
      · have a := hp.1 u h2'; have b := hl t h1; rw [← e1] at a; omega
      · have a := hp.1 t h1'; have b := hl u h2; rw [← e2] at a; omega
      · exact ih hp.2 (fun t ht => hl t (by simp [ht])) h1' h2'
  exact key _ hp (fun t ht => by
    obtain ⟨k, g⟩ := hg t ht
    have := List.length_pos_iff.2 g.ne
    unfold tend; omega) ht hu
theorem places {s : Bs} (hs : s.length ≤ 3000) (behind : Bs) (hb : behind.length ≤ 300) (h0 : (dimacs_Parse s).2.2 ≠ 0) (h4 : (dimacs_Parse s).2.2 ≠ 4) :
    ∃ t ∈ flat s 1 0, t.At = (dimacs_Parse s).2.1 ∧ 0 ≤ t.At ∧ tend t ≤ s.length ∧ t.At < tend t ∧ (dimacs_Parse (s.take (tend t).toNat ++ 9 :: behind)).2 = (dimacs_Parse s).2 := by
  rw [parse_eq s (by omega)] at h0 h4 ⊢
  obtain ⟨A, t, B, hT, ha, hx⟩ := parse_hit _ _ h0 h4
  have ht : t ∈ flat s 1 0 := by show t ∈ (token_Lines s).flatten; rw [hT]; simp
  obtain ⟨hg, hp⟩ := flat_good s
  obtain ⟨k, g⟩ := hg t ht
  have hne := List.length_pos_iff.2 g.ne
  have hte : t.At < tend t := by unfold tend; omega
  have hhi := g.hi
  refine ⟨t, ht, ha.symm, g.lo, g.hi, hte, ?_⟩
  rw [parse_eq _ (by simp; omega)]
  have hlen : ((s.take (tend t).toNat).length : Int) = tend t := by simp; have := g.lo; omega
  obtain ⟨P, Y, X, e1, e2, e3⟩ := toks_pre _ (s.take (tend t).toNat) rfl (s.drop (tend t).toNat) behind 1 0 (fun b r hbr => by
      have hlt : tend t < s.length := by
        by_cases h : tend t < s.length
        · exact h
        · rw [List.drop_eq_nil_of_le (by omega)] at hbr; simp at hbr
      have := g.nxt hlt
      rw [drop_gi (by have := g.lo; omega) hlt] at hbr
      simp at hbr
      rw [← hbr.1]; exact this) ⟨t, by rw [List.take_append_drop]; exact ht, by rw [hlen]; unfold tend; omega, g.ne⟩
  rw [List.take_append_drop] at e1
  -- t stands within P
  have hfl : flat s 1 0 = A ++ t :: B := hT
  rw [hfl] at e1 hp
  obtain ⟨P', hP'⟩ : ∃ P', P = A ++ t :: P' := by
    rcases List.append_eq_append_iff.1 e1 with ⟨C, hC, hD⟩ | ⟨C, hC, hD⟩
    · cases C with
      | nil => 
        exfalso
        have : t ∈ Y := by simp at hD; rw [← hD]; simp
        have := e3 t this
        rw [hlen] at this; omega
      | cons c C => simp at hD; exact ⟨C, by rw [hC, hD.1]⟩
    · exfalso
      have : t ∈ Y := by rw [hD]; simp
      have := e3 t this
      rw [hlen] at this; omega
  have e4 : (token_Lines (s.take (tend t).toNat ++ 9 :: behind)).flatten = A ++ t :: (P' ++ X) := by
    have : flat (s.take (tend t).toNat ++ 9 :: behind) 1 0 = P ++ X := e2
    rw [hP'] at this
    exact this.trans (by simp)
  rw [e4, hx]
theorem place_in {s : Bs} (hs : s.length ≤ 3000) : 0 ≤ (dimacs_Parse s).2.1 ∧ (dimacs_Parse s).2.1 ≤ s.length := by
  by_cases h : (dimacs_Parse s).2.2 = 0 ∨ (dimacs_Parse s).2.2 = 4
  · rw [parse_eq s (by omega)] at h ⊢
    rw [parse_end _ _ h]; omega
  · obtain ⟨t, _, h1, h2, h3, h4, _⟩ := places hs [] (by simp) (fun e => h (.inl e)) (fun e => h (.inr e))
    rw [← h1]; omega
end Go.Proofs.YtancoeikfkebfaaDoor
