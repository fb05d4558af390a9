/- Proofs as text: a row, a step, Parse. -/
import Derived.Test.YtkgcdoeldilhaaaGreatDoorNV13
set_option linter.all false
namespace Go.Proofs.YtkgcdoeldilhaaaGreatDoor
open Go Go.Sv Go.Pu
theorem good_tail {t : Token_Token} {T : List Token_Token} (h : goodT (t :: T)) : goodT T := fun x hx => h x (by simp [hx])
theorem rowGo_good (lo hi : Int) (tw : Bool) : ∀ (T : List Token_Token) (a : Int) (out : List Int), goodT T → goodT (rowGo lo hi tw T a out).2.rest
  | [], a, out, h => by unfold rowGo; exact h
  | t :: T, a, out, h => by
    have hT := good_tail h
    unfold rowGo
    split
    · exact hT
    · split
      · exact hT
      · split
        · exact hT
        · exact rowGo_good lo hi tw T _ _ hT
theorem row_good {lo hi : Int} {tw : Bool} {r : Ln} (h : goodT r.rest) : goodT (proof_line_row lo hi tw r).2.rest := by
  unfold proof_line_row
  split
  · exact h
  · exact rowGo_good _ _ _ _ _ _ h
theorem number_good {lo hi : Int} {r : Ln} (h : goodT r.rest) : goodT (proof_line_number lo hi r).2.2.2.rest := by
  unfold proof_line_number
  split
  · exact h
  · split
    · intro t ht; simp at ht
    · rename_i t T hr
      rw [hr] at h
      have hT := good_tail h
      split <;> exact hT
theorem v74 (lo hi : Int) (tw : Bool) (r : Ln) (hp : preRow lo hi tw r) : VC74 lo hi tw r (fun x => x = proof_line_row lo hi tw r) := by
  intro _
  obtain ⟨i1, i2, hg⟩ := hp
  generalize htgt : proof_line_row lo hi tw r = tgt
  refine ⟨fun out T a e => goodT T ∧ ((e = 0 ∧ out.length ≤ 1000 ∧ rowGo lo hi tw T a out = tgt) ∨ (e ≠ 0 ∧ out.length ≤ 1001 ∧ tgt = (out, ⟨T, a, e⟩))), fun _ T _ _ => T.length, ⟨hg, ?_⟩, ?_⟩
  · rw [← htgt]
    unfold proof_line_row
    by_cases h : r.e = 0
    · left; exact ⟨h, by simp, by rw [if_neg (by simp [h])]⟩
    · right; exact ⟨h, by simp, by rw [if_pos h]⟩
  · rintro out T a e ⟨hs, hI⟩
    refine ⟨⟨i1, i2, hs⟩, ?_⟩
    rintro _ rfl
    intro _
    rcases hI with ⟨he, hc, ht⟩ | ⟨he, hc, ht⟩
    · subst he
      cases T with
      | nil =>
        refine ⟨fun _ => ?_, fun h => by simp [proof_line_number] at h⟩
        rw [← ht]; rfl
      | cons t T =>
        have hT := good_tail hs
        unfold rowGo at ht
        by_cases hn : (numOf t.Text lo hi).2 = 0
        · have en : proof_line_number lo hi ⟨t :: T, a, 0⟩ = ((numOf t.Text lo hi).1, t.At, true, ⟨T, t.At + t.Text.length, 0⟩) := by simp [proof_line_number, hn]
          rw [en]
          rw [if_neg (by simp [hn])] at ht
          refine ⟨fun h => ?_, fun h => ?_⟩
          · have h : (numOf t.Text lo hi).1 = 0 := by simpa using h
            rw [if_pos h] at ht
            exact ht
          · have h : (numOf t.Text lo hi).1 ≠ 0 := by simpa using h
            rw [if_neg h] at ht
            refine ⟨by show out.length ≤ 1000000; omega, ?_⟩
            rintro _ rfl
            intro _ _
            unfold proof_line_row_1
            by_cases ha : addR out tw (numOf t.Text lo hi).1 = 0
            · rw [if_neg (by simp [ha])] at ht
              have hl : ¬ out.length ≥ 1000 := by
                intro hl; unfold addR at ha; rw [if_pos hl] at ha; omega
              simp only [ha, ne_eq, not_true_eq_false, if_false]
              exact ⟨⟨hT, .inl ⟨by trivial, by simp; omega, ht⟩⟩, by simp⟩
            · rw [if_pos ha] at ht
              simp only [ha, ne_eq, not_false_eq_true, if_true, proof_line_wrong]
              exact ⟨⟨hT, .inr ⟨by first | exact ha | trivial, by simp; omega, ht.symm⟩⟩, by simp⟩
        · have en : proof_line_number lo hi ⟨t :: T, a, 0⟩ = (0, 0, false, ⟨T, t.At, (numOf t.Text lo hi).2⟩) := by simp [proof_line_number, hn]
          rw [en]
          rw [if_pos hn] at ht
          exact ⟨fun _ => ht, fun h => by simp at h⟩
    · have en : proof_line_number lo hi ⟨T, a, e⟩ = (0, 0, false, ⟨T, a, e⟩) := by simp [proof_line_number, he]
      rw [en]
      exact ⟨fun _ => ht.symm, fun h => by simp at h⟩
theorem v50 (r : Ln) (hp : preStep r) : VC50 r (fun x => x = proof_line_step r) := by
  intro _
  obtain ⟨hg, hne⟩ := hp
  have j0 : inR .i64 0 := ⟨by decide, by decide⟩
  have j1 : inR .i64 10000000 := ⟨by decide, by decide⟩
  have j2 : inR .i64 (-100000) := ⟨by decide, by decide⟩
  have j3 : inR .i64 100000 := ⟨by decide, by decide⟩
  have j4 : inR .i64 (-10000000) := ⟨by decide, by decide⟩
  have hpos : 0 < r.rest.length := List.length_pos_iff.2 hne
  refine ⟨⟨by omega, by omega⟩, ⟨j0, j1, hg⟩, ?_⟩
  rintro _ rfl
  intro _
  unfold proof_line_step
  have g1 := number_good (lo := 0) (hi := 10000000) hg
  generalize proof_line_number 0 10000000 r = q at *
  obtain ⟨id, pl, ok, ⟨T, a, e⟩⟩ := q
  -- the end
  have fin : ∀ (k : Int) (L H : List Int) (T' : List Token_Token) (a' e' : Int) (X : Api_Step × Ln), X = (⟨k, id, L, H⟩, ⟨T', a', e'⟩) → VC50_J1 (fun x => x = (X.1, endS X.2)) (id, pl, ok, ⟨T, a, e⟩) k L H T' a' e' := by
    rintro k L H T' a' e' X rfl
    cases T' with
    | nil => exact ⟨fun h => by simp at h, fun _ => rfl⟩
    | cons t T' =>
      refine ⟨fun _ => ⟨⟨by omega, by simp <;> omega⟩, ?_⟩, fun h => ?_⟩
      · rintro _ rfl
        intro _
        rfl
      · have := of_decide_eq_false h
        rw [List.length_cons] at this; omega
  have ff : ¬ (e = 0 ∧ (T.head?.map Token_Token.Text) = some wD) → VC50_J3 r (fun x => x = ((stepB (gi r.rest 0).At id ⟨T, a, e⟩).1, endS (stepB (gi r.rest 0).At id ⟨T, a, e⟩).2)) (id, pl, ok, ⟨T, a, e⟩) false := by
    intro hno
    refine ⟨fun h => by simp at h, fun _ => ⟨⟨j2, j3, g1⟩, ?_⟩⟩
    rintro _ rfl
    intro _ _
    refine ⟨⟨j4, j1, row_good g1⟩, ?_⟩
    rintro _ rfl
    intro _ _
    refine ⟨fun h => ?_, fun h => ?_⟩
    · have h : id = 0 := by simpa using h
      rintro _ rfl
      intro _
      refine fin _ _ _ _ _ _ _ ?_
      unfold stepB
      rw [if_neg hno, if_pos h]
    · have h : ¬ id = 0 := by simpa using h
      refine fin _ _ _ _ _ _ _ ?_
      unfold stepB
      rw [if_neg hno, if_neg h]
  cases T with
  | nil =>
    refine ⟨fun h => by simp at h, fun _ => ff (by simp)⟩
  | cons t T =>
    refine ⟨fun h => ⟨⟨by omega, by simp <;> omega⟩, ?_⟩, fun h => ff ?_⟩
    · have he : e = 0 := by have := (Bool.and_eq_true_iff.1 h).1; simpa using this
      subst he
      by_cases hw : t.Text = wD
      · have e1 : ((gi (t :: T) 0).Text == ([100] : List UInt8)) = true := by
          show (t.Text == _) = true
          rw [hw]; rfl
        show VC50_J3 r _ _ ((gi (t :: T) 0).Text == ([100] : List UInt8))
        rw [e1]
        have gt := g1 t (by simp)
        have ew : IntKind.i64.wrap ((gi (t :: T) 0).At + 1) = t.At + 1 := wrp (by show (-9223372036854775808 : Int) ≤ t.At + 1; omega) (by show t.At + 1 ≤ _; omega)
        refine ⟨fun _ => ⟨⟨by omega, by simp <;> omega⟩, ⟨by omega, by simp <;> omega⟩, ⟨j0, j1, good_tail g1⟩, ?_⟩, fun h => by simp at h⟩
        rintro _ rfl
        intro _ _
        refine fin _ _ _ _ _ _ _ ?_
        unfold stepB
        rw [if_pos ⟨rfl, by simp [hw]⟩]
        simp only [ew]
        rfl
      · have e1 : ((gi (t :: T) 0).Text == ([100] : List UInt8)) = false := by
          show (t.Text == _) = false
          rw [beq_eq_false_iff_ne]; exact hw
        show VC50_J3 r _ _ ((gi (t :: T) 0).Text == ([100] : List UInt8))
        rw [e1]
        exact ff (by simp [hw])
    · intro ⟨he, _⟩
      subst he
      simp at h
end Go.Proofs.YtkgcdoeldilhaaaGreatDoor
