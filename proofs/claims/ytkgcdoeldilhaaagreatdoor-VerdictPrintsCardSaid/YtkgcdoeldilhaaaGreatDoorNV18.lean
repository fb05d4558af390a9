/- Places of a proof stay in its text. -/
import Derived.Test.YtkgcdoeldilhaaaGreatDoorNV17
set_option linter.all false
namespace Go.Proofs.YtkgcdoeldilhaaaGreatDoor
open Go Go.Sv Go.Pu
def inT (n : Int) (l : List Token_Token) : Prop := ∀ t ∈ l, 0 ≤ t.At ∧ t.At + (t.Text.length : Int) ≤ n
def inLn (n : Int) (r : Ln) : Prop := 0 ≤ r.at_ ∧ r.at_ ≤ n ∧ inT n r.rest
theorem inT_tail {n : Int} {t : Token_Token} {T : List Token_Token} (h : inT n (t :: T)) : inT n T := fun x hx => h x (by simp [hx])
theorem wrong_in {n a e : Int} {r : Ln} (h : inLn n r) (h0 : 0 ≤ a) (h1 : a ≤ n) : inLn n (proof_line_wrong a e r) := by
  unfold proof_line_wrong
  split
  · exact ⟨h0, h1, h.2.2⟩
  · exact h
theorem number_in {n lo hi : Int} {r : Ln} (h : inLn n r) : inLn n (proof_line_number lo hi r).2.2.2 := by
  obtain ⟨T, a, e⟩ := r
  obtain ⟨h0, h1, h2⟩ := h
  unfold proof_line_number
  split
  · exact ⟨h0, h1, h2⟩
  · cases T with
    | nil => exact ⟨h0, h1, h2⟩
    | cons t T =>
      have g := h2 t (by simp)
      have gt := inT_tail h2
      show inLn n (if _ then _ else _ : Int × Int × Bool × Ln).2.2.2
      split
      · exact ⟨g.1, by show t.At ≤ n; omega, gt⟩
      · exact ⟨by show 0 ≤ t.At + (t.Text.length : Int); omega, g.2, gt⟩
theorem rowGo_in {n : Int} (lo hi : Int) (tw : Bool) : ∀ (T : List Token_Token) (a : Int) (out : List Int), inT n T → 0 ≤ a → a ≤ n → inLn n (rowGo lo hi tw T a out).2
  | [], a, out, h, h0, h1 => ⟨h0, h1, h⟩
  | t :: T, a, out, h, h0, h1 => by
    have g := h t (by simp)
    have gt := inT_tail h
    unfold rowGo
    split
    · exact ⟨g.1, by show t.At ≤ n; omega, gt⟩
    · split
      · exact ⟨by show 0 ≤ t.At + (t.Text.length : Int); omega, g.2, gt⟩
      · split
        · exact ⟨g.1, by show t.At ≤ n; omega, gt⟩
        · exact rowGo_in lo hi tw T _ _ gt (by omega) g.2
theorem row_in {n lo hi : Int} {tw : Bool} {r : Ln} (h : inLn n r) : inLn n (proof_line_row lo hi tw r).2 := by
  unfold proof_line_row
  split
  · exact h
  · exact rowGo_in _ _ _ _ _ _ h.2.2 h.1 h.2.1
theorem endS_in {n : Int} {r : Ln} (h : inLn n r) : inLn n (endS r) := by
  unfold endS
  split
  · exact h
  · rename_i t T hr
    have g := h.2.2 t (by rw [hr]; simp)
    exact wrong_in h g.1 (by omega)
theorem step_in {n : Int} {T : List Token_Token} (hT : T ≠ []) (hn : 0 ≤ n) (h : inT n T) : inLn n (stepOf T).2 := by
  unfold stepOf proof_line_step
  have g0 : 0 ≤ (gi T 0).At ∧ (gi T 0).At + ((gi T 0).Text.length : Int) ≤ n := h _ (mem_gi (by omega) (by have := List.length_pos_iff.2 hT; omega))
  have a := number_in (lo := 0) (hi := 10000000) (r := ⟨T, 0, 0⟩) ⟨Int.le_refl _, hn, h⟩
  generalize proof_line_number 0 10000000 ⟨T, 0, 0⟩ = q at *
  obtain ⟨id, pl, ok, r⟩ := q
  have a : inLn n r := a
  refine endS_in ?_
  show inLn n (stepB (gi T 0).At id r).2
  unfold stepB
  split
  · rename_i hd
    obtain ⟨he, hw⟩ := hd
    obtain ⟨R, ra, re⟩ := r
    cases R with
    | nil => simp at hw
    | cons t R =>
      have hw : t.Text = wD := by simpa using hw
      have g := a.2.2 t (by simp)
      rw [hw] at g
      have g2 : t.At + 1 ≤ n := g.2
      exact row_in ⟨by show 0 ≤ t.At + 1; omega, g2, inT_tail a.2.2⟩
  · have b := row_in (lo := -10000000) (hi := 10000000) (tw := false) (row_in (lo := -100000) (hi := 100000) (tw := true) a)
    show inLn n (if id = 0 then _ else _)
    split
    · exact wrong_in b g0.1 (by omega)
    · exact b
theorem steps_in {n e : Int} (h0 : 0 ≤ e) (h1 : e ≤ n) : ∀ (L : List (List Token_Token)) (acc : List Api_Step), (∀ T ∈ L, inT n T) → 0 ≤ (stepsGo e L acc).2.1 ∧ (stepsGo e L acc).2.1 ≤ n
  | [], acc, _ => ⟨h0, h1⟩
  | T :: L, acc, h => by
    have hL : ∀ U ∈ L, inT n U := fun U hU => h U (by simp [hU])
    have hT := h T (by simp)
    unfold stepsGo
    split
    · exact steps_in h0 h1 L acc hL
    · rename_i hne
      have g0 : 0 ≤ (gi T 0).At ∧ (gi T 0).At + ((gi T 0).Text.length : Int) ≤ n := hT _ (mem_gi (by omega) (by have := List.length_pos_iff.2 hne; omega))
      have s := step_in hne (by omega) hT
      split
      · exact ⟨g0.1, by show (gi T 0).At ≤ n; omega⟩
      · split
        · exact ⟨s.1, s.2.1⟩
        · exact steps_in h0 h1 L _ hL
end Go.Proofs.YtkgcdoeldilhaaaGreatDoor
