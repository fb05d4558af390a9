/- Proofs as text: Parse and the reference's reading. -/
import Derived.Test.YtkgcdoeldilhaaaDoorNV14
set_option linter.all false
namespace Go.Proofs.YtkgcdoeldilhaaaDoor
open Go Go.Sv Go.Pu
theorem line_good {s : Bs} (hs : s.length ≤ 1000000) {x : Int} (h0 : 0 ≤ x) (h1 : x < (token_Lines s).length) : goodT (gi (token_Lines s) x) := by
  intro t ht
  obtain ⟨k, g⟩ := (flat_good s).1 t (List.mem_flatten.2 ⟨_, mem_gi h0 h1, ht⟩)
  have a := g.lo
  have b := g.hi
  unfold tend at b
  exact ⟨a, by omega, by omega⟩
theorem lines_le (s : Bs) : (token_Lines s).length ≤ s.length := (lines_len s.length s 1 0).1
theorem empty_row {t : List Token_Token} (h : (((t.length : Nat) : Int) == 0) = true) : t = [] := by
  have : ((t.length : Nat) : Int) = 0 := by simpa using h
  exact List.length_eq_zero_iff.1 (by omega)
theorem full_row {t : List Token_Token} (h : (((t.length : Nat) : Int) == 0) = false) : t ≠ [] := by
  rintro rfl; simp at h
theorem v22 (s : Bs) : VC22 s (fun x => x = proof_Parse s) := by
  unfold VC22 VC22_J1 VC22_J2
  refine ⟨fun h => ?_, fun h => ?_⟩
  · have h := of_decide_eq_true h
    unfold proof_Parse
    rw [if_pos (by omega)]
  · have hl : ¬ s.length > 1000000 := by have := of_decide_eq_false h; omega
    refine ⟨by show s.length ≤ 1000000; omega, ?_⟩
    have hP : proof_Parse s = stepsGo s.length (token_Lines s) [] := by unfold proof_Parse; rw [if_neg hl]
    rw [hP]
    have hlen := lines_le s
    have hgood : ∀ x : Int, 0 ≤ x → x < (token_Lines s).length → goodT (gi (token_Lines s) x) := fun x a b => line_good (by omega) a b
    rintro _ rfl
    intro _
    generalize token_Lines s = L at *
    generalize htgt : stepsGo s.length L [] = tgt
    refine ⟨fun l i => 0 ≤ i ∧ i ≤ L.length ∧ l.length ≤ 1000000 ∧ stepsGo s.length (L.drop i.toNat) l = tgt, fun _ i => (L.length - i).toNat, ⟨by omega, by omega, by simp, by simpa using htgt⟩, ?_⟩
    rintro l i ⟨h0, h1, h2, ht⟩
    refine ⟨fun hi => ?_, fun hi => ?_⟩
    · have hi := of_decide_eq_true hi
      rw [wrp (n := i + 1) (by omega) (by omega)]
      rw [drop_gi h0 hi] at ht
      unfold stepsGo at ht
      refine ⟨⟨h0, hi⟩, fun _ => ⟨fun he => ?_, fun he => ⟨fun hf => ?_, fun hf => ?_⟩⟩⟩
      · rw [if_pos (empty_row he)] at ht
        exact ⟨⟨by omega, by omega, h2, ht⟩, by first | omega | (dsimp only; omega)⟩
      · have hne := full_row he
        have hf := of_decide_eq_true hf
        rw [if_neg hne, if_pos (by omega)] at ht
        have := List.length_pos_iff.2 hne
        exact ⟨⟨by omega, by omega⟩, ht⟩
      · have hne := full_row he
        have hf := of_decide_eq_false hf
        rw [if_neg hne, if_neg (by omega)] at ht
        refine ⟨⟨hgood i h0 hi, hne⟩, ?_⟩
        rintro _ rfl
        intro _ _ _
        refine ⟨by simp; omega, fun hb => ?_, fun hb => ?_⟩
        · have hb : (stepOf (gi L i)).2.e ≠ 0 := bne_iff_ne.1 hb
          rw [if_pos hb] at ht
          exact ht
        · have hb : (stepOf (gi L i)).2.e = 0 := by have := hb; rw [bne_eq_false_iff_eq] at this; exact this
          rw [if_neg (by simp [hb])] at ht
          exact ⟨⟨by omega, by omega, by simp; omega, ht⟩, by first | omega | (dsimp only; omega)⟩
    · have hi := of_decide_eq_false hi
      rw [show i.toNat = L.length by omega, List.drop_length] at ht
      exact ht
theorem row_taken (t : List Ref05_Token) (k end_ lo hh : Int) (tw : Bool) (h : (ref10_row t k end_ lo hh tw).E = 0) : 1 ≤ (ref10_row t k end_ lo hh tw).Taken ∧ (ref10_row t k end_ lo hh tw).Taken ≤ t.length - k.toNat := by
  unfold ref10_row at h ⊢
  obtain ⟨_, i2⟩ := row_rel lo hh tw ((t.drop k.toNat).map fromR) end_ 0 []
  obtain ⟨_, _, j, a1, a2, a3, _⟩ := i2 h
  rw [List.length_map, List.length_drop] at a2
  rw [a3]
  omega
end Go.Proofs.YtkgcdoeldilhaaaDoor
