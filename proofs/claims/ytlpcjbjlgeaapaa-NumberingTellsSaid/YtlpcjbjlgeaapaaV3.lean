/- Plain lemmas about the specification functions. Conditions: in each lemma. -/
import Derived.Test.YtlpcjbjlgeaapaaV2
set_option linter.all false
namespace Go.Proofs.Ytlpcjbjlgeaapaa
open Go Go.Sv Go.Pu

theorem v17 (s : Numbering_Size) : VC17 s (fun r => r = law31_small s) := rfl
theorem v18 : VC18 (fun r => r = law31_awake) := by
  unfold VC18
  simp only [forall_eq', show numbering_Of (⟨2, 3⟩ : Numbering_Size) 15 = (⟨3, 2, 2⟩, true) by decide, show numbering_Of (⟨2, 3⟩ : Numbering_Size) 16 = (⟨0, 0, 0⟩, false) by decide,
    show numbering_Vars (⟨2, 3⟩ : Numbering_Size) = 15 by decide, show numbering_Var (⟨2, 3⟩ : Numbering_Size) (⟨1, 1, 0⟩ : Numbering_Name) = 3 by decide,
    show numbering_Var (⟨2, 3⟩ : Numbering_Size) (⟨2, 0, 0⟩ : Numbering_Name) = 5 by decide, show numbering_Var (⟨2, 3⟩ : Numbering_Size) (⟨3, 0, 0⟩ : Numbering_Name) = 7 by decide,
    show numbering_Var (⟨2, 3⟩ : Numbering_Size) (⟨1, 2, 0⟩ : Numbering_Name) = 0 by decide, show numbering_Check (⟨2, 3⟩ : Numbering_Size) = 0 by decide, show numbering_Check (⟨65, 1⟩ : Numbering_Size) = 2 by decide]
  simp [law31_awake]

theorem v3 (P : Numbering_Size) (O : Numbering_Name) (S : Int) : VC3 P O S (fun r => r = true) := by
  have hJ : VC3_J1 P O (fun r => r = true) (ref31_Names P.Ops P.States) false := by
    unfold VC3_J1
    simp [numbering_Check, ← names_len, ref31_Var, law31_awake]
  have hL := names_len (z := P)
  have hV := Vars_le P
  unfold VC3
  intro r hr
  subst hr
  refine ⟨fun _ r hr => by subst hr; rfl, fun _ r hr => ?_⟩
  subst hr
  intro _ r hr
  subst hr
  by_cases h1 : S ≥ 1
  · refine ⟨fun _ => ?_, fun h => by simp [h1] at h⟩
    rw [hL]
    by_cases h2 : S ≤ numbering_Vars P
    · have e : numbering_Of P S = (⟨(gi (ref31_Names P.Ops P.States) (S - 1)).Kind, (gi (ref31_Names P.Ops P.States) (S - 1)).A, (gi (ref31_Names P.Ops P.States) (S - 1)).B⟩, true) := by
        unfold numbering_Of; rw [if_pos ⟨h1, h2⟩]
      rw [e, wrp (by omega) (by omega)]
      simp [h2, hJ]
      omega
    · have e : numbering_Of P S = (⟨0, 0, 0⟩, false) := by
        unfold numbering_Of; rw [if_neg (by omega)]
      rw [e]
      simp [h2, hJ]
  · refine ⟨fun h => by simp [h1] at h, fun _ => ?_⟩
    have e : numbering_Of P S = (⟨0, 0, 0⟩, false) := by
      unfold numbering_Of; rw [if_neg (by omega)]
    rw [e]
    simp [hJ]

theorem Of_Var {P : Numbering_Size} {O : Numbering_Name} (h : numbering_Var P O ≠ 0) : numbering_Of P (numbering_Var P O) = (O, true) := by
  obtain ⟨h1, h2, h3, h4⟩ := Var_at h
  unfold numbering_Of
  rw [if_pos ⟨h1, h2⟩, h3]

theorem v4 (P : Numbering_Size) (O : Numbering_Name) (S : Int) : VC4 P O S (fun r => r = true) := by
  have hV := Vars_le P
  have h2 : VC4_J2 (fun r => r = true) false := by
    unfold VC4_J2; simp [law31_awake]
  have hJ : VC4_J1 P S (fun r => r = true) := by
    unfold VC4_J1
    intro r hr
    subst hr
    by_cases h1 : S ≥ 1
    · refine ⟨fun _ r hr => ?_, fun h => by simp [h1] at h⟩
      subst hr
      by_cases h3 : S ≤ numbering_Vars P
      · have e : numbering_Of P S = (⟨(gi (ref31_Names P.Ops P.States) (S - 1)).Kind, (gi (ref31_Names P.Ops P.States) (S - 1)).A, (gi (ref31_Names P.Ops P.States) (S - 1)).B⟩, true) := by
          unfold numbering_Of; rw [if_pos ⟨h1, h3⟩]
        have := at_Var (z := P) (j := S - 1) (by omega) (by omega)
        rw [e]
        simp only [forall_eq', this]
        simp [h3, h2]
      · have e : numbering_Of P S = (⟨0, 0, 0⟩, false) := by
          unfold numbering_Of; rw [if_neg (by omega)]
        rw [e]
        simp [h3, h2]
    · refine ⟨fun h => by simp [h1] at h, fun _ => ?_⟩
      have e : numbering_Of P S = (⟨0, 0, 0⟩, false) := by
        unfold numbering_Of; rw [if_neg (by omega)]
      rw [e]
      simp [h2]
  unfold VC4
  intro r hr
  subst hr
  by_cases h0 : numbering_Var P O = 0
  · simp [h0, hJ]
  · obtain ⟨g1, g2, g3, g4⟩ := Var_at h0
    have h3 : VC4_J3 P S (fun r => r = true) false := by unfold VC4_J3; simp [hJ]
    refine ⟨fun _ r hr => ?_, fun h => by simp [h0] at h⟩
    subst hr
    rw [Of_Var h0]
    have a1 : ¬ numbering_Var P O < 1 := by omega
    have a2 : ¬ numbering_Var P O > numbering_Vars P := by omega
    simp [a1, a2, h3]

def lex (O S : Numbering_Name) : Prop := O.Kind < S.Kind ∨ (O.Kind = S.Kind ∧ (O.A < S.A ∨ (O.A = S.A ∧ O.B < S.B)))
theorem lex_tot (O S : Numbering_Name) : lex O S ∨ O = S ∨ lex S O := by
  obtain ⟨a, b, c⟩ := O
  obtain ⟨d, e, f⟩ := S
  unfold lex
  simp only [Numbering_Name.mk.injEq]
  omega

theorem Var_pos {P : Numbering_Size} {O : Numbering_Name} (h : numbering_Var P O ≠ 0) : numbering_Check P = 0 ∧ valid P O.Kind O.A O.B := by
  apply Classical.byContradiction
  intro hh; apply h; unfold numbering_Var
  rw [if_neg]; rintro ⟨hc, v⟩; exact hh ⟨hc, v⟩

theorem row_lt {a b w a' b' : Int} (h : a < a') (hb : b < w) (hb' : 0 ≤ b') (hw : 0 ≤ w) : a * w + b < a' * w + b' := by
  have : (a + 1) * w ≤ a' * w := Int.mul_le_mul_of_nonneg_right (by omega) hw
  rw [Int.add_mul] at this
  omega

theorem lex_lt {P : Numbering_Size} {O S : Numbering_Name} (h1 : numbering_Var P O ≠ 0) (h2 : numbering_Var P S ≠ 0) (h : lex O S) : numbering_Var P O < numbering_Var P S := by
  obtain ⟨hc, v1⟩ := Var_pos h1
  obtain ⟨-, v2⟩ := Var_pos h2
  rw [Var_valid hc v1, Var_valid hc v2]
  have hO := wide_b hc O.Kind
  have hS := wide_b hc S.Kind
  obtain ⟨p1, p2, p3, p4, p5, p6⟩ := v1
  obtain ⟨q1, q2, q3, q4, q5, q6⟩ := v2
  rcases h with h | ⟨hk, h | ⟨h', h''⟩⟩
  · have m1 := row_lt (a := O.A) (b := O.B) (w := wide P O.Kind) (a' := tall P O.Kind) (b' := 0) p4 p6 (by omega) (by omega)
    have m2 : 0 ≤ S.A * wide P S.Kind := Int.mul_nonneg q3 (by omega)
    have m3 : base P O.Kind + tall P O.Kind * wide P O.Kind ≤ base P S.Kind := by
      have : (O.Kind = 1 ∧ S.Kind = 2) ∨ (O.Kind = 1 ∧ S.Kind = 3) ∨ (O.Kind = 2 ∧ S.Kind = 3) := by omega
      obtain ⟨g0, g1, g2, g3⟩ := check0 hc
      rcases this with ⟨e1, e2⟩ | ⟨e1, e2⟩ | ⟨e1, e2⟩ <;> rw [e1, e2] <;> simp [base, tall, wide] <;> omega
    omega
  · rw [← hk] at q4 q6 ⊢
    have := row_lt (a := O.A) (b := O.B) (w := wide P O.Kind) (a' := S.A) (b' := S.B) h p6 q5 (by omega)
    omega
  · rw [← hk, ← h']; omega

theorem v5 (P : Numbering_Size) (O S : Numbering_Name) : VC5 P O S (fun r => r = true) := by
  unfold VC5
  simp only [forall_eq']
  have hj : ((numbering_Var P O != 0) = true → ((numbering_Var P O == numbering_Var P S) != (O.Kind == S.Kind && (O.A == S.A && (O.B == S.B && true)))) = false) := by
    intro h
    have h : numbering_Var P O ≠ 0 := by simpa using h
    rcases lex_tot O S with hl | rfl | hl
    · by_cases hs : numbering_Var P S = 0
      · rw [hs]
        have hne : O ≠ S := by rintro rfl; exact h hs
        have : (O.Kind == S.Kind && (O.A == S.A && (O.B == S.B && true))) = false := by
          rw [Bool.eq_false_iff]; intro he; apply hne
          simp at he
          obtain ⟨a, b, c⟩ := O; obtain ⟨d, e, f⟩ := S
          simp only at he; obtain ⟨rfl, rfl, rfl⟩ := he; rfl
        rw [this]; simp [h]
      · have := lex_lt h hs hl
        have e1 : (numbering_Var P O == numbering_Var P S) = false := by rw [beq_eq_false_iff_ne]; omega
        rw [e1]
        rw [bne_eq_false_iff_eq, eq_comm, Bool.eq_false_iff]
        unfold lex at hl
        simp; omega
    · simp
    · by_cases hs : numbering_Var P S = 0
      · rw [hs]
        have hne : O ≠ S := by rintro rfl; exact h hs
        have : (O.Kind == S.Kind && (O.A == S.A && (O.B == S.B && true))) = false := by
          rw [Bool.eq_false_iff]; intro he; apply hne
          simp at he
          obtain ⟨a, b, c⟩ := O; obtain ⟨d, e, f⟩ := S
          simp only at he; obtain ⟨rfl, rfl, rfl⟩ := he; rfl
        rw [this]; simp [h]
      · have := lex_lt hs h hl
        have e1 : (numbering_Var P O == numbering_Var P S) = false := by rw [beq_eq_false_iff_ne]; omega
        rw [e1]
        rw [bne_eq_false_iff_eq, eq_comm, Bool.eq_false_iff]
        unfold lex at hl
        simp; omega
  have hJ : VC5_J1 P O S (fun r => r = true) (numbering_Var P O) (numbering_Var P S) false := by
    unfold VC5_J1
    refine ⟨by simp, fun _ => ⟨fun _ r hr => hr.symm, fun h => ?_⟩⟩
    have h : numbering_Var P O ≠ 0 ∧ numbering_Var P S ≠ 0 := by simpa using h
    obtain ⟨h1, h2⟩ := h
    obtain ⟨hc, -⟩ := Var_pos h1
    have e : (decide (numbering_Var P O < numbering_Var P S)) = ((decide (O.Kind < S.Kind)) || ((O.Kind == S.Kind) && ((decide (O.A < S.A)) || ((O.A == S.A) && (decide (O.B < S.B)))))) := by
      have e2 : ((decide (O.Kind < S.Kind)) || ((O.Kind == S.Kind) && ((decide (O.A < S.A)) || ((O.A == S.A) && (decide (O.B < S.B)))))) = true ↔ lex O S := by
        simp [lex]
      rw [Bool.eq_iff_iff, e2, decide_eq_true_eq]
      refine ⟨fun hlt => ?_, lex_lt h1 h2⟩
      rcases lex_tot O S with hl | rfl | hl
      · exact hl
      · omega
      · have := lex_lt h2 h1 hl; omega
    rw [e, hc]
    simp [law31_awake]
  exact ⟨fun h => by rw [hj h]; exact hJ, fun _ => hJ⟩
end Go.Proofs.Ytlpcjbjlgeaapaa
