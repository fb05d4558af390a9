/- Verdicts as text: the laws VerdictBack, VerdictPlaces: plain. -/
import Derived.Test.YtkgcdoeldilhaaaDoorNV28
set_option linter.all false
namespace Go.Proofs.YtkgcdoeldilhaaaDoor
open Go Go.Sv Go.Pu
theorem same_iff (a b : Api_Verdict) : verdict_Same a b = true ↔ a = b := by simp [verdict_Same]
theorem few_len {l : List Api_Step} (h : law10_Few l = true) : l.length ≤ 200 ∧ ∀ s ∈ l, s.Lits.length ≤ 60 ∧ s.Hints.length ≤ 200 := by
  unfold law10_Few at h
  rw [Bool.and_eq_true, decide_eq_true_eq, List.all_eq_true] at h
  exact ⟨h.1, fun s hs => by have := h.2 s hs; simpa using this⟩
theorem nd_le : ∀ (k u : Nat), u < 10 ^ (k + 1) → Lib.nDigits u ≤ k + 1
  | 0, u, h => by rw [Lib.nDigits_small (by simpa using h)]; exact Nat.le_refl _
  | k + 1, u, h => by
    by_cases hu : u < 10
    · rw [Lib.nDigits_small hu]; omega
    · rw [Lib.nDigits_big hu]
      have := nd_le k (u / 10) (by rw [Nat.pow_succ] at h; omega)
      omega
theorem itoa9 {n : Int} (h0 : -10000000 ≤ n) (h1 : n ≤ 10000000) : (Lib.itoa n).length ≤ 9 := by
  unfold Lib.itoa
  split
  · rw [List.length_cons, Lib.decDigits_length]
    have := nd_le 7 n.natAbs (by show n.natAbs < 100000000; omega)
    omega
  · rw [Lib.decDigits_length]
    have := nd_le 7 n.toNat (by show n.toNat < 100000000; omega)
    omega
theorem nums9 : ∀ {l : List Int}, (∀ n ∈ l, -10000000 ≤ n ∧ n ≤ 10000000) → (numsB l).length ≤ 10 * l.length + 1
  | [], _ => by simp [numsB]
  | n :: l, h => by
    have a := itoa9 (h n (by simp)).1 (h n (by simp)).2
    have b := nums9 (l := l) (fun x hx => h x (by simp [hx]))
    unfold numsB at b ⊢
    simp at b ⊢; omega
theorem step9 {s : Api_Step} (h : mayS s = true) : (stepT s).length ≤ 10 * (s.Lits.length + s.Hints.length) + 16 := by
  have hh : 0 ≤ s.Id ∧ s.Id ≤ 10000000 ∧ (∀ n ∈ s.Lits, -10000000 ≤ n ∧ n ≤ 10000000) ∧ (∀ n ∈ s.Hints, -10000000 ≤ n ∧ n ≤ 10000000) := by
    rcases (may_iff s).1 h with ⟨_, a, b, c, d⟩ | ⟨_, a, b, c, d⟩
    · exact ⟨by omega, b, fun n hn => by have := c.2.1 n hn; omega, fun n hn => by have := d.2.1 n hn; omega⟩
    · exact ⟨by omega, b, fun n hn => by rw [c] at hn; simp at hn, fun n hn => by have := d.2.1 n hn; omega⟩
  have a := itoa9 (n := s.Id) (by omega) hh.2.1
  have b := nums9 hh.2.2.1
  have c := nums9 hh.2.2.2
  unfold stepT
  split
  · simp; omega
  · simp; omega
theorem proof9 : ∀ {l : List Api_Step}, (∀ s ∈ l, mayS s = true) → (∀ s ∈ l, s.Lits.length ≤ 60 ∧ s.Hints.length ≤ 200) → (proofT l).length ≤ 2616 * l.length
  | [], _, _ => by simp [proofT]
  | s :: l, h, h2 => by
    have a := step9 (h s (by simp))
    have a2 := h2 s (by simp)
    have b := proof9 (l := l) (fun x hx => h x (by simp [hx])) (fun x hx => h2 x (by simp [hx]))
    have e : proofT (s :: l) = stepT s ++ proofT l := by simp [proofT]
    rw [e, List.length_append, List.length_cons]; omega
theorem parse_end {s : Bs} (h : (parseV s).2.2 = 0) : (parseV s).2.1 = s.length := by
  have hr : ∀ (e : Int) (L : List PL) (v : Api_Verdict), (restV e L v).2.2 = 0 → (restV e L v).2.1 = e := fun e L v h => by rw [(restV_ok h).2]
  unfold parseV at *
  split
  · rename_i hs; rw [if_pos hs] at h; simp at h
  · rename_i hs; rw [if_neg hs] at h
    generalize linesP (token_Lines s) = L at h ⊢
    cases L with
    | nil => rfl
    | cons p L =>
      rw [linesV_cons] at h ⊢
      split
      · rename_i h1; rw [if_pos h1] at h; simp at h
      · rename_i h1; rw [if_neg h1] at h
        split
        · rename_i h2; rw [if_pos h2] at h; exact absurd h h2
        · rename_i h2; rw [if_neg h2] at h
          unfold kindV at h ⊢
          split
          · rename_i h3; rw [if_pos h3] at h; exact hr _ _ _ h
          · rename_i h3; rw [if_neg h3] at h
            split
            · rename_i h4; rw [if_pos h4] at h
              split
              · rename_i h5; rw [if_pos h5] at h; exact absurd h h5
              · rename_i h5; rw [if_neg h5] at h; exact hr _ _ _ h
            · rename_i h4; rw [if_neg h4] at h
              split
              · rename_i h5; rw [if_pos h5] at h
                split
                · rename_i h6; rw [if_pos h6] at h; exact absurd h h6
                · rfl
              · rename_i h5; rw [if_neg h5] at h; exact hr _ _ _ h
/-- a few's text is not long -/
theorem print_few {v : Api_Verdict} (hf : law39_Few v = true) (h : (printV v).2 = 0) : chkV v = 0 ∧ (printV v).1.length ≤ 1000000 := by
  have hc : chkV v = 0 := by
    by_cases hc : chkV v = 0
    · exact hc
    · rw [print_err hc] at h; exact absurd h hc
  refine ⟨hc, ?_⟩
  by_cases k5 : v.Kind = 5
  · rw [print_5 hc k5] at h ⊢
    by_cases hb : (printP v.Proof).2 ≠ 0 ∨ (lineB (wordV 5) []).length + (printP v.Proof).1.length > 1000000
    · rw [if_pos hb]; simp
    · rw [if_neg hb]
      have := fun x => hb (.inr x)
      show (lineB (wordV 5) [] ++ (printP v.Proof).1).length ≤ _
      rw [List.length_append]; omega
  · exact (print_ok hc (fun h => absurd h k5)).2
theorem v3_J1 (s : Bs) (hs : s.length ≤ 3000) : VC3_J1 s (fun r => r = true) := by
  rintro _ rfl
  intro _ _
  refine ⟨fun h => ?_, fun h => ?_⟩
  · have h : (parseV s).2.2 ≠ 0 := bne_iff_ne.1 h
    have e : (verdict_Parse s).1 = v0 := parse_bad h
    rw [e]
    have : verdict_Same v0 (⟨0, 0, 0, [], []⟩ : Api_Verdict) = true := by decide
    rintro _ rfl
    refine ⟨fun _ => ?_, fun h => ?_⟩
    · rintro _ rfl; rfl
    · rw [this] at h; cases h
  · have h : (parseV s).2.2 = 0 := by rw [bne_eq_false_iff_eq] at h; exact h
    obtain ⟨a, b, c⟩ := parse_ok hs h
    obtain ⟨p1, p2⟩ := print_ok a c
    have pp := parse_print a p1 p2
    have e1 : verdict_Parse (verdict_Print (verdict_Parse s).1).1 = ((parseV s).1, ((printV (parseV s).1).1.length : Int), 0) := pp
    have e2 : verdict_Check (verdict_Parse s).1 = 0 := a
    have e3 : (verdict_Print (verdict_Parse s).1).2 = 0 := p1
    rintro _ rfl
    rw [e1, e3]
    rintro _ rfl
    intro _ _
    rw [e2]
    rintro _ rfl
    refine ⟨fun _ => ?_, fun h => by simp at h⟩
    have : verdict_Same (parseV s).1 (verdict_Parse s).1 = true := (same_iff _ _).2 rfl
    rintro _ rfl
    refine ⟨fun _ => ?_, fun h => ?_⟩
    · rintro _ rfl; rfl
    · rw [show verdict_Same (parseV s).1 (verdict_Parse s).1 = true from this] at h; cases h
theorem v3 {P R : Prop} (v : Api_Verdict) (s : Bs) (_ : P) (_ : R) : VC3 v s (fun r => r = true) := by
  intro _ _
  rintro _ rfl
  refine ⟨fun _ => ?_, fun h => ?_⟩
  · rintro _ rfl; rfl
  rw [Bool.or_eq_false_iff] at h
  have hf : law39_Few v = true := by simpa using h.1
  have hs : s.length ≤ 3000 := by have := of_decide_eq_false h.2; omega
  rintro _ rfl
  rintro _ rfl
  have hE : (printV v).2 = 0 ∨ (printV v).2 = chkV v ∨ ((printV v).2 = 3 ∧ chkV v = 0) := by
    by_cases hc : chkV v = 0
    · by_cases hp : (printV v).2 = 0
      · exact .inl hp
      · right; right
        refine ⟨?_, hc⟩
        by_cases k5 : v.Kind = 5
        · rw [print_5 hc k5] at hp ⊢
          by_cases hb : (printP v.Proof).2 ≠ 0 ∨ (lineB (wordV 5) []).length + (printP v.Proof).1.length > 1000000
          · rw [if_pos hb]
          · rw [if_neg hb] at hp; exact absurd rfl hp
        · exact absurd (print_ok hc (fun h => absurd h k5)).1 hp
    · right; left; rw [print_err hc]
  have hsame : chkV v = (printV v).2 := by
    by_cases hc : chkV v = 0
    · rw [hc]
      by_cases k5 : v.Kind = 5
      · obtain ⟨hk, hpl, hpi, hpr, h4, h5⟩ := chk_zero hc
        have hfl : law10_Few v.Proof = true := by
          unfold law39_Few at hf; rw [Bool.and_eq_true] at hf; exact hf.2
        obtain ⟨f1, f2⟩ := few_len hfl
        obtain ⟨c1, c2⟩ := (chk_iff v.Proof).1 hpr
        have e := proof9 c2 f2
        have hpp : printP v.Proof = (proofT v.Proof, 0) ∨ (proofT v.Proof).length > 900000 := by
          by_cases hb : (proofT v.Proof).length > 900000
          · exact .inr hb
          · left; unfold printP; rw [if_neg (by simp [hpr]), if_neg (by omega)]
        have hbig : ¬ (proofT v.Proof).length > 900000 := by omega
        rcases hpp with hpp | hpp
        · rw [print_5 hc k5, hpp]
          have hn := nil_len 5 (by omega)
          rw [if_neg (by simp only [not_or]; exact ⟨by simp, by show ¬ _ + (proofT v.Proof).length > 1000000; omega⟩)]
        · exact absurd hpp hbig
      · exact (print_ok hc (fun h => absurd h k5)).1.symm
    · rw [print_err hc]
  have hsame : verdict_Check v = (verdict_Print v).2 := hsame
  refine ⟨fun h => absurd hsame (bne_iff_ne.1 h), fun _ => ⟨fun h0 => ?_, fun _ => v3_J1 s hs⟩⟩
  have h0 : (verdict_Print v).2 = 0 := by simpa using h0
  have h0 : (printV v).2 = 0 := h0
  obtain ⟨hc, hl⟩ := print_few hf h0
  have pp := parse_print hc h0 hl
  have e1 : verdict_Parse (verdict_Print v).1 = (v, ((verdict_Print v).1.length : Int), 0) := pp
  rw [e1]
  rintro _ rfl
  intro _ _
  rintro _ rfl
  refine ⟨fun h => ?_, fun _ => v3_J1 s hs⟩
  have : verdict_Same v v = true := (same_iff _ _).2 rfl
  rw [this] at h
  simp at h
theorem v4 (s : Bs) : VC4 s (fun r => r = true) := by
  refine ⟨fun _ => ?_, fun h => ?_⟩
  · rintro _ rfl; rfl
  have hs : s.length ≤ 3000 := by have := of_decide_eq_false h; omega
  have e0 : s ++ ([10, 10, 99, 32, 97, 32, 114, 101, 109, 97, 114, 107, 10] : Bs) = s ++ 10 :: sfxB := rfl
  rw [e0]
  have h1 := parse_sfx hs
  have h2 := parse_place hs
  have h3 : (parseV s).2.2 = 0 → (parseV s).2.1 = s.length := fun h => (parse_ok hs h).2.1
  have h4 : (parseV (s ++ 10 :: sfxB)).2.2 = 0 → (parseV (s ++ 10 :: sfxB)).2.1 = ((s ++ 10 :: sfxB).length : Nat) := parse_end
  rintro _ rfl
  intro _ _
  have hlen : (s ++ 10 :: sfxB).length = s.length + 13 := by simp [sfxB]
  refine ⟨by simp; omega, ?_⟩
  rintro _ rfl
  intro _ _
  have d1 : verdict_Parse s = parseV s := rfl
  have d2 : verdict_Parse (s ++ 10 :: sfxB) = parseV (s ++ 10 :: sfxB) := rfl
  rw [d1, d2, wrp (n := ((s.length : Nat) : Int) + 13) (by omega) (by omega), h1]
  refine ⟨fun h => ?_, fun _ => ⟨fun _ => ?_, fun h => by simp at h⟩⟩
  · exfalso
    rw [Bool.or_eq_true, Bool.or_eq_true] at h
    rcases h with (h | h) | h
    · have := of_decide_eq_true h; omega
    · have := of_decide_eq_true h; omega
    · rw [Bool.and_eq_true] at h
      have hz : (parseV s).2.2 = 0 := by simpa using h.1
      have a := h3 hz
      have b := h4 (by rw [h1]; exact hz)
      rw [hlen] at b
      rw [a, b, hz] at h
      simp at h
  · rintro _ rfl; rfl
end Go.Proofs.YtkgcdoeldilhaaaDoor
