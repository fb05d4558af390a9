/- Verdicts as text: printing. -/
import Derived.Test.YtkgcdoeldilhaaaGreatDoorNV23
set_option linter.all false
namespace Go.Proofs.YtkgcdoeldilhaaaGreatDoor
open Go Go.Sv Go.Pu
theorem v32 (w : Bs) (n : List Int) (hp : preWB w n) : VC32 w n (fun r => r = verdict_line w n) := by
  intro hs
  obtain ⟨hw, hn, hr⟩ := hp
  unfold VC32_J1 verdict_line lineB
  refine ⟨fun out i => 0 ≤ i ∧ i ≤ n.length ∧ out = joinRow (wordsB w (n.take i.toNat)), fun _ i => (n.length - i).toNat, ⟨by omega, by omega, by simp [wordsB, joinRow]⟩, ?_⟩
  rintro out i ⟨h0, h1, h2⟩
  have hol := joinRow_wlen w (n.take i.toNat) (fun x hx => hr x (List.mem_of_mem_take hx))
  rw [← h2, List.length_take] at hol
  refine ⟨fun hi => ?_, fun hi => ?_⟩
  · have hi := of_decide_eq_true hi
    have hil := itoa_len (hr _ (mem_gi h0 hi))
    rw [wrp (n := i + 1) (by omega) (by omega)]
    refine ⟨⟨h0, hi⟩, hr _ (mem_gi h0 hi), ?_⟩
    rintro _ rfl
    have hil : (token_Digits (gi n i)).length ≤ 21 := hil
    refine ⟨by simp only [List.length_singleton]; omega, by simp only [List.length_append, List.length_singleton]; omega, ⟨by omega, by omega, ?_⟩, by first | omega | (dsimp only; omega)⟩
    rw [take_gi h0 hi, joinRow_words, h2]
    rfl
  · have hi := of_decide_eq_false hi
    rw [show i.toNat = n.length by omega, List.take_length] at h2
    rw [h2] at hol ⊢
    exact ⟨by simp; omega, rfl⟩
theorem in_small {x : Int} (h0 : 0 ≤ x) (h1 : x ≤ 1000000) : inR .i64 x := ⟨by show (-9223372036854775808 : Int) ≤ x; omega, by show x ≤ (9223372036854775807 : Int); omega⟩
theorem wordV_le (k : Int) : (wordV k).length ≤ 100 := by
  by_cases h : 1 ≤ k ∧ k ≤ 5
  · rcases wordV_of h with rfl | rfl | rfl | rfl | rfl <;> decide
  · unfold wordV; rw [if_pos (by omega)]; simp
theorem picksT_step {l : List Api_Pick} {i : Int} (h0 : 0 ≤ i) (h : i < l.length) : (l.take (i + 1).toNat).flatMap pickT = (l.take i.toNat).flatMap pickT ++ pickT (gi l i) := by
  rw [take_gi h0 h]; simp
theorem print_err {v : Api_Verdict} (h : chkV v ≠ 0) : printV v = ([], chkV v) := by
  unfold printV; rw [if_pos h]
theorem print_1 {v : Api_Verdict} (h : chkV v = 0) (hk : v.Kind = 1) : printV v = (lineB (wordV 1) [v.At, v.Err], 0) := by
  unfold printV; rw [if_neg (by simp [h]), if_pos hk]
theorem print_4 {v : Api_Verdict} (h : chkV v = 0) (hk : v.Kind = 4) : printV v = (lineB (wordV 4) [(v.Picks.length : Int)] ++ v.Picks.flatMap pickT, 0) := by
  unfold printV; rw [if_neg (by simp [h]), if_neg (by omega), if_pos hk]
theorem print_5 {v : Api_Verdict} (h : chkV v = 0) (hk : v.Kind = 5) : printV v = if (printP v.Proof).2 ≠ 0 ∨ (lineB (wordV 5) []).length + (printP v.Proof).1.length > 1000000 then ([], 3) else (lineB (wordV 5) [] ++ (printP v.Proof).1, 0) := by
  unfold printV; rw [if_neg (by simp [h]), if_neg (by omega), if_neg (by omega), if_pos hk]
theorem print_0 {v : Api_Verdict} (h : chkV v = 0) (h1 : v.Kind ≠ 1) (h4 : v.Kind ≠ 4) (h5 : v.Kind ≠ 5) : printV v = (lineB (wordV v.Kind) [], 0) := by
  unfold printV; rw [if_neg (by simp [h]), if_neg h1, if_neg h4, if_neg h5]
theorem printP_len (l : List Api_Step) : (printP l).1.length ≤ 1000000 := by
  unfold printP
  split
  · simp
  · split
    · simp
    · rename_i h; show (proofT l).length ≤ _; omega
theorem nil_len (k : Int) (hk : 1 ≤ k ∧ k ≤ 5) : (lineB (wordV k) []).length ≤ 16 := by have := lineV_len hk (ns := []) (by simp); simpa using this
theorem five_cond (a b : Int) (x : Nat) (y : Nat) (h : x ≤ 16) (hy : y ≤ 1000000) : ((a != 0) || (decide ((IntKind.i64.wrap ((x : Int) + (y : Int))) > 1000000))) = decide (a ≠ 0 ∨ x + y > 1000000) := by
  rw [wrp (n := (x : Int) + (y : Int)) (by omega) (by omega), Bool.eq_iff_iff]
  simp only [Bool.or_eq_true, bne_iff_ne, decide_eq_true_eq]
  omega
theorem v10 (v : Api_Verdict) : VC10 v (fun r => r = verdict_Print v) := by
  intro _ _
  rintro _ rfl
  unfold verdict_Check verdict_Print
  refine ⟨fun h => (print_err (bne_iff_ne.1 h)).symm, fun h => ?_⟩
  have hc : chkV v = 0 := by rw [bne_eq_false_iff_eq] at h; exact h
  obtain ⟨hk, hpl, hpi, hpr, h4, h5⟩ := chk_zero hc
  obtain ⟨q1, q2, q3⟩ := (pickedB_iff v.Picks).1 hpi
  rintro _ rfl
  unfold verdict_Word VC10_J1
  refine ⟨⟨wordV_le _, by simp, by simp⟩, ?_⟩
  rintro _ rfl
  refine ⟨fun k1 => ?_, fun k1 => ?_⟩
  · have k1 : v.Kind = 1 := by simpa using k1
    rw [print_1 hc k1]
    unfold placedB at hpl
    rw [if_pos k1] at hpl
    simp only [Bool.and_eq_true, decide_eq_true_eq] at hpl
    rintro _ rfl
    rw [k1]
    refine ⟨⟨wordV_le _, by simp, fun x hx => ?_⟩, ?_⟩
    · have hx : x = v.At ∨ x = v.Err := by simpa using hx
      rcases hx with rfl | rfl
      · exact in_small (by omega) (by omega)
      · exact in_small (by omega) (by omega)
    · rintro _ rfl; rfl
  · have k1 : v.Kind ≠ 1 := by simpa using k1
    refine ⟨fun k4 => ?_, fun k4 => ?_⟩
    · have k4 : v.Kind = 4 := by simpa using k4
      rw [print_4 hc k4]
      rintro _ rfl
      rw [k4]
      have hin : ∀ x ∈ [((v.Picks.length : Nat) : Int)], inR .i64 x := fun x hx => by
        have hx : x = ((v.Picks.length : Nat) : Int) := by simpa using hx
        subst hx; exact in_small (by omega) (by omega)
      refine ⟨⟨wordV_le _, by simp, hin⟩, ?_⟩
      rintro _ rfl
      have hhl := lineV_len (k := 4) (by omega) hin
      simp only [List.length_cons, List.length_nil] at hhl
      unfold verdict_line
      refine ⟨fun s i => 0 ≤ i ∧ i ≤ v.Picks.length ∧ s = lineB (wordV 4) [((v.Picks.length : Nat) : Int)] ++ (v.Picks.take i.toNat).flatMap pickT, fun _ i => (v.Picks.length - i).toNat, ⟨by omega, by omega, by simp⟩, ?_⟩
      rintro s i ⟨i0, i1, hs⟩
      have hb := picksT_len (l := v.Picks.take i.toNat) (fun p hp => q2 p (List.mem_of_mem_take hp))
      rw [List.length_take] at hb
      have hsl : s.length ≤ 5000 := by rw [hs, List.length_append]; omega
      refine ⟨fun hi => ?_, fun hi => ?_⟩
      · have hi := of_decide_eq_true hi
        have ok := q2 _ (mem_gi i0 hi)
        obtain ⟨o0, o1, o2, o3⟩ := (pickOK_iff _).1 ok
        have hl := pickT_len ok
        rw [wrp (n := i + 1) (by omega) (by omega)]
        refine ⟨⟨i0, hi⟩, ⟨by simp, by simp, fun x hx => ?_⟩, ?_⟩
        · have hx : x = (gi v.Picks i).Oper ∨ x = (gi v.Picks i).Result := by simpa using hx
          rcases hx with rfl | rfl
          · exact in_small o0 (by omega)
          · exact in_small o2 o3
        · rintro _ rfl
          have e : lineB ([112, 105, 99, 107] : Bs) [(gi v.Picks i).Oper, (gi v.Picks i).Result] = pickT (gi v.Picks i) := rfl
          rw [e]
          refine ⟨by omega, ⟨by omega, by omega, ?_⟩, by first | omega | (dsimp only; omega)⟩
          rw [picksT_step i0 hi, hs, List.append_assoc]
      · have hi := of_decide_eq_false hi
        rw [show i.toNat = v.Picks.length by omega, List.take_length] at hs
        rw [hs]
    · have k4 : v.Kind ≠ 4 := by simpa using k4
      have hn := nil_len v.Kind hk
      refine ⟨fun k5 => ?_, fun k5 => ?_⟩
      · have k5 : v.Kind = 5 := by simpa using k5
        rw [print_5 hc k5]
        rintro _ rfl
        unfold verdict_line proof_Print
        have hpl := printP_len v.Proof
        rw [five_cond _ 0 _ _ hn hpl, k5]
        rw [k5] at hn
        refine ⟨fun h => ?_, fun h => ?_⟩
        · rw [if_pos (of_decide_eq_true h)]
        · rw [if_neg (of_decide_eq_false h)]
          exact ⟨by omega, rfl⟩
      · have k5 : v.Kind ≠ 5 := by simpa using k5
        rw [print_0 hc k1 k4 k5]; rfl
theorem v11 (v : Api_Verdict) : VC11 v (fun r => r = ref39_Print v) := by
  intro _ _
  rintro _ rfl
  unfold ref39_Check ref39_Print
  refine ⟨fun h => (print_err (bne_iff_ne.1 h)).symm, fun h => ?_⟩
  have hc : chkV v = 0 := by rw [bne_eq_false_iff_eq] at h; exact h
  obtain ⟨hk, hpl, hpi, hpr, h4, h5⟩ := chk_zero hc
  obtain ⟨q1, q2, q3⟩ := (pickedB_iff v.Picks).1 hpi
  rintro _ rfl
  unfold ref39_Word VC11_J1
  refine ⟨fun k1 => ?_, fun k1 => ?_⟩
  · have k1 : v.Kind = 1 := by simpa using k1
    rw [print_1 hc k1]
    unfold placedB at hpl
    rw [if_pos k1] at hpl
    simp only [Bool.and_eq_true, decide_eq_true_eq] at hpl
    rw [k1]
    refine ⟨⟨wordV_le _, by simp, fun x hx => ?_⟩, ?_⟩
    · have hx : x = v.At ∨ x = v.Err := by simpa using hx
      rcases hx with rfl | rfl
      · exact in_small (by omega) (by omega)
      · exact in_small (by omega) (by omega)
    · rintro _ rfl; rfl
  · have k1 : v.Kind ≠ 1 := by simpa using k1
    refine ⟨fun k4 => ?_, fun k4 => ?_⟩
    · have k4 : v.Kind = 4 := by simpa using k4
      rw [print_4 hc k4]
      rw [k4]
      have hin : ∀ x ∈ [((v.Picks.length : Nat) : Int)], inR .i64 x := fun x hx => by
        have hx : x = ((v.Picks.length : Nat) : Int) := by simpa using hx
        subst hx; exact in_small (by omega) (by omega)
      refine ⟨⟨wordV_le _, by simp, hin⟩, ?_⟩
      rintro _ rfl
      have hhl := lineV_len (k := 4) (by omega) hin
      simp only [List.length_cons, List.length_nil] at hhl
      have e24 : ∀ (w : Bs) (n : List Int), ref24_Words w n = lineB w n := fun _ _ => rfl
      simp only [e24]
      refine ⟨fun s i => 0 ≤ i ∧ i ≤ v.Picks.length ∧ s = lineB (wordV 4) [((v.Picks.length : Nat) : Int)] ++ (v.Picks.take i.toNat).flatMap pickT, fun _ i => (v.Picks.length - i).toNat, ⟨by omega, by omega, by simp⟩, ?_⟩
      rintro s i ⟨i0, i1, hs⟩
      have hb := picksT_len (l := v.Picks.take i.toNat) (fun p hp => q2 p (List.mem_of_mem_take hp))
      rw [List.length_take] at hb
      have hsl : s.length ≤ 5000 := by rw [hs, List.length_append]; omega
      refine ⟨fun hi => ?_, fun hi => ?_⟩
      · have hi := of_decide_eq_true hi
        have ok := q2 _ (mem_gi i0 hi)
        obtain ⟨o0, o1, o2, o3⟩ := (pickOK_iff _).1 ok
        have hl := pickT_len ok
        rw [wrp (n := i + 1) (by omega) (by omega)]
        refine ⟨⟨i0, hi⟩, ⟨i0, hi⟩, ⟨by simp, by simp, fun x hx => ?_⟩, ?_⟩
        · have hx : x = (gi v.Picks i).Oper ∨ x = (gi v.Picks i).Result := by simpa using hx
          rcases hx with rfl | rfl
          · exact in_small o0 (by omega)
          · exact in_small o2 o3
        · rintro _ rfl
          have e : lineB ([112, 105, 99, 107] : Bs) [(gi v.Picks i).Oper, (gi v.Picks i).Result] = pickT (gi v.Picks i) := rfl
          rw [e]
          refine ⟨by omega, ⟨by omega, by omega, ?_⟩, by first | omega | (dsimp only; omega)⟩
          rw [picksT_step i0 hi, hs, List.append_assoc]
      · have hi := of_decide_eq_false hi
        rw [show i.toNat = v.Picks.length by omega, List.take_length] at hs
        rw [hs]
    · have k4 : v.Kind ≠ 4 := by simpa using k4
      have hn := nil_len v.Kind hk
      refine ⟨⟨wordV_le _, by simp, by simp⟩, ?_⟩
      rintro _ rfl
      have e24 : ∀ (w : Bs) (n : List Int), ref24_Words w n = lineB w n := fun _ _ => rfl
      simp only [e24]
      refine ⟨fun k5 => ?_, fun k5 => ?_⟩
      · have k5 : v.Kind = 5 := by simpa using k5
        rw [print_5 hc k5]
        rintro _ rfl
        unfold ref10_Print
        have hpl := printP_len v.Proof
        rw [five_cond _ 0 _ _ hn hpl, k5]
        rw [k5] at hn
        refine ⟨fun h => ?_, fun h => ?_⟩
        · rw [if_pos (of_decide_eq_true h)]
        · rw [if_neg (of_decide_eq_false h)]
          exact ⟨by omega, rfl⟩
      · have k5 : v.Kind ≠ 5 := by simpa using k5
        rw [print_0 hc k1 k4 k5]
end Go.Proofs.YtkgcdoeldilhaaaGreatDoor
