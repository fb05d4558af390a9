/- Numerals: what stands for which number, and back. -/
import Derived.Test.YtkgcdoeldilhaaaGreatDoorNV4
import Derived.Lib.ItoaLen
set_option linter.all false
namespace Go.Proofs.YtkgcdoeldilhaaaGreatDoor
open Go Go.Sv Go.Pu
theorem digB_iff (b : UInt8) : digB b = true ↔ 48 ≤ b.toNat ∧ b.toNat ≤ 57 := by
  unfold digB; rw [Bool.and_eq_true, decide_eq_true_eq, decide_eq_true_eq]
theorem decVal_snoc (l : Bs) (b : UInt8) : decVal (l ++ [b]) = 10 * decVal l + (b.toNat - 48) := by simp [decVal]
theorem foldl_ge : ∀ (l : Bs) (n : Nat), n ≤ l.foldl (fun n b => 10 * n + (b.toNat - 48)) n
  | [], n => Nat.le_refl _
  | b :: r, n => by
    have := foldl_ge r (10 * n + (b.toNat - 48))
    rw [List.foldl_cons]; omega
theorem decVal_part {l : Bs} {i : Int} (h0 : 0 ≤ i) (h : i < l.length) : 10 * decVal (l.take i.toNat) + ((gi l i).toNat - 48) ≤ decVal l := by
  conv => rhs; rw [← List.take_append_drop (i + 1).toNat l, take_gi h0 h]
  have := foldl_ge (l.drop (i + 1).toNat) (decVal (l.take i.toNat ++ [gi l i]))
  rw [decVal_snoc] at this
  unfold decVal at *
  rw [List.foldl_append]
  rw [List.foldl_append]
  simpa using this
theorem numOK_iff (s : Bs) : numOK s = true ↔ digsOf s ≠ [] ∧ ((digsOf s).head? = some 48 → (digsOf s).length ≤ 1 ∧ minusOf s = false) ∧ (digsOf s).all digB = true := by
  unfold numOK
  rw [Bool.and_eq_true, Bool.and_eq_true]
  constructor
  · rintro ⟨⟨h1, h2⟩, h3⟩
    refine ⟨(by intro e; rw [e] at h1; cases h1), fun e => ?_, h3⟩
    rw [e] at h2
    simp at h2
    exact ⟨h2.1, h2.2⟩
  · rintro ⟨h1, h2, h3⟩
    have he : (!(digsOf s).isEmpty) = true := by
      cases hd : digsOf s with
      | nil => exact absurd hd h1
      | cons _ _ => rfl
    refine ⟨⟨he, ?_⟩, h3⟩
    by_cases e : (digsOf s).head? = some 48
    · obtain ⟨h4, h5⟩ := h2 e
      rw [e, h5]
      simp; exact h4
    · simp [e]
theorem numOf_out {s : Bs} {lo hi : Int} (h : numOK s = true) (hlo : inR .i64 lo) (hhi : inR .i64 hi) (hb : 9223372036854775808 < decVal (digsOf s) ∨ (minusOf s = false ∧ 9223372036854775808 ≤ decVal (digsOf s))) : (0, 7) = numOf s lo hi := by
  have a1 : -9223372036854775808 ≤ lo := hlo.1
  have a2 : hi ≤ 9223372036854775807 := hhi.2
  unfold numOf
  rw [if_pos h, if_neg]
  rintro ⟨b1, b2⟩
  unfold sval at b1 b2
  cases hm : minusOf s with
  | true =>
    rw [hm] at b1 b2 hb
    simp at b1 b2 hb
    omega
  | false =>
    rw [hm] at b1 b2 hb
    simp at b1 b2 hb
    omega
theorem v100 (s : Bs) (hl : len1 s) : VC100 s (fun r => r = token_numeral s) := by
  unfold len1 at hl
  have hc : strings_CutPrefix s [45] = (digsOf s, minusOf s) := by
    unfold strings_CutPrefix internal_stringslite_CutPrefix digsOf minusOf Lib.trimPrefix
    cases h : Lib.hasPrefix s [45] <;> simp
  have hdl : (digsOf s).length ≤ s.length := by
    unfold digsOf Lib.trimPrefix
    split
    · simp
    · exact Nat.le_refl _
  refine ⟨⟨by decide, hl⟩, ?_⟩
  simp only [forall_eq', hc]
  unfold VC100_J1 VC100_J2 VC100_J3
  dsimp only
  have no : numOK s = false → (([] : Bs), false, false) = token_numeral s := fun h => by simp [token_numeral, h]
  have hhead : ∀ (h : 0 < (digsOf s).length), (digsOf s).head? = some (gi (digsOf s) 0) := fun h => by
    cases hd : digsOf s with
    | nil => rw [hd] at h; cases h
    | cons c r => rfl
  refine ⟨fun h => ⟨fun _ => no ?_, fun h => absurd h (by simp)⟩, fun h => ?_⟩
  · have : digsOf s = [] := by simpa using h
    unfold numOK; rw [this]; rfl
  · have hne : digsOf s ≠ [] := by simpa using h
    have hpos : 0 < (digsOf s).length := by
      cases hd : digsOf s with
      | nil => exact absurd hd hne
      | cons c r => simp
    refine ⟨by omega, ?_⟩
    have h48 : (((gi (digsOf s) 0).toNat : Int) == 48) = ((digsOf s).head? == some 48) := by
      rw [hhead hpos]
      have := u8eq (gi (digsOf s) 0) 48 (by decide)
      rw [show (((gi (digsOf s) 0).toNat : Int) == 48) = (((gi (digsOf s) 0).toNat : Int) == ((48 : Nat) : Int)) from rfl, ← this]
      rfl
    rw [h48]
    have hx : decide (((digsOf s).length : Int) > 1) = decide (1 < (digsOf s).length) := by
      rw [Bool.eq_iff_iff, decide_eq_true_eq, decide_eq_true_eq]; omega
    rw [hx]
    refine ⟨fun hb => no ?_, fun hb => ?_⟩
    · unfold numOK; rw [hb]; simp
    · refine ⟨fun i => 0 ≤ i ∧ i ≤ (digsOf s).length ∧ ((digsOf s).take i.toNat).all digB = true, fun i => ((digsOf s).length - i).toNat, ⟨by omega, by omega, by simp⟩, ?_⟩
      rintro i ⟨h0, h1, h2⟩
      refine ⟨fun hi => ?_, fun hi => ?_⟩
      · have hi := of_decide_eq_true hi
        have bad : digB (gi (digsOf s) i) = false → (([] : Bs), false, false) = token_numeral s := fun hbad => no (by
          have : (digsOf s).all digB = false := by rw [List.all_eq_false]; exact ⟨_, mem_gi h0 hi, by simp [hbad]⟩
          unfold numOK; rw [this, Bool.and_false])
        refine ⟨⟨h0, hi⟩, fun hlt => ⟨fun _ => bad ?_, fun h => absurd h (by simp)⟩, fun hge => ⟨⟨h0, hi⟩, fun hgt => bad ?_, fun hle => ?_⟩⟩
        · have hlt := of_decide_eq_true hlt
          unfold digB
          have : ¬ 48 ≤ (gi (digsOf s) i).toNat := by omega
          simp [this]
        · have hgt := of_decide_eq_true hgt
          unfold digB
          have : ¬ (gi (digsOf s) i).toNat ≤ 57 := by omega
          simp [this]
        · have hge := of_decide_eq_false hge
          have hle := of_decide_eq_false hle
          rw [wrp (n := i + 1) (by omega) (by omega)]
          refine ⟨⟨by omega, by omega, ?_⟩, by first | omega | (dsimp only; omega)⟩
          rw [take_gi h0 hi, List.all_append, h2]
          simp only [List.all_cons, List.all_nil, Bool.and_true, Bool.true_and]
          rw [digB_iff]; omega
      · have hi := of_decide_eq_false hi
        rw [show i.toNat = (digsOf s).length by omega, List.take_length] at h2
        have he : (digsOf s).isEmpty = false := by
          cases hd : digsOf s with
          | nil => exact absurd hd hne
          | cons _ _ => rfl
        have hok : numOK s = true := by unfold numOK; rw [hb, h2, he]; rfl
        unfold token_numeral
        rw [if_pos hok]
theorem wu64 {n : Int} (h0 : 0 ≤ n) (h1 : n ≤ 18446744073709551615) : IntKind.u64.wrap n = n := by
  simp [IntKind.wrap, IntKind.signed, IntKind.bits]; omega
theorem wu8 {n : Int} (h0 : 0 ≤ n) (h1 : n ≤ 255) : IntKind.u8.wrap n = n := by
  simp [IntKind.wrap, IntKind.signed, IntKind.bits]; omega
theorem v87 (s : Bs) (lo hi : Int) (hp : preNum s lo hi) : VC87 s lo hi (fun r => r = token_Number s lo hi) := by
  obtain ⟨hl, hlo, hhi⟩ := hp
  refine ⟨hl, ?_⟩
  unfold token_Number
  simp only [forall_eq']
  unfold token_numeral
  cases hok : numOK s with
  | false =>
    rw [if_neg (by simp)]
    refine ⟨fun _ => by simp [numOf, hok], fun h => absurd h (by simp)⟩
  | true =>
    rw [if_pos rfl]
    obtain ⟨d1, d2, d3⟩ := (numOK_iff s).1 hok
    have hdl : (digsOf s).length ≤ s.length := by
      unfold digsOf Lib.trimPrefix
      split
      · simp
      · exact Nat.le_refl _
    have hl : s.length ≤ 1000000 := hl
    refine ⟨fun h => absurd h (by simp), fun _ => ?_⟩
    refine ⟨fun n i => 0 ≤ i ∧ i ≤ (digsOf s).length ∧ n = decVal ((digsOf s).take i.toNat) ∧ n ≤ 18446744073709551615, fun _ i => ((digsOf s).length - i).toNat, ⟨by omega, by omega, by simp [decVal], by omega⟩, ?_⟩
    rintro n i ⟨h0, h1, h2, h3⟩
    refine ⟨fun hi' => ?_, fun hi' => ?_⟩
    · have hi' : i < (digsOf s).length := of_decide_eq_true hi'
      have hpart := decVal_part h0 hi'
      refine ⟨fun hbig => ?_, fun hsm => ?_⟩
      · have hbig := of_decide_eq_true hbig
        exact numOf_out hok hlo hhi (.inl (by omega))
      · have hsm := of_decide_eq_false hsm
        have hdg := (digB_iff _).1 (List.all_eq_true.1 d3 _ (mem_gi h0 hi'))
        show ((0 : Int) ≤ i ∧ i < (digsOf s).length) ∧ (_ ∧ _)
        rw [wu8 (n := ((gi (digsOf s) i).toNat : Int) - 48) (by omega) (by omega), wu64 (n := ((gi (digsOf s) i).toNat : Int) - 48) (by omega) (by omega), wu64 (n := 10 * n) (by omega) (by omega), wu64 (by omega) (by omega), wrp (n := i + 1) (by omega) (by omega)]
        refine ⟨⟨h0, hi'⟩, ⟨by omega, by omega, ?_, by omega⟩, by first | omega | (dsimp only; omega)⟩
        rw [take_gi h0 hi', decVal_snoc]
        omega
    · have hi' : ¬ i < (digsOf s).length := of_decide_eq_false hi'
      rw [show i.toNat = (digsOf s).length by omega, List.take_length] at h2
      unfold VC87_J1 VC87_J2
      have hsv : sval s = if minusOf s then -n else n := by unfold sval; rw [h2]
      have hno : numOf s lo hi = if lo ≤ sval s ∧ sval s ≤ hi then (sval s, 0) else (0, 7) := by unfold numOf; rw [if_pos hok]
      have last : ∀ x : Int, x = sval s → ((decide (x < lo) || decide (x > hi)) = true → ((0 : Int), (7 : Int)) = numOf s lo hi) ∧ ((decide (x < lo) || decide (x > hi)) = false → (x, (0 : Int)) = numOf s lo hi) := by
        rintro x rfl
        rw [hno]
        refine ⟨fun h => ?_, fun h => ?_⟩
        · rw [if_neg]
          simp at h; omega
        · rw [if_pos]
          simp at h; omega
      refine ⟨fun h => ?_, fun h => ?_⟩
      · rw [Bool.and_eq_true, decide_eq_true_eq] at h
        obtain ⟨g1, g2⟩ := h
        refine numOf_out hok hlo hhi ?_
        cases hm : minusOf s with
        | true =>
          left
          rw [hm] at g2
          have : ¬ n = 9223372036854775808 := by simpa using g2
          omega
        | false => right; exact ⟨rfl, by first | omega | (dsimp only; omega)⟩
      · refine ⟨fun hm => last _ ?_, fun hm => last _ ?_⟩
        · have hm : minusOf s = true := hm
          rw [hsv, hm]
          have hn2 : n ≤ 9223372036854775808 := by
            rw [hm] at h
            simp at h
            omega
          rw [if_pos rfl]
          rw [wdef, wdef]; omega
        · have hm : minusOf s = false := hm
          rw [hsv, hm]
          have hn2 : n ≤ 9223372036854775807 := by
            rw [hm] at h
            simp at h
            omega
          rw [if_neg (by simp)]
          exact wrp (by omega) (by omega)
end Go.Proofs.YtkgcdoeldilhaaaGreatDoor
