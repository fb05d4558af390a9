/- Numerals: what stands for which number, and back. -/
import Derived.Test.YtkgcdoeldilhaaaGreatDoorNV4
import Derived.Lib.ItoaLen
set_option linter.all false
namespace Go.Proofs.YtkgcdoeldilhaaaGreatDoor
open Go Go.Sv Go.Pu
theorem digB_iff (b : UInt8) : digB b = true ↔ 48 ≤ b.toNat ∧ b.toNat ≤ 57 := by
 unfold digB; rw [Bool.and_eq_true, decide_eq_true_eq, decide_eq_true_eq]
theorem decVal_snoc (l : Bs) (b : UInt8) : decVal (l ++ [b]) = 10 * decVal l + (b.toNat - 48) := by simp [decVal]
theorem foldl_ge : ∀ (l : Bs) (n : Nat), n ≤ l.foldl (fun n b => 10 * n + (b.toNat - 48)) n
 | [], n => Nat.le_refl _
 | b :: r, n => by
  have := foldl_ge r (10 * n + (b.toNat - 48))
  rw [List.foldl_cons]; omega
theorem decVal_part {l : Bs} {i : Int} (h0 : 0 ≤ i) (h : i < l.length) : 10 * decVal (l.take i.toNat) + ((gi l i).toNat - 48) ≤ decVal l := by
 conv => rhs; rw [← List.take_append_drop (i + 1).toNat l, take_gi h0 h]
 have := foldl_ge (l.drop (i + 1).toNat) (decVal (l.take i.toNat ++ [gi l i]))
 rw [decVal_snoc] at this
 unfold decVal at *
 rw [List.foldl_append]
 rw [List.foldl_append]
 simpa using this
theorem decVal_pow : ∀ (l : Bs) (n : Nat), n * 10 ^ l.length ≤ l.foldl (fun n b => 10 * n + (b.toNat - 48)) n
 | [], n => by simp
 | b :: r, n => by
  have h1 := decVal_pow r (10 * n + (b.toNat - 48))
  rw [List.foldl_cons, List.length_cons, Nat.pow_succ]
  refine Nat.le_trans ?_ h1
  rw [Nat.add_mul]
  have : n * (10 ^ r.length * 10) = 10 * n * 10 ^ r.length := by rw [Nat.mul_comm (10 ^ r.length), ← Nat.mul_assoc, Nat.mul_comm n 10]
  omega
theorem decVal_big {l : Bs} {b : UInt8} {r : Bs} (h : l = b :: r) (hb : 49 ≤ b.toNat) (n : Nat) (hl : n ≤ r.length) : 10 ^ n ≤ decVal l := by
 subst h
 unfold decVal
 rw [List.foldl_cons]
 have h1 := decVal_pow r (10 * 0 + (b.toNat - 48))
 have h2 : 10 ^ n ≤ 10 ^ r.length := Nat.pow_le_pow_right (by decide) hl
 have h3 : 1 * 10 ^ r.length ≤ (10 * 0 + (b.toNat - 48)) * 10 ^ r.length := Nat.mul_le_mul_right _ (by omega)
 omega
theorem decDigits_val : ∀ (n : Nat) (l : Bs), l.length = n → l ≠ [] → l.all digB = true → (l.length = 1 ∨ ∀ b, l.head? = some b → 49 ≤ b.toNat) → Lib.decDigits (decVal l) = l := by
 intro n
 induction n with
 | zero => intro l hl hne; exact absurd (List.length_eq_zero_iff.1 hl) hne
 | succ n ih =>
  intro l hl hne hd hh
  obtain ⟨q, b, rfl⟩ : ∃ q b, l = q ++ [b] := ⟨l.dropLast, l.getLast hne, (List.dropLast_concat_getLast hne).symm⟩
  rw [List.all_append, Bool.and_eq_true] at hd
  have hb := (digB_iff b).1 (by simpa using hd.2)
  rw [decVal_snoc, Lib.decDigits]
  have hof : UInt8.ofNat (48 + (b.toNat - 48)) = b := by rw [show 48 + (b.toNat - 48) = b.toNat by omega]; simp
  cases q with
  | nil =>
   rw [dif_pos (by simp [decVal]; omega)]
   simp only [decVal, List.foldl_nil, Nat.mul_zero, Nat.zero_add, List.nil_append, hof]
  | cons c q =>
   have hc : 49 ≤ c.toNat := by
    rcases hh with h1 | h1
    ·simp at h1
    ·exact h1 c (by simp)
   have hv := decVal_big (l := c :: q) rfl hc 0 (Nat.zero_le _)
   rw [Nat.pow_zero] at hv
   rw [dif_neg (by omega), show (10 * decVal (c :: q) + (b.toNat - 48)) / 10 = decVal (c :: q) by omega, show (10 * decVal (c :: q) + (b.toNat - 48)) % 10 = b.toNat - 48 by omega, hof]
   rw [ih (c :: q) (by simp at hl ⊢; omega) (by simp) hd.1 (.inr (fun x hx => by simp at hx; subst hx; exact hc))]
theorem dd_props (u : Nat) : decVal (Lib.decDigits u) = u ∧ Lib.decDigits u ≠ [] ∧ (Lib.decDigits u).all digB = true ∧ (u = 0 → Lib.decDigits u = [48]) ∧ (1 ≤ u → ∃ b r, Lib.decDigits u = b :: r ∧ 49 ≤ b.toNat) := by
 induction u using Nat.strongRecOn with
 | _ u ih =>
  have hof : ∀ d : Nat, d < 10 → (UInt8.ofNat (48 + d)).toNat = 48 + d := fun d hd => by simp; omega
  by_cases h : u < 10
  ·rw [Lib.decDigits, dif_pos h]
   refine ⟨?_, by simp, ?_, fun h0 => by subst h0; rfl, fun h1 => ⟨_, _, rfl, by rw [hof u h]; omega⟩⟩
   ·unfold decVal; simp only [List.foldl_cons, List.foldl_nil]; rw [hof u h]; omega
   ·simp only [List.all_cons, List.all_nil, Bool.and_true]; rw [digB_iff, hof u h]; omega
  ·obtain ⟨a1, a2, a3, a4, a5⟩ := ih (u / 10) (by omega)
   rw [Lib.decDigits, dif_neg h]
   refine ⟨?_, by simp, ?_, fun h0 => by omega, fun h1 => ?_⟩
   ·rw [decVal_snoc, a1, hof _ (by omega)]; omega
   ·rw [List.all_append, a3]; simp only [List.all_cons, List.all_nil, Bool.and_true, Bool.true_and]; rw [digB_iff, hof _ (by omega)]; omega
   ·obtain ⟨b, r, e, hb⟩ := a5 (by omega)
    exact ⟨b, r ++ [UInt8.ofNat (48 + u % 10)], by rw [e]; rfl, hb⟩
theorem hp45 (s : Bs) : (minusOf s = true → s = 45 :: digsOf s) ∧ (minusOf s = false → digsOf s = s) := by
 unfold minusOf digsOf Lib.trimPrefix Lib.hasPrefix
 cases s with
 | nil => simp
 | cons b r =>
  by_cases h : b = 45
  ·subst h; simp
  ·have : ([45] : Bs).isPrefixOf (b :: r) = false := by simp [List.isPrefixOf]; exact fun e => h e.symm
   rw [this]; simp
theorem minus_cons (b : UInt8) (r : Bs) : minusOf (b :: r) = (b == 45) := by
 show (((45 : UInt8) == b) && true) = (b == 45)
 rw [Bool.and_true, BEq.comm]
theorem numOK_iff (s : Bs) : numOK s = true ↔ digsOf s ≠ [] ∧ ((digsOf s).head? = some 48 → (digsOf s).length ≤ 1 ∧ minusOf s = false) ∧ (digsOf s).all digB = true := by
 unfold numOK
 rw [Bool.and_eq_true, Bool.and_eq_true]
 constructor
 ·rintro ⟨⟨h1, h2⟩, h3⟩
  refine ⟨(by intro e; rw [e] at h1; cases h1), fun e => ?_, h3⟩
  rw [e] at h2
  simp at h2
  exact ⟨h2.1, h2.2⟩
 ·rintro ⟨h1, h2, h3⟩
  have he : (!(digsOf s).isEmpty) = true := by
   cases hd : digsOf s with
   | nil => exact absurd hd h1
   | cons _ _ => rfl
  refine ⟨⟨he, ?_⟩, h3⟩
  by_cases e : (digsOf s).head? = some 48
  ·obtain ⟨h4, h5⟩ := h2 e
   rw [e, h5]
   simp; exact h4
  ·simp [e]
theorem head_big {l : Bs} (hd : l.all digB = true) {b : UInt8} {r : Bs} (h : l = b :: r) (h48 : l.head? ≠ some 48) : 49 ≤ b.toNat := by
 subst h
 rw [List.all_cons, Bool.and_eq_true] at hd
 have h1 := (digB_iff b).1 hd.1
 have h2 : b.toNat ≠ 48 := by
  intro e
  apply h48
  have : b = 48 := UInt8.toNat_inj.1 e
  rw [this]; rfl
 omega
theorem itoa_sval (s : Bs) (h : numOK s = true) : Lib.itoa (sval s) = s := by
 obtain ⟨h1, h2, h3⟩ := (numOK_iff s).1 h
 have hdd : Lib.decDigits (decVal (digsOf s)) = digsOf s := by
  apply decDigits_val _ _ rfl h1 h3
  by_cases e : (digsOf s).head? = some 48
  ·left
   have := (h2 e).1
   have : (digsOf s).length ≠ 0 := fun e => h1 (List.length_eq_zero_iff.1 e)
   omega
  ·right
   intro b hb
   cases hd : digsOf s with
   | nil => exact absurd hd h1
   | cons c r =>
    rw [hd] at hb; simp at hb; subst hb
    exact head_big h3 hd e
 unfold sval
 cases hm : minusOf s with
 | true =>
  have hs := (hp45 s).1 hm
  have h48 : (digsOf s).head? ≠ some 48 := fun e => by rw [(h2 e).2] at hm; cases hm
  have hv : 1 ≤ decVal (digsOf s) := by
   cases hd : digsOf s with
   | nil => exact absurd hd h1
   | cons c r =>
    have := decVal_big hd (head_big h3 hd h48) 0 (Nat.zero_le _)
    rw [hd] at this
    simpa using this
  rw [if_pos rfl, Lib.itoa_neg _ hv, hdd]
  exact hs.symm
 | false =>
  rw [if_neg (by simp), Lib.itoa_nonneg, hdd]
  exact (hp45 s).2 hm
theorem itoa_num (n : Int) : numOK (Lib.itoa n) = true ∧ sval (Lib.itoa n) = n := by
 by_cases hn : n < 0
 ·obtain ⟨u, rfl⟩ : ∃ u : Nat, n = -(u : Int) := ⟨n.natAbs, by first | omega | (dsimp only; omega)⟩
  obtain ⟨a1, a2, a3, a4, a5⟩ := dd_props u
  obtain ⟨b, r, e, hb⟩ := a5 (by omega)
  rw [Lib.itoa_neg u (by omega)]
  have hm : minusOf (45 :: Lib.decDigits u) = true := by rw [minus_cons]; rfl
  have hd : digsOf (45 :: Lib.decDigits u) = Lib.decDigits u := by
   have := (hp45 _).1 hm
   exact (List.cons.inj this).2.symm
  refine ⟨(numOK_iff _).2 ?_, ?_⟩
  ·rw [hd, e]
   refine ⟨by simp, fun h => ?_, by rw [← e]; exact a3⟩
   simp at h; subst h; simp at hb
  ·unfold sval; rw [hm, hd, a1]; rfl
 ·obtain ⟨u, rfl⟩ : ∃ u : Nat, n = (u : Int) := ⟨n.toNat, by first | omega | (dsimp only; omega)⟩
  obtain ⟨a1, a2, a3, a4, a5⟩ := dd_props u
  rw [Lib.itoa_nonneg]
  obtain ⟨b, r, e⟩ : ∃ b r, Lib.decDigits u = b :: r := by
   cases hd : Lib.decDigits u with
   | nil => exact absurd hd a2
   | cons b r => exact ⟨b, r, rfl⟩
  have hb := a3
  rw [e, List.all_cons, Bool.and_eq_true] at hb
  have hb := (digB_iff b).1 hb.1
  have hm : minusOf (Lib.decDigits u) = false := by
   rw [e, minus_cons]
   have : b ≠ 45 := by rintro rfl; simp at hb
   simpa using this
  have hd := (hp45 _).2 hm
  refine ⟨(numOK_iff _).2 ?_, ?_⟩
  ·rw [hd]
   refine ⟨a2, fun h => ?_, a3⟩
   rw [hm]
   by_cases hu : 1 ≤ u
   ·obtain ⟨b', r', e', hb'⟩ := a5 hu
    rw [e'] at h; simp at h; subst h; simp at hb'
   ·rw [a4 (by omega)]; simp
  ·unfold sval; rw [hm, hd, a1]; rfl
theorem val_big {s : Bs} (h : numOK s = true) (hl : 19 < (digsOf s).length) : 10000000000000000000 ≤ decVal (digsOf s) := by
 obtain ⟨h1, h2, h3⟩ := (numOK_iff s).1 h
 cases hd : digsOf s with
 | nil => exact absurd hd h1
 | cons c r =>
  have h48 : (digsOf s).head? ≠ some 48 := fun e => by have := (h2 e).1; omega
  have := decVal_big hd (head_big h3 hd h48) 19 (by rw [hd] at hl; simp at hl; omega)
  rw [hd] at this
  simpa using this
theorem numOf_out {s : Bs} {lo hi : Int} (h : numOK s = true) (hlo : inR .i64 lo) (hhi : inR .i64 hi) (hb : 9223372036854775808 < decVal (digsOf s) ∨ (minusOf s = false ∧ 9223372036854775808 ≤ decVal (digsOf s))) : (0, 7) = numOf s lo hi := by
 have a1 : -9223372036854775808 ≤ lo := hlo.1
 have a2 : hi ≤ 9223372036854775807 := hhi.2
 unfold numOf
 rw [if_pos h, if_neg]
 rintro ⟨b1, b2⟩
 unfold sval at b1 b2
 cases hm : minusOf s with
 | true =>
  rw [hm] at b1 b2 hb
  simp at b1 b2 hb
  omega
 | false =>
  rw [hm] at b1 b2 hb
  simp at b1 b2 hb
  omega
theorem v100 (s : Bs) (hl : len1 s) : VC100 s (fun r => r = token_numeral s) := by
 unfold len1 at hl
 have hc : strings_CutPrefix s [45] = (digsOf s, minusOf s) := by
  unfold strings_CutPrefix internal_stringslite_CutPrefix digsOf minusOf Lib.trimPrefix
  cases h : Lib.hasPrefix s [45] <;> simp
 have hdl : (digsOf s).length ≤ s.length := by
  unfold digsOf Lib.trimPrefix
  split
  ·simp
  ·exact Nat.le_refl _
 refine ⟨⟨by decide, hl⟩, ?_⟩
 simp only [forall_eq', hc]
 unfold VC100_J1 VC100_J2 VC100_J3
 dsimp only
 have no : numOK s = false → (([] : Bs), false, false) = token_numeral s := fun h => by simp [token_numeral, h]
 have hhead : ∀ (h : 0 < (digsOf s).length), (digsOf s).head? = some (gi (digsOf s) 0) := fun h => by
  cases hd : digsOf s with
  | nil => rw [hd] at h; cases h
  | cons c r => rfl
 refine ⟨fun h => ⟨fun _ => no ?_, fun h => absurd h (by simp)⟩, fun h => ?_⟩
 ·have : digsOf s = [] := by simpa using h
  unfold numOK; rw [this]; rfl
 ·have hne : digsOf s ≠ [] := by simpa using h
  have hpos : 0 < (digsOf s).length := by
   cases hd : digsOf s with
   | nil => exact absurd hd hne
   | cons c r => simp
  refine ⟨by omega, ?_⟩
  have h48 : (((gi (digsOf s) 0).toNat : Int) == 48) = ((digsOf s).head? == some 48) := by
   rw [hhead hpos]
   have := u8eq (gi (digsOf s) 0) 48 (by decide)
   rw [show (((gi (digsOf s) 0).toNat : Int) == 48) = (((gi (digsOf s) 0).toNat : Int) == ((48 : Nat) : Int)) from rfl, ← this]
   rfl
  rw [h48]
  have hx : decide (((digsOf s).length : Int) > 1) = decide (1 < (digsOf s).length) := by
   rw [Bool.eq_iff_iff, decide_eq_true_eq, decide_eq_true_eq]; omega
  rw [hx]
  refine ⟨fun hb => no ?_, fun hb => ?_⟩
  ·unfold numOK; rw [hb]; simp
  ·refine ⟨fun i => 0 ≤ i ∧ i ≤ (digsOf s).length ∧ ((digsOf s).take i.toNat).all digB = true, fun i => ((digsOf s).length - i).toNat, ⟨by omega, by omega, by simp⟩, ?_⟩
   rintro i ⟨h0, h1, h2⟩
   refine ⟨fun hi => ?_, fun hi => ?_⟩
   ·have hi := of_decide_eq_true hi
    have bad : digB (gi (digsOf s) i) = false → (([] : Bs), false, false) = token_numeral s := fun hbad => no (by
     have : (digsOf s).all digB = false := by rw [List.all_eq_false]; exact ⟨_, mem_gi h0 hi, by simp [hbad]⟩
     unfold numOK; rw [this, Bool.and_false])
    refine ⟨⟨h0, hi⟩, fun hlt => ⟨fun _ => bad ?_, fun h => absurd h (by simp)⟩, fun hge => ⟨⟨h0, hi⟩, fun hgt => bad ?_, fun hle => ?_⟩⟩
    ·have hlt := of_decide_eq_true hlt
     unfold digB
     have : ¬ 48 ≤ (gi (digsOf s) i).toNat := by omega
     simp [this]
    ·have hgt := of_decide_eq_true hgt
     unfold digB
     have : ¬ (gi (digsOf s) i).toNat ≤ 57 := by omega
     simp [this]
    ·have hge := of_decide_eq_false hge
     have hle := of_decide_eq_false hle
     rw [wrp (n := i + 1) (by omega) (by omega)]
     refine ⟨⟨by omega, by omega, ?_⟩, by first | omega | (dsimp only; omega)⟩
     rw [take_gi h0 hi, List.all_append, h2]
     simp only [List.all_cons, List.all_nil, Bool.and_true, Bool.true_and]
     rw [digB_iff]; omega
   ·have hi := of_decide_eq_false hi
    rw [show i.toNat = (digsOf s).length by omega, List.take_length] at h2
    have he : (digsOf s).isEmpty = false := by
     cases hd : digsOf s with
     | nil => exact absurd hd hne
     | cons _ _ => rfl
    have hok : numOK s = true := by unfold numOK; rw [hb, h2, he]; rfl
    unfold token_numeral
    rw [if_pos hok]
theorem wu64 {n : Int} (h0 : 0 ≤ n) (h1 : n ≤ 18446744073709551615) : IntKind.u64.wrap n = n := by
 simp [IntKind.wrap, IntKind.signed, IntKind.bits]; omega
theorem wu8 {n : Int} (h0 : 0 ≤ n) (h1 : n ≤ 255) : IntKind.u8.wrap n = n := by
 simp [IntKind.wrap, IntKind.signed, IntKind.bits]; omega
theorem v87 (s : Bs) (lo hi : Int) (hp : preNum s lo hi) : VC87 s lo hi (fun r => r = token_Number s lo hi) := by
 obtain ⟨hl, hlo, hhi⟩ := hp
 refine ⟨hl, ?_⟩
 unfold token_Number
 simp only [forall_eq']
 unfold token_numeral
 cases hok : numOK s with
 | false =>
  rw [if_neg (by simp)]
  refine ⟨fun _ => by simp [numOf, hok], fun h => absurd h (by simp)⟩
 | true =>
  rw [if_pos rfl]
  obtain ⟨d1, d2, d3⟩ := (numOK_iff s).1 hok
  have hdl : (digsOf s).length ≤ s.length := by
   unfold digsOf Lib.trimPrefix
   split
   ·simp
   ·exact Nat.le_refl _
  have hl : s.length ≤ 1000000 := hl
  refine ⟨fun h => absurd h (by simp), fun _ => ?_⟩
  refine ⟨fun n i => 0 ≤ i ∧ i ≤ (digsOf s).length ∧ n = decVal ((digsOf s).take i.toNat) ∧ n ≤ 18446744073709551615, fun _ i => ((digsOf s).length - i).toNat, ⟨by omega, by omega, by simp [decVal], by omega⟩, ?_⟩
  rintro n i ⟨h0, h1, h2, h3⟩
  refine ⟨fun hi' => ?_, fun hi' => ?_⟩
  ·have hi' : i < (digsOf s).length := of_decide_eq_true hi'
   have hpart := decVal_part h0 hi'
   refine ⟨fun hbig => ?_, fun hsm => ?_⟩
   ·have hbig := of_decide_eq_true hbig
    exact numOf_out hok hlo hhi (.inl (by omega))
   ·have hsm := of_decide_eq_false hsm
    have hdg := (digB_iff _).1 (List.all_eq_true.1 d3 _ (mem_gi h0 hi'))
    show ((0 : Int) ≤ i ∧ i < (digsOf s).length) ∧ (_ ∧ _)
    rw [wu8 (n := ((gi (digsOf s) i).toNat : Int) - 48) (by omega) (by omega), wu64 (n := ((gi (digsOf s) i).toNat : Int) - 48) (by omega) (by omega), wu64 (n := 10 * n) (by omega) (by omega), wu64 (by omega) (by omega), wrp (n := i + 1) (by omega) (by omega)]
    refine ⟨⟨h0, hi'⟩, ⟨by omega, by omega, ?_, by omega⟩, by first | omega | (dsimp only; omega)⟩
    rw [take_gi h0 hi', decVal_snoc]
    omega
  ·have hi' : ¬ i < (digsOf s).length := of_decide_eq_false hi'
   rw [show i.toNat = (digsOf s).length by omega, List.take_length] at h2
   unfold VC87_J1 VC87_J2
   have hsv : sval s = if minusOf s then -n else n := by unfold sval; rw [h2]
   have hno : numOf s lo hi = if lo ≤ sval s ∧ sval s ≤ hi then (sval s, 0) else (0, 7) := by unfold numOf; rw [if_pos hok]
   have last : ∀ x : Int, x = sval s → ((decide (x < lo) || decide (x > hi)) = true → ((0 : Int), (7 : Int)) = numOf s lo hi) ∧ ((decide (x < lo) || decide (x > hi)) = false → (x, (0 : Int)) = numOf s lo hi) := by
    rintro x rfl
    rw [hno]
    refine ⟨fun h => ?_, fun h => ?_⟩
    ·rw [if_neg]
     simp at h; omega
    ·rw [if_pos]
     simp at h; omega
   refine ⟨fun h => ?_, fun h => ?_⟩
   ·rw [Bool.and_eq_true, decide_eq_true_eq] at h
    obtain ⟨g1, g2⟩ := h
    refine numOf_out hok hlo hhi ?_
    cases hm : minusOf s with
    | true =>
     left
     rw [hm] at g2
     have : ¬ n = 9223372036854775808 := by simpa using g2
     omega
    | false => right; exact ⟨rfl, by first | omega | (dsimp only; omega)⟩
   ·refine ⟨fun hm => last _ ?_, fun hm => last _ ?_⟩
    ·have hm : minusOf s = true := hm
     rw [hsv, hm]
     have hn2 : n ≤ 9223372036854775808 := by
      rw [hm] at h
      simp at h
      omega
     rw [if_pos rfl]
     rw [wdef, wdef]; omega
    ·have hm : minusOf s = false := hm
     rw [hsv, hm]
     have hn2 : n ≤ 9223372036854775807 := by
      rw [hm] at h
      simp at h
      omega
     rw [if_neg (by simp)]
     exact wrp (by omega) (by omega)
end Go.Proofs.YtkgcdoeldilhaaaGreatDoor
