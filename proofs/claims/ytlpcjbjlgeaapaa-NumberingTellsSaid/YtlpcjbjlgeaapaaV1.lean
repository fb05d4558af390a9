/- Plain lemmas about the specification functions. Conditions: in each lemma. -/
import Derived.Test.YtlpcjbjlgeaapaaVC
set_option linter.all false
namespace Go.Proofs.Ytlpcjbjlgeaapaa
open Go Go.Sv Go.Pu

theorem v21 (s : Numbering_Size) : VC21 s (fun r => r = numbering_Check s) := by
  simp only [VC21, numbering_Check, ref31_Check, Bool.or_eq_true, decide_eq_true_eq, Bool.or_eq_false_iff, decide_eq_false_iff_not]
  constructor <;> intro h
  · rw [if_pos (by omega)]
  · rw [if_neg (by omega)]
theorem v22 (ops states : Int) : VC22 ops states (fun r => r = ref31_Check ops states) := by
  simp only [VC22, ref31_Check, Bool.or_eq_true, decide_eq_true_eq, Bool.or_eq_false_iff, decide_eq_false_iff_not]
  constructor <;> intro h
  · rw [if_pos (by omega)]
  · rw [if_neg (by omega)]
theorem v56 (s : Numbering_Size) (k : Int) : VC56 s k (fun r => r = numbering_Size_block s k) := by
  simp only [VC56, numbering_Size_block, beq_iff_eq, beq_eq_false_iff_ne]
  refine ⟨fun h => by rw [if_pos h], fun h => ⟨fun h2 => by rw [if_neg h, if_pos h2], fun h2 => by rw [if_neg h, if_neg h2]⟩⟩

theorem check0 {o s : Int} (h : ref31_Check o s = 0) : 0 ≤ o ∧ o ≤ 64 ∧ 1 ≤ s ∧ s ≤ 32 := by
  unfold ref31_Check at h; split at h <;> omega
theorem check2 (o s : Int) : ref31_Check o s = 0 ∨ ref31_Check o s = 2 := by
  unfold ref31_Check; split <;> simp

theorem block_eq {s : Numbering_Size} (h : numbering_Check s = 0) (k : Int) : numbering_Size_block s k = (base s k, wide s k, tall s k) := by
  obtain ⟨h0, h1, h2, h3⟩ := check0 h
  have hm := mulb h0 h1 h0 h1
  unfold numbering_Size_block base wide tall
  split
  · rfl
  · split
    · rw [wrp (by omega) (by omega)]
    · rw [wrp (n := s.Ops * s.Ops) (by omega) (by omega), wrp (by omega) (by omega), wrp (by omega) (by omega)]

theorem v23 (s : Numbering_Size) : VC23 s (fun r => r = numbering_Vars s) := by
  unfold VC23
  intro r hr
  subst hr
  refine ⟨fun h => ?_, fun h => ?_⟩
  · have h : numbering_Check s ≠ 0 := by simpa using h
    simp [numbering_Vars, h]
  · have h : numbering_Check s = 0 := by simpa using h
    intro r hr
    subst hr
    obtain ⟨h0, h1, h2, h3⟩ := check0 h
    have hm := mulb h0 h1 h0 h1
    have hn := mulb (a := s.States) (b := s.Ops + 1) (by omega) h3 (by omega) (by omega : s.Ops + 1 ≤ 65)
    rw [block_eq h]
    simp only [base, wide, tall, numbering_Vars, h, if_true]
    simp only [show (3 : Int) ≠ 1 by decide, show (3 : Int) ≠ 2 by decide, if_false]
    rw [wrp (n := s.States * (s.Ops + 1)) (by omega) (by omega), wrp (by omega) (by omega)]

theorem wide_b {s : Numbering_Size} (h : numbering_Check s = 0) (k : Int) : 0 ≤ wide s k ∧ wide s k ≤ 64 ∧ 0 ≤ tall s k ∧ tall s k ≤ 65 ∧ 0 ≤ base s k ∧ base s k ≤ 4160 := by
  obtain ⟨h0, h1, h2, h3⟩ := check0 h
  have hm := mulb h0 h1 h0 h1
  unfold wide tall base
  split
  · omega
  · split <;> omega

theorem v24 (s : Numbering_Size) (n : Numbering_Name) : VC24 s n (fun r => r = numbering_Var s n) := by
  unfold VC24
  intro r hr
  subst hr
  simp only [Bool.or_eq_true, decide_eq_true_eq, Bool.or_eq_false_iff, decide_eq_false_iff_not, bne_iff_ne, bne_eq_false_iff_eq]
  refine ⟨fun h => ?_, fun h => ?_⟩
  · unfold numbering_Var; rw [if_neg]; intro hh; rcases h with (h | h) | h
    · exact h hh.1
    · omega
    · omega
  · intro r hr
    subst hr
    obtain ⟨⟨hc, hk0⟩, hk1⟩ := h
    rw [block_eq hc]
    have hb := wide_b hc n.Kind
    refine ⟨fun h => ?_, fun h => ?_⟩
    · unfold numbering_Var; rw [if_neg]; intro hh; simp only at h; omega
    · simp only at h ⊢
      have hm := mulb (a := n.A) (b := wide s n.Kind) (A := 65) (B := 64) (by omega) (by omega) (by omega) (by omega)
      unfold numbering_Var
      rw [if_pos ⟨hc, by omega, by omega, by omega, by omega, by omega, by omega⟩]
      rw [wrp (n := n.A * _) (by omega) (by omega), wrp (n := _ + n.A * _) (by omega) (by omega), wrp (n := _ + n.B) (by omega) (by omega), wrp (by omega) (by omega)]

theorem part_len (k : Int) (m t : Nat) : (part k m t).length = t := by simp [part]
theorem part_succ (k : Int) (m t : Nat) : part k m (t + 1) = part k m t ++ [⟨k, ((t / m : Nat) : Int), ((t % m : Nat) : Int)⟩] := by
  simp [part, List.range_succ]
theorem part_at {k : Int} {m a b : Nat} (h : b < m) : part k m (a * m + b + 1) = part k m (a * m + b) ++ [⟨k, (a : Int), (b : Int)⟩] := by
  rw [part_succ]
  have h1 : (a * m + b) / m = a := by rw [Nat.mul_comm, Nat.mul_add_div (by omega), Nat.div_eq_of_lt h, Nat.add_zero]
  have h2 : (a * m + b) % m = b := by rw [Nat.mul_comm, Nat.mul_add_mod, Nat.mod_eq_of_lt h]
  rw [h1, h2]

theorem v19 (ops states : Int) : VC19 ops states (fun r => r = ref31_Names ops states) := by
  unfold VC19
  intro r hr
  subst hr
  refine ⟨fun h => ?_, fun h => ?_⟩
  · have h : ref31_Check ops states ≠ 0 := by simpa using h
    simp [ref31_Names, h]
  have h : ref31_Check ops states = 0 := by simpa using h
  obtain ⟨h0, h1, h2, h3⟩ := check0 h
  obtain ⟨o, rfl⟩ := Int.eq_ofNat_of_zero_le h0
  obtain ⟨s, rfl⟩ := Int.eq_ofNat_of_zero_le (by omega : 0 ≤ states)
  have hN : ref31_Names (o : Int) (s : Int) = part 1 o (o * o) ++ part 2 1 o ++ part 3 s ((o + 1) * s) := by
    simp [ref31_Names, h]
  rw [hN]
  have hoo : o * o ≤ 64 * 64 := Nat.mul_le_mul (by omega) (by omega)
  have hos : (o + 1) * s ≤ 65 * 32 := Nat.mul_le_mul (by omega) (by omega)
  refine ⟨fun out a => ∃ x : Nat, a = x ∧ x ≤ o ∧ out = part 1 o (x * o), fun _ a => (o - a).toNat, ⟨0, rfl, by omega, by simp [part]⟩, ?_⟩
  rintro out _ ⟨x, rfl, hx, rfl⟩
  refine ⟨fun hd => ?_, fun hd => ?_⟩
  · have hd : x < o := by simpa using hd
    refine ⟨fun out b => ∃ y : Nat, b = y ∧ y ≤ o ∧ out = part 1 o (x * o + y), fun _ b => (o - b).toNat, ⟨0, rfl, by omega, rfl⟩, ?_⟩
    rintro out _ ⟨y, rfl, hy, rfl⟩
    have hxo : (x + 1) * o ≤ o * o := Nat.mul_le_mul (by omega) (by omega)
    rw [Nat.succ_mul] at hxo
    refine ⟨fun hd => ?_, fun hd => ?_⟩
    · have hd : y < o := by simpa using hd
      rw [part_len, wrp (by omega) (by omega)]
      refine ⟨by simp; omega, ⟨y + 1, by simp, by omega, ?_⟩, by dsimp only; omega⟩
      rw [← part_at hd]; rfl
    · have hd : ¬ y < o := by simpa using hd
      have : y = o := by omega
      subst this
      unfold VC19_J5
      rw [wrp (by omega) (by omega)]
      exact ⟨⟨x + 1, by simp, by omega, by rw [Nat.succ_mul]⟩, by dsimp only; omega⟩
  have hd : ¬ x < o := by simpa using hd
  have : x = o := by omega
  subst this
  unfold VC19_J1
  refine ⟨fun out a => ∃ y : Nat, a = y ∧ y ≤ x ∧ out = part 1 x (x * x) ++ part 2 1 y, fun _ a => (x - a).toNat, ⟨0, rfl, by omega, by simp [part]⟩, ?_⟩
  rintro out _ ⟨y, rfl, hy, rfl⟩
  refine ⟨fun hd => ?_, fun hd => ?_⟩
  · have hd : y < x := by simpa using hd
    rw [wrp (by omega) (by omega)]
    refine ⟨by simp [part_len]; omega, ⟨y + 1, by simp, by omega, ?_⟩, by dsimp only; omega⟩
    rw [part_succ]; simp [Nat.mod_one]
  have hd : ¬ y < x := by simpa using hd
  have : y = x := by omega
  subst this
  unfold VC19_J2
  refine ⟨fun out a => ∃ z : Nat, a = z ∧ z ≤ y + 1 ∧ out = part 1 y (y * y) ++ part 2 1 y ++ part 3 s (z * s), fun _ a => (y + 1 - a).toNat, ⟨0, rfl, by omega, by simp [part]⟩, ?_⟩
  rintro out _ ⟨z, rfl, hz, rfl⟩
  refine ⟨fun hd => ?_, fun hd => ?_⟩
  · have hd : z ≤ y := by simpa using hd
    refine ⟨fun out b => ∃ u : Nat, b = u ∧ u ≤ s ∧ out = part 1 y (y * y) ++ part 2 1 y ++ part 3 s (z * s + u), fun _ b => (s - b).toNat, ⟨0, rfl, by omega, rfl⟩, ?_⟩
    rintro out _ ⟨u, rfl, hu, rfl⟩
    have hxo : (z + 1) * s ≤ (y + 1) * s := Nat.mul_le_mul (by omega) (by omega)
    rw [Nat.succ_mul] at hxo
    refine ⟨fun hd => ?_, fun hd => ?_⟩
    · have hd : u < s := by simpa using hd
      rw [wrp (by omega) (by omega)]
      refine ⟨by simp [part_len]; omega, ⟨u + 1, by simp, by omega, ?_⟩, by dsimp only; omega⟩
      rw [List.append_assoc, ← part_at hd]; rfl
    · have hd : ¬ u < s := by simpa using hd
      have : u = s := by omega
      subst this
      unfold VC19_J4
      rw [wrp (by omega) (by omega)]
      exact ⟨⟨z + 1, by simp, by omega, by rw [Nat.succ_mul]⟩, by dsimp only; omega⟩
  · have hd : ¬ z ≤ y := by simpa using hd
    have : z = y + 1 := by omega
    subst this
    unfold VC19_J3
    rfl
end Go.Proofs.Ytlpcjbjlgeaapaa
