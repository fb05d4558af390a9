/- Plain lemmas about the specification functions. Conditions: in each lemma. -/
import Derived.Test.YtlpcjbjlgeaapaaV1
set_option linter.all false
namespace Go.Proofs.Ytlpcjbjlgeaapaa
open Go Go.Sv Go.Pu

def valid (s : Numbering_Size) (k a b : Int) : Prop := 1 ≤ k ∧ k ≤ 3 ∧ 0 ≤ a ∧ a < tall s k ∧ 0 ≤ b ∧ b < wide s k

theorem gi_l {α : Type} [Inhabited α] {xs ys : List α} {i : Int} (h0 : 0 ≤ i) (h : i < xs.length) : gi (xs ++ ys) i = gi xs i := by
  have : i.toNat < xs.length := by omega
  simp [gi, List.getElem?_append, this]
theorem gi_r {α : Type} [Inhabited α] {xs ys : List α} {i : Int} (h : (xs.length : Int) ≤ i) : gi (xs ++ ys) i = gi ys (i - xs.length) := by
  have h1 : ¬ i.toNat < xs.length := by omega
  have h2 : (i - xs.length).toNat = i.toNat - xs.length := by omega
  simp [gi, List.getElem?_append, h1, h2]
theorem gi_part {k : Int} {m t : Nat} {i : Nat} (h : i < t) : gi (part k m t) (i : Int) = ⟨k, ((i / m : Nat) : Int), ((i % m : Nat) : Int)⟩ := by
  simp [gi, part, h]
theorem gi_part2 {k : Int} {m t a b : Nat} (h : b < m) (ht : a * m + b < t) : gi (part k m t) ((a * m + b : Nat) : Int) = ⟨k, (a : Int), (b : Int)⟩ := by
  rw [gi_part ht]
  have h1 : (a * m + b) / m = a := by rw [Nat.mul_comm, Nat.mul_add_div (by omega), Nat.div_eq_of_lt h, Nat.add_zero]
  have h2 : (a * m + b) % m = b := by rw [Nat.mul_comm, Nat.mul_add_mod, Nat.mod_eq_of_lt h]
  rw [h1, h2]

theorem names_eq {o s : Nat} (h : ref31_Check o s = 0) : ref31_Names (o : Int) (s : Int) = part 1 o (o * o) ++ part 2 1 o ++ part 3 s ((o + 1) * s) := by
  simp [ref31_Names, h]
theorem names_len {z : Numbering_Size} : ((ref31_Names z.Ops z.States).length : Int) = numbering_Vars z := by
  unfold numbering_Vars
  split
  · rename_i h
    obtain ⟨h0, h1, h2, h3⟩ := check0 h
    obtain ⟨z1, z2⟩ := z
    simp only at *
    obtain ⟨o, rfl⟩ := Int.eq_ofNat_of_zero_le h0
    obtain ⟨s, rfl⟩ := Int.eq_ofNat_of_zero_le (by omega : 0 ≤ z2)
    rw [names_eq h]
    simp [part_len, Int.mul_comm, Int.mul_add, Int.add_mul]; omega
  · rename_i h
    have h : ¬ ref31_Check z.Ops z.States = 0 := h
    simp [ref31_Names, h]

theorem mul_lt {a b m n : Nat} (ha : a < n) (hb : b < m) : a * m + b < n * m := by
  have : (a + 1) * m ≤ n * m := Nat.mul_le_mul (by omega) (by omega)
  rw [Nat.succ_mul] at this
  omega

/-- The name at its number. -/
theorem names_at {z : Numbering_Size} (hc : numbering_Check z = 0) {k a b : Int} (hv : valid z k a b) :
    0 ≤ base z k + a * wide z k + b ∧ base z k + a * wide z k + b < numbering_Vars z ∧ gi (ref31_Names z.Ops z.States) (base z k + a * wide z k + b) = ⟨k, a, b⟩ := by
  rw [← names_len]
  obtain ⟨h0, h1, h2, h3⟩ := check0 hc
  obtain ⟨z1, z2⟩ := z
  simp only at *
  obtain ⟨o, rfl⟩ := Int.eq_ofNat_of_zero_le h0
  obtain ⟨s, rfl⟩ := Int.eq_ofNat_of_zero_le (by omega : 0 ≤ z2)
  rw [names_eq hc]
  obtain ⟨v1, v2, v3, v4, v5, v6⟩ := hv
  obtain ⟨a, rfl⟩ := Int.eq_ofNat_of_zero_le v3
  obtain ⟨b, rfl⟩ := Int.eq_ofNat_of_zero_le v5
  have hk : k = 1 ∨ k = 2 ∨ k = 3 := by omega
  have hoo : ((o * o : Nat) : Int) = (o : Int) * o := by simp
  rcases hk with rfl | rfl | rfl
  · simp only [tall, wide, base, if_true] at *
    have hlt := mul_lt (a := a) (b := b) (m := o) (n := o) (by omega) (by omega)
    have e : (0 : Int) + a * o + b = ((a * o + b : Nat) : Int) := by simp
    rw [e]
    refine ⟨by omega, by simp only [List.length_append, part_len]; omega, ?_⟩
    rw [List.append_assoc, gi_l (by omega) (by simp [part_len]; omega), gi_part2 (by omega) hlt]
  · simp only [tall, wide, base, show ¬ (2 : Int) = 1 by decide, if_true, if_false] at *
    have hb : b = 0 := by omega
    subst hb
    have e : (o : Int) * o + a * 1 + ((0 : Nat) : Int) = ((o * o + a : Nat) : Int) := by simp
    rw [e]
    refine ⟨by omega, by simp only [List.length_append, part_len]; omega, ?_⟩
    rw [List.append_assoc, gi_r (by simp [part_len]; omega), gi_l (by simp [part_len]; omega) (by simp [part_len]; omega)]
    have e2 : ((o * o + a : Nat) : Int) - ((part 1 o (o * o)).length : Int) = ((a * 1 + 0 : Nat) : Int) := by simp [part_len]; omega
    rw [e2, gi_part2 (by omega) (by omega)]
  · simp only [tall, wide, base, show ¬ (3 : Int) = 1 by decide, show ¬ (3 : Int) = 2 by decide, if_false] at *
    have hlt := mul_lt (a := a) (b := b) (m := s) (n := o + 1) (by omega) (by omega)
    have e : (o : Int) * o + o + a * s + b = ((o * o + o + (a * s + b) : Nat) : Int) := by simp; omega
    rw [e]
    refine ⟨by omega, by simp only [List.length_append, part_len]; omega, ?_⟩
    rw [gi_r (by simp [part_len]; omega)]
    have e2 : ((o * o + o + (a * s + b) : Nat) : Int) - ((part 1 o (o * o) ++ part 2 1 o).length : Int) = ((a * s + b : Nat) : Int) := by simp only [List.length_append, part_len]; omega
    rw [e2, gi_part2 (by omega) hlt]

/-- Every number is that of a name. -/
theorem names_all {z : Numbering_Size} {j : Int} (h0 : 0 ≤ j) (h1 : j < numbering_Vars z) :
    numbering_Check z = 0 ∧ ∃ k a b, valid z k a b ∧ j = base z k + a * wide z k + b := by
  unfold numbering_Vars at h1
  by_cases hc : numbering_Check z = 0
  case neg => rw [if_neg hc] at h1; omega
  rw [if_pos hc] at h1
  refine ⟨hc, ?_⟩
  obtain ⟨g0, g1, g2, g3⟩ := check0 hc
  have key : ∀ k, 1 ≤ k → k ≤ 3 → base z k ≤ j → 0 < wide z k → j < base z k + tall z k * wide z k → ∃ k a b, valid z k a b ∧ j = base z k + a * wide z k + b := by
    intro k k1 k2 h2 h3 h4
    refine ⟨k, (j - base z k) / wide z k, (j - base z k) % wide z k, ⟨k1, k2, Int.ediv_nonneg (by omega) (by omega), Int.ediv_lt_of_lt_mul h3 (by omega), Int.emod_nonneg _ (by omega), Int.emod_lt_of_pos _ h3⟩, ?_⟩
    have := Int.emod_add_mul_ediv (j - base z k) (wide z k)
    rw [Int.mul_comm] at this
    omega
  by_cases c3 : base z 3 ≤ j
  · refine key 3 (by decide) (by decide) c3 (by simp [wide]; omega) ?_
    simp only [tall, wide, base, show ¬ (3 : Int) = 1 by decide, show ¬ (3 : Int) = 2 by decide, if_false]
    rw [Int.mul_comm (z.Ops + 1)]; omega
  by_cases c2 : base z 2 ≤ j
  · refine key 2 (by decide) (by decide) c2 (by simp [wide]) ?_
    simp [tall, wide, base] at *; omega
  · refine key 1 (by decide) (by decide) (by simpa [base] using h0) ?_ ?_
    · simp [wide, base] at *
      rcases Int.lt_or_eq_of_le g0 with h | h
      · exact h
      · rw [← h] at c2; omega
    · simp [tall, wide, base] at *; omega

theorem Var_valid {z : Numbering_Size} (hc : numbering_Check z = 0) {n : Numbering_Name} (hv : valid z n.Kind n.A n.B) : numbering_Var z n = base z n.Kind + n.A * wide z n.Kind + n.B + 1 := by
  obtain ⟨v1, v2, v3, v4, v5, v6⟩ := hv
  unfold numbering_Var
  rw [if_pos ⟨hc, v1, v2, v3, v4, v5, v6⟩]

/-- A name that has a number stands there. -/
theorem Var_at {z : Numbering_Size} {n : Numbering_Name} (h : numbering_Var z n ≠ 0) :
    1 ≤ numbering_Var z n ∧ numbering_Var z n ≤ numbering_Vars z ∧ gi (ref31_Names z.Ops z.States) (numbering_Var z n - 1) = ⟨n.Kind, n.A, n.B⟩ ∧ numbering_Check z = 0 := by
  by_cases hh : numbering_Check z = 0 ∧ valid z n.Kind n.A n.B
  · obtain ⟨hc, hv⟩ := hh
    rw [Var_valid hc hv]
    obtain ⟨h1, h2, h3⟩ := names_at hc hv
    refine ⟨by omega, by omega, ?_, hc⟩
    rw [show base z n.Kind + n.A * wide z n.Kind + n.B + 1 - 1 = base z n.Kind + n.A * wide z n.Kind + n.B by omega, h3]
  · exfalso; apply h
    unfold numbering_Var
    rw [if_neg]; rintro ⟨hc, v⟩; exact hh ⟨hc, v⟩

/-- The number of the name that stands at a number. -/
theorem at_Var {z : Numbering_Size} {j : Int} (h0 : 0 ≤ j) (h1 : j < numbering_Vars z) :
    numbering_Var z ⟨(gi (ref31_Names z.Ops z.States) j).Kind, (gi (ref31_Names z.Ops z.States) j).A, (gi (ref31_Names z.Ops z.States) j).B⟩ = j + 1 := by
  obtain ⟨hc, k, a, b, hv, rfl⟩ := names_all h0 h1
  obtain ⟨-, -, h3⟩ := names_at hc hv
  rw [h3, Var_valid hc hv]

theorem Vars_le (z : Numbering_Size) : 0 ≤ numbering_Vars z ∧ numbering_Vars z ≤ 10000 := by
  unfold numbering_Vars
  split
  · rename_i hc
    obtain ⟨h0, h1, h2, h3⟩ := check0 hc
    have := mulb h0 h1 h0 h1
    have := mulb (a := z.States) (b := z.Ops + 1) (by omega) h3 (by omega) (by omega : z.Ops + 1 ≤ 65)
    omega
  · omega

theorem v25 (ops states : Int) (n : Ref31_Name) : VC25 ops states n (fun r => r = ref31_Var ops states n) := by
  unfold VC25
  intro r hr _
  subst hr
  have hl := names_len (z := ⟨ops, states⟩)
  have hV := Vars_le ⟨ops, states⟩
  simp only at hl
  refine ⟨fun l i => l = ref31_Names ops states ∧ 0 ≤ i ∧ i ≤ l.length ∧ ∀ j : Int, 0 ≤ j → j < i → gi l j ≠ n, fun l i => (l.length - i).toNat, ⟨rfl, by omega, by omega, fun j h0 h1 => by omega⟩, ?_⟩
  rintro _ i ⟨rfl, h0, h1, h2⟩
  simp only [decide_eq_true_eq, decide_eq_false_iff_not, Bool.and_true, Bool.and_eq_true, beq_iff_eq]
  refine ⟨fun h => ⟨by omega, fun he => ?_, fun he => ?_⟩, fun h => ?_⟩
  · rw [wrp (by omega) (by omega)]
    unfold ref31_Var
    have := at_Var (z := ⟨ops, states⟩) h0 (by omega)
    simp only [he.1, he.2.1, he.2.2] at this
    exact this.symm
  · rw [wrp (by omega) (by omega)]
    refine ⟨⟨trivial, by omega, by omega, fun j j0 j1 hj => ?_⟩, by omega⟩
    by_cases hji : j < i
    · exact h2 j j0 hji hj
    · have : j = i := by omega
      subst this
      simp [hj] at he
  · unfold VC25_J1
    unfold ref31_Var
    apply Classical.byContradiction
    intro hne
    obtain ⟨g1, g2, g3, g4⟩ := Var_at (z := ⟨ops, states⟩) (n := ⟨n.Kind, n.A, n.B⟩) (fun e => hne e.symm)
    exact h2 _ (by omega) (by omega) g3

theorem Of_at {z : Numbering_Size} (hc : numbering_Check z = 0) {k a b : Int} (hv : valid z k a b) : numbering_Of z (base z k + a * wide z k + b + 1) = (⟨k, a, b⟩, true) := by
  obtain ⟨h1, h2, h3⟩ := names_at hc hv
  unfold numbering_Of
  rw [if_pos (by omega)]
  rw [show base z k + a * wide z k + b + 1 - 1 = base z k + a * wide z k + b by omega, h3]

theorem v20 (z : Numbering_Size) (v : Int) : VC20 z v (fun r => r = numbering_Of z v) := by
  have out : ¬ (1 ≤ v ∧ v ≤ numbering_Vars z) → VC20_J1 z v (fun r => r = numbering_Of z v) true := by
    intro h
    unfold VC20_J1 numbering_Of
    rw [if_neg h]
    simp
  unfold VC20
  simp only [decide_eq_true_eq, decide_eq_false_iff_not]
  refine ⟨fun h => out (by omega), fun h r hr => ?_⟩
  subst hr
  by_cases hv : v > numbering_Vars z
  · rw [decide_eq_true hv]; exact out (by omega)
  rw [decide_eq_false hv]
  unfold VC20_J1
  refine ⟨by simp, fun _ => ?_⟩
  obtain ⟨hc, -⟩ := names_all (z := z) (j := v - 1) (by omega) (by omega)
  have hV := Vars_le z
  obtain ⟨g0, g1, g2, g3⟩ := check0 hc
  have hoo := mulb g0 g1 g0 g1
  have hvv : numbering_Vars z = z.Ops * z.Ops + z.Ops + (z.Ops + 1) * z.States := by rw [Int.mul_comm (z.Ops + 1)]; simp [numbering_Vars, hc]
  refine ⟨fun x => x = 0 ∨ (x = 1 ∧ v - 1 < base z 3) ∨ (x = 2 ∧ v - 1 < base z 2), fun x => (3 - x).toNat, Or.inl rfl, ?_⟩
  intro x hx
  refine ⟨fun _ => ⟨by omega, ?_⟩, fun h => by simp at h; omega⟩
  have hg : gi ([3, 2, 1] : List Int) x = 3 - x ∧ 1 ≤ 3 - x ∧ 3 - x ≤ 3 := by
    rcases hx with rfl | ⟨rfl, _⟩ | ⟨rfl, _⟩ <;> simp [gi]
  obtain ⟨hg1, hg2, hg3⟩ := hg
  intro r hr
  subst hr
  rw [hg1, block_eq hc]
  have hb := wide_b hc (3 - x)
  simp only
  rw [wrp (n := v - 1) (by omega) (by omega), wrp (n := v - 1 - _) (by omega) (by omega), wrp (n := x + 1) (by omega) (by omega)]
  refine ⟨fun h => ?_, fun h => ?_⟩
  · simp only [Bool.and_eq_true, decide_eq_true_eq] at h
    obtain ⟨q0, q1⟩ := h
    refine ⟨by omega, by omega, ?_⟩
    rw [Int.tdiv_eq_ediv_of_nonneg (by omega), Int.tmod_eq_emod_of_nonneg (by omega)]
    have hle : (v - 1 - base z (3 - x)) / wide z (3 - x) ≤ v - 1 - base z (3 - x) := Int.ediv_le_self _ (by omega)
    have hge : 0 ≤ (v - 1 - base z (3 - x)) / wide z (3 - x) := Int.ediv_nonneg (by omega) (by omega)
    rw [wrp (by omega) (by omega)]
    have hlt : v - 1 - base z (3 - x) < tall z (3 - x) * wide z (3 - x) := by
      rcases hx with rfl | ⟨rfl, hx⟩ | ⟨rfl, hx⟩
      · simp only [tall, wide, base, show ¬ (3 : Int) - 0 = 1 by decide, show ¬ (3 : Int) - 0 = 2 by decide, if_false]
        omega
      · simp only [tall, wide, base, show ¬ (3 : Int) - 1 = 1 by decide, show (3 : Int) - 1 = 2 by decide, show ¬ (2 : Int) = 1 by decide, show ¬ (3 : Int) = 1 by decide, show ¬ (3 : Int) = 2 by decide, if_false, if_true] at *
        omega
      · simp only [tall, wide, base, show (3 : Int) - 2 = 1 by decide, show ¬ (2 : Int) = 1 by decide, if_false, if_true] at *
        omega
    have hval : valid z (3 - x) ((v - 1 - base z (3 - x)) / wide z (3 - x)) ((v - 1 - base z (3 - x)) % wide z (3 - x)) :=
      ⟨by omega, by omega, hge, Int.ediv_lt_of_lt_mul q1 hlt, Int.emod_nonneg _ (by omega), Int.emod_lt_of_pos _ q1⟩
    have := Of_at hc hval
    have e := Int.emod_add_mul_ediv (v - 1 - base z (3 - x)) (wide z (3 - x))
    rw [Int.mul_comm] at e
    rw [show base z (3 - x) + (v - 1 - base z (3 - x)) / wide z (3 - x) * wide z (3 - x) + (v - 1 - base z (3 - x)) % wide z (3 - x) + 1 = v by omega] at this
    rw [this]
    have : (3 - x == 0) = false := by rw [beq_eq_false_iff_ne]; omega
    simp [this]
  · simp only [Bool.and_eq_false_iff, decide_eq_false_iff_not] at h
    refine ⟨?_, by omega⟩
    rcases hx with rfl | ⟨rfl, hx⟩ | ⟨rfl, hx⟩
    · right; left
      refine ⟨by omega, ?_⟩
      simp only [wide, show (3 : Int) - 0 = 3 by decide, show ¬ (3 : Int) = 1 by decide, show ¬ (3 : Int) = 2 by decide, if_false] at h
      omega
    · right; right
      refine ⟨by omega, ?_⟩
      simp only [wide, show (3 : Int) - 1 = 2 by decide, show ¬ (2 : Int) = 1 by decide, if_false, if_true] at h
      omega
    · exfalso
      simp only [wide, base, show (3 : Int) - 2 = 1 by decide, show ¬ (2 : Int) = 1 by decide, if_false, if_true] at h hx
      rcases h with h | h
      · omega
      · have : z.Ops = 0 := by omega
        rw [this] at hx; omega
end Go.Proofs.Ytlpcjbjlgeaapaa
