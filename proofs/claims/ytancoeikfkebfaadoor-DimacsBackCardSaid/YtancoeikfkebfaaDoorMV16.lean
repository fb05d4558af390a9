/- The prints of a formula. -/
import Derived.Test.YtancoeikfkebfaaDoorMV15
set_option linter.all false
namespace Go.Proofs.YtancoeikfkebfaaDoor
open Go Go.Sv Go.Pu
theorem v14 (v n : Int) (hp : preHd v n) : VC14 v n (fun x => x = dimacs_Head v n) := by
  obtain ⟨h0, h1⟩ := hp
  have a := itoa_len h0
  have b := itoa_len h1
  refine ⟨h0, ?_⟩
  rintro _ rfl
  unfold token_Digits
  refine ⟨by simp; omega, by simp; omega, h1, ?_⟩
  rintro _ rfl
  exact ⟨by simp; omega, by simp; omega, rfl⟩
theorem v15 (v n : Int) (hp : preHd v n) : VC15 v n (fun x => x = ref06_Head v n) := by
  obtain ⟨h0, h1⟩ := hp
  have a := itoa_len h0
  have b := itoa_len h1
  refine ⟨h0, ?_⟩
  rintro _ rfl
  unfold ref05_Digits
  refine ⟨by simp; omega, by simp; omega, h1, ?_⟩
  rintro _ rfl
  exact ⟨by simp; omega, by simp; omega, rfl⟩
theorem toI_app (a b : Bs) : toI (a ++ b) = toI a ++ toI b := by simp [toI]
theorem clsB_step {l : List (List Int)} {i : Int} (h0 : 0 ≤ i) (h : i < l.length) : clsB (l.take (i + 1).toNat) = clsB (l.take i.toNat) ++ (litsB (gi l i) ++ [48, 10]) := by
  rw [take_gi h0 h]; simp [clsB]
theorem litsB_step {c : List Int} {k : Int} (h0 : 0 ≤ k) (h : k < c.length) : litsB (c.take (k + 1).toNat) = litsB (c.take k.toNat) ++ (Lib.itoa (gi c k) ++ [32]) := by
  rw [take_gi h0 h]; simp [litsB]
theorem clsB_le (l : List (List Int)) (k : Nat) : (clsB (l.take k)).length ≤ (clsB l).length := by
  have : clsB l = clsB (l.take k) ++ clsB (l.drop k) := by unfold clsB; rw [← List.flatMap_append, List.take_append_drop]
  rw [this, List.length_append]; omega
theorem lits_len {c : List Int} (h : ∀ l ∈ c, -100000 ≤ l ∧ l ≤ 100000) : (litsB c).length ≤ 22 * c.length := by
  induction c with
  | nil => simp [litsB]
  | cons l c ih =>
    have := ih (fun x hx => h x (by simp [hx]))
    have b := h l (by simp)
    have a3 := itoa_len (x := l) ⟨by show (-9223372036854775808 : Int) ≤ _; omega, by show _ ≤ (9223372036854775807 : Int); omega⟩
    have e : litsB (l :: c) = Lib.itoa l ++ [32] ++ litsB c := by simp [litsB]
    rw [e]; simp; omega
theorem szC_le : ∀ cs : List (List Int), (∀ c ∈ cs, c.length ≤ 1000) → szC cs ≤ 1001 * cs.length
  | [], _ => by simp [szC]
  | c :: cs, h => by
    have := szC_le cs (fun x hx => h x (by simp [hx]))
    have b := h c (by simp)
    have e2 : szC (c :: cs) = c.length + 1 + szC cs := by simp [szC]
    rw [e2]; simp; omega
theorem cnf_facts {f : Api_Formula} (h : (cnfE f).2 = 0) : (0 ≤ f.Vars ∧ f.Vars ≤ 100000) ∧ f.Clauses.length ≤ 1000000 ∧ (∀ c ∈ f.Clauses, c.length ≤ 1000 ∧ ∀ l ∈ c, -100000 ≤ l ∧ l ≤ 100000) ∧ preHd f.Vars f.Clauses.length ∧ (headB f.Vars f.Clauses.length).length ≤ 60 ∧ (headB f.Vars f.Clauses.length ++ clsB f.Clauses).length ≤ 25000000000000 := by
  obtain ⟨h1, h2, h3⟩ := (cnfE_iff f).1 h
  have hc : ∀ c ∈ f.Clauses, okC f.Vars c := fun c hc => (okC_iff h1 c).2 (h3 c hc)
  have i1 : inR .i64 f.Vars := ⟨by show (-9223372036854775808 : Int) ≤ _; omega, by show _ ≤ (9223372036854775807 : Int); omega⟩
  have i2 : inR .i64 (f.Clauses.length : Int) := ⟨by show (-9223372036854775808 : Int) ≤ _; omega, by show _ ≤ (9223372036854775807 : Int); omega⟩
  have a := itoa_len i1
  have b := itoa_len i2
  have t := text_len h1 h2 hc
  have z := szC_le f.Clauses (fun c hx => (hc c hx).1)
  refine ⟨h1, h2, fun c hx => ⟨(hc c hx).1, fun l hl => ?_⟩, ⟨i1, i2⟩, by simp [headB]; omega, by omega⟩
  have := (hc c hx).2.1 l hl
  omega
theorem print_body {f : Api_Formula} (h : (cnfE f).2 = 0) : dimacs_Print f = if (headB f.Vars f.Clauses.length ++ clsB f.Clauses).length > 1000000 ∧ f.Clauses ≠ [] then ([], 3) else (headB f.Vars f.Clauses.length ++ clsB f.Clauses, 0) := by
  unfold dimacs_Print; rw [if_neg (by simp [h])]
theorem v12 (f : Api_Formula) : VC12 f (fun x => x = dimacs_Print f) := by
  intro hsm
  rintro _ rfl
  unfold cnf_Check
  refine ⟨fun h => ?_, fun h => ?_⟩
  · have h : (cnfE f).2 ≠ 0 := by simpa using h
    unfold dimacs_Print
    rw [if_pos h]
  have h : (cnfE f).2 = 0 := by simpa using h
  obtain ⟨hv, hn, hc, hp, hh, hall⟩ := cnf_facts h
  refine ⟨hp, ?_⟩
  rintro _ rfl
  rw [print_body h]
  unfold VC12_J1 VC12_J2 dimacs_Head
  refine ⟨by omega, ?_⟩
  generalize hH : headB f.Vars f.Clauses.length = H at *
  refine ⟨fun o i => 0 ≤ i ∧ i ≤ f.Clauses.length ∧ o = toI (H ++ clsB (f.Clauses.take i.toNat)) ∧ (0 < i → (H ++ clsB (f.Clauses.take i.toNat)).length ≤ 1000000), fun _ i => (f.Clauses.length - i).toNat, ⟨by omega, by omega, by simp [clsB], by omega⟩, ?_⟩
  rintro o i ⟨h0, h1, ho, hlen⟩
  have hlen' : (H ++ clsB (f.Clauses.take i.toNat)).length ≤ 1000000 := by
    by_cases hi : 0 < i
    · exact hlen hi
    · have : i = 0 := by omega
      subst this; simp [clsB]; omega
  refine ⟨fun hi => ?_, fun hi => ?_⟩
  · have hi := of_decide_eq_true hi
    have hci := hc _ (mem_gi h0 hi)
    refine ⟨⟨h0, hi⟩, fun _ => ?_⟩
    refine ⟨fun o2 k => 0 ≤ k ∧ k ≤ (gi f.Clauses i).length ∧ o2 = o ++ toI (litsB ((gi f.Clauses i).take k.toNat)), fun _ k => ((gi f.Clauses i).length - k).toNat, ⟨by omega, by omega, by simp [litsB, toI]⟩, ?_⟩
    rintro o2 k ⟨k0, k1, ho2⟩
    have hlk : (litsB ((gi f.Clauses i).take k.toNat)).length ≤ 22 * 1000 := by
      have := lits_len (c := (gi f.Clauses i).take k.toNat) (fun l hl => hci.2 l (List.mem_of_mem_take hl))
      have h2 : ((gi f.Clauses i).take k.toNat).length ≤ (gi f.Clauses i).length := by simp; omega
      omega
    have ho2l : o2.length ≤ 1000000 + 22000 := by
      rw [ho2, ho, List.length_append, toI_length, toI_length]; omega
    refine ⟨fun hk => ?_, fun hk => ?_⟩
    · have hk := of_decide_eq_true hk
      have hb := hci.2 _ (mem_gi k0 hk)
      have hr : inR .i64 (gi (gi f.Clauses i) k) := ⟨by show (-9223372036854775808 : Int) ≤ _; omega, by show _ ≤ (9223372036854775807 : Int); omega⟩
      have hl := itoa_len hr
      rw [wrp (n := k + 1) (by omega) (by omega)]
      refine ⟨⟨k0, hk⟩, hr, ?_⟩
      rintro _ rfl
      unfold token_Digits
      refine ⟨by omega, by simp [toI_length]; omega, ⟨by omega, by omega, ?_⟩, by first | omega | (dsimp only; omega)⟩
      rw [litsB_step k0 hk, toI_app, toI_app, ho2]
      simp [toI]
    · have hk := of_decide_eq_false hk
      have hcl := clsB_step h0 hi
      rw [show k.toNat = (gi f.Clauses i).length by omega, List.take_length] at ho2
      have e : o2 ++ toI [48, 10] = toI (H ++ clsB (f.Clauses.take (i + 1).toNat)) := by
        rw [hcl, ho2, ho, ← toI_app, ← toI_app]; simp
      rw [wrp (n := i + 1) (by omega) (by omega), e, toI_length]
      refine ⟨by simp; omega, fun hb => ?_, fun hb => ⟨⟨by omega, by omega, rfl, fun _ => by have := of_decide_eq_false hb; omega⟩, by first | omega | (dsimp only; omega)⟩⟩
      have hb := of_decide_eq_true hb
      have hle := clsB_le f.Clauses (i + 1).toNat
      rw [if_pos]
      refine ⟨by simp only [List.length_append] at hb ⊢; omega, fun he => ?_⟩
      rw [he] at hi; simp at hi; omega
  · have hi := of_decide_eq_false hi
    rw [show i.toNat = f.Clauses.length by omega, List.take_length] at ho hlen'
    rw [if_neg (by omega), ho, ofBytes_toI]
theorem v13 (f : Api_Formula) : VC13 f (fun x => x = ref06_Print f) := by
  intro hsm
  rintro _ rfl
  unfold ref04_Check
  refine ⟨fun h => ?_, fun h => ?_⟩
  · have h : (cnfE f).2 ≠ 0 := by simpa using h
    unfold ref06_Print
    rw [if_pos h]
  have h : (cnfE f).2 = 0 := by simpa using h
  obtain ⟨hv, hn, hc, hp, hh, hall⟩ := cnf_facts h
  refine ⟨hp, ?_⟩
  rintro _ rfl
  unfold VC13_J1 VC13_J2 ref06_Head ref06_Print
  rw [if_neg (by simp [h])]
  generalize hH : headB f.Vars f.Clauses.length = H at *
  refine ⟨fun o i => 0 ≤ i ∧ i ≤ f.Clauses.length ∧ o = H ++ clsB (f.Clauses.take i.toNat), fun _ i => (f.Clauses.length - i).toNat, ⟨by omega, by omega, by simp [clsB]⟩, ?_⟩
  rintro o i ⟨h0, h1, ho⟩
  have hol : o.length ≤ 25000000000000 := by
    have hle := clsB_le f.Clauses i.toNat
    rw [ho]; simp only [List.length_append] at hall ⊢; omega
  refine ⟨fun hi => ?_, fun hi => ?_⟩
  · have hi := of_decide_eq_true hi
    have hci := hc _ (mem_gi h0 hi)
    refine ⟨fun o2 k => 0 ≤ k ∧ k ≤ (gi f.Clauses i).length ∧ o2 = o ++ litsB ((gi f.Clauses i).take k.toNat), fun _ k => ((gi f.Clauses i).length - k).toNat, ⟨by omega, by omega, by simp [litsB]⟩, ?_⟩
    rintro o2 k ⟨k0, k1, ho2⟩
    have hlk : (litsB ((gi f.Clauses i).take k.toNat)).length ≤ 22 * 1000 := by
      have := lits_len (c := (gi f.Clauses i).take k.toNat) (fun l hl => hci.2 l (List.mem_of_mem_take hl))
      have h2 : ((gi f.Clauses i).take k.toNat).length ≤ (gi f.Clauses i).length := by simp; omega
      omega
    have ho2l : o2.length ≤ 25000000000000 + 22000 := by
      rw [ho2, List.length_append]; omega
    refine ⟨⟨h0, hi⟩, fun _ => ⟨fun hk => ?_, fun hk => ?_⟩⟩
    · have hk := of_decide_eq_true hk
      have hb := hci.2 _ (mem_gi k0 hk)
      have hr : inR .i64 (gi (gi f.Clauses i) k) := ⟨by show (-9223372036854775808 : Int) ≤ _; omega, by show _ ≤ (9223372036854775807 : Int); omega⟩
      have hl := itoa_len hr
      rw [wrp (n := k + 1) (by omega) (by omega)]
      refine ⟨⟨h0, hi⟩, fun _ => ⟨⟨k0, hk⟩, hr, ?_⟩⟩
      rintro _ rfl
      unfold ref05_Digits
      refine ⟨by omega, by simp; omega, ⟨by omega, by omega, ?_⟩, by first | omega | (dsimp only; omega)⟩
      rw [litsB_step k0 hk, ho2]
      simp
    · have hk := of_decide_eq_false hk
      have hcl := clsB_step h0 hi
      rw [show k.toNat = (gi f.Clauses i).length by omega, List.take_length] at ho2
      rw [wrp (n := i + 1) (by omega) (by omega)]
      exact ⟨by simp; omega, ⟨by omega, by omega, by rw [hcl, ho2, ho]; simp⟩, by first | omega | (dsimp only; omega)⟩
  · have hi := of_decide_eq_false hi
    rw [show i.toNat = f.Clauses.length by omega, List.take_length] at ho
    rw [ho]
    refine ⟨fun hb => ?_, fun hb => ?_⟩
    · rw [if_pos (by have := of_decide_eq_true hb; omega)]
    · rw [if_neg (by have := of_decide_eq_false hb; omega)]
theorem print_same (f : Api_Formula) : dimacs_Print f = ref06_Print f := by
  unfold dimacs_Print ref06_Print
  by_cases h : (cnfE f).2 ≠ 0
  · rw [if_pos h, if_pos h]
  · rw [if_neg h, if_neg h]
    obtain ⟨hv, hn, hc, hp, hh, hall⟩ := cnf_facts (by simpa using h)
    by_cases hb : (headB f.Vars f.Clauses.length ++ clsB f.Clauses).length > 1000000
    · rw [if_pos hb, if_pos]
      refine ⟨hb, fun he => ?_⟩
      rw [he] at hb hh
      simp [clsB] at hb hh
      omega
    · rw [if_neg hb, if_neg (fun x => hb x.1)]
end Go.Proofs.YtancoeikfkebfaaDoor
