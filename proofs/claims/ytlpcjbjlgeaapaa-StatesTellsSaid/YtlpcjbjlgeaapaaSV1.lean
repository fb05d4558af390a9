/- Plain lemmas about the specification functions. Conditions: in each lemma. -/
import Derived.Test.YtlpcjbjlgeaapaaSVC
set_option linter.all false
namespace Go.Proofs.Ytlpcjbjlgeaapaa
open Go Go.Sv Go.Pu

theorem v21 (s : Numbering_Size) : VC21 s (fun r => r = numbering_Check s) := by
  simp only [VC21, numbering_Check, ref31_Check, Bool.or_eq_true, decide_eq_true_eq, Bool.or_eq_false_iff, decide_eq_false_iff_not]
  constructor <;> intro h
  · rw [if_pos (by omega)]
  · rw [if_neg (by omega)]
theorem v22 (ops states : Int) : VC22 ops states (fun r => r = ref31_Check ops states) := by
  simp only [VC22, ref31_Check, Bool.or_eq_true, decide_eq_true_eq, Bool.or_eq_false_iff, decide_eq_false_iff_not]
  constructor <;> intro h
  · rw [if_pos (by omega)]
  · rw [if_neg (by omega)]
theorem v56 (s : Numbering_Size) (k : Int) : VC56 s k (fun r => r = numbering_Size_block s k) := by
  simp only [VC56, numbering_Size_block, beq_iff_eq, beq_eq_false_iff_ne]
  refine ⟨fun h => by rw [if_pos h], fun h => ⟨fun h2 => by rw [if_neg h, if_pos h2], fun h2 => by rw [if_neg h, if_neg h2]⟩⟩

theorem check0 {o s : Int} (h : ref31_Check o s = 0) : 0 ≤ o ∧ o ≤ 64 ∧ 1 ≤ s ∧ s ≤ 32 := by
  unfold ref31_Check at h; split at h <;> omega
theorem check2 (o s : Int) : ref31_Check o s = 0 ∨ ref31_Check o s = 2 := by
  unfold ref31_Check; split <;> simp

theorem block_eq {s : Numbering_Size} (h : numbering_Check s = 0) (k : Int) : numbering_Size_block s k = (base s k, wide s k, tall s k) := by
  obtain ⟨h0, h1, h2, h3⟩ := check0 h
  have hm := mulb h0 h1 h0 h1
  unfold numbering_Size_block base wide tall
  split
  · rfl
  · split
    · rw [wrp (by omega) (by omega)]
    · rw [wrp (n := s.Ops * s.Ops) (by omega) (by omega), wrp (by omega) (by omega), wrp (by omega) (by omega)]

theorem v23 (s : Numbering_Size) : VC23 s (fun r => r = numbering_Vars s) := by
  unfold VC23
  intro r hr
  subst hr
  refine ⟨fun h => ?_, fun h => ?_⟩
  · have h : numbering_Check s ≠ 0 := by simpa using h
    simp [numbering_Vars, h]
  · have h : numbering_Check s = 0 := by simpa using h
    intro r hr
    subst hr
    obtain ⟨h0, h1, h2, h3⟩ := check0 h
    have hm := mulb h0 h1 h0 h1
    have hn := mulb (a := s.States) (b := s.Ops + 1) (by omega) h3 (by omega) (by omega : s.Ops + 1 ≤ 65)
    rw [block_eq h]
    simp only [base, wide, tall, numbering_Vars, h, if_true]
    simp only [show (3 : Int) ≠ 1 by decide, show (3 : Int) ≠ 2 by decide, if_false]
    rw [wrp (n := s.States * (s.Ops + 1)) (by omega) (by omega), wrp (by omega) (by omega)]

theorem wide_b {s : Numbering_Size} (h : numbering_Check s = 0) (k : Int) : 0 ≤ wide s k ∧ wide s k ≤ 64 ∧ 0 ≤ tall s k ∧ tall s k ≤ 65 ∧ 0 ≤ base s k ∧ base s k ≤ 4160 := by
  obtain ⟨h0, h1, h2, h3⟩ := check0 h
  have hm := mulb h0 h1 h0 h1
  unfold wide tall base
  split
  · omega
  · split <;> omega

theorem v24 (s : Numbering_Size) (n : Numbering_Name) : VC24 s n (fun r => r = numbering_Var s n) := by
  unfold VC24
  intro r hr
  subst hr
  simp only [Bool.or_eq_true, decide_eq_true_eq, Bool.or_eq_false_iff, decide_eq_false_iff_not, bne_iff_ne, bne_eq_false_iff_eq]
  refine ⟨fun h => ?_, fun h => ?_⟩
  · unfold numbering_Var; rw [if_neg]; intro hh; rcases h with (h | h) | h
    · exact h hh.1
    · omega
    · omega
  · intro r hr
    subst hr
    obtain ⟨⟨hc, hk0⟩, hk1⟩ := h
    rw [block_eq hc]
    have hb := wide_b hc n.Kind
    refine ⟨fun h => ?_, fun h => ?_⟩
    · unfold numbering_Var; rw [if_neg]; intro hh; simp only at h; omega
    · simp only at h ⊢
      have hm := mulb (a := n.A) (b := wide s n.Kind) (A := 65) (B := 64) (by omega) (by omega) (by omega) (by omega)
      unfold numbering_Var
      rw [if_pos ⟨hc, by omega, by omega, by omega, by omega, by omega, by omega⟩]
      rw [wrp (n := n.A * _) (by omega) (by omega), wrp (n := _ + n.A * _) (by omega) (by omega), wrp (n := _ + n.B) (by omega) (by omega), wrp (by omega) (by omega)]


theorem v59 (s : Numbering_Size) (a b : Int) : VC59 s a b (fun r => r = states_at s a b) := by
  intro r hr; exact hr.symm
theorem v60 (o s a b : Int) : VC60 o s a b (fun r => r = ref31_State o s a b) := rfl
theorem v61 (b : Int) (s : Numbering_Size) (a : Int) : VC61 b s a (fun r => r = states_Clauses_1 b s a) := by
  intro r hr; exact hr.symm

theorem gi_ext {α : Type} [Inhabited α] {a b : List α} (hl : a.length = b.length) (h : ∀ j : Int, 0 ≤ j → j < a.length → gi a j = gi b j) : a = b := by
  apply List.ext_getElem hl
  intro i h1 h2
  have := h i (by omega) (by omega)
  rwa [gi_nat _ _ h1, gi_nat _ _ h2] at this

theorem v34 (a b : List Int) : VC34 a b (fun r => r = ref01_SameInts a b) := by
  unfold VC34
  intro ha hb
  simp only [sm] at ha hb
  refine ⟨fun h => ?_, fun h => ?_⟩
  · have : a ≠ b := by rintro rfl; simp at h
    simp [ref01_SameInts, this]
  · have hl : a.length = b.length := by simp at h; omega
    refine ⟨fun i => 0 ≤ i ∧ i ≤ a.length ∧ ∀ j : Int, 0 ≤ j → j < i → gi a j = gi b j, fun i => (a.length - i).toNat, ⟨by omega, by omega, fun j h0 h1 => by omega⟩, ?_⟩
    rintro i ⟨h0, h1, h2⟩
    simp only [decide_eq_true_eq, decide_eq_false_iff_not, bne_iff_ne, bne_eq_false_iff_eq]
    refine ⟨fun hi => ⟨by omega, by omega, fun hne => ?_, fun he => ?_⟩, fun hi => ?_⟩
    · have : a ≠ b := by rintro rfl; exact hne rfl
      simp [ref01_SameInts, this]
    · rw [wrp (by omega) (by omega)]
      refine ⟨⟨by omega, by omega, fun j j0 j1 => ?_⟩, by omega⟩
      by_cases hj : j < i
      · exact h2 j j0 hj
      · rw [show j = i by omega]; exact he
    · have : a = b := gi_ext hl (fun j j0 j1 => h2 j j0 (by omega))
      simp [VC34_J1, ref01_SameInts, this]

theorem v35 (a b : List Bool) : VC35 a b (fun r => r = ref03_SameBools a b) := by
  unfold VC35
  intro ha hb
  simp only [sm] at ha hb
  refine ⟨fun h => ?_, fun h => ?_⟩
  · have : a ≠ b := by rintro rfl; simp at h
    simp [ref03_SameBools, this]
  · have hl : a.length = b.length := by simp at h; omega
    refine ⟨fun i => 0 ≤ i ∧ i ≤ a.length ∧ ∀ j : Int, 0 ≤ j → j < i → gi a j = gi b j, fun i => (a.length - i).toNat, ⟨by omega, by omega, fun j h0 h1 => by omega⟩, ?_⟩
    rintro i ⟨h0, h1, h2⟩
    simp only [decide_eq_true_eq, decide_eq_false_iff_not, bne_iff_ne, bne_eq_false_iff_eq]
    refine ⟨fun hi => ⟨by omega, by omega, fun hne => ?_, fun he => ?_⟩, fun hi => ?_⟩
    · have : a ≠ b := by rintro rfl; exact hne rfl
      simp [ref03_SameBools, this]
    · rw [wrp (by omega) (by omega)]
      refine ⟨⟨by omega, by omega, fun j j0 j1 => ?_⟩, by omega⟩
      by_cases hj : j < i
      · exact h2 j j0 hj
      · rw [show j = i by omega]; exact he
    · have : a = b := gi_ext hl (fun j j0 j1 => h2 j j0 (by omega))
      simp [VC35_J1, ref03_SameBools, this]
end Go.Proofs.Ytlpcjbjlgeaapaa
