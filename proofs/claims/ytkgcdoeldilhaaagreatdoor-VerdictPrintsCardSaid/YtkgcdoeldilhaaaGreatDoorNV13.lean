/- Proofs as text: the checks, a line's words. -/
import Derived.Test.YtkgcdoeldilhaaaGreatDoorNV12
set_option linter.all false
namespace Go.Proofs.YtkgcdoeldilhaaaGreatDoor
open Go Go.Sv Go.Pu
theorem v93 (n lo : Int) : VC93 n lo (fun r => r = proof_within_1 n lo) := by
  unfold VC93 proof_within_1 inH
  rw [Bool.not_not]
theorem v105_93 (c : List Int) (lo : Int) : VC105_93 c lo (fun r => r = slices_IndexFunc_int_int_proof_within_1 c lo) := by
  intro hsm
  simp only [sm] at hsm
  unfold VC105_93_J1 slices_IndexFunc_int_int_proof_within_1
  refine ⟨fun i => 0 ≤ i ∧ i ≤ c.length ∧ (c.take i.toNat).any (fun n => !(inH lo n)) = false, fun i => (c.length - i).toNat, ⟨by omega, by omega, by simp⟩, ?_⟩
  rintro i ⟨h0, h1, hz⟩
  refine ⟨fun hi => ?_, fun hi => ?_⟩
  · have hi := of_decide_eq_true hi
    rw [wrp (n := i + 1) (by omega) (by omega)]
    refine ⟨⟨h0, hi⟩, ?_⟩
    rintro _ rfl
    refine ⟨fun h => (idx_at (f := fun n => !(inH lo n)) h0 hi hz h).symm, fun h => ⟨⟨by omega, by omega, any_step (f := fun n => !(inH lo n)) h0 hi hz h⟩, by first | omega | (dsimp only; omega)⟩⟩
  · have hi := of_decide_eq_false hi
    rw [show i.toNat = c.length by omega, List.take_length] at hz
    exact (idx_none 0 hz).symm
theorem v94_93 (c : List Int) (lo : Int) : VC94_93 c lo (fun r => r = slices_ContainsFunc_int_int_proof_within_1 c lo) := by
  intro _
  rintro _ rfl
  exact idx_ge c
theorem all_any (c : List Int) (f : Int → Bool) : (!(c.any fun n => !(f n))) = c.all f := by
  induction c with
  | nil => rfl
  | cons x c ih => rw [List.any_cons, List.all_cons, ← ih]; cases f x <;> simp
theorem v81 (l : List Int) (lo : Int) : VC81 l lo (fun r => r = proof_within l lo) := by
  intro _
  unfold proof_within withinB
  refine ⟨fun h => ?_, fun h => ?_⟩
  · have h := of_decide_eq_true h
    rintro _ rfl
    have : decide (l.length ≤ 1000) = true := decide_eq_true (by omega)
    rw [this, Bool.true_and]
    exact all_any l (inH lo)
  · have h := of_decide_eq_false h
    have : decide (l.length ≤ 1000) = false := decide_eq_false (by omega)
    rw [this, Bool.false_and]
theorem v64 (l : List Int) (lo : Int) : VC64 l lo (fun r => r = ref10_within l lo) := by
  intro hsm
  simp only [sm] at hsm
  unfold VC64_J1 VC64_J2 ref10_within withinB
  refine ⟨fun i => 0 ≤ i ∧ i ≤ l.length ∧ (l.take i.toNat).all (inH lo) = true, fun i => (l.length - i).toNat, ⟨by omega, by omega, by simp⟩, ?_⟩
  rintro i ⟨h0, h1, hz⟩
  refine ⟨fun hi => ?_, fun hi => ?_⟩
  · have hi := of_decide_eq_true hi
    rw [wrp (n := i + 1) (by omega) (by omega)]
    have bad : inH lo (gi l i) = false → (decide (l.length ≤ 1000) && l.all (inH lo)) = false := by
      intro h
      have : l.all (inH lo) = false := by rw [List.all_eq_false]; exact ⟨_, mem_gi h0 hi, by simp [h]⟩
      rw [this, Bool.and_false]
    refine ⟨⟨h0, hi⟩, fun h => ⟨fun _ => ?_, fun h => by simp at h⟩, fun h => ⟨⟨h0, hi⟩, fun h2 => ⟨fun _ => ?_, fun h => by simp at h⟩, fun h2 => ⟨⟨h0, hi⟩, fun h3 => ?_, fun h3 => ⟨⟨by omega, by omega, ?_⟩, by first | omega | (dsimp only; omega)⟩⟩⟩⟩
    · exact (bad (by unfold inH; rw [h]; rfl)).symm
    · exact (bad (by unfold inH; rw [h2]; simp)).symm
    · exact (bad (by unfold inH; rw [h3]; simp)).symm
    · rw [take_gi h0 hi, List.all_append, hz]; unfold inH; simp only [List.all_cons, List.all_nil]; rw [h, h2, h3]; rfl
  · have hi := of_decide_eq_false hi
    rw [show i.toNat = l.length by omega, List.take_length] at hz
    show decide _ = _
    rw [hz, Bool.and_true]
    by_cases h : l.length ≤ 1000
    · rw [decide_eq_true h, decide_eq_true (by omega)]
    · rw [decide_eq_false h, decide_eq_false (by omega)]
theorem v61 (s : Api_Step) : VC61 s (fun r => r = proof_may s) := by
  intro _ _
  unfold proof_may mayS clause_Check proof_within
  refine ⟨fun h => ?_, fun h => ⟨fun h2 => ⟨fun h3 => ?_, fun h3 => ?_⟩, fun h2 => ?_⟩⟩
  · have hk : s.Kind = 1 := by simpa using h
    rw [if_pos hk]
    refine ⟨fun h2 => ?_, fun h2 => ?_⟩
    · rintro _ rfl
      rw [h2, Bool.true_and]
      refine ⟨fun h3 => ?_, fun h3 => ?_⟩
      · rintro _ rfl
        rw [h3, Bool.true_and]
      · rw [h3, Bool.false_and]
    · rw [h2, Bool.false_and, Bool.false_and]
  · have hk : ¬ s.Kind = 1 := by simpa using h
    have hk2 : s.Kind = 2 := by simpa using h2
    rw [if_neg hk, if_pos hk2]
    rintro _ rfl
    have e : (((s.Lits.length : Nat) : Int) == 0) = s.Lits.isEmpty := by cases s.Lits <;> simp <;> omega
    rw [e] at h3
    rw [h3, Bool.true_and]
  · have hk : ¬ s.Kind = 1 := by simpa using h
    have hk2 : s.Kind = 2 := by simpa using h2
    rw [if_neg hk, if_pos hk2]
    have e : (((s.Lits.length : Nat) : Int) == 0) = s.Lits.isEmpty := by cases s.Lits <;> simp <;> omega
    rw [e] at h3
    rw [h3, Bool.false_and]
  · have hk : ¬ s.Kind = 1 := by simpa using h
    have hk2 : ¬ s.Kind = 2 := by simpa using h2
    rw [if_neg hk, if_neg hk2]
theorem v60 (s : Api_Step) : VC60 s (fun r => r = proof_Check_1 s) := by
  intro _ _
  rintro _ rfl
  rfl
theorem badGo_app : ∀ (a b : List Api_Step) (k : Int), (∀ s ∈ a, mayS s = true) → badGo (a ++ b) k = badGo b (k + a.length)
  | [], b, k, _ => by simp
  | s :: a, b, k, h => by
    rw [List.cons_append]
    conv => lhs; unfold badGo
    rw [if_pos (h s (by simp)), badGo_app a b (k + 1) (fun x hx => h x (by simp [hx])), List.length_cons]
    congr 1; omega
theorem badGo_all : ∀ (a : List Api_Step) (k : Int), (∀ s ∈ a, mayS s = true) → badGo a k = -1
  | [], k, _ => rfl
  | s :: a, k, h => by unfold badGo; rw [if_pos (h s (by simp))]; exact badGo_all a (k + 1) (fun x hx => h x (by simp [hx]))
theorem badGo_at {l : List Api_Step} {i : Int} (h0 : 0 ≤ i) (hi : i < l.length) (hz : ∀ s ∈ l.take i.toNat, mayS s = true) (h : mayS (gi l i) = false) : badGo l 0 = i := by
  have e : l = l.take i.toNat ++ gi l i :: l.drop (i + 1).toNat := by rw [← drop_gi h0 hi, List.take_append_drop]
  rw [e, badGo_app _ _ _ hz]
  unfold badGo
  rw [if_neg (by simp [h])]
  simp; omega
theorem may_step {l : List Api_Step} {i : Int} (h0 : 0 ≤ i) (hi : i < l.length) (hz : ∀ s ∈ l.take i.toNat, mayS s = true) (h : mayS (gi l i) = true) : ∀ s ∈ l.take (i + 1).toNat, mayS s = true := by
  rw [take_gi h0 hi]
  intro s hs
  rcases List.mem_append.1 hs with hs | hs
  · exact hz s hs
  · simp at hs; subst hs; exact h
theorem v59_60 (l : List Api_Step) : VC59_60 l (fun r => r = slices_IndexFunc_api_Step_api_Step_proof_Check_1 l) := by
  intro hsm
  simp only [sm] at hsm
  unfold VC59_60_J1 slices_IndexFunc_api_Step_api_Step_proof_Check_1
  refine ⟨fun i => 0 ≤ i ∧ i ≤ l.length ∧ ∀ s ∈ l.take i.toNat, mayS s = true, fun i => (l.length - i).toNat, ⟨by omega, by omega, by simp⟩, ?_⟩
  rintro i ⟨h0, h1, hz⟩
  refine ⟨fun hi => ?_, fun hi => ?_⟩
  · have hi := of_decide_eq_true hi
    rw [wrp (n := i + 1) (by omega) (by omega)]
    refine ⟨⟨h0, hi⟩, fun _ _ => ?_⟩
    rintro _ rfl
    unfold proof_Check_1
    refine ⟨fun h => (badGo_at h0 hi hz (by simpa using h)).symm, fun h => ⟨⟨by omega, by omega, may_step h0 hi hz (by simpa using h)⟩, by first | omega | (dsimp only; omega)⟩⟩
  · have hi := of_decide_eq_false hi
    rw [show i.toNat = l.length by omega, List.take_length] at hz
    exact (badGo_all _ 0 hz).symm
theorem v36 (l : List Api_Step) : VC36 l (fun r => r = proof_Check l) := by
  intro _
  unfold proof_Check chkS
  refine ⟨fun h => ?_, fun h => ?_⟩
  · have h := of_decide_eq_true h
    rw [if_pos (by omega)]
  · have h := of_decide_eq_false h
    rw [if_neg (by omega)]
    rintro _ rfl
    unfold slices_IndexFunc_api_Step_api_Step_proof_Check_1
    refine ⟨fun h2 => ?_, fun h2 => ?_⟩
    · rw [if_pos (of_decide_eq_true h2)]
    · rw [if_neg (of_decide_eq_false h2)]
theorem may_ref (s : Api_Step) : mayS s = ((s.Kind == 1 && decide (s.Id ≥ 1) && decide (s.Id ≤ 10000000)) && (clauseE s.Lits 100000 == 0) && withinB s.Hints (-10000000) || ((s.Kind == 2 && decide (s.Id ≥ 0) && decide (s.Id ≤ 10000000) && (((s.Lits.length : Nat) : Int) == 0)) && withinB s.Hints 1)) := by
  have e : (((s.Lits.length : Nat) : Int) == 0) = s.Lits.isEmpty := by cases s.Lits <;> simp <;> omega
  unfold mayS
  rw [e]
  by_cases h : s.Kind = 1
  · rw [if_pos h, h]; simp
  · rw [if_neg h]
    by_cases h2 : s.Kind = 2
    · rw [if_pos h2, h2]; simp
    · rw [if_neg h2]; simp [h, h2]
theorem v39 (l : List Api_Step) : VC39 l (fun r => r = ref10_Check l) := by
  intro hsm
  simp only [sm] at hsm
  unfold VC39_J1 VC39_J2 VC39_J3 ref10_Check chkS
  refine ⟨fun h => ?_, fun h => ?_⟩
  · have h := of_decide_eq_true h
    rw [if_pos (by omega)]
  · have h := of_decide_eq_false h
    rw [if_neg (by omega)]
    refine ⟨fun i => 0 ≤ i ∧ i ≤ l.length ∧ ∀ s ∈ l.take i.toNat, mayS s = true, fun i => (l.length - i).toNat, ⟨by omega, by omega, by simp⟩, ?_⟩
    rintro i ⟨h0, h1, hz⟩
    refine ⟨fun hi => ?_, fun hi => ?_⟩
    · have hi := of_decide_eq_true hi
      rw [wrp (n := i + 1) (by omega) (by omega)]
      refine ⟨⟨h0, hi⟩, fun _ _ => ?_⟩
      have fin : ∀ a d : Bool, mayS (gi l i) = (a || d) → (((!a) && (!d)) = true → (i, (2 : Int)) = (if badGo l 0 ≥ 0 then (badGo l 0, 2) else ((l.length : Int), 0))) ∧ (((!a) && (!d)) = false → (0 ≤ i + 1 ∧ i + 1 ≤ l.length ∧ ∀ s ∈ l.take (i + 1).toNat, mayS s = true) ∧ (l.length - (i + 1)).toNat < (l.length - i).toNat) := by
        intro a d hm
        refine ⟨fun h => ?_, fun h => ⟨⟨by omega, by omega, ?_⟩, by omega⟩⟩
        · rw [badGo_at h0 hi hz (by rw [hm]; revert h; cases a <;> cases d <;> simp), if_pos h0]
        · exact may_step h0 hi hz (by rw [hm]; revert h; cases a <;> cases d <;> simp)
      have hm := may_ref (gi l i)
      unfold ref02_Check ref10_within
      generalize hA : ((gi l i).Kind == 1 && decide ((gi l i).Id ≥ 1) && decide ((gi l i).Id ≤ 10000000)) = A at *
      generalize hD : ((gi l i).Kind == 2 && decide ((gi l i).Id ≥ 0) && decide ((gi l i).Id ≤ 10000000) && ((((gi l i).Lits.length : Nat) : Int) == 0)) = D at *
      have dd : ∀ a : Bool, mayS (gi l i) = (a || (D && withinB (gi l i).Hints 1)) → (D = true → ∀ r122, withinB (gi l i).Hints 1 = r122 → (((!a) && (!r122)) = true → (i, (2 : Int)) = (if badGo l 0 ≥ 0 then (badGo l 0, 2) else ((l.length : Int), 0))) ∧ (((!a) && (!r122)) = false → (0 ≤ i + 1 ∧ i + 1 ≤ l.length ∧ ∀ s ∈ l.take (i + 1).toNat, mayS s = true) ∧ (l.length - (i + 1)).toNat < (l.length - i).toNat)) ∧ (D = false → (((!a) && (!false)) = true → (i, (2 : Int)) = (if badGo l 0 ≥ 0 then (badGo l 0, 2) else ((l.length : Int), 0))) ∧ (((!a) && (!false)) = false → (0 ≤ i + 1 ∧ i + 1 ≤ l.length ∧ ∀ s ∈ l.take (i + 1).toNat, mayS s = true) ∧ (l.length - (i + 1)).toNat < (l.length - i).toNat)) := by
        intro a hm
        refine ⟨fun hd => ?_, fun hd => ?_⟩
        · rintro _ rfl
          exact fin a _ (by rw [hm, hd, Bool.true_and])
        · exact fin a false (by rw [hm, hd, Bool.false_and])
      refine ⟨fun ha => ?_, fun ha => ?_⟩
      · rintro _ rfl
        refine ⟨fun hc => ?_, fun hc => ?_⟩
        · rintro _ rfl
          exact dd _ (by rw [hm, ha, hc]; simp)
        · exact dd false (by rw [hm, ha, hc]; simp)
      · exact dd false (by rw [hm, ha]; simp)
    · have hi := of_decide_eq_false hi
      rw [show i.toNat = l.length by omega, List.take_length] at hz
      rw [badGo_all _ 0 hz]; rfl
theorem v75 (a e : Int) (r : Ln) : VC75 a e r (fun x => x = proof_line_wrong a e r) := by
  intro _
  unfold proof_line_wrong
  refine ⟨fun h => ?_, fun h => ?_⟩
  · rw [if_pos (by simpa using h)]
  · rw [if_neg (by simpa using h)]
theorem len0 {α : Type} {t : α} {T : List α} (h : ((((t :: T).length : Nat) : Int) == 0) = true) : False := by
  have : (((t :: T).length : Nat) : Int) = 0 := by simpa using h
  rw [List.length_cons] at this; omega
theorem v73 (lo hi : Int) (r : Ln) (hp : preNu lo hi r) : VC73 lo hi r (fun x => x = proof_line_number lo hi r) := by
  intro _
  obtain ⟨T, a, e⟩ := r
  obtain ⟨i1, i2, hg⟩ := hp
  unfold proof_line_number
  refine ⟨fun h => ?_, fun h => ?_⟩
  · rw [if_pos (by simpa using h)]
  · have h : e = 0 := by simpa using h
    subst h
    cases T with
    | nil => exact ⟨fun _ => by rintro _ rfl; intro _; rfl, fun h => by simp at h⟩
    | cons t T =>
      refine ⟨fun h => False.elim (len0 h), fun _ => ?_⟩
      have g := hg t (by simp)
      refine ⟨⟨by omega, by simp <;> omega⟩, ⟨by omega, by simp <;> omega⟩, ⟨g.2.2, i1, i2⟩, ?_⟩
      rintro _ rfl
      unfold token_Number
      refine ⟨fun h => ?_, fun h => ?_⟩
      · rintro _ rfl
        intro _
        have h : (numOf t.Text lo hi).2 ≠ 0 := bne_iff_ne.1 h
        simp only [ne_eq, not_true_eq_false, if_false]
        rw [if_pos h]; rfl
      · have h : (numOf t.Text lo hi).2 = 0 := by have := h; rw [bne_eq_false_iff_eq] at this; exact this
        simp only [ne_eq, not_true_eq_false, if_false]
        rw [if_neg (by simpa using h)]
        have g1 := g.1
        have g2 := g.2.1
        have g3 := g.2.2
        rw [wrp]
        · rfl
        · show (-9223372036854775808 : Int) ≤ t.At + (t.Text.length : Int); omega
        · show t.At + (t.Text.length : Int) ≤ _; omega
theorem v101 (c : List Int) (n : Int) : VC101 c n (fun r => r = slices_Index_int_int c n) := by
  intro hsm
  simp only [sm] at hsm
  unfold VC101_J1 slices_Index_int_int
  refine ⟨fun i => 0 ≤ i ∧ i ≤ c.length ∧ (c.take i.toNat).any (fun x => n == x) = false, fun i => (c.length - i).toNat, ⟨by omega, by omega, by simp⟩, ?_⟩
  rintro i ⟨h0, h1, hz⟩
  refine ⟨fun hi => ?_, fun hi => ?_⟩
  · have hi := of_decide_eq_true hi
    rw [wrp (n := i + 1) (by omega) (by omega)]
    refine ⟨⟨h0, hi⟩, fun h => (idx_at (f := fun x => n == x) h0 hi hz h).symm, fun h => ⟨⟨by omega, by omega, any_step (f := fun x => n == x) h0 hi hz h⟩, by first | omega | (dsimp only; omega)⟩⟩
  · have hi := of_decide_eq_false hi
    rw [show i.toNat = c.length by omega, List.take_length] at hz
    exact (idx_none 0 hz).symm
theorem v89 (c : List Int) (n : Int) : VC89 c n (fun r => r = slices_Contains_int_int c n) := by
  intro _
  rintro _ rfl
  unfold slices_Contains_int_int slices_Index_int_int
  rw [idx_ge, Bool.eq_iff_iff, List.any_eq_true, decide_eq_true_eq]
  constructor
  · rintro ⟨x, hx, h⟩
    have h : n = x := by simpa using h
    subst h; exact hx
  · exact fun h => ⟨n, h, by simp⟩
theorem v88 (n a : Int) (out : List Int) (r : Ln) (tw : Bool) (hp : preRw1 n a out r tw) : VC88 n a out r tw (fun x => x = proof_line_row_1 n a out r tw) := by
  intro _ _
  have hlen : out.length + [n].length ≤ 1099511627776 := by unfold preRw1 at hp; simp; omega
  unfold VC88_J1 VC88_J2 proof_line_row_1 addR slices_Contains_int_int
  refine ⟨fun h => ?_, fun h => ⟨fun ht => ?_, fun ht => ?_⟩⟩
  · have h : out.length ≥ 1000 := by have := of_decide_eq_true h; omega
    rintro _ rfl
    intro _
    refine ⟨hlen, ?_⟩
    rw [if_pos h]; rfl
  · have h : ¬ out.length ≥ 1000 := by have := of_decide_eq_false h; omega
    rintro _ rfl
    rw [if_neg h, ht, Bool.true_and]
    refine ⟨fun hc => ?_, fun hc => ⟨hlen, ?_⟩⟩
    · rintro _ rfl
      intro _
      refine ⟨hlen, ?_⟩
      rw [if_pos hc]; rfl
    · rw [if_neg (by simpa using hc)]
  · have h : ¬ out.length ≥ 1000 := by have := of_decide_eq_false h; omega
    rw [if_neg h, ht, Bool.false_and]
    exact ⟨fun hc => by simp at hc, fun hc => ⟨hlen, rfl⟩⟩
end Go.Proofs.YtkgcdoeldilhaaaGreatDoor
