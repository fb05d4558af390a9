/- Proofs as text: the document's Parse, printing. -/
import Derived.Test.YtkgcdoeldilhaaaGreatDoorNV15
set_option linter.all false
namespace Go.Proofs.YtkgcdoeldilhaaaGreatDoor
open Go Go.Sv Go.Pu
theorem toI_app (a b : Bs) : toI (a ++ b) = toI a ++ toI b := by simp [toI]
theorem toI_len (a : Bs) : (toI a).length = a.length := by simp [toI]
theorem litsB_step {c : List Int} {k : Int} (h0 : 0 ≤ k) (h : k < c.length) : litsB (c.take (k + 1).toNat) = litsB (c.take k.toNat) ++ (Lib.itoa (gi c k) ++ [32]) := by
  rw [take_gi h0 h]; simp [litsB]
theorem lits_le {c : List Int} (h : ∀ l ∈ c, inR .i64 l) : (litsB c).length ≤ 22 * c.length := by
  induction c with
  | nil => simp [litsB]
  | cons l c ih =>
    have := ih (fun x hx => h x (by simp [hx]))
    have a3 := itoa_len (x := l) (h l (by simp))
    have e : litsB (l :: c) = Lib.itoa l ++ [32] ++ litsB c := by simp [litsB]
    rw [e]; simp; omega
theorem lits_take {c : List Int} (h : ∀ l ∈ c, inR .i64 l) (k : Nat) : (litsB (c.take k)).length ≤ 22 * c.length := by
  have := lits_le (c := c.take k) (fun x hx => h x (List.mem_of_mem_take hx))
  rw [List.length_take] at this
  omega
theorem nums_lits (c : List Int) : numsB c = litsB c ++ [48] := rfl
theorem v79 (p : Api_Step) (out l : List Int) (hp : preNums p out l) : VC79 p out l (fun x => x = proof_printed_numbers p out l) := by
  intro _ _ _ _
  obtain ⟨h0, h1, h2⟩ := hp
  unfold VC79_J1 proof_printed_numbers
  refine ⟨fun o i => 0 ≤ i ∧ i ≤ l.length ∧ o = out ++ toI (litsB (l.take i.toNat)), fun _ i => (l.length - i).toNat, ⟨by omega, by omega, by simp [litsB, toI]⟩, ?_⟩
  rintro o i ⟨i0, i1, ho⟩
  have hb := lits_take h2 i.toNat
  have hol := congrArg List.length ho
  rw [List.length_append, toI_len] at hol
  refine ⟨fun hi => ?_, fun hi => ?_⟩
  · have hi := of_decide_eq_true hi
    have hin := h2 _ (mem_gi i0 hi)
    have ha := itoa_len hin
    rw [wrp (n := i + 1) (by omega) (by omega)]
    refine ⟨⟨i0, hi⟩, hin, ?_⟩
    rintro _ rfl
    unfold token_Digits
    refine ⟨by omega, by simp [toI_len]; omega, ⟨by omega, by omega, ?_⟩, by first | omega | (dsimp only; omega)⟩
    rw [litsB_step i0 hi, toI_app, toI_app, ho]
    simp [toI]
  · have hi := of_decide_eq_false hi
    rw [show i.toNat = l.length by omega, List.take_length] at ho
    refine ⟨by simp; omega, ?_⟩
    rw [ho, nums_lits, toI_app]
    simp [toI]
theorem v56 (p : Api_Step) (out : List Int) (hp : preLine p out) : VC56 p out (fun x => x = proof_printed_line p out) := by
  intro _ _ _
  obtain ⟨h0, h1, h2, h3, h4, h5⟩ := hp
  have ha := itoa_len h1
  have hL := lits_le h4
  have hH := lits_le h5
  refine ⟨h1, ?_⟩
  rintro _ rfl
  unfold token_Digits proof_printed_numbers proof_printed_line stepT
  refine ⟨by omega, by simp [toI_len]; omega, fun hk => ?_, fun hk => ?_⟩
  · have hk : p.Kind = 2 := by simpa using hk
    rw [if_pos hk]
    refine ⟨by simp [toI_len]; omega, ⟨by simp [toI_len]; omega, by omega, h5⟩, ?_⟩
    rintro _ rfl
    intro _
    refine ⟨by simp [toI_len, nums_lits]; omega, ?_⟩
    simp [toI]
  · have hk : ¬ p.Kind = 2 := by simpa using hk
    rw [if_neg hk]
    refine ⟨⟨by simp [toI_len]; omega, by omega, h4⟩, ?_⟩
    rintro _ rfl
    intro _
    refine ⟨by simp [toI_len, nums_lits]; omega, ⟨by simp [toI_len, nums_lits]; omega, by omega, h5⟩, ?_⟩
    rintro _ rfl
    intro _
    refine ⟨by simp [toI_len, nums_lits]; omega, ?_⟩
    simp [toI]
theorem may_facts {s : Api_Step} (h : mayS s = true) : inR .i64 s.Id ∧ s.Lits.length ≤ 1000 ∧ s.Hints.length ≤ 1000 ∧ (∀ n ∈ s.Lits, inR .i64 n) ∧ ∀ n ∈ s.Hints, inR .i64 n := by
  have i : ∀ n : Int, -10000000 ≤ n ∧ n ≤ 10000000 → inR .i64 n := fun n hn => ⟨by show (-9223372036854775808 : Int) ≤ _; omega, by show _ ≤ (9223372036854775807 : Int); omega⟩
  rcases (may_iff s).1 h with ⟨_, a, b, c, d⟩ | ⟨_, a, b, c, d⟩
  · exact ⟨i _ (by omega), c.1, d.1, fun n hn => i n (by have := c.2.1 n hn; omega), fun n hn => i n (by have := d.2.1 n hn; omega)⟩
  · exact ⟨i _ (by omega), by rw [c]; simp, d.1, fun n hn => by rw [c] at hn; simp at hn, fun n hn => i n (by have := d.2.1 n hn; omega)⟩
theorem proofT_step {l : List Api_Step} {i : Int} (h0 : 0 ≤ i) (h : i < l.length) : proofT (l.take (i + 1).toNat) = proofT (l.take i.toNat) ++ stepT (gi l i) := by
  rw [take_gi h0 h]; simp [proofT]
theorem proofT_le (l : List Api_Step) (k : Nat) : (proofT (l.take k)).length ≤ (proofT l).length := by
  have : proofT l = proofT (l.take k) ++ proofT (l.drop k) := by unfold proofT; rw [← List.flatMap_append, List.take_append_drop]
  rw [this, List.length_append]; omega
theorem proofT_big : ∀ {l : List Api_Step}, (∀ s ∈ l, mayS s = true) → (proofT l).length ≤ 70000 * l.length
  | [], _ => by simp [proofT]
  | s :: l, h => by
    have hm := h s (by simp)
    have a := stepT_len hm
    obtain ⟨_, f1, f2, _⟩ := may_facts hm
    unfold szS at a
    have b := proofT_big (l := l) (fun x hx => h x (by simp [hx]))
    have e : proofT (s :: l) = stepT s ++ proofT l := by simp [proofT]
    rw [e, List.length_append, List.length_cons]; omega
theorem v33 (l : List Api_Step) : VC33 l (fun x => x = proof_Print l) := by
  intro _
  rintro _ rfl
  unfold VC33_J1 proof_Check proof_Print printP
  refine ⟨fun h => ?_, fun h => ?_⟩
  · rw [if_pos (bne_iff_ne.1 h)]
  · have h : (chkS l).2 = 0 := by rw [bne_eq_false_iff_eq] at h; exact h
    rw [if_neg (by simp [h])]
    obtain ⟨hl, hm⟩ := (chk_iff l).1 h
    refine ⟨fun o i => 0 ≤ i ∧ i ≤ l.length ∧ o = toI (proofT (l.take i.toNat)) ∧ (proofT (l.take i.toNat)).length ≤ 1000000, fun _ i => (l.length - i).toNat, ⟨by omega, by omega, by simp [proofT, toI], by simp [proofT]⟩, ?_⟩
    rintro o i ⟨i0, i1, ho, hb⟩
    refine ⟨fun hi => ?_, fun hi => ?_⟩
    · have hi := of_decide_eq_true hi
      obtain ⟨f0, f1, f2, f3, f4⟩ := may_facts (hm _ (mem_gi i0 hi))
      rw [wrp (n := i + 1) (by omega) (by omega)]
      refine ⟨⟨i0, hi⟩, fun _ _ => ⟨⟨by rw [ho, toI_len]; omega, f0, f1, f2, f3, f4⟩, ?_⟩⟩
      rintro _ rfl
      intro _
      have e : proof_printed_line (⟨(gi l i).Kind, (gi l i).Id, (gi l i).Lits, (gi l i).Hints⟩ : Api_Step) o = toI (proofT (l.take (i + 1).toNat)) := by
        rw [proofT_step i0 hi, toI_app, ho]; rfl
      rw [e, toI_len]
      refine ⟨fun hg => ?_, fun hg => ⟨⟨by omega, by omega, rfl, by have := of_decide_eq_false hg; omega⟩, by first | omega | (dsimp only; omega)⟩⟩
      have hg := of_decide_eq_true hg
      have := proofT_le l (i + 1).toNat
      rw [if_pos (by omega)]
    · have hi := of_decide_eq_false hi
      rw [show i.toNat = l.length by omega, List.take_length] at ho hb
      rw [if_neg (by omega), ho, ofBytes_toI]
theorem v58 (l : List Int) (hp : preRn l) : VC58 l (fun x => x = ref10_numbers l) := by
  intro _
  obtain ⟨h1, h2⟩ := hp
  unfold VC58_J1 ref10_numbers
  refine ⟨fun o i => 0 ≤ i ∧ i ≤ l.length ∧ o = litsB (l.take i.toNat), fun _ i => (l.length - i).toNat, ⟨by omega, by omega, by simp [litsB]⟩, ?_⟩
  rintro o i ⟨i0, i1, ho⟩
  have hb := lits_take h2 i.toNat
  have hol := congrArg List.length ho
  refine ⟨fun hi => ?_, fun hi => ?_⟩
  · have hi := of_decide_eq_true hi
    have hin := h2 _ (mem_gi i0 hi)
    have ha := itoa_len hin
    rw [wrp (n := i + 1) (by omega) (by omega)]
    refine ⟨⟨i0, hi⟩, hin, ?_⟩
    rintro _ rfl
    unfold ref05_Digits
    refine ⟨by omega, by simp; omega, ⟨by omega, by omega, ?_⟩, by first | omega | (dsimp only; omega)⟩
    rw [litsB_step i0 hi, ho]
    simp
  · have hi := of_decide_eq_false hi
    rw [show i.toNat = l.length by omega, List.take_length] at ho
    refine ⟨by simp; omega, ?_⟩
    rw [ho, nums_lits]
theorem v35 (l : List Api_Step) : VC35 l (fun x => x = ref10_Print l) := by
  intro _
  rintro _ rfl
  unfold VC35_J1 VC35_J2 ref10_Check ref10_Print printP
  refine ⟨fun h => ?_, fun h => ?_⟩
  · rw [if_pos (bne_iff_ne.1 h)]
  · have h : (chkS l).2 = 0 := by rw [bne_eq_false_iff_eq] at h; exact h
    rw [if_neg (by simp [h])]
    obtain ⟨hl, hm⟩ := (chk_iff l).1 h
    have big := proofT_big hm
    refine ⟨fun o i => 0 ≤ i ∧ i ≤ l.length ∧ o = proofT (l.take i.toNat), fun _ i => (l.length - i).toNat, ⟨by omega, by omega, by simp [proofT]⟩, ?_⟩
    rintro o i ⟨i0, i1, ho⟩
    have hle := proofT_le l i.toNat
    rw [← ho] at hle
    refine ⟨fun hi => ?_, fun hi => ?_⟩
    · have hi := of_decide_eq_true hi
      obtain ⟨f0, f1, f2, f3, f4⟩ := may_facts (hm _ (mem_gi i0 hi))
      have ha := itoa_len f0
      have hL := lits_le f3
      have hH := lits_le f4
      have hs := proofT_step i0 hi
      rw [← ho] at hs
      unfold stepT at hs
      rw [wrp (n := i + 1) (by omega) (by omega)]
      refine ⟨⟨i0, hi⟩, f0, ?_⟩
      rintro _ rfl
      unfold ref05_Digits ref10_numbers
      refine ⟨by omega, by simp; omega, ⟨i0, hi⟩, fun hk => ?_, fun hk => ?_⟩
      · have hk : (gi l i).Kind = 2 := by simpa using hk
        rw [if_pos hk] at hs
        refine ⟨by simp; omega, ⟨i0, hi⟩, fun _ => ⟨⟨by omega, f4⟩, ?_⟩⟩
        rintro _ rfl
        refine ⟨by simp [nums_lits]; omega, by simp [nums_lits]; omega, ⟨by omega, by omega, ?_⟩, by first | omega | (dsimp only; omega)⟩
        rw [hs]; simp
      · have hk : ¬ (gi l i).Kind = 2 := by simpa using hk
        rw [if_neg hk] at hs
        refine ⟨⟨i0, hi⟩, fun _ => ⟨⟨by omega, f3⟩, ?_⟩⟩
        rintro _ rfl
        refine ⟨by simp [nums_lits]; omega, by simp [nums_lits]; omega, ⟨i0, hi⟩, fun _ => ⟨⟨by omega, f4⟩, ?_⟩⟩
        rintro _ rfl
        refine ⟨by simp [nums_lits]; omega, by simp [nums_lits]; omega, ⟨by omega, by omega, ?_⟩, by first | omega | (dsimp only; omega)⟩
        rw [hs]; simp
    · have hi := of_decide_eq_false hi
      rw [show i.toNat = l.length by omega, List.take_length] at ho
      rw [ho]
      refine ⟨fun hg => ?_, fun hg => ?_⟩
      · have hg := of_decide_eq_true hg
        rw [if_pos (by omega)]
      · have hg := of_decide_eq_false hg
        rw [if_neg (by omega)]
end Go.Proofs.YtkgcdoeldilhaaaGreatDoor
