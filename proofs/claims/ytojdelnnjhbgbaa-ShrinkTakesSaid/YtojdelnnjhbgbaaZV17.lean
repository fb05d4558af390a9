/- The document's answers: operations, the owner of an event, what is left, beginnings one by one. -/
import Derived.Test.YtojdelnnjhbgbaaZV16
set_option linter.all false
namespace Go.Proofs.Ytojdelnnjhbgbaa
open Go Go.Sv Go.Pu
theorem begun_snoc (p : Int) (x : Api_Event) : ∀ (l : List Api_Event) (n b : Int), begunGo p (l ++ [x]) n b = if x.What = 1 then (if x.Prc = p then n + callsN l + 1 else begunGo p l n b) else (if x.Prc = p then -1 else begunGo p l n b)
  | [], n, b => by simp [begunGo, callsN]
  | y :: l, n, b => by
    rw [List.cons_append, begunGo, begunGo]
    have e : callsN (y :: l) = callsN l + (if y.What = 1 then 1 else 0) := by
      unfold callsN
      rw [List.countP_cons]
      by_cases h : y.What = 1
      · simp [h]
      · simp [h]
    rw [e]
    split
    · rename_i h
      rw [begun_snoc p x l]
      split
      · split
        · omega
        · rfl
      · rfl
    · rename_i h
      rw [begun_snoc p x l]
      split
      · split
        · omega
        · rfl
      · rfl
theorem v36 (l : List Api_Event) (at_ : Int) (hp : preOw l at_) : VC36 l at_ (fun r => r = ref41_Owner l at_) := by
  obtain ⟨h0, h1⟩ := hp
  intro hsl
  have hsl : l.length ≤ 140737488355328 := hsl
  obtain ⟨m, rfl⟩ := Int.eq_ofNat_of_zero_le h0
  have hA : (0 : Int) ≤ (m : Int) ∧ (m : Int) < (l.length : Int) := ⟨h0, h1⟩
  have hcN : ∀ k : Nat, 0 ≤ callsN (l.take k) ∧ callsN (l.take k) ≤ k := fun k => by
    unfold callsN
    have := List.countP_le_length (p := fun x : Api_Event => x.What == 1) (l := l.take k)
    rw [List.length_take] at this
    omega
  generalize hB : (fun k : Nat => begunGo (gi l (m : Int)).Prc (l.take k) (-1) (-1)) = B
  have hBk : ∀ k, begunGo (gi l (m : Int)).Prc (l.take k) (-1) (-1) = B k := fun k => by rw [← hB]
  have hBs : ∀ k, k < l.length → B (k + 1) = if (gi l (k : Int)).What = 1 then (if (gi l (k : Int)).Prc = (gi l (m : Int)).Prc then callsN (l.take k) else B k) else (if (gi l (k : Int)).Prc = (gi l (m : Int)).Prc then -1 else B k) := fun k hk => by
    rw [← hBk (k + 1), take_snoc hk, begun_snoc, hBk]
    split
    · split
      · omega
      · rfl
    · rfl
  have hcs : ∀ k, k < l.length → callsN (l.take (k + 1)) = callsN (l.take k) + (if (gi l (k : Int)).What = 1 then 1 else 0) := fun k hk => by rw [take_snoc hk, calls_snoc]
  have hS : ref41_Owner l (m : Int) = if (gi l (m : Int)).What = 1 then callsN (l.take m) else if (gi l (m : Int)).What = 2 then B m else -1 := by
    unfold ref41_Owner
    rw [show ((m : Nat) : Int).toNat = m by omega, hBk]
  rw [hS]
  refine ⟨fun n b i => ∃ k : Nat, i = (k : Int) ∧ ((k ≤ m ∧ n = callsN (l.take k) - 1 ∧ b = B k) ∨ (k = m + 1 ∧ b = if (gi l (m : Int)).What = 1 then callsN (l.take m) else B m)), fun _ _ i => ((m : Int) + 1 - i).toNat, ⟨0, rfl, .inl ⟨by omega, by simp [callsN], by rw [← hBk]; rfl⟩⟩, ?_⟩
  rintro n b _ ⟨k, rfl, hst⟩
  refine ⟨fun hi => ?_, fun hi => ?_⟩
  · have hi := of_decide_eq_true hi
    rcases hst with ⟨hk, rfl, rfl⟩ | ⟨hk, _⟩
    · have hI : (0 : Int) ≤ (k : Int) ∧ (k : Int) < (l.length : Int) := ⟨by omega, by omega⟩
      obtain ⟨c1, c2⟩ := hcN k
      have b1 := hBs k (by omega)
      have b2 := hcs k (by omega)
      have fin : ∀ n' b' : Int, n' = callsN (l.take (k + 1)) - 1 → b' = (if (k : Int) < (m : Int) then B (k + 1) else if (gi l (m : Int)).What = 1 then callsN (l.take m) else B m) → VC36_J3 (fun n b i => ∃ k : Nat, i = (k : Int) ∧ ((k ≤ m ∧ n = callsN (l.take k) - 1 ∧ b = B k) ∨ (k = m + 1 ∧ b = if (gi l (m : Int)).What = 1 then callsN (l.take m) else B m))) (fun _ _ i => ((m : Int) + 1 - i).toNat) (callsN (l.take k) - 1) (B k) (k : Int) n' b' := by
        intro n' b' hn hb
        unfold VC36_J3
        rw [wrp (by omega) (by omega)]
        refine ⟨⟨k + 1, by push_cast; rfl, ?_⟩, by first | omega | (dsimp only; omega)⟩
        by_cases hkm : k < m
        · left; rw [if_pos (by omega)] at hb; exact ⟨by omega, hn, hb⟩
        · right; rw [if_neg (by omega)] at hb; exact ⟨by omega, hb⟩
      refine ⟨hI, fun w => ?_, fun w => ?_⟩
      · have w : (gi l (k : Int)).What = 1 := by simpa using w
        rw [if_pos w] at b1 b2
        unfold VC36_J4
        rw [wrp (by omega) (by omega)]
        refine ⟨hI, hA, fun hpr => ⟨hI, fun _ => ?_, fun w2 => by simp [w] at w2⟩, fun hpr => ?_⟩
        · have hpr : (gi l (k : Int)).Prc = (gi l (m : Int)).Prc := by simpa using hpr
          refine fin _ _ (by omega) ?_
          rw [if_pos hpr] at b1
          split
          · omega
          · have : k = m := by omega
            subst this; rw [if_pos w]; omega
        · have hpr : ¬ (gi l (k : Int)).Prc = (gi l (m : Int)).Prc := by simpa using hpr
          refine fin _ _ (by omega) ?_
          rw [if_neg hpr] at b1
          rw [if_pos, b1]
          have : k ≠ m := by rintro rfl; exact hpr rfl
          omega
      · have w : ¬ (gi l (k : Int)).What = 1 := by simpa using w
        rw [if_neg w] at b1 b2
        unfold VC36_J4
        refine ⟨hI, hA, fun hpr => ⟨hI, fun w2 => absurd (by simpa using w2) w, fun _ => ⟨fun hkm => ?_, fun hkm => ?_⟩⟩, fun hpr => ?_⟩
        · have hpr : (gi l (k : Int)).Prc = (gi l (m : Int)).Prc := by simpa using hpr
          refine fin _ _ (by omega) ?_
          rw [if_pos hpr] at b1
          rw [if_pos (of_decide_eq_true hkm), b1]
        · have hkm := of_decide_eq_false hkm
          have : k = m := by omega
          subst this
          refine fin _ _ (by omega) ?_
          rw [if_neg (by omega), if_neg w]
        · have hpr : ¬ (gi l (k : Int)).Prc = (gi l (m : Int)).Prc := by simpa using hpr
          refine fin _ _ (by omega) ?_
          rw [if_neg hpr] at b1
          rw [if_pos, b1]
          have : k ≠ m := by rintro rfl; exact hpr rfl
          omega
    · omega
  · have hi := of_decide_eq_false hi
    rcases hst with ⟨hk, _⟩ | ⟨hk, hb⟩
    · omega
    · unfold VC36_J1 VC36_J2
      refine ⟨hA, fun w => ⟨hA, fun w2 => ?_, fun w2 => ?_⟩, fun w => ⟨(fun h => by cases h), fun _ => ?_⟩⟩
      · rw [if_neg (by simpa using w), if_neg (by simpa using w2)]
      · rw [if_neg (by simpa using w)] at hb ⊢
        rw [if_pos (by simpa using w2)]; exact hb
      · have w : (gi l (m : Int)).What = 1 := by simpa using w
        rw [if_pos w] at hb ⊢; exact hb
theorem rWo_succ (l : List Api_Event) (ops : List Int) (k : Nat) : rWoTo l ops (k + 1) = rWoTo l ops k ++ (if rGone l ops (k : Int) then [] else [gi l (k : Int)]) := by
  unfold rWoTo
  rw [List.range_succ, List.filter_append, List.map_append]
  congr 1
  cases h : rGone l ops (k : Int) <;> simp [h]
theorem rWo_len (l : List Api_Event) (ops : List Int) (k : Nat) : (rWoTo l ops k).length ≤ k := by
  unfold rWoTo
  rw [List.length_map]
  exact Nat.le_trans (List.length_filter_le _ _) (by simp)
theorem v19 (l : List Api_Event) (ops : List Int) (hp : preWo l ops) : VC19 l ops (fun r => r = ref41_Without l ops) := by
  have hl : l.length ≤ 1000000 := hp
  intro _ hso
  have hso : ops.length ≤ 140737488355328 := hso
  unfold ref41_Without
  refine ⟨fun out i => ∃ k : Nat, i = (k : Int) ∧ k ≤ l.length ∧ out = rWoTo l ops k, fun _ i => (l.length - i).toNat, ⟨0, rfl, by omega, rfl⟩, ?_⟩
  rintro _ _ ⟨k, rfl, hk, rfl⟩
  have hle := rWo_len l ops k
  refine ⟨fun hi => ?_, fun hi => ?_⟩
  · have hi := of_decide_eq_true hi
    refine ⟨⟨by omega, hi⟩, ?_⟩
    rintro _ rfl
    refine ⟨fun out' gone q => rWoTo l ops k = out' ∧ 0 ≤ q ∧ q ≤ ops.length ∧ gone = decide (ref41_Owner l (k : Int) ≥ 0 ∧ ref41_Owner l (k : Int) ∈ ops.take q.toNat), fun _ _ q => (ops.length - q).toNat, ⟨rfl, by omega, by omega, by simp⟩, ?_⟩
    rintro _ gone q ⟨rfl, q0, q1, hgone⟩
    refine ⟨fun hq => ?_, fun hq => ?_⟩
    · have hq := of_decide_eq_true hq
      have htk := take_gi q0 hq
      unfold VC19_J4
      rw [wrp (by omega) (by omega)]
      refine ⟨fun g => ⟨⟨rfl, by omega, by omega, ?_⟩, by first | omega | (dsimp only; omega)⟩, fun g => ⟨fun h => ⟨⟨q0, hq⟩, ⟨rfl, by omega, by omega, ?_⟩, by first | omega | (dsimp only; omega)⟩, fun h => ⟨⟨rfl, by omega, by omega, ?_⟩, by first | omega | (dsimp only; omega)⟩⟩⟩
      · rw [g] at hgone
        have hg := of_decide_eq_true hgone.symm
        rw [htk]
        exact (decide_eq_true ⟨hg.1, List.mem_append_left _ hg.2⟩).symm
      · have h := of_decide_eq_true h
        rw [g] at hgone
        have hg := of_decide_eq_false hgone.symm
        rw [htk, Bool.eq_iff_iff, beq_iff_eq, decide_eq_true_eq, List.mem_append, List.mem_singleton]
        constructor
        · intro h5; exact ⟨h, .inr h5.symm⟩
        · rintro ⟨_, h5 | h5⟩
          · exact absurd ⟨h, h5⟩ hg
          · exact h5.symm
      · have h := of_decide_eq_false h
        exact (decide_eq_false (fun h5 => h h5.1)).symm
    · have hq := of_decide_eq_false hq
      rw [List.take_of_length_le (by omega)] at hgone
      have hgone : gone = rGone l ops (k : Int) := hgone
      unfold VC19_J3 VC19_J2
      rw [wrp (by omega) (by omega)]
      refine ⟨fun h => ⟨⟨by omega, hi⟩, by simp; omega, ⟨k + 1, by push_cast; rfl, by omega, ?_⟩, by first | omega | (dsimp only; omega)⟩, fun h => ⟨⟨k + 1, by push_cast; rfl, by omega, ?_⟩, by first | omega | (dsimp only; omega)⟩⟩
      · rw [rWo_succ, ← hgone, if_neg (by simpa using h)]
      · rw [rWo_succ, ← hgone, if_pos (by simpa using h), List.append_nil]
  · have hi := of_decide_eq_false hi
    obtain rfl : k = l.length := by omega
    rfl
end Go.Proofs.Ytojdelnnjhbgbaa
