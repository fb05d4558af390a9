/- Plain lemmas about the specification functions. Conditions: in each lemma. -/
import Derived.Test.YtlpcjbjlgeaapaaSV8
set_option linter.all false
namespace Go.Proofs.Ytlpcjbjlgeaapaa
open Go Go.Sv Go.Pu

theorem most_two : ∀ l : List Int, 2 * ((most l).length : Int) = l.length * (l.length - 1)
  | [] => by simp [most]
  | x :: r => by
    have := most_two r
    simp only [most, List.length_append, List.length_map, List.length_cons]
    have e : ((r.length + 1 : Nat) : Int) * (((r.length + 1 : Nat) : Int) - 1) = r.length * (r.length - 1) + 2 * r.length := by
      simp only [Int.natCast_add, Int.natCast_one]
      rw [show (r.length : Int) + 1 - 1 = r.length by omega, Int.add_mul, Int.mul_sub]
      omega
    rw [e, ← this]
    omega

theorem blks_len_eq (s : Numbering_Size) (t : Nat) : (((List.range t).flatMap (blk s)).length : Int) * 2 = t * (2 + s.States.toNat * (s.States.toNat - 1)) := by
  induction t with
  | zero => simp
  | succ t ih =>
    have h := most_two (rowAt s (t : Int) s.States.toNat)
    rw [rowAt_len] at h
    rw [blks_succ, List.length_append]
    have e : (((t + 1 : Nat) : Int)) * (2 + s.States.toNat * (s.States.toNat - 1)) = t * (2 + s.States.toNat * (s.States.toNat - 1)) + (2 + s.States.toNat * (s.States.toNat - 1)) := by
      rw [Int.natCast_add, Int.add_mul]; simp
    rw [e, ← ih, ← h]
    unfold blk
    rw [List.length_cons]
    omega

theorem gi_flat {st : Nat} {row : List Int} {a : Nat} {b : Int} (ha : a < row.length) (h0 : 0 ≤ b) (h1 : b < st) (A : List Bool) : gi (A ++ row.flatMap (cellsOf st)) ((A.length : Int) + (a * st : Nat) + b) = (b == gi row a) := by
  have e : row = row.take a ++ row[a] :: row.drop (a + 1) := by
    rw [← List.drop_eq_getElem_cons ha, List.take_append_drop]
  have e2 : A ++ row.flatMap (cellsOf st) = (A ++ (row.take a).flatMap (cellsOf st)) ++ (cellsOf st row[a] ++ (row.drop (a + 1)).flatMap (cellsOf st)) := by
    have := congrArg (fun l : List Int => A ++ l.flatMap (cellsOf st)) e
    rw [List.flatMap_append, List.flatMap_cons, ← List.append_assoc] at this
    exact this
  have hl : (A ++ (row.take a).flatMap (cellsOf st)).length = A.length + a * st := by
    rw [List.length_append, flat_len, List.length_take, Nat.min_eq_left (by omega)]
  rw [e2, gi_nat row a ha]
  have hidx : ((A.length : Int) + (a * st : Nat) + b) = ((A.length + a * st + b.toNat : Nat) : Int) := by omega
  rw [hidx, gi_nat _ _ (by rw [List.length_append, hl, List.length_append, cells_len]; omega)]
  rw [List.getElem_append_right (by omega), List.getElem_append_left (by rw [cells_len]; omega)]
  simp only [cellsOf, List.getElem_map, List.getElem_range, hl]
  congr 1
  omega

theorem trues_eq {s : Numbering_Size} {m : List Bool} {a x : Int} (h0 : 0 ≤ x) : ∀ t : Nat, (t : Int) ≤ s.States → (∀ b : Int, 0 ≤ b → b < s.States → on s m a b = (b == x)) → trues s m a t = if x < t then [x] else []
  | 0, _, _ => by rw [if_neg (by omega)]; rfl
  | t + 1, ht, h => by
    rw [trues_succ, trues_eq h0 t (by omega) h, h t (by omega) (by omega)]
    by_cases hx : (t : Int) = x
    · subst hx
      rw [if_neg (by omega), if_pos (by simp), if_pos (by omega)]
      rfl
    · rw [if_neg (c := ((t : Int) == x) = true) (by simpa using hx), List.append_nil]
      by_cases h2 : x < (t : Int)
      · rw [if_pos h2, if_pos (by omega)]
      · rw [if_neg h2, if_neg (by omega)]

theorem truths_len {s : Numbering_Size} {row : List Int} (h : goodRow s row) : ((states_Truths s row).1.length : Int) = numbering_Vars s := by
  obtain ⟨hc, hl, hg⟩ := h
  obtain ⟨h0, h1, h2, h3⟩ := check0 hc
  have hm := mulb h0 h1 h0 h1
  have hv : numbering_Vars s = s.Ops * s.Ops + s.Ops + (s.Ops * s.States + s.States) := by
    unfold numbering_Vars; rw [if_pos hc, Int.mul_add, Int.mul_comm s.States, Int.mul_one]
  unfold states_Truths
  rw [if_pos ⟨hc, hl, hg⟩]
  dsimp only
  rw [List.length_append, List.length_replicate, flat_len, hv]
  have e : ((row.length * s.States.toNat : Nat) : Int) = s.Ops * s.States + s.States := by
    rw [Int.natCast_mul, hl, show ((s.States.toNat : Nat) : Int) = s.States by omega, Int.add_mul, Int.one_mul]
  omega

theorem truths_on {s : Numbering_Size} {row : List Int} (h : goodRow s row) {a : Nat} (ha : (a : Int) ≤ s.Ops) {b : Int} (hb0 : 0 ≤ b) (hb1 : b < s.States) : on s (states_Truths s row).1 a b = (b == gi row a) := by
  obtain ⟨hc, hl, hg⟩ := h
  obtain ⟨h0, h1, h2, h3⟩ := check0 hc
  have hm := mulb h0 h1 h0 h1
  obtain ⟨e, e1, e2, e3⟩ := at_eq hc (a := (a : Int)) (by omega) ha hb0 hb1
  unfold on states_Truths
  rw [if_pos ⟨hc, hl, hg⟩, e]
  dsimp only
  have := gi_flat (st := s.States.toNat) (row := row) (a := a) (b := b) (by omega) hb0 (by omega) (List.replicate (s.Ops * s.Ops + s.Ops).toNat false)
  rw [← this]
  congr 1
  have e4 : ((a * s.States.toNat : Nat) : Int) = a * s.States := by
    rw [Int.natCast_mul, show ((s.States.toNat : Nat) : Int) = s.States by omega]
  rw [List.length_replicate]
  omega

theorem truths_row {s : Numbering_Size} {row : List Int} (h : goodRow s row) {a : Nat} (ha : (a : Int) ≤ s.Ops) : trues s (states_Truths s row).1 a s.States.toNat = [gi row a] := by
  have hg := h
  obtain ⟨hc, hl, hg⟩ := hg
  obtain ⟨h0, h1, h2, h3⟩ := check0 hc
  have hin := hg (gi row a) (by rw [gi_nat _ _ (by omega)]; exact List.getElem_mem _)
  rw [trues_eq (x := gi row a) hin.1 s.States.toNat (by omega) (fun b hb0 hb1 => truths_on h ha hb0 hb1), if_pos (by omega)]

theorem row_truths {s : Numbering_Size} {row : List Int} (h : goodRow s row) : (List.range (s.Ops + 1).toNat).all (oneOf s (states_Truths s row).1) = true ∧ states_Row s (states_Truths s row).1 = (row, true) := by
  obtain ⟨hc, hl, hg⟩ := h
  obtain ⟨h0, h1, h2, h3⟩ := check0 hc
  have hall : (List.range (s.Ops + 1).toNat).all (oneOf s (states_Truths s row).1) = true := by
    rw [List.all_eq_true]
    intro a ha
    rw [List.mem_range] at ha
    unfold oneOf
    rw [truths_row ⟨hc, hl, hg⟩ (by omega)]
    rfl
  refine ⟨hall, ?_⟩
  unfold states_Row
  rw [if_pos ⟨hc, truths_len ⟨hc, hl, hg⟩, hall⟩]
  congr 1
  apply List.ext_getElem (by simp; omega)
  intro i hi hj
  rw [List.getElem_map, List.getElem_range]
  unfold lastOf
  rw [truths_row ⟨hc, hl, hg⟩ (by omega)]
  rw [← gi_nat _ _ hj]
  rfl

theorem v8 (P : Numbering_Size) (O : List Int) : VC8 P O (fun r => r = true) := by
  unfold VC8
  have key : numbering_Check P = 0 → ∀ b, VC8_J1 P O (fun r => r = true) b := by
    intro hc b
    obtain ⟨k0, k1, k2, k3⟩ := check0 hc
    unfold VC8_J1
    refine ⟨fun _ r hr => by subst hr; rfl, fun _ => ?_⟩
    rintro _ rfl _
    by_cases hg : goodRow P O
    · have ht : (states_Truths P O).2 = true := by unfold states_Truths; rw [if_pos hg]
      rw [ht]
      obtain ⟨hall, hrow⟩ := row_truths hg
      refine ⟨fun h => by simp at h, fun _ => ?_⟩
      rintro _ rfl _
      rw [hrow]
      have hlen := hg.2.1
      have hb0 := hg.2.2 (gi O ((0 : Nat) : Int)) (by rw [gi_nat _ _ (by omega)]; exact List.getElem_mem _)
      refine ⟨⟨by omega, by omega⟩, ?_⟩
      rintro _ rfl _
      have hs2 := mulb (a := P.States) (b := P.States - 1) (A := 32) (B := 31) (by omega) (by omega) (by omega) (by omega)
      have hdiv : (P.States * (P.States - 1)).tdiv 2 = (P.States * (P.States - 1)) / 2 := Int.tdiv_eq_ediv_of_nonneg hs2.1
      have hm2 := most_two (rowAt P 0 P.States.toNat)
      rw [rowAt_len, show ((P.States.toNat : Nat) : Int) = P.States by omega] at hm2
      have hhalf : (P.States * (P.States - 1)) / 2 = (most (rowAt P 0 P.States.toNat)).length := by omega
      have hbl := blks_len_eq P (P.Ops + 1).toNat
      rw [show ((P.States.toNat : Nat) : Int) = P.States by omega, ← hm2, show (((P.Ops + 1).toNat : Nat) : Int) = P.Ops + 1 by omega] at hbl
      have hbl2 : (((List.range (P.Ops + 1).toNat).flatMap (blk P)).length : Int) = (P.Ops + 1) * (1 + (most (rowAt P 0 P.States.toNat)).length) := by
        rw [show (2 : Int) + 2 * ((most (rowAt P 0 P.States.toNat)).length : Int) = (1 + (most (rowAt P 0 P.States.toNat)).length) * 2 by omega, ← Int.mul_assoc] at hbl
        exact Int.eq_of_mul_eq_mul_right (by decide) hbl
      have hcl : ((states_Clauses P (gi O 0)).length : Int) = 1 + (P.Ops + 1) * (1 + (most (rowAt P 0 P.States.toNat)).length) := by
        unfold states_Clauses
        rw [if_pos ⟨hc, hb0.1, hb0.2⟩, List.length_cons]
        omega
      have hmm := mulb (a := P.Ops + 1) (b := 1 + ((most (rowAt P 0 P.States.toNat)).length : Int)) (A := 65) (B := 497) (by omega) (by omega) (by omega) (by omega)
      rw [wrp (n := P.States - 1) (by omega) (by omega), wrp (n := P.States * _) (by omega) (by omega), hdiv, hhalf, wrp (n := ((most (rowAt P 0 P.States.toNat)).length : Int)) (by omega) (by omega), wrp (n := 1 + ((most (rowAt P 0 P.States.toNat)).length : Int)) (by omega) (by omega), wrp (n := P.Ops + 1) (by omega) (by omega), wrp (n := (P.Ops + 1) * _) (by omega) (by omega), wrp (by omega) (by omega), hcl]
      have hon : on P (states_Truths P O).1 0 (gi O 0) = true := by
        have := truths_on hg (a := 0) (by omega) hb0.1 hb0.2
        rw [beq_self_eq_true] at this
        exact this
      have hfirst := (clauses_iff hc (truths_len hg) hb0.1 hb0.2 0).mpr ⟨hon, hall⟩
      refine ⟨fun _ => ?_, fun h => by cases h⟩
      rintro _ rfl
      refine ⟨fun _ => ⟨fun _ => ?_, fun h => ?_⟩, fun h => ?_⟩
      · rintro _ rfl
        refine ⟨fun _ r hr => by subst hr; rfl, fun h => ?_⟩
        rw [decide_eq_false_iff_not] at h
        exact absurd hfirst h
      · simp at h
      · simp [ref01_SameInts] at h
    · have ht : states_Truths P O = ([], false) := by unfold states_Truths; rw [if_neg hg]
      rw [ht]
      refine ⟨fun _ => ⟨fun _ r hr => by subst hr; rfl, fun h => by simp at h⟩, fun h => by simp at h⟩
  intro _
  refine ⟨fun _ => ?_, fun _ r hr => ?_⟩
  · unfold VC8_J1; exact ⟨fun _ r hr => by subst hr; rfl, fun h => by cases h⟩
  · subst hr
    by_cases hc : numbering_Check P = 0
    · exact key hc _
    · have : (numbering_Check P != 0) = true := by simpa using hc
      rw [this]
      unfold VC8_J1
      exact ⟨fun _ r hr => by subst hr; rfl, fun h => by simp at h⟩
end Go.Proofs.Ytlpcjbjlgeaapaa
