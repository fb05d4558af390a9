/- Where the faults of a case are; what the lines ahead of a fault alone are. -/
import Derived.Test.YtcjldfbgccmpkaaDoorHV26
set_option linter.all false
namespace Go.Proofs.YtcjldfbgccmpkaaDoor
open Go Go.Sv Go.Pu
/-! the end plays a part in a place alone -/
theorem numsGo_ind (e e' : Int) : ∀ (bs : List (Int × Int)) (l : PL) (q : Int) (acc : List Int), (numsGo e l bs q acc).1 = (numsGo e' l bs q acc).1 ∧ (numsGo e l bs q acc).2.2 = (numsGo e' l bs q acc).2.2
  | [], [], q, acc => ⟨rfl, rfl⟩
  | [], p :: l, q, acc => ⟨rfl, rfl⟩
  | b :: bs, [], q, acc => ⟨rfl, rfl⟩
  | b :: bs, p :: l, q, acc => by
    simp only [numsGo]
    split
    · exact ⟨rfl, rfl⟩
    · exact numsGo_ind e e' bs l _ _
theorem numsOf_ind (e e' : Int) (P : PL) (w : Bs) (lo hi : List Int) : (numsOf P w lo hi e).1 = (numsOf P w lo hi e').1 ∧ (numsOf P w lo hi e).2.2 = (numsOf P w lo hi e').2.2 := by
  cases P with
  | nil => exact ⟨rfl, rfl⟩
  | cons p r =>
    rw [numsOf_cons, numsOf_cons]
    split
    · exact ⟨rfl, rfl⟩
    · exact numsGo_ind e e' _ _ _ _
theorem numsAt_ind (e e' : Int) (L : List PL) (i : Int) (w : Bs) : (numsAt L i w e).1 = (numsAt L i w e').1 ∧ (numsAt L i w e).2.2 = (numsAt L i w e').2.2 := by
  unfold numsAt
  split
  · exact ⟨rfl, rfl⟩
  · exact numsOf_ind e e' _ _ _ _
theorem rowsGo_ind (e e' : Int) (L : List PL) : ∀ (n : Nat) (i : Int) (acc : List Api_Row), (rowsGo L e n i acc).1 = (rowsGo L e' n i acc).1 ∧ (rowsGo L e n i acc).2.2 = (rowsGo L e' n i acc).2.2
  | 0, i, acc => ⟨rfl, rfl⟩
  | n + 1, i, acc => by
    obtain ⟨h1, h2⟩ := numsAt_ind e e' L i wRow
    rw [rowsGo_succ, rowsGo_succ, h1, h2]
    split
    · exact ⟨rfl, rfl⟩
    · exact rowsGo_ind e e' L n _ _
theorem takeAll_ind (e e' : Int) (L : List PL) : (takeAll L e).1 = (takeAll L e').1 ∧ (takeAll L e).2.1 = (takeAll L e').2.1 ∧ (takeAll L e).2.2.2 = (takeAll L e').2.2.2 := by
  obtain ⟨h1, h2⟩ := numsAt_ind e e' L 0 wObject
  have h1 : (headN L e).1 = (headN L e').1 := h1
  have h2 : (headN L e).2.2 = (headN L e').2.2 := h2
  obtain ⟨r1, r2⟩ := rowsGo_ind e e' L (gi (headN L e).1 3).toNat 1 []
  have r1 : (rowsN L e).1 = (rowsN L e').1 := by unfold rowsN; rw [← h1]; exact r1
  have r2 : (rowsN L e).2.2 = (rowsN L e').2.2 := by unfold rowsN; rw [← h1]; exact r2
  by_cases hN : (headN L e).2.2 = 0
  · have hN' : (headN L e').2.2 = 0 := by omega
    by_cases hR : (rowsN L e).2.2 = 0
    · have hR' : (rowsN L e').2.2 = 0 := by omega
      by_cases hC : (object_Check (objH (headN L e).1 (rowsN L e).1)).2 = 0
      · rw [taD hN hR hC, taD hN' hR' (by rw [← h1, ← r1]; exact hC), h1, r1]
        exact ⟨rfl, rfl, rfl⟩
      · rw [taC hN hR hC, taC hN' hR' (by rw [← h1, ← r1]; exact hC), h1, r1]
        exact ⟨rfl, rfl, rfl⟩
    · rw [taB hN hR, taB hN' (by omega)]
      exact ⟨rfl, rfl, r2⟩
  · rw [taA hN, taA (by omega)]
    exact ⟨rfl, rfl, h2⟩
theorem readEv_ind (e e' : Int) (P : PL) (K : Int) (ob : Int → Bool) : (readEv P K e ob).1 = (readEv P K e' ob).1 ∧ (readEv P K e ob).2.2 = (readEv P K e' ob).2.2 := by
  rw [readEv_eq, readEv_eq]
  split
  · exact ⟨rfl, rfl⟩
  · obtain ⟨h1, h2⟩ := numsOf_ind e e' P (gi P 0).2 [1, 0] (hiOf K (evWhat (gi P 0).2))
    unfold evOf
    rw [h1, h2]
    split
    · exact ⟨rfl, rfl⟩
    · split
      · exact ⟨rfl, rfl⟩
      · exact ⟨rfl, rfl⟩
theorem evsGo_ind (K e e' : Int) : ∀ (L : List PL) (acc : List Api_Event), (evsGo K e L acc).1 = (evsGo K e' L acc).1 ∧ (evsGo K e L acc).2.2 = (evsGo K e' L acc).2.2
  | [], acc => ⟨rfl, rfl⟩
  | p :: L, acc => by
    obtain ⟨h1, h2⟩ := readEv_ind e e' p K (listB acc)
    rw [evsGo_cons, evsGo_cons, h1, h2]
    split
    · exact ⟨rfl, rfl⟩
    · split
      · exact ⟨rfl, rfl⟩
      · exact evsGo_ind K e e' L _
theorem caseP_ind (e e' : Int) (L : List PL) : (caseP L e).2.2.2 = (caseP L e').2.2.2 := by
  obtain ⟨t1, t2, t3⟩ := takeAll_ind e e' L
  have h := evsGo_ind (takeAll L e).1.Kinds e e' (L.drop (takeAll L e).2.1.toNat) []
  have h2 : (evsOf L e).2.2 = (evsOf L e').2.2 := by unfold evsOf; rw [← t1, ← t2]; exact h.2
  unfold caseP
  rw [t3, h2]
  split
  · rfl
  · split
    · rfl
    · rfl
/-! places -/
theorem numsOf_place {P : PL} (hP : P ≠ []) (w : Bs) (lo hi : List Int) (e : Int) : (numsOf P w lo hi e).2.2 = 0 ∨ hitP P (numsOf P w lo hi e).2.1 (numsOf P w lo hi e).2.2 := by
  cases P with
  | nil => exact absurd rfl hP
  | cons p r =>
    rw [numsOf_cons]
    by_cases hp : p.2 ≠ w
    · rw [if_pos hp]
      exact .inr ⟨p, by simp, .inl ⟨rfl, by simp⟩⟩
    · rw [if_neg hp]
      exact numsGo_place e (p :: r) (lo.zip hi) r (p.1 + p.2.length) [] ⟨p, by simp, rfl⟩ (fun x hx => by simp [hx])
theorem first_hit {P : PL} (hP : P ≠ []) {er : Int} (h : er ≠ 4) : hitP P (gi P 0).1 er := by
  cases P with
  | nil => exact absurd rfl hP
  | cons p r => exact ⟨p, by simp, .inl ⟨rfl, h⟩⟩
theorem numsAt_line {L : List PL} (hne : ∀ r ∈ L, r ≠ []) (i : Int) (w : Bs) (e : Int) (h0 : 0 ≤ i) : (numsAt L i w e).2.2 = 0 ∨ (numsAt L i w e).2.1 = e ∨ (i < L.length ∧ hitP (gi L i) (numsAt L i w e).2.1 (numsAt L i w e).2.2) := by
  unfold numsAt
  by_cases hi : i ≥ L.length
  · rw [if_pos hi]; exact .inr (.inl rfl)
  · rw [if_neg hi]
    rcases numsOf_place (hne _ (mem_gi h0 (by omega))) w lo4 hi4 e with h | h
    · exact .inl h
    · exact .inr (.inr ⟨by omega, h⟩)
theorem readEv_place {P : PL} (hP : P ≠ []) (K e : Int) (ob : Int → Bool) : (readEv P K e ob).2.2 = 0 ∨ hitP P (readEv P K e ob).2.1 (readEv P K e ob).2.2 := by
  rw [readEv_eq]
  split
  · exact .inr (first_hit hP (by simp))
  · have h := numsOf_place hP (gi P 0).2 [1, 0] (hiOf K (evWhat (gi P 0).2)) e
    unfold evOf
    split
    · rename_i h1
      rcases h with h | h
      · exact absurd h h1
      · exact .inr h
    · split
      · exact .inr (first_hit hP (by simp))
      · exact .inl rfl
theorem evsGo_fault {K e : Int} : ∀ (L : List PL) (acc : List Api_Event), (∀ r ∈ L, r ≠ []) → (evsGo K e L acc).2.2 ≠ 0 → ∃ m : Nat, m < L.length ∧ hitP (gi L (m : Int)) (evsGo K e L acc).2.1 (evsGo K e L acc).2.2 ∧ (evsGo K e (L.take m) acc).2.2 = 0
  | [], acc, _, h => absurd rfl h
  | p :: L, acc, hne, h => by
    have hp := hne p (by simp)
    rw [evsGo_cons] at h ⊢
    by_cases h1 : (readEv p K e (listB acc)).2.2 ≠ 0
    · rw [if_pos h1] at h ⊢
      rcases readEv_place hp K e (listB acc) with h2 | h2
      · exact absurd h2 h1
      · exact ⟨0, by simp, h2, rfl⟩
    rw [if_neg h1] at h ⊢
    by_cases h2 : acc.length ≥ 10000
    · rw [if_pos h2] at h ⊢
      exact ⟨0, by simp, first_hit (er := 3) hp (by decide), rfl⟩
    rw [if_neg h2] at h ⊢
    obtain ⟨m, m1, m2, m3⟩ := evsGo_fault L _ (fun r hr => hne r (by simp [hr])) h
    refine ⟨m + 1, by simp; omega, ?_, ?_⟩
    · have : gi (p :: L) ((m + 1 : Nat) : Int) = gi L (m : Int) := by
        rw [gi_nat _ _ (by simp; omega), gi_nat _ _ m1]; rfl
      rw [this]
      exact m2
    · rw [List.take_succ_cons, evsGo_cons, if_neg h1, if_neg h2]
      exact m3
/-! fewer lines -/
theorem numsAt_take {L : List PL} {j : Nat} {i : Int} (h0 : 0 ≤ i) (h : i < j) (hj : j ≤ L.length) (w : Bs) (e : Int) : numsAt (L.take j) i w e = numsAt L i w e := by
  unfold numsAt
  have hl : (L.take j).length = j := by rw [List.length_take]; omega
  have hg : gi (L.take j) i = gi L i := by
    have := gi_take (l := L) (i := i) (e := (j : Int)) h0 (by omega) (by omega)
    simpa using this
  rw [if_neg (by omega), if_neg (by omega), hg]
theorem numsAt_past {L : List PL} {i : Int} (h : i ≥ L.length) (w : Bs) (e : Int) : numsAt L i w e = ([], e, 4) := by
  unfold numsAt
  rw [if_pos h]
theorem rowsGo_cut {L : List PL} {e : Int} {j : Nat} (hj : j ≤ L.length) : ∀ (n : Nat) (i : Int) (acc : List Api_Row), 0 ≤ i → i ≤ j → (j : Int) < i + n → (∀ x : Int, i ≤ x → x < j → (numsAt L x wRow e).2.2 = 0) → (rowsGo (L.take j) e n i acc).2.2 = 4
  | 0, i, acc, h0, h1, h2, _ => by omega
  | n + 1, i, acc, h0, h1, h2, h => by
    have hl : (L.take j).length = j := by rw [List.length_take]; omega
    rw [rowsGo_succ]
    by_cases hi : i < j
    · rw [numsAt_take h0 hi hj, if_neg (by have := h i (Int.le_refl _) hi; omega)]
      exact rowsGo_cut hj n (i + 1) _ (by omega) (by omega) (by omega) (fun x x0 x1 => h x (by omega) x1)
    · rw [numsAt_past (by omega), if_pos (by simp)]
theorem rowsGo_same {L : List PL} {e : Int} {j : Nat} (hj : j ≤ L.length) : ∀ (n : Nat) (i : Int) (acc : List Api_Row), 0 ≤ i → i + n ≤ j → rowsGo (L.take j) e n i acc = rowsGo L e n i acc
  | 0, i, acc, h0, _ => rfl
  | n + 1, i, acc, h0, h1 => by
    rw [rowsGo_succ, rowsGo_succ, numsAt_take h0 (by omega) hj, rowsGo_same hj n (i + 1) _ (by omega) (by omega)]
theorem rowsGo_all {L : List PL} {e : Int} : ∀ (n : Nat) (i : Int) (acc : List Api_Row), (rowsGo L e n i acc).2.2 = 0 → ∀ x : Int, i ≤ x → x < i + n → (numsAt L x wRow e).2.2 = 0
  | 0, i, acc, _, x, h0, h1 => by omega
  | n + 1, i, acc, h, x, h0, h1 => by
    rw [rowsGo_succ] at h
    by_cases hi : (numsAt L i wRow e).2.2 ≠ 0
    · rw [if_pos hi] at h; exact absurd h hi
    · rw [if_neg hi] at h
      by_cases hx : x = i
      · subst hx; omega
      · exact rowsGo_all n (i + 1) _ h x (by omega) (by omega)
theorem rowsGo_fault {L : List PL} {e : Int} : ∀ (n : Nat) (i : Int) (acc : List Api_Row), (rowsGo L e n i acc).2.2 ≠ 0 → ∃ j : Int, i ≤ j ∧ j < i + n ∧ (rowsGo L e n i acc).2.1 = (numsAt L j wRow e).2.1 ∧ (rowsGo L e n i acc).2.2 = (numsAt L j wRow e).2.2 ∧ ∀ x : Int, i ≤ x → x < j → (numsAt L x wRow e).2.2 = 0
  | 0, i, acc, h => absurd rfl h
  | n + 1, i, acc, h => by
    rw [rowsGo_succ] at h ⊢
    by_cases hi : (numsAt L i wRow e).2.2 ≠ 0
    · rw [if_pos hi]
      exact ⟨i, Int.le_refl _, by omega, rfl, rfl, fun x x0 x1 => by omega⟩
    · rw [if_neg hi] at h ⊢
      obtain ⟨j, j0, j1, j2, j3, j4⟩ := rowsGo_fault n (i + 1) _ h
      refine ⟨j, by omega, by omega, j2, j3, fun x x0 x1 => ?_⟩
      by_cases hx : x = i
      · subst hx; omega
      · exact j4 x (by omega) x1
theorem head_take {L : List PL} {e : Int} {j : Nat} (hj : j ≤ L.length) (h : 1 ≤ j) : headN (L.take j) e = headN L e := numsAt_take (Int.le_refl _) (by omega) hj _ _
theorem case_four {L : List PL} {e : Int} (h : (takeAll L e).2.2.2 = 4) : (caseP L e).2.2.2 = 4 := by
  unfold caseP
  rw [if_pos (by omega)]
  exact h
theorem take_nil (e : Int) : (takeAll [] e).2.2.2 = 4 := by
  have h : headN [] e = ([], e, 4) := numsAt_past (by simp) _ _
  rw [taA (by rw [h]; simp), h]
/-- rows are lacking: something is missing -/
theorem rows_short {L : List PL} {e : Int} {j : Nat} (hj : j ≤ L.length) (h1 : 1 ≤ j) (hH : (headN L e).2.2 = 0) (hn : (j : Int) < 1 + (gi (headN L e).1 3).toNat) (h : ∀ x : Int, 1 ≤ x → x < j → (numsAt L x wRow e).2.2 = 0) : (takeAll (L.take j) e).2.2.2 = 4 := by
  have hh := head_take (e := e) hj h1
  have hr : (rowsN (L.take j) e).2.2 = 4 := by
    unfold rowsN
    rw [hh]
    exact rowsGo_cut hj _ 1 [] (by omega) (by omega) (by omega) h
  rw [taB (by rw [hh]; exact hH) (by omega)]
  exact hr
theorem rowsN_len {L : List PL} {e : Int} (hH : (headN L e).2.2 = 0) (hR : (rowsN L e).2.2 = 0) : (rowsN L e).1.length = (gi (headN L e).1 3).toNat ∧ (1 : Int) + (gi (headN L e).1 3).toNat ≤ L.length := by
  obtain ⟨_, _, _, n4⟩ := numsAt_ok hH
  obtain ⟨_, r2, r3⟩ := rowsGo_ok L e _ 1 [] (by omega) hR
  refine ⟨by unfold rowsN; simpa using r2, r3⟩
/-- where the fault of a case is, and what the lines ahead of it are alone -/
theorem caseP_fault {L : List PL} {e : Int} (hne : ∀ r ∈ L, r ≠ []) (h : (caseP L e).2.2.2 ≠ 0) : (caseP L e).2.2.1 = e ∨ ∃ j : Nat, j < L.length ∧ hitP (gi L (j : Int)) (caseP L e).2.2.1 (caseP L e).2.2.2 ∧ ∀ e' : Int, (caseP (L.take j) e').2.2.2 = 0 ∨ (caseP (L.take j) e').2.2.2 = 4 := by
  by_cases hT : (takeAll L e).2.2.2 ≠ 0
  · have hc : caseP L e = (obj0, [], (takeAll L e).2.2.1, (takeAll L e).2.2.2) := by unfold caseP; rw [if_pos hT]
    rw [hc]
    have fin : ∀ j : Nat, (takeAll (L.take j) e).2.2.2 = 4 → ∀ e' : Int, (caseP (L.take j) e').2.2.2 = 0 ∨ (caseP (L.take j) e').2.2.2 = 4 := fun j hj e' => .inr (by rw [caseP_ind e' e]; exact case_four hj)
    by_cases hN : (headN L e).2.2 = 0
    · by_cases hR : (rowsN L e).2.2 = 0
      · by_cases hC : (object_Check (objH (headN L e).1 (rowsN L e).1)).2 = 0
        · rw [taD hN hR hC] at hT; exact absurd rfl hT
        · have e4 := check_e (objH (headN L e).1 (rowsN L e).1)
          obtain ⟨c0, c1⟩ := check_range _ hC
          obtain ⟨l1, l2⟩ := rowsN_len hN hR
          rw [taC hN hR hC]
          have c1 : (object_Check (objH (headN L e).1 (rowsN L e).1)).1 < (rowsN L e).1.length := c1
          have hall := rowsGo_all _ 1 [] hR
          generalize object_Check (objH (headN L e).1 (rowsN L e).1) = R at *
          refine .inr ⟨(R.1 + 1).toNat, by omega, ?_, ?_⟩
          · rw [show (((R.1 + 1).toNat : Nat) : Int) = R.1 + 1 by omega]
            exact first_hit (hne _ (mem_gi (by omega) (by omega))) e4
          · refine fin _ ?_
            by_cases hj : R.1 + 1 = 0
            · rw [hj]; exact take_nil e
            · exact rows_short (by omega) (by omega) hN (by omega) (fun x x0 x1 => hall x x0 (by omega))
      · rw [taB hN hR]
        obtain ⟨j, j0, j1, j2, j3, j4⟩ := rowsGo_fault _ 1 [] hR
        have j2 : (rowsN L e).2.1 = (numsAt L j wRow e).2.1 := j2
        have j3 : (rowsN L e).2.2 = (numsAt L j wRow e).2.2 := j3
        simp only
        rw [j2, j3]
        rcases numsAt_line hne j wRow e (by omega) with k | k | ⟨k1, k2⟩
        · rw [← j3] at k; exact absurd k hR
        · exact .inl k
        · refine .inr ⟨j.toNat, by omega, ?_, fin _ (rows_short (by omega) (by omega) hN (by omega) (fun x x0 x1 => j4 x x0 (by omega)))⟩
          rw [show ((j.toNat : Nat) : Int) = j by omega]
          exact k2
    · rw [taA hN]
      rcases numsAt_line hne 0 wObject e (Int.le_refl _) with k | k | ⟨k1, k2⟩
      · exact absurd k hN
      · exact .inl k
      · exact .inr ⟨0, by omega, k2, fin 0 (take_nil e)⟩
  · have hT : (takeAll L e).2.2.2 = 0 := by omega
    obtain ⟨_, t1, t2, t3, t4, _⟩ := takeAll_ok hT
    by_cases hE : (evsOf L e).2.2 ≠ 0
    · have hc : caseP L e = (obj0, [], (evsOf L e).2.1, (evsOf L e).2.2) := by unfold caseP; rw [if_neg (by omega), if_pos hE]
      rw [hc]
      obtain ⟨m, m1, m2, m3⟩ := evsGo_fault (L.drop (takeAll L e).2.1.toNat) [] (fun r hr => hne r (List.mem_of_mem_drop hr)) hE
      rw [List.length_drop] at m1
      have m2 : hitP (gi (L.drop (takeAll L e).2.1.toNat) (m : Int)) (evsOf L e).2.1 (evsOf L e).2.2 := m2
      generalize hn : (takeAll L e).2.1.toNat = n at *
      refine .inr ⟨n + m, by omega, ?_, fun e' => .inl ?_⟩
      · have : gi (L.drop n) (m : Int) = gi L ((n + m : Nat) : Int) := by
          rw [gi_nat _ _ (by rw [List.length_drop]; omega), gi_nat _ _ (by omega)]
          simp
        rw [← this]
        exact m2
      · rw [caseP_ind e' e]
        have hsame : takeAll (L.take (n + m)) e = takeAll L e := by
          by_cases hN : (headN L e).2.2 = 0
          · by_cases hR : (rowsN L e).2.2 = 0
            · by_cases hC : (object_Check (objH (headN L e).1 (rowsN L e).1)).2 = 0
              · have hh := head_take (L := L) (e := e) (j := n + m) (by omega) (by omega)
                obtain ⟨l1, l2⟩ := rowsN_len hN hR
                have hn2 := hn
                rw [taD hN hR hC] at hn2
                have hn2 : (gi (headN L e).1 3 + 1).toNat = n := hn2
                have hr : rowsN (L.take (n + m)) e = rowsN L e := by
                  unfold rowsN
                  rw [hh]
                  exact rowsGo_same (by omega) _ 1 [] (by omega) (by omega)
                rw [taD hN hR hC, taD (by rw [hh]; exact hN) (by rw [hr]; exact hR) (by rw [hh, hr]; exact hC), hh, hr]
              · rw [taC hN hR hC] at hT; exact absurd hT hC
            · rw [taB hN hR] at hT; exact absurd hT hR
          · rw [taA hN] at hT; exact absurd hT hN
        have hev : (evsOf (L.take (n + m)) e).2.2 = 0 := by
          unfold evsOf
          rw [hsame, hn, show (L.take (n + m)).drop n = (L.drop n).take m by rw [List.drop_take]; congr 1; omega]
          exact m3
        unfold caseP
        rw [hsame, if_neg (by omega), if_neg (by omega)]
    · have hc : (caseP L e).2.2.2 = 0 := by unfold caseP; rw [if_neg (by omega), if_neg hE]
      exact absurd hc h
end Go.Proofs.YtcjldfbgccmpkaaDoor
