/- The document's orders, and all linearizations by them. -/
import Derived.Test.YtojdelnnjhbgbaaZV9
set_option linter.all false
namespace Go.Proofs.Ytojdelnnjhbgbaa
open Go Go.Sv Go.Pu
theorem lessP_cons (a b : Api_Pick) (x y : List Api_Pick) : lessP (a :: x) (b :: y) = if a.Oper ≠ b.Oper then decide (a.Oper < b.Oper) else lessP x y := rfl
def lev (n : Nat) : Nat → List (List Int)
 | 0 => [[]]
 | k + 1 => grow n (lev n k)
theorem lev_small : ((List.range 6).all fun n => (List.range 8).all fun k => decide ((lev n k).length ≤ 1000) && (lev n k).all fun x => decide (x.length ≤ 10)) = true := by decide +kernel
theorem lev_end : ((List.range 6).all fun n => decide (lev n (n + 1) = [])) = true := by decide +kernel
theorem lev_le {n k : Nat} (hn : n ≤ 5) (hk : k ≤ 7) : (lev n k).length ≤ 1000 ∧ ∀ x ∈ lev n k, x.length ≤ 10 := by
 have h := lev_small
 rw [List.all_eq_true] at h
 have h := h n (List.mem_range.2 (by omega))
 rw [List.all_eq_true] at h
 have h := h k (List.mem_range.2 (by omega))
 rw [Bool.and_eq_true, decide_eq_true_eq, List.all_eq_true] at h
 exact ⟨h.1, fun x hx => of_decide_eq_true (h.2 x hx)⟩
theorem lev_nil {n : Nat} (hn : n ≤ 5) : lev n (n + 1) = [] := by
 have h := lev_end
 rw [List.all_eq_true] at h
 exact of_decide_eq_true (h n (List.mem_range.2 (by omega)))
def rowTo (x : List Int) (k : Nat) : List (List Int) := ((List.range k).filter fun k : Nat => !decide ((k : Int) ∈ x)).map fun k : Nat => x ++ [(k : Int)]
theorem rowTo_succ (x : List Int) (k : Nat) : rowTo x (k + 1) = rowTo x k ++ (if decide ((k : Int) ∈ x) then [] else [x ++ [(k : Int)]]) := by
 unfold rowTo
 rw [List.range_succ, List.filter_append, List.map_append]
 congr 1
 by_cases h : (k : Int) ∈ x
 ·simp [h]
 ·simp [h]
theorem rowTo_le (x : List Int) (k : Nat) : (rowTo x k).length ≤ k := by
 unfold rowTo
 rw [List.length_map]
 exact Nat.le_trans (List.length_filter_le _ _) (by simp)
theorem flat_le {α β : Type} {f : α → List β} {c : Nat} (h : ∀ x, (f x).length ≤ c) : ∀ L : List α, (L.flatMap f).length ≤ L.length * c
 | [] => by simp
 | x :: L => by
  have := flat_le h L
  have := h x
  rw [List.flatMap_cons, List.length_append, List.length_cons, Nat.add_mul]
  omega
theorem grow_row (n : Nat) (L : List (List Int)) : grow (n : Int) L = L.flatMap fun x => rowTo x n := rfl
theorem v45 (n : Int) (hp : preOr n) : VC45 n (fun r => r = ref30_Orders n) := by
 obtain ⟨n0, n5⟩ := hp
 obtain ⟨m, rfl⟩ := Int.eq_ofNat_of_zero_le n0
 have hO : ref30_Orders (m : Int) = [[]] ++ ordersGo m (m + 1) [[]] := rfl
 rw [hO]
 generalize hR : [[]] ++ ordersGo (m : Int) (m + 1) [[]] = R
 refine ⟨fun out last => ∃ k : Nat, k ≤ m + 1 ∧ last = lev m k ∧ out.length ≤ 1 + 1000 * k ∧ out ++ ordersGo m (m + 1 - k) last = R, fun out last => 2 * (10000 - out.length) + (if last = [] then 0 else 1), ⟨0, by omega, rfl, by simp, by simpa using hR⟩, ?_⟩
 rintro out last ⟨k, hk, hla, hol, hgo⟩
 obtain ⟨L1, L2⟩ := lev_le (n := m) (k := k) (by omega) (by omega)
 rw [← hla] at L1 L2
 refine ⟨fun h => ?_, fun h => ?_⟩
 ·have h := of_decide_eq_true h
  have hne : last ≠ [] := by rintro rfl; simp at h
  have hkm : k ≤ m := by
   apply Classical.byContradiction
   intro hh
   have : k = m + 1 := by omega
   subst this
   rw [lev_nil (by omega)] at hla
   exact hne hla
  refine ⟨fun o' next i => out = o' ∧ 0 ≤ i ∧ i ≤ last.length ∧ next = (last.take i.toNat).flatMap fun x => rowTo x m, fun _ _ i => (last.length - i).toNat, ⟨rfl, by omega, by omega, by simp⟩, ?_⟩
  rintro _ next i ⟨rfl, i0, i1, hnext⟩
  refine ⟨fun hi => ?_, fun hi => ?_⟩
  ·have hi := of_decide_eq_true hi
   have hfl := flat_le (f := fun x => rowTo x m) (c := 5) (fun x => Nat.le_trans (rowTo_le x m) (by omega)) (last.take i.toNat)
   rw [List.length_take] at hfl
   have hx10 := L2 _ (mem_gi i0 hi)
   have htk := take_gi i0 hi
   generalize hxx : gi last i = x at *
   refine ⟨fun o' nx k2 => out = o' ∧ 0 ≤ k2 ∧ k2 ≤ m ∧ nx = ((last.take i.toNat).flatMap fun x => rowTo x m) ++ rowTo x k2.toNat, fun _ _ k2 => (m - k2).toNat, ⟨rfl, by omega, by omega, by rw [hnext]; simp [rowTo]⟩, ?_⟩
   rintro _ nx k2 ⟨rfl, k0, k1, hnx⟩
   refine ⟨fun hk2 => ?_, fun hk2 => ?_⟩
   ·have hk2 := of_decide_eq_true hk2
    refine ⟨fun o' n2 had j => out = o' ∧ nx = n2 ∧ 0 ≤ j ∧ j ≤ x.length ∧ had = decide (k2 ∈ x.take j.toNat), fun _ _ _ j => (x.length - j).toNat, ⟨rfl, rfl, by omega, by omega, by simp⟩, ?_⟩
    rintro _ _ had j ⟨rfl, rfl, j0, j1, hhad⟩
    refine ⟨⟨i0, hi⟩, ?_⟩
    intro _
    refine ⟨fun hj => ?_, fun hj => ?_⟩
    ·have hj := of_decide_eq_true hj
     have htj := take_gi j0 hj
     have em : decide (k2 ∈ x.take (j + 1).toNat) = (had || gi x j == k2) := by
      rw [htj, hhad, Bool.eq_iff_iff]
      simp only [List.mem_append, List.mem_singleton, decide_eq_true_eq, Bool.or_eq_true, beq_iff_eq]
      constructor
      ·rintro (h | h)
       ·exact .inl h
       ·exact .inr h.symm
      ·rintro (h | h)
       ·exact .inl h
       ·exact .inr h.symm
     unfold VC45_J6
     rw [wrp (by omega) (by omega)]
     refine ⟨fun hb => ?_, fun hb => ⟨⟨i0, hi⟩, fun _ => ⟨⟨j0, hj⟩, ?_⟩⟩⟩
     ·exact ⟨⟨rfl, rfl, by omega, by omega, by rw [em, hb]; rfl⟩, by first | omega | (dsimp only; omega)⟩
     ·exact ⟨⟨rfl, rfl, by omega, by omega, by rw [em, hb]; rfl⟩, by first | omega | (dsimp only; omega)⟩
    ·have hj := of_decide_eq_false hj
     rw [List.take_of_length_le (by omega)] at hhad
     obtain ⟨q, rfl⟩ := Int.eq_ofNat_of_zero_le k0
     have hrs := rowTo_succ x q
     have hrl := rowTo_le x q
     rw [show ((q : Nat) : Int).toNat = q by omega] at hnx
     have hnl : nx.length ≤ 10000 := by rw [hnx, List.length_append]; omega
     unfold VC45_J5 VC45_J4
     simp only [hxx]
     rw [wrp (by omega) (by omega)]
     refine ⟨fun hb => ⟨⟨i0, hi⟩, fun _ => ⟨by simp; omega, by simp; omega, by simp; omega, ?_⟩⟩, fun hb => ?_⟩
     ·rw [Bool.not_eq_true'] at hb
      rw [hb] at hhad
      rw [← hhad, if_neg (by simp)] at hrs
      exact ⟨⟨trivial, by omega, by omega, by rw [show (((q : Nat) : Int) + 1).toNat = q + 1 by omega, hrs, hnx]; simp⟩, by first | omega | (dsimp only; omega)⟩
     ·rw [Bool.not_eq_false'] at hb
      rw [hb] at hhad
      rw [← hhad, if_pos rfl, List.append_nil] at hrs
      exact ⟨⟨trivial, by omega, by omega, by rw [show (((q : Nat) : Int) + 1).toNat = q + 1 by omega, hrs, hnx]⟩, by first | omega | (dsimp only; omega)⟩
   ·have hk2 := of_decide_eq_false hk2
    have : k2.toNat = m := by omega
    unfold VC45_J3
    rw [wrp (by omega) (by omega)]
    exact ⟨⟨rfl, by omega, by omega, by rw [htk, hnx, this]; simp⟩, by first | omega | (dsimp only; omega)⟩
  ·have hi := of_decide_eq_false hi
   have e : i.toNat = last.length := by omega
   rw [e, List.take_length, ← grow_row] at hnext
   have hlv : next = lev m (k + 1) := by rw [hnext, hla]; rfl
   obtain ⟨M1, _⟩ := lev_le (n := m) (k := k + 1) (by omega) (by omega)
   rw [← hlv] at M1
   have hgo2 : ordersGo (m : Int) (m + 1 - k) last = next ++ ordersGo m (m + 1 - (k + 1)) next := by
    rw [show m + 1 - k = (m + 1 - (k + 1)) + 1 by omega]
    show (if last = [] then [] else _) = _
    rw [if_neg hne, hnext]
   unfold VC45_J2
   refine ⟨by omega, ⟨k + 1, by omega, hlv, by rw [List.length_append]; omega, by rw [List.append_assoc, ← hgo2]; exact hgo⟩, ?_⟩
   dsimp only
   rw [List.length_append, if_neg hne]
   by_cases hnn : next = []
   ·rw [if_pos hnn, hnn]; simp
   ·rw [if_neg hnn]
    have : 0 < next.length := List.length_pos_iff.2 hnn
    omega
 ·have h := of_decide_eq_false h
  have : last = [] := List.length_eq_zero_iff.1 (by omega)
  rw [this] at hgo
  unfold VC45_J1
  rw [← hgo]
  have : ∀ f, ordersGo (m : Int) f [] = [] := fun f => by cases f <;> simp [ordersGo]
  rw [this, List.append_nil]
theorem orders_small : ((List.range 6).all fun n => decide ((ref30_Orders (n : Int)).length ≤ 1000) && (ref30_Orders (n : Int)).all fun x => decide (x.length ≤ 10)) = true := by decide +kernel
theorem orders_le {n : Nat} (hn : n ≤ 5) : (ref30_Orders (n : Int)).length ≤ 1000 ∧ ∀ x ∈ ref30_Orders (n : Int), x.length ≤ 10 := by
 have h := orders_small
 rw [List.all_eq_true] at h
 have h := h n (List.mem_range.2 (by omega))
 rw [Bool.and_eq_true, decide_eq_true_eq, List.all_eq_true] at h
 exact ⟨h.1, fun x hx => of_decide_eq_true (h.2 x hx)⟩
theorem v29 (o : Api_Object) (l : List Api_Oper) (hp : preAA o l) : VC29 o l (fun r => r = ref30_All o l) := by
 have hp : l.length ≤ 5 := hp
 intro _ _
 refine ⟨⟨by omega, by omega⟩, ?_⟩
 rintro _ rfl
 intro _
 obtain ⟨q1, q2⟩ := orders_le hp
 unfold ref30_All
 generalize ref30_Orders (l.length : Int) = R at *
 refine ⟨fun out i => 0 ≤ i ∧ i ≤ R.length ∧ out = (R.take i.toNat).filterMap (linOf o l), fun _ i => (R.length - i).toNat, ⟨by omega, by omega, by simp⟩, ?_⟩
 rintro out i ⟨i0, i1, ho⟩
 refine ⟨fun hi => ?_, fun hi => ?_⟩
 ·have hi := of_decide_eq_true hi
  have hx := q2 _ (mem_gi i0 hi)
  have htk := take_gi i0 hi
  have hol : out.length ≤ 1000 := by
   rw [ho]; refine Nat.le_trans (List.length_filterMap_le _ _) ?_
   rw [List.length_take]; omega
  refine ⟨⟨i0, hi⟩, fun _ => ⟨by show (gi R i).length ≤ 1000000; omega, ?_⟩⟩
  rintro _ rfl
  intro _
  have fin : ∀ b, b = decide ((ref28_Fill o l (gi R i)).2 = 0 ∧ ref29_Lin o l (ref28_Fill o l (gi R i)).1 = true) → VC29_J3 (fun out i => 0 ≤ i ∧ i ≤ R.length ∧ out = (R.take i.toNat).filterMap (linOf o l)) (fun _ i => (R.length - i).toNat) out i (ref28_Fill o l (gi R i)) out b := by
   intro b hb
   unfold VC29_J3 VC29_J2
   rw [wrp (by omega) (by omega)]
   refine ⟨fun h => ⟨by simp; omega, ⟨by omega, by omega, ?_⟩, by first | omega | (dsimp only; omega)⟩, fun h => ⟨⟨by omega, by omega, ?_⟩, by first | omega | (dsimp only; omega)⟩⟩
   ·rw [h] at hb
    have hb := of_decide_eq_true hb.symm
    have e : linOf o l (gi R i) = some (ref28_Fill o l (gi R i)).1 := by unfold linOf; rw [if_pos hb]
    rw [htk, List.filterMap_append, ho]
    congr 1
    rw [List.filterMap_cons_some e]; rfl
   ·rw [h] at hb
    have hb := of_decide_eq_false hb.symm
    have e : linOf o l (gi R i) = none := by unfold linOf; rw [if_neg hb]
    rw [htk, List.filterMap_append, ho, List.filterMap_cons_none e]; simp
  refine ⟨fun h => ?_, fun h => ?_⟩
  ·rintro _ rfl
   refine fin _ ?_
   have h : (ref28_Fill o l (gi R i)).2 = 0 := by simpa using h
   simp [h]
  ·refine fin _ ?_
   have h : ¬ (ref28_Fill o l (gi R i)).2 = 0 := by simpa using h
   simp [h]
 ·have hi := of_decide_eq_false hi
  rw [List.take_of_length_le (by omega)] at ho
  exact ho
end Go.Proofs.Ytojdelnnjhbgbaa
