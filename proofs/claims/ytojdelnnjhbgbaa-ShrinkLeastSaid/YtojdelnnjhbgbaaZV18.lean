/- What is left, the least beginning, the least part: plain; laws 4, 5, 6. -/
import Derived.Test.YtojdelnnjhbgbaaZV17
set_option linter.all false
namespace Go.Proofs.Ytojdelnnjhbgbaa
open Go Go.Sv Go.Pu
theorem case_take {o : Api_Object} {l : List Api_Event} (h : caseE o l = 0) (k : Nat) : caseE o (l.take k) = 0 := by
  obtain ⟨h1, h2, h3⟩ := case_ok h
  obtain ⟨e1, e2⟩ := evs_ok h2
  have hc : (event_Check (l.take k)).2 = 0 := by
    unfold event_Check
    rw [if_neg (by rw [List.length_take]; omega)]
    refine evGo_zero _ _ _ (fun j j0 j1 => ?_)
    rw [List.length_take] at j1
    have hj : j < l.length := by omega
    obtain ⟨a, b⟩ := e2 j j0 hj
    have eg : gi (l.take k) j = gi l j := by
      rw [gi_cast j0 (by rw [List.length_take]; omega), gi_cast j0 hj, List.getElem_take]
    rw [eg, List.take_take, Nat.min_eq_left (by omega)]
    exact ⟨a, b⟩
  have hk : kindsGo (l.take k) ≤ kindsGo l := by
    have e : kindsGo l = (l.drop k).foldl (fun n x => if x.What = 1 then max n (min x.N 63 + 1) else n) (kindsGo (l.take k)) := by
      unfold kindsGo
      rw [← List.foldl_append, List.take_append_drop]
    rw [e]
    exact (kinds_ge _ _).1
  unfold caseE
  rw [if_neg (by omega), if_neg (by omega), if_neg (by omega)]
def some_ (o : Api_Object) (l : List Api_Event) : Bool := decide (linsOf o (opsOf l) ≠ [])
theorem lin_bad {o : Api_Object} {l : List Api_Event} (h : caseE o l ≠ 0) : shrink_Lin ⟨o, l⟩ = (false, caseE o l) := by
  have hh : histtext_Check ⟨o, l⟩ = caseE o l := rfl
  unfold shrink_Lin
  rw [hh, if_pos h]
theorem check_zero {o : Api_Object} {l : List Api_Event} (h : caseE o l = 0) (h10 : l.length ≤ 10) : search_check o (opsOf l) 20 = 0 := by
  obtain ⟨h1, h2, _⟩ := case_ok h
  have hops := ops_ok h2 l.length (Nat.le_refl _)
  rw [List.take_length] at hops
  have hcl := calls_len l
  have hc : callsN l ≤ l.length := by
    unfold callsN
    have := List.countP_le_length (p := fun x : Api_Event => x.What == 1) (l := l)
    omega
  have := ops_check hops (by omega)
  unfold search_check
  rw [if_neg (by omega), if_neg (by omega)]
theorem lin_good {o : Api_Object} {l : List Api_Event} (h : caseE o l = 0) (h10 : l.length ≤ 10) : shrink_Lin ⟨o, l⟩ = (some_ o l, 0) := by
  have hck := check_zero h h10
  have hof : oper_Of l = (opsOf l, 0) := by
    unfold oper_Of; rw [if_neg (by have := (case_ok h).2.1; omega)]
  unfold shrink_Lin
  dsimp only
  rw [if_neg (by show ¬ histtext_Check ⟨o, l⟩ ≠ 0; unfold histtext_Check; simp [h]), hof, if_neg (by simp)]
  unfold search_Lin some_
  dsimp only
  rcases search_cases o (opsOf l) with ⟨h1, _⟩ | ⟨_, hL, h2⟩ | ⟨x, L, _, hL, h2⟩
  · exact absurd hck h1
  · rw [h2, hL]; simp
  · rw [h2, hL]; simp
theorem some_take {o : Api_Object} {l : List Api_Event} (h : caseE o l = 0) {a b : Nat} (hab : a ≤ b) (hb : b ≤ l.length) (hs : some_ o (l.take b) = true) : some_ o (l.take a) = true :=
  decide_eq_true (lins_take (case_ok h).2.1 b hab hb (of_decide_eq_true hs))
theorem some_nil (o : Api_Object) : some_ o [] = true := by
  obtain ⟨L, e⟩ := lins_pending (o := o) (l := []) (fun i hi => by simp at hi)
  unfold some_
  rw [show opsOf [] = [] from rfl, e]; simp
theorem bs_least (f : Int → Bool) : ∀ (k : Nat) (i j : Int), 0 ≤ i → i ≤ j → j - i ≤ k → f j = true → (∀ a b, 0 ≤ a → a ≤ b → b ≤ j → f a = true → f b = true) → (∀ m, 0 ≤ m → m < i → f m = false) → f (bsGo f k i j) = true ∧ ∀ m, 0 ≤ m → m < bsGo f k i j → f m = false
  | 0, i, j, i0, ij, hk, hj, hm, hi => by
    rw [bsGo]
    obtain rfl : i = j := by omega
    exact ⟨hj, hi⟩
  | k + 1, i, j, i0, ij, hk, hj, hm, hi => by
    rw [bsGo]
    split
    · rename_i hlt
      split
      · rename_i hf
        refine bs_least f k _ j (by omega) (by omega) (by omega) hj hm (fun m m0 m1 => ?_)
        by_cases h : f m = true
        · have := hm m ((i + j) / 2) m0 (by omega) (by omega) h
          rw [hf] at this; cases this
        · simpa using h
      · rename_i hf
        exact bs_least f k i _ i0 (by omega) (by omega) (by simpa using hf) (fun a b a0 ab hb ha => hm a b a0 ab (by omega) ha) hi
    · obtain rfl : i = j := by omega
      exact ⟨hj, hi⟩
theorem asker_is {o : Api_Object} {l : List Api_Event} (h : caseE o l = 0) (h10 : l.length ≤ 10) (n : Int) : shrink_asker_1 n ⟨o, l⟩ = !some_ o (l.take n.toNat) := by
  unfold shrink_asker_1
  dsimp only
  rw [lin_good (case_take h _) (by rw [List.length_take]; omega)]
  rfl
theorem head_is {o : Api_Object} {l : List Api_Event} (h : caseE o l = 0) (h10 : l.length ≤ 10) (hs : some_ o l = false) : (shrink_Head ⟨o, l⟩).2 = 0 ∧ 1 ≤ (shrink_Head ⟨o, l⟩).1 ∧ (shrink_Head ⟨o, l⟩).1 ≤ l.length ∧ some_ o (l.take (shrink_Head ⟨o, l⟩).1.toNat) = false ∧ ∀ m : Nat, (m : Int) < (shrink_Head ⟨o, l⟩).1 → some_ o (l.take m) = true := by
  have hL := lin_good h h10
  rw [hs] at hL
  have hH : shrink_Head ⟨o, l⟩ = (bsGo (fun i => shrink_asker_1 i ⟨o, l⟩) l.length 0 l.length, 0) := by
    unfold shrink_Head
    rw [hL, if_neg (by simp), if_neg (by simp)]
    unfold sort_Search_shrink_asker_1
    rw [show ((l.length : Nat) : Int).toNat = l.length by omega]
  rw [hH]
  have hA : (fun i => shrink_asker_1 i ⟨o, l⟩) = fun i : Int => !some_ o (l.take i.toNat) := funext (asker_is h h10)
  have hr := bs_range (fun i => shrink_asker_1 i ⟨o, l⟩) l.length 0 l.length (by omega)
  rw [hA] at hr ⊢
  obtain ⟨b1, b2⟩ := bs_least (fun i : Int => !some_ o (l.take i.toNat)) l.length 0 l.length (by omega) (by omega) (by omega) (by
    rw [show ((l.length : Nat) : Int).toNat = l.length by omega, List.take_length, hs]; rfl) (fun a b a0 ab hb ha => by
    rw [Bool.not_eq_true'] at ha ⊢
    by_cases hh : some_ o (l.take b.toNat) = true
    · rw [some_take h (a := a.toNat) (b := b.toNat) (by omega) (by omega) hh] at ha; cases ha
    · simpa using hh) (fun m m0 m1 => by omega)
  generalize bsGo (fun i : Int => !some_ o (l.take i.toNat)) l.length 0 l.length = r at *
  dsimp only at b1 b2 ⊢
  rw [Bool.not_eq_true'] at b1
  refine ⟨rfl, ?_, hr.2, b1, fun m hm => ?_⟩
  · by_cases e : r = 0
    · subst e
      rw [show (0 : Int).toNat = 0 from rfl, List.take_zero, some_nil] at b1; cases b1
    · omega
  · have := b2 m (by omega) hm
    rw [Bool.not_eq_false', show ((m : Nat) : Int).toNat = m by omega] at this
    exact this
theorem head_bad {o : Api_Object} {l : List Api_Event} (h : caseE o l ≠ 0) : shrink_Head ⟨o, l⟩ = (0, caseE o l) := by
  unfold shrink_Head
  rw [lin_bad h, if_pos h]
theorem head_miss {o : Api_Object} {l : List Api_Event} (h : caseE o l = 0) (h10 : l.length ≤ 10) (hs : some_ o l = true) : shrink_Head ⟨o, l⟩ = (0, 41) := by
  unfold shrink_Head
  rw [lin_good h h10, hs, if_neg (by simp), if_pos rfl]
theorem few_len {o : Api_Object} {l : List Api_Event} (h : law41_few o l = true) : l.length ≤ 10 ∧ o.Rows.length ≤ 1000000 := by
  unfold law41_few law23_Few at h
  rw [Bool.and_eq_true, decide_eq_true_eq, decide_eq_true_eq] at h
  omega
theorem case_err {o : Api_Object} {l : List Api_Event} : caseE o l ≠ 41 := by
  have hrow : ∀ i, rowErr o i ≠ 41 := fun i => by unfold rowErr; (repeat' split) <;> decide
  have hg : ∀ (f i : Nat), (rowsGo o f i).2 ≠ 41 := fun f => by
    induction f with
    | zero => intro i; rw [rowsGo]; exact (by decide : (0 : Int) ≠ 41)
    | succ f ih =>
      intro i
      rw [rowsGo]
      split
      · exact hrow _
      · exact ih _
  have ho : (object_Check o).2 ≠ 41 := by
    unfold object_Check ref23_Check
    split
    · decide
    · exact hg _ _
  have hev : ∀ x, evE x ≠ 41 := fun x => by unfold evE; (repeat' split) <;> decide
  have hgo : ∀ (f : Nat) (i : Int), (evGo l f i).2 ≠ 41 := fun f => by
    induction f with
    | zero => intro i; rw [evGo]; exact (by decide : (0 : Int) ≠ 41)
    | succ f ih =>
      intro i
      rw [evGo]
      split
      · exact hev _
      · split
        · exact (by decide : (33 : Int) ≠ 41)
        · exact ih _
  have he : (event_Check l).2 ≠ 41 := by
    unfold event_Check
    split
    · decide
    · exact hgo _ _
  unfold caseE
  split
  · exact ho
  · split
    · exact he
    · split <;> decide
theorem v5 {A B C : Prop} (o : Api_Object) (l : List Api_Event) (k : Int) (ho : (inR .i64 o.States ∧ inR .i64 o.Kinds ∧ A)) (_ : B) (_ : C) : VC5 o l k (fun r => r = true) := by
  have hO : preO o := ⟨ho.1, ho.2.1⟩
  intro _ _
  rintro _ rfl
  refine ⟨fun _ => by rintro _ rfl; rfl, fun h => ?_⟩
  simp only [Bool.or_eq_false_iff, Bool.not_eq_false', decide_eq_false_iff_not] at h
  obtain ⟨⟨hf, k0⟩, k1⟩ := h
  obtain ⟨h10, _⟩ := few_len hf
  refine ⟨hO, ?_⟩
  rintro _ rfl
  refine ⟨⟨by omega, by omega⟩, hO, ?_⟩
  rintro _ rfl
  by_cases hc : caseE o l = 0
  · have hL := lin_good (case_take hc k.toNat) (by rw [List.length_take]; omega)
    rw [hL]
    cases hs : some_ o l with
    | true =>
      rw [head_miss hc h10 hs]
      refine ⟨fun _ => ⟨fun _ => by rintro _ rfl; rfl, fun h => ?_⟩, fun h => by cases h⟩
      exfalso
      have := some_take hc (a := k.toNat) (b := l.length) (by omega) (Nat.le_refl _) (by rw [List.take_length]; exact hs)
      rw [this] at h; cases h
    | false =>
      obtain ⟨g1, g2, g3, g4, g5⟩ := head_is hc h10 hs
      refine ⟨fun h => ?_, fun _ => ⟨fun h => ?_, fun _ => ⟨fun _ => by rintro _ rfl; rfl, fun h => ?_⟩⟩⟩
      · exfalso; rw [g1] at h; cases h
      · exfalso; rw [g1] at h; cases h
      · exfalso
        have e : some_ o (l.take k.toNat) = decide (k < (shrink_Head ⟨o, l⟩).1) := by
          by_cases hk : k < (shrink_Head ⟨o, l⟩).1
          · rw [decide_eq_true hk]; exact g5 k.toNat (by omega)
          · rw [decide_eq_false hk]
            by_cases hh : some_ o (l.take k.toNat) = true
            · rw [some_take hc (a := (shrink_Head ⟨o, l⟩).1.toNat) (b := k.toNat) (by omega) (by omega) hh] at g4; cases g4
            · simpa using hh
        dsimp only at h
        rw [e, decide_eq_true (show (shrink_Head ⟨o, l⟩).1 ≥ 1 from g2), decide_eq_true g3] at h
        simp at h
  · rw [head_bad hc]
    refine ⟨fun h => ?_, fun _ => ⟨fun _ => ⟨fun _ => by rintro _ rfl; rfl, fun h => by cases h⟩, fun h => ?_⟩⟩
    · exfalso; exact case_err (by simpa using h)
    · exfalso; exact hc (by simpa using h)
structure LeastOk (o : Api_Object) (l out : List Api_Event) : Prop where
  ok : caseE o out = 0
  no : some_ o out = false
  less : ∀ m : Nat, m < out.length → some_ o (out.take m) = true
  sub : out.Sublist l
end Go.Proofs.Ytojdelnnjhbgbaa
