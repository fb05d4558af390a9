/- What is left, the least beginning, the least part: plain; laws 4, 5, 6. -/
import Derived.Test.YtojdelnnjhbgbaaZV17
set_option linter.all false
namespace Go.Proofs.Ytojdelnnjhbgbaa
open Go Go.Sv Go.Pu
theorem case_take {o : Api_Object} {l : List Api_Event} (h : caseE o l = 0) (k : Nat) : caseE o (l.take k) = 0 := by
 obtain ⟨h1, h2, h3⟩ := case_ok h
 obtain ⟨e1, e2⟩ := evs_ok h2
 have hc : (event_Check (l.take k)).2 = 0 := by
  unfold event_Check
  rw [if_neg (by rw [List.length_take]; omega)]
  refine evGo_zero _ _ _ (fun j j0 j1 => ?_)
  rw [List.length_take] at j1
  have hj : j < l.length := by omega
  obtain ⟨a, b⟩ := e2 j j0 hj
  have eg : gi (l.take k) j = gi l j := by
   rw [gi_cast j0 (by rw [List.length_take]; omega), gi_cast j0 hj, List.getElem_take]
  rw [eg, List.take_take, Nat.min_eq_left (by omega)]
  exact ⟨a, b⟩
 have hk : kindsGo (l.take k) ≤ kindsGo l := by
  have e : kindsGo l = (l.drop k).foldl (fun n x => if x.What = 1 then max n (min x.N 63 + 1) else n) (kindsGo (l.take k)) := by
   unfold kindsGo
   rw [← List.foldl_append, List.take_append_drop]
  rw [e]
  exact (kinds_ge _ _).1
 unfold caseE
 rw [if_neg (by omega), if_neg (by omega), if_neg (by omega)]
def some_ (o : Api_Object) (l : List Api_Event) : Bool := decide (linsOf o (opsOf l) ≠ [])
theorem lin_bad {o : Api_Object} {l : List Api_Event} (h : caseE o l ≠ 0) : shrink_Lin ⟨o, l⟩ = (false, caseE o l) := by
 have hh : histtext_Check ⟨o, l⟩ = caseE o l := rfl
 unfold shrink_Lin
 rw [hh, if_pos h]
theorem check_zero {o : Api_Object} {l : List Api_Event} (h : caseE o l = 0) (h10 : l.length ≤ 10) : search_check o (opsOf l) 20 = 0 := by
 obtain ⟨h1, h2, _⟩ := case_ok h
 have hops := ops_ok h2 l.length (Nat.le_refl _)
 rw [List.take_length] at hops
 have hcl := calls_len l
 have hc : callsN l ≤ l.length := by
  unfold callsN
  have := List.countP_le_length (p := fun x : Api_Event => x.What == 1) (l := l)
  omega
 have := ops_check hops (by omega)
 unfold search_check
 rw [if_neg (by omega), if_neg (by omega)]
theorem lin_good {o : Api_Object} {l : List Api_Event} (h : caseE o l = 0) (h10 : l.length ≤ 10) : shrink_Lin ⟨o, l⟩ = (some_ o l, 0) := by
 have hck := check_zero h h10
 have hof : oper_Of l = (opsOf l, 0) := by
  unfold oper_Of; rw [if_neg (by have := (case_ok h).2.1; omega)]
 unfold shrink_Lin
 dsimp only
 rw [if_neg (by show ¬ histtext_Check ⟨o, l⟩ ≠ 0; unfold histtext_Check; simp [h]), hof, if_neg (by simp)]
 unfold search_Lin some_
 dsimp only
 rcases search_cases o (opsOf l) with ⟨h1, _⟩ | ⟨_, hL, h2⟩ | ⟨x, L, _, hL, h2⟩
 ·exact absurd hck h1
 ·rw [h2, hL]; simp
 ·rw [h2, hL]; simp
theorem some_take {o : Api_Object} {l : List Api_Event} (h : caseE o l = 0) {a b : Nat} (hab : a ≤ b) (hb : b ≤ l.length) (hs : some_ o (l.take b) = true) : some_ o (l.take a) = true :=
 decide_eq_true (lins_take (case_ok h).2.1 b hab hb (of_decide_eq_true hs))
theorem some_nil (o : Api_Object) : some_ o [] = true := by
 obtain ⟨L, e⟩ := lins_pending (o := o) (l := []) (fun i hi => by simp at hi)
 unfold some_
 rw [show opsOf [] = [] from rfl, e]; simp
theorem bs_least (f : Int → Bool) : ∀ (k : Nat) (i j : Int), 0 ≤ i → i ≤ j → j - i ≤ k → f j = true → (∀ a b, 0 ≤ a → a ≤ b → b ≤ j → f a = true → f b = true) → (∀ m, 0 ≤ m → m < i → f m = false) → f (bsGo f k i j) = true ∧ ∀ m, 0 ≤ m → m < bsGo f k i j → f m = false
 | 0, i, j, i0, ij, hk, hj, hm, hi => by
  rw [bsGo]
  obtain rfl : i = j := by omega
  exact ⟨hj, hi⟩
 | k + 1, i, j, i0, ij, hk, hj, hm, hi => by
  rw [bsGo]
  split
  ·rename_i hlt
   split
   ·rename_i hf
    refine bs_least f k _ j (by omega) (by omega) (by omega) hj hm (fun m m0 m1 => ?_)
    by_cases h : f m = true
    ·have := hm m ((i + j) / 2) m0 (by omega) (by omega) h
     rw [hf] at this; cases this
    ·simpa using h
   ·rename_i hf
    exact bs_least f k i _ i0 (by omega) (by omega) (by simpa using hf) (fun a b a0 ab hb ha => hm a b a0 ab (by omega) ha) hi
  ·obtain rfl : i = j := by omega
   exact ⟨hj, hi⟩
theorem asker_is {o : Api_Object} {l : List Api_Event} (h : caseE o l = 0) (h10 : l.length ≤ 10) (n : Int) : shrink_asker_1 n ⟨o, l⟩ = !some_ o (l.take n.toNat) := by
 unfold shrink_asker_1
 dsimp only
 rw [lin_good (case_take h _) (by rw [List.length_take]; omega)]
 rfl
theorem head_is {o : Api_Object} {l : List Api_Event} (h : caseE o l = 0) (h10 : l.length ≤ 10) (hs : some_ o l = false) : (shrink_Head ⟨o, l⟩).2 = 0 ∧ 1 ≤ (shrink_Head ⟨o, l⟩).1 ∧ (shrink_Head ⟨o, l⟩).1 ≤ l.length ∧ some_ o (l.take (shrink_Head ⟨o, l⟩).1.toNat) = false ∧ ∀ m : Nat, (m : Int) < (shrink_Head ⟨o, l⟩).1 → some_ o (l.take m) = true := by
 have hL := lin_good h h10
 rw [hs] at hL
 have hH : shrink_Head ⟨o, l⟩ = (bsGo (fun i => shrink_asker_1 i ⟨o, l⟩) l.length 0 l.length, 0) := by
  unfold shrink_Head
  rw [hL, if_neg (by simp), if_neg (by simp)]
  unfold sort_Search_shrink_asker_1
  rw [show ((l.length : Nat) : Int).toNat = l.length by omega]
 rw [hH]
 have hA : (fun i => shrink_asker_1 i ⟨o, l⟩) = fun i : Int => !some_ o (l.take i.toNat) := funext (asker_is h h10)
 have hr := bs_range (fun i => shrink_asker_1 i ⟨o, l⟩) l.length 0 l.length (by omega)
 rw [hA] at hr ⊢
 obtain ⟨b1, b2⟩ := bs_least (fun i : Int => !some_ o (l.take i.toNat)) l.length 0 l.length (by omega) (by omega) (by omega) (by
  rw [show ((l.length : Nat) : Int).toNat = l.length by omega, List.take_length, hs]; rfl) (fun a b a0 ab hb ha => by
  rw [Bool.not_eq_true'] at ha ⊢
  by_cases hh : some_ o (l.take b.toNat) = true
  ·rw [some_take h (a := a.toNat) (b := b.toNat) (by omega) (by omega) hh] at ha; cases ha
  ·simpa using hh) (fun m m0 m1 => by omega)
 generalize bsGo (fun i : Int => !some_ o (l.take i.toNat)) l.length 0 l.length = r at *
 dsimp only at b1 b2 ⊢
 rw [Bool.not_eq_true'] at b1
 refine ⟨rfl, ?_, hr.2, b1, fun m hm => ?_⟩
 ·by_cases e : r = 0
  ·subst e
   rw [show (0 : Int).toNat = 0 from rfl, List.take_zero, some_nil] at b1; cases b1
  ·omega
 ·have := b2 m (by omega) hm
  rw [Bool.not_eq_false', show ((m : Nat) : Int).toNat = m by omega] at this
  exact this
theorem head_bad {o : Api_Object} {l : List Api_Event} (h : caseE o l ≠ 0) : shrink_Head ⟨o, l⟩ = (0, caseE o l) := by
 unfold shrink_Head
 rw [lin_bad h, if_pos h]
theorem head_miss {o : Api_Object} {l : List Api_Event} (h : caseE o l = 0) (h10 : l.length ≤ 10) (hs : some_ o l = true) : shrink_Head ⟨o, l⟩ = (0, 41) := by
 unfold shrink_Head
 rw [lin_good h h10, hs, if_neg (by simp), if_pos rfl]
theorem few_len {o : Api_Object} {l : List Api_Event} (h : law41_few o l = true) : l.length ≤ 10 ∧ o.Rows.length ≤ 1000000 := by
 unfold law41_few law23_Few at h
 rw [Bool.and_eq_true, decide_eq_true_eq, decide_eq_true_eq] at h
 omega
structure LeastOk (o : Api_Object) (l out : List Api_Event) : Prop where
 ok : caseE o out = 0
 no : some_ o out = false
 less : ∀ m : Nat, m < out.length → some_ o (out.take m) = true
 sub : out.Sublist l
theorem least_head {o : Api_Object} {l out : List Api_Event} (hs : out.Sublist l) (h10 : out.length ≤ 10) (h : (shrink_Head ⟨o, out⟩).2 = 0) : LeastOk o l (out.take (shrink_Head ⟨o, out⟩).1.toNat) := by
 by_cases hc : caseE o out = 0
 ·cases hso : some_ o out with
  | true => rw [head_miss hc h10 hso] at h; cases h
  | false =>
   obtain ⟨g1, g2, g3, g4, g5⟩ := head_is hc h10 hso
   refine ⟨case_take hc _, g4, fun m hm => ?_, (List.take_sublist _ _).trans hs⟩
   rw [List.length_take] at hm
   rw [List.take_take, Nat.min_eq_left (by omega)]
   exact g5 m (by omega)
 ·rw [head_bad hc] at h; exact absurd h hc
theorem least_go {o : Api_Object} {l : List Api_Event} (h10 : l.length ≤ 10) : ∀ (i : Nat) (out : List Api_Event), LeastOk o l out → LeastOk o l (partGo o i out)
 | 0, out, h => h
 | i + 1, out, h => by
  rw [partGo]
  refine least_go h10 i _ ?_
  split
  ·rename_i hh
   have hs := (wo_sub [(i : Int)] out 0 []).trans h.sub
   exact least_head hs (by have := hs.length_le; exact Nat.le_trans this h10) hh
  ·exact h
theorem v6 {A B : Prop} (o : Api_Object) (l : List Api_Event) (ho : (inR .i64 o.States ∧ inR .i64 o.Kinds ∧ A)) (_ : B) : VC6 o l (fun r => r = true) := by
 have hO : preO o := ⟨ho.1, ho.2.1⟩
 intro _ _
 rintro _ rfl
 refine ⟨fun _ => by rintro _ rfl; rfl, fun h => ?_⟩
 obtain ⟨h10, hrl⟩ := few_len (by simpa using h)
 refine ⟨⟨hO, hrl, by show l.length ≤ 1000000; omega⟩, ?_⟩
 rintro _ rfl _ _
 by_cases hh : (shrink_Head ⟨o, l⟩).2 = 0
 ·have hP : shrink_Part ⟨o, l⟩ = (⟨o, partGo o (oper_Of (headEv ⟨o, l⟩)).1.length (headEv ⟨o, l⟩)⟩, 0) := by
   unfold shrink_Part; rw [if_neg (by omega)]
  have H := least_go (o := o) h10 (oper_Of (headEv ⟨o, l⟩)).1.length (headEv ⟨o, l⟩) (least_head (List.Sublist.refl l) h10 hh)
  rw [hP]
  generalize partGo o (oper_Of (headEv ⟨o, l⟩)).1.length (headEv ⟨o, l⟩) = E at H
  have hEl := H.sub.length_le
  have hne : 0 < E.length := by
   apply Nat.pos_of_ne_zero
   intro e
   have := H.no
   rw [List.length_eq_zero_iff.1 e, some_nil] at this; cases this
  refine ⟨fun h => by simp at h, fun _ => ⟨hO, ?_⟩⟩
  rintro _ rfl
  have hLin := lin_good H.ok (by omega)
  rw [H.no] at hLin
  refine ⟨fun h => ?_, fun _ => ?_⟩
  ·exfalso
   dsimp only at h
   rw [hLin] at h
   simp at h
   rw [h] at hne; simp at hne
  ·dsimp only
   refine ⟨fun k i => ∃ a b : Nat, k = (a : Int) ∧ i = (b : Int) ∧ a ≤ E.length ∧ b ≤ l.length ∧ (E.drop a).Sublist (l.drop b), fun _ i => (l.length - i).toNat, ⟨0, 0, rfl, rfl, by omega, by omega, H.sub⟩, ?_⟩
   rintro _ _ ⟨a, b, rfl, rfl, ha, hb, hsub⟩
   refine ⟨fun hi => ?_, fun hi => ?_⟩
   ·rw [Bool.and_eq_true, decide_eq_true_eq, decide_eq_true_eq] at hi
    have ha2 : a < E.length := by omega
    have hb2 : b < l.length := by omega
    rw [drop_gi ha2, drop_gi hb2] at hsub
    refine ⟨⟨by omega, by omega⟩, ⟨by omega, by omega⟩, fun he => ?_, fun he => ?_⟩
    ·have he : gi l (b : Int) = gi E (a : Int) := by
      generalize gi l (b : Int) = x at *
      generalize gi E (a : Int) = y at *
      cases x; cases y
      simp at he
      simp [he]
     rw [he] at hsub
     unfold VC6_J2
     rw [wrp (by omega) (by omega), wrp (by omega) (by omega)]
     exact ⟨⟨a + 1, b + 1, by push_cast; rfl, by push_cast; rfl, by omega, by omega, List.cons_sublist_cons.1 hsub⟩, by first | omega | (dsimp only; omega)⟩
    ·have he : gi l (b : Int) ≠ gi E (a : Int) := by
      intro e; rw [e] at he; simp at he
     unfold VC6_J2
     rw [wrp (by omega) (by omega)]
     refine ⟨⟨a, b + 1, rfl, by push_cast; rfl, by omega, by omega, ?_⟩, by first | omega | (dsimp only; omega)⟩
     rw [drop_gi ha2]
     generalize gi l (b : Int) = x at *
     generalize gi E (a : Int) = y at *
     cases hsub with
     | cons _ h => exact h
     | cons_cons _ h => exact absurd rfl he
   ·rw [Bool.and_eq_false_iff, decide_eq_false_iff_not, decide_eq_false_iff_not] at hi
    have haE : a = E.length := by
     rcases hi with hi | hi
     ·have : b = l.length := by omega
      subst this
      rw [List.drop_length] at hsub
      have := hsub.length_le
      rw [List.length_drop] at this
      simp at this; omega
     ·omega
    subst haE
    unfold VC6_J1
    dsimp only
    rw [wrp (by omega) (by omega)]
    refine ⟨fun h => by simp at h, fun _ => ⟨⟨by omega, by omega⟩, hO, ?_⟩⟩
    rintro _ rfl
    rw [lin_good (case_take H.ok _) (by rw [List.length_take]; omega), H.less _ (by omega)]
    exact ⟨fun _ => by rintro _ rfl; rfl, fun h => by simp at h⟩
 ·have hP : shrink_Part ⟨o, l⟩ = (⟨⟨0, 0, 0, []⟩, []⟩, (shrink_Head ⟨o, l⟩).2) := by
   unfold shrink_Part; rw [if_pos hh]
  rw [hP]
  refine ⟨fun _ => ⟨fun _ => by rintro _ rfl; rfl, fun h => by simp at h⟩, fun h => ?_⟩
  exfalso; exact hh (by simpa using h)
end Go.Proofs.Ytojdelnnjhbgbaa
