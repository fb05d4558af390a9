/- The search: the first way on, and all of them. -/
import Derived.Test.YtojdelnnjhbgbaaZV5
set_option linter.all false
namespace Go.Proofs.Ytojdelnnjhbgbaa
open Go Go.Sv Go.Pu
theorem gi_set_ne {l : List Bool} {i j : Int} {b : Bool} (h0 : 0 ≤ i) (h1 : 0 ≤ j) (h : i ≠ j) : gi (l.set i.toNat b) j = gi l j := by
 unfold gi
 rw [List.getD_eq_getElem?_getD, List.getD_eq_getElem?_getD, List.getElem?_set_ne (by omega)]
theorem gi_set_eq {l : List Bool} {i : Int} {b : Bool} (h0 : 0 ≤ i) (h1 : i < l.length) : gi (l.set i.toNat b) i = b := by
 unfold gi
 rw [List.getD_eq_getElem?_getD, List.getElem?_set_self (by omega)]; rfl
theorem cf_setN : ∀ (l : List Bool) (k : Nat), k < l.length → l[k]? = some false → cf (l.set k true) + 1 = cf l
 | [], k, h, _ => by simp at h
 | b :: l, 0, _, h => by
  have : b = false := by simpa using h
  subst this; simp [cf]
 | b :: l, k + 1, hk, h => by
  have ih := cf_setN l k (by simpa using hk) (by simpa using h)
  unfold cf at ih ⊢
  rw [List.set_cons_succ]
  cases b <;> simp [List.count_cons] <;> omega
theorem gi_q {l : List Bool} {i : Int} {b : Bool} (h0 : 0 ≤ i) (h1 : i < l.length) (h : gi l i = b) : l[i.toNat]? = some b := by
 rw [gi_some h0 h1, h]
theorem cf_set {l : List Bool} {i : Int} (h0 : 0 ≤ i) (h1 : i < l.length) (h : gi l i = false) : cf (l.set i.toNat true) + 1 = cf l := cf_setN l _ (by omega) (gi_q h0 h1 h)
theorem set_back {l : List Bool} {i : Int} (h0 : 0 ≤ i) (h1 : i < l.length) (h : gi l i = false) : (l.set i.toNat true).set i.toNat false = l := by
 rw [List.set_set]
 have := gi_q h0 h1 h
 apply List.ext_getElem?
 intro j
 by_cases hj : i.toNat = j
 ·subst hj; rw [List.getElem?_set_self (by omega), this]
 ·rw [List.getElem?_set_ne hj]
theorem cf_le (l : List Bool) : cf l ≤ l.length := List.count_le_length
theorem next_mem {o : Api_Object} {l : List Api_Oper} {st : Int} {done : List Bool} {p : Api_Pick} (h : p ∈ search_Next o l st done) : (object_Check o).2 = 0 ∧ 0 ≤ p.Oper ∧ p.Oper < l.length ∧ freeB l done p.Oper.toNat = true ∧ pickAt o l st p.Oper = some p := by
 unfold search_Next at h
 split at h
 ·cases h
 ·rename_i hc
  unfold nextP at h
  obtain ⟨i, hi, hp⟩ := List.mem_filterMap.1 h
  obtain ⟨a, b, c⟩ := free_mem hi
  have hpi : p.Oper = i := by
   unfold pickAt at hp
   split at hp
   ·rw [← Option.some.inj hp]
   ·cases hp
  subst hpi
  exact ⟨by simpa using hc, a, b, c, hp⟩
theorem free_not {l : List Api_Oper} {done : List Bool} {i : Int} (h0 : 0 ≤ i) (h1 : i < done.length) (h : freeB l done i.toNat = true) : gi done i = false := by
 unfold freeB isDone at h
 rw [Bool.and_eq_true, Bool.not_eq_true'] at h
 have h := h.1
 rw [show ((i.toNat : Nat) : Int) = i by omega, decide_eq_true h1, Bool.true_and] at h
 exact h
theorem next_len (o : Api_Object) (l : List Api_Oper) (st : Int) (done : List Bool) : (search_Next o l st done).length ≤ l.length := by
 unfold search_Next
 split
 ·simp
 ·exact Nat.le_trans (List.length_filterMap_le _ _) (freeTo_le l done l.length)
theorem v66 (N : Nat) (p : Api_Pick) (s : Sk) (st : Int) (so : List Api_Pick) (hp : preTr p s st so) (hm : mTry p s st so < N + 1) : VC66 N p s st so (fun r => r = search_seeker_first_1 p s st so) := by
 intro _ _ _ _
 obtain ⟨⟨w1, w2, w3⟩, hl, h0, h1, hd⟩ := hp
 have hc := cf_set h0 (by omega) hd
 unfold mTry at hm
 refine ⟨⟨h0, h1⟩, ?_⟩
 rintro _ rfl
 refine ⟨⟨h0, by omega⟩, by show so.length ≤ 1000000; omega, ?_⟩
 rintro _ rfl
 intro _
 have hcl : slices_Clone_api_Pick_api_Pick so = so := rfl
 rw [hcl]
 refine ⟨by simp; omega, ⟨⟨⟨by simpa using w1, w2, w3⟩, ?_⟩, ?_⟩, ?_⟩
 ·show (so ++ [p]).length + cf (s.done.set p.Oper.toNat true) ≤ 100
  simp; omega
 ·show 2 * cf (s.done.set p.Oper.toNat true) + 1 < N
  omega
 ·rintro _ rfl
  intro _ _ _ _
  refine ⟨⟨h0, by show p.Oper < ((s.done.set p.Oper.toNat true).length : Int); rw [List.length_set]; omega⟩, ?_⟩
  have hb : ((search_seeker_first (object_Move s.o st (gi s.l p.Oper).Kind).1 (so ++ [p]) ⟨s.o, s.l, s.done.set p.Oper.toNat true, s.failed⟩).2.2.done.set p.Oper.toNat false) = s.done := set_back h0 (by omega) hd
  rw [hb]
  unfold search_seeker_first_1 tryK search_seeker_first firstK
  show (_, _, _) = _
  simp only [hc]
  rfl
theorem v54 (N : Nat) (st : Int) (so : List Api_Pick) (s : Sk) (hp : preFi st so s) (hm : mFirst st so s < N + 1) : VC54 N st so s (fun r => r = search_seeker_first st so s) := by
 intro _ _ _ _
 obtain ⟨⟨w1, w2, w3⟩, hl⟩ := hp
 unfold mFirst at hm
 refine ⟨w1, ?_⟩
 rintro _ rfl
 have hF : firstK s st so = if wholeB s.l s.done then ((so, true), s.failed)
  else if (mget s.failed (hereS s.done st)).getD 0 > 0 then (([], false), s.failed)
  else if (tryF (fun p f => firstF s.o s.l (cf s.done) (moveTo s.o s.l st p) (so ++ [p]) (s.done.set p.Oper.toNat true) f) (search_Next s.o s.l st s.done) s.failed).1.2
   then tryF (fun p f => firstF s.o s.l (cf s.done) (moveTo s.o s.l st p) (so ++ [p]) (s.done.set p.Oper.toNat true) f) (search_Next s.o s.l st s.done) s.failed
   else (([], false), failPut (tryF (fun p f => firstF s.o s.l (cf s.done) (moveTo s.o s.l st p) (so ++ [p]) (s.done.set p.Oper.toNat true) f) (search_Next s.o s.l st s.done) s.failed).2 (hereS s.done st)) := rfl
 unfold search_seeker_first
 rw [hF]
 have hw : search_seeker_whole s = wholeB s.l s.done := rfl
 rw [hw]
 refine ⟨fun h => ?_, fun h => ?_⟩
 ·rw [if_pos h]
 rw [if_neg (by simp [h])]
 rintro _ rfl
 have hh : search_seeker_here st s = hereS s.done st := rfl
 rw [hh]
 refine ⟨fun h2 => ?_, fun h2 => ?_⟩
 ·rw [if_pos (of_decide_eq_true h2)]
 rw [if_neg (of_decide_eq_false h2)]
 refine ⟨⟨w3, by omega⟩, ?_⟩
 rintro _ rfl
 intro _
 have hmem : ∀ p ∈ search_Next s.o s.l st s.done, 0 ≤ p.Oper ∧ p.Oper < s.l.length ∧ gi s.done p.Oper = false := fun p hp => by
  obtain ⟨_, a, b, c, _⟩ := next_mem hp
  exact ⟨a, b, free_not a (by omega) c⟩
 have hnl := next_len s.o s.l st s.done
 generalize search_Next s.o s.l st s.done = L at *
 generalize hg : (fun (p : Api_Pick) (f : Fm) => firstF s.o s.l (cf s.done) (moveTo s.o s.l st p) (so ++ [p]) (s.done.set p.Oper.toNat true) f) = g
 have hgp : ∀ p f, firstF s.o s.l (cf s.done) (moveTo s.o s.l st p) (so ++ [p]) (s.done.set p.Oper.toNat true) f = g p f := fun p f => by rw [← hg]
 generalize hT : tryF g L s.failed = T
 refine ⟨fun LL i a b c rows l d f => L = LL ∧ 0 ≤ i ∧ i ≤ L.length ∧ a = s.o.States ∧ b = s.o.Kinds ∧ c = s.o.Init ∧ rows = s.o.Rows ∧ l = s.l ∧ d = s.done ∧ tryF g (L.drop i.toNat) f = T, fun _ i _ _ _ _ _ _ _ => (L.length - i).toNat, ⟨rfl, by omega, by omega, rfl, rfl, rfl, rfl, rfl, rfl, by simpa using hT⟩, ?_⟩
 rintro _ i a b c rows l d f ⟨rfl, i0, i1, rfl, rfl, rfl, rfl, rfl, rfl, ht⟩
 refine ⟨fun hi => ?_, fun hi => ?_⟩
 ·have hi := of_decide_eq_true hi
  obtain ⟨k, rfl⟩ := Int.eq_ofNat_of_zero_le i0
  obtain ⟨m0, m1, m2⟩ := hmem _ (mem_gi i0 hi)
  rw [show ((k : Nat) : Int).toNat = k by omega, drop_gi (l := L) (i := k) (by omega)] at ht
  have stt : tryF g (gi L (k : Int) :: L.drop (k + 1)) f = if (g (gi L (k : Int)) f).1.2 then g (gi L (k : Int)) f else tryF g (L.drop (k + 1)) (g (gi L (k : Int)) f).2 := rfl
  rw [stt] at ht
  rw [wrp (n := ((k : Nat) : Int) + 1) (by omega) (by omega)]
  have hk : tryK (gi L (k : Int)) (⟨(⟨s.o.States, s.o.Kinds, s.o.Init, s.o.Rows⟩ : Api_Object), s.l, s.done, f⟩ : Sk) st so = g (gi L (k : Int)) f := hgp _ _
  have hS : search_seeker_first_1 (gi L (k : Int)) (⟨(⟨s.o.States, s.o.Kinds, s.o.Init, s.o.Rows⟩ : Api_Object), s.l, s.done, f⟩ : Sk) st so = ((g (gi L (k : Int)) f).1.1, (g (gi L (k : Int)) f).1.2, ⟨s.o, s.l, s.done, (g (gi L (k : Int)) f).2⟩) := by
   unfold search_seeker_first_1; rw [hk]
  refine ⟨⟨i0, hi⟩, ⟨⟨⟨w1, w2, w3⟩, hl, m0, m1, m2⟩, by show 2 * cf s.done < N; omega⟩, ?_⟩
  rw [hS]
  rintro _ rfl
  intro _ _ _ _
  refine ⟨fun h3 => ?_, fun h3 => ⟨⟨rfl, by omega, by omega, rfl, rfl, rfl, rfl, rfl, rfl, ?_⟩, by first | omega | (dsimp only; omega)⟩⟩
  ·have h3 : (g (gi L (k : Int)) f).1.2 = true := h3
   rw [if_pos h3] at ht
   rw [← ht, if_pos h3]
   show (_, true, _) = (_, (g (gi L (k : Int)) f).1.2, _)
   rw [h3]
  ·have h3 : (g (gi L (k : Int)) f).1.2 = false := h3
   rw [if_neg (by simp [h3])] at ht
   rw [show (((k : Nat) : Int) + 1).toNat = k + 1 by omega]
   exact ht
 ·have hi := of_decide_eq_false hi
  rw [List.drop_eq_nil_of_le (by omega)] at ht
  have ht : (([], false), f) = T := ht
  rw [← ht, if_neg (by simp)]
  unfold VC54_J1 VC54_J2 failPut
  refine ⟨fun h3 => ?_, fun h3 => ?_⟩
  ·have h3 : ¬ ((hereS s.done st).done = 0 ∧ (hereS s.done st).state = 0) := by
    intro e; rw [e.1, e.2] at h3; simp at h3
   simp only [if_neg h3]
  ·have h3 : (hereS s.done st).done = 0 ∧ (hereS s.done st).state = 0 := by simpa using h3
   simp only [if_pos h3]
theorem v53 (o : Api_Object) (l : List Api_Oper) (hp : preBg o l) : VC53 o l (fun r => r = search_begin o l) := by
 intro _ _
 have hp : l.length ≤ 1000000 := hp
 exact ⟨⟨by omega, by omega, by omega⟩, rfl⟩
theorem try_len {α : Type} {m : Nat} {g : Api_Pick → α → (List Api_Pick × Bool) × α} : ∀ (L : List Api_Pick) (f : α), (∀ p ∈ L, ∀ f, (g p f).1.1.length ≤ m) → (tryF g L f).1.1.length ≤ m
 | [], f, _ => by simp [tryF]
 | p :: L, f, h => by
  unfold tryF
  split
  ·exact h p (by simp) f
  ·exact try_len L _ (fun q hq => h q (by simp [hq]))
theorem first_len (o : Api_Object) (l : List Api_Oper) : ∀ (n : Nat) (st : Int) (so : List Api_Pick) (done : List Bool) (f : Fm), (firstF o l n st so done f).1.1.length ≤ so.length + n
 | 0, st, so, done, f => by simp [firstF]
 | n + 1, st, so, done, f => by
  have ht := try_len (m := so.length + (n + 1)) (g := fun p f => firstF o l n (moveTo o l st p) (so ++ [p]) (done.set p.Oper.toNat true) f) (search_Next o l st done) f (fun p _ f => by
   have := first_len o l n (moveTo o l st p) (so ++ [p]) (done.set p.Oper.toNat true) f
   simp only [List.length_append, List.length_cons, List.length_nil] at this
   omega)
  unfold firstF
  split
  ·simp
  ·split
   ·simp
   ·split
    ·exact ht
    ·simp
theorem check_fits {o : Api_Object} {l : List Api_Oper} {m : Int} (h : search_check o l m = 0) : (object_Check o).2 = 0 ∧ (oper_Check l).2 = 0 ∧ (l.length : Int) ≤ m := by
 unfold search_check at h
 by_cases h1 : (object_Check o).2 ≠ 0 ∨ (oper_Check l).2 ≠ 0
 ·rw [if_pos h1] at h; simp at h
 ·rw [if_neg h1] at h
  by_cases h2 : (l.length : Int) > m
  ·rw [if_pos h2] at h; simp at h
  ·exact ⟨by omega, by omega, by omega⟩
theorem v40 (o : Api_Object) (l : List Api_Oper) (hp : preSe o l) : VC40 o l (fun r => r = search_Search o l) := by
 intro _ _
 refine ⟨hp, ?_⟩
 rintro _ rfl
 unfold search_Search
 refine ⟨fun h => ?_, fun h => ?_⟩
 ·rw [if_pos (bne_iff_ne.1 h)]
 have h : search_check o l 20 = 0 := by rw [bne_eq_false_iff_eq] at h; exact h
 obtain ⟨c1, c2, c3⟩ := check_fits h
 rw [if_neg (by simp [h])]
 refine ⟨by show l.length ≤ 1000000; omega, ?_⟩
 rintro _ rfl
 intro _ _ _
 have hcf := cf_le (search_begin o l).done
 have hdl : (search_begin o l).done.length = l.length := by simp [search_begin]
 refine ⟨⟨⟨hdl, by show l.length ≤ 20; omega, hp⟩, by simp; omega⟩, ?_⟩
 rintro _ rfl
 intro _ _ _ _
 have hlen := first_len (search_begin o l).o (search_begin o l).l (cf (search_begin o l).done + 1) o.Init [] (search_begin o l).done (search_begin o l).failed
 have hlen : (firstK (search_begin o l) o.Init []).1.1.length ≤ 0 + (cf (search_begin o l).done + 1) := hlen
 unfold search_seeker_first VC40_J1
 generalize firstK (search_begin o l) o.Init [] = q at *
 refine ⟨fun h2 => ?_, fun h2 => ?_⟩
 ·have h2 : q.1.2 = false := by simpa using h2
  rw [if_pos (.inl h2)]
  exact ⟨fun _ => rfl, fun h => by cases h⟩
 ·have h2 : q.1.2 = true := by simpa using h2
  refine ⟨⟨hp, by show q.1.1.length ≤ 1000000; omega⟩, ?_⟩
  rintro _ rfl
  refine ⟨fun h3 => ?_, fun h3 => ?_⟩
  ·rw [if_pos (.inr (by simpa using h3))]
  ·have h3 : witness_Is o l q.1.1 = true := by simpa using h3
   rw [if_neg (by simp [h2, h3])]
theorem v25 (o : Api_Object) (l : List Api_Oper) (hp : preSe o l) : VC25 o l (fun r => r = search_Lin o l) := by
 intro _ _
 refine ⟨hp, ?_⟩
 rintro _ rfl
 intro _
 unfold search_Lin
 refine ⟨fun h => ?_, fun h => ?_⟩
 ·rw [if_pos (by simpa using h)]
 ·rw [if_neg (by simpa using h)]
theorem cf_rep (n : Nat) : cf (List.replicate n false) = n := by
 unfold cf; simp
end Go.Proofs.Ytojdelnnjhbgbaa
