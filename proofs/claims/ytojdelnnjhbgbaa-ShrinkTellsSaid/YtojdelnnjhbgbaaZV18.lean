/- What is left, the least beginning, the least part: plain; laws 4, 5, 6. -/
import Derived.Test.YtojdelnnjhbgbaaZV17
set_option linter.all false
namespace Go.Proofs.Ytojdelnnjhbgbaa
open Go Go.Sv Go.Pu
theorem wo_eq (l : List Api_Event) (ops : List Int) : shrink_Without l ops = ref41_Without l ops := by
 have key : ∀ (f k : Nat) (g : List (Int × Int)), k + f = l.length → (∀ p, (mget g p).getD 0 = if begunGo p (l.take k) (-1) (-1) ≥ 0 ∧ begunGo p (l.take k) (-1) (-1) ∈ ops then 1 else 0) → rWoTo l ops k ++ woGo ops (l.drop k) (callsN (l.take k)) g = rWoTo l ops l.length := by
  intro f
  induction f with
  | zero =>
   intro k g hk _
   rw [List.drop_eq_nil_of_le (by omega), woGo, List.append_nil, show k = l.length by omega]
  | succ f ih =>
   intro k g hk hg
   have hkl : k < l.length := by omega
   have hcs : callsN (l.take (k + 1)) = callsN (l.take k) + (if (gi l (k : Int)).What = 1 then 1 else 0) := by rw [take_snoc hkl, calls_snoc]
   have hc0 : 0 ≤ callsN (l.take k) := by unfold callsN; omega
   have hbs : ∀ p, begunGo p (l.take (k + 1)) (-1) (-1) = if (gi l (k : Int)).What = 1 then (if (gi l (k : Int)).Prc = p then callsN (l.take k) else begunGo p (l.take k) (-1) (-1)) else (if (gi l (k : Int)).Prc = p then -1 else begunGo p (l.take k) (-1) (-1)) := fun p => by
    rw [take_snoc hkl, begun_snoc]
    split
    ·split
     ·omega
     ·rfl
    ·rfl
   have hS : ref41_Owner l (k : Int) = if (gi l (k : Int)).What = 1 then callsN (l.take k) else if (gi l (k : Int)).What = 2 then begunGo (gi l (k : Int)).Prc (l.take k) (-1) (-1) else -1 := by
    unfold ref41_Owner
    rw [show ((k : Nat) : Int).toNat = k by omega]
   rw [drop_gi hkl, woGo]
   have fin : ∀ (n' : Int) (g' : List (Int × Int)), n' = callsN (l.take (k + 1)) → (∀ p, (mget g' p).getD 0 = if begunGo p (l.take (k + 1)) (-1) (-1) ≥ 0 ∧ begunGo p (l.take (k + 1)) (-1) (-1) ∈ ops then 1 else 0) → rWoTo l ops (k + 1) ++ woGo ops (l.drop (k + 1)) n' g' = rWoTo l ops l.length := fun n' g' hn hg' => by
    rw [hn]; exact ih (k + 1) g' (by omega) hg'
   have hrs := rWo_succ l ops k
   by_cases w : (gi l (k : Int)).What = 1
   ·rw [if_pos w] at hcs hS
    rw [if_pos w]
    have hrg : rGone l ops (k : Int) = decide (callsN (l.take k) ∈ ops) := by
     unfold rGone; rw [hS]; exact decide_eq_decide.2 ⟨fun h => h.2, fun h => ⟨hc0, h⟩⟩
    rw [hrg] at hrs
    by_cases hm : callsN (l.take k) ∈ ops
    ·rw [if_pos (decide_eq_true hm), List.append_nil] at hrs
     rw [if_pos hm, ← hrs]
     refine fin _ _ hcs.symm (fun p => ?_)
     by_cases e : p = (gi l (k : Int)).Prc
     ·subst e
      have e2 : begunGo (gi l (k : Int)).Prc (l.take (k + 1)) (-1) (-1) = callsN (l.take k) := by rw [hbs, if_pos w, if_pos rfl]
      rw [mget_mput, if_pos rfl, e2, if_pos ⟨hc0, hm⟩]; rfl
     ·have e2 : begunGo p (l.take (k + 1)) (-1) (-1) = begunGo p (l.take k) (-1) (-1) := by rw [hbs, if_pos w, if_neg (fun h => e h.symm)]
      rw [mget_mput, mget_mput, if_neg e, if_neg e, e2]; exact hg p
    ·rw [if_neg (by simpa using hm)] at hrs
     rw [if_neg hm, List.append_cons, ← hrs]
     refine fin _ _ hcs.symm (fun p => ?_)
     by_cases e : p = (gi l (k : Int)).Prc
     ·subst e
      have e2 : begunGo (gi l (k : Int)).Prc (l.take (k + 1)) (-1) (-1) = callsN (l.take k) := by rw [hbs, if_pos w, if_pos rfl]
      rw [mget_mput, if_pos rfl, e2, if_neg (fun h => hm h.2)]; rfl
     ·have e2 : begunGo p (l.take (k + 1)) (-1) (-1) = begunGo p (l.take k) (-1) (-1) := by rw [hbs, if_pos w, if_neg (fun h => e h.symm)]
      rw [mget_mput, if_neg e, e2]; exact hg p
   ·rw [if_neg w] at hcs hS
    rw [Int.add_zero] at hcs
    rw [if_neg w]
    have hg' : ∀ p, (mget (mput g (gi l (k : Int)).Prc 0) p).getD 0 = if begunGo p (l.take (k + 1)) (-1) (-1) ≥ 0 ∧ begunGo p (l.take (k + 1)) (-1) (-1) ∈ ops then 1 else 0 := fun p => by
     by_cases e : p = (gi l (k : Int)).Prc
     ·subst e
      have e2 : begunGo (gi l (k : Int)).Prc (l.take (k + 1)) (-1) (-1) = -1 := by rw [hbs, if_neg w, if_pos rfl]
      rw [mget_mput, if_pos rfl, e2, if_neg (fun h => absurd h.1 (by decide))]; rfl
     ·have e2 : begunGo p (l.take (k + 1)) (-1) (-1) = begunGo p (l.take k) (-1) (-1) := by rw [hbs, if_neg w, if_neg (fun h => e h.symm)]
      rw [mget_mput, if_neg e, e2]; exact hg p
    have hgp := hg (gi l (k : Int)).Prc
    by_cases hc : (mget g (gi l (k : Int)).Prc).getD 0 = 0 ∨ (gi l (k : Int)).What ≠ 2
    ·have hrg : rGone l ops (k : Int) = false := by
      unfold rGone
      rw [hS, decide_eq_false_iff_not]
      rintro ⟨h1, h2⟩
      by_cases w2 : (gi l (k : Int)).What = 2
      ·rw [if_pos w2] at h1 h2
       rw [if_pos ⟨h1, h2⟩] at hgp
       rcases hc with hc | hc
       ·rw [hc] at hgp; cases hgp
       ·exact hc w2
      ·rw [if_neg w2] at h1; exact absurd h1 (by decide)
     rw [hrg, if_neg (by simp)] at hrs
     rw [if_pos hc, List.append_cons, ← hrs]
     exact fin _ _ hcs.symm hg'
    ·have w2 : (gi l (k : Int)).What = 2 := by
      apply Classical.byContradiction
      intro h; exact hc (.inr h)
     have hc1 : ¬ (mget g (gi l (k : Int)).Prc).getD 0 = 0 := fun h => hc (.inl h)
     have hrg : rGone l ops (k : Int) = true := by
      unfold rGone
      rw [hS, if_pos w2, decide_eq_true_eq]
      apply Classical.byContradiction
      intro h
      rw [if_neg h] at hgp
      exact hc1 hgp
     rw [hrg, if_pos rfl, List.append_nil] at hrs
     rw [if_neg hc, ← hrs]
     exact fin _ _ hcs.symm hg'
 have h0 := key l.length 0 [] (by omega) (fun p => by simp [mget, begunGo])
 exact h0
theorem case_take {o : Api_Object} {l : List Api_Event} (h : caseE o l = 0) (k : Nat) : caseE o (l.take k) = 0 := by
 obtain ⟨h1, h2, h3⟩ := case_ok h
 obtain ⟨e1, e2⟩ := evs_ok h2
 have hc : (event_Check (l.take k)).2 = 0 := by
  unfold event_Check
  rw [if_neg (by rw [List.length_take]; omega)]
  refine evGo_zero _ _ _ (fun j j0 j1 => ?_)
  rw [List.length_take] at j1
  have hj : j < l.length := by omega
  obtain ⟨a, b⟩ := e2 j j0 hj
  have eg : gi (l.take k) j = gi l j := by
   rw [gi_cast j0 (by rw [List.length_take]; omega), gi_cast j0 hj, List.getElem_take]
  rw [eg, List.take_take, Nat.min_eq_left (by omega)]
  exact ⟨a, b⟩
 have hk : kindsGo (l.take k) ≤ kindsGo l := by
  have e : kindsGo l = (l.drop k).foldl (fun n x => if x.What = 1 then max n (min x.N 63 + 1) else n) (kindsGo (l.take k)) := by
   unfold kindsGo
   rw [← List.foldl_append, List.take_append_drop]
  rw [e]
  exact (kinds_ge _ _).1
 unfold caseE
 rw [if_neg (by omega), if_neg (by omega), if_neg (by omega)]
def some_ (o : Api_Object) (l : List Api_Event) : Bool := decide (linsOf o (opsOf l) ≠ [])
theorem lin_bad {o : Api_Object} {l : List Api_Event} (h : caseE o l ≠ 0) : shrink_Lin ⟨o, l⟩ = (false, caseE o l) := by
 have hh : histtext_Check ⟨o, l⟩ = caseE o l := rfl
 unfold shrink_Lin
 rw [hh, if_pos h]
theorem check_zero {o : Api_Object} {l : List Api_Event} (h : caseE o l = 0) (h10 : l.length ≤ 10) : search_check o (opsOf l) 20 = 0 := by
 obtain ⟨h1, h2, _⟩ := case_ok h
 have hops := ops_ok h2 l.length (Nat.le_refl _)
 rw [List.take_length] at hops
 have hcl := calls_len l
 have hc : callsN l ≤ l.length := by
  unfold callsN
  have := List.countP_le_length (p := fun x : Api_Event => x.What == 1) (l := l)
  omega
 have := ops_check hops (by omega)
 unfold search_check
 rw [if_neg (by omega), if_neg (by omega)]
theorem lin_good {o : Api_Object} {l : List Api_Event} (h : caseE o l = 0) (h10 : l.length ≤ 10) : shrink_Lin ⟨o, l⟩ = (some_ o l, 0) := by
 have hck := check_zero h h10
 have hof : oper_Of l = (opsOf l, 0) := by
  unfold oper_Of; rw [if_neg (by have := (case_ok h).2.1; omega)]
 unfold shrink_Lin
 dsimp only
 rw [if_neg (by show ¬ histtext_Check ⟨o, l⟩ ≠ 0; unfold histtext_Check; simp [h]), hof, if_neg (by simp)]
 unfold search_Lin some_
 dsimp only
 rcases search_cases o (opsOf l) with ⟨h1, _⟩ | ⟨_, hL, h2⟩ | ⟨x, L, _, hL, h2⟩
 ·exact absurd hck h1
 ·rw [h2, hL]; simp
 ·rw [h2, hL]; simp
theorem some_take {o : Api_Object} {l : List Api_Event} (h : caseE o l = 0) {a b : Nat} (hab : a ≤ b) (hb : b ≤ l.length) (hs : some_ o (l.take b) = true) : some_ o (l.take a) = true :=
 decide_eq_true (lins_take (case_ok h).2.1 b hab hb (of_decide_eq_true hs))
theorem some_nil (o : Api_Object) : some_ o [] = true := by
 obtain ⟨L, e⟩ := lins_pending (o := o) (l := []) (fun i hi => by simp at hi)
 unfold some_
 rw [show opsOf [] = [] from rfl, e]; simp
theorem bs_least (f : Int → Bool) : ∀ (k : Nat) (i j : Int), 0 ≤ i → i ≤ j → j - i ≤ k → f j = true → (∀ a b, 0 ≤ a → a ≤ b → b ≤ j → f a = true → f b = true) → (∀ m, 0 ≤ m → m < i → f m = false) → f (bsGo f k i j) = true ∧ ∀ m, 0 ≤ m → m < bsGo f k i j → f m = false
 | 0, i, j, i0, ij, hk, hj, hm, hi => by
  rw [bsGo]
  obtain rfl : i = j := by omega
  exact ⟨hj, hi⟩
 | k + 1, i, j, i0, ij, hk, hj, hm, hi => by
  rw [bsGo]
  split
  ·rename_i hlt
   split
   ·rename_i hf
    refine bs_least f k _ j (by omega) (by omega) (by omega) hj hm (fun m m0 m1 => ?_)
    by_cases h : f m = true
    ·have := hm m ((i + j) / 2) m0 (by omega) (by omega) h
     rw [hf] at this; cases this
    ·simpa using h
   ·rename_i hf
    exact bs_least f k i _ i0 (by omega) (by omega) (by simpa using hf) (fun a b a0 ab hb ha => hm a b a0 ab (by omega) ha) hi
  ·obtain rfl : i = j := by omega
   exact ⟨hj, hi⟩
theorem asker_is {o : Api_Object} {l : List Api_Event} (h : caseE o l = 0) (h10 : l.length ≤ 10) (n : Int) : shrink_asker_1 n ⟨o, l⟩ = !some_ o (l.take n.toNat) := by
 unfold shrink_asker_1
 dsimp only
 rw [lin_good (case_take h _) (by rw [List.length_take]; omega)]
 rfl
theorem head_is {o : Api_Object} {l : List Api_Event} (h : caseE o l = 0) (h10 : l.length ≤ 10) (hs : some_ o l = false) : (shrink_Head ⟨o, l⟩).2 = 0 ∧ 1 ≤ (shrink_Head ⟨o, l⟩).1 ∧ (shrink_Head ⟨o, l⟩).1 ≤ l.length ∧ some_ o (l.take (shrink_Head ⟨o, l⟩).1.toNat) = false ∧ ∀ m : Nat, (m : Int) < (shrink_Head ⟨o, l⟩).1 → some_ o (l.take m) = true := by
 have hL := lin_good h h10
 rw [hs] at hL
 have hH : shrink_Head ⟨o, l⟩ = (bsGo (fun i => shrink_asker_1 i ⟨o, l⟩) l.length 0 l.length, 0) := by
  unfold shrink_Head
  rw [hL, if_neg (by simp), if_neg (by simp)]
  unfold sort_Search_shrink_asker_1
  rw [show ((l.length : Nat) : Int).toNat = l.length by omega]
 rw [hH]
 have hA : (fun i => shrink_asker_1 i ⟨o, l⟩) = fun i : Int => !some_ o (l.take i.toNat) := funext (asker_is h h10)
 have hr := bs_range (fun i => shrink_asker_1 i ⟨o, l⟩) l.length 0 l.length (by omega)
 rw [hA] at hr ⊢
 obtain ⟨b1, b2⟩ := bs_least (fun i : Int => !some_ o (l.take i.toNat)) l.length 0 l.length (by omega) (by omega) (by omega) (by
  rw [show ((l.length : Nat) : Int).toNat = l.length by omega, List.take_length, hs]; rfl) (fun a b a0 ab hb ha => by
  rw [Bool.not_eq_true'] at ha ⊢
  by_cases hh : some_ o (l.take b.toNat) = true
  ·rw [some_take h (a := a.toNat) (b := b.toNat) (by omega) (by omega) hh] at ha; cases ha
  ·simpa using hh) (fun m m0 m1 => by omega)
 generalize bsGo (fun i : Int => !some_ o (l.take i.toNat)) l.length 0 l.length = r at *
 dsimp only at b1 b2 ⊢
 rw [Bool.not_eq_true'] at b1
 refine ⟨rfl, ?_, hr.2, b1, fun m hm => ?_⟩
 ·by_cases e : r = 0
  ·subst e
   rw [show (0 : Int).toNat = 0 from rfl, List.take_zero, some_nil] at b1; cases b1
  ·omega
 ·have := b2 m (by omega) hm
  rw [Bool.not_eq_false', show ((m : Nat) : Int).toNat = m by omega] at this
  exact this
theorem head_bad {o : Api_Object} {l : List Api_Event} (h : caseE o l ≠ 0) : shrink_Head ⟨o, l⟩ = (0, caseE o l) := by
 unfold shrink_Head
 rw [lin_bad h, if_pos h]
theorem head_miss {o : Api_Object} {l : List Api_Event} (h : caseE o l = 0) (h10 : l.length ≤ 10) (hs : some_ o l = true) : shrink_Head ⟨o, l⟩ = (0, 41) := by
 unfold shrink_Head
 rw [lin_good h h10, hs, if_neg (by simp), if_pos rfl]
theorem few_len {o : Api_Object} {l : List Api_Event} (h : law41_few o l = true) : l.length ≤ 10 ∧ o.Rows.length ≤ 1000000 := by
 unfold law41_few law23_Few at h
 rw [Bool.and_eq_true, decide_eq_true_eq, decide_eq_true_eq] at h
 omega
structure LeastOk (o : Api_Object) (l out : List Api_Event) : Prop where
 ok : caseE o out = 0
 no : some_ o out = false
 less : ∀ m : Nat, m < out.length → some_ o (out.take m) = true
 sub : out.Sublist l
end Go.Proofs.Ytojdelnnjhbgbaa
