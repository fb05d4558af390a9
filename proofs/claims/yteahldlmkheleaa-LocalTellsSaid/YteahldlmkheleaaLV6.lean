/- The search: the first way on, and all of them. -/
import Derived.Test.YteahldlmkheleaaLV5
set_option linter.all false
namespace Go.Proofs.Yteahldlmkheleaa
open Go Go.Sv Go.Pu
theorem n3 {l : List Bool} {i j : Int} {b : Bool} (h0 : 0 ≤ i) (h1 : 0 ≤ j) (h : i ≠ j) : gi (l.set i.toNat b) j = gi l j := by
 unfold gi
 rw [List.getD_eq_getElem?_getD, List.getD_eq_getElem?_getD, List.getElem?_set_ne (by omega)]
theorem n4 {l : List Bool} {i : Int} {b : Bool} (h0 : 0 ≤ i) (h1 : i < l.length) : gi (l.set i.toNat b) i = b := by
 unfold gi
 rw [List.getD_eq_getElem?_getD, List.getElem?_set_self (by omega)]; rfl
theorem nK : ∀ (l : List Bool) (k : Nat), k < l.length → l[k]? = some false → cf (l.set k true) + 1 = cf l
 | [], k, h, _ => by simp at h
 | b :: l, 0, _, h => by
  have : b = false := by simpa using h
  subst this; simp [cf]
 | b :: l, k + 1, hk, h => by
  have ih := nK l k (by simpa using hk) (by simpa using h)
  unfold cf at ih ⊢
  rw [List.set_cons_succ]
  cases b <;> simp [List.count_cons] <;> omega
theorem qi {l : List Bool} {i : Int} {b : Bool} (h0 : 0 ≤ i) (h1 : i < l.length) (h : gi l i = b) : l[i.toNat]? = some b := by
 rw [jG h0 h1, h]
theorem pa {l : List Bool} {i : Int} (h0 : 0 ≤ i) (h1 : i < l.length) (h : gi l i = false) : cf (l.set i.toNat true) + 1 = cf l := nK l _ (by omega) (qi h0 h1 h)
theorem ot {l : List Bool} {i : Int} (h0 : 0 ≤ i) (h1 : i < l.length) (h : gi l i = false) : (l.set i.toNat true).set i.toNat false = l := by
 rw [List.set_set]
 have := qi h0 h1 h
 apply List.ext_getElem?
 intro j
 by_cases hj : i.toNat = j
 ·subst hj; rw [List.getElem?_set_self (by omega), this]
 ·rw [List.getElem?_set_ne hj]
theorem qn (l : List Bool) : cf l ≤ l.length := List.count_le_length
theorem j9 {o : ai} {l : List aa} {st : Int} {done : List Bool} {p : ah} (h : p ∈ bm o l st done) : (bd o).2 = 0 ∧ 0 ≤ p.Oper ∧ p.Oper < l.length ∧ gG l done p.Oper.toNat = true ∧ fg o l st p.Oper = some p := by
 unfold bm at h
 split at h
 ·cases h
 ·rename_i hc
  unfold nE at h
  obtain ⟨i, hi, hp⟩ := List.mem_filterMap.1 h
  obtain ⟨a, b, c⟩ := kg hi
  have hpi : p.Oper = i := by
   unfold fg at hp
   split at hp
   ·rw [← Option.some.inj hp]
   ·cases hp
  subst hpi
  exact ⟨by simpa using hc, a, b, c, hp⟩
theorem mj {l : List aa} {done : List Bool} {i : Int} (h0 : 0 ≤ i) (h1 : i < done.length) (h : gG l done i.toNat = true) : gi done i = false := by
 unfold gG isDone at h
 rw [Bool.and_eq_true, Bool.not_eq_true'] at h
 have h := h.1
 rw [show ((i.toNat : Nat) : Int) = i by omega, decide_eq_true h1, Bool.true_and] at h
 exact h
theorem oK (o : ai) (l : List aa) (st : Int) (done : List Bool) : (bm o l st done).length ≤ l.length := by
 unfold bm
 split
 ·simp
 ·exact Nat.le_trans (List.length_filterMap_le _ _) (ja l done l.length)
theorem v82 (N : Nat) (p : ah) (s : Sk) (st : Int) (so : List ah) (hp : nc p s st so) (hm : oT p s st so < N + 1) : VC82 N p s st so (fun r => r = aW p s st so) := by
 intro _ _ _ _
 obtain ⟨⟨w1, w2, w3⟩, hl, h0, h1, hd⟩ := hp
 have hc := pa h0 (by omega) hd
 unfold oT at hm
 refine ⟨⟨h0, h1⟩, ?_⟩
 rintro _ rfl
 refine ⟨⟨h0, by omega⟩, by show so.length ≤ 1000000; omega, ?_⟩
 rintro _ rfl
 intro _
 have hcl : bA so = so := rfl
 rw [hcl]
 refine ⟨by simp; omega, ⟨⟨⟨by simpa using w1, w2, w3⟩, ?_⟩, ?_⟩, ?_⟩
 ·show (so ++ [p]).length + cf (s.done.set p.Oper.toNat true) ≤ 100
  simp; omega
 ·show 2 * cf (s.done.set p.Oper.toNat true) + 1 < N
  omega
 ·rintro _ rfl
  intro _ _ _ _
  refine ⟨⟨h0, by show p.Oper < ((s.done.set p.Oper.toNat true).length : Int); rw [List.length_set]; omega⟩, ?_⟩
  have hb : ((aB (bJ s.o st (gi s.l p.Oper).Kind).1 (so ++ [p]) ⟨s.o, s.l, s.done.set p.Oper.toNat true, s.failed⟩).2.2.done.set p.Oper.toNat false) = s.done := ot h0 (by omega) hd
  rw [hb]
  unfold aW oc aB fA
  show (_, _, _) = _
  simp only [hc]
  rfl
theorem v69 (N : Nat) (st : Int) (so : List ah) (s : Sk) (hp : kL st so s) (hm : iY st so s < N + 1) : VC69 N st so s (fun r => r = aB st so s) := by
 intro _ _ _ _
 obtain ⟨⟨w1, w2, w3⟩, hl⟩ := hp
 unfold iY at hm
 refine ⟨w1, ?_⟩
 rintro _ rfl
 have hF : fA s st so = if gd s.l s.done then ((so, true), s.failed)
  else if (ay s.failed (e7 s.done st)).getD 0 > 0 then (([], false), s.failed)
  else if (gI (fun p f => dH s.o s.l (cf s.done) (dm s.o s.l st p) (so ++ [p]) (s.done.set p.Oper.toNat true) f) (bm s.o s.l st s.done) s.failed).1.2
   then gI (fun p f => dH s.o s.l (cf s.done) (dm s.o s.l st p) (so ++ [p]) (s.done.set p.Oper.toNat true) f) (bm s.o s.l st s.done) s.failed
   else (([], false), iK (gI (fun p f => dH s.o s.l (cf s.done) (dm s.o s.l st p) (so ++ [p]) (s.done.set p.Oper.toNat true) f) (bm s.o s.l st s.done) s.failed).2 (e7 s.done st)) := rfl
 unfold aB
 rw [hF]
 have hw : cG s = gd s.l s.done := rfl
 rw [hw]
 refine ⟨fun h => ?_, fun h => ?_⟩
 ·rw [if_pos h]
 rw [if_neg (by simp [h])]
 rintro _ rfl
 have hh : cv st s = e7 s.done st := rfl
 rw [hh]
 refine ⟨fun h2 => ?_, fun h2 => ?_⟩
 ·rw [if_pos (of_decide_eq_true h2)]
 rw [if_neg (of_decide_eq_false h2)]
 refine ⟨⟨w3, by omega⟩, ?_⟩
 rintro _ rfl
 intro _
 have hmem : ∀ p ∈ bm s.o s.l st s.done, 0 ≤ p.Oper ∧ p.Oper < s.l.length ∧ gi s.done p.Oper = false := fun p hp => by
  obtain ⟨_, a, b, c, _⟩ := j9 hp
  exact ⟨a, b, mj a (by omega) c⟩
 have hnl := oK s.o s.l st s.done
 generalize bm s.o s.l st s.done = L at *
 generalize hg : (fun (p : ah) (f : Fm) => dH s.o s.l (cf s.done) (dm s.o s.l st p) (so ++ [p]) (s.done.set p.Oper.toNat true) f) = g
 have hgp : ∀ p f, dH s.o s.l (cf s.done) (dm s.o s.l st p) (so ++ [p]) (s.done.set p.Oper.toNat true) f = g p f := fun p f => by rw [← hg]
 generalize hT : gI g L s.failed = T
 refine ⟨fun LL i a b c rows l d f => L = LL ∧ 0 ≤ i ∧ i ≤ L.length ∧ a = s.o.ao ∧ b = s.o.av ∧ c = s.o.aC ∧ rows = s.o.Rows ∧ l = s.l ∧ d = s.done ∧ gI g (L.drop i.toNat) f = T, fun _ i _ _ _ _ _ _ _ => (L.length - i).toNat, ⟨rfl, by omega, by omega, rfl, rfl, rfl, rfl, rfl, rfl, by simpa using hT⟩, ?_⟩
 rintro _ i a b c rows l d f ⟨rfl, i0, i1, rfl, rfl, rfl, rfl, rfl, rfl, ht⟩
 refine ⟨fun hi => ?_, fun hi => ?_⟩
 ·have hi := of_decide_eq_true hi
  obtain ⟨k, rfl⟩ := Int.eq_ofNat_of_zero_le i0
  obtain ⟨m0, m1, m2⟩ := hmem _ (fh i0 hi)
  rw [show ((k : Nat) : Int).toNat = k by omega, fq (l := L) (i := k) (by omega)] at ht
  have stt : gI g (gi L (k : Int) :: L.drop (k + 1)) f = if (g (gi L (k : Int)) f).1.2 then g (gi L (k : Int)) f else gI g (L.drop (k + 1)) (g (gi L (k : Int)) f).2 := rfl
  rw [stt] at ht
  rw [wrp (n := ((k : Nat) : Int) + 1) (by omega) (by omega)]
  have hk : oc (gi L (k : Int)) (⟨(⟨s.o.ao, s.o.av, s.o.aC, s.o.Rows⟩ : ai), s.l, s.done, f⟩ : Sk) st so = g (gi L (k : Int)) f := hgp _ _
  have hS : aW (gi L (k : Int)) (⟨(⟨s.o.ao, s.o.av, s.o.aC, s.o.Rows⟩ : ai), s.l, s.done, f⟩ : Sk) st so = ((g (gi L (k : Int)) f).1.1, (g (gi L (k : Int)) f).1.2, ⟨s.o, s.l, s.done, (g (gi L (k : Int)) f).2⟩) := by
   unfold aW; rw [hk]
  refine ⟨⟨i0, hi⟩, ⟨⟨⟨w1, w2, w3⟩, hl, m0, m1, m2⟩, by show 2 * cf s.done < N; omega⟩, ?_⟩
  rw [hS]
  rintro _ rfl
  intro _ _ _ _
  refine ⟨fun h3 => ?_, fun h3 => ⟨⟨rfl, by omega, by omega, rfl, rfl, rfl, rfl, rfl, rfl, ?_⟩, by first | omega | (dsimp only; omega)⟩⟩
  ·have h3 : (g (gi L (k : Int)) f).1.2 = true := h3
   rw [if_pos h3] at ht
   rw [← ht, if_pos h3]
   show (_, true, _) = (_, (g (gi L (k : Int)) f).1.2, _)
   rw [h3]
  ·have h3 : (g (gi L (k : Int)) f).1.2 = false := h3
   rw [if_neg (by simp [h3])] at ht
   rw [show (((k : Nat) : Int) + 1).toNat = k + 1 by omega]
   exact ht
 ·have hi := of_decide_eq_false hi
  rw [List.drop_eq_nil_of_le (by omega)] at ht
  have ht : (([], false), f) = T := ht
  rw [← ht, if_neg (by simp)]
  unfold VC69_J1 VC69_J2 iK
  refine ⟨fun h3 => ?_, fun h3 => ?_⟩
  ·have h3 : ¬ ((e7 s.done st).done = 0 ∧ (e7 s.done st).state = 0) := by
    intro e; rw [e.1, e.2] at h3; simp at h3
   simp only [if_neg h3]
  ·have h3 : (e7 s.done st).done = 0 ∧ (e7 s.done st).state = 0 := by simpa using h3
   simp only [if_pos h3]
theorem v68 (o : ai) (l : List aa) (hp : nz o l) : VC68 o l (fun r => r = bf o l) := by
 intro _ _
 have hp : l.length ≤ 1000000 := hp
 exact ⟨⟨by omega, by omega, by omega⟩, rfl⟩
theorem m7 {α : Type} {m : Nat} {g : ah → α → (List ah × Bool) × α} : ∀ (L : List ah) (f : α), (∀ p ∈ L, ∀ f, (g p f).1.1.length ≤ m) → (gI g L f).1.1.length ≤ m
 | [], f, _ => by simp [gI]
 | p :: L, f, h => by
  unfold gI
  split
  ·exact h p (by simp) f
  ·exact m7 L _ (fun q hq => h q (by simp [hq]))
theorem kU (o : ai) (l : List aa) : ∀ (n : Nat) (st : Int) (so : List ah) (done : List Bool) (f : Fm), (dH o l n st so done f).1.1.length ≤ so.length + n
 | 0, st, so, done, f => by simp [dH]
 | n + 1, st, so, done, f => by
  have ht := m7 (m := so.length + (n + 1)) (g := fun p f => dH o l n (dm o l st p) (so ++ [p]) (done.set p.Oper.toNat true) f) (bm o l st done) f (fun p _ f => by
   have := kU o l n (dm o l st p) (so ++ [p]) (done.set p.Oper.toNat true) f
   simp only [List.length_append, List.length_cons, List.length_nil] at this
   omega)
  unfold dH
  split
  ·simp
  ·split
   ·simp
   ·split
    ·exact ht
    ·simp
theorem il {o : ai} {l : List aa} {m : Int} (h : bV o l m = 0) : (bd o).2 = 0 ∧ (b6 l).2 = 0 ∧ (l.length : Int) ≤ m := by
 unfold bV at h
 by_cases h1 : (bd o).2 ≠ 0 ∨ (b6 l).2 ≠ 0
 ·rw [if_pos h1] at h; simp at h
 ·rw [if_neg h1] at h
  by_cases h2 : (l.length : Int) > m
  ·rw [if_pos h2] at h; simp at h
  ·exact ⟨by omega, by omega, by omega⟩
theorem v53 (o : ai) (l : List aa) (hp : nh o l) : VC53 o l (fun r => r = a9 o l) := by
 intro _ _
 refine ⟨hp, ?_⟩
 rintro _ rfl
 unfold a9
 refine ⟨fun h => ?_, fun h => ?_⟩
 ·rw [if_pos (bne_iff_ne.1 h)]
 have h : bV o l 20 = 0 := by rw [bne_eq_false_iff_eq] at h; exact h
 obtain ⟨c1, c2, c3⟩ := il h
 rw [if_neg (by simp [h])]
 refine ⟨by show l.length ≤ 1000000; omega, ?_⟩
 rintro _ rfl
 intro _ _ _
 have hcf := qn (bf o l).done
 have hdl : (bf o l).done.length = l.length := by simp [bf]
 refine ⟨⟨⟨hdl, by show l.length ≤ 20; omega, hp⟩, by simp; omega⟩, ?_⟩
 rintro _ rfl
 intro _ _ _ _
 have hlen := kU (bf o l).o (bf o l).l (cf (bf o l).done + 1) o.aC [] (bf o l).done (bf o l).failed
 have hlen : (fA (bf o l) o.aC []).1.1.length ≤ 0 + (cf (bf o l).done + 1) := hlen
 unfold aB VC53_J1
 generalize fA (bf o l) o.aC [] = q at *
 refine ⟨fun h2 => ?_, fun h2 => ?_⟩
 ·have h2 : q.1.2 = false := by simpa using h2
  rw [if_pos (.inl h2)]
  exact ⟨fun _ => rfl, fun h => by cases h⟩
 ·have h2 : q.1.2 = true := by simpa using h2
  refine ⟨⟨hp, by show q.1.1.length ≤ 1000000; omega⟩, ?_⟩
  rintro _ rfl
  refine ⟨fun h3 => ?_, fun h3 => ?_⟩
  ·rw [if_pos (.inr (by simpa using h3))]
  ·have h3 : c6 o l q.1.1 = true := by simpa using h3
   rw [if_neg (by simp [h2, h3])]
theorem pb (n : Nat) : cf (List.replicate n false) = n := by
 unfold cf; simp
end Go.Proofs.Yteahldlmkheleaa
