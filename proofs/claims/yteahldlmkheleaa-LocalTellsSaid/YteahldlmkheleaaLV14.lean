/- The operations of a history. -/
import Derived.Test.YteahldlmkheleaaLV13
import Derived.Test.YteahldlmkheleaaLV11
set_option linter.all false
namespace Go.Proofs.Yteahldlmkheleaa
open Go Go.Sv Go.Pu
theorem kQ : ∀ (a b : List al) (i : Int) (ops : List aa), gE (a ++ b) i ops = gE b (i + a.length) (gE a i ops)
 | [], b, i, ops => by simp [gE]
 | x :: a, b, i, ops => by
  rw [List.cons_append, gE, kQ a b, gE]
  congr 1
  simp only [List.length_cons]; push_cast; omega
theorem h8 (l : List al) (x : al) : opsOf (l ++ [x]) = dz (opsOf l) (l.length : Int) x := by
 unfold opsOf
 rw [kQ]
 simp [gE]
theorem mU (k : Int) (x : al) (o : aa) : (dK k x o).ab = o.ab ∧ (dK k x o).Kind = o.Kind ∧ (dK k x o).aA = o.aA := by
 unfold dK; split <;> exact ⟨rfl, rfl, rfl⟩
theorem gn {k : Int} {x : al} {o : aa} (h : ¬ (o.End = -1 ∧ o.ab = x.ab)) : dK k x o = o := by
 unfold dK; rw [if_neg h]
theorem jg {k : Int} {x : al} {o : aa} (h : o.End = -1 ∧ o.ab = x.ab) : dK k x o = ⟨o.ab, o.Kind, o.aA, k, x.N⟩ := by
 unfold dK; rw [if_pos h]
theorem nG {ops : List aa} {k : Int} {x : al} {i : Nat} (h : i < ops.length) : gi (dz ops k x) (i : Int) = dK k x (gi ops (i : Int)) := by
 unfold dz
 rw [cx _ _ (by rw [List.length_append, List.length_map]; omega), cx _ _ h, List.getElem_append_left (by rw [List.length_map]; exact h), List.getElem_map]
theorem qa {ops : List aa} {k : Int} {x : al} (h : x.aY = 1) : gi (dz ops k x) (ops.length : Int) = ⟨x.ab, x.N, k, -1, -1⟩ := by
 unfold dz
 rw [if_pos h, cx _ _ (by simp)]
 rw [List.getElem_append_right (by simp)]
 simp
theorem jP (ops : List aa) (k : Int) (x : al) : (dz ops k x).length = ops.length + (if x.aY = 1 then 1 else 0) := by
 unfold dz
 rw [List.length_append, List.length_map]
 split <;> simp
theorem mV (l : List al) (x : al) : gB (l ++ [x]) = gB l + (if x.aY = 1 then 1 else 0) := by
 unfold gB
 rw [List.countP_append]
 by_cases h : x.aY = 1
 ·simp [h]
 ·simp [h]
theorem lR {α : Type} {P : List α → Prop} (h0 : P []) (h1 : ∀ l x, P l → P (l ++ [x])) (l : List α) : P l := by
 rw [← List.reverse_reverse l]
 generalize l.reverse = r
 induction r with
 | nil => exact h0
 | cons x r ih => rw [List.reverse_cons]; exact h1 _ _ ih
theorem kX (l : List al) : ((opsOf l).length : Int) = gB l := by
 refine lR (P := fun l => ((opsOf l).length : Int) = gB l) rfl (fun l x ih => ?_) l
 rw [h8, mV, jP, ← ih]; push_cast; split <;> rfl
theorem ji (o : aa) : cX o = 0 ↔ 1 ≤ o.ab ∧ o.ab ≤ 1000 ∧ 0 ≤ o.aA ∧ o.aA ≤ 9999 ∧ 0 ≤ o.Kind ∧ o.Kind < 64 ∧ cW o = true := by
 unfold cX
 by_cases h1 : o.ab < 1 ∨ o.ab > 1000 ∨ o.aA < 0 ∨ o.aA > 9999
 ·rw [if_pos h1]; simp; omega
 ·rw [if_neg h1]
  by_cases h2 : o.Kind < 0 ∨ o.Kind ≥ 64
  ·rw [if_pos h2]; simp; omega
  ·rw [if_neg h2]
   cases h3 : cW o with
   | true => simp; omega
   | false => simp
structure jw (l : List al) (ops : List aa) : Prop where
 one : ∀ i : Nat, i < ops.length → cX (gi ops (i : Int)) = 0 ∧ (gi ops (i : Int)).aA < l.length ∧ (gi ops (i : Int)).End < l.length
 two : ∀ i j : Nat, i < j → j < ops.length → (gi ops (i : Int)).aA < (gi ops (j : Int)).aA ∧ ((gi ops (i : Int)).End ≠ -1 → (gi ops (i : Int)).End ≠ (gi ops (j : Int)).End) ∧ (gi ops (i : Int)).End ≠ (gi ops (j : Int)).aA ∧ (gi ops (i : Int)).aA ≠ (gi ops (j : Int)).End ∧ ((gi ops (i : Int)).ab = (gi ops (j : Int)).ab → (gi ops (i : Int)).End ≠ -1 ∧ (gi ops (i : Int)).End < (gi ops (j : Int)).aA)
 opn : ∀ p, dE l p = 1 → ∃ j : Nat, j < ops.length ∧ (gi ops (j : Int)).ab = p ∧ (gi ops (j : Int)).End = -1
 shut : ∀ p, dE l p ≠ 1 → ∀ j : Nat, j < ops.length → (gi ops (j : Int)).ab = p → (gi ops (j : Int)).End ≠ -1
def mR (l : List al) (x : al) : Prop := evE x = 0 ∧ ((dE l x.ab == 1) == (x.aY == 1)) = false ∧ l.length < 10000
theorem pD {x : al} (h : evE x = 0) (hw : x.aY = 1) : x.N < 64 := by
 unfold evE at h
 split at h
 ·cases h
 split at h
 ·cases h
 split at h
 ·cases h
 ·rename_i h3; omega
theorem iB {l : List al} {x : al} (h : mR l x) : (x.aY = 1 ∧ dE l x.ab ≠ 1) ∨ (x.aY = 2 ∧ dE l x.ab = 1) := by
 obtain ⟨h1, h2, _⟩ := h
 rcases (o5 h1).1 with h | h
 ·left; refine ⟨h, fun hh => ?_⟩
  rw [h, hh] at h2; simp at h2
 ·right; refine ⟨h, ?_⟩
  rw [h] at h2
  simpa using h2
theorem ko {l : List al} {ops : List aa} {x : al} (H : jw l ops) (hl : dE l x.ab ≠ 1) (k : Int) : ∀ i : Nat, i < ops.length → dK k x (gi ops (i : Int)) = gi ops (i : Int) := fun i hi =>
 gn (fun hh => H.shut _ hl i hi hh.2 hh.1)
theorem oD {l : List al} {ops : List aa} {x : al} (H : jw l ops) (hx : mR l x) : jw (l ++ [x]) (dz ops (l.length : Int) x) := by
 obtain ⟨e1, e2, e3, e4, e5⟩ := o5 hx.1
 have hlen := hx.2.2
 have hlx : ((l ++ [x]).length : Int) = l.length + 1 := by simp
 have hf : ∀ i : Nat, i < ops.length → 0 ≤ (gi ops (i : Int)).aA ∧ ((gi ops (i : Int)).End = -1 ∨ (gi ops (i : Int)).End > (gi ops (i : Int)).aA) := fun i hi => ju (H.one i hi).1
 rcases iB hx with ⟨w, hl⟩ | ⟨w, hl⟩
 ·
  have hg : ∀ i : Nat, i < ops.length → gi (dz ops (l.length : Int) x) (i : Int) = gi ops (i : Int) := fun i hi => by rw [nG hi, ko H hl _ i hi]
  have hn := qa (ops := ops) (k := (l.length : Int)) w
  have hL : (dz ops (l.length : Int) x).length = ops.length + 1 := by rw [jP, if_pos w]
  have hk := pD hx.1 w
  refine ⟨fun i hi => ?_, fun i j hij hj => ?_, fun p hp => ?_, fun p hp j hj hpr => ?_⟩
  ·by_cases e : i = ops.length
   ·subst e
    rw [hn, hlx]
    refine ⟨(ji _).2 ⟨e2, e3, by dsimp only; omega, by dsimp only; omega, e4, hk, rfl⟩, by dsimp only; omega, by dsimp only; omega⟩
   ·rw [hg i (by omega), hlx]
    obtain ⟨a, b, c⟩ := H.one i (by omega)
    exact ⟨a, by omega, by omega⟩
  ·rw [hg i (by omega)]
   by_cases e : j = ops.length
   ·subst e
    rw [hn]
    obtain ⟨a, b, c⟩ := H.one i (by omega)
    have := hf i (by omega)
    refine ⟨b, fun h => h, by dsimp only; omega, by dsimp only; omega, fun hpr => ⟨H.shut _ hl i (by omega) hpr, c⟩⟩
   ·rw [hg j (by omega)]
    exact H.two i j hij (by omega)
  ·rw [dZ] at hp
   by_cases e : x.ab = p
   ·exact ⟨ops.length, by omega, by rw [hn]; exact e, by rw [hn]⟩
   ·rw [if_neg e] at hp
    obtain ⟨j, hj, a, b⟩ := H.opn p hp
    exact ⟨j, by omega, by rw [hg j hj]; exact a, by rw [hg j hj]; exact b⟩
  ·rw [dZ] at hp
   by_cases e : x.ab = p
   ·rw [if_pos e] at hp; exact absurd w hp
   ·rw [if_neg e] at hp
    by_cases ej : j = ops.length
    ·subst ej; rw [hn] at hpr; exact absurd hpr e
    ·rw [hg j (by omega)] at hpr ⊢
     exact H.shut p hp j (by omega) hpr
 ·
  have hL : (dz ops (l.length : Int) x).length = ops.length := by rw [jP, if_neg (by omega)]; rfl
  have hg : ∀ i : Nat, i < ops.length → gi (dz ops (l.length : Int) x) (i : Int) = dK (l.length : Int) x (gi ops (i : Int)) := fun i hi => nG hi
  have hE : ∀ i : Nat, (dK (l.length : Int) x (gi ops (i : Int))).End = if (gi ops (i : Int)).End = -1 ∧ (gi ops (i : Int)).ab = x.ab then (l.length : Int) else (gi ops (i : Int)).End := fun i => by unfold dK; split <;> rfl
  have hs := fun i : Nat => mU (l.length : Int) x (gi ops (i : Int))
  have H1 := H.one; have H2 := H.two
  refine ⟨fun i hi => ?_, fun i j hij hj => ?_, fun p hp => ?_, fun p hp j hj hpr => ?_⟩
  ·obtain ⟨a, b, c⟩ := H1 i (by omega)
   rw [hg i (by omega), hlx]
   by_cases e : (gi ops (i : Int)).End = -1 ∧ (gi ops (i : Int)).ab = x.ab
   ·rw [jg e]
    obtain ⟨a1, a2, a3, a4, a5, a6, a7⟩ := (ji _).1 a
    refine ⟨(ji _).2 ⟨a1, a2, a3, a4, a5, a6, ?_⟩, by dsimp only; omega, by dsimp only; omega⟩
    unfold cW
    dsimp only
    rw [if_neg (by omega)]
    simp only [Bool.and_eq_true, decide_eq_true_eq]
    omega
   ·rw [gn e]; exact ⟨a, by omega, by omega⟩
  ·rw [hg i (by omega), hg j (by omega)]
   obtain ⟨a1, b1, c1⟩ := H1 i (by omega)
   obtain ⟨a2, b2, c2⟩ := H1 j (by omega)
   obtain ⟨t1, t2, t3, t4, t5⟩ := H2 i j hij (by omega)
   have f1 := hf i (by omega)
   have f2 := hf j (by omega)
   rw [hE i, hE j, (hs i).2.2, (hs j).2.2, (hs i).1, (hs j).1]
   by_cases ei : (gi ops (i : Int)).End = -1 ∧ (gi ops (i : Int)).ab = x.ab
   ·rw [if_pos ei]
    have hne : (gi ops (j : Int)).ab ≠ x.ab := fun h => (t5 (by rw [ei.2, h])).1 ei.1
    rw [if_neg (fun h => hne h.2)]
    exact ⟨t1, fun _ => by omega, by omega, by omega, fun h => absurd (h.symm.trans ei.2) hne⟩
   ·rw [if_neg ei]
    by_cases ej : (gi ops (j : Int)).End = -1 ∧ (gi ops (j : Int)).ab = x.ab
    ·rw [if_pos ej]
     exact ⟨t1, fun _ => by omega, t3, by omega, t5⟩
    ·rw [if_neg ej]
     exact ⟨t1, t2, t3, t4, t5⟩
  ·rw [dZ] at hp
   by_cases e : x.ab = p
   ·rw [if_pos e] at hp; omega
   ·rw [if_neg e] at hp
    obtain ⟨j, hj, a, b⟩ := H.opn p hp
    have : dK (l.length : Int) x (gi ops (j : Int)) = gi ops (j : Int) := gn (fun h => e (h.2.symm.trans a))
    exact ⟨j, by omega, by rw [hg j (by omega), this]; exact a, by rw [hg j (by omega), this]; exact b⟩
  ·rw [hg j (by omega), (hs j).1] at hpr
   rw [hg j (by omega), hE j]
   rw [dZ] at hp
   have f1 := hf j (by omega)
   by_cases e : x.ab = p
   ·split
    ·omega
    ·rename_i hh
     exact fun h => hh ⟨h, by rw [hpr, e]⟩
   ·rw [if_neg e] at hp
    have := H.shut p hp j (by omega) hpr
    rw [if_neg (fun h => this h.1)]; exact this
theorem pt : jw [] [] := ⟨fun i h => by simp at h, fun i j _ h => by simp at h, fun p h => by simp [dE] at h, fun p _ j h => by simp at h⟩
theorem lL {l : List al} (h : (bB l).2 = 0) {k : Nat} (hk : k < l.length) : mR (l.take k) (gi l (k : Int)) := by
 obtain ⟨h1, h2⟩ := lK h
 obtain ⟨a, b⟩ := h2 (k : Int) (by omega) (by omega)
 rw [show ((k : Nat) : Int).toNat = k by omega] at b
 exact ⟨a, b, by rw [List.length_take]; omega⟩
theorem kE {l : List al} {k : Nat} (hk : k < l.length) : l.take (k + 1) = l.take k ++ [gi l (k : Int)] := by
 have := iv (l := l) (i := (k : Int)) (by omega) (by omega)
 rwa [show ((k : Int) + 1).toNat = k + 1 by omega, show ((k : Nat) : Int).toNat = k by omega] at this
theorem mN {l : List al} (h : (bB l).2 = 0) : ∀ k : Nat, k ≤ l.length → jw (l.take k) (opsOf (l.take k))
 | 0, _ => by rw [List.take_zero]; exact pt
 | k + 1, hk => by
  rw [kE hk, h8]
  exact oD (mN h k (by omega)) (lL h hk)
theorem nM {l : List al} {ops : List aa} {x : al} (H : jw l ops) (hl : dE l x.ab ≠ 1) (w : x.aY = 1) (k : Int) : dz ops k x = ops ++ [⟨x.ab, x.N, k, -1, -1⟩] := by
 unfold dz
 rw [if_pos w]
 congr 1
 apply List.ext_getElem (by simp)
 intro i h1 h2
 rw [List.getElem_map]
 have := ko H hl k i h2
 rw [cx _ _ h2] at this
 exact this
theorem step_ret {l : List al} {ops : List aa} {x : al} (H : jw l ops) (w : x.aY ≠ 1) {j : Nat} (hj : j < ops.length) (hp : (gi ops (j : Int)).ab = x.ab) (he : (gi ops (j : Int)).End = -1) (k : Int) : dz ops k x = ops.set j ⟨(gi ops (j : Int)).ab, (gi ops (j : Int)).Kind, (gi ops (j : Int)).aA, k, x.N⟩ := by
 unfold dz
 rw [if_neg w, List.append_nil]
 apply List.ext_getElem (by simp)
 intro i h1 h2
 have h2 : i < ops.length := by simpa using h2
 rw [List.getElem_map, List.getElem_set]
 have e := cx ops i h2
 by_cases ij : j = i
 ·subst ij
  rw [if_pos rfl, ← e, jg ⟨he, hp⟩]
 ·rw [if_neg ij, ← e, gn]
  rintro ⟨h3, h4⟩
  rcases Nat.lt_or_gt_of_ne ij with h | h
  ·exact ((H.two j i h h2).2.2.2.2 (by rw [hp, h4])).1 he
  ·exact ((H.two i j h hj).2.2.2.2 (by rw [hp, h4])).1 h3
def p3 (l : List al) (ops : List aa) (m : List (Int × Int)) : Prop := ∀ p, dE l p = 1 → ∃ j : Nat, (ay m p).getD 0 = (j : Int) ∧ j < ops.length ∧ (gi ops (j : Int)).ab = p ∧ (gi ops (j : Int)).End = -1
theorem mh {α : Type} [Inhabited α] {l : List α} {j : Nat} {a : α} (h : j < l.length) : gi (l.set j a) (j : Int) = a := by
 rw [cx _ _ (by simpa using h)]; simp
theorem iD {α : Type} [Inhabited α] {l : List α} {i j : Nat} {a : α} (h : i < l.length) (hne : j ≠ i) : gi (l.set j a) (i : Int) = gi l (i : Int) := by
 rw [cx _ _ (by simpa using h), cx _ _ h, List.getElem_set_ne hne]
theorem v32 (l : List al) : VC32 l (fun r => r = eu l) := by
 intro hsl
 rintro _ rfl
 unfold eu
 refine ⟨fun h => by rw [if_pos (by simpa using h)], fun h => ?_⟩
 have h : (bB l).2 = 0 := by simpa using h
 rw [if_neg (by omega)]
 have h10 := (lK h).1
 refine ⟨fun out m x => ∃ k : Nat, x = (k : Int) ∧ k ≤ l.length ∧ out = opsOf (l.take k) ∧ p3 (l.take k) out m, fun _ _ x => (l.length - x).toNat, ⟨0, rfl, by omega, rfl, fun p hp => by simp [dE] at hp⟩, ?_⟩
 rintro out m _ ⟨k, rfl, hk, rfl, hop⟩
 refine ⟨fun hi => ?_, fun hi => ?_⟩
 ·have hi := of_decide_eq_true hi
  have hk : k < l.length := by omega
  have H := mN h k (by omega)
  have hx := lL h hk
  have hts := kE hk
  have htl : ((l.take k).length : Int) = (k : Int) := by rw [List.length_take]; omega
  have hcl := kX (l.take k)
  have hol : (opsOf (l.take k)).length ≤ 10000 := by
   have : gB (l.take k) ≤ k := by
    unfold gB
    have := List.countP_le_length (p := fun x : al => x.aY == 1) (l := l.take k)
    omega
   omega
  have hso := h8 (l.take k) (gi l (k : Int))
  rw [htl] at hso
  refine ⟨⟨by omega, hi⟩, fun w => ⟨by simp; omega, ?_⟩, fun w => ?_⟩
  ·have w : (gi l (k : Int)).aY = 1 := by simpa using w
   rcases iB hx with ⟨_, hl⟩ | ⟨w2, _⟩
   ·unfold VC32_J2
    rw [wrp (by omega) (by omega)]
    refine ⟨⟨k + 1, by push_cast; rfl, by omega, ?_, ?_⟩, by first | omega | (dsimp only; omega)⟩
    ·rw [hts, hso, nM H hl w]
    ·rw [hts]
     intro p hp
     rw [dZ] at hp
     by_cases e : p = (gi l (k : Int)).ab
     ·subst e
      refine ⟨(opsOf (l.take k)).length, by rw [dP, if_pos rfl]; rfl, by simp, ?_, ?_⟩ <;> rw [cx _ _ (by simp)] <;> simp
     ·rw [if_neg (fun hh => e hh.symm)] at hp
      obtain ⟨j, j1, j2, j3, j4⟩ := hop p hp
      have eg : gi (opsOf (l.take k) ++ [(⟨(gi l (k : Int)).ab, (gi l (k : Int)).N, (k : Int), -1, -1⟩ : aa)]) (j : Int) = gi (opsOf (l.take k)) (j : Int) := qb (by omega) (by omega)
      exact ⟨j, by rw [dP, if_neg e]; exact j1, by simp; omega, by rw [eg]; exact j3, by rw [eg]; exact j4⟩
   ·omega
  ·have w : (gi l (k : Int)).aY ≠ 1 := by simpa using w
   rcases iB hx with ⟨w2, _⟩ | ⟨w2, hl⟩
   ·omega
   ·obtain ⟨j, j1, j2, j3, j4⟩ := hop _ hl
    rw [j1]
    refine ⟨⟨by omega, by omega⟩, ?_⟩
    unfold VC32_J2
    rw [wrp (by omega) (by omega)]
    rw [show ((j : Nat) : Int).toNat = j by omega, mh j2, List.set_set]
    refine ⟨⟨k + 1, by push_cast; rfl, by omega, ?_, ?_⟩, by first | omega | (dsimp only; omega)⟩
    ·rw [hts, hso, step_ret H w j2 j3 j4]
    ·rw [hts]
     intro p hp
     rw [dZ] at hp
     by_cases e : p = (gi l (k : Int)).ab
     ·subst e; rw [if_pos rfl] at hp; omega
     ·rw [if_neg (fun hh => e hh.symm)] at hp
      obtain ⟨q, q1, q2, q3, q4⟩ := hop p hp
      have hne : j ≠ q := by rintro rfl; exact e (q3.symm.trans j3)
      exact ⟨q, q1, by simpa using q2, by rw [iD q2 hne]; exact q3, by rw [iD q2 hne]; exact q4⟩
 ·have hi := of_decide_eq_false hi
  unfold VC32_J1
  rw [List.take_of_length_le (by omega)]
theorem v72 (s : List Int) (v : Int) : VC72 s v (fun r => r = cM s v) := by
 intro hs
 simp only [sm] at hs
 unfold cM
 refine ⟨fun x => ∃ k : Nat, x = (k : Int) ∧ k ≤ s.length ∧ js v (s.drop k) (k : Int) = js v s 0, fun x => (s.length - x).toNat, ⟨0, rfl, by omega, rfl⟩, ?_⟩
 rintro _ ⟨k, rfl, hk, hg⟩
 refine ⟨fun h => ?_, fun h => ?_⟩
 ·have h := of_decide_eq_true h
  rw [fq (l := s) (i := k) (by omega), js] at hg
  refine ⟨⟨by omega, h⟩, fun h2 => ?_, fun h2 => ?_⟩
  ·rw [if_pos (by simpa using h2)] at hg; exact hg
  ·rw [if_neg (by simpa using h2)] at hg
   rw [wrp (by omega) (by omega)]
   exact ⟨⟨k + 1, by push_cast; rfl, by omega, by push_cast; exact hg⟩, by first | omega | (dsimp only; omega)⟩
 ·have h := of_decide_eq_false h
  rw [List.drop_eq_nil_of_le (by omega)] at hg
  exact hg
theorem nF (v : Int) : ∀ (s : List Int) (i : Int), 0 ≤ i → (js v s i ≥ 0 ↔ v ∈ s)
 | [], i, _ => by simp [js]
 | y :: s, i, h => by
  rw [js]
  by_cases e : v = y
  ·subst e; rw [if_pos rfl]; simp; omega
  ·rw [if_neg e, nF v s (i + 1) (by omega)]; simp [e]
theorem v61 (s : List Int) (v : Int) : VC61 s v (fun r => r = bM s v) := by
 intro _
 rintro _ rfl
 exact decide_eq_decide.2 (nF v s 0 (by omega))
theorem v36 (s : List aS) (hp : ny s) : VC36 s (fun r => r = bZ s) := by
 have hl : s.length ≤ 1000000 := hp
 intro _ b hb
 exact ⟨fun h => (hb h).symm, fun _ => ⟨by simp; omega, rfl⟩⟩
def fwd (p : Int) : List al → Int → Int × Int
 | [], _ => (-1, -1)
 | x :: r, k => if x.ab = p then (k, x.N) else fwd p r (k + 1)
def iz : List al → Int → List aa
 | [], _ => []
 | x :: r, i => (if x.aY = 1 then [⟨x.ab, x.N, i, (fwd x.ab r (i + 1)).1, (fwd x.ab r (i + 1)).2⟩] else []) ++ iz r (i + 1)
def finish (l : List al) (i : Int) (o : aa) : aa := if o.End = -1 ∧ (fwd o.ab l i).1 ≠ -1 then ⟨o.ab, o.Kind, o.aA, (fwd o.ab l i).1, (fwd o.ab l i).2⟩ else o
theorem mi (p : Int) : ∀ (l : List al) (k : Int), 0 ≤ k → (fwd p l k).1 = -1 → (fwd p l k).2 = -1
 | [], _, _, _ => rfl
 | x :: l, k, h, e => by
  rw [fwd] at e ⊢
  split at e
  ·dsimp only at e; omega
  ·rename_i hh; rw [if_neg hh]; exact mi p l (k + 1) (by omega) e
theorem lF {l : List al} {x : al} {i : Int} (h : 0 ≤ i) (o : aa) : finish l (i + 1) (dK i x o) = finish (x :: l) i o := by
 by_cases e : o.End = -1
 ·by_cases p : o.ab = x.ab
  ·rw [jg ⟨e, p⟩]
   unfold finish
   rw [if_neg (by dsimp only; omega), if_pos]
   ·rw [fwd, if_pos p.symm]
   ·rw [fwd, if_pos p.symm]; exact ⟨e, by dsimp only; omega⟩
  ·rw [gn (fun h => p h.2)]
   have e2 : fwd o.ab (x :: l) i = fwd o.ab l (i + 1) := by rw [fwd, if_neg (fun h => p h.symm)]
   unfold finish
   rw [e2]
 ·rw [gn (fun h => e h.1)]
  unfold finish
  rw [if_neg (fun h => e h.1), if_neg (fun h => e h.1)]
theorem kP : ∀ (l : List al) (i : Int) (ops : List aa), 0 ≤ i → gE l i ops = ops.map (finish l i) ++ iz l i
 | [], i, ops, _ => by
  have : ∀ o : aa, finish [] i o = o := fun o => by unfold finish; rw [if_neg (fun h => h.2 rfl)]
  rw [gE, iz, List.append_nil, show finish [] i = id from funext this, List.map_id]
 | x :: l, i, ops, h => by
  rw [gE, kP l (i + 1) _ (by omega), iz, ← List.append_assoc]
  congr 1
  unfold dz
  rw [List.map_append, List.map_map]
  congr 1
  ·exact List.map_congr_left (fun o _ => lF h o)
  ·split
   ·rw [List.map_cons, List.map_nil]
    congr 1
    unfold finish
    dsimp only
    by_cases e : (fwd x.ab l (i + 1)).1 = -1
    ·rw [if_neg (fun h => h.2 e), e, mi _ _ _ (by omega) e]
    ·rw [if_pos ⟨rfl, e⟩]
   ·rfl
theorem pq (l : List al) : opsOf l = iz l 0 := by
 unfold opsOf; rw [kP l 0 [] (by omega)]; rfl
theorem v33 (l : List al) : VC33 l (fun r => r = e6 l) := by
 intro _
 rintro _ rfl
 unfold e6 eu dg
 refine ⟨fun h => by rw [if_pos (by simpa using h)], fun h => ?_⟩
 have h : (bB l).2 = 0 := by simpa using h
 rw [if_neg (by omega), pq]
 have h10 := (lK h).1
 generalize hR : iz l 0 = R
 refine ⟨fun out i => ∃ k : Nat, i = (k : Int) ∧ k ≤ l.length ∧ out.length ≤ k ∧ out ++ iz (l.drop k) (k : Int) = R, fun _ i => (l.length - i).toNat, ⟨0, rfl, by omega, by simp, hR⟩, ?_⟩
 rintro out _ ⟨k, rfl, hk, ho, hg⟩
 refine ⟨fun hi => ?_, fun hi => ?_⟩
 ·have hi := of_decide_eq_true hi
  have hI : (0 : Int) ≤ (k : Int) ∧ (k : Int) < (l.length : Int) := ⟨by omega, hi⟩
  rw [fq (l := l) (i := k) (by omega), iz, ← List.append_assoc] at hg
  refine ⟨hI, fun w => ?_, fun w => ⟨hI, hI, ?_⟩⟩
  ·unfold VC33_J2
   rw [if_neg (by simpa using w), List.append_nil] at hg
   rw [wrp (by omega) (by omega)]
   exact ⟨⟨k + 1, by push_cast; rfl, by omega, by omega, by push_cast; exact hg⟩, by first | omega | (dsimp only; omega)⟩
  ·rw [if_pos (by simpa using w)] at hg
   generalize hF : fwd (gi l (k : Int)).ab (l.drop (k + 1)) ((k : Int) + 1) = F at hg
   rw [wrp (by omega) (by omega)]
   refine ⟨fun out' q a b d e r => out = out' ∧ a = (gi l (k : Int)).ab ∧ b = (gi l (k : Int)).N ∧ d = (k : Int) ∧ ∃ q' : Nat, q = (q' : Int) ∧ q' ≤ l.length ∧ ((e = -1 ∧ r = -1 ∧ fwd (gi l (k : Int)).ab (l.drop q') (q' : Int) = F) ∨ (e ≥ 0 ∧ (e, r) = F)), fun _ q _ _ _ _ _ => (l.length - q).toNat, ⟨rfl, rfl, rfl, rfl, k + 1, by push_cast; rfl, by omega, .inl ⟨rfl, rfl, by push_cast; exact hF⟩⟩, ?_⟩
   rintro _ _ _ _ _ e r ⟨rfl, rfl, rfl, rfl, q, rfl, hq, hst⟩
   refine ⟨fun h2 => ?_, fun h2 => ?_⟩
   ·rw [Bool.and_eq_true, decide_eq_true_eq, decide_eq_true_eq] at h2
    have hQ : (0 : Int) ≤ (q : Int) ∧ (q : Int) < (l.length : Int) := ⟨by omega, h2.1⟩
    rcases hst with ⟨rfl, rfl, hf⟩ | ⟨h3, _⟩
    ·rw [fq (l := l) (i := q) (by omega), fwd] at hf
     refine ⟨hQ, hI, fun h4 => ⟨hQ, ?_⟩, fun h4 => ?_⟩
     ·rw [if_pos (by simpa using h4)] at hf
      unfold VC33_J4
      rw [wrp (by omega) (by omega)]
      exact ⟨⟨rfl, rfl, rfl, rfl, q + 1, by push_cast; rfl, by omega, .inr ⟨by omega, hf⟩⟩, by first | omega | (dsimp only; omega)⟩
     ·rw [if_neg (by simpa using h4)] at hf
      unfold VC33_J4
      rw [wrp (by omega) (by omega)]
      exact ⟨⟨rfl, rfl, rfl, rfl, q + 1, by push_cast; rfl, by omega, .inl ⟨rfl, rfl, by push_cast; exact hf⟩⟩, by first | omega | (dsimp only; omega)⟩
    ·omega
   ·have hF2 : (e, r) = F := by
     rcases hst with ⟨rfl, rfl, hf⟩ | ⟨_, h3⟩
     ·rw [Bool.and_eq_false_iff, decide_eq_false_iff_not, decide_eq_false_iff_not] at h2
      rw [List.drop_eq_nil_of_le (by omega)] at hf
      exact hf
     ·exact h3
    unfold VC33_J3 VC33_J2
    rw [wrp (by omega) (by omega)]
    rw [← hF2] at hg
    exact ⟨by simp; omega, ⟨k + 1, by push_cast; rfl, by omega, by simp; omega, by push_cast; exact hg⟩, by first | omega | (dsimp only; omega)⟩
 ·have hi := of_decide_eq_false hi
  unfold VC33_J1
  rw [List.drop_eq_nil_of_le (by omega), iz, List.append_nil] at hg
  rw [hg]
end Go.Proofs.Yteahldlmkheleaa
