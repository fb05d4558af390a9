/- Parts, operations and their objects, as the code finds them. -/
import Derived.Test.YteahldlmkheleaaLV16
set_option linter.all false
namespace Go.Proofs.Yteahldlmkheleaa
open Go Go.Sv Go.Pu
theorem jW {α : Type} (f : Int → Bool) (x : α) : ∀ (l : List α) (i : Int), ew f (l ++ [x]) i = ew f l i ++ (if f (i + l.length) = true then [x] else [])
 | [], i => by simp [ew]
 | y :: l, i => by
  rw [List.cons_append, ew, ew, jW f x l (i + 1)]
  have e : i + 1 + (l.length : Int) = i + ((y :: l).length : Int) := by simp only [List.length_cons]; push_cast; omega
  rw [e]
  split <;> rfl
theorem kR {α : Type} (f : Int → Bool) : ∀ (l : List α) (i : Int), (ew f l i).length ≤ l.length
 | [], _ => by simp [ew]
 | y :: l, i => by
  rw [ew]
  have := kR f l (i + 1)
  split <;> simp <;> omega
theorem gv {α : Type} [Inhabited α] (f : Int → Bool) {l : List α} {k : Nat} (h : k < l.length) : ew f (l.take (k + 1)) 0 = ew f (l.take k) 0 ++ (if f (k : Int) = true then [gi l (k : Int)] else []) := by
 rw [ep h, jW]
 have e : (0 : Int) + ((l.take k).length : Int) = (k : Int) := by rw [List.length_take]; omega
 rw [e]
theorem ia {α : Type} (f : Int → Bool) (l : List α) (k : Nat) : (ew f (l.take k) 0).length ≤ k := by
 have := kR f (l.take k) 0
 have := List.length_take_le k l
 omega
theorem iA {α β : Type} [Inhabited α] (g : α → Bool) (e : α → β) : ∀ (suf pre : List α), ew (fun i => g (gi (pre ++ suf) i)) (suf.map e) pre.length = (suf.filter g).map e
 | [], _ => rfl
 | x :: r, pre => by
  rw [List.map_cons, ew]
  have hx : gi (pre ++ x :: r) (pre.length : Int) = x := by rw [cx _ _ (by simp)]; simp
  have ih := iA g e r (pre ++ [x])
  rw [List.append_assoc, List.singleton_append] at ih
  have hl : ((pre ++ [x]).length : Int) = (pre.length : Int) + 1 := by simp
  rw [hl] at ih
  rw [hx, ih, List.filter_cons]
  split <;> rfl
theorem kS {α β : Type} [Inhabited α] (g : α → Bool) (e : α → β) (l : List α) : ew (fun i => g (gi l i)) (l.map e) 0 = (l.filter g).map e := iA g e l []
theorem v35 (i : Int) (h : ak) (k : Int) (hp : nj i h k) : VC35 i h k (fun r => r = da i h k) := by
 intro _ _
 exact ⟨hp, rfl⟩
theorem v34_35 (l : List al) (h : ak) (k : Int) (hp : nm l h k) : VC34_35 l h k (fun r => r = bp l h k) := by
 obtain ⟨hp1, hp2⟩ := hp
 unfold VC34_35
 intro _ _ _
 refine ⟨fun out x => ∃ t : Nat, x = t ∧ t ≤ l.length ∧ out = ew (fun i => da i h k) (l.take t) 0, fun _ x => (l.length - x).toNat, ⟨0, rfl, by omega, rfl⟩, ?_⟩
 rintro _ _ ⟨t, rfl, ht, rfl⟩
 have hl := ia (fun i => da i h k) l t
 refine ⟨fun hi => ?_, fun hi => ?_⟩
 ·rw [decide_eq_true_eq] at hi
  have hw := wrp (n := (t : Int) + 1) (by omega) (by omega)
  have hs := gv (fun i => da i h k) (l := l) (k := t) (by omega)
  refine ⟨⟨by omega, hi⟩, ⟨by omega, show (t : Int) < h.aj.length by omega⟩, ?_⟩
  rintro _ rfl
  refine ⟨fun hc => ⟨by simp; omega, ?_⟩, fun hc => ?_⟩ <;> unfold VC34_35_J2 <;> rw [hw] <;> refine ⟨⟨t + 1, by push_cast; rfl, by omega, ?_⟩, by dsimp only; omega⟩
  ·rw [hs, if_pos hc]
  ·rw [hs, if_neg (by rw [show da (t : Int) h k = false from hc]; decide), List.append_nil]
 ·rw [decide_eq_false_iff_not] at hi
  unfold VC34_35_J1 bp
  rw [List.take_of_length_le (by omega)]
theorem pn (h : ak) (k : Int) : bp (bK h) h k = fx h.aj k :=
 kS (fun x : aR => x.ar == k) (fun x => x.aH) h.aj
theorem iU (h : ak) : (bK h).length = h.aj.length := by unfold bK; rw [List.length_map]
theorem v11 (h : ak) (k : Int) (hp : lX h k) : VC11 h k (fun r => r = cd h k) := by
 obtain ⟨hp1, hp2, hp3⟩ := hp
 unfold VC11
 intro _ _
 refine ⟨⟨hp1, hp2, hp3⟩, ?_⟩
 rintro _ rfl
 refine ⟨fun hb => ?_, fun hb => ⟨hp2, ?_⟩⟩
 ·unfold cd
  rw [if_pos (by unfold eV; simp at hb; omega)]
 ·rintro _ rfl _
  refine ⟨⟨by rw [iU]; omega, by rw [iU]; exact hp2⟩, ?_⟩
  rintro _ rfl _
  have hb : (aV h).2 = 0 ∧ 0 ≤ k ∧ k < h.ae.length := by simp at hb; omega
  refine ⟨hb.2, fun _ => ⟨hp3 _ (fh hb.2.1 hb.2.2), ?_⟩⟩
  rintro _ rfl _
  unfold cd
  rw [if_neg (by unfold eV; omega), pn]
  rfl
theorem l4 {l : List aR} (k : Int) {t : Nat} (h : t < l.length) : fx (l.take (t + 1)) k = fx (l.take t) k ++ (if (gi l (t : Int)).ar == k then [(gi l (t : Int)).aH] else []) := by
 unfold fx
 rw [ep h, List.filter_append, List.map_append, List.filter_cons, List.filter_nil]
 split <;> rfl
theorem mL (l : List aR) (k : Int) (t : Nat) : (fx (l.take t) k).length ≤ t := by
 unfold fx
 rw [List.length_map]
 have := List.length_filter_le (fun x : aR => x.ar == k) (l.take t)
 have := List.length_take_le t l
 omega
theorem v12 (os : List ai) (l : List aD) (k : Int) (hp : jD os l k) : VC12 os l k (fun r => r = dv os l k) := by
 obtain ⟨hp1, hp2⟩ := hp
 unfold VC12
 intro _ _
 refine ⟨⟨hp1, hp2⟩, ?_⟩
 rintro _ rfl
 refine ⟨fun hb => ?_, fun hb => ?_⟩
 ·unfold dv
  rw [if_pos (by unfold eV; simp at hb; dsimp only; unfold cl at hb; omega)]
 ·have hb : ¬ eV ⟨os, l.map toL⟩ k := by unfold eV; simp at hb; dsimp only; unfold cl at hb; omega
  have hLl : (l.map toL).length = l.length := by rw [List.length_map]
  refine ⟨fun out x => ∃ t : Nat, x = t ∧ t ≤ l.length ∧ out = fx ((l.map toL).take t) k, fun _ x => (l.length - x).toNat, ⟨0, rfl, by omega, rfl⟩, ?_⟩
  rintro _ _ ⟨t, rfl, ht, rfl⟩
  have hl := mL (l.map toL) k t
  refine ⟨fun hi => ?_, fun hi => ?_⟩
  ·rw [decide_eq_true_eq] at hi
   have hw := wrp (n := (t : Int) + 1) (by omega) (by omega)
   have hs := l4 (l := l.map toL) k (t := t) (by omega)
   rw [mF (by omega)] at hs
   refine ⟨⟨by omega, hi⟩, fun hc => ⟨⟨by omega, hi⟩, by simp; omega, ?_⟩, fun hc => ?_⟩ <;> unfold VC12_J2 <;> rw [hw] <;> refine ⟨⟨t + 1, by push_cast; rfl, by omega, ?_⟩, by dsimp only; omega⟩
   ·rw [hs, if_pos (show ((toL (gi l (t : Int))).ar == k) = true from hc)]; rfl
   ·rw [hs, if_neg (by rw [show ((toL (gi l (t : Int))).ar == k) = false from hc]; decide), List.append_nil]
  ·rw [decide_eq_false_iff_not] at hi
   unfold VC12_J1 dv
   rw [if_neg hb, List.take_of_length_le (by omega)]
theorem ik {h : ak} (hc : (aV h).2 = 0) : (bB (bK h)).2 = 0 ∧ ¬ ke h.ae ∧ (hGo h.ae h.aj 0 []).2 = 0 := by
 unfold aV at hc
 split at hc
 ·cases hc
 ·rename_i hb
  split at hc
  ·rename_i hh; exact absurd hc hh
  ·rename_i hh
   refine ⟨?_, hb, hc⟩
   exact Decidable.of_not_not hh
theorem pv {l : List al} (h : (bB l).2 = 0) : jw l (opsOf l) := by
 have := mN h l.length (by omega)
 rwa [List.take_length] at this
theorem lx {l : List al} (h : (bB l).2 = 0) : (opsOf l).length ≤ l.length ∧ l.length ≤ 10000 := by
 refine ⟨?_, (lK h).1⟩
 have h1 := kX l
 have h2 : gB l ≤ l.length := by
  unfold gB
  have := List.countP_le_length (p := fun x : al => x.aY == 1) (l := l)
  omega
 omega
theorem nC {l : List al} (h : (bB l).2 = 0) : eu l = (opsOf l, 0) := by unfold eu; rw [if_neg (by omega)]
theorem nB {h : ak} (hc : (aV h).2 = 0) {i : Int} (h0 : 0 ≤ i) (h1 : i < (cQ h).length) : 0 ≤ (gi (cQ h) i).aA ∧ (gi (cQ h) i).aA < h.aj.length := by
 obtain ⟨n, rfl⟩ := Int.eq_ofNat_of_zero_le h0
 have H := (pv (ik hc).1).one n (by unfold cQ at h1; omega)
 have hl := iU h
 exact ⟨(ju H.1).1, by have := H.2.1; unfold cQ; omega⟩
theorem v9 (h : ak) (hp : dS h) : VC9 h (fun r => r = bP h) := by
 obtain ⟨hp1, hp2, hp3⟩ := hp
 unfold VC9
 intro _ _
 refine ⟨⟨hp1, hp2, hp3⟩, ?_⟩
 rintro _ rfl
 unfold bP
 refine ⟨fun hb => by rw [if_pos (by simpa using hb)], fun hb => ⟨hp2, ?_⟩⟩
 have hb : (aV h).2 = 0 := by simpa using hb
 rw [if_neg (by omega)]
 rintro _ rfl _ _ rfl _
 have hop : (eu (bK h)).1 = cQ h := by rw [nC (ik hb).1]; rfl
 have hlen := lx (ik hb).1
 have hol : (cQ h).length ≤ 10000 := by unfold cQ; omega
 rw [hop]
 refine ⟨fun out x => ∃ t : Nat, x = t ∧ t ≤ (cQ h).length ∧ out = ((cQ h).take t).map fun o => (gi h.aj o.aA).ar, fun _ x => ((cQ h).length - x).toNat, ⟨0, rfl, by omega, rfl⟩, ?_⟩
 rintro _ _ ⟨t, rfl, ht, rfl⟩
 refine ⟨fun hi => ?_, fun hi => ?_⟩
 ·rw [decide_eq_true_eq] at hi
  rw [wrp (n := (t : Int) + 1) (by omega) (by omega)]
  have hin := nB hb (i := (t : Int)) (by omega) hi
  refine ⟨⟨by omega, hi⟩, hin, by simp; omega, ⟨t + 1, by push_cast; rfl, by omega, ?_⟩, by dsimp only; omega⟩
  rw [ep (by omega), List.map_append]; rfl
 ·rw [decide_eq_false_iff_not] at hi
  unfold VC9_J1 ofH
  rw [List.take_of_length_le (by omega), hop]
theorem v10 (os : List ai) (l : List aD) (hp : fJ os l) : VC10 os l (fun r => r = df os l) := by
 obtain ⟨hp1, hp2⟩ := hp
 unfold VC10
 intro _ _
 refine ⟨⟨hp1, hp2⟩, ?_⟩
 rintro _ rfl
 unfold df bP cl
 generalize hh : (⟨os, l.map toL⟩ : ak) = h
 have hpl : bS l = bK h := by rw [← hh, kN]
 have hev : h.aj = l.map toL := by rw [← hh]
 refine ⟨fun hb => by rw [if_pos (by simpa using hb)], fun hb => ⟨hp2, ?_⟩⟩
 have hb : (aV h).2 = 0 := by simpa using hb
 rw [if_neg (by omega)]
 rintro _ rfl _ _ rfl _
 have hop : (e6 (bS l)).1 = cQ h := by rw [hpl]; show (eu (bK h)).1 = _; rw [nC (ik hb).1]; rfl
 have hlen := lx (ik hb).1
 have hol : (cQ h).length ≤ 10000 := by unfold cQ; omega
 have hel : h.aj.length = l.length := by rw [hev, List.length_map]
 rw [hop]
 refine ⟨fun out x => ∃ t : Nat, x = t ∧ t ≤ (cQ h).length ∧ out = ((cQ h).take t).map fun o => (gi h.aj o.aA).ar, fun _ x => ((cQ h).length - x).toNat, ⟨0, rfl, by omega, rfl⟩, ?_⟩
 rintro _ _ ⟨t, rfl, ht, rfl⟩
 refine ⟨fun hi => ?_, fun hi => ?_⟩
 ·rw [decide_eq_true_eq] at hi
  rw [wrp (n := (t : Int) + 1) (by omega) (by omega)]
  have hin := nB hb (i := (t : Int)) (by omega) hi
  have hg : (gi h.aj (gi (cQ h) (t : Int)).aA).ar = (gi l (gi (cQ h) (t : Int)).aA).ar := by
   rw [hev, mQ toL hin.1 (by omega)]; rfl
  refine ⟨⟨by omega, hi⟩, ⟨hin.1, by omega⟩, by simp; omega, ⟨t + 1, by push_cast; rfl, by omega, ?_⟩, by dsimp only; omega⟩
  rw [ep (by omega), List.map_append, List.map_cons, List.map_nil, hg]
 ·rw [decide_eq_false_iff_not] at hi
  unfold VC10_J1 ofH
  rw [List.take_of_length_le (by omega), hop]
end Go.Proofs.Yteahldlmkheleaa
