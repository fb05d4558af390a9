/- The parts of a history, as the code finds them. -/
import Derived.Test.YteahldlmkheleaaLV15
import Derived.Test.YteahldlmkheleaaLV12
set_option linter.all false
namespace Go.Proofs.Yteahldlmkheleaa
open Go Go.Sv Go.Pu
theorem ep {α : Type} [Inhabited α] {l : List α} {k : Nat} (h : k < l.length) : l.take (k + 1) = l.take k ++ [gi l (k : Int)] := by
 have := iv (l := l) (i := (k : Int)) (by omega) (by omega)
 rwa [show ((k : Int) + 1).toNat = k + 1 by omega, show ((k : Int)).toNat = k by omega] at this
theorem mQ {α β : Type} [Inhabited α] [Inhabited β] (f : α → β) {l : List α} {i : Int} (h0 : 0 ≤ i) (h1 : i < l.length) : gi (l.map f) i = f (gi l i) := by
 rw [iE h0 (by simpa using h1), iE h0 h1, List.getElem_map]
theorem v27 (h : ak) (hp : fZ h) : VC27 h (fun r => r = bK h) := by
 unfold VC27 fZ at *
 intro _ _
 refine ⟨fun out x => ∃ k : Nat, x = k ∧ k ≤ h.aj.length ∧ out = (h.aj.take k).map (·.aH), fun _ x => (h.aj.length - x).toNat, ⟨0, rfl, by omega, rfl⟩, ?_⟩
 rintro _ _ ⟨k, rfl, hk, rfl⟩
 refine ⟨fun hi => ?_, fun hi => ?_⟩
 ·rw [decide_eq_true_eq] at hi
  rw [wrp (n := (k : Int) + 1) (by omega) (by omega)]
  refine ⟨⟨by omega, hi⟩, by simp; omega, ⟨k + 1, by push_cast; rfl, by omega, ?_⟩, by dsimp only; omega⟩
  rw [ep (by omega), List.map_append]; rfl
 ·rw [decide_eq_false_iff_not] at hi
  unfold VC27_J1 bK
  rw [List.take_of_length_le (by omega)]
theorem v23 (o : ai) (hp : fV o) : VC23 o (fun r => r = b7 o) := by
 intro _
 refine ⟨hp, ?_⟩
 rintro _ rfl
 rfl
theorem v49_23 (l : List ai) (hp : gS l) : VC49_23 l (fun r => r = aQ l) := by
 unfold VC49_23
 intro hs
 simp only [sm] at hs
 refine ⟨fun x => ∃ k : Nat, x = k ∧ k ≤ l.length ∧ ∀ j : Nat, j < k → b7 (gi l (j : Int)) = false, fun x => (l.length - x).toNat, ⟨0, rfl, by omega, fun j hj => by omega⟩, ?_⟩
 rintro _ ⟨k, rfl, hk, hb⟩
 refine ⟨fun hi => ?_, fun hi => ?_⟩
 ·rw [decide_eq_true_eq] at hi
  rw [wrp (n := (k : Int) + 1) (by omega) (by omega)]
  refine ⟨⟨by omega, hi⟩, fun _ => ?_⟩
  refine ⟨hp _ (fh (by omega) hi), ?_⟩
  rintro _ rfl
  refine ⟨fun hc => ?_, fun hc => ⟨⟨k + 1, by push_cast; rfl, by omega, fun j hj => ?_⟩, by dsimp only; omega⟩⟩
  ·unfold aQ
   rw [lH (l := l) (f := b7) (i := (k : Int)) (by omega) (by omega) hc (fun j h0 h1 => by obtain ⟨n, rfl⟩ := Int.eq_ofNat_of_zero_le h0; exact hb n (by omega))]
   simp
  ·by_cases e : j = k
   ·subst e; exact hc
   ·exact hb j (by omega)
 ·rw [decide_eq_false_iff_not] at hi
  unfold VC49_23_J1 aQ
  rw [lG (l := l) (f := b7) (fun j h0 h1 => by obtain ⟨n, rfl⟩ := Int.eq_ofNat_of_zero_le h0; exact hb n (by omega))]
theorem v25_23 (l : List ai) (hp : gS l) : VC25_23 l (fun r => r = aN l) := by
 unfold VC25_23
 intro _
 refine ⟨hp, ?_⟩
 rintro _ rfl
 unfold aQ aN
 cases e : l.findIdx? b7 with
 | none =>
  rw [List.findIdx?_eq_none_iff] at e
  have : l.any b7 = false := List.any_eq_false.2 (fun x hx => by rw [e x hx]; decide)
  rw [this]; rfl
 | some i =>
  obtain ⟨h1, h2, _⟩ := List.findIdx?_eq_some_iff_getElem.1 e
  have : l.any b7 = true := List.any_eq_true.2 ⟨l[i], List.getElem_mem _, h2⟩
  rw [this]
  exact decide_eq_true (show (0 : Int) ≤ (i : Int) by omega)
theorem mg {os : List ai} {l : List aR} {k : Nat} {b : List (Int × Int)} (hk : k < l.length) : hGo os (l.drop k) k b = if fW os b (gi l (k : Int)) ≠ 0 then ((k : Int), fW os b (gi l (k : Int))) else hGo os (l.drop (k + 1)) ((k : Int) + 1) (cg b (gi l (k : Int)).aH.ab (gi l (k : Int)).ar) := by
 rw [fq hk, hGo]
theorem v6 (h : ak) (hp : dS h) : VC6 h (fun r => r = aV h) := by
 obtain ⟨hp1, hp2, hp3⟩ := hp
 have j1b : ke h.ae → VC6_J1 h (fun r => r = aV h) true := fun hb => by
  unfold VC6_J1 aV
  exact ⟨fun _ => by rw [if_pos hb], fun h0 => by cases h0⟩
 have j1g : ¬ ke h.ae → VC6_J1 h (fun r => r = aV h) false := fun hb => by
  unfold VC6_J1
  refine ⟨fun h0 => (by cases h0), fun _ => ⟨hp2, ?_⟩⟩
  rintro _ rfl _ _ rfl
  have hE : (⟨h.ae, h.aj⟩ : ak) = h := rfl
  rw [hE]
  unfold aV
  rw [if_neg hb]
  refine ⟨fun he => by rw [if_pos (by simpa using he)], fun he => ?_⟩
  rw [if_neg (by simpa using he)]
  refine ⟨fun b x => ∃ k : Nat, x = k ∧ k ≤ h.aj.length ∧ hGo h.ae (h.aj.drop k) k b = hGo h.ae h.aj 0 [], fun _ x => (h.aj.length - x).toNat, ⟨0, rfl, by omega, rfl⟩, ?_⟩
  rintro b _ ⟨k, rfl, hk, hg⟩
  refine ⟨fun hi => ?_, fun hi => ?_⟩
  ·rw [decide_eq_true_eq] at hi
   rw [mg (by omega)] at hg
   have hw := wrp (n := (k : Int) + 1) (by omega) (by omega)
   refine ⟨⟨by omega, hi⟩, fun h1 => ?_, fun h1 => ?_⟩
   ·have e : fW h.ae b (gi h.aj (k : Int)) = 2 := by unfold fW; rw [if_pos (by simpa using h1)]
    rw [e, if_pos (by decide)] at hg; exact hg
   ·have h1 : ¬ ((gi h.aj (k : Int)).ar < 0 ∨ (gi h.aj (k : Int)).ar ≥ h.ae.length) := by simpa using h1
    have j4 : ∀ z, (z = true → fW h.ae b (gi h.aj (k : Int)) = 31) → (z = false → fW h.ae b (gi h.aj (k : Int)) = 0) → VC6_J4 h (fun r => r = hGo h.ae h.aj 0 []) (fun b x => ∃ k : Nat, x = k ∧ k ≤ h.aj.length ∧ hGo h.ae (h.aj.drop k) k b = hGo h.ae h.aj 0 []) (fun _ x => (h.aj.length - x).toNat) b (k : Int) z := fun z hz1 hz0 => by
     unfold VC6_J4
     refine ⟨fun hz => ?_, fun hz => ?_⟩
     ·rw [hz1 hz, if_pos (by decide)] at hg; exact hg
     ·rw [hz0 hz, if_neg (by decide)] at hg
      rw [hw]
      exact ⟨⟨k + 1, by push_cast; rfl, by omega, by push_cast; exact hg⟩, by dsimp only; omega⟩
    have j3 : ∀ z, (z = true → fW h.ae b (gi h.aj (k : Int)) = 32) → (z = false → fW h.ae b (gi h.aj (k : Int)) = if (gi h.aj (k : Int)).aH.aY = 1 ∧ (gi h.aj (k : Int)).aH.N ≥ (gi h.ae (gi h.aj (k : Int)).ar).av then 31 else 0) → VC6_J3 h (fun r => r = hGo h.ae h.aj 0 []) (fun b x => ∃ k : Nat, x = k ∧ k ≤ h.aj.length ∧ hGo h.ae (h.aj.drop k) k b = hGo h.ae h.aj 0 []) (fun _ x => (h.aj.length - x).toNat) b (k : Int) z := fun z hz1 hz0 => by
     unfold VC6_J3
     refine ⟨fun hz => ?_, fun hz => ⟨fun hW => ⟨by omega, j4 _ (fun hN => ?_) (fun hN => ?_)⟩, fun hW => j4 _ (fun hN => by cases hN) (fun _ => ?_)⟩⟩
     ·rw [hz1 hz, if_pos (by decide)] at hg; exact hg
     ·rw [hz0 hz, if_pos ⟨by simpa using hW, by simpa using hN⟩]
     ·rw [hz0 hz, if_neg (fun hh => by have := hh.2; simp at hN; omega)]
     ·rw [hz0 hz, if_neg (fun hh => by have := hh.1; simp at hW; omega)]
    refine ⟨fun hW => j3 _ (fun hM => ?_) (fun hM => ?_), fun hW => j3 _ (fun hM => by cases hM) (fun _ => ?_)⟩
    ·unfold fW; rw [if_neg h1, if_pos ⟨by simpa using hW, by simpa using hM⟩]
    ·unfold fW; rw [if_neg h1, if_neg (fun hh => by have := hh.2; simp at hM; omega)]
    ·unfold fW; rw [if_neg h1, if_neg (fun hh => by have := hh.1; simp at hW; omega)]
  ·rw [decide_eq_false_iff_not] at hi
   have : k = h.aj.length := by omega
   subst this
   unfold VC6_J2
   rw [List.drop_length, hGo] at hg
   exact hg
 unfold VC6
 intro _ _
 refine ⟨fun h1 => j1b ?_, fun h1 => ⟨hp1, ?_⟩⟩
 ·unfold ke; simp at h1; omega
 ·rintro _ rfl
  have h1 : ¬ h.ae.length < 1 ∧ ¬ h.ae.length > 8 := by simp at h1; omega
  cases e : aN h.ae with
  | true => exact j1b (.inr (.inr e))
  | false =>
   refine j1g ?_
   rintro (hh | hh | hh)
   ·exact h1.1 hh
   ·exact h1.2 hh
   ·unfold aN at e; rw [e] at hh; cases hh
def gX (l : List aR) : List (Int × Int) := l.foldl (fun b x => cg b x.aH.ab x.ar) []
theorem jh (l : List aR) (x : aR) : gX (l ++ [x]) = cg (gX l) x.aH.ab x.ar := by unfold gX; rw [List.foldl_append]; rfl
theorem n8 (p : Int) (l : List aR) : dE (l.map (·.aH)) p = 1 → (ay (gX l) p).isSome = true := by
 refine lR (P := fun l => dE (l.map (·.aH)) p = 1 → (ay (gX l) p).isSome = true) (fun h => by simp [dE] at h) (fun l x ih h => ?_) l
 rw [List.map_append, List.map_cons, List.map_nil, dZ] at h
 rw [jh, dP]
 by_cases e : p = x.aH.ab
 ·rw [if_pos e]; rfl
 ·rw [if_neg e]; rw [if_neg (fun hh => e hh.symm)] at h; exact ih h
theorem mF {l : List aD} {k : Nat} (hk : k < l.length) : gi (l.map toL) (k : Int) = toL (gi l (k : Int)) := mQ toL (by omega) (by omega)
theorem kY {l : List aD} (p : Int) : ∀ k : Nat, k ≤ l.length → gY l p k = (ay (gX ((l.map toL).take k)) p).getD (-1)
 | 0, _ => rfl
 | k + 1, hk => by
  rw [gY, ep (by rw [List.length_map]; omega), jh, dP, mF (by omega), kY p k (by omega)]
  by_cases e : (gi l (k : Int)).aH.ab = p
  ·rw [if_pos e, if_pos (by rw [← e]; rfl)]; rfl
  ·rw [if_neg e, if_neg (fun hh => e (by rw [hh]; rfl))]
theorem kN (os : List ai) (l : List aD) : bK ⟨os, l.map toL⟩ = bS l := by
 unfold bK bS; rw [List.map_map]; rfl
theorem v30 (l : List aD) (hp : kJ l) : VC30 l (fun r => r = bS l) := by
 unfold VC30 kJ at *
 intro _
 refine ⟨fun out x => ∃ k : Nat, x = k ∧ k ≤ l.length ∧ out = (l.take k).map (·.aH), fun _ x => (l.length - x).toNat, ⟨0, rfl, by omega, rfl⟩, ?_⟩
 rintro _ _ ⟨k, rfl, hk, rfl⟩
 refine ⟨fun hi => ?_, fun hi => ?_⟩
 ·rw [decide_eq_true_eq] at hi
  rw [wrp (n := (k : Int) + 1) (by omega) (by omega)]
  refine ⟨⟨by omega, hi⟩, by simp; omega, ⟨k + 1, by push_cast; rfl, by omega, ?_⟩, by dsimp only; omega⟩
  rw [ep (by omega), List.map_append]; rfl
 ·rw [decide_eq_false_iff_not] at hi
  unfold VC30_J1 bS
  rw [List.take_of_length_le (by omega)]
theorem v31 (l : List aD) (a : Int) (hp : lu l a) : VC31 l a (fun r => r = dD l a) := by
 unfold VC31
 intro hs
 simp only [sm] at hs
 obtain ⟨h0, h1⟩ := hp
 obtain ⟨n, rfl⟩ := Int.eq_ofNat_of_zero_le h0
 have hn : ((n : Nat) : Int).toNat = n := by omega
 refine ⟨fun x => ∃ k : Nat, x = (k : Int) - 1 ∧ k ≤ n ∧ gY l (gi l (n : Int)).aH.ab k = dD l (n : Int), fun x => (x + 1).toNat, ⟨n, by rw [wrp (by omega) (by omega)], by omega, by unfold dD; rw [hn]⟩, ?_⟩
 rintro _ ⟨k, rfl, hk, hg⟩
 refine ⟨fun hi => ?_, fun hi => ?_⟩
 ·rw [decide_eq_true_eq] at hi
  obtain ⟨m, rfl⟩ : ∃ m, k = m + 1 := ⟨k - 1, by omega⟩
  have em : (((m + 1 : Nat) : Int) - 1) = (m : Int) := by omega
  rw [em, wrp (n := (m : Int) - 1) (by omega) (by omega)]
  rw [gY] at hg
  refine ⟨by omega, by omega, fun he => ⟨by omega, ?_⟩, fun he => ⟨⟨m, rfl, by omega, ?_⟩, by dsimp only; omega⟩⟩
  ·rw [if_pos (by simpa using he)] at hg; exact hg
  ·rw [if_neg (by simpa using he)] at hg; exact hg
 ·rw [decide_eq_false_iff_not] at hi
  have : k = 0 := by omega
  subst this
  unfold VC31_J1
  exact hg
theorem nJ {h : ak} (hb : ke h.ae) : aV h = (-1, 2) := by unfold aV; rw [if_pos hb]
theorem v7 (os : List ai) (l : List aD) (hp : fJ os l) : VC7 os l (fun r => r = cl os l) := by
 obtain ⟨hp1, hp2⟩ := hp
 unfold VC7
 intro hso hsl
 simp only [sm] at hso hsl
 refine ⟨fun h1 => ?_, fun h1 => ?_⟩
 ·exact (nJ (h := ⟨os, l.map toL⟩) (by
   unfold ke
   dsimp only
   simp at h1
   rcases h1 with h1 | h1
   ·exact .inl (by omega)
   ·exact .inr (.inl (by omega)))).symm
 have h1 : ¬ os.length < 1 ∧ ¬ os.length > 8 := by simp at h1; omega
 refine ⟨fun x => ∃ k : Nat, x = k ∧ k ≤ os.length ∧ ∀ j : Nat, j < k → b7 (gi os (j : Int)) = false, fun x => (os.length - x).toNat, ⟨0, rfl, by omega, fun j hj => by omega⟩, ?_⟩
 rintro _ ⟨k, rfl, hk, hb⟩
 refine ⟨fun hi => ?_, fun hi => ?_⟩
 ·rw [decide_eq_true_eq] at hi
  rw [wrp (n := (k : Int) + 1) (by omega) (by omega)]
  refine ⟨⟨by omega, hi⟩, fun _ => ?_⟩
  rintro _ rfl
  refine ⟨fun hc => ?_, fun hc => ⟨⟨k + 1, by push_cast; rfl, by omega, fun j hj => ?_⟩, by dsimp only; omega⟩⟩
  ·exact (nJ (h := ⟨os, l.map toL⟩) (.inr (.inr (List.any_eq_true.2 ⟨_, fh (by omega) hi, hc⟩)))).symm
  ·by_cases e : j = k
   ·subst e; exact hc
   ·exact hb j (by omega)
 ·rw [decide_eq_false_iff_not] at hi
  have hbad : ¬ ke os := by
   rintro (hh | hh | hh)
   ·exact h1.1 hh
   ·exact h1.2 hh
   ·obtain ⟨o, ho, hc⟩ := List.any_eq_true.1 hh
    obtain ⟨i, hi2, rfl⟩ := List.getElem_of_mem ho
    have := hb i (by omega)
    rw [cx _ _ hi2] at this
    rw [this] at hc; cases hc
  unfold VC7_J1
  refine ⟨hp2, ?_⟩
  rintro _ rfl _ _ rfl
  unfold cl aV
  rw [if_neg hbad, kN]
  have hrc : dg (bS l) = bB (bS l) := rfl
  rw [hrc]
  refine ⟨fun he => by rw [if_pos (by simpa using he)], fun he => ?_⟩
  have he : (bB (bS l)).2 = 0 := by simpa using he
  rw [if_neg (by rw [he]; decide)]
  dsimp only
  generalize hL : l.map toL = L
  have hLl : L.length = l.length := by rw [← hL, List.length_map]
  refine ⟨fun x => ∃ k : Nat, x = k ∧ k ≤ l.length ∧ hGo os (L.drop k) k (gX (L.take k)) = hGo os L 0 [], fun x => (l.length - x).toNat, ⟨0, rfl, by omega, rfl⟩, ?_⟩
  rintro _ ⟨k, rfl, hk, hg⟩
  refine ⟨fun hi => ?_, fun hi => ?_⟩
  ·rw [decide_eq_true_eq] at hi
   have hgL : gi L (k : Int) = toL (gi l (k : Int)) := by rw [← hL]; exact mF (by omega)
   rw [mg (by omega), hgL, show cg (gX (L.take k)) (toL (gi l (k : Int))).aH.ab (toL (gi l (k : Int))).ar = gX (L.take (k + 1)) by rw [ep (by omega), jh, hgL]] at hg
   have hw := wrp (n := (k : Int) + 1) (by omega) (by omega)
   refine ⟨⟨by omega, hi⟩, fun h1 => ?_, fun h1 => ?_⟩
   ·have e : fW os (gX (L.take k)) (toL (gi l (k : Int))) = 2 := by unfold fW; rw [if_pos (by simpa [toL] using h1)]
    rw [e, if_pos (by decide)] at hg; exact hg
   ·have h1 : ¬ ((toL (gi l (k : Int))).ar < 0 ∨ (toL (gi l (k : Int))).ar ≥ os.length) := by simpa [toL] using h1
    have j4 : ∀ z, (z = true → fW os (gX (L.take k)) (toL (gi l (k : Int))) = 31) → (z = false → fW os (gX (L.take k)) (toL (gi l (k : Int))) = 0) → VC7_J4 (fun r => r = hGo os L 0 []) (fun x => ∃ k : Nat, x = k ∧ k ≤ l.length ∧ hGo os (L.drop k) k (gX (L.take k)) = hGo os L 0 []) (fun x => (l.length - x).toNat) (k : Int) z := fun z hz1 hz0 => by
     unfold VC7_J4
     refine ⟨fun hz => ?_, fun hz => ?_⟩
     ·rw [hz1 hz, if_pos (by decide)] at hg; exact hg
     ·rw [hz0 hz, if_neg (by decide)] at hg
      rw [hw]
      exact ⟨⟨k + 1, by push_cast; rfl, by omega, by push_cast; exact hg⟩, by dsimp only; omega⟩
    have j3 : ∀ z, (z = true → fW os (gX (L.take k)) (toL (gi l (k : Int))) = 32) → (z = false → fW os (gX (L.take k)) (toL (gi l (k : Int))) = if (gi l (k : Int)).aH.aY = 1 ∧ (gi l (k : Int)).aH.N ≥ (gi os (gi l (k : Int)).ar).av then 31 else 0) → VC7_J3 os l (fun r => r = hGo os L 0 []) (fun x => ∃ k : Nat, x = k ∧ k ≤ l.length ∧ hGo os (L.drop k) k (gX (L.take k)) = hGo os L 0 []) (fun x => (l.length - x).toNat) (k : Int) z := fun z hz1 hz0 => by
     unfold VC7_J3
     refine ⟨fun hz => ?_, fun hz => ⟨fun hW => ⟨by dsimp only [toL] at h1; omega, j4 _ (fun hN => ?_) (fun hN => ?_)⟩, fun hW => j4 _ (fun hN => by cases hN) (fun _ => ?_)⟩⟩
     ·rw [hz1 hz, if_pos (by decide)] at hg; exact hg
     ·rw [hz0 hz, if_pos ⟨by simpa using hW, by simpa using hN⟩]
     ·rw [hz0 hz, if_neg (fun hh => by have := hh.2; simp at hN; omega)]
     ·rw [hz0 hz, if_neg (fun hh => by have := hh.1; simp at hW; omega)]
    refine ⟨fun hW => ⟨⟨by omega, hi⟩, ?_⟩, fun hW => j3 _ (fun hM => by cases hM) (fun _ => ?_)⟩
    ·rintro _ rfl
     have hW : (gi l (k : Int)).aH.aY = 2 := by simpa using hW
     have hPl : (bS l).length = l.length := by unfold bS; rw [List.length_map]
     have hx := lL he (k := k) (by omega)
     have hgP : gi (bS l) (k : Int) = (gi l (k : Int)).aH := mQ (fun x : aD => x.aH) (l := l) (i := (k : Int)) (by omega) hi
     have hls : dE ((bS l).take k) (gi l (k : Int)).aH.ab = 1 := by
      rw [hgP] at hx
      rcases iB hx with ⟨w, _⟩ | ⟨_, w⟩
      ·omega
      ·exact w
     have hT : (L.take k).map (·.aH) = (bS l).take k := by
      rw [← hL, List.map_take, List.map_map]; rfl
     have hsm := n8 _ (L.take k) (by rw [hT]; exact hls)
     have hbg : dD l (k : Int) = (ay (gX (L.take k)) (gi l (k : Int)).aH.ab).getD 0 := by
      unfold dD
      rw [show ((k : Int)).toNat = k by omega, kY _ k (by omega), hL]
      obtain ⟨v, hv⟩ := Option.isSome_iff_exists.1 hsm
      rw [hv]; rfl
     rw [hbg]
     refine j3 _ (fun hM => ?_) (fun hM => ?_)
     ·unfold fW; rw [if_neg h1, if_pos ⟨hW, by simpa [toL] using hM⟩]
     ·unfold fW; rw [if_neg h1, if_neg (fun hh => by have := hh.2; simp at hM; exact this hM)]; rfl
    ·unfold fW; rw [if_neg h1, if_neg (fun hh => by have := hh.1; simp at hW; dsimp only [toL] at this; omega)]; rfl
  ·rw [decide_eq_false_iff_not] at hi
   have : k = L.length := by omega
   subst this
   unfold VC7_J2
   rw [List.drop_length, hGo, hLl] at hg
   exact hg
end Go.Proofs.Yteahldlmkheleaa
