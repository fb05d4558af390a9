/- Operations; what a linearization is. -/
import Derived.Test.YteahldlmkheleaaLV2
set_option linter.all false
namespace Go.Proofs.Yteahldlmkheleaa
open Go Go.Sv Go.Pu
theorem v96 (o : aa) : VC96 o (fun r => r = cW o) := by
 unfold VC96 cW
 simp only [beq_iff_eq, beq_eq_false_iff_ne]
 exact ⟨fun h => by rw [if_pos h], fun h => by rw [if_neg h]⟩
theorem v91 (o : aa) : VC91 o (fun r => r = cX o) := by
 unfold VC91 cX
 simp only [Bool.or_eq_true, decide_eq_true_eq, Bool.or_eq_false_iff, decide_eq_false_iff_not]
 refine ⟨fun h => by rw [if_pos (by omega)], fun h => ⟨fun h2 => by rw [if_neg (by omega), if_pos h2], fun h2 => ?_⟩⟩
 rintro _ rfl
 refine ⟨fun h3 => ?_, fun h3 => ?_⟩
 ·have h3 : cW o = false := by simpa using h3
  rw [if_neg (by omega), if_neg (by omega), if_pos h3]
 ·have h3 : cW o = true := by simpa using h3
  rw [if_neg (by omega), if_neg (by omega), if_neg (by rw [h3]; decide)]
theorem v57 (a b : aa) : VC57 a b (fun r => r = bF a b) := rfl
theorem v79 (l : List aa) : VC79 l (fun r => r = b6 l) := by
 unfold VC79
 intro hsm
 simp only [sm] at hsm
 refine ⟨fun h => ?_, fun h => ?_⟩
 ·rw [decide_eq_true_eq] at h
  unfold b6; rw [if_pos (by omega)]
 ·rw [decide_eq_false_iff_not] at h
  have e : b6 l = cY l l.length [] [] 0 := by unfold b6; rw [if_neg (by omega)]
  rw [e]
  refine ⟨fun u la x => ∃ i f : Nat, x = i ∧ i + f = l.length ∧ cY l f u la i = cY l l.length [] [] 0, fun _ _ x => (l.length - x).toNat, ⟨0, l.length, rfl, by omega, rfl⟩, ?_⟩
  rintro u la _ ⟨i, f, rfl, hif, hgo⟩
  refine ⟨fun hx => ⟨⟨by omega, by simpa using hx⟩, ?_⟩, fun hx => ?_⟩
  ·rw [decide_eq_true_eq] at hx
   obtain ⟨f, rfl⟩ : ∃ k, f = k + 1 := ⟨f - 1, by omega⟩
   rw [cY] at hgo
   rintro _ rfl
   refine ⟨fun ha => ?_, fun ha => ?_⟩
   ·rw [bne_iff_ne] at ha
    rw [← hgo, if_pos ha]
   ·have ha : cX (gi l (i : Int)) = 0 := by simpa using ha
    rw [if_neg (by omega)] at hgo
    have j2 : ¬ jU l u i → l5 l la i = false → VC79_J2 l (fun u la x => ∃ i f : Nat, x = i ∧ i + f = l.length ∧ cY l f u la i = cY l l.length [] [] 0) (fun _ _ x => (l.length - x).toNat) u la i (ir l u i) := by
     intro h1 h2
     rw [if_neg h1, if_neg (by rw [h2]; decide)] at hgo
     unfold VC79_J2
     rw [wrp (by omega) (by omega)]
     exact ⟨⟨i + 1, f, by simp, by omega, hgo⟩, by dsimp only; omega⟩
    have j4 : ¬ jU l u i → ∀ b, b = l5 l la i → VC79_J4 l (fun r => r = cY l l.length [] [] 0) (fun u la x => ∃ i f : Nat, x = i ∧ i + f = l.length ∧ cY l f u la i = cY l l.length [] [] 0) (fun _ _ x => (l.length - x).toNat) u la i b := by
     rintro h1 b rfl
     unfold VC79_J4
     refine ⟨fun hb => ?_, fun hb => ⟨fun he => ?_, fun he => ?_⟩⟩
     ·rw [if_neg h1, if_pos hb] at hgo
      exact hgo
     ·rw [decide_eq_true_eq] at he
      have := j2 h1 hb
      unfold ir at this
      rw [if_pos he] at this
      exact this
     ·rw [decide_eq_false_iff_not] at he
      have := j2 h1 hb
      unfold ir at this
      rw [if_neg he] at this
      exact this
    have j3 : ∀ b, (b = true ↔ jU l u i) → VC79_J3 l (fun r => r = cY l l.length [] [] 0) (fun u la x => ∃ i f : Nat, x = i ∧ i + f = l.length ∧ cY l f u la i = cY l l.length [] [] 0) (fun _ _ x => (l.length - x).toNat) u la i b := by
     intro b hb
     unfold VC79_J3
     refine ⟨fun h => ?_, fun h => ?_⟩
     ·rw [if_pos (hb.mp h)] at hgo
      exact hgo
     ·have h1 : ¬ jU l u i := fun h2 => by rw [hb.mpr h2] at h; cases h
      refine ⟨fun hs => ?_, fun hs => j4 h1 _ ?_⟩
      ·rintro _ rfl
       refine j4 h1 _ ?_
       unfold l5
       rw [hs]; rfl
      ·unfold l5
       rw [hs]; rfl
    have m1 : ∀ z : Bool, (z = true ↔ (0 < i ∧ (gi l (i : Int)).aA ≤ (gi l ((i : Int) - 1)).aA)) → z = false → 
      ((decide ((ay u (gi l (i : Int)).aA).getD 0 > 0)) = true → VC79_J3 l (fun r => r = cY l l.length [] [] 0) (fun u la x => ∃ i f : Nat, x = i ∧ i + f = l.length ∧ cY l f u la i = cY l l.length [] [] 0) (fun _ _ x => (l.length - x).toNat) u la i true) ∧
      ((decide ((ay u (gi l (i : Int)).aA).getD 0 > 0)) = false → ((decide ((gi l (i : Int)).End ≥ 0)) = true → VC79_J3 l (fun r => r = cY l l.length [] [] 0) (fun u la x => ∃ i f : Nat, x = i ∧ i + f = l.length ∧ cY l f u la i = cY l l.length [] [] 0) (fun _ _ x => (l.length - x).toNat) u la i (decide ((ay u (gi l (i : Int)).End).getD 0 > 0))) ∧ ((decide ((gi l (i : Int)).End ≥ 0)) = false → VC79_J3 l (fun r => r = cY l l.length [] [] 0) (fun u la x => ∃ i f : Nat, x = i ∧ i + f = l.length ∧ cY l f u la i = cY l l.length [] [] 0) (fun _ _ x => (l.length - x).toNat) u la i false)) := by
     intro z hz hzf
     have hz0 : ¬ (0 < i ∧ (gi l (i : Int)).aA ≤ (gi l ((i : Int) - 1)).aA) := fun h => by rw [hz.mpr h] at hzf; cases hzf
     simp only [decide_eq_true_eq, decide_eq_false_iff_not]
     refine ⟨fun hu => j3 _ ⟨fun _ => Or.inr (Or.inl hu), fun _ => rfl⟩, fun hu => ⟨fun he => j3 _ ⟨fun h => Or.inr (Or.inr ⟨he, by rw [decide_eq_true_eq] at h; exact h⟩), fun h => ?_⟩, fun he => j3 _ ⟨(fun h => by cases h), fun h => ?_⟩⟩⟩
     ·rw [decide_eq_true_eq]
      rcases h with h | h | h
      ·exact absurd h hz0
      ·exact absurd h hu
      ·exact h.2
     ·rcases h with h | h | h
      ·exact absurd h hz0
      ·exact absurd h hu
      ·exact absurd h.1 he
    refine ⟨fun h0 => ?_, fun h0 => ?_⟩
    ·rw [decide_eq_true_eq] at h0
     rw [wrp (n := (i : Int) - 1) (by omega) (by omega)]
     refine ⟨⟨by omega, by omega⟩, fun hs => ?_, fun hs => ?_⟩
     ·rw [decide_eq_true_eq] at hs
      exact j3 true ⟨fun _ => Or.inl ⟨by omega, hs⟩, fun _ => rfl⟩
     ·refine m1 (decide ((gi l (i : Int)).aA ≤ (gi l ((i : Int) - 1)).aA)) ?_ hs
      rw [decide_eq_true_eq]
      exact ⟨fun h => ⟨by omega, h⟩, fun h => h.2⟩
    ·rw [decide_eq_false_iff_not] at h0
     exact m1 false ⟨(fun h => by cases h), fun h => by omega⟩ rfl
  ·rw [decide_eq_false_iff_not] at hx
   have : f = 0 := by omega
   subst this
   unfold VC79_J1
   rw [← hgo]; rfl
theorem jv : ∀ (p : List ah) (u : List (Int × Int)), (∀ i, 0 ≤ (ay u i).getD 0 ∧ (ay u i).getD 0 + p.length ≤ 4611686018427387904) → ∀ i, (ay (p.foldl (fun u p => fH u p.Oper) u) i).getD 0 = (ay u i).getD 0 + ((opers p).count i : Nat)
 | [], u, _, i => by simp [opers]
 | q :: p, u, h, i => by
  rw [List.foldl_cons]
  have hq := h q.Oper
  simp only [List.length_cons] at hq
  have hg : ∀ j, (ay (fH u q.Oper) j).getD 0 = (ay u j).getD 0 + if j = q.Oper then 1 else 0 := by
   intro j
   unfold fH
   rw [dP]
   by_cases hj : j = q.Oper
   ·subst hj; rw [if_pos rfl, if_pos rfl]
    show IntKind.i64.wrap _ = _
    exact wrp (by omega) (by omega)
   ·rw [if_neg hj, if_neg hj]; omega
  rw [jv p _ (fun j => ?_) i, hg i]
  ·unfold opers
   rw [List.map_cons, List.count_cons]
   by_cases hj : i = q.Oper
   ·subst hj; simp; omega
   ·rw [if_neg hj, if_neg (by simp; omega)]; omega
  ·have := h j
   simp only [List.length_cons] at this
   rw [hg j]
   split <;> omega
theorem oa {p : List ah} (h : p.length ≤ 140737488355328) (i : Int) : 0 ≤ (ay (fG p) i).getD 0 ∧ (ay (fG p) i).getD 0 ≤ p.length ∧ ((ay (fG p) i).getD 0 = 0 ↔ i ∉ opers p) := by
 have := jv p [] (fun i => by simp only [ay]; exact ⟨by decide, by show (0 : Int) + _ ≤ _; omega⟩) i
 have h0 : (ay ([] : List (Int × Int)) i).getD 0 = 0 := rfl
 rw [h0] at this
 unfold fG
 rw [this]
 have hc : (opers p).count i ≤ (opers p).length := List.count_le_length ..
 have hl : (opers p).length = p.length := by unfold opers; rw [List.length_map]
 refine ⟨by omega, by omega, ?_⟩
 rw [← List.count_eq_zero (a := i) (l := opers p)]
 omega
theorem kF {p : List ah} {t : Nat} (h : t < p.length) : p.take (t + 1) = p.take t ++ [gi p (t : Int)] := by
 rw [cx _ _ h, List.take_succ_eq_append_getElem h]
theorem my {p : List ah} {t : Nat} (h : t < p.length) : fG (p.take (t + 1)) = fH (fG (p.take t)) (gi p (t : Int)).Oper := by
 unfold fG
 rw [kF h, List.foldl_append]; rfl
theorem mO {p : List ah} {t : Nat} (h : t < p.length) : opers (p.take (t + 1)) = opers (p.take t) ++ [(gi p (t : Int)).Oper] := by
 unfold opers
 rw [kF h, List.map_append]; rfl
theorem v76 (p : List ah) : VC76 p (fun r => r = du p) := by
 unfold VC76
 intro hs
 simp only [sm] at hs
 refine ⟨fun x m => ∃ t : Nat, x = t ∧ t ≤ p.length ∧ m = fG (p.take t), fun x _ => (p.length - x).toNat, ⟨0, rfl, by omega, rfl⟩, ?_⟩
 rintro _ _ ⟨t, rfl, ht, rfl⟩
 refine ⟨fun h => ?_, fun h => ?_⟩
 ·rw [decide_eq_true_eq] at h
  rw [wrp (n := (t : Int) + 1) (by omega) (by omega)]
  exact ⟨⟨by omega, by omega⟩, ⟨t + 1, by simp, by omega, by rw [my (by omega)]; rfl⟩, by dsimp only; omega⟩
 ·rw [decide_eq_false_iff_not] at h
  have : t = p.length := by omega
  subst this
  unfold VC76_J1 du
  rw [List.take_length]
theorem v89 (i : Int) (m : List (Int × Int)) : VC89 i m (fun r => r = dr i m) := rfl
theorem ld (l : List aa) (p : List ah) (b : Bool) (t : Nat) : eC l p b (t + 1) = eC l p b t ++ (if gz l p b (t : Int) = true then [(t : Int)] else []) := by
 unfold eC
 rw [List.range_succ, List.filter_append, List.map_append, List.filter_cons, List.filter_nil]
 split <;> rfl
theorem mG (l : List aa) (p : List ah) (b : Bool) (t : Nat) : (eC l p b t).length ≤ t := by
 unfold eC
 rw [List.length_map]
 have := List.length_filter_le (fun i : Nat => gz l p b (i : Int)) (List.range t)
 rw [List.length_range] at this
 exact this
theorem j52 {l : List aa} {p : List ah} {b : Bool} {t : Nat} {I1 : List Int → Int → Prop} {μ1 : List Int → Int → Nat} (ht : t < 1000000)
  (k : I1 (eC l p b (t + 1)) ((t + 1 : Nat) : Int) ∧ μ1 (eC l p b (t + 1)) ((t + 1 : Nat) : Int) < μ1 (eC l p b t) t) {z : Bool} (hz : z = gz l p b (t : Int)) : VC64_J3 I1 μ1 (eC l p b t) t (eC l p b t) z := by
 have hle := mG l p b t
 have hw : IntKind.i64.wrap ((t : Int) + 1) = ((t + 1 : Nat) : Int) := by rw [wrp (by omega) (by omega)]; rfl
 unfold VC64_J3 VC64_J2
 rw [hw]
 rw [ld, ← hz] at k
 refine ⟨fun h => ⟨?_, ?_⟩, fun h => ?_⟩
 ·rw [List.length_singleton]; omega
 ·rw [if_pos h] at k; exact k
 ·rw [if_neg (by rw [h]; decide), List.append_nil] at k; exact k
theorem v64 (l : List aa) (p : List ah) (b : Bool) (hb : lV l p b) : VC64 l p b (fun r => r = c7 l p b) := by
 unfold VC64 c7
 unfold lV at hb
 intro hl hp
 simp only [sm] at hl hp
 rintro _ rfl
 refine ⟨fun out x => ∃ t : Nat, x = t ∧ t ≤ l.length ∧ out = eC l p b t, fun _ x => (l.length - x).toNat, ⟨0, rfl, by omega, rfl⟩, ?_⟩
 rintro _ _ ⟨t, rfl, ht, rfl⟩
 refine ⟨fun h => ?_, fun h => ?_⟩
 ·rw [decide_eq_true_eq] at h
  refine ⟨⟨by omega, by omega⟩, fun hq => ?_, fun hq => ?_⟩
  ·rintro _ rfl
   refine j52 (by omega) ⟨⟨t + 1, rfl, by omega, rfl⟩, by omega⟩ ?_
   unfold gz dr du
   rw [hq, Bool.true_and, Bool.eq_iff_iff, beq_iff_eq, (oa hp _).2.2]
   simp
  ·refine j52 (by omega) ⟨⟨t + 1, rfl, by omega, rfl⟩, by omega⟩ ?_
   unfold gz
   rw [hq, Bool.false_and]
 ·rw [decide_eq_false_iff_not] at h
  have : t = l.length := by omega
  subst this
  rfl
theorem v46 (l : List aa) (p : List ah) (hb : jR l p) : VC46 l p (fun r => r = bO l p) := by
 unfold VC46
 intro _ _
 unfold jR at hb
 first
  | exact ⟨hb, fun r hr _ => hr.symm⟩
  | exact fun r hr _ => hr.symm
theorem oA {l : List aa} {p : List ah} {t : Nat} (h : t < p.length) (hw : dx l p t = true) (h2 : ∀ y : Nat, y < t → dx l p y = false) : bR l p = t := by
 unfold bR jE
 have : (List.range p.length).find? (dx l p) = some t := by
  rw [List.find?_range_eq_some]
  exact ⟨hw, by rw [List.mem_range]; omega, fun y hy => by simp [h2 y hy]⟩
 rw [this]
theorem l6 {l : List aa} {p : List ah} (h2 : ∀ y : Nat, y < p.length → dx l p y = false) : bR l p = -1 := by
 unfold bR jE
 have : (List.range p.length).find? (dx l p) = none := by
  rw [List.find?_range_eq_none]
  intro y hy
  simp [h2 y hy]
 rw [this]
def qt (l : List aa) (m : List (Int × Int)) (p : List ah) (t : Nat) : Prop := ∀ k : Int, 0 ≤ (ay m k).getD 0 ∧ (ay m k).getD 0 ≤ t ∧ (0 ≤ k → k < l.length → ((ay m k).getD 0 = 0 ↔ k ∉ opers (p.take t)))
theorem pc {l : List aa} {p : List ah} {t : Nat} {k : Nat} (h : 0 ≤ (gi p (t : Int)).Oper ∧ (gi p (t : Int)).Oper < l.length) (hk : k < l.length) (ha : bF (gi l (k : Int)) (gi l (gi p (t : Int)).Oper) = true) (hn : (k : Int) ∉ opers (p.take t)) : dx l p t = true := by
 unfold dx
 rw [Bool.and_eq_true, decide_eq_true_eq, List.any_eq_true]
 exact ⟨h, k, by rw [List.mem_range]; exact hk, by rw [ha]; simp [hn]⟩
theorem pd {l : List aa} {p : List ah} {t : Nat} (hn : ∀ k : Nat, k < l.length → ¬ (bF (gi l (k : Int)) (gi l (gi p (t : Int)).Oper) = true ∧ (k : Int) ∉ opers (p.take t))) : dx l p t = false := by
 unfold dx
 rw [Bool.and_eq_false_iff]
 right
 rw [List.any_eq_false]
 intro k hk
 rw [List.mem_range] at hk
 have := hn k hk
 simpa using this
theorem v45 (l : List aa) (p : List ah) : VC45 l p (fun r => r = bR l p) := by
 unfold VC45
 intro hl hp
 simp only [sm] at hl hp
 refine ⟨fun m x => ∃ t : Nat, x = t ∧ t ≤ p.length ∧ qt l m p t ∧ ∀ y : Nat, y < t → dx l p y = false, fun _ x => (p.length - x).toNat, ⟨0, rfl, by omega, fun k => ⟨Int.le_refl 0, Int.le_refl 0, fun _ _ => by simp [opers, ay]⟩, fun y hy => by omega⟩, ?_⟩
 rintro m _ ⟨t, rfl, ht, hm, hb⟩
 refine ⟨fun h => ?_, fun h => ?_⟩
 ·rw [decide_eq_true_eq] at h
  have hto := mO (p := p) (t := t) (by omega)
  have hw : IntKind.i64.wrap ((t : Int) + 1) = ((t + 1 : Nat) : Int) := by rw [wrp (by omega) (by omega)]; rfl
  refine ⟨⟨by omega, by omega⟩, fun hq => ?_, fun hq => ?_⟩
  ·rw [Bool.or_eq_true, decide_eq_true_eq, decide_eq_true_eq] at hq
   unfold VC45_J2
   rw [hw]
   refine ⟨⟨t + 1, rfl, by omega, fun k => ?_, fun y hy => ?_⟩, by dsimp only; omega⟩
   ·obtain ⟨a1, a2, a3⟩ := hm k
    refine ⟨a1, by omega, fun b1 b2 => ?_⟩
    rw [a3 b1 b2, hto, List.mem_append, List.mem_singleton]
    constructor
    ·rintro hk (hk2 | hk2)
     ·exact hk hk2
     ·omega
    ·intro hk hk2; exact hk (Or.inl hk2)
   ·by_cases hy2 : y < t
    ·exact hb y hy2
    ·have : y = t := by omega
     subst this
     unfold dx
     rw [Bool.and_eq_false_iff]; left
     rw [decide_eq_false_iff_not]; omega
  ·rw [Bool.or_eq_false_iff, decide_eq_false_iff_not, decide_eq_false_iff_not] at hq
   have hin : 0 ≤ (gi p (t : Int)).Oper ∧ (gi p (t : Int)).Oper < l.length := by omega
   refine ⟨fun x => ∃ u : Nat, x = u ∧ u ≤ l.length ∧ ∀ k : Nat, k < u → ¬ (bF (gi l (k : Int)) (gi l (gi p (t : Int)).Oper) = true ∧ (k : Int) ∉ opers (p.take t)), fun x => (l.length - x).toNat, ⟨0, rfl, by omega, fun k hk => by omega⟩, ?_⟩
   rintro _ ⟨u, rfl, hu, hk⟩
   have hw2 : u < l.length → IntKind.i64.wrap ((u : Int) + 1) = ((u + 1 : Nat) : Int) := fun _ => by rw [wrp (by omega) (by omega)]; rfl
   refine ⟨fun h2 => ?_, fun h2 => ?_⟩
   ·rw [decide_eq_true_eq] at h2
    refine ⟨⟨by omega, by omega⟩, hin, ?_⟩
    rintro _ rfl
    obtain ⟨a1, a2, a3⟩ := hm (u : Int)
    have next : ¬ (bF (gi l (u : Int)) (gi l (gi p (t : Int)).Oper) = true ∧ (u : Int) ∉ opers (p.take t)) → ∀ k : Nat, k < u + 1 → ¬ (bF (gi l (k : Int)) (gi l (gi p (t : Int)).Oper) = true ∧ (k : Int) ∉ opers (p.take t)) := by
     intro hn k hk1
     by_cases hk2 : k < u
     ·exact hk k hk2
     ·have : k = u := by omega
      subst this; exact hn
    refine ⟨fun ha => ?_, fun ha => ?_⟩
    ·unfold VC45_J4
     refine ⟨fun hz => ?_, fun hz => ?_⟩
     ·rw [beq_iff_eq, a3 (by omega) (by omega)] at hz
      exact (oA (by omega) (pc hin (by omega) ha hz) hb).symm
     ·rw [beq_eq_false_iff_ne] at hz
      rw [hw2 (by omega)]
      exact ⟨⟨u + 1, rfl, by omega, next (fun hn => hz ((a3 (by omega) (by omega)).mpr hn.2))⟩, by dsimp only; omega⟩
    ·unfold VC45_J4
     refine ⟨(fun hz => by cases hz), fun hz => ?_⟩
     rw [hw2 (by omega)]
     exact ⟨⟨u + 1, rfl, by omega, next (fun hn => by rw [ha] at hn; cases hn.1)⟩, by dsimp only; omega⟩
   ·rw [decide_eq_false_iff_not] at h2
    have : u = l.length := by omega
    subst this
    unfold VC45_J3 VC45_J2
    rw [hw]
    have hq2 := hm (gi p (t : Int)).Oper
    rw [wrp (by omega) (by omega)]
    refine ⟨⟨t + 1, rfl, by omega, fun k => ?_, fun y hy => ?_⟩, by dsimp only; omega⟩
    ·obtain ⟨a1, a2, a3⟩ := hm k
     rw [dP]
     by_cases he : k = (gi p (t : Int)).Oper
     ·rw [if_pos he]
      show 0 ≤ (ay m (gi p (t : Int)).Oper).getD 0 + 1 ∧ (ay m (gi p (t : Int)).Oper).getD 0 + 1 ≤ _ ∧ (_ → _ → ((ay m (gi p (t : Int)).Oper).getD 0 + 1 = 0 ↔ _))
      refine ⟨by omega, by omega, fun _ _ => ⟨fun h => by omega, fun h => ?_⟩⟩
      rw [hto] at h
      exact absurd (by rw [he]; simp) h
     ·rw [if_neg he]
      refine ⟨a1, by omega, fun b1 b2 => ?_⟩
      rw [a3 b1 b2, hto]
      simp [he]
    ·by_cases hy2 : y < t
     ·exact hb y hy2
     ·have : y = t := by omega
      subst this
      exact pd hk
 ·rw [decide_eq_false_iff_not] at h
  have : t = p.length := by omega
  subst this
  exact (l6 hb).symm
theorem n7 {l : List aa} (h : (b6 l).2 = 0) : l.length ≤ 5000 := by
 unfold b6 at h
 split at h
 ·cases h
 ·omega
theorem v86 (o : ai) (l : List aa) (p : List ah) (hp : gj o l p) : VC86 o l p (fun r => r = c8 o l p) := by
 unfold VC86 c8
 intro _ _ _
 refine ⟨hp.1, ?_⟩
 rintro _ rfl _ rfl
 refine ⟨fun h => ?_, fun h => ?_⟩
 ·rw [Bool.or_eq_true, bne_iff_ne, bne_iff_ne] at h
  rw [if_pos h]
 ·rw [Bool.or_eq_false_iff, bne_eq_false_iff_eq, bne_eq_false_iff_eq] at h
  rw [if_neg (by omega)]
  refine ⟨hp, ?_⟩
  rintro _ rfl
  refine ⟨fun h2 => ?_, fun h2 => ?_⟩
  ·rw [bne_iff_ne] at h2
   rw [if_pos h2]
  ·rw [bne_eq_false_iff_eq] at h2
   rw [if_neg (by omega)]
   rintro _ rfl
   refine ⟨fun h3 => ?_, fun h3 => ?_⟩
   ·rw [decide_eq_true_eq] at h3
    rw [if_pos h3]
   ·rw [decide_eq_false_iff_not] at h3
    rw [if_neg h3]
    have hl := n7 h.2
    refine ⟨show l.length ≤ _ by omega, ?_⟩
    rintro _ rfl _
    refine ⟨fun h4 => ?_, fun h4 => ?_⟩
    ·rw [decide_eq_true_eq] at h4
     rw [if_pos (by omega)]
     exact ⟨⟨by omega, by omega⟩, rfl⟩
    ·rw [decide_eq_false_iff_not] at h4
     rw [if_neg (by omega)]
theorem v70 (o : ai) (l : List aa) (p : List ah) (hp : gj o l p) : VC70 o l p (fun r => r = c6 o l p) := by
 unfold VC70 c6
 intro _ _ _
 refine ⟨hp, ?_⟩
 rintro _ rfl
 rfl
theorem nW {p : List ah} {i : Int} {t : Nat} (ht : t ≤ p.length) : i ∈ opers (p.take t) ↔ ∃ k : Nat, k < t ∧ (gi p (k : Int)).Oper = i := by
 unfold opers
 rw [List.mem_map]
 constructor
 ·rintro ⟨q, hq, rfl⟩
  obtain ⟨k, hk, rfl⟩ := List.getElem_of_mem hq
  rw [List.length_take] at hk
  exact ⟨k, by omega, by rw [cx _ _ (by omega), List.getElem_take]⟩
 ·rintro ⟨k, hk, rfl⟩
  refine ⟨gi p (k : Int), ?_, rfl⟩
  rw [cx _ _ (by omega), List.mem_take_iff_getElem]
  exact ⟨k, by omega, rfl⟩
end Go.Proofs.Yteahldlmkheleaa
