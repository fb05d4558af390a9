/- Histories of several objects may be, or not; their operations, and their parts: as the document has them. -/
import Derived.Test.YteahldlmkheleaaLV21
set_option linter.all false
namespace Go.Proofs.Yteahldlmkheleaa
open Go Go.Sv Go.Pu
theorem pL (x y : aa) : ((x.ab == y.ab) && ((x.Kind == y.Kind) && ((x.aA == y.aA) && ((x.End == y.End) && ((x.Result == y.Result) && true))))) = true ↔ x = y := by
 obtain ⟨a, b, c, d, e⟩ := x
 obtain ⟨a', b', c', d', e'⟩ := y
 simp
theorem v13 (a b : List aa) : VC13 a b (fun r => r = eS a b) := by
 unfold VC13
 intro ha hb
 simp only [sm] at ha hb
 unfold eS
 refine ⟨fun h => ?_, fun h => ?_⟩
 ·rw [bne_iff_ne] at h
  exact (decide_eq_false (fun e => h (by rw [e]))).symm
 ·have h : a.length = b.length := by rw [bne_eq_false_iff_eq] at h; omega
  refine ⟨fun x => ∃ t : Nat, x = t ∧ t ≤ a.length ∧ ∀ y : Nat, y < t → gi a (y : Int) = gi b (y : Int), fun x => (a.length - x).toNat, ⟨0, rfl, by omega, fun y hy => by omega⟩, ?_⟩
  rintro _ ⟨t, rfl, ht, hy⟩
  refine ⟨fun hi => ?_, fun hi => ?_⟩
  ·rw [decide_eq_true_eq] at hi
   rw [wrp (n := (t : Int) + 1) (by omega) (by omega)]
   refine ⟨⟨by omega, hi⟩, ⟨by omega, by omega⟩, fun hn => ?_, fun hn => ⟨⟨t + 1, by push_cast; rfl, by omega, fun y hyt => ?_⟩, by dsimp only; omega⟩⟩
   ·refine (decide_eq_false (fun e => ?_)).symm
    rw [Bool.not_eq_true'] at hn
    rw [(pL _ _).2 (by rw [e])] at hn
    cases hn
   ·by_cases e : y = t
    ·subst e
     rw [Bool.not_eq_false'] at hn
     exact (pL _ _).1 hn
    ·exact hy y (by omega)
  ·rw [decide_eq_false_iff_not] at hi
   unfold VC13_J1
   refine (decide_eq_true (lD h (fun j h0 h1 => ?_))).symm
   obtain ⟨n, rfl⟩ := Int.eq_ofNat_of_zero_le h0
   exact hy n (by omega)
theorem oG (h : ak) : (cN h).map toL = h.aj := by
 unfold cN
 rw [List.map_map]
 have : (toL ∘ fun x : aR => (⟨x.ar, x.aH⟩ : aD)) = id := by funext x; rfl
 rw [this, List.map_id]
theorem kd (h : ak) : (⟨h.ae, (cN h).map toL⟩ : ak) = h := by rw [oG]
theorem oH (h : ak) : (cN h).length = h.aj.length := by unfold cN; rw [List.length_map]
theorem pC {h : ak} {A : ai → Prop} (ho : ∀ o ∈ h.ae, inR .i64 o.ao ∧ inR .i64 o.av ∧ A o) (hf : eF h = true) : dS h ∧ h.ae.length ≤ 10 ∧ h.aj.length ≤ 20 := by
 unfold eF at hf
 rw [Bool.and_eq_true, Bool.and_eq_true, decide_eq_true_eq, decide_eq_true_eq, List.all_eq_true] at hf
 obtain ⟨⟨h1, h2⟩, h3⟩ := hf
 refine ⟨⟨fun o hm => ⟨(ho o hm).1, (ho o hm).2.1⟩, by omega, fun o hm => ?_⟩, h1, h2⟩
 have := h3 o hm
 unfold eG at this
 rw [decide_eq_true_eq] at this
 omega
theorem v3 {A : ai → Prop} {B C : Prop} (h : ak) (k : Int) (ho : (∀ o ∈ h.ae, inR .i64 o.ao ∧ inR .i64 o.av ∧ A o) ∧ B) (_ : C) : VC3 h k (fun r => r = true) := by
 unfold VC3
 intro _ _
 rintro _ rfl
 refine ⟨fun _ => ?_, fun hf => ?_⟩
 ·rintro _ rfl; rfl
 obtain ⟨hp, h10, h20⟩ := pC ho.1 (by simpa using hf)
 have hc := oH h
 refine ⟨hp, ?_⟩
 rintro _ rfl
 refine ⟨hp.2.1, ?_⟩
 rintro _ rfl _
 have hp4 : fJ h.ae (cN h) := ⟨hp.1, by omega⟩
 refine ⟨hp4, ?_⟩
 rintro _ rfl
 refine ⟨hp, ?_⟩
 rintro _ rfl _ _
 refine ⟨hp.2.1, ?_⟩
 rintro _ rfl _
 refine ⟨hp4, ?_⟩
 rintro _ rfl _ _
 refine ⟨hp, ?_⟩
 rintro _ rfl _ _
 refine ⟨hp.2.1, ?_⟩
 rintro _ rfl _
 refine ⟨hp4, ?_⟩
 rintro _ rfl _
 have e1 : cl h.ae (cN h) = aV h := by unfold cl; rw [kd]
 have e2 : df h.ae (cN h) = bP h := by unfold df; rw [kd]
 have e3 : dv h.ae (cN h) k = if eV h k then ([], false) else (fx h.aj k, true) := by unfold dv; rw [kd, oG]
 rw [e1, e2, e3]
 have j1 : VC3_J1 h k (fun r => r = true) (cd h k) (if eV h k then ([], false) else (fx h.aj k, true)) false := by
  unfold VC3_J1 cd
  refine ⟨(fun hh => by cases hh), fun _ => ?_⟩
  by_cases hn : eV h k
  ·rw [if_pos hn, if_pos hn]
   refine ⟨(fun hh => by cases hh), fun _ => ⟨fun _ => ?_, (fun hh => by cases hh)⟩⟩
   rintro _ rfl
   refine ⟨fun _ => by rintro _ rfl; rfl, fun hh => ?_⟩
   unfold cV at hh
   simp at hh
  ·rw [if_neg hn, if_neg hn]
   have hk : 0 ≤ k ∧ k < h.ae.length := by unfold eV at hn; omega
   refine ⟨fun _ => ⟨hk, fun _ => ?_⟩, (fun hh => by cases hh)⟩
   rintro _ rfl
   refine ⟨fun _ => by rintro _ rfl; rfl, fun hh => ?_⟩
   unfold cV at hh
   simp at hh
 refine ⟨fun hh => ?_, fun _ => ?_⟩
 ·simp at hh
 ·rintro _ rfl
  refine ⟨fun hh => by unfold eS at hh; simp at hh, fun _ => ?_⟩
  rintro _ rfl
  refine ⟨fun hh => by unfold cw at hh; simp at hh, fun _ => ?_⟩
  rintro _ rfl
  have e4 : dG (cd h k).aj (if eV h k then ([], false) else (fx h.aj k, true) : List al × Bool).1 = true := by
   unfold dG cd
   by_cases hn : eV h k
   ·rw [if_pos hn, if_pos hn]; exact decide_eq_true rfl
   ·rw [if_neg hn, if_neg hn]; exact decide_eq_true rfl
  rw [e4]
  exact j1
end Go.Proofs.Yteahldlmkheleaa
