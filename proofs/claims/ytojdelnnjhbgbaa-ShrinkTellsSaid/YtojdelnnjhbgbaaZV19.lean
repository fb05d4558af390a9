/- The code's answers are the document's; law 3. -/
import Derived.Test.YtojdelnnjhbgbaaZV18
import Derived.Test.YtojdelnnjhbgbaaZV12
set_option linter.all false
namespace Go.Proofs.Ytojdelnnjhbgbaa
open Go Go.Sv Go.Pu
theorem lin_eq {o : Api_Object} {l : List Api_Event} (h10 : l.length ≤ 10) (hc : callsN l ≤ 5) : ref41_Lin o l = shrink_Lin ⟨o, l⟩ := by
 by_cases h : caseE o l = 0
 ·have hck := check_zero h h10
  have hof : ref27_Of l = (opsOf l, 0) := by
   unfold ref27_Of oper_Of; rw [if_neg (by have := (case_ok h).2.1; omega)]
  have hcl := calls_len l
  obtain ⟨a1, a2⟩ := all_is hck (by omega)
  have hr : ref30_Check o (opsOf l) 20 = 0 := hck
  rw [lin_good h h10]
  unfold ref41_Lin
  rw [if_neg (by show ¬ ref26_Check o l ≠ 0; unfold ref26_Check; simp [h]), hof, hr, if_neg (by simp), a1]
  unfold some_
  refine congrArg (·, (0 : Int)) (decide_eq_decide.2 ?_)
  exact List.length_pos_iff
 ·rw [lin_bad h]
  unfold ref41_Lin
  have hh : ref26_Check o l = caseE o l := rfl
  rw [hh, if_pos h]
theorem calls_take (l : List Api_Event) (k : Nat) : callsN (l.take k) ≤ callsN l := calls_sub (List.take_sublist _ _)
theorem rhead_least {o : Api_Object} {l : List Api_Event} {h : Nat} (hl : h ≤ l.length) (hno : h < l.length → (ref41_Lin o (l.take h)).1 = false) (hle : ∀ m : Nat, m < h → (ref41_Lin o (l.take m)).1 = true) : ∀ (k n : Nat), n + k = l.length → n ≤ h → rHeadGo o l k (n : Int) = (h : Int)
 | 0, n, hk, hn => by rw [rHeadGo]; omega
 | k + 1, n, hk, hn => by
  rw [rHeadGo, show ((n : Nat) : Int).toNat = n by omega]
  by_cases e : n = h
  ·subst e
   rw [if_pos (hno (by omega))]
  ·rw [if_neg (by rw [hle n (by omega)]; simp)]
   have := rhead_least hl hno hle k (n + 1) (by omega) (by omega)
   push_cast at this
   exact this
theorem heads_eq {o : Api_Object} {l : List Api_Event} (h10 : l.length ≤ 10) (hc : callsN l ≤ 5) : ref41_Head o l = shrink_Head ⟨o, l⟩ := by
 have hL := lin_eq (o := o) h10 hc
 unfold ref41_Head
 rw [hL]
 by_cases h : caseE o l = 0
 ·cases hs : some_ o l with
  | true =>
   rw [head_miss h h10 hs, lin_good h h10, hs, if_neg (by simp), if_pos rfl]
  | false =>
   obtain ⟨g1, g2, g3, g4, g5⟩ := head_is h h10 hs
   rw [lin_good h h10, hs, if_neg (by simp), if_neg (by simp)]
   have hk : ∀ m : Nat, m ≤ l.length → (ref41_Lin o (l.take m)).1 = some_ o (l.take m) := fun m hm => by
    have hlen : (l.take m).length ≤ 10 := by rw [List.length_take]; omega
    rw [lin_eq hlen (by have := calls_take l m; omega), lin_good (case_take h m) hlen]
   have := rhead_least (o := o) (l := l) (h := (shrink_Head ⟨o, l⟩).1.toNat) (by omega) (fun _ => by rw [hk _ (by omega)]; exact g4) (fun m hm => by rw [hk _ (by omega)]; exact g5 m (by omega)) l.length 0 (by omega) (by omega)
   rw [show ((0 : Nat) : Int) = 0 from rfl] at this
   rw [this]
   apply Prod.ext
   ·show (((shrink_Head ⟨o, l⟩).1.toNat : Nat) : Int) = _
    omega
   ·exact g1.symm
 ·rw [head_bad h, lin_bad h, if_pos h]
theorem part_eq {o : Api_Object} {l : List Api_Event} (h10 : l.length ≤ 10) (hc : callsN l ≤ 5) : ∀ (i : Nat) (out : List Api_Event), out.Sublist l → rPartGo o i out = partGo o i out
 | 0, out, _ => rfl
 | i + 1, out, hs => by
  rw [rPartGo, partGo, ← wo_eq]
  have hw : (shrink_Without out [(i : Int)]).Sublist l := (wo_sub [(i : Int)] out 0 []).trans hs
  have hwl := hw.length_le
  have hwc := calls_sub hw
  rw [heads_eq (o := o) (l := shrink_Without out [(i : Int)]) (by omega) (by omega)]
  refine part_eq h10 hc i _ ?_
  split
  ·exact (List.take_sublist _ _).trans hw
  ·exact hs
theorem v3 {A B : Prop} (o : Api_Object) (l : List Api_Event) (ho : (inR .i64 o.States ∧ inR .i64 o.Kinds ∧ A)) (_ : B) : VC3 o l (fun r => r = true) := by
 have hO : preO o := ⟨ho.1, ho.2.1⟩
 intro _ _
 rintro _ rfl
 refine ⟨fun _ => by rintro _ rfl; rfl, fun h => ?_⟩
 obtain ⟨h10, hrl⟩ := few_len (by simpa using h)
 rintro _ rfl _
 refine ⟨fun _ => by rintro _ rfl; rfl, fun h5 => ?_⟩
 have h5 := of_decide_eq_false h5
 have hpr : preRL o l := by
  show (ref27_Of l).1.length ≤ 5
  have : (ref27_Of l).1.length = (oper_Of l).1.length := rfl
  omega
 refine ⟨hO, ?_⟩
 rintro _ rfl
 refine ⟨hpr, ?_⟩
 rintro _ rfl
 refine ⟨hO, ?_⟩
 rintro _ rfl
 refine ⟨hpr, ?_⟩
 rintro _ rfl
 refine ⟨⟨hO, hrl, by show l.length ≤ 1000000; omega⟩, ?_⟩
 rintro _ rfl _ _
 refine ⟨hpr, ?_⟩
 rintro _ rfl _
 have main : ref41_Lin o l = shrink_Lin ⟨o, l⟩ ∧ ref41_Head o l = shrink_Head ⟨o, l⟩ ∧ ref41_Part o l = ((shrink_Part ⟨o, l⟩).1.Events, (shrink_Part ⟨o, l⟩).2) ∧ ((shrink_Part ⟨o, l⟩).2 = 0 → (shrink_Part ⟨o, l⟩).1.Object = o) := by
  by_cases hev : (event_Check l).2 = 0
  ·have hc := pre_calls hpr hev
   have hH := heads_eq (o := o) h10 hc
   refine ⟨lin_eq h10 hc, hH, ?_, ?_⟩
   ·unfold ref41_Part shrink_Part
    rw [hH]
    by_cases hh : (shrink_Head ⟨o, l⟩).2 ≠ 0
    ·rw [if_pos hh, if_pos hh]
    ·rw [if_neg hh, if_neg hh]
     dsimp only
     rw [part_eq h10 hc _ _ (List.take_sublist _ _)]
     rfl
   ·unfold shrink_Part
    split
    ·rename_i hh; intro h; exact absurd h hh
    ·intro _; rfl
  ·have hcase : caseE o l ≠ 0 := fun h => hev (case_ok h).2.1
   have hR : ref41_Lin o l = (false, caseE o l) := by
    unfold ref41_Lin
    have hh : ref26_Check o l = caseE o l := rfl
    rw [hh, if_pos hcase]
   have hRH : ref41_Head o l = (0, caseE o l) := by
    unfold ref41_Head; rw [hR, if_pos hcase]
   have hP : shrink_Part ⟨o, l⟩ = (⟨⟨0, 0, 0, []⟩, []⟩, caseE o l) := by
    unfold shrink_Part; rw [head_bad hcase, if_pos hcase]
   refine ⟨by rw [hR, lin_bad hcase], by rw [hRH, head_bad hcase], ?_, ?_⟩
   ·rw [hP]; unfold ref41_Part; rw [hRH, if_pos hcase]
   ·rw [hP]; intro h; exact absurd h hcase
 obtain ⟨m1, m2, m3, m4⟩ := main
 rw [m1, m2, m3]
 refine ⟨fun _ => ?_, fun h => by simp at h⟩
 rintro _ rfl
 refine ⟨fun _ => ⟨fun _ => by rintro _ rfl; rfl, fun h => ?_⟩, fun h => ?_⟩
 ·rintro _ rfl
  refine ⟨fun _ => by rintro _ rfl; rfl, fun h2 => ?_⟩
  exfalso
  rw [m4 (by simpa using h)] at h2
  unfold ref23_Same at h2
  exact of_decide_eq_false h2 rfl
 ·exfalso
  revert h
  unfold ref25_Same
  simp
end Go.Proofs.Ytojdelnnjhbgbaa
