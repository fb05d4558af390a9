/- Plain lemmas about the specification functions. Conditions: in each lemma. -/
import Derived.Test.YtnhdgebboafliaaRV2
set_option linter.all false
namespace Go.Proofs.Ytnhdgebboafliaa
open Go Go.Sv Go.Pu

def prevI (order : List Int) (k : Nat) : List Int := (order.take k).reverse
theorem prevI_zero (p : List Int) : prevI p 0 = [] := by simp [prevI]
theorem prevI_succ {p : List Int} {k : Nat} (h : k < p.length) : prevI p (k + 1) = gi p (k : Int) :: prevI p k := by
  unfold prevI
  rw [List.take_succ_eq_append_getElem h, List.reverse_append, gi_nat _ _ h]; rfl
/-- What is filled, behind what is there. -/
def onto (a : List Api_Pick) (r : List Api_Pick × Int) : List Api_Pick × Int := if r.2 ≠ 0 then ([], r.2) else (a ++ r.1, 0)
theorem fill_cons {o : Api_Object} {l : List Api_Oper} {p : List Int} {k : Nat} {prev : List Int} {s : Int} (h : k < p.length) :
    fillL o l prev s (p.drop k) = if (stepOne o l prev s (pickOf o l s (gi p (k : Int)))).2 ≠ 0 then ([], (stepOne o l prev s (pickOf o l s (gi p (k : Int)))).2) else onto [pickOf o l s (gi p (k : Int))] (fillL o l (gi p (k : Int) :: prev) (stepOne o l prev s (pickOf o l s (gi p (k : Int)))).1 (p.drop (k + 1))) := by
  rw [drop_gi h, fillL]; rfl
theorem onto_onto (a b : List Api_Pick) (r : List Api_Pick × Int) : onto a (onto b r) = onto (a ++ b) r := by
  unfold onto
  by_cases h : r.2 ≠ 0
  · rw [if_pos h, if_pos h, if_pos h]
  · rw [if_neg h, if_neg h, if_neg (by simp)]
    simp

theorem fill_err (o : Api_Object) (l : List Api_Oper) (prev : List Int) (s : Int) (p : List Int) (hr : (fillL o l prev s p).2 ≠ 0) : (fillL o l prev s p).1 = [] := by
  cases p with
  | nil => exact absurd rfl hr
  | cons i is =>
    rw [fillL] at hr ⊢
    split at hr
    · rename_i h2; rw [if_pos h2]
    · rename_i h2
      rw [if_neg h2]
      split at hr
      · rename_i h3; rw [if_pos h3]
      · exact absurd rfl hr
theorem onto_nil (o : Api_Object) (l : List Api_Oper) (prev : List Int) (s : Int) (p : List Int) : onto [] (fillL o l prev s p) = fillL o l prev s p := by
  unfold onto
  by_cases hr : (fillL o l prev s p).2 ≠ 0
  · rw [if_pos hr, ← fill_err o l prev s p hr]
  · rw [if_neg hr]
    have : (fillL o l prev s p).2 = 0 := by omega
    rw [← this]; simp

theorem v22 (o : Api_Object) (l : List Api_Oper) (p : List Int) (h : preO2 o l p) : VC22 o l p (fun r => r = run_Fill o l p) := by
  obtain ⟨ho, hlen⟩ := h
  unfold VC22
  intro _ hl hp
  simp only [sm] at hl hp
  refine ⟨ho, ?_⟩
  rintro _ rfl
  simp only [bne_iff_ne, bne_eq_false_iff_eq]
  refine ⟨fun h => by unfold run_Fill; rw [if_pos h], fun e => ?_⟩
  have ef : run_Fill o l p = fillL o l [] o.Init p := by unfold run_Fill; rw [e, if_neg (by decide)]
  rw [ef]
  rintro _ rfl _ _
  unfold run_runner
  dsimp only
  refine ⟨⟨by omega, by omega, by omega⟩, fun st out i u st2 => st = st2 ∧ ∃ k : Nat, i = k ∧ k ≤ p.length ∧ out.length = k ∧ Used u (prevI p k) ∧ onto out (fillL o l (prevI p k) st (p.drop k)) = fillL o l [] o.Init p, fun _ _ i _ _ => (p.length - i).toNat, ⟨rfl, 0, rfl, by omega, by simp, by rw [prevI_zero]; exact used_nil, ?_⟩, ?_⟩
  · rw [prevI_zero, List.drop_zero]; exact onto_nil _ _ _ _ _
  rintro st out _ u _ ⟨rfl, k, rfl, hk, hol, hu, hgo⟩
  refine ⟨fun hi => ⟨⟨by omega, by simpa using hi⟩, ?_⟩, fun hi => ?_⟩
  · rw [decide_eq_true_eq] at hi
    have hi : k < p.length := by omega
    rw [fill_cons hi] at hgo
    have j2 : ∀ x, x = (pickOf o l st (gi p (k : Int))).Result → VC22_J2 p (fun r => r = fillL o l [] o.Init p) (l, [], o, o.Init) (fun st out i u st2 => st = st2 ∧ ∃ k : Nat, i = k ∧ k ≤ p.length ∧ out.length = k ∧ Used u (prevI p k) ∧ onto out (fillL o l (prevI p k) st (p.drop k)) = fillL o l [] o.Init p) (fun _ _ i _ _ => (p.length - i).toNat) st out k u st out x := by
      rintro x hx
      unfold VC22_J2
      dsimp only
      rw [show (⟨gi p (k : Int), x⟩ : Api_Pick) = pickOf o l st (gi p (k : Int)) by rw [hx]; rfl]
      rintro _ rfl
      obtain ⟨q1, q2⟩ := runner_eq (o := o) (l := l) (s := st) (p := pickOf o l st (gi p (k : Int))) hu
      rw [← q1] at hgo
      dsimp only at hgo
      simp only [bne_iff_ne, bne_eq_false_iff_eq]
      refine ⟨fun he => ?_, fun he => ?_⟩
      · rw [if_pos he] at hgo
        rw [← hgo]; unfold onto; rw [if_pos he]
      · rw [if_neg (by omega), onto_onto, ← prevI_succ hi] at hgo
        obtain ⟨q3, q4⟩ := q2 he
        rw [wrp (by omega) (by omega)]
        refine ⟨by simp only [List.length_append, List.length_cons, List.length_nil]; omega, ⟨q4.symm, k + 1, by simp, by omega, by simp [hol], by rw [prevI_succ hi]; exact q3, hgo⟩, by omega⟩
    refine ⟨fun hb => ?_, fun hb => j2 0 ?_⟩
    · rw [Bool.and_eq_true, decide_eq_true_eq, decide_eq_true_eq] at hb
      refine ⟨⟨by omega, by omega⟩, ?_⟩
      rintro _ rfl
      refine j2 _ ?_
      unfold pickOf
      dsimp only
      rw [if_pos ⟨by omega, hb.2⟩]; rfl
    · rw [Bool.and_eq_false_iff, decide_eq_false_iff_not, decide_eq_false_iff_not] at hb
      unfold pickOf
      dsimp only
      rw [if_neg (by omega)]
  · rw [decide_eq_false_iff_not] at hi
    have : k = p.length := by omega
    subst this
    unfold VC22_J1
    rw [← hgo, List.drop_length, fillL]
    unfold onto; simp

theorem run_snoc {o : Api_Object} {l : List Api_Oper} {q : Api_Pick} : ∀ {a : List Api_Pick} {prev : List Int} {s : Int}, (runL o l prev s a).2.2 = 0 →
    runL o l prev s (a ++ [q]) = if (stepOne o l ((a.map (·.Oper)).reverse ++ prev) (runL o l prev s a).1 q).2 ≠ 0 then (0, (a.length : Int), (stepOne o l ((a.map (·.Oper)).reverse ++ prev) (runL o l prev s a).1 q).2) else ((stepOne o l ((a.map (·.Oper)).reverse ++ prev) (runL o l prev s a).1 q).1, (a.length : Int) + 1, 0)
  | [], prev, s, _ => by
    simp only [List.nil_append, runL, List.map_nil, List.reverse_nil, List.length_nil]
    by_cases h : (stepOne o l prev s q).2 ≠ 0
    · rw [if_pos h, if_pos h]; rfl
    · rw [if_neg h, if_neg h]; rfl
  | p :: a, prev, s, h0 => by
    rw [runL] at h0
    by_cases he : (stepOne o l prev s p).2 ≠ 0
    · rw [if_pos he] at h0; exact absurd h0 he
    · rw [if_neg he] at h0
      dsimp only at h0
      have ih := run_snoc (o := o) (l := l) (q := q) (a := a) (prev := p.Oper :: prev) (s := (stepOne o l prev s p).1) h0
      rw [List.cons_append, runL, if_neg he, ih, runL, if_neg he]
      dsimp only
      have e : ((p :: a).map (·.Oper)).reverse ++ prev = (a.map (·.Oper)).reverse ++ (p.Oper :: prev) := by simp
      rw [e]
      split
      · simp
      · simp
theorem run_count {o : Api_Object} {l : List Api_Oper} : ∀ {a : List Api_Pick} {prev : List Int} {s : Int}, (runL o l prev s a).2.2 = 0 → (runL o l prev s a).2.1 = a.length
  | [], _, _, _ => rfl
  | p :: a, prev, s, h0 => by
    rw [runL] at h0 ⊢
    by_cases he : (stepOne o l prev s p).2 ≠ 0
    · rw [if_pos he] at h0; exact absurd h0 he
    · rw [if_neg he] at h0 ⊢
      dsimp only at h0 ⊢
      rw [run_count h0]; simp

theorem v23 (o : Api_Object) (l : List Api_Oper) (p : List Int) (h : preR2 o l p) : VC23 o l p (fun r => r = ref28_Fill o l p) := by
  have hlen : p.length ≤ 1000000 := h
  unfold VC23 ref28_Fill
  intro _ hl hp
  simp only [sm] at hl hp
  rintro _ rfl
  simp only [bne_iff_ne, bne_eq_false_iff_eq]
  have ef0 : ∀ a, run_may o o.Init = 0 → ref28_From o l o.Init a = runL o l [] o.Init a := fun a hm => by unfold ref28_From; rw [hm, if_neg (by decide)]
  by_cases hm : run_may o o.Init = 0
  · have e0 : ref28_From o l o.Init [] = (o.Init, 0, 0) := by rw [ef0 _ hm]; rfl
    have er : run_Fill o l p = fillL o l [] o.Init p := by unfold run_Fill; rw [hm, if_neg (by decide)]
    rw [e0, er]
    refine ⟨fun h => absurd rfl h, fun _ => ?_⟩
    simp only [decide_eq_true_eq, decide_eq_false_iff_not]
    refine ⟨fun out st i => ∃ k : Nat, i = k ∧ k ≤ p.length ∧ out.length = k ∧ out.map (·.Oper) = p.take k ∧ runL o l [] o.Init out = (st, (k : Int), 0) ∧ onto out (fillL o l (prevI p k) st (p.drop k)) = fillL o l [] o.Init p, fun _ _ i => (p.length - i).toNat, ⟨0, rfl, by omega, rfl, by simp, rfl, by rw [prevI_zero, List.drop_zero]; exact onto_nil _ _ _ _ _⟩, ?_⟩
    rintro out st _ ⟨k, rfl, hk, hol, hmap, hrun, hgo⟩
    refine ⟨fun hi => ?_, fun hi => ?_⟩
    · have hi : k < p.length := by omega
      rw [fill_cons hi] at hgo
      have hprev : (out.map (·.Oper)).reverse ++ [] = prevI p k := by rw [hmap, List.append_nil]; rfl
      have j2 : ∀ x, x = (pickOf o l st (gi p (k : Int))).Result → VC23_J2 o l p (fun r => r = fillL o l [] o.Init p) (fun out st i => ∃ k : Nat, i = k ∧ k ≤ p.length ∧ out.length = k ∧ out.map (·.Oper) = p.take k ∧ runL o l [] o.Init out = (st, (k : Int), 0) ∧ onto out (fillL o l (prevI p k) st (p.drop k)) = fillL o l [] o.Init p) (fun _ _ i => (p.length - i).toNat) out st k out x := by
        rintro x hx
        unfold VC23_J2
        rw [show (⟨gi p (k : Int), x⟩ : Api_Pick) = pickOf o l st (gi p (k : Int)) by rw [hx]; rfl]
        refine ⟨by simp only [List.length_append, List.length_cons, List.length_nil]; omega, ?_⟩
        rintro _ rfl
        have hsn := run_snoc (o := o) (l := l) (q := pickOf o l st (gi p (k : Int))) (a := out) (prev := []) (s := o.Init) (by rw [hrun])
        rw [hprev, hrun, hol] at hsn
        dsimp only at hsn
        rw [ef0 _ hm, hsn]
        simp only [bne_iff_ne, bne_eq_false_iff_eq]
        by_cases he : (stepOne o l (prevI p k) st (pickOf o l st (gi p (k : Int)))).2 ≠ 0
        · rw [if_pos he]
          refine ⟨fun _ => ?_, fun h => absurd h he⟩
          rw [if_pos he] at hgo
          rw [← hgo]; unfold onto; rw [if_pos he]
        · rw [if_neg he]
          refine ⟨fun h => absurd rfl h, fun _ => ?_⟩
          rw [if_neg he, onto_onto, ← prevI_succ hi] at hgo
          rw [wrp (by omega) (by omega)]
          refine ⟨⟨k + 1, by simp, by omega, by simp [hol], ?_, ?_, hgo⟩, by omega⟩
          · rw [List.map_append, hmap, List.take_succ_eq_append_getElem hi, gi_nat _ _ hi]; rfl
          · rw [hsn, if_neg he]; simp
      have jn : ¬ (0 ≤ gi p (k : Int) ∧ gi p (k : Int) < l.length) → VC23_J2 o l p (fun r => r = fillL o l [] o.Init p) (fun out st i => ∃ k : Nat, i = k ∧ k ≤ p.length ∧ out.length = k ∧ out.map (·.Oper) = p.take k ∧ runL o l [] o.Init out = (st, (k : Int), 0) ∧ onto out (fillL o l (prevI p k) st (p.drop k)) = fillL o l [] o.Init p) (fun _ _ i => (p.length - i).toNat) out st k out 0 := fun h => j2 0 (by unfold pickOf; dsimp only; rw [if_neg h])
      refine ⟨⟨by omega, by omega⟩, ⟨by omega, by omega⟩, fun hb => ⟨⟨by omega, by omega⟩, ?_⟩, fun hb => ?_⟩
      · unfold VC23_J3
        rw [decide_eq_true_eq, decide_eq_false_iff_not]
        refine ⟨fun hb2 => ⟨⟨by omega, by omega⟩, ⟨by omega, by omega⟩, ?_⟩, fun hb2 => jn (by omega)⟩
        rintro _ rfl
        refine j2 _ ?_
        unfold pickOf
        dsimp only
        rw [if_pos ⟨by omega, hb2⟩]
      · unfold VC23_J3
        exact ⟨(fun h => by cases h), fun _ => jn (by omega)⟩
    · have : k = p.length := by omega
      subst this
      unfold VC23_J1
      rw [← hgo, List.drop_length, fillL]
      unfold onto; simp
  · have e0 : ref28_From o l o.Init [] = (0, -1, run_may o o.Init) := by unfold ref28_From; rw [if_pos hm]
    rw [e0]
    refine ⟨fun _ => by unfold run_Fill; rw [if_pos hm], fun h => absurd h hm⟩
end Go.Proofs.Ytnhdgebboafliaa
