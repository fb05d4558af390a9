/- The document's lines are those of the token layer. -/
import Derived.Test.YtkgcdoeldilhaaaGreatDoorNV2
set_option linter.all false
namespace Go.Proofs.YtkgcdoeldilhaaaGreatDoor
open Go Go.Sv Go.Pu
def mkR (k : Int) (l : List (Int × Bs)) : List Ref05_Token := l.map fun p => ⟨k, p.1, p.2⟩
theorem mkT_ref (k : Int) (l : List (Int × Bs)) : (mkT k l).map toRef = mkR k l := by simp [mkT, mkR, toRef]
def refRow (l : Bs) (k a : Int) : List Ref05_Token := if remark l then [] else mkR k (wgo l a [])
theorem refRow_eq (l : Bs) (k a : Int) : (rowOf l k a).map toRef = refRow l k a := by
 unfold rowOf refRow
 split
 ·rfl
 ·exact mkT_ref k _
theorem tw_seg {s : Bs} {i e : Int} (h0 : 0 ≤ i) (h1 : i ≤ e) (h2 : e ≤ s.length) (hin : ∀ j : Int, i ≤ j → j < e → gi s j ≠ 10) (hend : e < s.length → gi s e = 10) : tw (s.drop i.toNat) = (s.take e.toNat).drop i.toNat := by
 have key : ∀ (n : Nat) (i : Int), 0 ≤ i → i ≤ e → (e - i).toNat = n → (∀ j : Int, i ≤ j → j < e → gi s j ≠ 10) → tw (s.drop i.toNat) = (s.take e.toNat).drop i.toNat := by
  intro n
  induction n with
  | zero =>
   intro i h0 h1 hn hin
   have : i = e := by omega
   subst this
   rw [seg_nil (Int.le_refl _)]
   by_cases he : i < s.length
   ·rw [drop_gi h0 he]
    unfold tw
    rw [List.takeWhile_cons, hend he]
    rfl
   ·rw [List.drop_eq_nil_of_le (by omega)]; rfl
  | succ n ih =>
   intro i h0 h1 hn hin
   rw [drop_gi h0 (by omega), seg_cons h0 (by omega) h2, ← ih (i + 1) (by omega) (by omega) (by omega) (fun j j0 j1 => hin j (by omega) j1)]
   unfold tw
   rw [List.takeWhile_cons, if_pos (by simpa using hin i (Int.le_refl _) (by omega))]
 exact key _ i h0 h1 rfl hin
theorem rem_eq {s : Bs} {i e : Int} (h0 : 0 ≤ i) (h1 : i ≤ e) (h2 : e ≤ s.length) : remark ((s.take e.toNat).drop i.toNat) = (((s.take e.toNat).drop i.toNat == [99]) || (decide (e - i ≥ 2) && ((s.take (i + 2).toNat).drop i.toNat == [99, 32]))) := by
 unfold remark
 rw [hp_take]
 have hl := seg_len h0 h1 h2
 congr 1
 by_cases h : e - i ≥ 2
 ·have e1 : decide (([99, 32] : Bs).length ≤ ((s.take e.toNat).drop i.toNat).length) = true := by simp only [decide_eq_true_eq, List.length_cons, List.length_nil]; omega
  have e2 : ((s.take e.toNat).drop i.toNat).take ([99, 32] : Bs).length = (s.take (i + 2).toNat).drop i.toNat := by
   rw [List.take_drop, List.take_take]
   congr 2
   simp only [List.length_cons, List.length_nil]; omega
  rw [e1, e2, decide_eq_true h]
 ·have e1 : decide (([99, 32] : Bs).length ≤ ((s.take e.toNat).drop i.toNat).length) = false := by simp only [decide_eq_false_iff_not, List.length_cons, List.length_nil]; omega
  rw [e1, decide_eq_false h]; rfl
theorem v24 (s : Bs) (hl : len1 s) : VC24 s (fun r => r = ref05_Lines s) := by
 unfold len1 at hl
 unfold VC24 VC24_J1
 have h00 : ref05_Lines s = (linesL s 1 0).map fun l => l.map toRef := rfl
 rw [h00]
 generalize hT : (linesL s 1 0).map (fun l => l.map toRef) = T
 refine ⟨fun out at_ => 0 ≤ at_ ∧ at_ ≤ s.length + 1 ∧ (out.length : Int) ≤ at_ ∧ out ++ (linesL (s.drop at_.toNat) (out.length + 1) at_).map (fun l => l.map toRef) = T, fun _ at_ => (s.length + 1 - at_).toNat, ⟨by omega, by omega, by simp, by simpa using hT⟩, ?_⟩
 rintro out i ⟨h0, h1, h2, h3⟩
 refine ⟨fun hi => ?_, fun hi => ?_⟩
 rotate_left
 ·have hi := of_decide_eq_false hi
  have hd : s.drop i.toNat = [] := List.drop_eq_nil_of_le (by omega)
  rw [hd, linesL_nil] at h3
  simpa using h3
 have hi := of_decide_eq_true hi
 have hne : s.drop i.toNat ≠ [] := by
  intro e
  have := congrArg List.length e
  simp at this; omega
 -- behind the line's end
 have fin : ∀ e : Int, i ≤ e → e ≤ s.length → (∀ j : Int, i ≤ j → j < e → gi s j ≠ 10) → (e < s.length → gi s e = 10) →
   VC24_J2 s (fun out at_ => 0 ≤ at_ ∧ at_ ≤ s.length + 1 ∧ (out.length : Int) ≤ at_ ∧ out ++ (linesL (s.drop at_.toNat) (out.length + 1) at_).map (fun l => l.map toRef) = T) (fun _ at_ => (s.length + 1 - at_).toNat) out i out e := by
  intro e he0 he1 hin hend
  have htw := tw_seg h0 he0 he1 hin hend
  have hlen := seg_len h0 he0 he1
  have hrem := rem_eq h0 he0 he1
  have hw : ∀ j : Int, 0 ≤ j → j ≤ s.length → IntKind.i64.wrap (j + 1) = j + 1 := fun j _ _ => wrp (by omega) (by omega)
  rw [linesL_cons hne, htw, List.map_cons, refRow_eq, List.drop_drop, hlen, show i + (e - i) + 1 = e + 1 by omega] at h3
  -- the row
  have row : ∀ rm : Bool, rm = remark ((s.take e.toNat).drop i.toNat) → VC24_J3 s (fun out at_ => 0 ≤ at_ ∧ at_ ≤ s.length + 1 ∧ (out.length : Int) ≤ at_ ∧ out ++ (linesL (s.drop at_.toNat) (out.length + 1) at_).map (fun l => l.map toRef) = T) (fun _ at_ => (s.length + 1 - at_).toNat) out i e out rm := by
   intro rm hrm
   unfold VC24_J3 VC24_J4
   have hwo : IntKind.i64.wrap (((out.length : Nat) : Int) + 1) = out.length + 1 := wrp (by omega) (by omega)
   refine ⟨fun o row j => o = out ∧ i ≤ j ∧ j ≤ e + 1 ∧ (row.length : Int) ≤ j ∧ (rm = true → row = []) ∧ (rm = false → row ++ mkR (out.length + 1) (wgo ((s.take e.toNat).drop j.toNat) j []) = refRow ((s.take e.toNat).drop i.toNat) (out.length + 1) i),
    fun _ _ j => (e + 1 - j).toNat, ⟨rfl, by omega, by omega, by simpa using h0, fun _ => rfl, fun h => ?_⟩, ?_⟩
   ·rw [h] at hrm
    unfold refRow
    rw [← hrm]; simp
   rintro o rw_ j ⟨rfl, j0, j1, j2, j3, j4⟩
   refine ⟨fun hj => ?_, fun hj => ?_⟩
   ·rw [Bool.and_eq_true, decide_eq_true_eq] at hj
    have hrm2 : rm = false := by simpa using hj.2
    replace j4 := j4 hrm2
    have hj := hj.1
    refine ⟨⟨by omega, by omega⟩, ?_⟩
    rintro _ rfl
    have hgj : ref05_gap ((gi s j).toNat : Int) = gapB (gi s j) := rfl
    rw [hgj]
    rw [seg_cons (by omega) hj he1] at j4
    unfold VC24_J5
    refine ⟨fun hg => ?_, fun hg => ?_⟩
    ·rw [hw j (by omega) (by omega)]
     rw [wgo_gap0 hg] at j4
     exact ⟨⟨rfl, by omega, by omega, by omega, fun h => (by rw [hrm2] at h; cases h), fun _ => j4⟩, by first | omega | (dsimp only; omega)⟩
    ·rw [← seg_cons (by omega) hj he1] at j4
     unfold VC24_J7 VC24_J6 VC24_J5
     refine ⟨fun o' row' k => o' = o ∧ row' = rw_ ∧ j ≤ k ∧ k ≤ e ∧ rw_ ++ mkR (o.length + 1) (wgo ((s.take e.toNat).drop k.toNat) k ((s.take k.toNat).drop j.toNat)) = refRow ((s.take e.toNat).drop i.toNat) (o.length + 1) i, fun _ _ k => (e - k).toNat, ⟨rfl, rfl, by omega, by omega, ?_⟩, ?_⟩
     ·rw [seg_nil (Int.le_refl _)]; exact j4
     rintro o' row' k ⟨rfl, rfl, k0, k1, k4⟩
     have hkl := seg_len (s := s) (i := j) (e := k) (by omega) k0 (by omega)
     have hkp : k - ((((s.take k.toNat).drop j.toNat).length : Nat) : Int) = j := by omega
     refine ⟨fun hk => ?_, fun hk => ?_⟩
     ·have hk := of_decide_eq_true hk
      refine ⟨⟨by omega, by omega⟩, ?_⟩
      rintro _ rfl
      have hgk : ref05_gap ((gi s k).toNat : Int) = gapB (gi s k) := rfl
      rw [hgk, hw k (by omega) (by omega)]
      rw [seg_cons (by omega) hk he1] at k4
      refine ⟨fun hg2 => ⟨⟨rfl, rfl, by omega, by omega, ?_⟩, by first | omega | (dsimp only; omega)⟩, fun hg2 => ?_⟩
      ·have hg2 : gapB (gi s k) = false := by simpa using hg2
       rw [wgo_in hg2] at k4
       rw [seg_snoc (by omega) k0 (by omega)]
       exact k4
      ·have hg2 : gapB (gi s k) = true := by simpa using hg2
       have hjk : j ≠ k := by intro e; subst e; rw [hg] at hg2; cases hg2
       have hne2 : (s.take k.toNat).drop j.toNat ≠ [] := by intro e; rw [e] at hkl; simp at hkl; omega
       rw [wgo_gap hg2 hne2, hkp] at k4
       refine ⟨⟨by omega, k0, by omega⟩, by simp; omega, ⟨rfl, by omega, by omega, by simp; omega, fun h => (by rw [hrm2] at h; cases h), fun _ => ?_⟩, by first | omega | (dsimp only; omega)⟩
       rw [hwo, List.append_assoc]
       exact k4
     ·have hk := of_decide_eq_false hk
      have hke : k = e := by omega
      subst hke
      have hne2 : (s.take k.toNat).drop j.toNat ≠ [] := by intro e; rw [e] at hkl; simp at hkl; omega
      refine ⟨fun h => absurd h (by simp), fun _ => ?_⟩
      rw [seg_nil (Int.le_refl _), wgo_nil _ hne2, hkp] at k4
      rw [hw k (by omega) (by omega)]
      refine ⟨⟨by omega, k0, by omega⟩, by simp; omega, ⟨rfl, by omega, by omega, by simp; omega, fun h => (by rw [hrm2] at h; cases h), fun _ => ?_⟩, by first | omega | (dsimp only; omega)⟩
      rw [hwo, seg_nil (i := k + 1) (e := k) (by omega), wgo_nil0]
      simpa [mkR] using k4
   ·have hrow : rw_ = refRow ((s.take e.toNat).drop i.toNat) (o.length + 1) i := by
     cases hrm2 : rm with
     | true =>
      rw [j3 hrm2]
      unfold refRow
      rw [← hrm, hrm2]; rfl
     | false =>
      have j4 := j4 hrm2
      have hje : e ≤ j := by simpa [hrm2] using hj
      rw [seg_nil hje, wgo_nil0] at j4
      simpa [mkR] using j4
    rw [hw e (by omega) (by omega)]
    refine ⟨by simp; omega, ⟨by omega, by omega, by simp; omega, ?_⟩, by first | omega | (dsimp only; omega)⟩
    rw [hrow, List.append_assoc, List.length_append, List.length_singleton, ← h3]
    have hcast : (((o.length + 1 : Nat) : Int) + 1) = (o.length : Int) + 1 + 1 := by omega
    rw [hcast, show (e + 1).toNat = i.toNat + (((s.take e.toNat).drop i.toNat).length + 1) by omega]
    rfl
  unfold VC24_J2
  have hwe : IntKind.i64.wrap (e - i) = e - i := wrp (by omega) (by omega)
  rw [hwe, wrp (n := i + 2) (by omega) (by omega)]
  refine ⟨⟨h0, he0, he1⟩, fun hx => row true (by rw [hrem, hx]; rfl), fun hx => ⟨fun hy => ⟨?_, row _ (by rw [hrem, hx, hy]; rfl)⟩, fun hy => row false (by rw [hrem, hx, hy]; rfl)⟩⟩
  have hy := of_decide_eq_true hy
  omega
 refine ⟨fun o e => o = out ∧ i ≤ e ∧ e ≤ s.length ∧ ∀ j : Int, i ≤ j → j < e → gi s j ≠ 10, fun _ e => (s.length - e).toNat, ⟨rfl, by omega, by omega, fun j a b => by omega⟩, ?_⟩
 rintro o e ⟨rfl, he0, he1, hin⟩
 refine ⟨fun he => ?_, fun he => ?_⟩
 ·have he := of_decide_eq_true he
  refine ⟨⟨by omega, he⟩, ?_⟩
  unfold VC24_J8
  rw [wrp (n := e + 1) (by omega) (by omega)]
  have h10 : (((gi s e).toNat : Int) != 10) = !(gi s e == 10) := by
   have := u8eq (gi s e) 10 (by decide)
   show (!((gi s e).toNat : Int) == ((10 : Nat) : Int)) = _
   rw [← this]; rfl
  rw [h10]
  refine ⟨fun hx => ⟨⟨rfl, by omega, by omega, fun j a b => ?_⟩, by first | omega | (dsimp only; omega)⟩, fun hx => fin e he0 he1 hin (fun _ => by simpa using hx)⟩
  by_cases hje : j = e
  ·subst hje; simpa using hx
  ·exact hin j a (by omega)
 ·have he := of_decide_eq_false he
  unfold VC24_J8
  exact ⟨fun h => absurd h (by simp), fun _ => fin e he0 he1 hin (fun h => absurd h he)⟩
end Go.Proofs.YtkgcdoeldilhaaaGreatDoor
