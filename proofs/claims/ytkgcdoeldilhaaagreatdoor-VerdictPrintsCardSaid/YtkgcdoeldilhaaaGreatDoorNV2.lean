/- The words of a line and the lines of a text, as the token layer tells them. -/
import Derived.Test.YtkgcdoeldilhaaaGreatDoorNV1
set_option linter.all false
namespace Go.Proofs.YtkgcdoeldilhaaaGreatDoor
open Go Go.Sv Go.Pu
def mkT (k : Int) (l : List (Int × Bs)) : List Token_Token := l.map fun p => ⟨k, p.1, p.2⟩
theorem wgo_nil0 (i : Int) : wgo [] i [] = [] := rfl
theorem wgo_nil (i : Int) {cur : Bs} (h : cur ≠ []) : wgo [] i cur = [(i - cur.length, cur)] := by
  cases cur with
  | nil => exact absurd rfl h
  | cons b r => rfl
theorem wgo_gap0 {b : UInt8} {r : Bs} {i : Int} (h : gapB b = true) : wgo (b :: r) i [] = wgo r (i + 1) [] := by simp [wgo, h]
theorem wgo_gap {b : UInt8} {r cur : Bs} {i : Int} (h : gapB b = true) (hc : cur ≠ []) : wgo (b :: r) i cur = (i - cur.length, cur) :: wgo r (i + 1) [] := by
  cases cur with
  | nil => exact absurd rfl hc
  | cons c q => simp [wgo, h]
theorem wgo_in {b : UInt8} {r cur : Bs} {i : Int} (h : gapB b = false) : wgo (b :: r) i cur = wgo r (i + 1) (cur ++ [b]) := by simp [wgo, h]
theorem v45 (s : Bs) (k a : Int) (hp : preTok s k a) : VC45 s k a (fun r => r = token_tokens s k a) := by
  obtain ⟨hl, hk0, hk1, ha0, ha1⟩ := hp
  have hc : ∀ i : Int, 0 ≤ i → i < s.length → IntKind.i64.wrap (i + 1) = i + 1 := fun i h0 h1 => wrp (by omega) (by omega)
  have hpx : preTwo s [99, 32] := ⟨by decide, hl⟩
  by_cases hr : remark s = true
  · have hro : rowOf s k a = [] := by simp [rowOf, hr]
    have hro : token_tokens s k a = [] := hro
    unfold VC45 VC45_J2
    refine ⟨fun _ _ _ => False, fun _ _ _ => 0, fun _ _ _ => False, fun _ _ _ => 0, ?_, fun _ _ _ h => h.elim, fun _ _ _ h => h.elim⟩
    simp only [forall_eq']
    refine ⟨fun _ => ⟨fun _ => hro.symm, fun h => absurd h (by simp)⟩, fun h1 => ⟨hpx, fun _ => hro.symm, fun h2 => ?_⟩⟩
    unfold remark at hr
    rw [h1] at hr
    have h2 : Lib.hasPrefix s [99, 32] = false := h2
    rw [h2] at hr
    cases hr
  · have hr : remark s = false := by simpa using hr
    have hro : token_tokens s k a = mkT k (wgo s a []) := by simp [token_tokens, rowOf, hr, mkT]
    rw [hro]
    unfold VC45 VC45_J2 VC45_J1
    refine ⟨fun out i _ => 0 ≤ i ∧ i ≤ s.length ∧ (out.length : Int) ≤ i ∧ out ++ mkT k (wgo (s.drop i.toNat) (a + i) []) = mkT k (wgo s a []), fun _ i _ => (s.length - i).toNat,
      fun out i f => 0 ≤ f ∧ f ≤ i ∧ i < s.length ∧ (out.length : Int) ≤ f ∧ out ++ mkT k (wgo (s.drop (i + 1).toNat) (a + i + 1) ((s.take (i + 1).toNat).drop f.toNat)) = mkT k (wgo s a []), fun _ i _ => (s.length - i).toNat, ?_, ?_, ?_⟩
    · unfold remark at hr
      rw [Bool.or_eq_false_iff] at hr
      simp only [forall_eq']
      have e0 : (0 : Int) ≤ 0 ∧ (0 : Int) ≤ s.length ∧ (([] : List Token_Token).length : Int) ≤ 0 ∧ [] ++ mkT k (wgo (s.drop (0 : Int).toNat) (a + 0) []) = mkT k (wgo s a []) := ⟨by omega, by omega, by simp, by simp⟩
      refine ⟨fun h => absurd h (by rw [hr.1]; simp), fun _ => ⟨hpx, fun h => absurd h (by show ¬ Lib.hasPrefix s [99, 32] = true; rw [hr.2]; simp), fun _ => e0⟩⟩
    · rintro out i f ⟨h0, h1, h2, h3⟩
      refine ⟨fun hi => ?_, fun hi => ?_⟩
      · have hi : i = s.length := by simpa using hi
        subst hi
        rw [show ((s.length : Nat) : Int).toNat = s.length by omega, List.drop_length, wgo_nil0] at h3
        simpa [mkT] using h3
      · have hi : i ≠ s.length := by simpa using hi
        have hi : i < s.length := by omega
        refine ⟨⟨h0, hi⟩, ?_⟩
        simp only [forall_eq', idx_gap, hc i h0 hi]
        rw [drop_gi h0 hi] at h3
        refine ⟨fun hg => ⟨⟨by omega, by omega, by omega, ?_⟩, by omega⟩, fun hg => ⟨⟨h0, by omega, hi, h2, ?_⟩, by omega⟩⟩
        · rw [wgo_gap0 hg] at h3
          rw [show a + (i + 1) = a + i + 1 by omega]
          exact h3
        · rw [wgo_in hg] at h3
          rw [seg_snoc h0 (Int.le_refl _) hi, seg_nil (Int.le_refl _)]
          exact h3
    · rintro out i f ⟨h0, h1, h2, h3, h4⟩
      simp only [forall_eq', idx_gapn, hc i (by omega) h2]
      have hat : IntKind.i64.wrap (a + f) = a + f := wrp (by omega) (by omega)
      have hcl := seg_len (s := s) (i := f) (e := i + 1) h0 (by omega) (by omega)
      have hne : (s.take (i + 1).toNat).drop f.toNat ≠ [] := by
        intro e; rw [e] at hcl; simp at hcl; omega
      have hpos : a + i + 1 - ((((s.take (i + 1).toNat).drop f.toNat).length : Nat) : Int) = a + f := by omega
      simp only [hat]
      refine ⟨fun hi => ?_, fun hi => ?_⟩
      · have hi := of_decide_eq_true hi
        rw [drop_gi (by omega) hi] at h4
        refine ⟨⟨by omega, hi⟩, fun hg => ⟨⟨h0, by omega, hi, h3, ?_⟩, by omega⟩, fun hg => ⟨by omega, ?_, ⟨by omega, by omega, ?_, ?_⟩, by omega⟩⟩
        · have hg : gapB (gi s (i + 1)) = false := by simpa using hg
          rw [wgo_in hg] at h4
          rw [seg_snoc h0 (by omega) hi, show a + (i + 1) + 1 = a + i + 1 + 1 by omega]
          exact h4
        · simp; omega
        · simp; omega
        · have hg : gapB (gi s (i + 1)) = true := by simpa using hg
          rw [wgo_gap hg hne, hpos] at h4
          rw [drop_gi (by omega) hi, wgo_gap0 hg, show a + (i + 1) + 1 = a + i + 1 + 1 by omega, List.append_assoc]
          exact h4
      · have hi := of_decide_eq_false hi
        have hie : i + 1 = s.length := by omega
        refine ⟨fun h => absurd h (by simp), fun _ => ⟨by omega, ?_, ⟨by omega, by omega, ?_, ?_⟩, by omega⟩⟩
        · simp; omega
        · simp; omega
        · have hd : s.drop (i + 1).toNat = [] := List.drop_eq_nil_of_le (by omega)
          rw [hd, wgo_nil _ hne, hpos] at h4
          rw [hd, wgo_nil0, ← h4]
          simp [mkT]
def tw (l : Bs) : Bs := l.takeWhile (fun b => b != 10)
theorem tw_le (l : Bs) : (tw l).length ≤ l.length := List.takeWhile_prefix _ |>.length_le
theorem linesGo_fuel : ∀ (f : Nat) (l : Bs) (k a : Int), l.length ≤ f → linesGo f l k a = linesGo l.length l k a := by
  have key : ∀ (n f g : Nat) (l : Bs) (k a : Int), l.length ≤ n → l.length ≤ f → l.length ≤ g → linesGo f l k a = linesGo g l k a := by
    intro n
    induction n with
    | zero =>
      intro f g l k a h _ _
      have : l = [] := List.length_eq_zero_iff.1 (by omega)
      subst this
      cases f <;> cases g <;> simp [linesGo]
    | succ n ih =>
      intro f g l k a h hf hg
      cases l with
      | nil => cases f <;> cases g <;> simp [linesGo]
      | cons b r =>
        cases f with
        | zero => simp at hf
        | succ f =>
          cases g with
          | zero => simp at hg
          | succ g =>
            simp only [linesGo, List.isEmpty_cons]
            congr 2
            simp only [List.length_cons] at h hf hg
            apply ih <;> simp <;> omega
  intro f l k a h
  exact key l.length f l.length l k a (Nat.le_refl _) h (Nat.le_refl _)
def linesL (l : Bs) (k a : Int) : List (List Token_Token) := linesGo l.length l k a
theorem linesL_nil (k a : Int) : linesL [] k a = [] := rfl
theorem linesL_cons {l : Bs} (h : l ≠ []) (k a : Int) : linesL l k a = rowOf (tw l) k a :: linesL (l.drop ((tw l).length + 1)) (k + 1) (a + (tw l).length + 1) := by
  unfold linesL
  cases l with
  | nil => exact absurd rfl h
  | cons b r =>
    rw [← linesGo_fuel r.length ((b :: r).drop ((tw (b :: r)).length + 1)) _ _ (by simp)]
    simp only [List.length_cons, linesGo, List.isEmpty_cons]
    rfl
theorem v17 (s : Bs) (hl : len1 s) : VC17 s (fun r => r = token_Lines s) := by
  unfold len1 at hl
  unfold VC17 VC17_J1
  have h00 : token_Lines s = linesL s 1 0 := rfl
  rw [h00]
  refine ⟨fun out at_ => 0 ≤ at_ ∧ at_ ≤ s.length + 1 ∧ (out.length : Int) ≤ at_ ∧ out ++ linesL (s.drop at_.toNat) (out.length + 1) at_ = linesL s 1 0, fun _ at_ => (s.length + 1 - at_).toNat, ⟨by omega, by omega, by simp, by simp⟩, ?_⟩
  rintro out i ⟨h0, h1, h2, h3⟩
  refine ⟨fun hi => ?_, fun hi => ?_⟩
  · have hi := of_decide_eq_true hi
    have hne : s.drop i.toNat ≠ [] := by
      intro e
      have := congrArg List.length e
      simp at this; omega
    have hw : IntKind.i64.wrap (((out.length : Nat) : Int) + 1) = out.length + 1 := wrp (by omega) (by omega)
    have htl := tw_le (s.drop i.toNat)
    rw [List.length_drop] at htl
    have hw2 : IntKind.i64.wrap ((((tw (s.drop i.toNat)).length : Nat) : Int) + 1) = (tw (s.drop i.toNat)).length + 1 := wrp (by omega) (by omega)
    have hw3 : IntKind.i64.wrap (i + ((tw (s.drop i.toNat)).length + 1)) = i + (tw (s.drop i.toNat)).length + 1 := by rw [wrp (by omega) (by omega)]; omega
    refine ⟨⟨h0, by omega⟩, ⟨rfl, by rw [List.length_drop]; omega⟩, ?_⟩
    simp only [forall_eq', cut_line]
    show preTok (tw (s.drop i.toNat)) _ _ ∧ (sm (token_tokens (tw (s.drop i.toNat)) _ _) → _)
    rw [show List.takeWhile (fun b => b != 10) (s.drop i.toNat) = tw (s.drop i.toNat) from rfl]
    simp only [hw, hw2, hw3]
    refine ⟨⟨by omega, by omega, by omega, by omega, by omega⟩, fun _ => ⟨by simp; omega, ⟨by omega, by omega, by simp; omega, ?_⟩, by omega⟩⟩
    rw [linesL_cons hne, List.drop_drop] at h3
    rw [List.append_assoc, show (i + ((tw (s.drop i.toNat)).length : Int) + 1).toNat = i.toNat + ((tw (s.drop i.toNat)).length + 1) by omega]
    simpa [token_tokens] using h3
  · have hi := of_decide_eq_false hi
    have hd : s.drop i.toNat = [] := List.drop_eq_nil_of_le (by omega)
    rw [hd, linesL_nil, List.append_nil] at h3
    exact h3
end Go.Proofs.YtkgcdoeldilhaaaGreatDoor
