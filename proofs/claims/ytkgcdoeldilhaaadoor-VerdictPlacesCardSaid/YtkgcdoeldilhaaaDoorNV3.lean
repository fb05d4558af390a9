/- The document's lines are those of the token layer. -/
import Derived.Test.YtkgcdoeldilhaaaDoorNV2
set_option linter.all false
namespace Go.Proofs.YtkgcdoeldilhaaaDoor
open Go Go.Sv Go.Pu
def mkR (k : Int) (l : List (Int × Bs)) : List Ref05_Token := l.map fun p => ⟨k, p.1, p.2⟩
theorem mkT_ref (k : Int) (l : List (Int × Bs)) : (mkT k l).map toRef = mkR k l := by simp [mkT, mkR, toRef]
def refRow (l : Bs) (k a : Int) : List Ref05_Token := if remark l then [] else mkR k (wgo l a [])
theorem refRow_eq (l : Bs) (k a : Int) : (rowOf l k a).map toRef = refRow l k a := by
  unfold rowOf refRow
  split
  · rfl
  · exact mkT_ref k _
theorem tw_seg {s : Bs} {i e : Int} (h0 : 0 ≤ i) (h1 : i ≤ e) (h2 : e ≤ s.length) (hin : ∀ j : Int, i ≤ j → j < e → gi s j ≠ 10) (hend : e < s.length → gi s e = 10) : tw (s.drop i.toNat) = (s.take e.toNat).drop i.toNat := by
  have key : ∀ (n : Nat) (i : Int), 0 ≤ i → i ≤ e → (e - i).toNat = n → (∀ j : Int, i ≤ j → j < e → gi s j ≠ 10) → tw (s.drop i.toNat) = (s.take e.toNat).drop i.toNat := by
    intro n
    induction n with
    | zero =>
      intro i h0 h1 hn hin
      have : i = e := by omega
      subst this
      rw [seg_nil (Int.le_refl _)]
      by_cases he : i < s.length
      · rw [drop_gi h0 he]
        unfold tw
        rw [List.takeWhile_cons, hend he]
        rfl
      · rw [List.drop_eq_nil_of_le (by omega)]; rfl
    | succ n ih =>
      intro i h0 h1 hn hin
      rw [drop_gi h0 (by omega), seg_cons h0 (by omega) h2, ← ih (i + 1) (by omega) (by omega) (by omega) (fun j j0 j1 => hin j (by omega) j1)]
      unfold tw
      rw [List.takeWhile_cons, if_pos (by simpa using hin i (Int.le_refl _) (by omega))]
  exact key _ i h0 h1 rfl hin
theorem rem_eq {s : Bs} {i e : Int} (h0 : 0 ≤ i) (h1 : i ≤ e) (h2 : e ≤ s.length) : remark ((s.take e.toNat).drop i.toNat) = (((s.take e.toNat).drop i.toNat == [99]) || (decide (e - i ≥ 2) && ((s.take (i + 2).toNat).drop i.toNat == [99, 32]))) := by
  unfold remark
  rw [hp_take]
  have hl := seg_len h0 h1 h2
  congr 1
  by_cases h : e - i ≥ 2
  · have e1 : decide (([99, 32] : Bs).length ≤ ((s.take e.toNat).drop i.toNat).length) = true := by simp only [decide_eq_true_eq, List.length_cons, List.length_nil]; omega
    have e2 : ((s.take e.toNat).drop i.toNat).take ([99, 32] : Bs).length = (s.take (i + 2).toNat).drop i.toNat := by
      rw [List.take_drop, List.take_take]
      congr 2
      simp only [List.length_cons, List.length_nil]; omega
    rw [e1, e2, decide_eq_true h]
  · have e1 : decide (([99, 32] : Bs).length ≤ ((s.take e.toNat).drop i.toNat).length) = false := by simp only [decide_eq_false_iff_not, List.length_cons, List.length_nil]; omega
    rw [e1, decide_eq_false h]; rfl
end Go.Proofs.YtkgcdoeldilhaaaDoor
