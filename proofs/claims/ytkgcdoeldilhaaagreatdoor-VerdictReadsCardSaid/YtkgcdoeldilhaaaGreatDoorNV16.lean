/- Proofs as text: the document's Parse, printing. -/
import Derived.Test.YtkgcdoeldilhaaaGreatDoorNV15
set_option linter.all false
namespace Go.Proofs.YtkgcdoeldilhaaaGreatDoor
open Go Go.Sv Go.Pu
theorem gi_row {s : Bs} {i : Int} : gi (ref05_Lines s) i = (gi (token_Lines s) i).map toRef := by
 unfold ref05_Lines
 by_cases h : i.toNat < (token_Lines s).length
 ·simp [gi, h]
 ·simp [gi, h]
  rfl
theorem v28 (s : Bs) : VC28 s (fun x => x = ref10_Parse s) := by
 unfold VC28 VC28_J1 VC28_J2
 refine ⟨fun h => ?_, fun h => ?_⟩
 ·have h := of_decide_eq_true h
  unfold ref10_Parse proof_Parse
  rw [if_pos (by omega)]
 ·have hl : ¬ s.length > 1000000 := by have := of_decide_eq_false h; omega
  refine ⟨by show s.length ≤ 1000000; omega, ?_⟩
  have hP : ref10_Parse s = stepsGo s.length (token_Lines s) [] := by unfold ref10_Parse proof_Parse; rw [if_neg hl]
  rw [hP]
  have hlen := lines_le s
  have hgood : ∀ x : Int, 0 ≤ x → x < (token_Lines s).length → goodT (gi (token_Lines s) x) := fun x a b => line_good (by omega) a b
  have hwid : ∀ r ∈ token_Lines s, r.length ≤ 2 * s.length := (lines_len s.length s 1 0).2.1
  have hgr : ∀ x : Int, gi (ref05_Lines s) x = (gi (token_Lines s) x).map toRef := fun x => gi_row
  have hrl : (ref05_Lines s).length = (token_Lines s).length := by simp [ref05_Lines]
  rintro _ rfl
  intro _
  rw [hrl]
  simp only [hgr, List.length_map]
  generalize token_Lines s = L at *
  generalize htgt : stepsGo s.length L [] = tgt
  refine ⟨fun l i => 0 ≤ i ∧ i ≤ L.length ∧ l.length ≤ 1000000 ∧ stepsGo s.length (L.drop i.toNat) l = tgt, fun _ i => (L.length - i).toNat, ⟨by omega, by omega, by simp, by simpa using htgt⟩, ?_⟩
  rintro l i ⟨h0, h1, h2, ht⟩
  refine ⟨fun hi => ?_, fun hi => ?_⟩
  ·have hi := of_decide_eq_true hi
   rw [wrp (n := i + 1) (by omega) (by omega)]
   rw [drop_gi h0 hi] at ht
   unfold stepsGo at ht
   refine ⟨⟨h0, hi⟩, fun _ => ⟨fun he => ?_, fun he => ⟨fun hf => ?_, fun hf => ?_⟩⟩⟩
   ·rw [if_pos (empty_row he)] at ht
    exact ⟨⟨by omega, by omega, h2, ht⟩, by first | omega | (dsimp only; omega)⟩
   ·have hne := full_row he
    have hf : ((l.length : Nat) : Int) = 1000000 := by simpa using hf
    rw [if_neg hne, if_pos (by omega)] at ht
    have := List.length_pos_iff.2 hne
    refine ⟨⟨h0, hi⟩, fun _ => ⟨⟨by omega, by omega⟩, ?_⟩⟩
    rw [(gi_toRef (T := gi L i) (i := 0) (by omega) (by omega)).1]
    exact ht
   ·have hne := full_row he
    have hf : ¬ ((l.length : Nat) : Int) = 1000000 := by simpa using hf
    rw [if_neg hne, if_neg (by omega)] at ht
    have hg := hgood i h0 hi
    refine ⟨⟨h0, hi⟩, fun _ => ⟨⟨?_, by simpa using hne, ?_⟩, ?_⟩⟩
    ·intro t ht
     obtain ⟨u, hu, rfl⟩ := List.mem_map.1 ht
     exact hg u hu
    ·rw [List.length_map]
     have := hwid _ (mem_gi h0 hi)
     omega
    ·rintro _ rfl
     intro _ _
     obtain ⟨s1, s2, s3⟩ := step_eq (gi L i) hne
     refine ⟨fun hb => ?_, fun hb => ⟨by simp; omega, ?_⟩⟩
     ·have hb := bne_iff_ne.1 hb
      rw [← s1] at hb
      rw [if_pos hb] at ht
      rw [← s1, ← s2 hb]
      exact ht
     ·rw [bne_eq_false_iff_eq] at hb
      rw [← s1] at hb
      rw [if_neg (by simp [hb])] at ht
      rw [s3 hb] at ht
      exact ⟨⟨by omega, by omega, by simp; omega, ht⟩, by first | omega | (dsimp only; omega)⟩
  ·have hi := of_decide_eq_false hi
   rw [show i.toNat = L.length by omega, List.drop_length] at ht
   exact ht
theorem toI_app (a b : Bs) : toI (a ++ b) = toI a ++ toI b := by simp [toI]
theorem toI_len (a : Bs) : (toI a).length = a.length := by simp [toI]
theorem litsB_step {c : List Int} {k : Int} (h0 : 0 ≤ k) (h : k < c.length) : litsB (c.take (k + 1).toNat) = litsB (c.take k.toNat) ++ (Lib.itoa (gi c k) ++ [32]) := by
 rw [take_gi h0 h]; simp [litsB]
theorem lits_le {c : List Int} (h : ∀ l ∈ c, inR .i64 l) : (litsB c).length ≤ 22 * c.length := by
 induction c with
 | nil => simp [litsB]
 | cons l c ih =>
  have := ih (fun x hx => h x (by simp [hx]))
  have a3 := itoa_len (x := l) (h l (by simp))
  have e : litsB (l :: c) = Lib.itoa l ++ [32] ++ litsB c := by simp [litsB]
  rw [e]; simp; omega
theorem lits_take {c : List Int} (h : ∀ l ∈ c, inR .i64 l) (k : Nat) : (litsB (c.take k)).length ≤ 22 * c.length := by
 have := lits_le (c := c.take k) (fun x hx => h x (List.mem_of_mem_take hx))
 rw [List.length_take] at this
 omega
theorem nums_lits (c : List Int) : numsB c = litsB c ++ [48] := rfl
theorem v79 (p : Api_Step) (out l : List Int) (hp : preNums p out l) : VC79 p out l (fun x => x = proof_printed_numbers p out l) := by
 intro _ _ _ _
 obtain ⟨h0, h1, h2⟩ := hp
 unfold VC79_J1 proof_printed_numbers
 refine ⟨fun o i => 0 ≤ i ∧ i ≤ l.length ∧ o = out ++ toI (litsB (l.take i.toNat)), fun _ i => (l.length - i).toNat, ⟨by omega, by omega, by simp [litsB, toI]⟩, ?_⟩
 rintro o i ⟨i0, i1, ho⟩
 have hb := lits_take h2 i.toNat
 have hol := congrArg List.length ho
 rw [List.length_append, toI_len] at hol
 refine ⟨fun hi => ?_, fun hi => ?_⟩
 ·have hi := of_decide_eq_true hi
  have hin := h2 _ (mem_gi i0 hi)
  have ha := itoa_len hin
  rw [wrp (n := i + 1) (by omega) (by omega)]
  refine ⟨⟨i0, hi⟩, hin, ?_⟩
  rintro _ rfl
  unfold token_Digits
  refine ⟨by omega, by simp [toI_len]; omega, ⟨by omega, by omega, ?_⟩, by first | omega | (dsimp only; omega)⟩
  rw [litsB_step i0 hi, toI_app, toI_app, ho]
  simp [toI]
 ·have hi := of_decide_eq_false hi
  rw [show i.toNat = l.length by omega, List.take_length] at ho
  refine ⟨by simp; omega, ?_⟩
  rw [ho, nums_lits, toI_app]
  simp [toI]
theorem v56 (p : Api_Step) (out : List Int) (hp : preLine p out) : VC56 p out (fun x => x = proof_printed_line p out) := by
 intro _ _ _
 obtain ⟨h0, h1, h2, h3, h4, h5⟩ := hp
 have ha := itoa_len h1
 have hL := lits_le h4
 have hH := lits_le h5
 refine ⟨h1, ?_⟩
 rintro _ rfl
 unfold token_Digits proof_printed_numbers proof_printed_line stepT
 refine ⟨by omega, by simp [toI_len]; omega, fun hk => ?_, fun hk => ?_⟩
 ·have hk : p.Kind = 2 := by simpa using hk
  rw [if_pos hk]
  refine ⟨by simp [toI_len]; omega, ⟨by simp [toI_len]; omega, by omega, h5⟩, ?_⟩
  rintro _ rfl
  intro _
  refine ⟨by simp [toI_len, nums_lits]; omega, ?_⟩
  simp [toI]
 ·have hk : ¬ p.Kind = 2 := by simpa using hk
  rw [if_neg hk]
  refine ⟨⟨by simp [toI_len]; omega, by omega, h4⟩, ?_⟩
  rintro _ rfl
  intro _
  refine ⟨by simp [toI_len, nums_lits]; omega, ⟨by simp [toI_len, nums_lits]; omega, by omega, h5⟩, ?_⟩
  rintro _ rfl
  intro _
  refine ⟨by simp [toI_len, nums_lits]; omega, ?_⟩
  simp [toI]
theorem may_facts {s : Api_Step} (h : mayS s = true) : inR .i64 s.Id ∧ s.Lits.length ≤ 1000 ∧ s.Hints.length ≤ 1000 ∧ (∀ n ∈ s.Lits, inR .i64 n) ∧ ∀ n ∈ s.Hints, inR .i64 n := by
 have i : ∀ n : Int, -10000000 ≤ n ∧ n ≤ 10000000 → inR .i64 n := fun n hn => ⟨by show (-9223372036854775808 : Int) ≤ _; omega, by show _ ≤ (9223372036854775807 : Int); omega⟩
 rcases (may_iff s).1 h with ⟨_, a, b, c, d⟩ | ⟨_, a, b, c, d⟩
 ·exact ⟨i _ (by omega), c.1, d.1, fun n hn => i n (by have := c.2.1 n hn; omega), fun n hn => i n (by have := d.2.1 n hn; omega)⟩
 ·exact ⟨i _ (by omega), by rw [c]; simp, d.1, fun n hn => by rw [c] at hn; simp at hn, fun n hn => i n (by have := d.2.1 n hn; omega)⟩
theorem proofT_step {l : List Api_Step} {i : Int} (h0 : 0 ≤ i) (h : i < l.length) : proofT (l.take (i + 1).toNat) = proofT (l.take i.toNat) ++ stepT (gi l i) := by
 rw [take_gi h0 h]; simp [proofT]
theorem proofT_le (l : List Api_Step) (k : Nat) : (proofT (l.take k)).length ≤ (proofT l).length := by
 have : proofT l = proofT (l.take k) ++ proofT (l.drop k) := by unfold proofT; rw [← List.flatMap_append, List.take_append_drop]
 rw [this, List.length_append]; omega
theorem v33 (l : List Api_Step) : VC33 l (fun x => x = proof_Print l) := by
 intro _
 rintro _ rfl
 unfold VC33_J1 proof_Check proof_Print printP
 refine ⟨fun h => ?_, fun h => ?_⟩
 ·rw [if_pos (bne_iff_ne.1 h)]
 ·have h : (chkS l).2 = 0 := by rw [bne_eq_false_iff_eq] at h; exact h
  rw [if_neg (by simp [h])]
  obtain ⟨hl, hm⟩ := (chk_iff l).1 h
  refine ⟨fun o i => 0 ≤ i ∧ i ≤ l.length ∧ o = toI (proofT (l.take i.toNat)) ∧ (proofT (l.take i.toNat)).length ≤ 1000000, fun _ i => (l.length - i).toNat, ⟨by omega, by omega, by simp [proofT, toI], by simp [proofT]⟩, ?_⟩
  rintro o i ⟨i0, i1, ho, hb⟩
  refine ⟨fun hi => ?_, fun hi => ?_⟩
  ·have hi := of_decide_eq_true hi
   obtain ⟨f0, f1, f2, f3, f4⟩ := may_facts (hm _ (mem_gi i0 hi))
   rw [wrp (n := i + 1) (by omega) (by omega)]
   refine ⟨⟨i0, hi⟩, fun _ _ => ⟨⟨by rw [ho, toI_len]; omega, f0, f1, f2, f3, f4⟩, ?_⟩⟩
   rintro _ rfl
   intro _
   have e : proof_printed_line (⟨(gi l i).Kind, (gi l i).Id, (gi l i).Lits, (gi l i).Hints⟩ : Api_Step) o = toI (proofT (l.take (i + 1).toNat)) := by
    rw [proofT_step i0 hi, toI_app, ho]; rfl
   rw [e, toI_len]
   refine ⟨fun hg => ?_, fun hg => ⟨⟨by omega, by omega, rfl, by have := of_decide_eq_false hg; omega⟩, by first | omega | (dsimp only; omega)⟩⟩
   have hg := of_decide_eq_true hg
   have := proofT_le l (i + 1).toNat
   rw [if_pos (by omega)]
  ·have hi := of_decide_eq_false hi
   rw [show i.toNat = l.length by omega, List.take_length] at ho hb
   rw [if_neg (by omega), ho, ofBytes_toI]
end Go.Proofs.YtkgcdoeldilhaaaGreatDoor
