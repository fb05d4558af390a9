/- Joint linearizations and the document's answers, as the code finds them. -/
import Derived.Test.YteahldlmkheleaaLV19
set_option linter.all false
namespace Go.Proofs.Yteahldlmkheleaa
open Go Go.Sv Go.Pu
theorem v43 (i : Int) (picks : List ah) (l : List aa) (of : List Int) (k : Int) (hp : nt i picks l of k) : VC43 i picks l of k (fun r => r = cA i picks l of k) := by
 obtain ⟨h0, h1, h2⟩ := hp
 unfold VC43
 intro _ _ _
 refine ⟨⟨h0, h1⟩, fun hb => ?_, fun hb => ⟨by simp at hb; omega, ?_⟩⟩
 ·unfold cA
  rw [show decide ((gi picks i).Oper < 0 ∨ (gi picks i).Oper ≥ l.length) = true from decide_eq_true (by simpa using hb)]; rfl
 ·unfold cA
  rw [show decide ((gi picks i).Oper < 0 ∨ (gi picks i).Oper ≥ l.length) = false from decide_eq_false (by simpa using hb)]; rfl
theorem v42_43 (x picks : List ah) (l : List aa) (of : List Int) (k : Int) (hp : ns x picks l of k) : VC42_43 x picks l of k (fun r => r = bo x picks l of k) := by
 obtain ⟨hp1, hp2, hp3⟩ := hp
 unfold VC42_43
 intro _ _ _ _
 refine ⟨fun out i => ∃ t : Nat, i = t ∧ t ≤ x.length ∧ out = ew (fun i => cA i picks l of k) (x.take t) 0, fun _ i => (x.length - i).toNat, ⟨0, rfl, by omega, rfl⟩, ?_⟩
 rintro _ _ ⟨t, rfl, ht, rfl⟩
 have hl := ia (fun i => cA i picks l of k) x t
 refine ⟨fun hi => ?_, fun hi => ?_⟩
 ·rw [decide_eq_true_eq] at hi
  have hw := wrp (n := (t : Int) + 1) (by omega) (by omega)
  have hs := gv (fun i => cA i picks l of k) (l := x) (k := t) (by omega)
  refine ⟨⟨by omega, hi⟩, ⟨by omega, by omega, hp3⟩, ?_⟩
  rintro _ rfl
  refine ⟨fun hc => ⟨by simp; omega, ?_⟩, fun hc => ?_⟩ <;> unfold VC42_43_J2 <;> rw [hw] <;> refine ⟨⟨t + 1, by push_cast; rfl, by omega, ?_⟩, by dsimp only; omega⟩
  ·rw [hs, if_pos hc]
  ·rw [hs, if_neg (by rw [show cA (t : Int) picks l of k = false from hc]; decide), List.append_nil]
 ·rw [decide_eq_false_iff_not] at hi
  unfold VC42_43_J1 bo
  rw [List.take_of_length_le (by omega)]
theorem qe (picks : List ah) (l : List aa) (of : List Int) (k : Int) : bo picks picks l of k = po l of k picks := by
 have := kS (fun p : ah => decide (p.Oper < 0 ∨ p.Oper ≥ l.length) || gi of p.Oper == k) (fun p => p) picks
 rw [List.map_id'] at this
 rw [List.map_id'] at this
 exact this
theorem oF {h : ak} (hc : (aV h).2 = 0) : bP h = (cQ h, ofH h) := by unfold bP; rw [if_neg (by omega)]
theorem oE {h : ak} (hc : (aV h).2 = 0) : (cQ h).length ≤ 10000 := by
 have := lx (ik hc).1
 unfold cQ; omega
theorem nQ {l : List aa} {of : List Int} {picks : List ah} {os : List ai} {t : Nat} (h : t < os.length) : fY l of picks (os.drop t) t = if (cr (gi os (t : Int)) l (po l of (t : Int) picks)).2.2 ≠ 0 then false else fY l of picks (os.drop (t + 1)) ((t : Int) + 1) := by
 rw [fq h, fY]
theorem v21 (h : ak) (picks : List ah) (hp : lW h picks) : VC21 h picks (fun r => r = dT h picks) := by
 obtain ⟨⟨hp1, hp2, hp3⟩, hp4⟩ := hp
 unfold VC21
 intro hso _ _
 simp only [sm] at hso
 refine ⟨⟨hp1, hp2, hp3⟩, ?_⟩
 rintro _ rfl
 unfold dT
 refine ⟨fun he => by rw [if_pos (by simpa using he)], fun he => ⟨⟨hp1, hp2, hp3⟩, ?_⟩⟩
 have hc : (aV h).2 = 0 := by simpa using he
 rw [if_neg (by omega)]
 rintro _ rfl _ _
 rw [oF hc]
 dsimp only
 refine ⟨fun x => ∃ t : Nat, x = t ∧ t ≤ h.ae.length ∧ fY (cQ h) (ofH h) picks (h.ae.drop t) t = fY (cQ h) (ofH h) picks h.ae 0, fun x => (h.ae.length - x).toNat, ⟨0, rfl, by omega, rfl⟩, ?_⟩
 rintro _ ⟨t, rfl, ht, hg⟩
 refine ⟨fun hi => ?_, fun hi => ?_⟩
 ·rw [decide_eq_true_eq] at hi
  rw [nQ (by omega)] at hg
  refine ⟨⟨by omega, hi⟩, fun _ => ⟨⟨by omega, hp4, jX h⟩, ?_⟩⟩
  rintro _ rfl _
  rw [qe]
  have hol : (po (cQ h) (ofH h) (t : Int) picks).length ≤ picks.length := List.length_filter_le _ _
  refine ⟨⟨hp1 _ (fh (by omega) hi), by omega⟩, ?_⟩
  rintro _ rfl
  refine ⟨fun hr => ?_, fun hr => ?_⟩
  ·rw [if_pos (by simpa using hr)] at hg
   rw [← hg]; rfl
  ·rw [if_neg (by simpa using hr)] at hg
   rw [wrp (n := (t : Int) + 1) (by omega) (by omega)]
   exact ⟨⟨t + 1, by push_cast; rfl, by omega, by push_cast; exact hg⟩, by dsimp only; omega⟩
 ·rw [decide_eq_false_iff_not] at hi
  have : t = h.ae.length := by omega
  subst this
  rw [List.drop_length, fY] at hg
  unfold VC21_J1
  rw [← hg]
  rintro _ rfl
  refine ⟨fun ho => ⟨by have := oE hc; unfold jR; dsimp only; omega, ?_⟩, fun ho => by rw [ho]; rfl⟩
  rintro _ rfl _
  rw [ho]
  dsimp only
  rw [Bool.true_and, Bool.true_and, Bool.eq_iff_iff, beq_iff_eq, beq_iff_eq]
  omega
end Go.Proofs.Yteahldlmkheleaa
