/- Verdicts as text: the place behind a line, the document's picks. -/
import Derived.Test.YtkgcdoeldilhaaaGreatDoorNV25
set_option linter.all false
namespace Go.Proofs.YtkgcdoeldilhaaaGreatDoor
open Go Go.Sv Go.Pu
theorem lines_goodL (s : Bs) (hs : s.length ≤ 1000000) : goodL (token_Lines s) := by
  obtain ⟨a, b, _⟩ := lines_len s.length s 1 0
  have a : (token_Lines s).length ≤ s.length := a
  refine ⟨by omega, fun r hr => ⟨by rw [pairsT_len]; have := b r hr; omega, fun p hp => ?_⟩⟩
  simp only [pairsT, List.mem_map] at hp
  obtain ⟨t, ht, rfl⟩ := hp
  obtain ⟨k, g⟩ := (flat_good s).1 t (List.mem_flatten.2 ⟨_, hr, ht⟩)
  have a := g.lo
  have b := g.hi
  unfold tend at b
  exact ⟨a, by show t.At ≤ _; omega, by show t.Text.length ≤ _; omega⟩
theorem v20 (s : Bs) (hp : len1 s) : VC20 s (fun r => r = verdict_behind s) := by
  have hs : s.length ≤ 1000000 := hp
  refine ⟨hp, ?_⟩
  rintro _ rfl
  intro hsm
  simp only [sm] at hsm
  have hT : verdict_behind s = beh s 1 0 := rfl
  rw [hT]
  generalize hT : beh s 1 0 = T
  have hL : token_Lines s = linesL s 1 0 := rfl
  rw [hL] at hsm ⊢
  generalize hM : linesL s 1 0 = M at hsm ⊢
  unfold VC20_J1
  refine ⟨fun a x => 0 ≤ x ∧ x ≤ M.length ∧ 0 ≤ a ∧ a ≤ s.length ∧ M.drop x.toNat = linesL (s.drop a.toNat) (x + 1) a ∧ beh (s.drop a.toNat) (x + 1) a = T, fun _ x => (M.length - x).toNat, ⟨by omega, by omega, by omega, by omega, by simpa using hM.symm, by simpa using hT⟩, ?_⟩
  rintro a x ⟨x0, x1, a0, a1, hd, hb⟩
  refine ⟨fun hx => ?_, fun hx => ?_⟩
  · have hx := of_decide_eq_true hx
    have hne : s.drop a.toNat ≠ [] := by
      intro e
      rw [e, linesL_nil, drop_gi x0 hx] at hd; cases hd
    have ha : a < s.length := by
      by_cases h : a < s.length
      · exact h
      · exact absurd (List.drop_eq_nil_of_le (by omega)) hne
    rw [drop_gi x0 hx, linesL_cons hne] at hd
    obtain ⟨hrow, hrest⟩ := List.cons.inj hd
    rw [beh_cons hne] at hb
    -- behind the line's end
    have fin : ∀ e : Int, a ≤ e → e ≤ s.length → (∀ j : Int, a ≤ j → j < e → gi s j ≠ 10) → (e < s.length → gi s e = 10) →
        VC20_J2 s (fun r => r = T) M (fun a x => 0 ≤ x ∧ x ≤ M.length ∧ 0 ≤ a ∧ a ≤ s.length ∧ M.drop x.toNat = linesL (s.drop a.toNat) (x + 1) a ∧ beh (s.drop a.toNat) (x + 1) a = T) (fun _ x => (M.length - x).toNat) a x e := by
      intro e e0 e1 hin hend
      have htw := tw_seg a0 e0 e1 hin hend
      have hlen := seg_len a0 e0 e1
      have htl : ((tw (s.drop a.toNat)).length : Int) = e - a := by rw [htw]; exact hlen
      have hw : IntKind.i64.wrap (e + 1) = e + 1 := wrp (by omega) (by omega)
      have hw2 : IntKind.i64.wrap (x + 1) = x + 1 := wrp (by omega) (by omega)
      have hm : (if ((s.length : Nat) : Int) < e + 1 then ((s.length : Nat) : Int) else e + 1) = a + ((min ((tw (s.drop a.toNat)).length + 1) (s.drop a.toNat).length : Nat) : Int) := by
        rw [List.length_drop]
        split <;> omega
      unfold VC20_J2
      rw [hw, hw2, hm]
      have hrl : (gi M x).length = (rowOf (tw (s.drop a.toNat)) (x + 1) a).length := by rw [hrow]
      refine ⟨fun hl => ?_, fun hl => ?_⟩
      · have hl := of_decide_eq_true hl
        rw [if_neg (by intro e; rw [e, List.length_nil] at hrl; omega)] at hb
        exact hb
      · have hl := of_decide_eq_false hl
        rw [if_pos (List.length_eq_zero_iff.1 (by omega)), List.drop_drop] at hb
        rw [List.drop_drop] at hrest
        have hm0 : e < s.length → a + ((min ((tw (s.drop a.toNat)).length + 1) (s.drop a.toNat).length : Nat) : Int) = e + 1 := by rw [List.length_drop]; omega
        have hm1 : ¬ e < s.length → a + ((min ((tw (s.drop a.toNat)).length + 1) (s.drop a.toNat).length : Nat) : Int) = s.length := by rw [List.length_drop]; omega
        generalize a + ((min ((tw (s.drop a.toNat)).length + 1) (s.drop a.toNat).length : Nat) : Int) = m at hm0 hm1 hb ⊢
        have hmm : 0 ≤ m ∧ m ≤ s.length := by
          by_cases h : e < s.length
          · have := hm0 h; omega
          · have := hm1 h; omega
        have hdr : s.drop (a.toNat + ((tw (s.drop a.toNat)).length + 1)) = s.drop m.toNat := by
          by_cases h : e < s.length
          · rw [show a.toNat + ((tw (s.drop a.toNat)).length + 1) = m.toNat by have := hm0 h; omega]
          · rw [List.drop_eq_nil_of_le (by omega), List.drop_eq_nil_of_le (by have := hm1 h; omega)]
        rw [hdr] at hb hrest
        refine ⟨⟨by omega, by omega, hmm.1, hmm.2, ?_, hb⟩, by first | omega | (dsimp only; omega)⟩
        rw [hrest]
        by_cases h : e < s.length
        · rw [show a + ((tw (s.drop a.toNat)).length : Int) + 1 = m by have := hm0 h; omega]
        · rw [show s.drop m.toNat = [] from List.drop_eq_nil_of_le (by have := hm1 h; omega)]; rfl
    refine ⟨⟨x0, hx⟩, fun _ => ⟨fun e => a ≤ e ∧ e ≤ s.length ∧ ∀ j : Int, a ≤ j → j < e → gi s j ≠ 10, fun e => (s.length - e).toNat, ⟨Int.le_refl _, a1, fun j _ _ => by omega⟩, ?_⟩⟩
    rintro e ⟨e0, e1, hin⟩
    unfold VC20_J3
    refine ⟨fun he => ?_, fun he => ?_⟩
    · have he := of_decide_eq_true he
      refine ⟨⟨by omega, he⟩, fun h => ?_, fun h => ?_⟩
      · have h : gi s e ≠ 10 := fun e2 => by rw [e2] at h; simp at h
        rw [wrp (n := e + 1) (by omega) (by omega)]
        refine ⟨⟨by omega, by omega, fun j j0 j1 => ?_⟩, by first | omega | (dsimp only; omega)⟩
        by_cases hj : j = e
        · subst hj; exact h
        · exact hin j j0 (by omega)
      · have h : ((gi s e).toNat : Int) = 10 := by simpa using h
        refine fin e e0 e1 hin (fun _ => ?_)
        apply UInt8.toNat_inj.1
        show (gi s e).toNat = 10; omega
    · have he := of_decide_eq_false he
      exact ⟨fun h => (by cases h), fun _ => fin e e0 e1 hin (fun h => absurd h he)⟩
  · have hx := of_decide_eq_false hx
    rw [List.drop_eq_nil_of_le (by omega)] at hd
    have : s.drop a.toNat = [] := by
      by_cases h : s.drop a.toNat = []
      · exact h
      · rw [linesL_cons h] at hd; cases hd
    rw [this, beh_nil] at hb
    exact hb
end Go.Proofs.YtkgcdoeldilhaaaGreatDoor
