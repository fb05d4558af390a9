/- Histories as text: what reads an event, what reads a case. -/
import Derived.Test.YtcjldfbgccmpkaaDoorHV21
set_option linter.all false
namespace Go.Proofs.YtcjldfbgccmpkaaDoor
open Go Go.Sv Go.Pu
theorem nums2 {P : PL} {w : Bs} {a b c d e : Int} (h : (numsOf P w [a, c] [b, d] e).2.2 = 0) : (numsOf P w [a, c] [b, d] e).2.1 = e ∧ ∃ x y, (numsOf P w [a, c] [b, d] e).1 = [x, y] ∧ a ≤ x ∧ x ≤ b ∧ c ≤ y ∧ y ≤ d := by
  cases P with
  | nil => exact absurd h (by simp [numsOf])
  | cons p r =>
    rw [numsOf_cons] at h ⊢
    by_cases hp : p.2 ≠ w
    · rw [if_pos hp] at h; exact absurd h (by simp)
    rw [if_neg hp] at h ⊢
    have hz : [a, c].zip [b, d] = [(a, b), (c, d)] := rfl
    rw [hz] at h ⊢
    cases r with
    | nil => exact absurd h (by simp [numsGo])
    | cons p1 r =>
      simp only [numsGo] at h ⊢
      by_cases h1 : (numOf p1.2 a b).2 ≠ 0
      · rw [if_pos h1] at h; exact absurd h h1
      rw [if_neg h1] at h ⊢
      cases r with
      | nil => exact absurd h (by simp [numsGo])
      | cons p2 r =>
        simp only [numsGo] at h ⊢
        by_cases h2 : (numOf p2.2 c d).2 ≠ 0
        · rw [if_pos h2] at h; exact absurd h h2
        rw [if_neg h2] at h ⊢
        cases r with
        | nil =>
          have k1 := numOf_ok (t := p1.2) (lo := a) (hi := b) (by omega)
          have k2 := numOf_ok (t := p2.2) (lo := c) (hi := d) (by omega)
          simp only [numsGo]
          exact ⟨trivial, _, _, rfl, k1.1, k1.2, k2.1, k2.2⟩
        | cons p3 r => exact absurd h (by simp [numsGo])
/-- an event of its numbers -/
def evOf (W : Int) (N : List Int × Int × Int) (at0 e : Int) (ob : Int → Bool) : Api_Event × Int × Int :=
  if N.2.2 ≠ 0 then (⟨W, 0, 0⟩, N.2.1, N.2.2) else if ob (gi N.1 0) == (W == 1) then (⟨W, gi N.1 0, gi N.1 1⟩, at0, 33) else (⟨W, gi N.1 0, gi N.1 1⟩, e, 0)
theorem readEv_eq (P : PL) (kinds e : Int) (ob : Int → Bool) : readEv P kinds e ob = if evWhat (gi P 0).2 = 0 then (⟨2, 0, 0⟩, (gi P 0).1, 8) else evOf (evWhat (gi P 0).2) (numsOf P (gi P 0).2 [1, 0] (hiOf kinds (evWhat (gi P 0).2)) e) (gi P 0).1 e ob := rfl
theorem evWhat3 (w : Bs) : evWhat w = 0 ∨ evWhat w = 1 ∨ evWhat w = 2 := by
  unfold evWhat
  split
  · exact .inr (.inl rfl)
  · split
    · exact .inr (.inr rfl)
    · exact .inl rfl
/-- what is read without a fault -/
theorem readEv_ok {P : PL} {kinds e : Int} {ob : Int → Bool} (h : (readEv P kinds e ob).2.2 = 0) : (readEv P kinds e ob).2.1 = e ∧ evWhat (gi P 0).2 ≠ 0 ∧ (readEv P kinds e ob).1.What = evWhat (gi P 0).2 ∧ 1 ≤ (readEv P kinds e ob).1.Prc ∧ (readEv P kinds e ob).1.Prc ≤ 1000 ∧ 0 ≤ (readEv P kinds e ob).1.N ∧ ((readEv P kinds e ob).1.What = 1 → (readEv P kinds e ob).1.N ≤ kinds - 1) ∧ ((readEv P kinds e ob).1.What = 2 → (readEv P kinds e ob).1.N ≤ 1000000) ∧ (ob (readEv P kinds e ob).1.Prc == ((readEv P kinds e ob).1.What == 1)) = false := by
  rw [readEv_eq] at h ⊢
  by_cases h0 : evWhat (gi P 0).2 = 0
  · rw [if_pos h0] at h; exact absurd h (by simp)
  rw [if_neg h0] at h ⊢
  obtain ⟨t, ht, ht1, ht2⟩ : ∃ t, hiOf kinds (evWhat (gi P 0).2) = [1000, t] ∧ (evWhat (gi P 0).2 = 1 → t = kinds - 1) ∧ (evWhat (gi P 0).2 = 2 → t = 1000000) := by
    unfold hiOf
    split
    · rename_i h1
      exact ⟨_, rfl, fun _ => rfl, fun h2 => by omega⟩
    · rename_i h1
      exact ⟨_, rfl, fun h2 => absurd h2 h1, fun _ => rfl⟩
  rw [ht] at h ⊢
  have h2 := @nums2 P (gi P 0).2 1 1000 0 t e
  generalize numsOf P (gi P 0).2 [1, 0] [1000, t] e = N at *
  unfold evOf at h ⊢
  by_cases hN : N.2.2 ≠ 0
  · rw [if_pos hN] at h; exact absurd h hN
  rw [if_neg hN] at h ⊢
  by_cases hb : (ob (gi N.1 0) == (evWhat (gi P 0).2 == 1)) = true
  · rw [if_pos hb] at h; exact absurd h (by simp)
  rw [if_neg hb] at h ⊢
  obtain ⟨_, x, y, hxy, k1, k2, k3, k4⟩ := h2 (by omega)
  have e0 : gi N.1 0 = x := by rw [hxy]; rfl
  have e1 : gi N.1 1 = y := by rw [hxy]; rfl
  simp only [e0, e1] at hb ⊢
  refine ⟨trivial, h0, trivial, k1, k2, k3, fun h => ?_, fun h => ?_, by simpa using hb⟩
  · rw [← ht1 h]; exact k4
  · rw [← ht2 h]; exact k4
theorem inR_k {t : Int} (h0 : -1 ≤ t) (h1 : t ≤ 1000000) : inR .i64 t := ⟨by show (-9223372036854775808 : Int) ≤ t; omega, by show t ≤ (9223372036854775807 : Int); omega⟩
theorem hi_in (kinds W : Int) (k0 : 0 ≤ kinds) (k1 : kinds ≤ 1000000) : ∃ t, hiOf kinds W = [1000, t] ∧ inR .i64 t := by
  unfold hiOf
  split
  · exact ⟨_, rfl, inR_k (by omega) (by omega)⟩
  · exact ⟨_, rfl, inR_k (by omega) (by omega)⟩
theorem lo_hi {P : PL} (hg : goodP P) {t : Int} (ht : inR .i64 t) : preN P [1, 0] [1000, t] := by
  refine ⟨hg, by decide, by simp, fun x hx => ?_, fun x hx => ?_⟩
  · simp only [List.mem_cons, List.not_mem_nil, or_false] at hx
    rcases hx with rfl | rfl
    · exact inR_k (by omega) (by omega)
    · exact inR_k (by omega) (by omega)
  · simp only [List.mem_cons, List.not_mem_nil, or_false] at hx
    rcases hx with rfl | rfl
    · exact inR_k (by omega) (by omega)
    · exact ht
theorem v43 (l : List Token_Token) (o : Api_Object) (e : Int) (m : List (Int × Int)) (hp : preRd l o e m) : VC43 l o e m (fun r => r = histtext_reader_1 l o e m) := by
  intro hs1 hs2
  obtain ⟨hg, hne, k0, k1⟩ := hp
  have hl : 0 < l.length := List.length_pos_iff.2 hne
  have hP := pairsT_gi (l := l) (x := 0) (by omega) (by omega)
  have main : ∀ W, evWhat (gi l 0).Text = W → (W = 1 ∨ W = 2) → ∀ hi, hiOf o.Kinds W = hi → VC43_J1 l e m (fun r => r = histtext_reader_1 l o e m) hi W := by
    rintro W hW h12 _ rfl
    have hR : readEv (pairsT l) o.Kinds e (mapB m) = evOf W (numsOf (pairsT l) (gi l 0).Text [1, 0] (hiOf o.Kinds W) e) (gi l 0).At e (mapB m) := by
      rw [readEv_eq, hP]
      simp only
      rw [hW, if_neg (by omega)]
    unfold histtext_reader_1
    rw [hR]
    unfold VC43_J1 objtext_Numbers
    obtain ⟨t, ht, htr⟩ := hi_in o.Kinds W k0 k1
    rw [ht]
    refine ⟨⟨by omega, by omega⟩, lo_hi hg htr, ?_⟩
    rintro _ rfl
    intro _
    have h2 := @nums2 (pairsT l) (gi l 0).Text 1 1000 0 t e
    generalize numsOf (pairsT l) (gi l 0).Text [1, 0] [1000, t] e = N at h2 ⊢
    unfold evOf
    refine ⟨fun h => ?_, fun h => ?_⟩
    · have h : N.2.2 ≠ 0 := by simpa using h
      rw [if_pos h]
      simp only
      rw [if_neg h]
    · have h : N.2.2 = 0 := by simpa using h
      obtain ⟨_, x, y, hN, _⟩ := h2 h
      rw [if_neg (by simpa using h), hN]
      refine ⟨⟨by omega, by simp⟩, ⟨by omega, by simp⟩, fun hb => ⟨⟨by omega, by omega⟩, ?_⟩, fun hb => ?_⟩
      · rw [if_pos (show (mapB m (gi [x, y] 0) == (W == 1)) = true from hb)]
        simp only
        rw [if_neg (by decide)]
      · rw [if_neg (show ¬ (mapB m (gi [x, y] 0) == (W == 1)) = true from fun hq => by rw [show (mapB m (gi [x, y] 0) == (W == 1)) = false from hb] at hq; cases hq)]
        simp only
        rw [if_pos trivial]
  refine ⟨⟨by omega, by omega⟩, fun h => ⟨⟨by omega, by simp⟩, ?_⟩, fun h => ⟨fun h2 => ?_, fun h2 => ⟨⟨by omega, by omega⟩, ?_⟩⟩⟩
  · have h : (gi l 0).Text = wCall := by simpa [wCall] using h
    have hw : evWhat (gi l 0).Text = 1 := by unfold evWhat; rw [if_pos h]
    refine main 1 hw (.inl rfl) _ ?_
    rw [wrp (by omega) (by omega)]
    rfl
  · have h : (gi l 0).Text ≠ wCall := by simpa [wCall] using h
    have h2 : (gi l 0).Text = wRet := by simpa [wRet] using h2
    exact main 2 (by unfold evWhat; rw [if_neg h, if_pos h2]) (.inr rfl) _ rfl
  · have h : (gi l 0).Text ≠ wCall := by simpa [wCall] using h
    have h2 : (gi l 0).Text ≠ wRet := by simpa [wRet] using h2
    have hw : evWhat (gi l 0).Text = 0 := by unfold evWhat; rw [if_neg h, if_neg h2]
    have hR : readEv (pairsT l) o.Kinds e (mapB m) = (⟨2, 0, 0⟩, (gi l 0).At, 8) := by
      rw [readEv_eq, hP]
      simp only
      rw [if_pos hw]
    unfold histtext_reader_1
    rw [hR]
    simp only
    rw [if_neg (by decide)]
theorem v18 (o : Api_Object) (e : Int) : VC18 o e (fun r => r = histtext_reader o e) := fun _ => rfl
theorem v22 (o : Api_Object) (l : List Api_Event) (t : List Ref05_Token) (e : Int) (hp : preEv1 o l t e) : VC22 o l t e (fun r => r = ref26_one o l t e) := by
  intro hs1 hs2 hs3
  obtain ⟨hg, hne, k0, k1, hl⟩ := hp
  have ht : 0 < t.length := List.length_pos_iff.2 hne
  have hP := pairsR_gi (l := t) (x := 0) (by omega) (by omega)
  have main : ∀ W, evWhat (gi t 0).Text = W → (W = 1 ∨ W = 2) → ∀ top, hiOf o.Kinds W = [1000, top] → VC22_J1 l t e (fun r => r = ref26_one o l t e) top W := by
    intro W hW h12 top htop
    have hR : readEv (pairsR t) o.Kinds e (listB l) = evOf W (numsOf (pairsR t) (gi t 0).Text [1, 0] (hiOf o.Kinds W) e) (gi t 0).At e (listB l) := by
      rw [readEv_eq, hP]
      simp only
      rw [hW, if_neg (by omega)]
    unfold ref26_one
    rw [hR, hP]
    simp only
    rw [hW, if_neg (by omega)]
    unfold VC22_J1 ref24_Numbers
    obtain ⟨t', ht', htr⟩ := hi_in o.Kinds W k0 k1
    rw [htop] at ht'
    simp only [List.cons.injEq, true_and, and_true] at ht'
    subst ht'
    rw [htop]
    refine ⟨lo_hi hg htr, ?_⟩
    rintro _ rfl
    intro _
    have h2 := @nums2 (pairsR t) (gi t 0).Text 1 1000 0 top e
    generalize numsOf (pairsR t) (gi t 0).Text [1, 0] [1000, top] e = N at h2 ⊢
    unfold evOf
    refine ⟨fun h => ?_, fun h => ?_⟩
    · have h : N.2.2 ≠ 0 := by simpa using h
      rw [if_pos h, if_neg (fun hq => h hq.1)]
    · have h : N.2.2 = 0 := by simpa using h
      obtain ⟨_, x, y, hN, _⟩ := h2 h
      rw [if_neg (show ¬ N.2.2 ≠ 0 by omega), hN]
      refine ⟨⟨by omega, by simp⟩, ⟨by omega, by simp⟩, ?_, ?_⟩
      · show l.length ≤ 1000000
        omega
      rintro _ rfl
      intro _
      rintro _ rfl
      rw [has_open]
      refine ⟨fun hb => ⟨⟨by omega, by omega⟩, ?_⟩, fun hb => ?_⟩
      · rw [if_pos hb, if_neg (fun hq => absurd hq.1 (by simp))]
      · rw [if_neg (show ¬ (listB l (gi [x, y] 0) == (W == 1)) = true from fun hq => by rw [hb] at hq; cases hq)]
        refine ⟨fun hB => ⟨⟨by omega, by omega⟩, ?_⟩, fun hB => ?_⟩
        · have hB : l.length = 10000 := by simp at hB; omega
          rw [if_pos ⟨rfl, hB⟩]
        · have hB : l.length ≠ 10000 := by simp at hB; omega
          rw [if_neg (fun hq => hB hq.2)]
  refine ⟨⟨by omega, by omega⟩, fun h => ⟨⟨by omega, by omega⟩, ?_⟩, fun h => ⟨fun h2 => ?_, fun h2 => ?_⟩⟩
  · have h : (gi t 0).Text ≠ wCall ∧ (gi t 0).Text ≠ wRet := by simpa [wCall, wRet] using h
    have hw : evWhat (gi t 0).Text = 0 := by unfold evWhat; rw [if_neg h.1, if_neg h.2]
    unfold ref26_one
    rw [hP]
    simp only
    rw [if_pos hw]
  · have h2 : (gi t 0).Text = wCall := by simpa [wCall] using h2
    refine main 1 (by unfold evWhat; rw [if_pos h2]) (.inl rfl) _ ?_
    rw [wrp (by omega) (by omega)]
    rfl
  · have h2 : (gi t 0).Text ≠ wCall := by simpa [wCall] using h2
    have h3 : (gi t 0).Text = wRet := by
      rcases evWhat3 (gi t 0).Text with hz | hz | hz
      · exfalso
        unfold evWhat at hz
        rw [if_neg h2] at hz
        by_cases h4 : (gi t 0).Text = wRet
        · rw [if_pos h4] at hz; cases hz
        · have : ((!((gi t 0).Text == ([99, 97, 108, 108] : List UInt8))) && (!((gi t 0).Text == ([114, 101, 116] : List UInt8)))) = true := by simpa [wCall, wRet] using And.intro h2 h4
          rw [this] at h; cases h
      · unfold evWhat at hz
        rw [if_neg h2] at hz
        by_cases h4 : (gi t 0).Text = wRet
        · exact h4
        · rw [if_neg h4] at hz; cases hz
      · unfold evWhat at hz
        rw [if_neg h2] at hz
        by_cases h4 : (gi t 0).Text = wRet
        · exact h4
        · rw [if_neg h4] at hz; cases hz
    exact main 2 (by unfold evWhat; rw [if_neg h2, if_pos h3]) (.inr rfl) _ rfl
end Go.Proofs.YtcjldfbgccmpkaaDoor
