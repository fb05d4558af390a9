/- The document's check of operations is the code's. -/
import Derived.Test.YtomodhnocjmfpaaQV10
set_option linter.all false
namespace Go.Proofs.Ytomodhnocjmfpaa
open Go Go.Sv Go.Pu
def usedOk (l : List Api_Oper) (u : List (Int × Int)) (i : Nat) : Prop := ∀ t, 0 ≤ usedBy u t ∧ usedBy u t ≤ 2 * i ∧ (usedBy u t > 0 ↔ ∃ k : Nat, k < i ∧ ((gi l (k : Int)).Start = t ∨ ((gi l (k : Int)).End ≥ 0 ∧ (gi l (k : Int)).End = t)))
def lastOk (l : List Api_Oper) (la : List (Int × Api_Oper)) (i : Nat) : Prop := ∀ p, match mget la p with
  | none => ∀ k : Nat, k < i → (gi l (k : Int)).Prc ≠ p
  | some x => ∃ k : Nat, k < i ∧ (gi l (k : Int)).Prc = p ∧ x = gi l (k : Int) ∧ ∀ j : Nat, k < j → j < i → (gi l (j : Int)).Prc ≠ p
def prevOk (l : List Api_Oper) (i : Nat) : Prop := ∀ k : Nat, k < i → oper_alone (gi l (k : Int)) = 0 ∧ ∀ j : Nat, j < k → (gi l (j : Int)).Start < (gi l (k : Int)).Start ∧ ((gi l (j : Int)).Prc = (gi l (k : Int)).Prc → oper_Ahead (gi l (j : Int)) (gi l (k : Int)) = true)
theorem use_by {u : List (Int × Int)} {k t : Int} (h0 : 0 ≤ usedBy u k) (h : usedBy u k ≤ 1000000) : usedBy (use u k) t = if t = k then usedBy u k + 1 else usedBy u t := by
  unfold use
  rw [wrp (by omega) (by omega)]
  unfold usedBy
  rw [mget_mput]
  split <;> rfl
theorem used_next {l : List Api_Oper} {u : List (Int × Int)} {i : Nat} (h : usedOk l u i) (hi : i < 5000) : usedOk l (usedNext l u i) (i + 1) := by
  have ex : ∀ P : Nat → Prop, (∃ k : Nat, k < i + 1 ∧ P k) ↔ (∃ k : Nat, k < i ∧ P k) ∨ P i := fun P => by
    constructor
    · rintro ⟨k, hk, hp⟩
      by_cases e : k = i
      · subst e; exact .inr hp
      · exact .inl ⟨k, by omega, hp⟩
    · rintro (⟨k, hk, hp⟩ | hp)
      · exact ⟨k, by omega, hp⟩
      · exact ⟨i, by omega, hp⟩
  intro t
  obtain ⟨a, b, c⟩ := h t
  rw [ex, ← c]
  have hs := h (gi l (i : Int)).Start
  have h1 : ∀ t, usedBy (use u (gi l (i : Int)).Start) t = if t = (gi l (i : Int)).Start then usedBy u (gi l (i : Int)).Start + 1 else usedBy u t := fun t => use_by hs.1 (by omega)
  unfold usedNext
  by_cases he : (gi l (i : Int)).End ≥ 0
  · rw [if_pos he]
    have he1 := h (gi l (i : Int)).End
    have hb : 0 ≤ usedBy (use u (gi l (i : Int)).Start) (gi l (i : Int)).End ∧ usedBy (use u (gi l (i : Int)).Start) (gi l (i : Int)).End ≤ 2 * i + 1 := by
      rw [h1]; split <;> omega
    rw [use_by hb.1 (by omega), h1, h1]
    by_cases e1 : t = (gi l (i : Int)).End
    · subst e1
      rw [if_pos rfl]
      split <;> (rename_i e2; refine ⟨by omega, by omega, fun _ => .inr (.inr ⟨he, rfl⟩), fun _ => by omega⟩)
    · rw [if_neg e1]
      by_cases e2 : t = (gi l (i : Int)).Start
      · subst e2
        rw [if_pos rfl]
        exact ⟨by omega, by omega, fun _ => .inr (.inl rfl), fun _ => by omega⟩
      · rw [if_neg e2]
        refine ⟨a, by omega, fun h => .inl h, ?_⟩
        rintro (h | h | h)
        · exact h
        · exact absurd h.symm e2
        · exact absurd h.2.symm e1
  · rw [if_neg he, h1]
    by_cases e2 : t = (gi l (i : Int)).Start
    · subst e2
      rw [if_pos rfl]
      exact ⟨by omega, by omega, fun _ => .inr (.inl rfl), fun _ => by omega⟩
    · rw [if_neg e2]
      refine ⟨a, by omega, fun h => .inl h, ?_⟩
      rintro (h | h | h)
      · exact h
      · exact absurd h.symm e2
      · exact absurd h.1 he
theorem last_next {l : List Api_Oper} {la : List (Int × Api_Oper)} {i : Nat} (h : lastOk l la i) : lastOk l (mput la (gi l (i : Int)).Prc (gi l (i : Int))) (i + 1) := by
  intro p
  have hp := h p
  rw [mget_mput]
  by_cases e : p = (gi l (i : Int)).Prc
  · rw [if_pos e]
    exact ⟨i, by omega, e.symm, rfl, fun j h1 h2 => by omega⟩
  · rw [if_neg e]
    cases hm : mget la p with
    | none =>
      rw [hm] at hp
      intro k hk
      by_cases e2 : k = i
      · subst e2; exact fun h => e h.symm
      · exact hp k (by omega)
    | some x =>
      rw [hm] at hp
      obtain ⟨k, h1, h2, h3, h4⟩ := hp
      refine ⟨k, by omega, h2, h3, fun j hj1 hj2 => ?_⟩
      by_cases e2 : j = i
      · subst e2; exact fun h => e h.symm
      · exact h4 j hj1 (by omega)
theorem alone_facts {x : Api_Oper} (h : oper_alone x = 0) : 0 ≤ x.Start ∧ (x.End = -1 ∨ x.End > x.Start) := by
  unfold oper_alone at h
  split at h
  · cases h
  · split at h
    · cases h
    · split at h
      · cases h
      · rename_i h1 _ h3
        refine ⟨by omega, ?_⟩
        have h3 : oper_ended x = true := by simpa using h3
        unfold oper_ended at h3
        split at h3
        · left; assumption
        · right
          simp only [Bool.and_eq_true, decide_eq_true_eq] at h3
          exact h3.1.1.1
theorem meets_iff {a b : Api_Oper} : ref27_meets a b = true ↔ a.Start = b.Start ∨ a.End = b.Start ∨ a.Start = b.End ∨ (a.End = b.End ∧ a.End ≠ -1) := by
  unfold ref27_meets
  simp only [Bool.or_eq_true, Bool.and_eq_true, beq_iff_eq, bne_iff_ne, or_assoc]
theorem out32_iff {l : List Api_Oper} {u : List (Int × Int)} {i : Nat} (hu : usedOk l u i) (hp : prevOk l i) (ha : oper_alone (gi l (i : Int)) = 0) : out32 l u i ↔ ∃ k : Nat, k < i ∧ ((gi l (k : Int)).Start ≥ (gi l (i : Int)).Start ∨ ref27_meets (gi l (k : Int)) (gi l (i : Int)) = true) := by
  obtain ⟨f1, f2⟩ := alone_facts ha
  unfold out32
  rw [(hu (gi l (i : Int)).Start).2.2, (hu (gi l (i : Int)).End).2.2]
  constructor
  · rintro (⟨h0, h1⟩ | ⟨k, hk, h⟩ | ⟨he, k, hk, h⟩)
    · refine ⟨i - 1, by omega, .inl ?_⟩
      rw [show ((i - 1 : Nat) : Int) = (i : Int) - 1 by omega]; exact h1
    · refine ⟨k, hk, .inr (meets_iff.2 ?_)⟩
      rcases h with h | h
      · exact .inl h
      · exact .inr (.inl h.2)
    · refine ⟨k, hk, .inr (meets_iff.2 ?_)⟩
      rcases h with h | h
      · exact .inr (.inr (.inl h))
      · exact .inr (.inr (.inr ⟨h.2, by omega⟩))
  · rintro ⟨k, hk, h | h⟩
    · left
      refine ⟨by omega, ?_⟩
      by_cases e : k = i - 1
      · subst e; rw [show ((i - 1 : Nat) : Int) = (i : Int) - 1 by omega] at h; exact h
      · have := ((hp (i - 1) (by omega)).2 k (by omega)).1
        rw [show ((i - 1 : Nat) : Int) = (i : Int) - 1 by omega] at this
        omega
    · obtain ⟨g1, g2⟩ := alone_facts (hp k hk).1
      rcases meets_iff.1 h with h | h | h | h
      · exact .inr (.inl ⟨k, hk, .inl h⟩)
      · exact .inr (.inl ⟨k, hk, .inr ⟨by omega, h⟩⟩)
      · exact .inr (.inr ⟨by omega, k, hk, .inl h⟩)
      · exact .inr (.inr ⟨by omega, k, hk, .inr ⟨by omega, h.1⟩⟩)
theorem ahead_trans {a b c : Api_Oper} (hb : oper_alone b = 0) (h1 : oper_Ahead a b = true) (h2 : oper_Ahead b c = true) : oper_Ahead a c = true := by
  obtain ⟨f1, f2⟩ := alone_facts hb
  unfold oper_Ahead at *
  rw [Bool.and_eq_true, decide_eq_true_eq, decide_eq_true_eq] at *
  omega
theorem out33_iff {l : List Api_Oper} {la : List (Int × Api_Oper)} {i : Nat} (hl : lastOk l la i) (hp : prevOk l i) : out33 l la i = true ↔ ∃ k : Nat, k < i ∧ (gi l (k : Int)).Prc = (gi l (i : Int)).Prc ∧ oper_Ahead (gi l (k : Int)) (gi l (i : Int)) = false := by
  unfold out33
  have h := hl (gi l (i : Int)).Prc
  cases hm : mget la (gi l (i : Int)).Prc with
  | none =>
    rw [hm] at h
    constructor
    · intro h2; simp at h2
    · rintro ⟨k, hk, h1, _⟩; exact absurd h1 (h k hk)
  | some x =>
    rw [hm] at h
    obtain ⟨k, h1, h2, h3, h4⟩ := h
    subst h3
    show (true && !oper_Ahead (gi l (k : Int)) (gi l (i : Int))) = true ↔ _
    rw [Bool.true_and, Bool.not_eq_true']
    constructor
    · intro h; exact ⟨k, h1, h2, h⟩
    · rintro ⟨j, hj, e1, e2⟩
      have : j ≤ k := by
        apply Classical.byContradiction
        intro hh
        exact h4 j (by omega) hj e1
      by_cases e : j = k
      · subst e; exact e2
      · have hjk := ((hp k h1).2 j (by omega)).2 (by rw [e1, h2])
        apply Classical.byContradiction
        intro hh
        rw [Bool.not_eq_false] at hh
        rw [ahead_trans (hp k h1).1 hjk hh] at e2
        cases e2
theorem v24 (l : List Api_Oper) : VC24 l (fun r => r = ref27_Check l) := by
  intro hsl
  unfold ref27_Check oper_Check
  refine ⟨fun h => ?_, fun h => ?_⟩
  · rw [if_pos (by have := of_decide_eq_true h; omega)]
  have h5 : l.length ≤ 5000 := by have := of_decide_eq_false h; omega
  rw [if_neg (by omega)]
  generalize hR : checkGo l l.length [] [] 0 = R
  refine ⟨fun i => ∃ (k : Nat) (u : List (Int × Int)) (la : List (Int × Api_Oper)), i = (k : Int) ∧ k ≤ l.length ∧ usedOk l u k ∧ lastOk l la k ∧ prevOk l k ∧ checkGo l (l.length - k) u la k = R, fun i => (l.length - i).toNat, ⟨0, [], [], rfl, by omega, fun t => ⟨by simp [usedBy, mget], by simp [usedBy, mget], by simp [usedBy, mget]⟩, fun p => by simp [mget], fun k hk => by omega, by simpa using hR⟩, ?_⟩
  rintro _ ⟨i, u, la, rfl, hil, hu, hla, hpv, hgo⟩
  refine ⟨fun h => ?_, fun h => ?_⟩
  · have hi : i < l.length := by have := of_decide_eq_true h; omega
    have hI : (0 : Int) ≤ (i : Int) ∧ (i : Int) < (l.length : Int) := ⟨by omega, by omega⟩
    rw [show l.length - i = (l.length - i - 1) + 1 by omega, checkGo] at hgo
    refine ⟨hI, fun ha => ?_, fun ha => ⟨fun hb => ?_, fun hb => ⟨fun hc => ?_, fun hc => ?_⟩⟩⟩
    · have e : oper_alone (gi l (i : Int)) = 2 := by
        unfold oper_alone
        rw [if_pos (by simp only [Bool.or_eq_true, decide_eq_true_eq] at ha; omega)]
      rw [if_pos (by omega), e] at hgo; exact hgo
    · have e : oper_alone (gi l (i : Int)) = 31 := by
        unfold oper_alone
        rw [if_neg (by simp only [Bool.or_eq_false_iff, decide_eq_false_iff_not] at ha; omega), if_pos (by simp only [Bool.or_eq_true, decide_eq_true_eq] at hb; omega)]
      rw [if_pos (by omega), e] at hgo; exact hgo
    all_goals (
      have n1 : ¬ ((gi l (i : Int)).Prc < 1 ∨ (gi l (i : Int)).Prc > 1000 ∨ (gi l (i : Int)).Start < 0 ∨ (gi l (i : Int)).Start > 9999) := by simp only [Bool.or_eq_false_iff, decide_eq_false_iff_not] at ha; omega
      have n2 : ¬ ((gi l (i : Int)).Kind < 0 ∨ (gi l (i : Int)).Kind ≥ 64) := by simp only [Bool.or_eq_false_iff, decide_eq_false_iff_not] at hb; omega)
    · have e : oper_alone (gi l (i : Int)) = 7 := by
        unfold oper_alone
        rw [if_neg n1, if_neg n2, if_pos]
        unfold oper_ended
        simp only [Bool.or_eq_true, Bool.and_eq_true, beq_iff_eq, bne_iff_ne, decide_eq_true_eq] at hc
        by_cases he : (gi l (i : Int)).End = -1
        · rw [if_pos he]; rcases hc with hc | hc
          · simpa using hc.2
          · exact absurd he hc.1
        · rw [if_neg he]
          rcases hc with hc | hc
          · exact absurd hc.1 he
          · have := hc.2
            simp only [Bool.and_eq_false_iff, decide_eq_false_iff_not]; omega
      rw [if_pos (by omega), e] at hgo; exact hgo
    · have e : oper_alone (gi l (i : Int)) = 0 := by
        unfold oper_alone
        rw [if_neg n1, if_neg n2, if_neg]
        unfold oper_ended
        simp only [Bool.or_eq_false_iff, Bool.and_eq_false_iff, beq_eq_false_iff_ne, bne_eq_false_iff_eq, decide_eq_false_iff_not] at hc
        by_cases he : (gi l (i : Int)).End = -1
        · rw [if_pos he]; rcases hc.1 with h | h
          · exact absurd he h
          · simp [h]
        · rw [if_neg he]
          rcases hc.2 with h | h
          · exact absurd h he
          · simp only [Bool.not_eq_false, Bool.and_eq_true, decide_eq_true_eq]; omega
      rw [if_neg (by omega)] at hgo
      have o32 := out32_iff hu hpv e
      have o33 := out33_iff hla hpv
      refine ⟨fun op k => 0 ≤ k ∧ k ≤ (i : Int) ∧ (∀ j : Nat, (j : Int) < k → ¬ ((gi l (j : Int)).Start ≥ (gi l (i : Int)).Start ∨ ref27_meets (gi l (j : Int)) (gi l (i : Int)) = true)) ∧ (op = true ↔ ∃ j : Nat, (j : Int) < k ∧ (gi l (j : Int)).Prc = (gi l (i : Int)).Prc ∧ oper_Ahead (gi l (j : Int)) (gi l (i : Int)) = false), fun _ k => ((i : Int) - k).toNat, ⟨by omega, by omega, fun j h => by omega, ⟨(fun h => by cases h), fun ⟨j, h, _⟩ => by omega⟩⟩, ?_⟩
      rintro op k ⟨k0, k1, hno, hop⟩
      obtain ⟨q, rfl⟩ := Int.eq_ofNat_of_zero_le k0
      refine ⟨fun hk => ?_, fun hk => ?_⟩
      · have hk := of_decide_eq_true hk
        have hQ : (0 : Int) ≤ (q : Int) ∧ (q : Int) < (l.length : Int) := ⟨by omega, by omega⟩
        have bad : ((gi l (q : Int)).Start ≥ (gi l (i : Int)).Start ∨ ref27_meets (gi l (q : Int)) (gi l (i : Int)) = true) → ((i : Int), (32 : Int)) = R := fun h => by
          rw [if_pos (o32.2 ⟨q, by omega, h⟩)] at hgo; exact hgo
        have good : ¬ ((gi l (q : Int)).Start ≥ (gi l (i : Int)).Start ∨ ref27_meets (gi l (q : Int)) (gi l (i : Int)) = true) → ∀ o2 : Bool, (o2 = true ↔ op = true ∨ ((gi l (q : Int)).Prc = (gi l (i : Int)).Prc ∧ oper_Ahead (gi l (q : Int)) (gi l (i : Int)) = false)) →
            (0 ≤ IntKind.i64.wrap ((q : Int) + 1) ∧ IntKind.i64.wrap ((q : Int) + 1) ≤ (i : Int) ∧ (∀ j : Nat, (j : Int) < IntKind.i64.wrap ((q : Int) + 1) → ¬ ((gi l (j : Int)).Start ≥ (gi l (i : Int)).Start ∨ ref27_meets (gi l (j : Int)) (gi l (i : Int)) = true)) ∧ (o2 = true ↔ ∃ j : Nat, (j : Int) < IntKind.i64.wrap ((q : Int) + 1) ∧ (gi l (j : Int)).Prc = (gi l (i : Int)).Prc ∧ oper_Ahead (gi l (j : Int)) (gi l (i : Int)) = false)) ∧ ((i : Int) - IntKind.i64.wrap ((q : Int) + 1)).toNat < ((i : Int) - (q : Int)).toNat := by
          intro hn o2 ho2
          rw [wrp (by omega) (by omega)]
          refine ⟨⟨by omega, by omega, fun j hj => ?_, ?_⟩, by omega⟩
          · by_cases ej : j = q
            · subst ej; exact hn
            · exact hno j (by omega)
          · rw [ho2, hop]
            constructor
            · rintro (⟨j, hj, h⟩ | h)
              · exact ⟨j, by omega, h⟩
              · exact ⟨q, by omega, h⟩
            · rintro ⟨j, hj, h⟩
              by_cases ej : j = q
              · subst ej; exact .inr h
              · exact .inl ⟨j, by omega, h⟩
        refine ⟨hQ, fun h2 => ?_, fun h2 => ⟨hQ, ?_⟩⟩
        · unfold VC24_J4
          exact ⟨fun _ => bad (.inl (of_decide_eq_true h2)), fun h => by cases h⟩
        · rintro _ rfl
          unfold VC24_J4 VC24_J3
          refine ⟨fun h3 => bad (.inr h3), fun h3 => ?_⟩
          have hn : ¬ ((gi l (q : Int)).Start ≥ (gi l (i : Int)).Start ∨ ref27_meets (gi l (q : Int)) (gi l (i : Int)) = true) := by
            rintro (h | h)
            · exact of_decide_eq_false h2 h
            · rw [h3] at h; cases h
          refine ⟨fun ho => good hn true (by simp [ho]), fun ho => ⟨hQ, fun hpr => ⟨hQ, ?_⟩, fun hpr => ?_⟩⟩
          · rintro _ rfl
            refine good hn _ ?_
            have hpr : (gi l (q : Int)).Prc = (gi l (i : Int)).Prc := by simpa using hpr
            show (!oper_Ahead (gi l (q : Int)) (gi l (i : Int))) = true ↔ _
            simp [ho, hpr]
          · refine good hn _ ?_
            have hpr : ¬ (gi l (q : Int)).Prc = (gi l (i : Int)).Prc := by simpa using hpr
            simp [ho, hpr]
      · have hk := of_decide_eq_false hk
        obtain rfl : q = i := by omega
        have n32 : ¬ out32 l u q := by
          rw [o32]
          rintro ⟨j, hj, h⟩
          exact hno j (by omega) h
        rw [if_neg n32] at hgo
        have e33 : out33 l la q = op := by
          rw [Bool.eq_iff_iff, o33, hop]
          constructor
          · rintro ⟨j, hj, h⟩; exact ⟨j, by omega, h⟩
          · rintro ⟨j, hj, h⟩; exact ⟨j, by omega, h⟩
        rw [e33] at hgo
        unfold VC24_J2
        refine ⟨fun ho => ?_, fun ho => ?_⟩
        · rw [if_pos ho] at hgo; exact hgo
        · rw [if_neg (by simp [ho])] at hgo
          rw [wrp (by omega) (by omega)]
          refine ⟨⟨q + 1, _, _, by push_cast; rfl, by omega, used_next hu (by omega), last_next hla, ?_, by rw [show l.length - (q + 1) = l.length - q - 1 by omega]; exact hgo⟩, by first | omega | (dsimp only; omega)⟩
          intro k hk2
          by_cases ek : k = q
          · subst ek
            refine ⟨e, fun j hj => ⟨?_, fun hpr => ?_⟩⟩
            · have := hno j (by omega); omega
            · apply Classical.byContradiction
              intro hh
              rw [ho] at hop
              have := hop.2 ⟨j, by omega, hpr, by simpa using hh⟩
              cases this
          · exact hpv k (by omega)
  · have h := of_decide_eq_false h
    obtain rfl : i = l.length := by omega
    unfold VC24_J1
    rw [Nat.sub_self, checkGo] at hgo
    exact hgo
end Go.Proofs.Ytomodhnocjmfpaa
