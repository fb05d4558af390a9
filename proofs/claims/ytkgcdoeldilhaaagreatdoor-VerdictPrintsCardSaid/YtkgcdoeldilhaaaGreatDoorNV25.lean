/- Verdicts as text: the reader. -/
import Derived.Test.YtkgcdoeldilhaaaGreatDoorNV24
set_option linter.all false
namespace Go.Proofs.YtkgcdoeldilhaaaGreatDoor
open Go Go.Sv Go.Pu
theorem v22 (r : Rd) : VC22 r (fun x => x = verdict_reader_next r) := by
  intro _
  unfold VC22_J1 verdict_reader_next
  refine ⟨fun l a b c => a = r.end_ ∧ b = r.at_ ∧ c = r.e ∧ nextL l = nextL r.rest, fun l _ _ _ => l.length, ⟨rfl, rfl, rfl, rfl⟩, ?_⟩
  rintro l a b c ⟨rfl, rfl, rfl, h⟩
  cases l with
  | nil =>
    refine ⟨fun h2 => by simp at h2, fun _ => ?_⟩
    rw [← h]; rfl
  | cons t l =>
    have g0 : gi (t :: l) 0 = t := rfl
    have d1 : (t :: l).drop (1 : Int).toNat = l := rfl
    rw [g0, d1]
    rw [nextL_cons] at h
    refine ⟨fun _ => ⟨⟨by omega, by simp <;> omega⟩, fun _ => ⟨⟨by omega, by simp <;> omega⟩, fun hl => ?_, fun hl => ?_⟩⟩, fun h2 => by simp at h2 <;> omega⟩
    · have hne : t.isEmpty = false := by
        cases t with
        | nil => simp at hl
        | cons _ _ => rfl
      rw [if_neg (by simp [hne])] at h
      rw [← h]
    · have hne : t.isEmpty = true := by
        cases t with
        | nil => rfl
        | cons _ _ => have := of_decide_eq_false hl; simp at this <;> omega
      rw [if_pos hne] at h
      exact ⟨⟨rfl, rfl, rfl, h⟩, by simp⟩
theorem v47 (l : List Token_Token) (w : Bs) (lo hi : List Int) (r : Rd) (hp : preRdN l w lo hi r) : VC47 l w lo hi r (fun x => x = verdict_reader_numbers l w lo hi r) := by
  intro _ _ _ _
  unfold verdict_reader_numbers
  refine ⟨fun h => ?_, fun h => ⟨hp, ?_⟩⟩
  · rw [if_pos (bne_iff_ne.1 h)]
  · rintro _ rfl
    intro _
    rw [bne_eq_false_iff_eq] at h
    rw [if_neg (by simp [h])]; rfl
theorem v49 (p : Api_Pick) (x : List Int) (hp : preP1 p x) : VC49 p x (fun r => r = verdict_reader_picks_1 p x) := by
  intro _
  have := List.length_pos_iff.2 hp
  exact ⟨⟨by omega, by omega⟩, rfl⟩
theorem v72_49 (l : List Api_Pick) (x : List Int) (hp : preP1I l x) : VC72_49 l x (fun r => r = slices_IndexFunc_api_Pick_api_Pick_verdict_reader_picks_1 l x) := by
  intro hs _
  simp only [sm] at hs
  unfold VC72_49_J1 slices_IndexFunc_api_Pick_api_Pick_verdict_reader_picks_1
  generalize hT : idxP x l 0 = T
  refine ⟨fun i => 0 ≤ i ∧ i ≤ l.length ∧ idxP x (l.drop i.toNat) i = T, fun i => (l.length - i).toNat, ⟨by omega, by omega, by simpa using hT⟩, ?_⟩
  rintro i ⟨h0, h1, h3⟩
  refine ⟨fun hi => ?_, fun hi => ?_⟩
  · have hi := of_decide_eq_true hi
    rw [drop_gi h0 hi] at h3
    have st : idxP x (gi l i :: l.drop (i + 1).toNat) i = if (gi l i).Oper == gi x 0 then i else idxP x (l.drop (i + 1).toNat) (i + 1) := rfl
    rw [st] at h3
    rw [wrp (n := i + 1) (by omega) (by omega)]
    refine ⟨⟨h0, hi⟩, hp, ?_⟩
    rintro _ rfl
    refine ⟨fun h => ?_, fun h => ⟨⟨by omega, by omega, ?_⟩, by first | omega | (dsimp only; omega)⟩⟩
    · have h : ((gi l i).Oper == gi x 0) = true := h
      rw [if_pos h] at h3; exact h3
    · have h : ((gi l i).Oper == gi x 0) = false := h
      rw [if_neg (by simp [h])] at h3; exact h3
  · have hi := of_decide_eq_false hi
    rw [List.drop_eq_nil_of_le (by omega)] at h3
    exact h3
theorem idxP_any (x : List Int) : ∀ (l : List Api_Pick) (i : Int), 0 ≤ i → decide (idxP x l i ≥ 0) = l.any (fun q => q.Oper == gi x 0)
  | [], i, _ => by simp [idxP]
  | p :: l, i, h0 => by
    have st : idxP x (p :: l) i = if p.Oper == gi x 0 then i else idxP x l (i + 1) := rfl
    rw [st, List.any_cons]
    by_cases h : (p.Oper == gi x 0) = true
    · rw [if_pos h, h, decide_eq_true h0]; rfl
    · rw [if_neg h, idxP_any x l (i + 1) (by omega)]
      have h : (p.Oper == gi x 0) = false := by simpa using h
      rw [h]; rfl
theorem v48_49 (l : List Api_Pick) (x : List Int) (hp : preP1I l x) : VC48_49 l x (fun r => r = slices_ContainsFunc_api_Pick_api_Pick_verdict_reader_picks_1 l x) := by
  intro _ _
  refine ⟨hp, ?_⟩
  rintro _ rfl
  exact idxP_any x l 0 (Int.le_refl _)
theorem goodL_next {l : List (List Token_Token)} (h : goodL l) : goodL (nextL l).2 ∧ goodP (pairsT (nextL l).1) := by
  obtain ⟨a, b⟩ := next_mem l
  exact ⟨⟨by have := h.1; omega, fun r hr => h.2 r (a r hr)⟩, good_next h.2⟩
theorem pick_pre {p : PL} (h : goodP p) : preN p [0, 0] [63, 1000000] := by
  refine ⟨h, by simp, by simp, fun x hx => ?_, fun x hx => ?_⟩
  · have hx : x = 0 := by simpa using hx
    subst hx; exact in_small (by omega) (by omega)
  · have hx : x = 63 ∨ x = 1000000 := by simpa using hx
    rcases hx with rfl | rfl
    · exact in_small (by omega) (by omega)
    · exact in_small (by omega) (by omega)
theorem takeN_succ (e : Int) (n : Nat) (L : List (List Token_Token)) (out : List Api_Pick) : takeN e (n + 1) L out =
    if (numsOf (pairsT (nextL L).1) wPick [0, 0] [63, 1000000] e).2.2 ≠ 0 then ([], (nextL L).2, (numsOf (pairsT (nextL L).1) wPick [0, 0] [63, 1000000] e).2.1, (numsOf (pairsT (nextL L).1) wPick [0, 0] [63, 1000000] e).2.2)
    else if out.any (fun q => q.Oper == gi (numsOf (pairsT (nextL L).1) wPick [0, 0] [63, 1000000] e).1 0) then ([], (nextL L).2, (gi (nextL L).1 0).At, 21)
    else takeN e n (nextL L).2 (out ++ [⟨gi (numsOf (pairsT (nextL L).1) wPick [0, 0] [63, 1000000] e).1 0, gi (numsOf (pairsT (nextL L).1) wPick [0, 0] [63, 1000000] e).1 1⟩]) := rfl
theorem v19 (n : Int) (r : Rd) (hp : preRdP n r) : VC19 n r (fun x => x = verdict_reader_picks n r) := by
  intro _
  obtain ⟨hn, hg, he⟩ := hp
  unfold VC19_J1
  by_cases hn0 : n ≤ 0
  · have hS : verdict_reader_picks n r = ([], r) := by unfold verdict_reader_picks; rw [if_pos hn0]
    rw [hS]
    refine ⟨fun out i l a b c => out = [] ∧ i = 0 ∧ l = r.rest ∧ a = r.end_ ∧ b = r.at_ ∧ c = r.e, fun _ _ _ _ _ _ => 0, ⟨rfl, rfl, rfl, rfl, rfl, rfl⟩, ?_⟩
    rintro _ _ _ _ _ _ ⟨rfl, rfl, rfl, rfl, rfl, rfl⟩
    exact ⟨fun h => absurd (of_decide_eq_true h) (by omega), fun _ => rfl⟩
  have hS : verdict_reader_picks n r = ((takeN r.end_ n.toNat r.rest []).1, ⟨(takeN r.end_ n.toNat r.rest []).2.1, r.end_, (takeN r.end_ n.toNat r.rest []).2.2.1, (takeN r.end_ n.toNat r.rest []).2.2.2⟩) := by unfold verdict_reader_picks; rw [if_neg hn0]
  rw [hS]
  generalize hT : takeN r.end_ n.toNat r.rest [] = T
  refine ⟨fun out i l a b c => 0 ≤ i ∧ i ≤ n ∧ (out.length : Int) = i ∧ goodL l ∧ a = r.end_ ∧ c = 0 ∧ (0 < i → b = r.end_) ∧ takeN r.end_ (n - i).toNat l out = T, fun _ i _ _ _ _ => (n - i).toNat, ⟨by omega, by omega, rfl, hg, rfl, he, fun h => by omega, by simpa using hT⟩, ?_⟩
  rintro out i l a b c ⟨i0, i1, ho, hl, rfl, rfl, hb, ht⟩
  refine ⟨fun hi => ?_, fun hi => ?_⟩
  · have hi := of_decide_eq_true hi
    obtain ⟨g1, g2⟩ := goodL_next hl
    rw [show (n - i).toNat = (n - (i + 1)).toNat + 1 by omega, takeN_succ] at ht
    rw [wrp (n := i + 1) (by omega) (by omega)]
    have hnx : verdict_reader_next (⟨l, r.end_, b, 0⟩ : Rd) = ((nextL l).1, ⟨(nextL l).2, r.end_, b, 0⟩) := rfl
    have hnu : verdict_reader_numbers (nextL l).1 ([112, 105, 99, 107] : Bs) [0, 0] [63, 1000000] (⟨(nextL l).2, r.end_, b, 0⟩ : Rd) = ((numsOf (pairsT (nextL l).1) wPick [0, 0] [63, 1000000] r.end_).1, ⟨(nextL l).2, r.end_, (numsOf (pairsT (nextL l).1) wPick [0, 0] [63, 1000000] r.end_).2.1, (numsOf (pairsT (nextL l).1) wPick [0, 0] [63, 1000000] r.end_).2.2⟩) := rfl
    rw [hnx]
    rintro _ rfl
    intro _ _
    refine ⟨pick_pre g2, ?_⟩
    simp only [hnu]
    rintro _ rfl
    intro _ _
    have hne : (numsOf (pairsT (nextL l).1) wPick [0, 0] [63, 1000000] r.end_).2.2 = 0 → 0 < (nextL l).1.length := fun h => by
      cases hx : (nextL l).1 with
      | nil => rw [hx] at h; simp [pairsT, numsOf] at h
      | cons _ _ => simp
    have h2 := fun h => nums_two (l := pairsT (nextL l).1) (w := wPick) (a := 0) (b := 0) (c := 63) (d := 1000000) (e := r.end_) h
    generalize numsOf (pairsT (nextL l).1) wPick [0, 0] [63, 1000000] r.end_ = q at *
    refine ⟨fun h => ?_, fun h => ?_⟩
    · have h : q.2.2 ≠ 0 := bne_iff_ne.1 h
      rw [if_pos h] at ht
      rw [← ht]
    · have h : q.2.2 = 0 := by simpa using h
      rw [if_neg (by simp [h])] at ht
      obtain ⟨z1, x, y, hx, _⟩ := h2 h
      have hq0 := hne h
      refine ⟨by show q.1 ≠ []; rw [hx]; simp, ?_⟩
      rintro _ rfl
      have hq2 : q.1.length = 2 := by rw [hx]; rfl
      refine ⟨fun hd => ⟨⟨by omega, by show (0 : Int) < ((nextL l).1.length : Int); omega⟩, ?_⟩, fun hd => ⟨⟨by omega, by show (0 : Int) < (q.1.length : Int); omega⟩, ⟨by omega, by show (1 : Int) < (q.1.length : Int); omega⟩, by simp; omega, ⟨by omega, by omega, by simp; omega, g1, rfl, h, fun _ => z1, ?_⟩, by first | omega | (dsimp only; omega)⟩⟩
      · have hd : (out.any fun p => p.Oper == gi q.1 0) = true := hd
        rw [if_pos hd] at ht
        rw [← ht]
      · have hd : (out.any fun p => p.Oper == gi q.1 0) = false := hd
        rw [if_neg (by simp [hd])] at ht
        exact ht
  · have hi := of_decide_eq_false hi
    have hin : i = n := by omega
    rw [show (n - i).toNat = 0 by omega] at ht
    have hb := hb (by omega)
    rw [← ht, hb]; rfl
theorem v46 (l : List Bs) (w : Bs) : VC46 l w (fun r => r = slices_Index_string_string l w) := by
  intro hs
  simp only [sm] at hs
  unfold VC46_J1 slices_Index_string_string
  generalize hT : idxW w l 0 = T
  refine ⟨fun i => 0 ≤ i ∧ i ≤ l.length ∧ idxW w (l.drop i.toNat) i = T, fun i => (l.length - i).toNat, ⟨by omega, by omega, by simpa using hT⟩, ?_⟩
  rintro i ⟨h0, h1, h3⟩
  refine ⟨fun hi => ?_, fun hi => ?_⟩
  · have hi := of_decide_eq_true hi
    rw [drop_gi h0 hi] at h3
    have st : idxW w (gi l i :: l.drop (i + 1).toNat) i = if w == gi l i then i else idxW w (l.drop (i + 1).toNat) (i + 1) := rfl
    rw [st] at h3
    rw [wrp (n := i + 1) (by omega) (by omega)]
    refine ⟨⟨h0, hi⟩, fun h => ?_, fun h => ⟨⟨by omega, by omega, ?_⟩, by first | omega | (dsimp only; omega)⟩⟩
    · rw [if_pos h] at h3; exact h3
    · rw [if_neg (by simp [h])] at h3; exact h3
  · have hi := of_decide_eq_false hi
    rw [List.drop_eq_nil_of_le (by omega)] at h3
    exact h3
theorem kindW_range (w : Bs) : 0 ≤ kindW w ∧ kindW w ≤ 5 := by
  rcases kindW_cases w with ⟨a, _⟩ | ⟨a, b, _⟩ <;> omega
theorem lohi_pre {p : PL} (h : goodP p) (k : Int) : preN p (loV k) (hiV k) := by
  unfold loV hiV
  by_cases k1 : k = 1
  · rw [if_pos k1, if_pos k1]
    refine ⟨h, by simp, by simp, fun x hx => ?_, fun x hx => ?_⟩
    · have hx : x = 0 ∨ x = 1 := by simpa using hx
      rcases hx with rfl | rfl <;> exact in_small (by omega) (by omega)
    · have hx : x = 1000000 ∨ x = 99 := by simpa using hx
      rcases hx with rfl | rfl <;> exact in_small (by omega) (by omega)
  rw [if_neg k1, if_neg k1]
  by_cases k4 : k = 4
  · rw [if_pos k4, if_pos k4]
    refine ⟨h, by simp, by simp, fun x hx => ?_, fun x hx => ?_⟩
    · have hx : x = 0 := by simpa using hx
      subst hx; exact in_small (by omega) (by omega)
    · have hx : x = 64 := by simpa using hx
      subst hx; exact in_small (by omega) (by omega)
  · rw [if_neg k4, if_neg k4]
    exact ⟨h, by simp, by simp, by simp, by simp⟩
theorem v18 (r : Rd) (hp : preRdH r) : VC18 r (fun x => x = verdict_reader_head r) := by
  intro _
  obtain ⟨hg, he⟩ := hp
  obtain ⟨g1, g2⟩ := goodL_next hg
  rintro _ rfl
  intro _ _
  have hnx : verdict_reader_next r = ((nextL r.rest).1, ⟨(nextL r.rest).2, r.end_, r.at_, r.e⟩) := rfl
  rw [hnx]
  unfold verdict_reader_head
  refine ⟨fun h => ?_, fun h => ?_⟩
  · rw [if_pos (empty_row h)]
  · have hne : (nextL r.rest).1 ≠ [] := full_row h
    have hlen : 0 < (nextL r.rest).1.length := List.length_pos_iff.2 hne
    rw [if_neg hne]
    refine ⟨⟨by omega, by show (0 : Int) < ((nextL r.rest).1.length : Int); omega⟩, ?_⟩
    rintro _ rfl
    intro _
    rintro _ rfl
    have hk : slices_Index_string_string verdict_words (gi (nextL r.rest).1 0).Text + 1 = kindW (gi (nextL r.rest).1 0).Text := rfl
    obtain ⟨k0, k5⟩ := kindW_range (gi (nextL r.rest).1 0).Text
    have hw : IntKind.i64.wrap (slices_Index_string_string verdict_words (gi (nextL r.rest).1 0).Text + 1) = kindW (gi (nextL r.rest).1 0).Text := by rw [hk, wrp (by omega) (by omega)]
    have fin : ∀ lo hi : List Int, loV (kindW (gi (nextL r.rest).1 0).Text) = lo → hiV (kindW (gi (nextL r.rest).1 0).Text) = hi →
        VC18_J1 (fun x => x = (kindW (gi (nextL r.rest).1 0).Text, verdict_reader_numbers (nextL r.rest).1 (gi (nextL r.rest).1 0).Text (loV (kindW (gi (nextL r.rest).1 0).Text)) (hiV (kindW (gi (nextL r.rest).1 0).Text)) ⟨(nextL r.rest).2, r.end_, r.at_, r.e⟩)) ((nextL r.rest).1, ⟨(nextL r.rest).2, r.end_, r.at_, r.e⟩) (slices_Index_string_string verdict_words (gi (nextL r.rest).1 0).Text) lo hi := by
      rintro lo hi rfl rfl
      refine ⟨⟨by omega, by show (0 : Int) < ((nextL r.rest).1.length : Int); omega⟩, lohi_pre g2 _, ?_⟩
      rintro _ rfl
      intro _ _
      rw [hw]
    simp only [hw]
    refine ⟨fun h0 => ⟨⟨by omega, by show (0 : Int) < ((nextL r.rest).1.length : Int); omega⟩, ?_⟩, fun h0 => ?_⟩
    · have h0 : kindW (gi (nextL r.rest).1 0).Text = 0 := by simpa using h0
      rw [if_pos h0]
    · have h0 : ¬ kindW (gi (nextL r.rest).1 0).Text = 0 := by simpa using h0
      rw [if_neg h0]
      refine ⟨fun h1 => ?_, fun h1 => ⟨fun h4 => ?_, fun h4 => ?_⟩⟩
      · have h1 : kindW (gi (nextL r.rest).1 0).Text = 1 := by simpa using h1
        exact fin _ _ (by unfold loV; rw [if_pos h1]) (by unfold hiV; rw [if_pos h1])
      · have h1 : ¬ kindW (gi (nextL r.rest).1 0).Text = 1 := by simpa using h1
        have h4 : kindW (gi (nextL r.rest).1 0).Text = 4 := by simpa using h4
        exact fin _ _ (by unfold loV; rw [if_neg h1, if_pos h4]) (by unfold hiV; rw [if_neg h1, if_pos h4])
      · have h1 : ¬ kindW (gi (nextL r.rest).1 0).Text = 1 := by simpa using h1
        have h4 : ¬ kindW (gi (nextL r.rest).1 0).Text = 4 := by simpa using h4
        exact fin _ _ (by unfold loV; rw [if_neg h1, if_neg h4]) (by unfold hiV; rw [if_neg h1, if_neg h4])
end Go.Proofs.YtkgcdoeldilhaaaGreatDoor
