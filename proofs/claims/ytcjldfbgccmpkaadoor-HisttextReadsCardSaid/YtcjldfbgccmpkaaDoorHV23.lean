/- Histories as text: what reads a case, what prints one. -/
import Derived.Test.YtcjldfbgccmpkaaDoorHV22
set_option linter.all false
namespace Go.Proofs.YtcjldfbgccmpkaaDoor
open Go Go.Sv Go.Pu
theorem evsGo_cons (kinds e : Int) (p : PL) (L : List PL) (acc : List Api_Event) : evsGo kinds e (p :: L) acc = if (readEv p kinds e (listB acc)).2.2 ≠ 0 then ([], (readEv p kinds e (listB acc)).2.1, (readEv p kinds e (listB acc)).2.2)
    else if acc.length ≥ 10000 then ([], (gi p 0).1, 3) else evsGo kinds e L (acc ++ [(readEv p kinds e (listB acc)).1]) := rfl
theorem take_bad {T : List (List Token_Token)} {e : Int} (h : (takeAll (linesP T) e).2.2.2 ≠ 0) : objtext_Take T e = (obj0, [], (takeAll (linesP T) e).2.2.1, (takeAll (linesP T) e).2.2.2) := by
  unfold objtext_Take; rw [if_pos h]
theorem take_good {T : List (List Token_Token)} {e : Int} (h : (takeAll (linesP T) e).2.2.2 = 0) : objtext_Take T e = ((takeAll (linesP T) e).1, dropSaid (takeAll (linesP T) e).2.1.toNat T, e, 0) := by
  unfold objtext_Take; rw [if_neg (by simpa using h)]
theorem mapB_list {m : List (Int × Int)} {l : List Api_Event} (h : mapOK m l) : mapB m = listB l := by
  funext q
  unfold mapB listB
  rw [h q]
theorem kinds_of {L : List PL} {e : Int} (h : (takeAll L e).2.2.2 = 0) : 1 ≤ (takeAll L e).1.Kinds ∧ (takeAll L e).1.Kinds ≤ 64 := by
  obtain ⟨_, _, _, hc, _⟩ := takeAll_ok h
  have := (check_ok hc).1
  unfold badHead at this
  omega
theorem v8 (s : Bs) : VC8 s (fun r => r = histtext_Parse s) := by
  unfold VC8 histtext_Parse caseOf
  refine ⟨fun h => by rw [if_pos (of_decide_eq_true h)]; rfl, fun h => ?_⟩
  have h := of_decide_eq_false h
  rw [if_neg h]
  have hl : len1 s := by unfold len1; omega
  refine ⟨hl, ?_⟩
  rintro _ rfl
  intro hs1
  have hpt := lines_preTk s hl (s.length : Int)
  refine ⟨hpt, ?_⟩
  rintro _ rfl
  generalize token_Lines s = T at *
  generalize he : ((s.length : Nat) : Int) = e at *
  unfold caseP
  by_cases hk : (takeAll (linesP T) e).2.2.2 ≠ 0
  · rw [take_bad hk]
    intro _ _
    exact ⟨fun _ => by rw [if_pos hk]; rfl, fun h => absurd hk (by simpa using h)⟩
  have hk : (takeAll (linesP T) e).2.2.2 = 0 := by omega
  rw [take_good hk]
  intro hs2 hs3
  refine ⟨fun h => absurd h (by simp), fun _ => ?_⟩
  rintro _ rfl
  intro hs4
  rw [if_neg (show ¬ (takeAll (linesP T) e).2.2.2 ≠ 0 by omega)]
  obtain ⟨_, t1, t2, _, t4, _⟩ := takeAll_ok hk
  have hK := kinds_of hk
  obtain ⟨d1, d2⟩ := drop_mem (takeAll (linesP T) e).2.1.toNat T
  have hE : evsOf (linesP T) e = evsGo (takeAll (linesP T) e).1.Kinds e (linesP (dropSaid (takeAll (linesP T) e).2.1.toNat T)) [] := by unfold evsOf; rw [drop_said]
  generalize evsOf (linesP T) e = R at *
  generalize dropSaid (takeAll (linesP T) e).2.1.toNat T = rest at *
  generalize (takeAll (linesP T) e).1 = o at *
  have hlen : rest.length ≤ 10000000 := Nat.le_trans d2 hpt.1
  unfold VC8_J1 VC8_J2 histtext_reader
  dsimp only
  refine ⟨fun i a b c rows evs m => 0 ≤ i ∧ i ≤ rest.length ∧ a = o.States ∧ b = o.Kinds ∧ c = o.Init ∧ rows = o.Rows ∧ evs.length ≤ 10000 ∧ mapOK m evs ∧ evsGo o.Kinds e (linesP (rest.drop i.toNat)) evs = R,
    fun i _ _ _ _ _ _ => (rest.length - i).toNat, ⟨by omega, by omega, rfl, rfl, rfl, rfl, by simp, fun q => by simp [mget, lastW], by rw [hE]; rfl⟩, ?_⟩
  rintro i a b c rows evs m ⟨h0, h1, rfl, rfl, rfl, rfl, h6, h7, h8⟩
  refine ⟨fun hi => ?_, fun hi => ?_⟩
  · have hi := of_decide_eq_true hi
    rw [drop_gi h0 hi, linesP_cons] at h8
    have hg := hpt.2 _ (d1 _ (mem_gi h0 hi))
    rw [wrp (n := i + 1) (by omega) (by omega)]
    refine ⟨⟨h0, hi⟩, fun _ => ⟨fun hz => ?_, fun hz => ?_⟩⟩
    · have hz : (gi rest i).isEmpty = true := by
        have : (gi rest i).length = 0 := by simpa using hz
        rw [List.length_eq_zero_iff.1 this]; rfl
      rw [if_pos hz] at h8
      exact ⟨⟨by omega, by omega, rfl, rfl, rfl, rfl, h6, h7, h8⟩, by first | omega | (dsimp only; omega)⟩
    · have hz : gi rest i ≠ [] := by
        intro hq
        rw [hq] at hz
        simp at hz
      have hz2 : ¬ (gi rest i).isEmpty = true := by simpa using hz
      rw [if_neg hz2, evsGo_cons] at h8
      have hpos : 0 < (gi rest i).length := List.length_pos_iff.2 hz
      refine ⟨⟨hg, hz, by omega, by omega⟩, ?_⟩
      rintro _ rfl
      unfold histtext_reader_1
      rw [mapB_list h7]
      have hok := @readEv_ok (pairsT (gi rest i)) o.Kinds e (listB evs)
      generalize readEv (pairsT (gi rest i)) o.Kinds e (listB evs) = E at *
      refine ⟨fun hx => ?_, fun hx => ?_⟩
      · have hx : E.2.2 ≠ 0 := by simpa using hx
        rw [if_pos hx] at h8
        rw [← h8, if_pos hx]; rfl
      · have hx : E.2.2 = 0 := by simpa using hx
        rw [if_neg (show ¬ E.2.2 ≠ 0 by omega)] at h8
        refine ⟨fun hB => ⟨⟨by omega, by omega⟩, ?_⟩, fun hB => ?_⟩
        · have hB : evs.length ≥ 10000 := by have := of_decide_eq_true hB; omega
          rw [if_pos hB, pairsT_gi (by omega) (by omega)] at h8
          rw [← h8, if_pos (by simp)]; rfl
        · have hB : ¬ evs.length ≥ 10000 := by have := of_decide_eq_false hB; omega
          rw [if_neg hB] at h8
          refine ⟨by simp; omega, ⟨by omega, by omega, rfl, rfl, rfl, rfl, by simp; omega, ?_, h8⟩, by first | omega | (dsimp only; omega)⟩
          simp only
          rw [if_pos hx]
          exact mapOK_put h7 _
  · have hi := of_decide_eq_false hi
    rw [List.drop_eq_nil_of_le (by omega)] at h8
    have h8 : (evs, e, 0) = R := h8
    rw [← h8, if_neg (by simp)]; subst he; rfl
theorem v9 (s : Bs) : VC9 s (fun r => r = ref26_Parse s) := by
  unfold VC9 ref26_Parse caseOf
  refine ⟨fun h => by rw [if_pos (of_decide_eq_true h)]; rfl, fun h => ?_⟩
  have h := of_decide_eq_false h
  rw [if_neg h]
  have hl : len1 s := by unfold len1; omega
  refine ⟨hl, ?_⟩
  rintro _ rfl
  intro hs1
  have hpt := lines_preTk s hl (s.length : Int)
  have h2 : ref05_Lines s = (token_Lines s).map fun r => r.map toRef := rfl
  rw [h2] at hs1 ⊢
  refine ⟨by show _ ≤ _; rw [List.length_map]; exact hpt.1, ?_⟩
  rintro _ rfl
  intro hs2
  have hpr := said_pre hpt
  refine ⟨hpr, ?_⟩
  rintro _ rfl
  have hlk := said_link (token_Lines s)
  generalize ref24_Said ((token_Lines s).map fun r => r.map toRef) = T at *
  generalize he : ((s.length : Nat) : Int) = e at *
  unfold ref24_Take caseP
  rw [hlk]
  have hLT : (linesP (token_Lines s)).length = T.length := by rw [← hlk, List.length_map]
  generalize linesP (token_Lines s) = L at *
  intro hs3
  refine ⟨fun hk => ?_, fun hk => ?_⟩
  · have hk : (takeAll L e).2.2.2 ≠ 0 := by simpa using hk
    rw [if_pos hk]; rfl
  have hk : (takeAll L e).2.2.2 = 0 := by simpa using hk
  rw [if_neg (show ¬ (takeAll L e).2.2.2 ≠ 0 by omega)]
  obtain ⟨_, t1, t2, _, t4, _⟩ := takeAll_ok hk
  have hK := kinds_of hk
  have hE : evsOf L e = evsGo (takeAll L e).1.Kinds e (L.drop (takeAll L e).2.1.toNat) [] := rfl
  unfold VC9_J1
  generalize evsOf L e = R at *
  generalize (takeAll L e).1 = o at *
  generalize (takeAll L e).2.1 = n at *
  have hT := hpr.1
  refine ⟨fun evs i => 0 ≤ i ∧ i ≤ T.length ∧ evs.length ≤ 10000 ∧ evsGo o.Kinds e (L.drop i.toNat) evs = R, fun _ i => (T.length - i).toNat, ⟨by omega, by omega, by simp, hE.symm⟩, ?_⟩
  rintro evs i ⟨h0, h1, h6, h8⟩
  refine ⟨fun hi => ?_, fun hi => ?_⟩
  · have hi := of_decide_eq_true hi
    have hg := hpr.2 _ (mem_gi h0 hi)
    have hLi : gi L i = pairsR (gi T i) := by rw [← hlk, gi_map _ h0 hi]
    rw [drop_gi h0 (by omega), evsGo_cons, hLi] at h8
    rw [wrp (n := i + 1) (by omega) (by omega)]
    refine ⟨⟨h0, hi⟩, fun _ => ⟨⟨hg.1, hg.2, by omega, by omega, h6⟩, ?_⟩⟩
    rintro _ rfl
    unfold ref26_one
    have hok := @readEv_ok (pairsR (gi T i)) o.Kinds e (listB evs)
    have heq := readEv_eq (pairsR (gi T i)) o.Kinds e (listB evs)
    generalize readEv (pairsR (gi T i)) o.Kinds e (listB evs) = E at *
    by_cases hw : evWhat (gi (pairsR (gi T i)) 0).2 = 0
    · rw [if_pos hw] at heq ⊢
      subst heq
      rw [if_pos (by simp)] at h8
      refine ⟨fun _ => ?_, fun hx => absurd hx (by simp)⟩
      rw [← h8, if_pos (by simp)]; rfl
    rw [if_neg hw]
    by_cases hB : E.2.2 = 0 ∧ evs.length = 10000
    · rw [if_pos hB]
      rw [if_neg (show ¬ E.2.2 ≠ 0 by omega), if_pos (show evs.length ≥ 10000 by omega)] at h8
      refine ⟨fun _ => ?_, fun hx => absurd hx (by simp)⟩
      rw [← h8, if_pos (by simp)]; rfl
    rw [if_neg hB]
    refine ⟨fun hx => ?_, fun hx => ?_⟩
    · have hx : E.2.2 ≠ 0 := by simpa using hx
      rw [if_pos hx] at h8
      rw [← h8, if_pos hx]; rfl
    · have hx : E.2.2 = 0 := by simpa using hx
      rw [if_neg (show ¬ E.2.2 ≠ 0 by omega), if_neg (show ¬ evs.length ≥ 10000 by omega)] at h8
      exact ⟨by simp; omega, ⟨by omega, by omega, by simp; omega, h8⟩, by first | omega | (dsimp only; omega)⟩
  · have hi := of_decide_eq_false hi
    rw [List.drop_eq_nil_of_le (by omega)] at h8
    have h8 : (evs, e, 0) = R := h8
    rw [← h8, if_neg (by simp)]; subst he; rfl
end Go.Proofs.YtcjldfbgccmpkaaDoor
