/- Objects are read of texts, and printed. -/
import Derived.Test.YtcjldfbgccmpkaaDoorHV12
set_option linter.all false
namespace Go.Proofs.YtcjldfbgccmpkaaDoor
open Go Go.Sv Go.Pu
theorem lines_preTk (s : Bs) (hl : len1 s) (e : Int) : preTk (token_Lines s) e := by
  obtain ⟨⟨p1, p2⟩, _⟩ := lines_pre s hl
  unfold len1 at hl
  obtain ⟨g1, _, _⟩ := lines_good (s := s) s.length 0 1 (Int.le_refl _) (by omega) (fun _ => by simp [cnl])
  rw [show s.drop (0 : Int).toNat = s by simp] at g1
  refine ⟨p1, fun r hr => ⟨by rw [pairsT_len]; exact p2 r hr, fun p hp => ?_⟩⟩
  obtain ⟨i, hi, rfl⟩ := List.getElem_of_mem hr
  simp only [pairsT, List.mem_map] at hp
  obtain ⟨t, ht, rfl⟩ := hp
  have G := g1 i _ (List.getElem?_eq_getElem hi) t ht
  have h1 := G.lo
  have h2 := G.hi
  unfold tend at h2
  exact ⟨h1, by show t.At ≤ 10000000; omega, by show t.Text.length ≤ 1000000; omega⟩
theorem takeAll_ok {L : List PL} {e : Int} (h : (takeAll L e).2.2.2 = 0) : (takeAll L e).2.2.1 = e ∧ 0 ≤ (takeAll L e).2.1 ∧ (takeAll L e).2.1 ≤ L.length ∧ (object_Check (takeAll L e).1).2 = 0 ∧ ((takeAll L e).1.Rows.length : Int) + 1 = (takeAll L e).2.1 ∧ (0 ≤ (takeAll L e).1.States ∧ (takeAll L e).1.States ≤ 1000000) ∧ (0 ≤ (takeAll L e).1.Kinds ∧ (takeAll L e).1.Kinds ≤ 1000000) := by
  by_cases hN : (headN L e).2.2 = 0
  · by_cases hR : (rowsN L e).2.2 = 0
    · by_cases hC : (object_Check (objH (headN L e).1 (rowsN L e).1)).2 = 0
      · rw [taD hN hR hC]
        obtain ⟨n1, n2, n3, n4⟩ := numsAt_ok hN
        have n2 : (headN L e).1.length = 4 := n2
        have nb := nums4 n2 n3
        have nb3 := nb 3 (by omega) (by omega)
        have hr := rowsGo_ok L e (gi (headN L e).1 3).toNat 1 [] (by omega) hR
        obtain ⟨r1, r2, r3⟩ := hr
        have r2 : (rowsN L e).1.length = (gi (headN L e).1 3).toNat := r2.trans (by simp)
        refine ⟨rfl, by simp only; omega, by simp only; omega, hC, ?_, nb 0 (by omega) (by omega), nb 1 (by omega) (by omega)⟩
        show (((rowsN L e).1.length : Nat) : Int) + 1 = _
        simp only
        omega
      · rw [taC hN hR hC] at h; exact absurd h hC
    · rw [taB hN hR] at h; exact absurd h hR
  · rw [taA hN] at h; exact absurd h hN
theorem takeAll_err {L : List PL} {e : Int} (h : (takeAll L e).2.2.2 ≠ 0) : (takeAll L e).1 = obj0 := by
  by_cases hN : (headN L e).2.2 = 0
  · by_cases hR : (rowsN L e).2.2 = 0
    · by_cases hC : (object_Check (objH (headN L e).1 (rowsN L e).1)).2 = 0
      · rw [taD hN hR hC] at h; exact absurd rfl h
      · rw [taC hN hR hC]
    · rw [taB hN hR]
  · rw [taA hN]
theorem pairs_ref (l : List Token_Token) : pairsR (l.map toRef) = pairsT l := by simp [pairsR, pairsT, toRef]
theorem said_link : ∀ l : List (List Token_Token), (ref24_Said (l.map fun r => r.map toRef)).map pairsR = linesP l
  | [] => rfl
  | r :: l => by
    have ih := said_link l
    rw [linesP_cons, ← ih]
    unfold ref24_Said
    rw [List.map_cons, List.filter_cons]
    cases r with
    | nil => rfl
    | cons t q =>
      show List.map pairsR ((t :: q).map toRef :: _) = pairsT (t :: q) :: _
      rw [List.map_cons, pairs_ref]
theorem said_pre {l : List (List Token_Token)} {e : Int} (hp : preTk l e) : preRT (ref24_Said (l.map fun r => r.map toRef)) e := by
  obtain ⟨h1, h2⟩ := hp
  refine ⟨Nat.le_trans (List.length_filter_le _ _) (by simpa using h1), fun r hr => ?_⟩
  unfold ref24_Said at hr
  rw [List.mem_filter] at hr
  obtain ⟨hr, hne⟩ := hr
  obtain ⟨q, hq, rfl⟩ := List.mem_map.1 hr
  rw [pairs_ref]
  exact ⟨h2 q hq, by rintro e; rw [e] at hne; simp at hne⟩
/-! what may be -/
theorem chk_ok (o : Api_Object) : ∀ (f : Nat) (i : Int), (chkGo o f i).2 = 0 → (chkGo o f i).1 = i + f ∧ ∀ j : Int, i ≤ j → j < i + f → rowE o j = 0
  | 0, i, h => ⟨by simp [chkGo], fun j a b => by omega⟩
  | f + 1, i, h => by
    rw [chkGo_succ] at h ⊢
    by_cases he : rowE o i ≠ 0
    · rw [if_pos he] at h; exact absurd h he
    · rw [if_neg he] at h ⊢
      obtain ⟨h1, h2⟩ := chk_ok o f (i + 1) h
      refine ⟨by rw [h1]; omega, fun j a b => ?_⟩
      by_cases hj : j = i
      · subst hj; simpa using he
      · exact h2 j (by omega) (by omega)
def okRow (r : Api_Row) : Prop := (0 ≤ r.State ∧ r.State ≤ 1000000) ∧ (0 ≤ r.Kind ∧ r.Kind ≤ 1000000) ∧ (0 ≤ r.Next ∧ r.Next ≤ 1000000) ∧ (0 ≤ r.Result ∧ r.Result ≤ 1000000)
theorem check_ok {o : Api_Object} (h : (object_Check o).2 = 0) : ¬ badHead o ∧ (object_Check o).1 = o.Rows.length ∧ ∀ r ∈ o.Rows, okRow r := by
  by_cases hb : badHead o
  · rw [(check_eq o).1 hb] at h; simp at h
  · rw [(check_eq o).2 hb] at h ⊢
    obtain ⟨h1, h2⟩ := chk_ok o _ _ h
    refine ⟨hb, by rw [h1]; omega, fun r hr => ?_⟩
    obtain ⟨i, hi, rfl⟩ := List.getElem_of_mem hr
    have he := h2 i (by omega) (by omega)
    unfold badHead at hb
    have hg : gi o.Rows (i : Int) = o.Rows[i] := gi_nat _ _ hi
    unfold rowE at he
    rw [hg] at he
    split at he
    · simp at he
    · rename_i c1
      split at he
      · simp at he
      · rename_i c2
        split at he
        · simp at he
        · rename_i c3
          unfold object_within at c1 c2 c3
          simp at c1 c2 c3
          unfold okRow
          omega
theorem okRow_in {r : Api_Row} (h : okRow r) : preP r := by
  intro x hx
  obtain ⟨a, b, c, d⟩ := h
  simp [rowNums] at hx
  rcases hx with rfl | rfl | rfl | rfl
  · exact inR_of a.1 a.2
  · exact inR_of b.1 b.2
  · exact inR_of c.1 c.2
  · exact inR_of d.1 d.2
theorem head_in {o : Api_Object} (h : ¬ badHead o) (hr : o.Rows.length ≤ 90000) : ∀ x ∈ headNums o, inR .i64 x := by
  unfold badHead at h
  intro x hx
  simp [headNums] at hx
  rcases hx with rfl | rfl | rfl | rfl <;> exact inR_of (by omega) (by omega)
theorem words_text (w : Bs) (n : List Int) : (objtext_words w n).map Token_Token.Text = wordsB w n := by
  unfold objtext_words
  rw [List.map_map]
  exact List.map_id' _
def textP (o : Api_Object) (l : List Api_Row) : List (List Bs) := wordsB wObject (headNums o) :: l.map fun r => wordsB wRow (rowNums r)
theorem text_len {o : Api_Object} (hh : ∀ x ∈ headNums o, inR .i64 x) : ∀ l : List Api_Row, (∀ r ∈ l, preP r) → (joinAll (textP o l)).length ≤ 100 * (l.length + 1) := by
  have e1 : ∀ l : List Api_Row, (joinAll (textP o l)).length = (joinRow (wordsB wObject (headNums o))).length + 1 + (joinAll (l.map fun r => wordsB wRow (rowNums r))).length := by
    intro l
    unfold textP
    rw [← List.singleton_append, joinAll_app, joinAll_one]
    simp only [List.length_append, List.length_singleton]
  have hb := joinRow_wlen wObject (headNums o) hh
  have hb1 : wObject.length = 6 := rfl
  have hb2 : (headNums o).length = 4 := rfl
  intro l
  induction l with
  | nil => intro _; rw [e1]; simp [joinAll]; omega
  | cons r l ih =>
    intro hr
    have ih := ih (fun q hq => hr q (by simp [hq]))
    rw [e1] at ih ⊢
    have hw := joinRow_wlen wRow (rowNums r) (hr r (by simp))
    have hb3 : wRow.length = 3 := rfl
    have hb4 : (rowNums r).length = 4 := rfl
    rw [List.map_cons, ← List.singleton_append, joinAll_app, joinAll_one]
    simp only [List.length_append, List.length_singleton, List.length_cons, List.length_nil]
    omega
theorem v25 (o : Api_Object) (hp : prePr o) : VC25 o (fun r => r = objtext_Print o) := by
  intro _
  obtain ⟨hr, hk⟩ := hp
  refine ⟨hk, ?_⟩
  rintro _ rfl
  unfold objtext_Print printOf
  refine ⟨fun h => by rw [if_pos (by simpa using h)], fun h => ?_⟩
  have hc : (object_Check o).2 = 0 := by simpa using h
  rw [if_neg (by simpa using hc)]
  obtain ⟨k1, k2, k3⟩ := check_ok hc
  have hh := head_in k1 hr
  refine ⟨⟨by show 4 ≤ 1000; decide, hh⟩, ?_⟩
  rintro _ rfl
  intro _
  refine ⟨fun lines x => 0 ≤ x ∧ x ≤ o.Rows.length ∧ lines = objtext_words wObject (headNums o) :: (o.Rows.take x.toNat).map (fun r => objtext_words wRow (rowNums r)), fun _ x => (o.Rows.length - x).toNat, ⟨by omega, by omega, rfl⟩, ?_⟩
  rintro lines x ⟨h0, h1, h2⟩
  have hll : lines.length = x.toNat + 1 := by rw [h2]; simp; omega
  refine ⟨fun hx => ?_, fun hx => ?_⟩
  · have hx := of_decide_eq_true hx
    rw [wrp (n := x + 1) (by omega) (by omega)]
    refine ⟨⟨h0, hx⟩, okRow_in (k3 _ (mem_gi h0 hx)), ?_⟩
    rintro _ rfl
    refine fun _ => ⟨by simp; omega, ⟨by omega, by omega, ?_⟩, by first | omega | (dsimp only; omega)⟩
    rw [take_gi h0 hx, List.map_append, ← List.cons_append, ← h2]
    rfl
  · have hx := of_decide_eq_false hx
    rw [show x.toNat = o.Rows.length by omega, List.take_length] at h2
    have hj : token_Join lines = joinAll (textB o) := by
      unfold token_Join textB
      rw [h2, List.map_cons, List.map_map, words_text]
      congr 2
    unfold VC25_J1
    refine ⟨?_, ?_⟩
    · unfold preJ
      rw [hj]
      have := text_len hh o.Rows (fun r hr => okRow_in (k3 r hr))
      have e : textP o o.Rows = textB o := rfl
      rw [e] at this
      omega
    · rintro _ rfl
      rw [hj]
theorem v30 (o : Api_Object) (hp : prePr o) : VC30 o (fun r => r = ref24_Print o) := by
  intro _
  obtain ⟨hr, hk⟩ := hp
  rintro _ rfl
  unfold ref24_Print printOf ref23_Check
  refine ⟨fun h => by rw [if_pos (by simpa using h)], fun h => ?_⟩
  have hc : (object_Check o).2 = 0 := by simpa using h
  rw [if_neg (by simpa using hc)]
  obtain ⟨k1, k2, k3⟩ := check_ok hc
  have hh := head_in k1 hr
  refine ⟨⟨by decide, by show 4 ≤ 1000; decide, hh⟩, ?_⟩
  rintro _ rfl
  have e1 : ∀ (l : List Api_Row) (r : Api_Row), joinAll (textP o (l ++ [r])) = joinAll (textP o l) ++ ref24_Words wRow (rowNums r) := by
    intro l r
    unfold textP
    rw [List.map_append, ← List.cons_append, joinAll_app]
    congr 1
    exact joinAll_one _
  refine ⟨fun s x => 0 ≤ x ∧ x ≤ o.Rows.length ∧ s = joinAll (textP o (o.Rows.take x.toNat)), fun _ x => (o.Rows.length - x).toNat, ⟨by omega, by omega, ?_⟩, ?_⟩
  · show _ = joinAll [wordsB wObject (headNums o)]
    rw [joinAll_one]; rfl
  rintro s x ⟨h0, h1, h2⟩
  have hsl := text_len hh (o.Rows.take x.toNat) (fun r hr => okRow_in (k3 r (List.mem_of_mem_take hr)))
  rw [← h2, List.length_take] at hsl
  refine ⟨fun hx => ?_, fun hx => ?_⟩
  · have hx := of_decide_eq_true hx
    have hpr := okRow_in (k3 _ (mem_gi h0 hx))
    rw [wrp (n := x + 1) (by omega) (by omega)]
    refine ⟨⟨h0, hx⟩, ⟨by decide, by show 4 ≤ 1000; decide, hpr⟩, ?_⟩
    rintro _ rfl
    have hw := joinRow_wlen wRow (rowNums (gi o.Rows x)) hpr
    have hb3 : wRow.length = 3 := rfl
    have hb4 : (rowNums (gi o.Rows x)).length = 4 := rfl
    have hwl : (ref24_Words ([114, 111, 119] : Bs) [(gi o.Rows x).State, (gi o.Rows x).Kind, (gi o.Rows x).Next, (gi o.Rows x).Result]).length ≤ 200 := by
      show (joinRow (wordsB wRow (rowNums (gi o.Rows x))) ++ [10]).length ≤ 200
      simp only [List.length_append, List.length_singleton]; omega
    refine ⟨by omega, ⟨by omega, by omega, ?_⟩, by first | omega | (dsimp only; omega)⟩
    rw [take_gi h0 hx, e1, ← h2]
    rfl
  · have hx := of_decide_eq_false hx
    rw [show x.toNat = o.Rows.length by omega, List.take_length] at h2
    unfold VC30_J1
    rw [h2]; rfl
end Go.Proofs.YtcjldfbgccmpkaaDoor
