/- The law ObjtextBack: plain: an object comes back of its text. -/
import Derived.Test.YtcjldfbgccmpkaaDoorHV15
set_option linter.all false
namespace Go.Proofs.YtcjldfbgccmpkaaDoor
open Go Go.Sv Go.Pu
def wordOK (w : Bs) : Prop := w ≠ [] ∧ w.all inB = true
theorem wgo_word : ∀ (w r : Bs) (i : Int) (cur : Bs), w.all inB = true → wgo (w ++ r) i cur = wgo r (i + w.length) (cur ++ w)
  | [], r, i, cur, _ => by simp
  | b :: w, r, i, cur, h => by
    rw [List.all_cons, Bool.and_eq_true] at h
    have hg : gapB b = false := by
      have := h.1
      unfold inB at this
      rw [Bool.and_eq_true] at this
      simpa using this.1
    rw [List.cons_append, wgo_in hg, wgo_word w r _ _ h.2, List.length_cons, List.append_assoc]
    rw [show i + 1 + (w.length : Int) = i + ((w.length + 1 : Nat) : Int) by omega]
    rfl
theorem wgo_join : ∀ (ts : List Bs) (i : Int) (cur : Bs), cur ≠ [] → (∀ t ∈ ts, wordOK t) → (wgo (ts.flatMap fun t => 32 :: t) i cur).map (fun p => p.2) = cur :: ts
  | [], i, cur, hc, _ => by
    show (wgo [] i cur).map _ = _
    rw [wgo_nil i hc]; rfl
  | t :: ts, i, cur, hc, h => by
    have ht := h t (by simp)
    rw [List.flatMap_cons, List.cons_append, wgo_gap (by decide) hc, List.map_cons, wgo_word _ _ _ _ ht.2, List.nil_append, wgo_join ts _ t ht.1 (fun u hu => h u (by simp [hu]))]
theorem wgo_row (t : Bs) (ts : List Bs) (i : Int) (h : ∀ u ∈ t :: ts, wordOK u) : (wgo (joinRow (t :: ts)) i []).map (fun p => p.2) = t :: ts := by
  unfold joinRow
  rw [wgo_word _ _ _ _ (h t (by simp)).2, List.nil_append]
  exact wgo_join ts _ t (h t (by simp)).1 (fun u hu => h u (by simp [hu]))
theorem remark_no {b : UInt8} {r : Bs} (h : b ≠ 99) : remark (b :: r) = false := by
  unfold remark Lib.hasPrefix
  have h2 : ((99 : UInt8) == b) = false := by simpa using Ne.symm h
  have e1 : ([99, 32] : Bs).isPrefixOf (b :: r) = false := by
    show (((99 : UInt8) == b) && _) = false
    rw [h2, Bool.false_and]
  rw [e1, Bool.or_false]
  simp [h]
theorem row_no10 : ∀ ts : List Bs, (∀ t ∈ ts, wordOK t) → ∀ b ∈ joinRow ts, b ≠ 10 := by
  have one : ∀ t : Bs, wordOK t → ∀ b ∈ t, b ≠ 10 := by
    intro t ht b hb e
    have := List.all_eq_true.1 ht.2 b hb
    rw [e] at this
    exact absurd this (by decide)
  intro ts h b hb
  cases ts with
  | nil => simp [joinRow] at hb
  | cons t ts =>
    unfold joinRow at hb
    rcases List.mem_append.1 hb with hb | hb
    · exact one t (h t (by simp)) b hb
    · obtain ⟨u, hu, hbu⟩ := List.mem_flatMap.1 hb
      rcases List.mem_cons.1 hbu with rfl | hbu
      · decide
      · exact one u (h u (by simp [hu])) b hbu
theorem tw_append : ∀ (l r : Bs), (∀ b ∈ l, b ≠ 10) → tw (l ++ 10 :: r) = l
  | [], r, _ => by simp [tw]
  | b :: l, r, h => by
    unfold tw
    have hb := h b (by simp)
    rw [List.cons_append, List.takeWhile_cons, if_pos (by simpa using hb)]
    congr 1
    exact tw_append l r (fun x hx => h x (by simp [hx]))
def lineOK (W : List Bs) : Prop := ∃ b w ts, W = (b :: w) :: ts ∧ b ≠ 99 ∧ ∀ t ∈ W, wordOK t
theorem lines_join : ∀ (L : List (List Bs)) (f : Nat) (k a : Int), (joinAll L).length ≤ f → (∀ W ∈ L, lineOK W) → (linesGo f (joinAll L) k a).map (fun r => r.map Token_Token.Text) = L
  | [], f, k, a, _, _ => by cases f <;> simp [linesGo, joinAll]
  | W :: L, f, k, a, hf, h => by
    obtain ⟨b, w, ts, hW, hb, ht⟩ := h W (by simp)
    have e : joinAll (W :: L) = joinRow W ++ 10 :: joinAll L := by
      rw [← List.singleton_append, joinAll_app, joinAll_one, List.append_assoc]; rfl
    rw [e] at hf ⊢
    rw [List.length_append, List.length_cons] at hf
    cases f with
    | zero => omega
    | succ f =>
      have htw := tw_append (joinRow W) (joinAll L) (row_no10 W ht)
      have hne : joinRow W ++ 10 :: joinAll L ≠ [] := by simp
      have hx : linesGo (f + 1) (joinRow W ++ 10 :: joinAll L) k a = rowOf (joinRow W) k a :: linesGo f (joinAll L) (k + 1) (a + (joinRow W).length + 1) := by
        have : ∀ l : Bs, l ≠ [] → linesGo (f + 1) l k a = rowOf (tw l) k a :: linesGo f (l.drop ((tw l).length + 1)) (k + 1) (a + (tw l).length + 1) := by
          intro l hl
          cases l with
          | nil => exact absurd rfl hl
          | cons _ _ => rfl
        rw [this _ hne, htw]
        congr 2
        simp [List.drop_append]
      rw [hx, List.map_cons, lines_join L f _ _ (by omega) (fun V hV => h V (by simp [hV]))]
      congr 1
      have hr : remark (joinRow W) = false := by
        rw [hW]
        exact remark_no hb
      unfold rowOf
      rw [if_neg (by rw [hr]; simp), List.map_map]
      rw [hW] at ht ⊢
      exact wgo_row _ _ _ ht
/-! numbers of words -/
theorem numOf_itoa {n lo hi : Int} (h : lo ≤ n ∧ n ≤ hi) : numOf (Lib.itoa n) lo hi = (n, 0) := by
  obtain ⟨h1, h2⟩ := itoa_num n
  unfold numOf
  rw [if_pos h1, h2, if_pos h]
theorem numsGo_words (e : Int) : ∀ (ns : List Int) (bs : List (Int × Int)) (l : PL) (q : Int) (acc : List Int), l.map (fun p => p.2) = ns.map Lib.itoa → ns.length = bs.length → (∀ p ∈ ns.zip bs, p.2.1 ≤ p.1 ∧ p.1 ≤ p.2.2) → numsGo e l bs q acc = (acc ++ ns, e, 0)
  | [], [], [], q, acc, _, _, _ => by simp [numsGo]
  | [], b :: bs, l, q, acc, _, h, _ => by simp at h
  | n :: ns, [], l, q, acc, _, h, _ => by simp at h
  | [], [], p :: l, q, acc, h, _, _ => by simp at h
  | n :: ns, b :: bs, [], q, acc, h, _, _ => by simp at h
  | n :: ns, b :: bs, p :: l, q, acc, h, hl, hb => by
    rw [List.map_cons, List.map_cons] at h
    obtain ⟨h1, h2⟩ := List.cons.inj h
    simp only [numsGo]
    have hn := numOf_itoa (hb (n, b) (by simp))
    rw [h1, hn, if_neg (by simp)]
    rw [numsGo_words e ns bs l _ _ h2 (by simpa using hl) (fun p hp => hb p (by simp; exact .inr hp))]
    simp
theorem numsOf_words {l : PL} {w : Bs} {a b c d : Int} (e : Int) (h : l.map (fun p => p.2) = wordsB w [a, b, c, d]) (ha : 0 ≤ a ∧ a ≤ 1000000) (hb : 0 ≤ b ∧ b ≤ 1000000) (hc : 0 ≤ c ∧ c ≤ 1000000) (hd : 0 ≤ d ∧ d ≤ 1000000) : numsOf l w lo4 hi4 e = ([a, b, c, d], e, 0) := by
  cases l with
  | nil => simp [wordsB] at h
  | cons p l =>
    unfold wordsB at h
    rw [List.map_cons] at h
    obtain ⟨h1, h2⟩ := List.cons.inj h
    rw [numsOf_cons, if_neg (by simpa using h1)]
    rw [numsGo_words e [a, b, c, d] (lo4.zip hi4) l _ [] h2 rfl]
    · rfl
    · intro p hp
      simp [lo4, hi4] at hp
      rcases hp with rfl | rfl | rfl | rfl
      · exact ha
      · exact hb
      · exact hc
      · exact hd
theorem itoa_word (n : Int) : wordOK (Lib.itoa n) := by
  have dig : ∀ u : Nat, Lib.decDigits u ≠ [] ∧ (Lib.decDigits u).all inB = true := by
    intro u
    obtain ⟨_, h1, h2, _⟩ := dd_props u
    refine ⟨h1, List.all_eq_true.2 fun b hb => ?_⟩
    have := (digB_iff b).1 (List.all_eq_true.1 h2 b hb)
    rw [isin]
    unfold ref05_gap
    have e1 : ((b.toNat : Int) == 32) = false := by simp; omega
    have e2 : ((b.toNat : Int) == 9) = false := by simp; omega
    have e3 : ((b.toNat : Int) == 13) = false := by simp; omega
    have e4 : ((b.toNat : Int) == 10) = false := by simp; omega
    rw [e1, e2, e3, e4]; rfl
  by_cases hn : n < 0
  · obtain ⟨u, rfl⟩ : ∃ u : Nat, n = -(u : Int) := ⟨n.natAbs, by omega⟩
    rw [Lib.itoa_neg u (by omega)]
    exact ⟨by simp, by rw [List.all_cons, (dig u).2]; decide⟩
  · obtain ⟨u, rfl⟩ : ∃ u : Nat, n = (u : Int) := ⟨n.toNat, by omega⟩
    rw [Lib.itoa_nonneg]
    exact dig u
theorem words_line {b : UInt8} {w : Bs} (hb : b ≠ 99) (hw : (b :: w).all inB = true) (n : List Int) : lineOK (wordsB (b :: w) n) := by
  refine ⟨b, w, n.map Lib.itoa, rfl, hb, fun t ht => ?_⟩
  rcases List.mem_cons.1 ht with rfl | ht
  · exact ⟨by simp, hw⟩
  · obtain ⟨x, _, rfl⟩ := List.mem_map.1 ht
    exact itoa_word x
theorem text_lines (o : Api_Object) : ∀ W ∈ textB o, lineOK W := by
  intro W hW
  rcases List.mem_cons.1 hW with rfl | hW
  · exact words_line (by decide) (by decide) _
  · obtain ⟨r, _, rfl⟩ := List.mem_map.1 hW
    exact words_line (by decide) (by decide) _
theorem linesP_text {o : Api_Object} {l : List (List Token_Token)} (h : l.map (fun r => r.map Token_Token.Text) = textB o) : (linesP l).map (fun r => r.map (fun p => p.2)) = textB o ∧ (linesP l).length = o.Rows.length + 1 := by
  have hne : ∀ r ∈ l, r ≠ [] := by
    intro r hr e
    have : r.map Token_Token.Text ∈ textB o := by rw [← h]; exact List.mem_map.2 ⟨r, hr, rfl⟩
    obtain ⟨b, w, ts, hW, _⟩ := text_lines o _ this
    rw [e] at hW
    simp at hW
  have hL : linesP l = l.map pairsT := by
    unfold linesP saidP
    rw [List.filter_eq_self]
    intro r hr
    obtain ⟨q, hq, rfl⟩ := List.mem_map.1 hr
    cases hx : q with
    | nil => exact absurd hx (hne q hq)
    | cons _ _ => rfl
  constructor
  · rw [hL, List.map_map, ← h]
    apply List.map_congr_left
    intro r _
    simp [pairsT]
  · have := congrArg List.length h
    rw [hL, List.length_map]
    simpa [textB] using this
/-- what is read of an object's text -/
theorem parse_text (o : Api_Object) (hc : (object_Check o).2 = 0) (hr : o.Rows.length ≤ 9000) : objtext_Parse (joinAll (textB o)) = (o, ((joinAll (textB o)).length : Int), 0) := by
  obtain ⟨k1, k2, k3⟩ := check_ok hc
  have hlen := text_len (head_in k1 (by omega)) o.Rows (fun r hr => okRow_in (k3 r hr))
  have hte : textP o o.Rows = textB o := rfl
  rw [hte] at hlen
  unfold objtext_Parse
  rw [if_neg (by omega)]
  have hl := lines_join (textB o) (joinAll (textB o)).length 1 0 (Nat.le_refl _) (text_lines o)
  obtain ⟨hP, hPl⟩ := linesP_text (l := token_Lines (joinAll (textB o))) hl
  generalize hE : ((joinAll (textB o)).length : Int) = e at *
  generalize linesP (token_Lines (joinAll (textB o))) = L at *
  have hgi : ∀ i : Int, 0 ≤ i → i < L.length → (gi L i).map (fun p => p.2) = gi (textB o) i := by
    intro i i0 i1
    rw [← hP, gi_map _ i0 i1]
  have k1' := k1
  unfold badHead at k1'
  have hH : headN L e = (headNums o, e, 0) := by
    unfold headN numsAt
    rw [if_neg (by omega)]
    refine numsOf_words e (hgi 0 (Int.le_refl _) (by omega)) (by omega) (by omega) (by omega) (by omega)
  have hR : ∀ (n : Nat) (i : Nat), i + n = o.Rows.length → rowsGo L e n ((i : Int) + 1) (o.Rows.take i) = (o.Rows, e, 0) := by
    intro n
    induction n with
    | zero =>
      intro i hi
      rw [show i = o.Rows.length by omega, List.take_length]; rfl
    | succ n ih =>
      intro i hi
      have hil : i < o.Rows.length := by omega
      have hok := k3 _ (List.getElem_mem hil)
      have hn : numsAt L ((i : Int) + 1) wRow e = (rowNums o.Rows[i], e, 0) := by
        unfold numsAt
        rw [if_neg (by omega)]
        refine numsOf_words e ?_ hok.1 hok.2.1 hok.2.2.1 hok.2.2.2
        rw [hgi _ (by omega) (by omega)]
        rw [gi_cast (by omega) (by simp [textB]; omega)]
        simp [textB, rowNums, show ((i : Int) + 1).toNat = i + 1 by omega]
      rw [rowsGo_succ, hn, if_neg (by simp)]
      have := ih (i + 1) (by omega)
      rw [List.take_succ_eq_append_getElem hil] at this
      have e1 : (((i + 1 : Nat) : Int) + 1) = (i : Int) + 1 + 1 := by omega
      rw [e1] at this
      have e2 : rowOf4 (rowNums o.Rows[i]) = o.Rows[i] := rfl
      rw [e2]
      exact this
  have hRN : rowsN L e = (o.Rows, e, 0) := by
    unfold rowsN
    rw [hH]
    have e3 : (gi (headNums o) 3).toNat = o.Rows.length := by
      show (gi [o.States, o.Kinds, o.Init, (o.Rows.length : Int)] 3).toNat = _
      simp [gi]
    rw [e3]
    exact hR o.Rows.length 0 (by omega)
  have hobj : objH (headNums o) o.Rows = o := rfl
  have hT : takeAll L e = (o, gi (headNums o) 3 + 1, e, 0) := by
    rw [taD (by rw [hH]) (by rw [hRN]) (by rw [hH, hRN, hobj]; exact hc), hH, hRN, hobj]
  unfold parseP
  rw [hT]
  have e4 : gi (headNums o) 3 = (o.Rows.length : Int) := by
    show gi [o.States, o.Kinds, o.Init, (o.Rows.length : Int)] 3 = _
    simp [gi]
  simp only
  rw [if_neg (by rw [e4]; omega)]
theorem parse_ok {s : Bs} (hs : s.length ≤ 3000) (h : (objtext_Parse s).2.2 = 0) : (object_Check (objtext_Parse s).1).2 = 0 ∧ (objtext_Parse s).1.Rows.length ≤ 9000 ∧ preCk (objtext_Parse s).1 := by
  have hl : len1 s := by unfold len1; omega
  have hll : (linesP (token_Lines s)).length ≤ 3000 := by
    obtain ⟨h1, _⟩ := lines_len s.length s 1 0
    have : (linesP (token_Lines s)).length ≤ (token_Lines s).length := by
      unfold linesP saidP
      exact Nat.le_trans (List.length_filter_le _ _) (by simp)
    have h1 : (token_Lines s).length ≤ s.length := h1
    omega
  unfold objtext_Parse at *
  rw [if_neg (by omega)] at h ⊢
  generalize linesP (token_Lines s) = L at *
  unfold parseP at *
  by_cases hc : (takeAll L s.length).2.2.2 = 0 ∧ (takeAll L s.length).2.1 < L.length
  · rw [if_pos hc] at h; simp at h
  · rw [if_neg hc] at h ⊢
    obtain ⟨t1, t2, t3, t4, t5, t6, t7⟩ := takeAll_ok h
    exact ⟨t4, by show (takeAll L s.length).1.Rows.length ≤ 9000; omega, inR_of t6.1 t6.2, inR_of t7.1 t7.2⟩
theorem parse_bad {s : Bs} (h : (objtext_Parse s).2.2 ≠ 0) : (objtext_Parse s).1 = obj0 := by
  unfold objtext_Parse at *
  split
  · rfl
  · rename_i hx
    rw [if_neg hx] at h
    unfold parseP at *
    split
    · rfl
    · rename_i hc
      rw [if_neg hc] at h
      exact takeAll_err h
end Go.Proofs.YtcjldfbgccmpkaaDoor
