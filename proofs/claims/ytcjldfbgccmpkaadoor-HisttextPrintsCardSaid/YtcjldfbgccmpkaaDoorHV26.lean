/- A case comes back of its text: plain. -/
import Derived.Test.YtcjldfbgccmpkaaDoorHV25
set_option linter.all false
namespace Go.Proofs.YtcjldfbgccmpkaaDoor
open Go Go.Sv Go.Pu
/-! what is read is a history -/
def goodL (K : Int) (l : List Api_Event) : Prop := l.length ≤ 10000 ∧ (∀ j : Int, 0 ≤ j → j < l.length → evE (gi l j) = 0 ∧ ((lastW (l.take j.toNat) (gi l j).Prc == 1) == ((gi l j).What == 1)) = false) ∧ ∀ x ∈ l, x.What = 1 → x.N ≤ K - 1
theorem evGo_zero (l : List Api_Event) : ∀ (f : Nat) (i : Int), (∀ j : Int, i ≤ j → j < i + f → evE (gi l j) = 0 ∧ ((lastW (l.take j.toNat) (gi l j).Prc == 1) == ((gi l j).What == 1)) = false) → (evGo l f i).2 = 0
  | 0, i, _ => rfl
  | f + 1, i, h => by
    obtain ⟨h1, h2⟩ := h i (Int.le_refl _) (by omega)
    rw [evGo_succ, if_neg (by omega), if_neg (by rw [h2]; simp)]
    exact evGo_zero l f (i + 1) (fun j h0 h1 => h j (by omega) (by omega))
theorem kinds_ge : ∀ (l : List Api_Event) (n : Int), n ≤ l.foldl (fun n x => if x.What = 1 then max n (min x.N 63 + 1) else n) n ∧ ∀ x ∈ l, x.What = 1 → min x.N 63 + 1 ≤ l.foldl (fun n x => if x.What = 1 then max n (min x.N 63 + 1) else n) n
  | [], n => ⟨Int.le_refl _, fun x hx => absurd hx List.not_mem_nil⟩
  | y :: l, n => by
    rw [List.foldl_cons]
    obtain ⟨h1, h2⟩ := kinds_ge l (if y.What = 1 then max n (min y.N 63 + 1) else n)
    refine ⟨Int.le_trans ?_ h1, fun x hx hw => ?_⟩
    · split <;> omega
    · rcases List.mem_cons.1 hx with rfl | hx
      · rw [if_pos hw] at h1 ⊢
        omega
      · exact h2 x hx hw
theorem kinds_le (K : Int) : ∀ (l : List Api_Event) (n : Int), n ≤ K → (∀ x ∈ l, x.What = 1 → x.N ≤ K - 1) → l.foldl (fun n x => if x.What = 1 then max n (min x.N 63 + 1) else n) n ≤ K
  | [], n, h, _ => h
  | y :: l, n, h, hx => by
    rw [List.foldl_cons]
    refine kinds_le K l _ ?_ (fun x hm => hx x (by simp [hm]))
    split
    · rename_i hw
      have := hx y (by simp) hw
      omega
    · exact h
theorem good_case {K : Int} {l : List Api_Event} (h : goodL K l) (hK : 0 ≤ K) : (event_Check l).2 = 0 ∧ kindsGo l ≤ K := by
  obtain ⟨h1, h2, h3⟩ := h
  refine ⟨?_, kinds_le K l 0 hK h3⟩
  unfold event_Check
  rw [if_neg (by omega)]
  exact evGo_zero l l.length 0 (fun j h0 h1 => h2 j h0 (by omega))
theorem case_good {o : Api_Object} {l : List Api_Event} (h : caseE o l = 0) : goodL o.Kinds l := by
  obtain ⟨_, h2, h3⟩ := case_ok h
  obtain ⟨e1, e2⟩ := evs_ok h2
  refine ⟨e1, e2, fun x hx hw => ?_⟩
  have hk := (kinds_ge l 0).2 x hx hw
  have hk : min x.N 63 + 1 ≤ kindsGo l := hk
  obtain ⟨j, hj, rfl⟩ := List.mem_iff_getElem.1 hx
  have he := (e2 (j : Int) (by omega) (by omega)).1
  rw [gi_nat _ _ hj] at he
  unfold evE at he
  split at he
  · exact absurd he (by decide)
  split at he
  · exact absurd he (by decide)
  split at he
  · exact absurd he (by decide)
  rename_i h4
  omega
theorem good_snoc {K : Int} {l : List Api_Event} {x : Api_Event} (h : goodL K l) (hl : l.length < 10000) (hx : evE x = 0) (ha : ((lastW l x.Prc == 1) == (x.What == 1)) = false) (hn : x.What = 1 → x.N ≤ K - 1) : goodL K (l ++ [x]) := by
  obtain ⟨h1, h2, h3⟩ := h
  refine ⟨by simp; omega, fun j j0 j1 => ?_, fun y hy hw => ?_⟩
  · rw [List.length_append, List.length_singleton] at j1
    by_cases hj : j < l.length
    · have e1 : gi (l ++ [x]) j = gi l j := by
        rw [gi_cast j0 (by simp; omega), gi_cast j0 hj, List.getElem_append_left]
      have e2 : (l ++ [x]).take j.toNat = l.take j.toNat := List.take_append_of_le_length (by omega)
      rw [e1, e2]
      exact h2 j j0 hj
    · have e0 : j = l.length := by omega
      have e1 : gi (l ++ [x]) j = x := by
        rw [gi_cast j0 (by simp; omega)]
        simp [e0]
      have e2 : (l ++ [x]).take j.toNat = l := by
        rw [show j.toNat = l.length by omega]; simp
      rw [e1, e2]
      exact ⟨hx, ha⟩
  · rcases List.mem_append.1 hy with hy | hy
    · exact h3 y hy hw
    · rw [List.mem_singleton] at hy
      subst hy
      exact hn hw
theorem read_good {P : PL} {K e : Int} {l : List Api_Event} (hK : K ≤ 64) (h : (readEv P K e (listB l)).2.2 = 0) : evE (readEv P K e (listB l)).1 = 0 ∧ ((lastW l (readEv P K e (listB l)).1.Prc == 1) == ((readEv P K e (listB l)).1.What == 1)) = false ∧ ((readEv P K e (listB l)).1.What = 1 → (readEv P K e (listB l)).1.N ≤ K - 1) := by
  obtain ⟨_, k0, k1, k2, k3, k4, k5, k6, k7⟩ := readEv_ok h
  refine ⟨?_, k7, k5⟩
  have h12 := evWhat3 (gi P 0).2
  generalize (readEv P K e (listB l)).1 = x at *
  unfold evE
  rw [if_neg (by omega), if_neg (by omega), if_neg (by omega), if_neg (by omega)]
theorem evsGo_good {K e : Int} (hK : K ≤ 64) : ∀ (L : List PL) (acc : List Api_Event), goodL K acc → (evsGo K e L acc).2.2 = 0 → goodL K (evsGo K e L acc).1 ∧ (evsGo K e L acc).1.length ≤ acc.length + L.length ∧ (evsGo K e L acc).2.1 = e
  | [], acc, h, _ => ⟨h, by simp [evsGo], rfl⟩
  | p :: L, acc, h, he => by
    rw [evsGo_cons] at he ⊢
    by_cases h1 : (readEv p K e (listB acc)).2.2 ≠ 0
    · rw [if_pos h1] at he; exact absurd he h1
    rw [if_neg h1] at he ⊢
    by_cases h2 : acc.length ≥ 10000
    · rw [if_pos h2] at he; exact absurd he (by simp)
    rw [if_neg h2] at he ⊢
    obtain ⟨r1, r2, r3⟩ := read_good hK (show (readEv p K e (listB acc)).2.2 = 0 by omega)
    obtain ⟨q1, q2, q3⟩ := evsGo_good hK L _ (good_snoc h (by omega) r1 r2 r3) he
    refine ⟨q1, ?_, q3⟩
    rw [List.length_append, List.length_singleton] at q2
    rw [List.length_cons]
    omega
theorem good_nil (K : Int) : goodL K [] := ⟨by simp, fun j h0 h1 => absurd h1 (by simp; omega), fun x hx => absurd hx List.not_mem_nil⟩
theorem lines_le {s : Bs} : (linesP (token_Lines s)).length ≤ s.length := by
  obtain ⟨h1, _⟩ := lines_len s.length s 1 0
  have : (linesP (token_Lines s)).length ≤ (token_Lines s).length := by
    unfold linesP saidP
    exact Nat.le_trans (List.length_filter_le _ _) (by simp)
  have h1 : (token_Lines s).length ≤ s.length := h1
  omega
theorem caseP_ok {L : List PL} {e : Int} (h : (caseP L e).2.2.2 = 0) : caseE (caseP L e).1 (caseP L e).2.1 = 0 ∧ ((caseP L e).1.Rows.length : Int) + 1 ≤ L.length ∧ (caseP L e).2.1.length ≤ L.length ∧ (caseP L e).2.2.1 = e ∧ preCk (caseP L e).1 := by
  unfold caseP at *
  by_cases h1 : (takeAll L e).2.2.2 ≠ 0
  · rw [if_pos h1] at h; exact absurd h h1
  rw [if_neg h1] at h ⊢
  have h1 : (takeAll L e).2.2.2 = 0 := by omega
  by_cases h2 : (evsOf L e).2.2 ≠ 0
  · rw [if_pos h2] at h; exact absurd h h2
  rw [if_neg h2]
  obtain ⟨t1, t2, t3, t4, t5, t6, t7⟩ := takeAll_ok h1
  have hK := kinds_of h1
  obtain ⟨g1, g2, g3⟩ := evsGo_good (e := e) hK.2 (L.drop (takeAll L e).2.1.toNat) [] (good_nil _) (show (evsOf L e).2.2 = 0 by omega)
  obtain ⟨c1, c2⟩ := good_case g1 (by omega)
  rw [List.length_drop] at g2
  refine ⟨?_, by dsimp only; omega, ?_, rfl, inR_of t6.1 t6.2, inR_of t7.1 t7.2⟩
  · show caseE (takeAll L e).1 (evsOf L e).1 = 0
    unfold caseE
    rw [if_neg (by omega)]
    rw [if_neg (show ¬ (event_Check (evsOf L e).1).2 ≠ 0 by have : (event_Check (evsOf L e).1).2 = 0 := c1; omega), if_neg (show ¬ kindsGo (evsOf L e).1 > _ by have : kindsGo (evsOf L e).1 ≤ (takeAll L e).1.Kinds := c2; omega)]
  · show (evsOf L e).1.length ≤ _
    have g2 : (evsOf L e).1.length ≤ [].length + (L.length - (takeAll L e).2.1.toNat) := g2
    simp only [List.length_nil] at g2
    omega
theorem parseH_ok {s : Bs} (hs : s.length ≤ 3000) (h : (histtext_Parse s).2.2 = 0) : caseE (histtext_Parse s).1.Object (histtext_Parse s).1.Events = 0 ∧ (histtext_Parse s).1.Object.Rows.length ≤ 3000 ∧ (histtext_Parse s).1.Events.length ≤ 3000 ∧ preCk (histtext_Parse s).1.Object := by
  have hl := lines_le (s := s)
  have e0 : caseOf s = caseP (linesP (token_Lines s)) s.length := by unfold caseOf; rw [if_neg (by omega)]
  unfold histtext_Parse at *
  rw [e0] at h ⊢
  obtain ⟨h1, h2, h3, _, h5⟩ := caseP_ok h
  exact ⟨h1, by dsimp only; omega, by dsimp only; omega, h5⟩
theorem parseH_bad {s : Bs} (h : (histtext_Parse s).2.2 ≠ 0) : (histtext_Parse s).1 = ⟨obj0, []⟩ := by
  unfold histtext_Parse at *
  have h : (caseOf s).2.2.2 ≠ 0 := h
  unfold caseOf at *
  split
  · rfl
  · rename_i hx
    rw [if_neg hx] at h
    unfold caseP at *
    split
    · rfl
    · rename_i h1
      rw [if_neg h1] at h
      split
      · rfl
      · rename_i h2
        rw [if_neg h2] at h
        exact absurd rfl h
/-! the text -/
def lineR (W : List Bs) : Prop := (∃ t ts, W = t :: ts) ∧ remark (joinRow W) = false ∧ ∀ t ∈ W, wordOK t
theorem lineOK.r {W : List Bs} (h : lineOK W) : lineR W := by
  obtain ⟨b, w, ts, hW, hb, ht⟩ := h
  refine ⟨⟨_, _, hW⟩, ?_, ht⟩
  rw [hW]
  exact remark_no hb
theorem lines_join2 : ∀ (L : List (List Bs)) (f : Nat) (k a : Int), (joinAll L).length ≤ f → (∀ W ∈ L, lineR W) → (linesGo f (joinAll L) k a).map (fun r => r.map Token_Token.Text) = L
  | [], f, k, a, _, _ => by cases f <;> simp [linesGo, joinAll]
  | W :: L, f, k, a, hf, h => by
    obtain ⟨⟨t, ts, hW⟩, hr, ht⟩ := h W (by simp)
    have e : joinAll (W :: L) = joinRow W ++ 10 :: joinAll L := by
      rw [← List.singleton_append, joinAll_app, joinAll_one, List.append_assoc]; rfl
    rw [e] at hf ⊢
    rw [List.length_append, List.length_cons] at hf
    cases f with
    | zero => omega
    | succ f =>
      have htw := tw_append (joinRow W) (joinAll L) (row_no10 W ht)
      have hne : joinRow W ++ 10 :: joinAll L ≠ [] := by simp
      have hx : linesGo (f + 1) (joinRow W ++ 10 :: joinAll L) k a = rowOf (joinRow W) k a :: linesGo f (joinAll L) (k + 1) (a + (joinRow W).length + 1) := by
        have : ∀ l : Bs, l ≠ [] → linesGo (f + 1) l k a = rowOf (tw l) k a :: linesGo f (l.drop ((tw l).length + 1)) (k + 1) (a + (tw l).length + 1) := by
          intro l hl
          cases l with
          | nil => exact absurd rfl hl
          | cons _ _ => rfl
        rw [this _ hne, htw]
        congr 2
        simp [List.drop_append]
      rw [hx, List.map_cons, lines_join2 L f _ _ (by omega) (fun V hV => h V (by simp [hV]))]
      congr 1
      unfold rowOf
      rw [if_neg (by rw [hr]; simp), List.map_map]
      rw [hW] at ht ⊢
      exact wgo_row _ _ _ ht
theorem ev_lineR (x : Api_Event) : lineR (evB x) := by
  unfold evB
  split
  · refine ⟨⟨_, _, rfl⟩, ?_, fun t ht => ?_⟩
    · unfold wordsB joinRow remark Lib.hasPrefix
      simp [wCall]
      rfl
    · rcases List.mem_cons.1 ht with rfl | ht
      · exact ⟨by decide, by decide⟩
      · obtain ⟨y, _, rfl⟩ := List.mem_map.1 ht
        exact itoa_word y
  · exact (words_line (by decide) (by decide) _).r
theorem textH_lines (o : Api_Object) (l : List Api_Event) : ∀ W ∈ textH o l, lineR W := by
  intro W hW
  rcases List.mem_append.1 hW with hW | hW
  · exact (text_lines o W hW).r
  · obtain ⟨x, _, rfl⟩ := List.mem_map.1 hW
    exact ev_lineR x
theorem linesP_textR {X : List (List Bs)} (hX : ∀ W ∈ X, lineR W) {l : List (List Token_Token)} (h : l.map (fun r => r.map Token_Token.Text) = X) : (linesP l).map (fun r => r.map (fun p => p.2)) = X := by
  have hne : ∀ r ∈ l, r ≠ [] := by
    intro r hr e
    have : r.map Token_Token.Text ∈ X := by rw [← h]; exact List.mem_map.2 ⟨r, hr, rfl⟩
    obtain ⟨⟨t, ts, hW⟩, _⟩ := hX _ this
    rw [e] at hW
    simp at hW
  have hL : linesP l = l.map pairsT := by
    unfold linesP saidP
    rw [List.filter_eq_self]
    intro r hr
    obtain ⟨q, hq, rfl⟩ := List.mem_map.1 hr
    cases hx : q with
    | nil => exact absurd hx (hne q hq)
    | cons _ _ => rfl
  rw [hL, List.map_map, ← h]
  apply List.map_congr_left
  intro r _
  simp [pairsT]
theorem takeAll_text (o : Api_Object) (hc : (object_Check o).2 = 0) (L : List PL) (e : Int) (hPl : o.Rows.length + 1 ≤ L.length) (hgi : ∀ i : Int, 0 ≤ i → i < (o.Rows.length : Int) + 1 → (gi L i).map (fun p => p.2) = gi (textB o) i) (hr : o.Rows.length ≤ 9000) : takeAll L e = (o, (o.Rows.length : Int) + 1, e, 0) := by
  obtain ⟨k1, k2, k3⟩ := check_ok hc
  have k1' := k1
  unfold badHead at k1'
  have hH : headN L e = (headNums o, e, 0) := by
    unfold headN numsAt
    rw [if_neg (by omega)]
    refine numsOf_words e (hgi 0 (Int.le_refl _) (by omega)) (by omega) (by omega) (by omega) (by omega)
  have hR : ∀ (n : Nat) (i : Nat), i + n = o.Rows.length → rowsGo L e n ((i : Int) + 1) (o.Rows.take i) = (o.Rows, e, 0) := by
    intro n
    induction n with
    | zero =>
      intro i hi
      rw [show i = o.Rows.length by omega, List.take_length]; rfl
    | succ n ih =>
      intro i hi
      have hil : i < o.Rows.length := by omega
      have hok := k3 _ (List.getElem_mem hil)
      have hn : numsAt L ((i : Int) + 1) wRow e = (rowNums o.Rows[i], e, 0) := by
        unfold numsAt
        rw [if_neg (by omega)]
        refine numsOf_words e ?_ hok.1 hok.2.1 hok.2.2.1 hok.2.2.2
        rw [hgi _ (by omega) (by omega)]
        rw [gi_cast (by omega) (by simp [textB]; omega)]
        simp [textB, rowNums, show ((i : Int) + 1).toNat = i + 1 by omega]
      rw [rowsGo_succ, hn, if_neg (by simp)]
      have := ih (i + 1) (by omega)
      rw [List.take_succ_eq_append_getElem hil] at this
      have e1 : (((i + 1 : Nat) : Int) + 1) = (i : Int) + 1 + 1 := by omega
      rw [e1] at this
      have e2 : rowOf4 (rowNums o.Rows[i]) = o.Rows[i] := rfl
      rw [e2]
      exact this
  have hRN : rowsN L e = (o.Rows, e, 0) := by
    unfold rowsN
    rw [hH]
    have e3 : (gi (headNums o) 3).toNat = o.Rows.length := by
      show (gi [o.States, o.Kinds, o.Init, (o.Rows.length : Int)] 3).toNat = _
      simp [gi]
    rw [e3]
    exact hR o.Rows.length 0 (by omega)
  have hobj : objH (headNums o) o.Rows = o := rfl
  have e4 : gi (headNums o) 3 = (o.Rows.length : Int) := by
    show gi [o.States, o.Kinds, o.Init, (o.Rows.length : Int)] 3 = _
    simp [gi]
  rw [taD (by rw [hH]) (by rw [hRN]) (by rw [hH, hRN, hobj]; exact hc), hH, hRN, hobj]
  simp only
  rw [e4]
theorem nums2_words {P : PL} {w : Bs} {x y t : Int} (e : Int) (h : P.map (fun p => p.2) = wordsB w [x, y]) (h1 : 1 ≤ x ∧ x ≤ 1000) (h2 : 0 ≤ y ∧ y ≤ t) : numsOf P w [1, 0] [1000, t] e = ([x, y], e, 0) := by
  cases P with
  | nil => simp [wordsB] at h
  | cons p l =>
    unfold wordsB at h
    rw [List.map_cons] at h
    obtain ⟨q1, q2⟩ := List.cons.inj h
    rw [numsOf_cons, if_neg (by simpa using q1)]
    rw [numsGo_words e [x, y] ([1, 0].zip [1000, t]) l _ [] q2 rfl]
    · rfl
    · intro p hp
      simp at hp
      rcases hp with rfl | rfl
      · exact h1
      · exact h2
theorem read_text {P : PL} {K e : Int} {ob : Int → Bool} {x : Api_Event} (h : P.map (fun p => p.2) = evB x) (hx : evE x = 0) (hk : x.What = 1 → x.N ≤ K - 1) (ha : (ob x.Prc == (x.What == 1)) = false) : readEv P K e ob = (x, e, 0) := by
  obtain ⟨h12, p1, p2, n1, n2⟩ := evE_ok hx
  cases P with
  | nil => simp [evB, wordsB] at h
  | cons p r =>
    have hg : gi (p :: r) 0 = p := rfl
    have hp : p.2 = if x.What = 1 then wCall else wRet := by
      unfold evB wordsB at h
      rw [List.map_cons] at h
      exact (List.cons.inj h).1
    have hw : evWhat p.2 = x.What := by
      rw [hp]
      rcases h12 with h1 | h1
      · rw [h1]; decide
      · rw [h1]; decide
    have hn : numsOf (p :: r) p.2 [1, 0] (hiOf K x.What) e = ([x.Prc, x.N], e, 0) := by
      rcases h12 with h1 | h1
      · have : hiOf K x.What = [1000, K - 1] := by rw [h1]; rfl
        rw [this]
        refine nums2_words e ?_ ⟨p1, p2⟩ ⟨n1, hk h1⟩
        rw [h, hp]; rfl
      · have : hiOf K x.What = [1000, 1000000] := by rw [h1]; rfl
        rw [this]
        refine nums2_words e ?_ ⟨p1, p2⟩ ⟨n1, n2⟩
        rw [h, hp]; rfl
    rw [readEv_eq, hg, hw, if_neg (by omega), hn]
    unfold evOf
    have g0 : gi [x.Prc, x.N] 0 = x.Prc := rfl
    have g1 : gi [x.Prc, x.N] 1 = x.N := rfl
    simp only
    rw [if_neg (by simp), g0, g1, if_neg (by rw [ha]; simp)]
theorem evs_text {K e : Int} {l : List Api_Event} (hg : goodL K l) : ∀ (l2 : List Api_Event) (L2 : List PL) (acc : List Api_Event), L2.map (fun r => r.map (fun p => p.2)) = l2.map evB → acc ++ l2 = l → evsGo K e L2 acc = (l, e, 0)
  | [], [], acc, _, h => by simp at h; rw [h]; rfl
  | [], p :: L2, acc, h, _ => by simp at h
  | x :: l2, [], acc, h, _ => by simp at h
  | x :: l2, p :: L2, acc, h, hl => by
    rw [List.map_cons, List.map_cons] at h
    obtain ⟨q1, q2⟩ := List.cons.inj h
    obtain ⟨g1, g2, g3⟩ := hg
    have hlen : acc.length + (l2.length + 1) = l.length := by rw [← hl]; simp
    have ex : gi l (acc.length : Int) = x := by
      rw [gi_nat _ _ (by omega)]
      simp [← hl]
    have et : l.take acc.length = acc := by rw [← hl]; simp
    obtain ⟨k1, k2⟩ := g2 (acc.length : Int) (by omega) (by omega)
    rw [ex, show ((acc.length : Nat) : Int).toNat = acc.length by omega, et] at k2
    rw [ex] at k1
    have hr := read_text (e := e) (ob := listB acc) q1 k1 (g3 x (by rw [← hl]; simp)) k2
    rw [evsGo_cons, hr, if_neg (by simp), if_neg (by omega)]
    exact evs_text ⟨g1, g2, g3⟩ l2 L2 (acc ++ [x]) q2 (by rw [← hl]; simp)
/-- what is read of a case's text -/
theorem parseH_text (o : Api_Object) (l : List Api_Event) (hc : caseE o l = 0) (hr : o.Rows.length ≤ 3000) (hl : l.length ≤ 3000) : histtext_Parse (joinAll (textH o l)) = (⟨o, l⟩, ((joinAll (textH o l)).length : Int), 0) := by
  obtain ⟨c1, c2, c3⟩ := case_ok hc
  have hlen := textH_len (by omega) hc
  have e0 : caseOf (joinAll (textH o l)) = caseP (linesP (token_Lines (joinAll (textH o l)))) ((joinAll (textH o l)).length : Int) := by unfold caseOf; rw [if_neg (by omega)]
  have hj := lines_join2 (textH o l) (joinAll (textH o l)).length 1 0 (Nat.le_refl _) (textH_lines o l)
  have hP := linesP_textR (textH_lines o l) (l := token_Lines (joinAll (textH o l))) hj
  unfold histtext_Parse
  rw [e0]
  generalize ((joinAll (textH o l)).length : Int) = e at *
  generalize linesP (token_Lines (joinAll (textH o l))) = L at *
  have hL : L.length = o.Rows.length + 1 + l.length := by
    have := congrArg List.length hP
    rw [List.length_map] at this
    rw [this]; simp [textH, textB]; omega
  have hB : (textB o).length = o.Rows.length + 1 := by simp [textB]
  have hT := takeAll_text o c1 L e (by omega) (fun i i0 i1 => by
    rw [← gi_map (fun r : PL => r.map (fun p => p.2)) i0 (by omega), hP]
    unfold textH
    rw [gi_cast i0 (by rw [List.length_append, hB]; omega), gi_cast i0 (by omega), List.getElem_append_left]) (by omega)
  have hE : evsOf L e = (l, e, 0) := by
    unfold evsOf
    rw [hT]
    simp only
    refine evs_text (case_good hc) l _ [] ?_ rfl
    rw [List.map_drop, hP]
    unfold textH
    rw [show ((o.Rows.length : Int) + 1).toNat = (textB o).length by omega]
    simp
  unfold caseP
  rw [hT, hE]
  simp
/-! the law -/
theorem v4 {R S : Prop} (o : Api_Object) (l : List Api_Event) (ho0 : inR .i64 o.States ∧ inR .i64 o.Kinds ∧ inR .i64 o.Init ∧ R) (_ : S) : VC4 o l (fun r => r = true) := by
  intro _ _
  rintro _ rfl
  refine ⟨fun _ => by rintro _ rfl; rfl, fun hx => ?_⟩
  rw [Bool.or_eq_false_iff, decide_eq_false_iff_not] at hx
  have hf : law23_Few o = true := by simpa using hx.1
  obtain ⟨pp, pl⟩ := few_pre ho0.1 ho0.2.1 hf (l := l) (by omega)
  refine ⟨⟨pp, pl⟩, ?_⟩
  rintro _ rfl
  refine ⟨⟨pp, pl⟩, ?_⟩
  rintro _ rfl
  have e1 : histtext_Print ⟨o, l⟩ = ref26_Print o l := rfl
  rw [e1]
  refine ⟨fun _ => ⟨pp.2, ?_⟩, fun h => absurd h (by simp)⟩
  rintro _ rfl
  rintro _ rfl
  have e2 : histtext_Check ⟨o, l⟩ = ref26_Check o l := rfl
  rw [e2]
  exact ⟨fun _ => by rintro _ rfl; rfl, fun h => absurd h (by simp)⟩
theorem v5 {R S : Prop} (o : Api_Object) (l : List Api_Event) (s : Bs) (ho0 : inR .i64 o.States ∧ inR .i64 o.Kinds ∧ inR .i64 o.Init ∧ R) (_ : S) (_ : s.length ≤ 140737488355328) : VC5 o l s (fun r => r = true) := by
  intro _ _
  rintro _ rfl
  refine ⟨fun _ => by rintro _ rfl; rfl, fun hx => ?_⟩
  rw [Bool.or_eq_false_iff, Bool.or_eq_false_iff, decide_eq_false_iff_not, decide_eq_false_iff_not] at hx
  obtain ⟨⟨x1, x2⟩, x3⟩ := hx
  have hf : law23_Few o = true := by simpa using x1
  have hrows : o.Rows.length ≤ 300 := by simpa [law23_Few] using hf
  have hs : s.length ≤ 3000 := by omega
  obtain ⟨pp, pl⟩ := few_pre ho0.1 ho0.2.1 hf (l := l) (by omega)
  have second : VC5_J1 s (fun r => r = true) := by
    unfold VC5_J1
    rintro _ rfl
    intro _ _
    refine ⟨fun he => ?_, fun he => ?_⟩
    · have he : (histtext_Parse s).2.2 ≠ 0 := by simpa using he
      rintro _ rfl
      rw [parseH_bad he, same_self ⟨obj0, []⟩ ⟨0, 0, 0, []⟩ [] rfl rfl]
      exact ⟨fun _ => by rintro _ rfl; rfl, fun h => absurd h (by simp)⟩
    · have he : (histtext_Parse s).2.2 = 0 := by simpa using he
      obtain ⟨q1, q2, q3, q4⟩ := parseH_ok hs he
      generalize (histtext_Parse s).1 = c at *
      refine ⟨⟨⟨by omega, q4⟩, by omega⟩, ?_⟩
      have hpr : histtext_Print c = (joinAll (textH c.Object c.Events), 0) := by
        unfold histtext_Print printH; rw [if_neg (by simpa using q1)]
      rintro _ rfl
      rintro _ rfl
      intro _ _
      refine ⟨q4, ?_⟩
      rintro _ rfl
      rw [hpr]
      simp only
      rw [parseH_text _ _ q1 q2 q3, show histtext_Check c = 0 from q1]
      refine ⟨fun _ => ?_, fun h => absurd h (by simp)⟩
      rintro _ rfl
      rw [same_self ⟨c.Object, c.Events⟩ c.Object c.Events rfl rfl]
      exact ⟨fun _ => by rintro _ rfl; rfl, fun h => absurd h (by simp)⟩
  refine ⟨⟨pp, pl⟩, ?_⟩
  rintro _ rfl
  by_cases hc : caseE o l = 0
  · have hpr : histtext_Print ⟨o, l⟩ = (joinAll (textH o l), 0) := by
      unfold histtext_Print printH; rw [if_neg (by simpa using hc)]
    rw [hpr]
    refine ⟨fun _ => ?_, fun h => absurd h (by simp)⟩
    rintro _ rfl
    intro _ _
    rintro _ rfl
    simp only
    rw [parseH_text o l hc (by omega) (by omega), same_self ⟨o, l⟩ o l rfl rfl]
    exact ⟨fun h => absurd h (by simp), fun _ => second⟩
  · have hpr : histtext_Print ⟨o, l⟩ = ([], caseE o l) := by
      unfold histtext_Print printH; rw [if_pos hc]
    rw [hpr]
    exact ⟨fun h => absurd h (by simpa using hc), fun _ => second⟩
end Go.Proofs.YtcjldfbgccmpkaaDoor
