/- The law HisttextPlaces: plain. -/
import Derived.Test.YtcjldfbgccmpkaaDoorHV27
set_option linter.all false
namespace Go.Proofs.YtcjldfbgccmpkaaDoor
open Go Go.Sv Go.Pu
theorem tw_split : ∀ l : Bs, (tw l).length < l.length → l = tw l ++ 10 :: l.drop ((tw l).length + 1)
  | [], h => by simp at h
  | b :: l, h => by
    by_cases hb : b = 10
    · subst hb; rfl
    · have e : tw (b :: l) = b :: tw l := by
        unfold tw
        rw [List.takeWhile_cons, if_pos (by simpa using hb)]
      rw [e] at h ⊢
      rw [List.length_cons, List.drop_succ_cons, List.cons_append]
      congr 1
      exact tw_split l (by simpa using h)
theorem tw_no10 : ∀ (l : Bs), ∀ b ∈ tw l, b ≠ 10
  | [], b, h => by simp [tw] at h
  | c :: l, b, h => by
    unfold tw at h
    rw [List.takeWhile_cons] at h
    split at h
    · rename_i hc
      rcases List.mem_cons.1 h with rfl | h
      · simpa using hc
      · exact tw_no10 l b h
    · simp at h
theorem linesL_app (x R : Bs) (k a : Int) (h : ∀ b ∈ x, b ≠ 10) : linesL (x ++ 10 :: R) k a = rowOf x k a :: linesL R (k + 1) (a + x.length + 1) := by
  have hne : x ++ 10 :: R ≠ [] := by simp
  rw [linesL_cons hne, tw_append x R h]
  congr 2
  simp [List.drop_append]
theorem wgo_cur : ∀ (l : Bs) (i : Int) (cur : Bs), cur ≠ [] → ∃ t r, wgo l i cur = (i - cur.length, t) :: r
  | [], i, cur, h => ⟨_, _, wgo_nil i h⟩
  | b :: l, i, cur, h => by
    by_cases hb : gapB b = true
    · exact ⟨_, _, wgo_gap hb h⟩
    · rw [wgo_in (by simpa using hb)]
      obtain ⟨t, r, e⟩ := wgo_cur l (i + 1) (cur ++ [b]) (by simp)
      refine ⟨t, r, ?_⟩
      rw [e, List.length_append, List.length_singleton]
      congr 2
      omega
theorem wgo_first : ∀ (l : Bs) (i : Int), wgo l i [] ≠ [] → ∃ n : Nat, n < l.length ∧ (gi (wgo l i []) 0).1 = i + n ∧ ∀ b ∈ l.take n, gapB b = true
  | [], i, h => absurd rfl h
  | b :: l, i, h => by
    by_cases hb : gapB b = true
    · rw [wgo_gap0 hb] at h ⊢
      obtain ⟨n, n1, n2, n3⟩ := wgo_first l (i + 1) h
      refine ⟨n + 1, by simp; omega, by rw [n2]; omega, fun c hc => ?_⟩
      rw [List.take_succ_cons] at hc
      rcases List.mem_cons.1 hc with rfl | hc
      · exact hb
      · exact n3 c hc
    · rw [wgo_in (by simpa using hb)]
      obtain ⟨t, r, e⟩ := wgo_cur l (i + 1) ([] ++ [b]) (by simp)
      rw [e]
      refine ⟨0, by simp, ?_, by simp⟩
      show i + 1 - _ = i + _
      simp
theorem wgo_gaps : ∀ (l : Bs) (i : Int), (∀ b ∈ l, gapB b = true) → wgo l i [] = []
  | [], i, _ => rfl
  | b :: l, i, h => by
    rw [wgo_gap0 (h b (by simp))]
    exact wgo_gaps l (i + 1) (fun c hc => h c (by simp [hc]))
theorem gap_no10 {b : UInt8} (h : gapB b = true) : b ≠ 10 := by
  rintro rfl
  exact absurd h (by decide)
theorem tw_all : ∀ l : Bs, (∀ b ∈ l, b ≠ 10) → tw l = l
  | [], _ => rfl
  | b :: l, h => by
    unfold tw
    rw [List.takeWhile_cons, if_pos (by simpa using h b (by simp))]
    congr 1
    exact tw_all l (fun c hc => h c (by simp [hc]))
theorem gaps_lines (l : Bs) (k a : Int) (h : ∀ b ∈ l, gapB b = true) : linesP (linesL l k a) = [] := by
  by_cases hl : l = []
  · subst hl; rfl
  · have ht := tw_all l (fun b hb => gap_no10 (h b hb))
    rw [linesL_cons hl, ht]
    have hd : l.drop (l.length + 1) = [] := List.drop_eq_nil_of_le (by omega)
    have hr : rowOf l k a = [] := by
      unfold rowOf
      split
      · rfl
      · rw [wgo_gaps l a h]; rfl
    rw [hd, hr, linesP_cons, if_pos (show ([] : List Token_Token).isEmpty = true from rfl)]
    rfl
/-- the text ahead of a line's first token has the lines ahead of it alone -/
theorem lines_pre2 : ∀ (m : Nat) (l : Bs) (k a : Int) (i : Nat) (r : List Token_Token), l.length = m → (linesL l k a)[i]? = some r → r ≠ [] →
    a ≤ (gi r 0).At ∧ (gi r 0).At ≤ a + l.length ∧ linesP (linesL (l.take ((gi r 0).At - a).toNat) k a) = linesP ((linesL l k a).take i) := by
  intro m
  induction m using Nat.strongRecOn with
  | _ m ih =>
    intro l k a i r hm hi hr
    by_cases hl : l = []
    · subst hl; simp [linesL_nil] at hi
    rw [linesL_cons hl] at hi ⊢
    have hle := tw_le l
    cases i with
    | zero =>
      simp at hi
      subst hi
      have hrem : ¬ remark (tw l) = true := by
        intro h
        unfold rowOf at hr
        rw [if_pos h] at hr
        exact hr rfl
      have hrow : rowOf (tw l) k a = (wgo (tw l) a []).map fun p => ⟨k, p.1, p.2⟩ := by unfold rowOf; rw [if_neg hrem]
      have hw : wgo (tw l) a [] ≠ [] := by
        intro h
        rw [hrow, h] at hr
        exact hr rfl
      obtain ⟨n, n1, n2, n3⟩ := wgo_first (tw l) a hw
      have hat : (gi (rowOf (tw l) k a) 0).At = a + n := by
        rw [hrow, gi_map _ (Int.le_refl _) (by have := List.length_pos_iff.2 hw; omega)]
        exact n2
      rw [hat]
      refine ⟨by omega, by omega, ?_⟩
      rw [show (a + (n : Int) - a).toNat = n by omega]
      have ht : l.take n = (tw l).take n := by
        have hp : tw l <+: l := List.takeWhile_prefix _
        obtain ⟨z, hz⟩ := hp
        have := List.take_append_of_le_length (l₁ := tw l) (l₂ := z) (i := n) (by omega)
        rw [hz] at this
        exact this
      rw [ht, gaps_lines _ k a n3]
      rfl
    | succ i =>
      rw [List.getElem?_cons_succ] at hi
      have hlt : (tw l).length < l.length := by
        by_cases h : (tw l).length < l.length
        · exact h
        · rw [List.drop_eq_nil_of_le (by omega), linesL_nil] at hi
          simp at hi
      obtain ⟨q1, q2, q3⟩ := ih (l.drop ((tw l).length + 1)).length (by rw [List.length_drop]; omega) (l.drop ((tw l).length + 1)) (k + 1) (a + (tw l).length + 1) i r rfl hi hr
      rw [List.length_drop] at q2
      refine ⟨by omega, by omega, ?_⟩
      have hsp := tw_split l hlt
      have ht : l.take ((gi r 0).At - a).toNat = tw l ++ 10 :: (l.drop ((tw l).length + 1)).take ((gi r 0).At - (a + (tw l).length + 1)).toNat := by
        have e : ((gi r 0).At - a).toNat = (tw l).length + (((gi r 0).At - (a + (tw l).length + 1)).toNat + 1) := by omega
        have key : ∀ (u v : Bs) (n : Nat), (u ++ 10 :: v).take (u.length + (n + 1)) = u ++ 10 :: v.take n := fun u v n => by
          rw [List.take_length_add_append, List.take_succ_cons]
        have := key (tw l) (l.drop ((tw l).length + 1)) ((gi r 0).At - (a + (tw l).length + 1)).toNat
        rw [← hsp] at this
        rw [e]
        exact this
      rw [ht, linesL_app _ _ k a (tw_no10 l), linesP_cons, List.take_succ_cons, linesP_cons, q3]
theorem lines_split : ∀ (T : List (List Token_Token)) (j : Nat), j < (linesP T).length → ∃ i : Nat, ∃ h : i < T.length, T[i] ≠ [] ∧ gi (linesP T) (j : Int) = pairsT T[i] ∧ linesP (T.take i) = (linesP T).take j
  | [], j, h => by simp [linesP, saidP] at h
  | r :: T, j, h => by
    rw [linesP_cons] at h ⊢
    by_cases hr : r.isEmpty = true
    · rw [if_pos hr] at h ⊢
      obtain ⟨i, h1, h2, h3, h4⟩ := lines_split T j h
      exact ⟨i + 1, by simp; omega, by simpa using h2, by simpa using h3, by rw [List.take_succ_cons, linesP_cons, if_pos hr]; exact h4⟩
    · rw [if_neg hr] at h ⊢
      cases j with
      | zero => exact ⟨0, by simp, by simpa using hr, rfl, rfl⟩
      | succ j =>
        obtain ⟨i, h1, h2, h3, h4⟩ := lines_split T j (by simpa using h)
        refine ⟨i + 1, by simp; omega, by simpa using h2, ?_, by rw [List.take_succ_cons, linesP_cons, if_neg hr, h4]; rfl⟩
        have : gi (pairsT r :: linesP T) ((j + 1 : Nat) : Int) = gi (linesP T) (j : Int) := by
          have hj : j < (linesP T).length := by simpa using h
          rw [gi_nat _ _ (by simp; omega), gi_nat _ _ hj]; rfl
        rw [this]
        simpa using h3
theorem v6 (s : Bs) : VC6 s (fun r => r = true) := by
  unfold VC6
  refine ⟨fun _ => by rintro _ rfl; rfl, fun h => ?_⟩
  have h := of_decide_eq_false h
  have hs3 : s.length ≤ 3000 := by omega
  have hl : len1 s := by unfold len1; omega
  have hcase : ∀ t : Bs, t.length ≤ 3000 → (histtext_Parse t).2 = ((caseP (linesP (token_Lines t)) t.length).2.2.1, (caseP (linesP (token_Lines t)) t.length).2.2.2) := by
    intro t ht
    unfold histtext_Parse caseOf
    rw [if_neg (by omega)]
  have hne := fun r hr => (linesP_ne (token_Lines s) r hr).1
  have p1 : (histtext_Parse s).2.2 = 0 → (histtext_Parse s).2.1 = s.length := by
    rw [hcase s hs3]
    exact fun h => (caseP_ok h).2.2.2.1
  have p2 := fun h : (caseP (linesP (token_Lines s)) s.length).2.2.2 ≠ 0 => caseP_fault hne h
  rintro _ rfl
  intro _ _
  refine ⟨fun hx => ⟨fun _ => by rintro _ rfl; rfl, fun hy => ?_⟩, fun hx => ⟨hl, ?_⟩⟩
  · exfalso
    have hy : ¬ (histtext_Parse s).2.1 = s.length := by simpa using hy
    rw [Bool.or_eq_true] at hx
    rcases hx with hx | hx
    · exact hy (p1 (by simpa using hx))
    · exact hy (by simpa using hx)
  · rw [Bool.or_eq_false_iff] at hx
    have hx1 : (histtext_Parse s).2.2 ≠ 0 := by simpa using hx.1
    have hx2 : ¬ (histtext_Parse s).2.1 = s.length := by simpa using hx.2
    have er1 : (caseP (linesP (token_Lines s)) s.length).2.2.1 = (histtext_Parse s).2.1 := by rw [hcase s hs3]
    have er2 : (caseP (linesP (token_Lines s)) s.length).2.2.2 = (histtext_Parse s).2.2 := by rw [hcase s hs3]
    rw [er1, er2] at p2
    have p2 := p2 hx1
    rcases p2 with h1 | ⟨j, j1, ⟨p, hp, hpe⟩, j3⟩
    · exact absurd h1 hx2
    obtain ⟨i0, hi0, n0, hgj, htk⟩ := lines_split _ j j1
    rw [hgj] at hp
    simp only [pairsT, List.mem_map] at hp
    obtain ⟨t, ht, rfl⟩ := hp
    obtain ⟨g1, _, g3⟩ := lines_good (s := s) s.length 0 1 (Int.le_refl _) (by omega) (fun _ => by simp [cnl])
    rw [show s.drop (0 : Int).toNat = s by simp] at g1 g3
    have hL : linesGo s.length s 1 0 = token_Lines s := rfl
    rw [hL] at g1 g3
    have g4 := (List.pairwise_flatten.1 g3).2
    obtain ⟨⟨po1, po2⟩, _⟩ := lines_pre s hl
    rintro _ rfl
    intro _
    have hpre : ∀ i : Nat, ∀ r, (token_Lines s)[i]? = some r → r ≠ [] → linesP (token_Lines (s.take (gi r 0).At.toNat)) = linesP ((token_Lines s).take i) := by
      intro i r hi hr
      have := (lines_pre2 s.length s 1 0 i r rfl hi hr).2.2
      rw [Int.sub_zero] at this
      exact this
    rw [← htk] at j3
    generalize (histtext_Parse s).2.2 = er at *
    generalize (histtext_Parse s).2.1 = at_ at *
    generalize token_Lines s = L at *
    obtain ⟨k0, hk0, rfl⟩ := List.getElem_of_mem ht
    unfold VC6_J1 VC6_J2
    refine ⟨fun i => 0 ≤ i ∧ i ≤ (i0 : Int), fun i => (L.length - i).toNat, ⟨by omega, by omega⟩, ?_⟩
    rintro i ⟨a0, a1⟩
    refine ⟨fun hi => ?_, fun hi => by have := of_decide_eq_false hi; omega⟩
    have hi := of_decide_eq_true hi
    have hrl := po2 _ (mem_gi a0 hi)
    refine ⟨fun k => 0 ≤ k ∧ k ≤ (gi L i).length ∧ (i = (i0 : Int) → k ≤ (k0 : Int)), fun k => ((gi L i).length - k).toNat, ⟨by omega, by omega, fun _ => by omega⟩, ?_⟩
    rintro k ⟨b0, b1, b2⟩
    refine ⟨⟨a0, hi⟩, fun _ => ⟨fun hk => ?_, fun hk => ?_⟩⟩
    · have hk := of_decide_eq_true hk
      refine ⟨⟨a0, hi⟩, fun _ => ⟨⟨b0, hk⟩, ?_⟩⟩
      have hgl : L[i.toNat]? = some (gi L i) := by rw [gi_cast a0 hi]; exact List.getElem?_eq_getElem _
      have G := g1 i.toNat _ hgl _ (mem_gi b0 hk)
      have G1 := G.lo
      have G2 := G.hi
      have Gn : 0 < (gi (gi L i) k).Text.length := List.length_pos_iff.2 G.ne
      have H0 := g1 i.toNat _ hgl _ (mem_gi (l := gi L i) (Int.le_refl 0) (by omega))
      have H1 := H0.lo
      have H2 := H0.hi
      unfold tend at G2 H2
      have hgl0 : L[i0]? = some L[i0] := List.getElem?_eq_getElem hi0
      have F := g1 i0 _ hgl0 _ (List.getElem_mem hk0)
      have Fn : 0 < L[i0][k0].Text.length := List.length_pos_iff.2 F.ne
      rw [wrp (n := (gi (gi L i) k).At + ((gi (gi L i) k).Text.length : Nat)) (by omega) (by omega)]
      refine ⟨fun hyes => ?_, fun hno => ?_⟩
      · have hii : i.toNat = i0 := by
          by_cases hlt : i.toNat < i0
          · exfalso
            have hpw := List.pairwise_iff_getElem.1 g4 i.toNat i0 (by omega) hi0 hlt (gi (gi L i) k) (by rw [← gi_cast a0 hi]; exact mem_gi b0 hk) L[i0][k0] (List.getElem_mem hk0)
            unfold tend at hpw
            rw [Bool.or_eq_true, Bool.and_eq_true, Bool.and_eq_true] at hyes
            rcases hpe with ⟨q1, q2⟩ | ⟨q1, q2⟩
            · have q1 : L[i0][k0].At = at_ := q1
              rcases hyes with ⟨y1, y2⟩ | ⟨y1, y2⟩
              · have y1 : (gi (gi L i) k).At = at_ := by simpa using y1
                omega
              · exact q2 (by simpa using y2)
            · have q1 : L[i0][k0].At + L[i0][k0].Text.length = at_ := q1
              rcases hyes with ⟨y1, y2⟩ | ⟨y1, y2⟩
              · exact absurd q2 (by simpa using y2)
              · have y1 : (gi (gi L i) k).At + ((gi (gi L i) k).Text.length : Nat) = at_ := by simpa using y1
                omega
          · omega
        refine ⟨⟨a0, hi⟩, fun _ => ⟨⟨by omega, by omega⟩, fun _ => by rintro _ rfl; rfl, fun hz => ⟨⟨a0, hi⟩, fun _ => ⟨⟨by omega, by omega⟩, ⟨by omega, by omega⟩, ?_⟩⟩⟩⟩
        rintro _ rfl
        intro _ _
        have hgne : gi L i ≠ [] := by
          intro e
          rw [e] at hk
          simp at hk
          omega
        have hlp := hpre i.toNat _ hgl hgne
        have hfe : (histtext_Parse (s.take (gi (gi L i) 0).At.toNat)).2.2 = 0 ∨ (histtext_Parse (s.take (gi (gi L i) 0).At.toNat)).2.2 = 4 := by
          rw [hcase _ (by rw [List.length_take]; omega), hlp, hii]
          exact j3 _
        refine ⟨fun _ => by rintro _ rfl; rfl, fun hbad => ?_⟩
        exfalso
        rcases hfe with hf | hf
        · rw [hf] at hbad; cases hbad
        · rw [hf] at hbad; cases hbad
      · rw [wrp (n := k + 1) (by omega) (by omega)]
        refine ⟨⟨by omega, by omega, fun hie => ?_⟩, by first | omega | (dsimp only; omega)⟩
        have := b2 hie
        by_cases hkk : k = (k0 : Int)
        · exfalso
          subst hkk
          subst hie
          have e1 : gi L (i0 : Int) = L[i0] := gi_nat _ _ hi0
          have e2 : gi L[i0] (k0 : Int) = L[i0][k0] := gi_nat _ _ hk0
          rw [e1, e2] at hno
          rw [Bool.or_eq_false_iff] at hno
          rcases hpe with ⟨q1, q2⟩ | ⟨q1, q2⟩
          · have q1 : L[i0][k0].At = at_ := q1
            have := hno.1
            rw [q1] at this
            simp at this
            exact q2 this
          · have q1 : L[i0][k0].At + L[i0][k0].Text.length = at_ := q1
            have := hno.2
            rw [q1, q2] at this
            simp at this
        · omega
    · have hk := of_decide_eq_false hk
      rw [wrp (n := i + 1) (by omega) (by omega)]
      refine ⟨⟨by omega, ?_⟩, by first | omega | (dsimp only; omega)⟩
      by_cases hie : i = (i0 : Int)
      · exfalso
        have := b2 hie
        subst hie
        have e1 : gi L (i0 : Int) = L[i0] := gi_nat _ _ hi0
        rw [e1] at hk
        omega
      · omega
end Go.Proofs.YtcjldfbgccmpkaaDoor
