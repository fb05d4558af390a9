/- Numbers of a line; lines with tokens; words. -/
import Derived.Test.YtkgcdoeldilhaaaGreatDoorNV18
set_option linter.all false
namespace Go.Proofs.YtkgcdoeldilhaaaGreatDoor
open Go Go.Sv Go.Pu
theorem gi_zip {a b : List Int} {x : Int} (h0 : 0 ≤ x) (h1 : x < a.length) (h2 : x < b.length) : gi (a.zip b) x = (gi a x, gi b x) := by
  rw [gi_cast h0 (by rw [List.length_zip]; omega), gi_cast h0 h1, gi_cast h0 h2, List.getElem_zip]
theorem pairsT_len (l : List Token_Token) : (pairsT l).length = l.length := by simp [pairsT]
theorem pairsT_gi {l : List Token_Token} {x : Int} (h0 : 0 ≤ x) (h1 : x < l.length) : gi (pairsT l) x = ((gi l x).At, (gi l x).Text) := gi_map _ h0 h1
theorem numsOf_cons (p : Int × Bs) (r : PL) (w : Bs) (lo hi : List Int) (e : Int) : numsOf (p :: r) w lo hi e = if p.2 ≠ w then ([], p.1, 8) else numsGo e r (lo.zip hi) (p.1 + p.2.length) [] := rfl
theorem v71 (l : List Token_Token) (w : Bs) (lo hi : List Int) (e : Int) (hp : preNT l w lo hi e) : VC71 l w lo hi e (fun r => r = objtext_Numbers l w lo hi e) := by
  intro hs1 hs2 hs3
  obtain ⟨⟨g1, g2⟩, n1, n2, n3, n4⟩ := hp
  unfold objtext_Numbers
  have hP := pairsT_len l
  have hgi : ∀ x : Int, 0 ≤ x → x < l.length → gi (pairsT l) x = ((gi l x).At, (gi l x).Text) := fun x => pairsT_gi
  rw [hP] at g1
  generalize pairsT l = P at *
  refine ⟨fun h => ?_, fun h => ?_⟩
  · have h : l.length = 0 := by simpa using h
    have : P = [] := List.length_eq_zero_iff.1 (by omega)
    subst this; rfl
  · have hl : l.length ≠ 0 := by simpa using h
    have e0 : P = gi P 0 :: P.drop 1 := by
      have := drop_gi (l := P) (i := 0) (by omega) (by omega)
      simpa using this
    have hm : (if ((hi.length : Nat) : Int) < ((lo.length : Nat) : Int) then ((hi.length : Nat) : Int) else ((lo.length : Nat) : Int)) = (lo.zip hi).length := by
      rw [List.length_zip]; split <;> omega
    rw [hm]
    rw [e0, numsOf_cons, hgi 0 (by omega) (by omega)]
    refine ⟨⟨by omega, by omega⟩, fun h => ⟨⟨by omega, by omega⟩, ?_⟩, fun h => ?_⟩
    · rw [if_pos (by simpa using h)]
    · rw [if_neg (by simpa using h)]
      generalize hT : numsGo e (P.drop 1) (lo.zip hi) ((gi l 0).At + ((gi l 0).Text.length : Nat)) [] = T
      have hz : (lo.zip hi).length ≤ lo.length ∧ (lo.zip hi).length ≤ hi.length := by rw [List.length_zip]; omega
      rw [wrp (n := ((l.length : Nat) : Int) - 1) (by omega) (by omega)]
      refine ⟨⟨by omega, by omega⟩, fun out x => 0 ≤ x ∧ x ≤ (lo.zip hi).length ∧ x < l.length ∧ (out.length : Int) = x ∧ numsGo e (P.drop (x + 1).toNat) ((lo.zip hi).drop x.toNat) ((gi l x).At + ((gi l x).Text.length : Nat)) out = T, fun _ x => ((lo.zip hi).length - x).toNat, ⟨by omega, by omega, by omega, rfl, by simpa using hT⟩, ?_⟩
      rintro out x ⟨h0, h1, h2, h3, h4⟩
      have hw : IntKind.i64.wrap (x + 1) = x + 1 := wrp (by omega) (by omega)
      refine ⟨fun hx => ?_, fun hx => ?_⟩
      · have hx : x < (lo.zip hi).length := of_decide_eq_true hx
        rw [drop_gi h0 hx, gi_zip h0 (by omega) (by omega)] at h4
        rw [hw]
        refine ⟨fun hy => ?_, fun hy => ?_⟩
        · have hy := of_decide_eq_true hy
          rw [List.drop_eq_nil_of_le (by omega)] at h4
          have hG := g2 _ (mem_gi (l := P) h0 (by omega))
          rw [hgi x h0 h2] at hG
          simp only at hG
          rw [show ((l.length : Nat) : Int) - 1 = x by omega, wrp (n := (gi l x).At + ((gi l x).Text.length : Nat)) (by omega) (by omega)]
          exact h4
        · have hy : ¬ x + 1 ≥ l.length := of_decide_eq_false hy
          have hG := g2 _ (mem_gi (l := P) (i := x + 1) (by omega) (by omega))
          rw [drop_gi (l := P) (i := x + 1) (by omega) (by omega), hgi (x + 1) (by omega) (by omega)] at h4
          rw [hgi (x + 1) (by omega) (by omega)] at hG
          simp only at hG
          refine ⟨⟨by omega, by omega⟩, ⟨h0, by omega⟩, ⟨h0, by omega⟩, ⟨by show _ ≤ 1000000; omega, n3 _ (mem_gi h0 (by omega)), n4 _ (mem_gi h0 (by omega))⟩, ?_⟩
          rintro _ rfl
          unfold token_Number
          simp only [numsGo] at h4
          refine ⟨fun he => ?_, fun he => ?_⟩
          · rw [if_pos (by simpa using he)] at h4
            exact h4
          · rw [if_neg (by simpa using he)] at h4
            exact ⟨by simp; omega, ⟨by omega, by omega, by omega, by simp; omega, h4⟩, by first | omega | (dsimp only; omega)⟩
      · have hx : ¬ x < (lo.zip hi).length := of_decide_eq_false hx
        rw [show (lo.zip hi).drop x.toNat = [] from List.drop_eq_nil_of_le (by omega)] at h4
        unfold VC71_J1
        rw [h3, hw]
        refine ⟨fun hy => ?_, fun hy => ?_⟩
        · have hy : ((l.length : Nat) : Int) > x + 1 := of_decide_eq_true hy
          rw [drop_gi (l := P) (i := x + 1) (by omega) (by omega), hgi (x + 1) (by omega) (by omega)] at h4
          exact ⟨⟨by omega, by omega⟩, h4⟩
        · have hy : ¬ ((l.length : Nat) : Int) > x + 1 := of_decide_eq_false hy
          rw [List.drop_eq_nil_of_le (by omega)] at h4
          exact h4
theorem nextL_cons (r : List Token_Token) (l : List (List Token_Token)) : nextL (r :: l) = if r.isEmpty then nextL l else (r, l) := rfl
theorem joinRow_words (w : Bs) (n : List Int) (x : Int) : joinRow (wordsB w (n ++ [x])) = joinRow (wordsB w n) ++ 32 :: Lib.itoa x := by
  unfold wordsB
  rw [List.map_append, ← List.cons_append]
  have := joinRow_snoc (w :: n.map Lib.itoa) (Lib.itoa x)
  rw [if_neg (by simp)] at this
  exact this
theorem joinRow_wlen (w : Bs) : ∀ n : List Int, (∀ x ∈ n, inR .i64 x) → (joinRow (wordsB w n)).length ≤ w.length + 22 * n.length := by
  intro n
  induction n with
  | nil => intro _; simp [wordsB, joinRow]
  | cons x r ih =>
    intro h
    have h1 := ih (fun y hy => h y (by simp [hy]))
    have h2 := itoa_len (h x (by simp))
    have e1 : ∀ n : List Int, (joinRow (wordsB w n)).length = w.length + ((n.map Lib.itoa).flatMap fun t => 32 :: t).length := fun n => by simp [wordsB, joinRow]
    rw [e1] at h1 ⊢
    rw [List.map_cons, List.flatMap_cons, List.length_append, List.length_cons, List.length_cons]
    omega
theorem v34 (w : Bs) (n : List Int) (hp : preWB w n) : VC34 w n (fun r => r = ref24_Words w n) := by
  intro hs
  obtain ⟨hw, hn, hr⟩ := hp
  unfold VC34_J1 ref24_Words
  refine ⟨fun out i => 0 ≤ i ∧ i ≤ n.length ∧ out = joinRow (wordsB w (n.take i.toNat)), fun _ i => (n.length - i).toNat, ⟨by omega, by omega, by simp [wordsB, joinRow]⟩, ?_⟩
  rintro out i ⟨h0, h1, h2⟩
  have hol := joinRow_wlen w (n.take i.toNat) (fun x hx => hr x (List.mem_of_mem_take hx))
  rw [← h2, List.length_take] at hol
  refine ⟨fun hi => ?_, fun hi => ?_⟩
  · have hi := of_decide_eq_true hi
    have hil := itoa_len (hr _ (mem_gi h0 hi))
    rw [wrp (n := i + 1) (by omega) (by omega)]
    refine ⟨by simp; omega, ⟨h0, hi⟩, hr _ (mem_gi h0 hi), ?_⟩
    rintro _ rfl
    have hil : (ref05_Digits (gi n i)).length ≤ 21 := hil
    refine ⟨by simp only [List.length_append, List.length_singleton]; omega, ⟨by omega, by omega, ?_⟩, by first | omega | (dsimp only; omega)⟩
    rw [take_gi h0 hi, joinRow_words, h2, List.append_assoc]
    rfl
  · have hi := of_decide_eq_false hi
    rw [show i.toNat = n.length by omega, List.take_length] at h2
    rw [h2] at hol ⊢
    exact ⟨by simp; omega, rfl⟩
theorem linesP_cons (r : List Token_Token) (l : List (List Token_Token)) : linesP (r :: l) = if r.isEmpty then linesP l else pairsT r :: linesP l := by
  unfold linesP saidP
  rw [List.map_cons, List.filter_cons]
  cases r with
  | nil => rfl
  | cons t q => rfl
theorem nextL_spec : ∀ l : List (List Token_Token), (linesP l = [] ∧ nextL l = ([], [])) ∨ (linesP l = pairsT (nextL l).1 :: linesP (nextL l).2 ∧ (nextL l).1 ≠ [] ∧ (nextL l).1 ∈ l ∧ (∀ r ∈ (nextL l).2, r ∈ l) ∧ (nextL l).2.length < l.length)
  | [] => .inl ⟨rfl, rfl⟩
  | r :: l => by
    rw [linesP_cons, nextL_cons]
    by_cases h : r.isEmpty = true
    · rw [if_pos h, if_pos h]
      rcases nextL_spec l with h1 | ⟨h1, h2, h3, h4, h5⟩
      · exact .inl h1
      · exact .inr ⟨h1, h2, by simp [h3], fun q hq => by simp [h4 q hq], by simp; omega⟩
    · rw [if_neg h, if_neg h]
      exact .inr ⟨rfl, fun e => h (by simp at e; simp [e]), by simp, fun q hq => by simp; exact .inr hq, by simp⟩
theorem next_mem (l : List (List Token_Token)) : (∀ r ∈ (nextL l).2, r ∈ l) ∧ (nextL l).2.length ≤ l.length := by
  rcases nextL_spec l with ⟨_, h⟩ | ⟨_, _, _, h, h2⟩
  · rw [h]; simp
  · exact ⟨h, by omega⟩
theorem good_next {l : List (List Token_Token)} (hg : ∀ r ∈ l, goodP (pairsT r)) : goodP (pairsT (nextL l).1) := by
  rcases nextL_spec l with ⟨_, h2⟩ | ⟨_, _, h3, _⟩
  · rw [h2]; exact ⟨by simp [pairsT], by simp [pairsT]⟩
  · exact hg _ h3
theorem numOf_ok {t : Bs} {lo hi : Int} (h : (numOf t lo hi).2 = 0) : lo ≤ (numOf t lo hi).1 ∧ (numOf t lo hi).1 ≤ hi := by
  unfold numOf at *
  split at h
  · rename_i hk
    rw [if_pos hk]
    split at h
    · rename_i hb; rw [if_pos hb]; exact hb
    · simp at h
  · simp at h
theorem numsGo_ok (e : Int) : ∀ (bs : List (Int × Int)) (l : PL) (q : Int) (acc : List Int), (numsGo e l bs q acc).2.2 = 0 → (numsGo e l bs q acc).2.1 = e ∧ ∃ r, (numsGo e l bs q acc).1 = acc ++ r ∧ r.length = bs.length ∧ ∀ v ∈ r, ∃ b ∈ bs, b.1 ≤ v ∧ v ≤ b.2
  | [], [], q, acc, h => ⟨rfl, [], by simp [numsGo], rfl, by simp⟩
  | [], p :: l, q, acc, h => by simp [numsGo] at h
  | b :: bs, [], q, acc, h => by simp [numsGo] at h
  | b :: bs, p :: l, q, acc, h => by
    simp only [numsGo] at h ⊢
    by_cases he : (numOf p.2 b.1 b.2).2 ≠ 0
    · rw [if_pos he] at h
      exact absurd h he
    · rw [if_neg he] at h ⊢
      obtain ⟨h1, r, h2, h3, h4⟩ := numsGo_ok e bs l _ _ h
      refine ⟨h1, (numOf p.2 b.1 b.2).1 :: r, by rw [h2]; simp, by simp [h3], fun v hv => ?_⟩
      rcases List.mem_cons.1 hv with rfl | hv
      · exact ⟨b, by simp, numOf_ok (by simpa using he)⟩
      · obtain ⟨c, hc, hcb⟩ := h4 v hv
        exact ⟨c, by simp [hc], hcb⟩
end Go.Proofs.YtkgcdoeldilhaaaGreatDoor
