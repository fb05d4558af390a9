/- An object is taken of lines. -/
import Derived.Test.YtcjldfbgccmpkaaDoorHV11
set_option linter.all false
namespace Go.Proofs.YtcjldfbgccmpkaaDoor
open Go Go.Sv Go.Pu
/-! lines with tokens -/
theorem linesP_cons (r : List Token_Token) (l : List (List Token_Token)) : linesP (r :: l) = if r.isEmpty then linesP l else pairsT r :: linesP l := by
  unfold linesP saidP
  rw [List.map_cons, List.filter_cons]
  cases r with
  | nil => rfl
  | cons t q => rfl
theorem nextL_spec : ∀ l : List (List Token_Token), (linesP l = [] ∧ nextL l = ([], [])) ∨ (linesP l = pairsT (nextL l).1 :: linesP (nextL l).2 ∧ (nextL l).1 ≠ [] ∧ (nextL l).1 ∈ l ∧ (∀ r ∈ (nextL l).2, r ∈ l) ∧ (nextL l).2.length < l.length)
  | [] => .inl ⟨rfl, rfl⟩
  | r :: l => by
    rw [linesP_cons, nextL_cons]
    by_cases h : r.isEmpty = true
    · rw [if_pos h, if_pos h]
      rcases nextL_spec l with h1 | ⟨h1, h2, h3, h4, h5⟩
      · exact .inl h1
      · exact .inr ⟨h1, h2, by simp [h3], fun q hq => by simp [h4 q hq], by simp; omega⟩
    · rw [if_neg h, if_neg h]
      exact .inr ⟨rfl, fun e => h (by simp at e; simp [e]), by simp, fun q hq => by simp; exact .inr hq, by simp⟩
theorem next_mem (l : List (List Token_Token)) : (∀ r ∈ (nextL l).2, r ∈ l) ∧ (nextL l).2.length ≤ l.length := by
  rcases nextL_spec l with ⟨_, h⟩ | ⟨_, _, _, h, h2⟩
  · rw [h]; simp
  · exact ⟨h, by omega⟩
theorem drop_said : ∀ (n : Nat) (l : List (List Token_Token)), linesP (dropSaid n l) = (linesP l).drop n
  | 0, l => rfl
  | n + 1, l => by
    show linesP (dropSaid n (nextL l).2) = _
    rw [drop_said n]
    rcases nextL_spec l with ⟨h1, h⟩ | ⟨h1, _⟩
    · rw [h, h1]; simp [linesP, saidP]
    · rw [h1]; rfl
theorem drop_next : ∀ (n : Nat) (l : List (List Token_Token)), dropSaid (n + 1) l = (nextL (dropSaid n l)).2
  | 0, l => rfl
  | n + 1, l => by
    show dropSaid (n + 1) (nextL l).2 = (nextL (dropSaid n (nextL l).2)).2
    exact drop_next n _
theorem drop_mem : ∀ (n : Nat) (l : List (List Token_Token)), (∀ r ∈ dropSaid n l, r ∈ l) ∧ (dropSaid n l).length ≤ l.length
  | 0, l => ⟨fun _ h => h, Nat.le_refl _⟩
  | n + 1, l => by
    obtain ⟨h1, h2⟩ := drop_mem n (nextL l).2
    obtain ⟨h3, h4⟩ := next_mem l
    exact ⟨fun r hr => h3 r (h1 r hr), Nat.le_trans h2 h4⟩
theorem numsAt_next {l : List (List Token_Token)} {L : List PL} {i : Int} (h0 : 0 ≤ i) (h : linesP l = L.drop i.toNat) (w : Bs) (e : Int) : numsOf (pairsT (nextL l).1) w lo4 hi4 e = numsAt L i w e := by
  unfold numsAt
  rcases nextL_spec l with ⟨h1, h2⟩ | ⟨h1, h2, _⟩
  · have : L.length ≤ i.toNat := by
      have := congrArg List.length (h1.symm.trans h)
      simp at this; omega
    rw [h2, if_pos (by omega)]; rfl
  · have hi : i < L.length := by
      have := congrArg List.length (h1.symm.trans h)
      simp at this; omega
    rw [if_neg (by omega)]
    rw [drop_gi h0 hi] at h
    rw [h1] at h
    rw [(List.cons.inj h).1]
theorem good_next {l : List (List Token_Token)} (hg : ∀ r ∈ l, goodP (pairsT r)) : goodP (pairsT (nextL l).1) := by
  rcases nextL_spec l with ⟨_, h2⟩ | ⟨_, _, h3, _⟩
  · rw [h2]; exact ⟨by simp [pairsT], by simp [pairsT]⟩
  · exact hg _ h3
theorem numOf_ok {t : Bs} {lo hi : Int} (h : (numOf t lo hi).2 = 0) : lo ≤ (numOf t lo hi).1 ∧ (numOf t lo hi).1 ≤ hi := by
  unfold numOf at *
  split at h
  · rename_i hk
    rw [if_pos hk]
    split at h
    · rename_i hb; rw [if_pos hb]; exact hb
    · simp at h
  · simp at h
theorem numsGo_ok (e : Int) : ∀ (bs : List (Int × Int)) (l : PL) (q : Int) (acc : List Int), (numsGo e l bs q acc).2.2 = 0 → (numsGo e l bs q acc).2.1 = e ∧ ∃ r, (numsGo e l bs q acc).1 = acc ++ r ∧ r.length = bs.length ∧ ∀ v ∈ r, ∃ b ∈ bs, b.1 ≤ v ∧ v ≤ b.2
  | [], [], q, acc, h => ⟨rfl, [], by simp [numsGo], rfl, by simp⟩
  | [], p :: l, q, acc, h => by simp [numsGo] at h
  | b :: bs, [], q, acc, h => by simp [numsGo] at h
  | b :: bs, p :: l, q, acc, h => by
    simp only [numsGo] at h ⊢
    by_cases he : (numOf p.2 b.1 b.2).2 ≠ 0
    · rw [if_pos he] at h
      exact absurd h he
    · rw [if_neg he] at h ⊢
      obtain ⟨h1, r, h2, h3, h4⟩ := numsGo_ok e bs l _ _ h
      refine ⟨h1, (numOf p.2 b.1 b.2).1 :: r, by rw [h2]; simp, by simp [h3], fun v hv => ?_⟩
      rcases List.mem_cons.1 hv with rfl | hv
      · exact ⟨b, by simp, numOf_ok (by simpa using he)⟩
      · obtain ⟨c, hc, hcb⟩ := h4 v hv
        exact ⟨c, by simp [hc], hcb⟩
theorem numsAt_ok {L : List PL} {i : Int} {w : Bs} {e : Int} (h : (numsAt L i w e).2.2 = 0) : (numsAt L i w e).2.1 = e ∧ (numsAt L i w e).1.length = 4 ∧ (∀ v ∈ (numsAt L i w e).1, 0 ≤ v ∧ v ≤ 1000000) ∧ i < L.length := by
  unfold numsAt at *
  by_cases hi : i ≥ L.length
  · rw [if_pos hi] at h; simp at h
  · rw [if_neg hi] at h ⊢
    have hlt : i < L.length := by omega
    cases hg : gi L i with
    | nil => rw [hg] at h; simp [numsOf] at h
    | cons p r =>
      rw [hg, numsOf_cons] at h
      rw [numsOf_cons]
      by_cases hp : p.2 ≠ w
      · rw [if_pos hp] at h; simp at h
      · rw [if_neg hp] at h ⊢
        obtain ⟨h1, r', h2, h3, h4⟩ := numsGo_ok e _ _ _ _ h
        refine ⟨h1, by rw [h2]; exact h3.trans (by decide), fun v hv => ?_, hlt⟩
        rw [h2] at hv
        obtain ⟨b, hb, hbb⟩ := h4 v (by simpa using hv)
        have : b = (0, 1000000) := by
          simp [lo4, hi4] at hb
          exact hb
        subst this
        exact hbb
theorem nums4 {n : List Int} (h : n.length = 4) (hv : ∀ v ∈ n, 0 ≤ v ∧ v ≤ 1000000) : ∀ k : Int, 0 ≤ k → k < 4 → 0 ≤ gi n k ∧ gi n k ≤ 1000000 := fun k h0 h1 => hv _ (mem_gi h0 (by omega))
theorem rowsGo_succ (L : List PL) (e : Int) (n : Nat) (i : Int) (acc : List Api_Row) : rowsGo L e (n + 1) i acc = if (numsAt L i wRow e).2.2 ≠ 0 then ([], (numsAt L i wRow e).2.1, (numsAt L i wRow e).2.2) else rowsGo L e n (i + 1) (acc ++ [rowOf4 (numsAt L i wRow e).1]) := rfl
theorem rowsGo_ok (L : List PL) (e : Int) : ∀ (n : Nat) (i : Int) (acc : List Api_Row), i ≤ L.length → (rowsGo L e n i acc).2.2 = 0 → (rowsGo L e n i acc).2.1 = e ∧ (rowsGo L e n i acc).1.length = acc.length + n ∧ i + n ≤ L.length
  | 0, i, acc, hi, h => ⟨rfl, rfl, by omega⟩
  | n + 1, i, acc, hi, h => by
    rw [rowsGo_succ] at h ⊢
    by_cases he : (numsAt L i wRow e).2.2 ≠ 0
    · rw [if_pos he] at h; exact absurd h he
    · rw [if_neg he] at h ⊢
      have he : (numsAt L i wRow e).2.2 = 0 := by simpa using he
      have hi2 := (numsAt_ok he).2.2.2
      obtain ⟨h1, h2, h3⟩ := rowsGo_ok L e n (i + 1) _ (by omega) h
      exact ⟨h1, by rw [h2]; simp; omega, by omega⟩
def headN (L : List PL) (e : Int) : List Int × Int × Int := numsAt L 0 wObject e
def rowsN (L : List PL) (e : Int) : List Api_Row × Int × Int := rowsGo L e (gi (headN L e).1 3).toNat 1 []
theorem takeAll_eq (L : List PL) (e : Int) : takeAll L e =
    if (headN L e).2.2 ≠ 0 then (obj0, 0, (headN L e).2.1, (headN L e).2.2)
    else if (rowsN L e).2.2 ≠ 0 then (obj0, 0, (rowsN L e).2.1, (rowsN L e).2.2)
    else if (object_Check (objH (headN L e).1 (rowsN L e).1)).2 ≠ 0 then
      (obj0, 0, (gi (gi L ((object_Check (objH (headN L e).1 (rowsN L e).1)).1 + 1)) 0).1, (object_Check (objH (headN L e).1 (rowsN L e).1)).2)
    else (objH (headN L e).1 (rowsN L e).1, gi (headN L e).1 3 + 1, e, 0) := rfl
theorem taA {L : List PL} {e : Int} (h : (headN L e).2.2 ≠ 0) : takeAll L e = (obj0, 0, (headN L e).2.1, (headN L e).2.2) := by
  rw [takeAll_eq, if_pos h]
theorem taB {L : List PL} {e : Int} (h : (headN L e).2.2 = 0) (h2 : (rowsN L e).2.2 ≠ 0) : takeAll L e = (obj0, 0, (rowsN L e).2.1, (rowsN L e).2.2) := by
  rw [takeAll_eq, if_neg (by simpa using h), if_pos h2]
theorem taC {L : List PL} {e : Int} (h : (headN L e).2.2 = 0) (h2 : (rowsN L e).2.2 = 0) (h3 : (object_Check (objH (headN L e).1 (rowsN L e).1)).2 ≠ 0) :
    takeAll L e = (obj0, 0, (gi (gi L ((object_Check (objH (headN L e).1 (rowsN L e).1)).1 + 1)) 0).1, (object_Check (objH (headN L e).1 (rowsN L e).1)).2) := by
  rw [takeAll_eq, if_neg (by simpa using h), if_neg (by simpa using h2), if_pos h3]
theorem taD {L : List PL} {e : Int} (h : (headN L e).2.2 = 0) (h2 : (rowsN L e).2.2 = 0) (h3 : (object_Check (objH (headN L e).1 (rowsN L e).1)).2 = 0) :
    takeAll L e = (objH (headN L e).1 (rowsN L e).1, gi (headN L e).1 3 + 1, e, 0) := by
  rw [takeAll_eq, if_neg (by simpa using h), if_neg (by simpa using h2), if_neg (by simpa using h3)]
theorem chk_range (o : Api_Object) : ∀ (f : Nat) (i : Int), (chkGo o f i).2 ≠ 0 → i ≤ (chkGo o f i).1 ∧ (chkGo o f i).1 < i + f
  | 0, i, h => by simp [chkGo] at h
  | f + 1, i, h => by
    rw [chkGo_succ] at h ⊢
    by_cases he : rowE o i ≠ 0
    · rw [if_pos he]; simp only; omega
    · rw [if_neg he] at h ⊢
      have := chk_range o f (i + 1) h
      omega
theorem check_range (o : Api_Object) (h : (object_Check o).2 ≠ 0) : -1 ≤ (object_Check o).1 ∧ (object_Check o).1 < o.Rows.length := by
  by_cases hb : badHead o
  · rw [(check_eq o).1 hb]; simp only; omega
  · rw [(check_eq o).2 hb] at h ⊢
    have := chk_range o _ _ h
    omega
theorem inR_of {x : Int} (h0 : 0 ≤ x) (h1 : x ≤ 1000000) : inR .i64 x := ⟨by show (-9223372036854775808 : Int) ≤ x; omega, by show x ≤ (9223372036854775807 : Int); omega⟩
theorem v17 (l : List (List Token_Token)) (e : Int) (hp : preTk l e) : VC17 l e (fun r => r = objtext_Take l e) := by
  intro hs
  obtain ⟨hl, hg⟩ := hp
  refine ⟨rfl, ?_⟩
  rintro _ rfl
  intro _ _
  rintro _ rfl
  intro _ _
  have hB : objtext_bounds 4 = (lo4, hi4) := rfl
  rw [hB]
  have hh : objtext_Numbers (objtext_next l).1 ([111, 98, 106, 101, 99, 116] : Bs) (lo4, hi4).1 (lo4, hi4).2 e = headN (linesP l) e := numsAt_next (i := 0) (Int.le_refl _) (by simp) wObject e
  refine ⟨⟨good_next hg, by decide, by decide, in4.1, in4.2⟩, ?_⟩
  rintro _ rfl
  intro _
  rw [hh]
  have tk : ∀ (er : Int) (at_ c : Int), takeAll (linesP l) e = (obj0, c, at_, er) → er ≠ 0 → ((⟨0, 0, 0, []⟩ : Api_Object), ([] : List (List Token_Token)), at_, er) = objtext_Take l e := by
    intro er at_ c h1 h2
    unfold objtext_Take
    rw [h1, if_pos h2]; rfl
  refine ⟨fun h => tk _ _ _ (taA (by simpa using h)) (by simpa using h), fun h => ?_⟩
  have hN : (headN (linesP l) e).2.2 = 0 := by simpa using h
  obtain ⟨n1, n2, n3, n4⟩ := numsAt_ok hN
  have n1 : (headN (linesP l) e).2.1 = e := n1
  have n2 : (headN (linesP l) e).1.length = 4 := n2
  have nb := nums4 n2 n3
  have nb3 := nb 3 (by omega) (by omega)
  refine ⟨by rw [n2]; omega, by rw [n2]; omega, by rw [n2]; omega, by rw [n2]; omega, ?_⟩
  have hhead : linesP l = pairsT (nextL l).1 :: linesP (nextL l).2 ∧ (nextL l).1 ≠ [] := by
    rcases nextL_spec l with ⟨h1, _⟩ | ⟨h1, h2, _⟩
    · rw [h1] at n4; simp at n4
    · exact ⟨h1, h2⟩
  have hnl : 0 < (nextL l).1.length := by
    cases hx : (nextL l).1 with
    | nil => exact absurd hx hhead.2
    | cons _ _ => simp
  have hfirst : (gi (nextL l).1 0).At = (gi (gi (linesP l) 0) 0).1 := by
    rw [hhead.1]
    show _ = (gi (pairsT (nextL l).1) 0).1
    rw [pairsT_gi (by omega) (by omega)]
  generalize hNN : headN (linesP l) e = N at *
  refine ⟨fun rest places x a b c rows => 0 ≤ x ∧ x ≤ gi N.1 3 ∧ rest = dropSaid (x + 1).toNat l ∧ [(gi (nextL l).1 0).At] ++ places = ((linesP l).take (x + 1).toNat).map (fun r => (gi r 0).1) ∧ (places.length : Int) = x ∧ x + 1 ≤ (linesP l).length ∧ (rows.length : Int) = x ∧ a = gi N.1 0 ∧ b = gi N.1 1 ∧ c = gi N.1 2 ∧ rowsGo (linesP l) e (gi N.1 3 - x).toNat (x + 1) rows = rowsN (linesP l) e,
    fun _ _ x _ _ _ _ => (gi N.1 3 - x).toNat, ⟨by omega, nb3.1, rfl, ?_, rfl, by omega, rfl, rfl, rfl, rfl, ?_⟩, ?_⟩
  · rw [hfirst, show ((0 : Int) + 1).toNat = 1 from rfl]
    have := take_gi (l := linesP l) (i := 0) (by omega) n4
    rw [show ((0 : Int) + 1).toNat = 1 from rfl] at this
    rw [this]; simp
  · unfold rowsN; rw [hNN]; simp
  rintro rest places x a b c rows ⟨h0, h1, h2, h3, h4, h5, h6, rfl, rfl, rfl, h7⟩
  have hrest : linesP rest = (linesP l).drop (x + 1).toNat := by rw [h2, drop_said]
  have hrg : ∀ r ∈ rest, goodP (pairsT r) := fun r hr => hg r ((drop_mem _ l).1 r (by rw [← h2]; exact hr))
  refine ⟨fun hx => ?_, fun hx => ?_⟩
  · have hx := of_decide_eq_true hx
    rintro _ rfl
    intro _ _
    have hr : objtext_Numbers (objtext_next rest).1 ([114, 111, 119] : Bs) (lo4, hi4).1 (lo4, hi4).2 e = numsAt (linesP l) (x + 1) wRow e := numsAt_next (by omega) hrest wRow e
    refine ⟨⟨good_next hrg, by decide, by decide, in4.1, in4.2⟩, ?_⟩
    rintro _ rfl
    intro _
    rw [hr]
    rw [show (gi N.1 3 - x).toNat = (gi N.1 3 - (x + 1)).toNat + 1 by omega, rowsGo_succ] at h7
    refine ⟨fun he => ?_, fun he => ?_⟩
    · have he : (numsAt (linesP l) (x + 1) wRow e).2.2 ≠ 0 := by simpa using he
      rw [if_pos he] at h7
      refine tk _ _ _ (?_ : takeAll (linesP l) e = (obj0, 0, _, _)) he
      rw [taB (by rw [hNN]; exact hN) (by rw [← h7]; exact he), ← h7]
    · have he : (numsAt (linesP l) (x + 1) wRow e).2.2 = 0 := by simpa using he
      rw [if_neg (by simpa using he)] at h7
      obtain ⟨m1, m2, m3, m4⟩ := numsAt_ok he
      have hrow : linesP rest = pairsT (nextL rest).1 :: linesP (nextL rest).2 ∧ (nextL rest).1 ≠ [] := by
        rcases nextL_spec rest with ⟨h1, _⟩ | ⟨h1, h2, _⟩
        · rw [h1] at hrest
          have := congrArg List.length hrest
          simp at this; omega
        · exact ⟨h1, h2⟩
      have hnl2 : 0 < (nextL rest).1.length := by
        cases hx : (nextL rest).1 with
        | nil => exact absurd hx hrow.2
        | cons _ _ => simp
      rw [m2, wrp (n := x + 1) (by omega) (by omega)]
      refine ⟨⟨by omega, by show (0 : Int) < (nextL rest).1.length; omega⟩, by simp; omega, by omega, by omega, by omega, by omega, by simp; omega, ⟨by omega, by omega, ?_, ?_, by simp; omega, by omega, by simp; omega, rfl, rfl, rfl, h7⟩, by first | omega | (dsimp only; omega)⟩
      · show (nextL rest).2 = _
        rw [show (x + 1 + 1).toNat = (x + 1).toNat + 1 by omega, drop_next, ← h2]
      · rw [← List.append_assoc, h3, take_gi (i := x + 1) (by omega) m4, List.map_append]
        congr 1
        rw [hrow.1, drop_gi (i := x + 1) (by omega) m4] at hrest
        rw [← (List.cons.inj hrest).1]
        show [(gi (nextL rest).1 0).At] = [(gi (pairsT (nextL rest).1) 0).1]
        rw [pairsT_gi (by omega) (by omega)]
  · have hx := of_decide_eq_false hx
    have hxe : x = gi N.1 3 := by omega
    rw [show (gi N.1 3 - x).toNat = 0 by omega] at h7
    have h7 : (rows, e, 0) = rowsN (linesP l) e := h7
    have hobj : objH N.1 (rowsN (linesP l) e).1 = ⟨gi N.1 0, gi N.1 1, gi N.1 2, rows⟩ := by rw [← h7]; rfl
    have hR : (rowsN (linesP l) e).2.2 = 0 := by rw [← h7]
    unfold VC17_J1
    have nb0 := nb 0 (by omega) (by omega)
    have nb1 := nb 1 (by omega) (by omega)
    refine ⟨⟨inR_of nb0.1 nb0.2, inR_of nb1.1 nb1.2⟩, ?_⟩
    rintro _ rfl
    refine ⟨fun hc => ?_, fun hc => ?_⟩
    · have hc : (object_Check ⟨gi N.1 0, gi N.1 1, gi N.1 2, rows⟩).2 ≠ 0 := by simpa using hc
      have hcr := check_range _ hc
      have hcr2 : (object_Check ⟨gi N.1 0, gi N.1 1, gi N.1 2, rows⟩).1 < rows.length := hcr.2
      rw [wrp (n := (object_Check ⟨gi N.1 0, gi N.1 1, gi N.1 2, rows⟩).1 + 1) (by omega) (by omega)]
      refine ⟨⟨by omega, by show (0 : Int) < (nextL l).1.length; omega⟩, by simp; omega, ⟨by omega, by simp; omega⟩, ?_⟩
      have hgl : gi ([(gi (nextL l).1 0).At] ++ places) ((object_Check ⟨gi N.1 0, gi N.1 1, gi N.1 2, rows⟩).1 + 1) = (gi (gi (linesP l) ((object_Check ⟨gi N.1 0, gi N.1 1, gi N.1 2, rows⟩).1 + 1)) 0).1 := by
        rw [h3, gi_map _ (by omega) (by rw [List.length_take]; omega), gi_take (by omega) (by omega) (by omega)]
      show (_, _, gi ([(gi (nextL l).1 0).At] ++ places) _, _) = _
      rw [hgl]
      refine tk _ _ _ (?_ : takeAll (linesP l) e = (obj0, 0, _, _)) hc
      rw [taC (by rw [hNN]; exact hN) hR (by rw [hNN, hobj]; exact hc), hNN, hobj]
    · have hc : (object_Check ⟨gi N.1 0, gi N.1 1, gi N.1 2, rows⟩).2 = 0 := by simpa using hc
      unfold objtext_Take
      rw [taD (by rw [hNN]; exact hN) hR (by rw [hNN, hobj]; exact hc), hNN, hobj, if_neg (by simp)]
      rw [h2, hxe]
theorem v21 (l : List (List Ref05_Token)) (e : Int) (hp : preRT l e) : VC21 l e (fun r => r = ref24_Take l e) := by
  intro hs
  obtain ⟨hl, hg⟩ := hp
  unfold ref24_Take
  have hLl : (l.map pairsR).length = l.length := by simp
  have hlg : ∀ i : Int, 0 ≤ i → i < l.length → 0 < (gi l i).length ∧ (gi (gi l i) 0).At = (gi (gi (l.map pairsR) i) 0).1 := by
    intro i i0 i1
    have hne := (hg _ (mem_gi i0 i1)).2
    have hpos : 0 < (gi l i).length := by
      cases hx : gi l i with
      | nil => exact absurd hx hne
      | cons _ _ => simp
    refine ⟨hpos, ?_⟩
    rw [gi_map _ i0 i1, pairsR_gi (by omega) (by omega)]
  have hline : ∀ i w, ref24_line l i w e = numsAt (l.map pairsR) i w e := fun _ _ => rfl
  generalize l.map pairsR = L at *
  refine ⟨⟨Int.le_refl _, fun r hr => (hg r hr).1⟩, ?_⟩
  rintro _ rfl
  intro _
  have hh : ref24_line l 0 ([111, 98, 106, 101, 99, 116] : Bs) e = headN L e := hline 0 wObject
  rw [hh]
  refine ⟨fun h => by rw [taA (by simpa using h)]; rfl, fun h => ?_⟩
  have hN : (headN L e).2.2 = 0 := by simpa using h
  obtain ⟨n1, n2, n3, n4⟩ := numsAt_ok hN
  have n2 : (headN L e).1.length = 4 := n2
  have nb := nums4 n2 n3
  have nb3 := nb 3 (by omega) (by omega)
  refine ⟨by rw [n2]; omega, by rw [n2]; omega, by rw [n2]; omega, ?_⟩
  generalize hNN : headN L e = N at *
  refine ⟨fun x a b c rows => 1 ≤ x ∧ x ≤ gi N.1 3 + 1 ∧ x ≤ L.length ∧ (rows.length : Int) + 1 = x ∧ a = gi N.1 0 ∧ b = gi N.1 1 ∧ c = gi N.1 2 ∧ rowsGo L e (gi N.1 3 + 1 - x).toNat x rows = rowsN L e,
    fun x _ _ _ _ => (gi N.1 3 + 1 - x).toNat, ⟨by omega, by omega, by omega, rfl, rfl, rfl, rfl, ?_⟩, ?_⟩
  · unfold rowsN; rw [hNN, show gi N.1 3 + 1 - 1 = gi N.1 3 by omega]
  rintro x a b c rows ⟨h0, h1, h2, h3, rfl, rfl, rfl, h7⟩
  refine ⟨by rw [n2]; omega, fun hx => ?_, fun hx => ?_⟩
  · have hx := of_decide_eq_true hx
    refine ⟨⟨by omega, fun r hr => (hg r hr).1⟩, ?_⟩
    rintro _ rfl
    intro _
    have hr : ref24_line l x ([114, 111, 119] : Bs) e = numsAt L x wRow e := hline x wRow
    rw [hr]
    rw [show (gi N.1 3 + 1 - x).toNat = (gi N.1 3 + 1 - (x + 1)).toNat + 1 by omega, rowsGo_succ] at h7
    refine ⟨fun he => ?_, fun he => ?_⟩
    · have he : (numsAt L x wRow e).2.2 ≠ 0 := by simpa using he
      rw [if_pos he] at h7
      rw [taB (by rw [hNN]; exact hN) (by rw [← h7]; exact he), ← h7]; rfl
    · have he : (numsAt L x wRow e).2.2 = 0 := by simpa using he
      rw [if_neg (by simpa using he)] at h7
      obtain ⟨m1, m2, m3, m4⟩ := numsAt_ok he
      rw [m2, wrp (n := x + 1) (by omega) (by omega)]
      exact ⟨by omega, by omega, by omega, by omega, by simp; omega, ⟨by omega, by omega, by omega, by simp; omega, rfl, rfl, rfl, h7⟩, by first | omega | (dsimp only; omega)⟩
  · have hx := of_decide_eq_false hx
    rw [show (gi N.1 3 + 1 - x).toNat = 0 by omega] at h7
    have h7 : (rows, e, 0) = rowsN L e := h7
    have hobj : objH N.1 (rowsN L e).1 = ⟨gi N.1 0, gi N.1 1, gi N.1 2, rows⟩ := by rw [← h7]; rfl
    have hR : (rowsN L e).2.2 = 0 := by rw [← h7]
    unfold VC21_J1
    rintro _ rfl
    unfold ref23_Check
    refine ⟨fun hc => ?_, fun hc => ?_⟩
    · have hc : (object_Check ⟨gi N.1 0, gi N.1 1, gi N.1 2, rows⟩).2 ≠ 0 := by simpa using hc
      have hcr := check_range _ hc
      have hcr2 : (object_Check ⟨gi N.1 0, gi N.1 1, gi N.1 2, rows⟩).1 < rows.length := hcr.2
      rw [wrp (n := (object_Check ⟨gi N.1 0, gi N.1 1, gi N.1 2, rows⟩).1 + 1) (by omega) (by omega)]
      obtain ⟨g1, g2⟩ := hlg ((object_Check ⟨gi N.1 0, gi N.1 1, gi N.1 2, rows⟩).1 + 1) (by omega) (by omega)
      refine ⟨⟨by omega, by omega⟩, fun _ => ⟨⟨by omega, by omega⟩, ?_⟩⟩
      rw [g2, taC (by rw [hNN]; exact hN) hR (by rw [hNN, hobj]; exact hc), hNN, hobj]; rfl
    · have hc : (object_Check ⟨gi N.1 0, gi N.1 1, gi N.1 2, rows⟩).2 = 0 := by simpa using hc
      rw [taD (by rw [hNN]; exact hN) hR (by rw [hNN, hobj]; exact hc), hNN, hobj, wrp (n := gi N.1 3 + 1) (by omega) (by omega)]
      exact ⟨by rw [n2]; omega, rfl⟩
end Go.Proofs.YtcjldfbgccmpkaaDoor
