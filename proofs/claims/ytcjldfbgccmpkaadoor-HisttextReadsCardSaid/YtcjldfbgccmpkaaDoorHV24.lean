/- Histories as text: what prints a case. -/
import Derived.Test.YtcjldfbgccmpkaaDoorHV23
set_option linter.all false
namespace Go.Proofs.YtcjldfbgccmpkaaDoor
open Go Go.Sv Go.Pu
theorem flat_len (sep : Bs) : ∀ l : List Bs, (∀ t ∈ l, t.length ≤ 10000) → sep.length ≤ 100 → (l.flatMap fun t => sep ++ t).length ≤ 10100 * l.length
  | [], _, _ => by simp
  | t :: l, h, hs => by
    have h1 := h t (by simp)
    have h2 := flat_len sep l (fun u hu => h u (by simp [hu])) hs
    rw [List.flatMap_cons, List.length_append, List.length_append, List.length_cons]
    omega
theorem join_len (l : List Bs) (sep : Bs) (h : ∀ t ∈ l, t.length ≤ 10000) (hs : sep.length ≤ 100) : (strings_Join l sep).length ≤ 10100 * l.length := by
  cases l with
  | nil => simp [strings_Join]
  | cons x r =>
    have h1 := h x (by simp)
    have h2 := flat_len sep r (fun u hu => h u (by simp [hu])) hs
    simp only [strings_Join, List.length_append, List.length_cons]
    omega
theorem v54 (l : List Bs) (sep : Bs) (hp : preJo l sep) : VC54 l sep (fun r => r = strings_Join l sep) := by
  intro hsm
  obtain ⟨p1, p2, p3, p4, p5⟩ := hp
  have w1 : IntKind.i64.wrap (((l.length : Nat) : Int) - 1) = (l.length : Int) - 1 := wrp (by omega) (by omega)
  have hd : (101 : Int) ≤ (9223372036854775807 : Int).tdiv ((l.length : Int) - 1) ∧ (9223372036854775807 : Int).tdiv ((l.length : Int) - 1) ≤ 9223372036854775807 := by
    rw [Int.tdiv_eq_ediv_of_nonneg (by decide)]
    exact ⟨Int.le_ediv_of_mul_le (by omega) (by omega), Int.ediv_le_self _ (by decide)⟩
  have hJ : ∀ n : Int, 0 ≤ n → n ≤ 10000 → VC54_J1 l sep (fun r => r = strings_Join l sep) n := by
    intro n n0 n1
    unfold VC54_J1 VC54_J2 VC54_J3
    refine ⟨fun n x => 0 ≤ x ∧ x ≤ l.length ∧ 0 ≤ n ∧ n ≤ 10000 + 10000 * x, fun _ x => (l.length - x).toNat, ⟨by omega, by omega, n0, by omega⟩, ?_⟩
    rintro n x ⟨h0, h1, h2, h3⟩
    refine ⟨fun hx => ?_, fun hx => ?_⟩
    · have hx := of_decide_eq_true hx
      have ht := p3 _ (mem_gi h0 hx)
      rw [wrp (n := 9223372036854775807 - n) (by omega) (by omega), wrp (n := x + 1) (by omega) (by omega), wrp (n := n + (((gi l x).length : Nat) : Int)) (by omega) (by omega)]
      exact ⟨⟨h0, hx⟩, fun hc => by have := of_decide_eq_true hc; omega, fun _ => ⟨⟨by omega, by omega, by omega, by omega⟩, by first | omega | (dsimp only; omega)⟩⟩
    · have hx := of_decide_eq_false hx
      have ht := p3 _ (mem_gi (i := 0) (by omega) (by omega))
      have hdl : (l.drop (1 : Int).toNat).length = l.length - 1 := by simp
      refine ⟨⟨h2, by omega⟩, ⟨by omega, by omega⟩, by simp; omega, ⟨by omega, by omega⟩, ?_⟩
      refine ⟨fun b x => 0 ≤ x ∧ x ≤ (l.drop (1 : Int).toNat).length ∧ b = gi l 0 ++ ((l.drop (1 : Int).toNat).take x.toNat).flatMap (fun t => sep ++ t), fun _ x => ((l.drop (1 : Int).toNat).length - x).toNat, ⟨by omega, by omega, by simp⟩, ?_⟩
      rintro b y ⟨y0, y1, y2⟩
      have hfl := flat_len sep ((l.drop (1 : Int).toNat).take y.toNat) (fun t ht => p3 t (List.mem_of_mem_drop (List.mem_of_mem_take ht))) p4
      have hbl : b.length ≤ 10000 + 10100 * 100 := by
        rw [y2, List.length_append]
        rw [List.length_take] at hfl
        omega
      refine ⟨fun hy => ?_, fun hy => ?_⟩
      · have hy := of_decide_eq_true hy
        have ht2 := p3 _ (List.mem_of_mem_drop (mem_gi (l := l.drop (1 : Int).toNat) y0 hy))
        rw [wrp (n := y + 1) (by omega) (by omega)]
        refine ⟨⟨y0, hy⟩, by omega, by simp only [List.length_append]; omega, ⟨by omega, by omega, ?_⟩, by first | omega | (dsimp only; omega)⟩
        rw [take_gi y0 hy, List.flatMap_append, y2]
        simp
      · have hy := of_decide_eq_false hy
        rw [List.take_of_length_le (by omega)] at y2
        show b = strings_Join l sep
        rw [y2]
        cases l with
        | nil => simp at p1
        | cons u r => rfl
  refine ⟨fun h => absurd h (by simp; intro hq; rw [hq] at p1; simp at p1), fun _ => ⟨fun h => absurd h (by simp; omega), fun _ => ⟨fun _ => ⟨by rw [w1]; omega, fun hc => ?_, fun _ => ?_⟩, fun hc => ?_⟩⟩⟩
  · have hc := of_decide_eq_true hc
    rw [w1, wrp (by omega) (by omega)] at hc
    omega
  · have hm := mulb (a := (sep.length : Int)) (b := (l.length : Int) - 1) (A := 100) (B := 99) (by omega) (by omega) (by omega) (by omega)
    rw [w1, wrp (n := ((sep.length : Nat) : Int) * ((l.length : Int) - 1)) (by omega) (by omega), wrp (by omega) (by omega)]
    exact hJ _ (by omega) (by omega)
  · have hc := of_decide_eq_false hc
    omega
theorem v27 (l : List Bs) (hp : preLi l) : VC27 l (fun r => r = histtext_line l) := by
  intro _
  obtain ⟨p1, p2, p3⟩ := hp
  refine ⟨⟨p1, p2, p3, by decide, by decide⟩, ?_⟩
  rintro _ rfl
  have := join_len l [32] p3 (by decide)
  refine ⟨?_, rfl⟩
  rw [List.length_singleton]; omega
theorem evGo_ok (l : List Api_Event) : ∀ (f : Nat) (i : Int), (evGo l f i).2 = 0 → ∀ j : Int, i ≤ j → j < i + f → evE (gi l j) = 0 ∧ ((lastW (l.take j.toNat) (gi l j).Prc == 1) == ((gi l j).What == 1)) = false
  | 0, i, _, j, h0, h1 => by omega
  | f + 1, i, h, j, h0, h1 => by
    rw [evGo_succ] at h
    by_cases h2 : evE (gi l i) ≠ 0
    · rw [if_pos h2] at h; exact absurd h h2
    rw [if_neg h2] at h
    by_cases h3 : ((lastW (l.take i.toNat) (gi l i).Prc == 1) == ((gi l i).What == 1)) = true
    · rw [if_pos h3] at h; exact absurd h (by simp)
    rw [if_neg h3] at h
    by_cases hj : j = i
    · subst hj
      exact ⟨by omega, by simpa using h3⟩
    · exact evGo_ok l f (i + 1) h j (by omega) (by omega)
theorem evs_ok {l : List Api_Event} (h : (event_Check l).2 = 0) : l.length ≤ 10000 ∧ ∀ j : Int, 0 ≤ j → j < l.length → evE (gi l j) = 0 ∧ ((lastW (l.take j.toNat) (gi l j).Prc == 1) == ((gi l j).What == 1)) = false := by
  unfold event_Check at h
  by_cases hl : l.length > 10000
  · rw [if_pos hl] at h; exact absurd h (by decide)
  rw [if_neg hl] at h
  exact ⟨by omega, fun j h0 h1 => evGo_ok l l.length 0 h j h0 (by omega)⟩
theorem evE_ok {x : Api_Event} (h : evE x = 0) : (x.What = 1 ∨ x.What = 2) ∧ 1 ≤ x.Prc ∧ x.Prc ≤ 1000 ∧ 0 ≤ x.N ∧ x.N ≤ 1000000 := by
  unfold evE at h
  split at h
  · exact absurd h (by decide)
  rename_i h1
  split at h
  · exact absurd h (by decide)
  rename_i h2
  split at h
  · exact absurd h (by decide)
  rename_i h3
  split at h
  · exact absurd h (by decide)
  rename_i h4
  omega
theorem case_ok {o : Api_Object} {l : List Api_Event} (h : caseE o l = 0) : (object_Check o).2 = 0 ∧ (event_Check l).2 = 0 ∧ kindsGo l ≤ o.Kinds := by
  unfold caseE at h
  split at h
  · rename_i h1; exact absurd h h1
  rename_i h1
  split at h
  · rename_i h2; exact absurd h h2
  rename_i h2
  split at h
  · exact absurd h (by decide)
  rename_i h3
  exact ⟨by omega, by omega, by omega⟩
theorem ev_line (x : Api_Event) : histtext_line [if x.What = 1 then wCall else wRet, Lib.itoa x.Prc, Lib.itoa x.N] = joinRow (evB x) ++ [10] := by
  unfold histtext_line evB wordsB
  simp [strings_Join, joinRow]
theorem evB_len {x : Api_Event} (h : evE x = 0) : (joinRow (evB x)).length ≤ 60 := by
  obtain ⟨_, h1, h2, h3, h4⟩ := evE_ok h
  have := joinRow_wlen (if x.What = 1 then wCall else wRet) [x.Prc, x.N] (fun y hy => by
    simp only [List.mem_cons, List.not_mem_nil, or_false] at hy
    rcases hy with rfl | rfl
    · exact inR_k (by omega) (by omega)
    · exact inR_k (by omega) (by omega))
  have hw : (if x.What = 1 then wCall else wRet).length ≤ 4 := by split <;> decide
  simp only [List.length_cons, List.length_nil] at this
  unfold evB
  omega
theorem evs_len : ∀ l : List Api_Event, (∀ x ∈ l, evE x = 0) → (joinAll (l.map evB)).length ≤ 61 * l.length
  | [], _ => by simp [joinAll]
  | x :: l, h => by
    have h1 := evB_len (h x (by simp))
    have h2 := evs_len l (fun y hy => h y (by simp [hy]))
    rw [List.map_cons, show evB x :: l.map evB = [evB x] ++ l.map evB from rfl, joinAll_app, joinAll_one]
    simp only [List.length_append, List.length_cons, List.length_nil]
    omega
theorem textH_len {o : Api_Object} {l : List Api_Event} (hr : o.Rows.length ≤ 90000) (h : caseE o l = 0) : (joinAll (textH o l)).length ≤ 100 * (o.Rows.length + 1) + 61 * l.length := by
  obtain ⟨h1, h2, h3⟩ := case_ok h
  obtain ⟨k1, k2, k3⟩ := check_ok h1
  have hh := head_in k1 hr
  have ha := text_len hh o.Rows (fun r hr => okRow_in (k3 r hr))
  have hb := evs_len l (fun x hx => by
    obtain ⟨j, hj, rfl⟩ := List.mem_iff_getElem.1 hx
    have := ((evs_ok h2).2 (j : Int) (by omega) (by omega)).1
    rwa [gi_nat _ _ hj] at this)
  unfold textH
  rw [joinAll_app, List.length_append]
  have : joinAll (textP o o.Rows) = joinAll (textB o) := rfl
  rw [← this]
  omega
theorem ev_in {x : Api_Event} (h : evE x = 0) : inR .i64 x.Prc ∧ inR .i64 x.N := by
  obtain ⟨_, h1, h2, h3, h4⟩ := evE_ok h
  exact ⟨inR_k (by omega) (by omega), inR_k (by omega) (by omega)⟩
theorem textH_snoc (o : Api_Object) (l : List Api_Event) (x : Api_Event) : joinAll (textB o ++ (l ++ [x]).map evB) = joinAll (textB o ++ l.map evB) ++ (joinRow (evB x) ++ [10]) := by
  rw [List.map_append, ← List.append_assoc, joinAll_app]
  congr 1
  exact joinAll_one _
theorem v12 (c : Histtext_Case) (hp : preHp c) : VC12 c (fun r => r = histtext_Print c) := by
  intro _ hsm
  simp only [sm] at hsm
  obtain ⟨⟨hr, hk⟩, hev⟩ := hp
  refine ⟨hk, ?_⟩
  rintro _ rfl
  unfold histtext_Check histtext_Print printH
  refine ⟨fun h => by rw [if_pos (by simpa using h)], fun h => ?_⟩
  have hc : caseE c.Object c.Events = 0 := by simpa using h
  rw [if_neg (by simpa using hc)]
  obtain ⟨h1, h2, h3⟩ := case_ok hc
  refine ⟨⟨hr, hk⟩, ?_⟩
  rintro _ rfl
  have hpr : objtext_Print c.Object = (joinAll (textB c.Object), 0) := by
    unfold objtext_Print printOf
    rw [if_neg (by simpa using h1)]
  rw [hpr]
  obtain ⟨k1, k2, k3⟩ := check_ok h1
  have hh := head_in k1 hr
  have ha : (joinAll (textB c.Object)).length ≤ _ := text_len hh c.Object.Rows (fun r hr => okRow_in (k3 r hr))
  refine ⟨by simp; omega, ?_⟩
  unfold VC12_J1 VC12_J2
  refine ⟨fun b x => 0 ≤ x ∧ x ≤ c.Events.length ∧ b = joinAll (textB c.Object ++ (c.Events.take x.toNat).map evB), fun _ x => (c.Events.length - x).toNat, ⟨by omega, by omega, by simp⟩, ?_⟩
  rintro b x ⟨h0, hx1, hb⟩
  have hev2 : ∀ y ∈ c.Events, evE y = 0 := fun y hy => by
    obtain ⟨j, hj, rfl⟩ := List.mem_iff_getElem.1 hy
    have := ((evs_ok h2).2 (j : Int) (by omega) (by omega)).1
    rwa [gi_nat _ _ hj] at this
  have hbl : b.length ≤ 100 * (c.Object.Rows.length + 1) + 61 * c.Events.length := by
    have := evs_len (c.Events.take x.toNat) (fun y hy => hev2 y (List.mem_of_mem_take hy))
    rw [hb, joinAll_app, List.length_append]
    rw [List.length_take] at this
    omega
  refine ⟨fun hx => ?_, fun hx => ?_⟩
  · have hx := of_decide_eq_true hx
    have he := hev2 _ (mem_gi h0 hx)
    obtain ⟨i1, i2⟩ := ev_in he
    have l1 := itoa_len i1
    have l2 := itoa_len i2
    have hbx := evB_len he
    have hn : joinAll (textB c.Object ++ (c.Events.take (x + 1).toNat).map evB) = b ++ (joinRow (evB (gi c.Events x)) ++ [10]) := by rw [take_gi h0 hx, textH_snoc, ← hb]
    have hl := ev_line (gi c.Events x)
    rw [wrp (n := x + 1) (by omega) (by omega)]
    refine ⟨⟨h0, hx⟩, fun hw => ?_, fun hw => ?_⟩
    · have hw : (gi c.Events x).What = 1 := by simpa using hw
      rw [if_pos hw] at hl
      refine ⟨i1, ?_⟩
      rintro _ rfl
      refine ⟨i2, ?_⟩
      rintro _ rfl
      refine ⟨⟨by show 2 ≤ 3; decide, by show 3 ≤ 100; decide, fun t ht => ?_⟩, ?_⟩
      · simp only [List.mem_cons, List.not_mem_nil, or_false] at ht
        rcases ht with rfl | rfl | rfl
        · decide
        · show (Lib.itoa _).length ≤ _; omega
        · show (Lib.itoa _).length ≤ _; omega
      · rintro _ rfl
        have hl : histtext_line [[99, 97, 108, 108], token_Digits (gi c.Events x).Prc, token_Digits (gi c.Events x).N] = joinRow (evB (gi c.Events x)) ++ [10] := hl
        rw [hl]
        exact ⟨by simp only [List.length_append, List.length_singleton]; omega, ⟨by omega, by omega, hn.symm⟩, by first | omega | (dsimp only; omega)⟩
    · have hw : (gi c.Events x).What ≠ 1 := by simpa using hw
      rw [if_neg hw] at hl
      refine ⟨i1, ?_⟩
      rintro _ rfl
      refine ⟨i2, ?_⟩
      rintro _ rfl
      refine ⟨⟨by show 2 ≤ 3; decide, by show 3 ≤ 100; decide, fun t ht => ?_⟩, ?_⟩
      · simp only [List.mem_cons, List.not_mem_nil, or_false] at ht
        rcases ht with rfl | rfl | rfl
        · decide
        · show (Lib.itoa _).length ≤ _; omega
        · show (Lib.itoa _).length ≤ _; omega
      · rintro _ rfl
        have hl : histtext_line [[114, 101, 116], token_Digits (gi c.Events x).Prc, token_Digits (gi c.Events x).N] = joinRow (evB (gi c.Events x)) ++ [10] := hl
        rw [hl]
        exact ⟨by simp only [List.length_append, List.length_singleton]; omega, ⟨by omega, by omega, hn.symm⟩, by first | omega | (dsimp only; omega)⟩
  · have hx := of_decide_eq_false hx
    rw [show x.toNat = c.Events.length by omega, List.take_length] at hb
    rw [hb]; rfl
theorem v13 (o : Api_Object) (l : List Api_Event) (hp : preRp o l) : VC13 o l (fun r => r = ref26_Print o l) := by
  intro _ hsm
  simp only [sm] at hsm
  obtain ⟨⟨hr, hk⟩, hev⟩ := hp
  rintro _ rfl
  unfold ref26_Check ref26_Print printH
  refine ⟨fun h => by rw [if_pos (by simpa using h)], fun h => ?_⟩
  have hc : caseE o l = 0 := by simpa using h
  rw [if_neg (by simpa using hc)]
  obtain ⟨h1, h2, h3⟩ := case_ok hc
  refine ⟨⟨hr, hk⟩, ?_⟩
  rintro _ rfl
  have hpr : ref24_Print o = (joinAll (textB o), 0) := by
    unfold ref24_Print printOf
    rw [if_neg (by simpa using h1)]
  rw [hpr]
  obtain ⟨k1, k2, k3⟩ := check_ok h1
  have hh := head_in k1 hr
  have ha : (joinAll (textB o)).length ≤ _ := text_len hh o.Rows (fun r hr => okRow_in (k3 r hr))
  unfold VC13_J1 VC13_J2
  refine ⟨fun b x => 0 ≤ x ∧ x ≤ l.length ∧ b = joinAll (textB o ++ (l.take x.toNat).map evB), fun _ x => (l.length - x).toNat, ⟨by omega, by omega, by simp⟩, ?_⟩
  rintro b x ⟨h0, hx1, hb⟩
  have hev2 : ∀ y ∈ l, evE y = 0 := fun y hy => by
    obtain ⟨j, hj, rfl⟩ := List.mem_iff_getElem.1 hy
    have := ((evs_ok h2).2 (j : Int) (by omega) (by omega)).1
    rwa [gi_nat _ _ hj] at this
  have hbl : b.length ≤ 100 * (o.Rows.length + 1) + 61 * l.length := by
    have := evs_len (l.take x.toNat) (fun y hy => hev2 y (List.mem_of_mem_take hy))
    rw [hb, joinAll_app, List.length_append]
    rw [List.length_take] at this
    omega
  refine ⟨fun hx => ?_, fun hx => ?_⟩
  · have hx := of_decide_eq_true hx
    have he := hev2 _ (mem_gi h0 hx)
    obtain ⟨i1, i2⟩ := ev_in he
    have hbx := evB_len he
    have hn : joinAll (textB o ++ (l.take (x + 1).toNat).map evB) = b ++ (joinRow (evB (gi l x)) ++ [10]) := by rw [take_gi h0 hx, textH_snoc, ← hb]
    have hin : ∀ y ∈ [(gi l x).Prc, (gi l x).N], inR .i64 y := fun y hy => by
      simp only [List.mem_cons, List.not_mem_nil, or_false] at hy
      rcases hy with rfl | rfl
      · exact i1
      · exact i2
    rw [wrp (n := x + 1) (by omega) (by omega)]
    refine ⟨⟨h0, hx⟩, fun hw => ?_, fun hw => ?_⟩
    · have hw : (gi l x).What = 1 := by simpa using hw
      refine ⟨⟨h0, hx⟩, ⟨h0, hx⟩, ⟨by decide, by show 2 ≤ 1000; decide, hin⟩, ?_⟩
      rintro _ rfl
      have hl : ref24_Words [99, 97, 108, 108] [(gi l x).Prc, (gi l x).N] = joinRow (evB (gi l x)) ++ [10] := by unfold ref24_Words evB; rw [if_pos hw]; rfl
      rw [hl]
      exact ⟨by simp only [List.length_append, List.length_singleton]; omega, ⟨by omega, by omega, hn.symm⟩, by first | omega | (dsimp only; omega)⟩
    · have hw : (gi l x).What ≠ 1 := by simpa using hw
      refine ⟨⟨h0, hx⟩, ⟨h0, hx⟩, ⟨by decide, by show 2 ≤ 1000; decide, hin⟩, ?_⟩
      rintro _ rfl
      have hl : ref24_Words [114, 101, 116] [(gi l x).Prc, (gi l x).N] = joinRow (evB (gi l x)) ++ [10] := by unfold ref24_Words evB; rw [if_neg hw]; rfl
      rw [hl]
      exact ⟨by simp only [List.length_append, List.length_singleton]; omega, ⟨by omega, by omega, hn.symm⟩, by first | omega | (dsimp only; omega)⟩
  · have hx := of_decide_eq_false hx
    rw [show x.toNat = l.length by omega, List.take_length] at hb
    rw [hb]; rfl
theorem v10 (c : Histtext_Case) (o : Api_Object) (l : List Api_Event) : VC10 c o l (fun r => r = law26_same c o l) := by
  intro _ _ _ _
  rintro _ rfl
  unfold law26_same ref23_Same
  refine ⟨fun h => ?_, fun h => ?_⟩
  · rintro _ rfl
    rw [h]; rfl
  · rw [h]; rfl
end Go.Proofs.YtcjldfbgccmpkaaDoor
