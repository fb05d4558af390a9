/- Histories: open operations, whether two are the same, whether a case may be. -/
import Derived.Test.YtcjldfbgccmpkaaDoorHV20
set_option linter.all false
namespace Go.Proofs.YtcjldfbgccmpkaaDoor
open Go Go.Sv Go.Pu
theorem ins_at (p : Int) : ∀ (out : List Int) (k : Nat), (∀ q ∈ out.take k, q < p) → (∀ q, out[k]? = some q → ¬ q < p) → out.takeWhile (fun q => decide (q < p)) = out.take k ∧ out.dropWhile (fun q => decide (q < p)) = out.drop k
  | [], k, _, _ => by simp
  | x :: out, 0, _, h2 => by
    have := h2 x rfl
    simp [this]
  | x :: out, k + 1, h1, h2 => by
    have hx : x < p := h1 x (by simp)
    obtain ⟨e1, e2⟩ := ins_at p out k (fun q hq => h1 q (by simp [hq])) (fun q hq => h2 q (by simpa using hq))
    simp [hx, e1, e2]
theorem insP_len (out : List Int) (p : Int) : (insP out p).length = out.length + 1 := by
  unfold insP
  rw [List.length_append, List.length_cons]
  have := congrArg List.length (List.takeWhile_append_dropWhile (p := fun q => decide (q < p)) (l := out))
  rw [List.length_append] at this
  omega
theorem insP_mem (out : List Int) (p q : Int) : q ∈ insP out p ↔ q = p ∨ q ∈ out := by
  unfold insP
  have h : q ∈ out ↔ q ∈ out.takeWhile (fun q => decide (q < p)) ∨ q ∈ out.dropWhile (fun q => decide (q < p)) := by
    rw [← List.mem_append, List.takeWhile_append_dropWhile]
  rw [h, List.mem_append, List.mem_cons]
  constructor
  · rintro (h | h | h)
    · exact .inr (.inl h)
    · exact .inl h
    · exact .inr (.inr h)
  · rintro (h | h | h)
    · exact .inr (.inl h)
    · exact .inl h
    · exact .inr (.inr h)
theorem openGo_len (l : List Api_Event) : ∀ n : Nat, (openGo l n).length ≤ n
  | 0 => Nat.le_refl _
  | n + 1 => by
    have := openGo_len l n
    simp only [openGo]
    split
    · rw [insP_len]; omega
    · omega
theorem v48 (l : List Api_Event) (hp : preOp l) : VC48 l (fun r => r = ref25_Open l) := by
  intro hsm
  simp only [sm] at hsm
  unfold preOp at hp
  unfold VC48_J1 VC48_J3 VC48_J5 VC48_J4 VC48_J2 ref25_Open
  refine ⟨fun out i => 0 ≤ i ∧ i ≤ l.length ∧ out = openGo l i.toNat, fun _ i => (l.length - i).toNat, ⟨by omega, by omega, rfl⟩, ?_⟩
  rintro out i ⟨h0, h1, h2⟩
  refine ⟨fun hi => ?_, fun hi => ?_⟩
  · have hi := of_decide_eq_true hi
    have hs : openGo l (i + 1).toNat = if (gi l i).What = 1 ∧ ref25_last l (gi l i).Prc = i then insP (openGo l i.toNat) (gi l i).Prc else openGo l i.toNat := by
      rw [show (i + 1).toNat = i.toNat + 1 by omega]
      show (if (gi l ((i.toNat : Nat) : Int)).What = 1 ∧ ref25_last l (gi l ((i.toNat : Nat) : Int)).Prc = ((i.toNat : Nat) : Int) then _ else _) = _
      rw [show ((i.toNat : Nat) : Int) = i by omega]
    rw [← h2] at hs
    have hlen := openGo_len l i.toNat
    rw [← h2] at hlen
    have go : ∀ o, o = openGo l (i + 1).toNat → (0 ≤ i + 1 ∧ i + 1 ≤ l.length ∧ o = openGo l (i + 1).toNat) ∧ (l.length - (i + 1)).toNat < (l.length - i).toNat := fun o ho => ⟨⟨by omega, by omega, ho⟩, by omega⟩
    rw [wrp (n := i + 1) (by omega) (by omega)]
    have skip : ¬ ((gi l i).What = 1 ∧ ref25_last l (gi l i).Prc = i) → (0 ≤ i + 1 ∧ i + 1 ≤ l.length ∧ out = openGo l (i + 1).toNat) ∧ (l.length - (i + 1)).toNat < (l.length - i).toNat := fun h => go out (by rw [hs, if_neg h])
    refine ⟨⟨h0, hi⟩, ⟨h0, hi⟩, fun hw => ⟨fun _ => skip (fun h => ?_), fun h => absurd h (by simp)⟩, fun hw => ?_⟩
    · have hw : (gi l i).What ≠ 1 := by simpa using hw
      exact hw h.1
    · have hw : (gi l i).What = 1 := by simpa using hw
      rintro _ rfl
      refine ⟨fun hl => skip (fun h => ?_), fun hl => ?_⟩
      · have hl : ref25_last l (gi l i).Prc ≠ i := by simpa using hl
        exact hl h.2
      · have hl : ref25_last l (gi l i).Prc = i := by simpa using hl
        rw [if_pos ⟨hw, hl⟩] at hs
        refine ⟨fun o k => o = out ∧ 0 ≤ k ∧ k ≤ out.length ∧ ∀ q ∈ out.take k.toNat, q < (gi l i).Prc, fun _ k => (out.length - k).toNat, ⟨rfl, by omega, by omega, by simp⟩, ?_⟩
        rintro o k ⟨ho, k0, k1, k2⟩
        rw [ho]
        have hfin : (∀ q, out[k.toNat]? = some q → ¬ q < (gi l i).Prc) → _ := fun hq => ins_at (gi l i).Prc out k.toNat k2 hq
        have tk : (out.take k.toNat).length ≤ out.length := by rw [List.length_take]; omega
        have dk : (out.drop k.toNat).length ≤ out.length := by rw [List.length_drop]; omega
        have last : (∀ q, out[k.toNat]? = some q → ¬ q < (gi l i).Prc) → insP out (gi l i).Prc = ((([] : List Int) ++ (out.take k.toNat)) ++ [(gi l i).Prc]) ++ (out.drop k.toNat) := fun hq => by
          obtain ⟨e1, e2⟩ := hfin hq
          unfold insP
          rw [e1, e2]; simp
        refine ⟨fun hk => ?_, fun hk => ?_⟩
        · have hk := of_decide_eq_true hk
          rw [wrp (n := k + 1) (by omega) (by omega)]
          refine ⟨⟨k0, hk⟩, fun hq => ⟨⟨rfl, by omega, by omega, ?_⟩, by first | omega | (dsimp only; omega)⟩, fun hq => ?_⟩
          · intro q hm
            rw [take_gi k0 hk, List.mem_append, List.mem_singleton] at hm
            rcases hm with hm | hm
            · exact k2 q hm
            · rw [hm]; exact of_decide_eq_true hq
          · refine ⟨⟨k0, k1⟩, ⟨k0, k1⟩, by simp; omega, by simp; omega, by simp; omega, go _ ?_⟩
            rw [hs, last]
            intro q hq2
            have hq := of_decide_eq_false hq
            rw [gi_cast k0 hk] at hq
            rw [List.getElem?_eq_getElem (by omega)] at hq2
            rw [← Option.some.inj hq2]; exact hq
        · have hk := of_decide_eq_false hk
          refine ⟨fun h => absurd h (by simp), fun _ => ⟨⟨k0, k1⟩, ⟨k0, k1⟩, by simp; omega, by simp; omega, by simp; omega, go _ ?_⟩⟩
          rw [hs, last]
          intro q hq2
          rw [List.getElem?_eq_none (by omega)] at hq2
          cases hq2
  · have hi := of_decide_eq_false hi
    rw [h2, show i.toNat = l.length by omega]
theorem openGo_mem (l : List Api_Event) (q : Int) : ∀ n : Nat, q ∈ openGo l n ↔ ∃ i : Nat, i < n ∧ (gi l (i : Int)).What = 1 ∧ (gi l (i : Int)).Prc = q ∧ ref25_last l q = (i : Int)
  | 0 => by
    simp only [openGo]
    exact ⟨fun h => absurd h List.not_mem_nil, fun ⟨i, h, _⟩ => absurd h (by omega)⟩
  | n + 1 => by
    have ih := openGo_mem l q n
    simp only [openGo]
    split
    · rename_i hc
      rw [insP_mem, ih]
      constructor
      · rintro (rfl | ⟨i, h1, h2⟩)
        · exact ⟨n, by omega, hc.1, rfl, hc.2⟩
        · exact ⟨i, by omega, h2⟩
      · rintro ⟨i, h1, h2, h3, h4⟩
        by_cases hn : i = n
        · subst hn
          exact .inl h3.symm
        · exact .inr ⟨i, by omega, h2, h3, h4⟩
    · rename_i hc
      rw [ih]
      constructor
      · rintro ⟨i, h1, h2⟩
        exact ⟨i, by omega, h2⟩
      · rintro ⟨i, h1, h2, h3, h4⟩
        by_cases hn : i = n
        · subst hn
          exact absurd ⟨h2, by rw [h3]; exact h4⟩ hc
        · exact ⟨i, by omega, h2, h3, h4⟩
theorem open_mem (l : List Api_Event) (q : Int) : q ∈ ref25_Open l ↔ lastW l q = 1 := by
  unfold ref25_Open
  rw [openGo_mem]
  have hs := lastGo_spec l q l.length (Nat.le_refl _)
  rw [List.take_length] at hs
  show (∃ i : Nat, i < l.length ∧ (gi l (i : Int)).What = 1 ∧ (gi l (i : Int)).Prc = q ∧ lastGo l q l.length = (i : Int)) ↔ _
  rcases hs with ⟨h1, h2⟩ | ⟨h1, h2, h3, h4⟩
  · rw [h1, h2]
    exact ⟨fun ⟨i, _, _, _, h⟩ => absurd h (by omega), fun h => absurd h (by decide)⟩
  · rw [h4]
    constructor
    · rintro ⟨i, _, k2, _, k4⟩
      rw [k4]; exact k2
    · intro h
      refine ⟨(lastGo l q l.length).toNat, by omega, ?_⟩
      rw [show (((lastGo l q l.length).toNat : Nat) : Int) = lastGo l q l.length by omega]
      exact ⟨h, h3, rfl⟩
theorem has_open (l : List Api_Event) (q : Int) : ref01_Has (ref25_Open l) q = listB l q := by
  unfold ref01_Has listB
  rw [Bool.eq_iff_iff, decide_eq_true_eq, open_mem]
  simp
theorem v47 (l : List Int) (n : Int) : VC47 l n (fun r => r = ref01_Has l n) := by
  intro hsm
  simp only [sm] at hsm
  unfold VC47_J1 ref01_Has
  refine ⟨fun i => 0 ≤ i ∧ i ≤ l.length ∧ n ∉ l.take i.toNat, fun i => (l.length - i).toNat, ⟨by omega, by omega, by simp⟩, ?_⟩
  rintro i ⟨h0, h1, h2⟩
  refine ⟨fun hi => ?_, fun hi => ?_⟩
  · have hi := of_decide_eq_true hi
    rw [wrp (n := i + 1) (by omega) (by omega)]
    refine ⟨⟨h0, hi⟩, fun he => ?_, fun he => ⟨⟨by omega, by omega, ?_⟩, by first | omega | (dsimp only; omega)⟩⟩
    · have he : gi l i = n := by simpa using he
      show true = decide (n ∈ l)
      rw [eq_comm, decide_eq_true_eq, ← he]
      exact mem_gi h0 hi
    · have he : gi l i ≠ n := by simpa using he
      rw [take_gi h0 hi, List.mem_append, List.mem_singleton]
      rintro (h | h)
      · exact h2 h
      · exact he h.symm
  · have hi := of_decide_eq_false hi
    rw [show i.toNat = l.length by omega, List.take_length] at h2
    show false = decide (n ∈ l)
    rw [eq_comm, decide_eq_false_iff_not]; exact h2
theorem ev_eq (x y : Api_Event) : (!(((x.What) == (y.What)) && ((x.Prc) == (y.Prc) && ((x.N) == (y.N) && true)))) = !decide (x = y) := by
  cases x; cases y
  congr 1
  rw [Bool.eq_iff_iff]
  simp
theorem v24 (a b : List Api_Event) : VC24 a b (fun r => r = ref25_Same a b) := by
  unfold VC24
  intro ha hb
  simp only [sm] at ha hb
  have no : a ≠ b → false = ref25_Same a b := fun h => by simp [ref25_Same, h]
  refine ⟨fun h => no (by rintro rfl; simp at h), fun h => ?_⟩
  have hl : a.length = b.length := by simp at h; omega
  unfold VC24_J1
  refine ⟨fun i => 0 ≤ i ∧ i ≤ a.length ∧ ∀ j : Int, 0 ≤ j → j < i → gi a j = gi b j, fun i => (a.length - i).toNat, ⟨by omega, by omega, fun j h0 h1 => by omega⟩, ?_⟩
  rintro i ⟨h0, h1, h2⟩
  refine ⟨fun hi => ?_, fun hi => ?_⟩
  · have hi := of_decide_eq_true hi
    refine ⟨⟨h0, hi⟩, ⟨h0, by omega⟩, ?_⟩
    rw [ev_eq, wrp (n := i + 1) (by omega) (by omega)]
    refine ⟨fun hne => no (by rintro rfl; simp at hne), fun he => ⟨⟨by omega, by omega, fun j j0 j1 => ?_⟩, by first | omega | (dsimp only; omega)⟩⟩
    by_cases hj : j < i
    · exact h2 j j0 hj
    · rw [show j = i by omega]; simpa using he
  · have hi := of_decide_eq_false hi
    have : a = b := gi_ext hl (fun j j0 j1 => h2 j j0 (by omega))
    simp [ref25_Same, this]
theorem v14 (c : Histtext_Case) (hp : preHc c) : VC14 c (fun r => r = histtext_Check c) := by
  intro _ _
  refine ⟨hp, ?_⟩
  rintro _ rfl
  unfold histtext_Check caseE
  refine ⟨fun h => by rw [if_pos (by simpa using h)], fun h => ?_⟩
  rw [if_neg (by simpa using h)]
  rintro _ rfl
  refine ⟨fun h => by rw [if_pos (by simpa using h)], fun h => ?_⟩
  rw [if_neg (by simpa using h)]
  rintro _ rfl
  exact ⟨fun h => by rw [if_pos (show kindsGo _ > _ from of_decide_eq_true h)], fun h => by rw [if_neg (show ¬ kindsGo _ > _ from of_decide_eq_false h)]⟩
theorem v15 (o : Api_Object) (l : List Api_Event) : VC15 o l (fun r => r = ref26_Check o l) := by
  intro _ _
  rintro _ rfl
  unfold VC15_J1 ref26_Check caseE ref23_Check
  refine ⟨fun h => by rw [if_pos (by simpa using h)], fun h => ?_⟩
  rw [if_neg (by simpa using h)]
  rintro _ rfl
  unfold ref25_Check
  refine ⟨fun h => ?_, fun h => ?_⟩
  · have h : (event_Check l).2 = 0 := by simpa using h
    rw [if_neg (by rw [h]; simp)]
    rintro _ rfl
    exact ⟨fun h => by rw [if_pos (show kindsGo _ > _ from of_decide_eq_true h)], fun h2 => by rw [if_neg (show ¬ kindsGo _ > _ from of_decide_eq_false h2)]; exact h⟩
  · have h : (event_Check l).2 ≠ 0 := by simpa using h
    rw [if_pos h]
    exact ⟨fun h => absurd h (by simp), fun _ => rfl⟩
end Go.Proofs.YtcjldfbgccmpkaaDoor
