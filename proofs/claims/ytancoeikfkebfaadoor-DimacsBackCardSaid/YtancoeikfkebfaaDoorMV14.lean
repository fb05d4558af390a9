/- The reader of formulas: what its methods answer. -/
import Derived.Test.YtancoeikfkebfaaDoorMV13
set_option linter.all false
namespace Go.Proofs.YtancoeikfkebfaaDoor
open Go Go.Sv Go.Pu
theorem v23 (t : Token_Token) (e : Int) (r : Rd) : VC23 t e r (fun x => x = dimacs_reader_wrong t e r) := by
  intro _
  unfold dimacs_reader_wrong
  refine ⟨fun h => ?_, fun h => ?_⟩
  · rw [if_pos (by simpa using h)]
  · rw [if_neg (by simpa using h)]
theorem v39 (r : Rd) : VC39 r (fun x => x = dimacs_reader_next r) := by
  intro _
  unfold dimacs_reader_next
  obtain ⟨fl, T, e⟩ := r
  refine ⟨fun h => ?_, fun h => ⟨fun h2 => ?_, fun h2 => ?_⟩⟩
  · rw [if_pos (by simpa using h)]; rfl
  · have : T = [] := by
      have h2 : (T.length : Int) = 0 := by simpa using h2
      exact List.eq_nil_of_length_eq_zero (by omega)
    subst this
    rw [if_neg (by simpa using h)]; rfl
  · cases T with
    | nil => simp at h2
    | cons t T =>
      rw [if_neg (by simpa using h)]
      exact ⟨⟨by omega, by simp <;> omega⟩, ⟨by omega, by simp <;> omega⟩, rfl⟩
theorem v20 (w : Bs) (r : Rd) : VC20 w r (fun x => x = dimacs_reader_word w r) := by
  intro _
  rintro _ rfl
  intro _
  unfold dimacs_reader_word
  refine ⟨fun h => ?_, fun h => ?_⟩
  · rintro _ rfl
    intro _
    rw [if_pos h]
  · rw [if_neg (by simp [h])]
theorem next_ok {r : Rd} (h : (dimacs_reader_next r).2.1 = true) : (dimacs_reader_next r).1 ∈ r.rest := by
  unfold dimacs_reader_next at *
  split at h
  · simp at h
  · rename_i h1
    rw [if_neg h1]
    split at h
    · simp at h
    · rename_i t l hl; rw [hl]; simp
theorem v21 (lo hi : Int) (r : Rd) (hp : preNb lo hi r) : VC21 lo hi r (fun x => x = dimacs_reader_number lo hi r) := by
  intro _
  rintro _ rfl
  intro _
  obtain ⟨h0, h1, h2⟩ := hp
  unfold VC21_J1 dimacs_reader_number
  refine ⟨fun h => ?_, fun h => ?_⟩
  · have h : (dimacs_reader_next r).2.1 = false := by simpa using h
    rw [if_neg (by simp [h])]
  · have h : (dimacs_reader_next r).2.1 = true := by simpa using h
    rw [if_pos h]
    refine ⟨⟨h2 _ (next_ok h), h0, h1⟩, ?_⟩
    rintro _ rfl
    unfold token_Number
    refine ⟨fun he => ?_, fun he => ?_⟩
    · rintro _ rfl
      intro _
      rw [if_pos (by simpa using he)]
    · rw [if_neg (by simpa using he)]
theorem cntM_snoc {c : List Int} {m : List (Int × Int)} (h : cntM c m) (l : Int) : cntM (c ++ [l]) (mput m l ((mget m l).getD 0 + 1)) := by
  intro x
  rw [mget_mput, List.count_append]
  by_cases hx : x = l
  · subst hx; rw [if_pos rfl]; simp [h x]
  · rw [if_neg hx, h x, List.count_cons_of_ne (fun e => hx e.symm)]; simp
theorem cnt_pos {c : List Int} {m : List (Int × Int)} (h : cntM c m) (x : Int) : ((mget m x).getD 0 > 0) ↔ x ∈ c := by
  rw [h x]
  have : 0 < c.count x ↔ x ∈ c := List.count_pos_iff
  rw [← this]; omega
theorem v41 (l : Int) (t : Token_Token) (c : List Int) (r : Rd) (m : List (Int × Int)) (hp : preCl1 l t c r m) : VC41 l t c r m (fun x => x = dimacs_reader_clause_1 l t c r m) := by
  intro _ _
  obtain ⟨h0, h1, h2, h3⟩ := hp
  have hcnt : (mget m l).getD 0 ≤ 1000 ∧ 0 ≤ (mget m l).getD 0 := by
    rw [h3 l]
    have : c.count l ≤ c.length := List.count_le_length
    omega
  unfold VC41_J1 dimacs_reader_clause_1
  rw [wrp (n := 0 - l) (by omega) (by omega), show (0 - l : Int) = -l by omega, wrp (n := (mget m l).getD 0 + 1) (by omega) (by omega)]
  have hlen : c.length + [l].length ≤ 1099511627776 := by simp; omega
  have p1 := cnt_pos h3 l
  have p2 := cnt_pos h3 (-l)
  unfold addE
  refine ⟨fun ha => ?_, fun ha => ⟨fun hb => ?_, fun hb => ⟨fun hd => ?_, fun hd => ?_⟩⟩⟩
  · have ha : c.length ≥ 1000 := by have := of_decide_eq_true ha; omega
    rintro _ rfl
    intro _
    refine ⟨hlen, ?_⟩
    rw [if_pos ha]; rfl
  · have ha : ¬ c.length ≥ 1000 := by have := of_decide_eq_false ha; omega
    have hb := p1.1 (of_decide_eq_true hb)
    rintro _ rfl
    intro _
    refine ⟨hlen, ?_⟩
    rw [if_neg ha, if_pos hb]; rfl
  · have ha : ¬ c.length ≥ 1000 := by have := of_decide_eq_false ha; omega
    have hb := mt p1.2 (of_decide_eq_false hb)
    have hd := p2.1 (of_decide_eq_true hd)
    rintro _ rfl
    intro _
    refine ⟨hlen, ?_⟩
    rw [if_neg ha, if_neg hb, if_pos hd]; rfl
  · have ha : ¬ c.length ≥ 1000 := by have := of_decide_eq_false ha; omega
    have hb := mt p1.2 (of_decide_eq_false hb)
    have hd := mt p2.2 (of_decide_eq_false hd)
    refine ⟨hlen, ?_⟩
    rw [if_neg ha, if_neg hb, if_neg hd]; rfl
theorem numF_nil (lo hi e : Int) (fl : Dimacs_fault) (hf : fl.e = 0) : dimacs_reader_number lo hi ⟨fl, [], e⟩ = (0, tok0, ⟨⟨e, 4⟩, [], e⟩) := by
  simp [dimacs_reader_number, dimacs_reader_next, hf]
theorem numF_cons (lo hi e : Int) (fl : Dimacs_fault) (hf : fl.e = 0) (t : Token_Token) (T : List Token_Token) : dimacs_reader_number lo hi ⟨fl, t :: T, e⟩ = ((numOf t.Text lo hi).1, t, if (numOf t.Text lo hi).2 ≠ 0 then ⟨⟨t.At, (numOf t.Text lo hi).2⟩, T, e⟩ else ⟨fl, T, e⟩) := by
  by_cases h : (numOf t.Text lo hi).2 = 0 <;> simp [dimacs_reader_number, dimacs_reader_next, dimacs_reader_wrong, h, hf]
theorem v22 (vars : Int) (r : Rd) (hp : preCl vars r) : VC22 vars r (fun x => x = dimacs_reader_clause vars r) := by
  intro _
  obtain ⟨hv0, hv1, hsh⟩ := hp
  rw [wrp (n := 0 - vars) (by omega) (by omega), show (0 - vars : Int) = -vars by omega]
  generalize htgt : dimacs_reader_clause vars r = tgt
  refine ⟨fun c m at_ e T end_ => shortT T ∧ ((e = 0 ∧ c.length ≤ 1000 ∧ cntM c m ∧ clGo vars ⟨at_, e⟩ end_ T c = tgt) ∨ (e ≠ 0 ∧ tgt = (c, ⟨⟨at_, e⟩, T, end_⟩))), fun _ _ _ _ T _ => T.length, ⟨hsh, ?_⟩, ?_⟩
  · rw [← htgt]
    unfold dimacs_reader_clause
    by_cases h : r.fault.e = 0
    · left; refine ⟨h, by simp, fun x => by simp [mget], by rw [if_neg (by simp [h])]⟩
    · right; exact ⟨h, by rw [if_pos h]⟩
  · rintro c m at_ e T end_ ⟨hs, hI⟩
    refine ⟨⟨⟨by show (-9223372036854775808 : Int) ≤ _; omega, by show _ ≤ (9223372036854775807 : Int); omega⟩, ⟨by show (-9223372036854775808 : Int) ≤ _; omega, by show _ ≤ (9223372036854775807 : Int); omega⟩, hs⟩, ?_⟩
    rintro _ rfl
    intro _
    rcases hI with ⟨he, hc, hm, ht⟩ | ⟨he, ht⟩
    · subst he
      cases T with
      | nil =>
        rw [numF_nil _ _ _ _ rfl]
        refine ⟨fun _ => ?_, fun h => by simp at h⟩
        rw [← ht]; rfl
      | cons t T =>
        rw [numF_cons _ _ _ _ rfl]
        have hsT : shortT T := fun x hx => hs x (by simp [hx])
        unfold clGo at ht
        by_cases hn : (numOf t.Text (-vars) vars).2 = 0
        · rw [if_neg (by simp [hn])] at ht
          simp only [hn, ne_eq, not_true_eq_false, if_false]
          have hb := numOf_in hn
          refine ⟨fun h => ?_, fun h => ?_⟩
          · have h : (numOf t.Text (-vars) vars).1 = 0 := by simpa using h
            rw [if_pos h] at ht
            exact ht
          · have h : (numOf t.Text (-vars) vars).1 ≠ 0 := by simpa using h
            rw [if_neg h] at ht
            refine ⟨⟨by omega, by omega, hc, hm⟩, ?_⟩
            rintro _ rfl
            intro _ _
            unfold dimacs_reader_clause_1
            by_cases ha : addE c (numOf t.Text (-vars) vars).1 = 0
            · rw [if_neg (by simp [ha])] at ht
              simp only [ha, ne_eq, not_true_eq_false, if_false]
              exact ⟨⟨hsT, .inl ⟨by trivial, by have := (addE_zero.1 ha).1; simp; omega, cntM_snoc hm _, ht⟩⟩, by simp⟩
            · rw [if_pos ha] at ht
              simp only [ha, ne_eq, not_false_eq_true, if_true, dimacs_reader_wrong]
              exact ⟨⟨hsT, .inr ⟨by first | exact ha | trivial, ht.symm⟩⟩, by simp⟩
        · rw [if_pos hn] at ht
          simp only [hn, ne_eq, not_false_eq_true, if_true]
          refine ⟨fun _ => ht, fun h => ?_⟩
          simp [hn] at h
    · rw [bad_number _ _ _ he]
      refine ⟨fun _ => ht.symm, fun h => ?_⟩
      simp [he] at h
theorem v54 (n : Int) (hp : preGrow n) : VC54 n (fun x => x = slices_Grow_token_Token_token_Token n) := by
  obtain ⟨h0, h1⟩ := hp
  unfold VC54 VC54_J1 slices_Grow_token_Token_token_Token
  rw [wrp (n := 0 - 0) (by omega) (by omega), wrp (by omega) (by omega)]
  refine ⟨fun h => ?_, fun _ => ⟨fun h => ⟨⟨by omega, by simp⟩, ⟨by have := of_decide_eq_true h; omega, by omega⟩, ⟨by omega, by simp <;> omega⟩, by simp⟩, fun _ => rfl⟩⟩
  have := of_decide_eq_true h; omega
theorem flatten_step {α : Type} [Inhabited α] {l : List (List α)} {i : Int} (h0 : 0 ≤ i) (h : i < l.length) : (l.take (i + 1).toNat).flatten = (l.take i.toNat).flatten ++ gi l i := by
  rw [take_gi h0 h, List.flatten_append]; simp
theorem flatten_le {α : Type} (l : List (List α)) (k : Nat) : (l.take k).flatten.length ≤ l.flatten.length := by
  have : l.flatten = (l.take k).flatten ++ (l.drop k).flatten := by rw [← List.flatten_append, List.take_append_drop]
  rw [this, List.length_append]; omega
theorem v38 (l : List (List Token_Token)) (hp : preCat l) : VC38 l (fun x => x = slices_Concat_token_Token_token_Token l) := by
  obtain ⟨h0, h1⟩ := hp
  intro _
  unfold VC38_J1 VC38_J2 slices_Concat_token_Token_token_Token
  refine ⟨fun n i => 0 ≤ i ∧ i ≤ l.length ∧ n = ((l.take i.toNat).flatten.length : Int), fun _ i => (l.length - i).toNat, ⟨by omega, by omega, by simp⟩, ?_⟩
  rintro n i ⟨i0, i1, hn⟩
  refine ⟨fun hi => ?_, fun hi => ?_⟩
  · have hi := of_decide_eq_true hi
    have hs := congrArg List.length (flatten_step i0 hi)
    have hle := flatten_le l (i + 1).toNat
    rw [List.length_append] at hs
    refine ⟨⟨i0, hi⟩, fun _ => ?_⟩
    rw [wrp (n := n + _) (by omega) (by omega), wrp (n := i + 1) (by omega) (by omega)]
    refine ⟨fun h => ?_, fun h => ⟨⟨by omega, by omega, by rw [hs]; omega⟩, by first | omega | (dsimp only; omega)⟩⟩
    have := of_decide_eq_true h; omega
  · have hi := of_decide_eq_false hi
    have hle := flatten_le l i.toNat
    refine ⟨⟨by omega, by omega⟩, ?_⟩
    rintro _ rfl
    intro _
    unfold slices_Grow_token_Token_token_Token
    refine ⟨fun o i => 0 ≤ i ∧ i ≤ l.length ∧ o = (l.take i.toNat).flatten, fun _ i => (l.length - i).toNat, ⟨by omega, by omega, by simp⟩, ?_⟩
    rintro o i ⟨i0, i1, ho⟩
    refine ⟨fun hi => ?_, fun hi => ?_⟩
    · have hi := of_decide_eq_true hi
      have hs := flatten_step i0 hi
      have hle := flatten_le l (i + 1).toNat
      refine ⟨⟨i0, hi⟩, fun _ => ?_⟩
      rw [wrp (n := i + 1) (by omega) (by omega), ho, ← hs]
      refine ⟨?_, ⟨by omega, by omega, rfl⟩, by first | omega | (dsimp only; omega)⟩
      rw [← List.length_append, ← hs]; omega
    · have hi := of_decide_eq_false hi
      rw [show i.toNat = l.length by omega, List.take_length] at ho
      exact ho
theorem v19 (s : Bs) (hp : len1 s) : VC19 s (fun x => x = dimacs_open s) := by
  refine ⟨hp, ?_⟩
  rintro _ rfl
  intro _
  have hl : s.length ≤ 1000000 := hp
  have a := (lines_len s.length s 1 0).1
  have a : (token_Lines s).length ≤ s.length := a
  have b := flat_len _ s rfl 1 0
  have b : (token_Lines s).flatten.length ≤ s.length := b
  refine ⟨⟨by omega, by omega⟩, ?_⟩
  rintro _ rfl
  intro _
  rfl
theorem flat_short {s : Bs} (hs : s.length ≤ 1000000) : shortT (token_Lines s).flatten := by
  intro t ht
  obtain ⟨k, g⟩ := (flat_good s).1 t ht
  have h1 := g.lo
  have h2 := g.hi
  unfold tend at h2
  omega
theorem next_short {r : Rd} (h : shortT r.rest) : shortT (dimacs_reader_next r).2.2.rest := by
  unfold dimacs_reader_next
  split
  · exact h
  · split
    · intro t ht; simp at ht
    · rename_i t l hl; intro u hu; exact h u (by rw [hl]; simp [hu])
theorem wrong_rest (t : Token_Token) (e : Int) (r : Rd) : (dimacs_reader_wrong t e r).rest = r.rest := by
  unfold dimacs_reader_wrong; split <;> rfl
theorem word_short {w : Bs} {r : Rd} (h : shortT r.rest) : shortT (dimacs_reader_word w r).rest := by
  unfold dimacs_reader_word
  split
  · rw [wrong_rest]; exact next_short h
  · exact next_short h
theorem number_short {lo hi : Int} {r : Rd} (h : shortT r.rest) : shortT (dimacs_reader_number lo hi r).2.2.rest := by
  unfold dimacs_reader_number
  split
  · simp only; split
    · rw [wrong_rest]; exact next_short h
    · exact next_short h
  · exact next_short h
theorem number_range {lo hi : Int} (r : Rd) (h0 : lo ≤ 0) (h1 : 0 ≤ hi) : lo ≤ (dimacs_reader_number lo hi r).1 ∧ (dimacs_reader_number lo hi r).1 ≤ hi := by
  unfold dimacs_reader_number
  split
  · simp only
    unfold numOf
    split
    · split
      · rename_i h; exact h
      · exact ⟨h0, h1⟩
    · exact ⟨h0, h1⟩
  · exact ⟨h0, h1⟩
theorem cl_short (vars : Int) (fl : Dimacs_fault) (e : Int) : ∀ (T : List Token_Token) (c : List Int), shortT T → shortT (clGo vars fl e T c).2.rest
  | [], c, h => by unfold clGo; exact h
  | t :: T, c, h => by
    have hT : shortT T := fun x hx => h x (by simp [hx])
    unfold clGo
    split
    · exact hT
    · split
      · exact hT
      · split
        · exact hT
        · exact cl_short vars fl e T _ hT
theorem clause_short {vars : Int} {r : Rd} (h : shortT r.rest) : shortT (dimacs_reader_clause vars r).2.rest := by
  unfold dimacs_reader_clause
  split
  · exact h
  · exact cl_short _ _ _ _ _ h
theorem v8 (s : Bs) : VC8 s (fun x => x = dimacs_Parse s) := by
  unfold VC8 VC8_J1 VC8_J2
  refine ⟨fun h => ?_, fun h => ?_⟩
  · have h := of_decide_eq_true h
    unfold dimacs_Parse
    rw [if_pos (by omega)]; rfl
  · have hl : ¬ s.length > 1000000 := by have := of_decide_eq_false h; omega
    refine ⟨by show s.length ≤ 1000000; omega, ?_⟩
    have i1 : inR .i64 0 := ⟨by decide, by decide⟩
    have i2 : inR .i64 100000 := ⟨by decide, by decide⟩
    have i3 : inR .i64 1000000 := ⟨by decide, by decide⟩
    have s1 : shortT (dimacs_open s).rest := flat_short (by omega)
    rintro _ rfl
    intro _
    rintro _ rfl
    intro _
    rintro _ rfl
    intro _
    have s3 : shortT (dimacs_reader_word [99, 110, 102] (dimacs_reader_word [112] (dimacs_open s))).rest := word_short (word_short s1)
    refine ⟨⟨i1, i2, s3⟩, ?_⟩
    rintro _ rfl
    intro _
    have s4 := number_short (lo := 0) (hi := 100000) s3
    refine ⟨⟨i1, i3, s4⟩, ?_⟩
    rintro _ rfl
    intro _
    have s5 := number_short (lo := 0) (hi := 1000000) s4
    have hV := number_range (lo := 0) (hi := 100000) (dimacs_reader_word [99, 110, 102] (dimacs_reader_word [112] (dimacs_open s))) (by decide) (by decide)
    have hM := number_range (lo := 0) (hi := 1000000) (dimacs_reader_number 0 100000 (dimacs_reader_word [99, 110, 102] (dimacs_reader_word [112] (dimacs_open s)))).2.2 (by decide) (by decide)
    have hP : dimacs_Parse s = endR (headR s).1 s.length (clsGo (headR s).1 (headR s).2.1.toNat (headR s).2.2 []) := by unfold dimacs_Parse; rw [if_neg hl]
    rw [hP]
    unfold headR wP wCnf
    simp only
    generalize (dimacs_reader_number 0 1000000 (dimacs_reader_number 0 100000 (dimacs_reader_word [99, 110, 102] (dimacs_reader_word [112] (dimacs_open s)))).2.2) = q2 at *
    generalize (dimacs_reader_number 0 100000 (dimacs_reader_word [99, 110, 102] (dimacs_reader_word [112] (dimacs_open s)))) = q1 at *
    generalize htgt : clsGo q1.1 q2.1.toNat q2.2.2 [] = tgt
    refine ⟨fun v cl at_ e T end_ => v = q1.1 ∧ shortT T ∧ (cl.length : Int) ≤ q2.1 ∧ clsGo q1.1 (q2.1 - cl.length).toNat ⟨⟨at_, e⟩, T, end_⟩ cl = tgt, fun _ cl _ _ _ _ => (q2.1 - cl.length).toNat, ⟨rfl, s5, by simp; omega, by simpa using htgt⟩, ?_⟩
    rintro v cl at_ e T end_ ⟨rfl, hs, hc, ht⟩
    refine ⟨fun hcnd => ?_, fun hcnd => ?_⟩
    · have hcnd : e = 0 ∧ (cl.length : Int) < q2.1 := by simpa using hcnd
      obtain ⟨rfl, hlt⟩ := hcnd
      refine ⟨⟨hV.1, hV.2, hs⟩, ?_⟩
      rintro _ rfl
      intro _
      obtain ⟨k, hk⟩ : ∃ k, (q2.1 - cl.length).toNat = k + 1 := ⟨(q2.1 - cl.length).toNat - 1, by omega⟩
      rw [hk] at ht
      unfold clsGo at ht
      simp only [ne_eq, not_true_eq_false, if_false] at ht
      refine ⟨by simp; omega, ⟨rfl, clause_short hs, by simp; omega, ?_⟩, by first | (simp; omega) | omega⟩
      rw [show (q2.1 - ((cl ++ [(dimacs_reader_clause q1.1 ⟨⟨at_, 0⟩, T, end_⟩).1]).length : Int)).toNat = k by simp; omega]
      exact ht
    · have hcnd : e = 0 → q2.1 ≤ (cl.length : Int) := by
        intro he; subst he
        have := hcnd
        simp at this; omega
      have htg : tgt = (cl, ⟨⟨at_, e⟩, T, end_⟩) := by
        by_cases he : e = 0
        · have := hcnd he
          rw [show (q2.1 - (cl.length : Int)).toNat = 0 by omega] at ht
          exact ht.symm
        · rw [clsGo_bad _ _ _ _ he] at ht; exact ht.symm
      rw [htg]
      unfold endR
      simp only
      refine ⟨fun h => ?_, fun h => ?_⟩
      · have h : e = 0 ∧ (T.length : Int) > 0 := by simpa using h
        obtain ⟨rfl, hT⟩ := h
        cases T with
        | nil => simp at hT
        | cons t T =>
          refine ⟨⟨by omega, hT⟩, ?_⟩
          rintro _ rfl
          intro _
          refine ⟨fun _ => rfl, fun h => ?_⟩
          simp [dimacs_reader_wrong] at h
      · refine ⟨fun he => ?_, fun he => ?_⟩
        · have he : e ≠ 0 := by simpa using he
          rw [if_pos he]; rfl
        · have he : e = 0 := by simpa using he
          subst he
          cases T with
          | nil => rfl
          | cons t T => exfalso; simp at h
end Go.Proofs.YtancoeikfkebfaaDoor
