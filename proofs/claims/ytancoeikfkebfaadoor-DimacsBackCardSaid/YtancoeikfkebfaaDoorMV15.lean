/- The document's reading of a formula. -/
import Derived.Test.YtancoeikfkebfaaDoorMV14
set_option linter.all false
namespace Go.Proofs.YtancoeikfkebfaaDoor
open Go Go.Sv Go.Pu
theorem gi_row {s : Bs} {i : Int} : gi (ref05_Lines s) i = (gi (token_Lines s) i).map toRef := by
  unfold ref05_Lines
  by_cases h : i.toNat < (token_Lines s).length
  · simp [gi, h]
  · simp [gi, h]
    rfl
theorem v24 (s : Bs) (hp : len1 s) : VC24 s (fun x => x = ref06_All s) := by
  refine ⟨hp, ?_⟩
  rintro _ rfl
  intro hsm
  have hl : s.length ≤ 1000000 := hp
  have a : (token_Lines s).length ≤ s.length := (lines_len s.length s 1 0).1
  have b : (token_Lines s).flatten.length ≤ s.length := flat_len _ s rfl 1 0
  have a' : (ref05_Lines s).length ≤ s.length := by unfold ref05_Lines; simpa using a
  have b' : (ref05_Lines s).flatten.length ≤ s.length := by unfold ref05_Lines; rw [← List.map_flatten, List.length_map]; exact b
  unfold VC24_J1 VC24_J2 ref06_All
  generalize ref05_Lines s = L at *
  refine ⟨fun o i => 0 ≤ i ∧ i ≤ L.length ∧ o = (L.take i.toNat).flatten, fun _ i => (L.length - i).toNat, ⟨by omega, by omega, by simp⟩, ?_⟩
  rintro o i ⟨i0, i1, ho⟩
  refine ⟨fun hi => ?_, fun hi => ?_⟩
  · have hi := of_decide_eq_true hi
    have hs := flatten_step i0 hi
    have hle := flatten_le L (i + 1).toNat
    have hs2 := congrArg List.length hs
    rw [List.length_append] at hs2
    refine ⟨fun o2 k => 0 ≤ k ∧ k ≤ (gi L i).length ∧ o2 = o ++ (gi L i).take k.toNat, fun _ k => ((gi L i).length - k).toNat, ⟨by omega, by omega, by simp⟩, ?_⟩
    rintro o2 k ⟨k0, k1, ho2⟩
    refine ⟨⟨i0, hi⟩, fun _ => ⟨fun hk => ?_, fun hk => ?_⟩⟩
    · have hk := of_decide_eq_true hk
      rw [wrp (n := k + 1) (by omega) (by omega)]
      refine ⟨⟨i0, hi⟩, fun _ => ⟨⟨k0, hk⟩, ?_, ⟨by omega, by omega, ?_⟩, by first | omega | (dsimp only; omega)⟩⟩
      · rw [ho2, ho]; simp only [List.length_append, List.length_cons, List.length_nil, List.length_take]; omega
      · rw [ho2, take_gi k0 hk, List.append_assoc]
    · have hk := of_decide_eq_false hk
      rw [show k.toNat = (gi L i).length by omega, List.take_length] at ho2
      rw [wrp (n := i + 1) (by omega) (by omega)]
      exact ⟨⟨by omega, by omega, by rw [ho2, ho, hs]⟩, by first | omega | (dsimp only; omega)⟩
  · have hi := of_decide_eq_false hi
    rw [show i.toNat = L.length by omega, List.take_length] at ho
    exact ho
theorem gi_toRef {T : List Token_Token} {i : Int} (h0 : 0 ≤ i) (h : i < T.length) : (gi (T.map toRef) i).At = (gi T i).At ∧ (gi (T.map toRef) i).Text = (gi T i).Text := by
  rw [gi_map toRef h0 h]; exact ⟨rfl, rfl⟩
def hdOK (T : List Token_Token) (i n0 n1 : Int) : Prop := (1 ≤ i → (gi T 0).Text = wP) ∧ (2 ≤ i → (gi T 1).Text = wCnf) ∧ (3 ≤ i → numOf (gi T 2).Text 0 100000 = (n0, 0)) ∧ (4 ≤ i → numOf (gi T 3).Text 0 1000000 = (n1, 0))
theorem hd_bad {T : List Token_Token} {i n0 n1 : Int} (e : Int) (h0 : 0 ≤ i) (h1 : i < 4) (hT : i < T.length) (h : hdOK T i n0 n1) :
    (i = 0 → (gi T 0).Text ≠ wP → parseT T e = (f0, (gi T 0).At, 8)) ∧ (i = 1 → (gi T 1).Text ≠ wCnf → parseT T e = (f0, (gi T 1).At, 8)) ∧
    (i = 2 → (numOf (gi T 2).Text 0 100000).2 ≠ 0 → parseT T e = (f0, (gi T 2).At, (numOf (gi T 2).Text 0 100000).2)) ∧ (i = 3 → (numOf (gi T 3).Text 0 1000000).2 ≠ 0 → parseT T e = (f0, (gi T 3).At, (numOf (gi T 3).Text 0 1000000).2)) := by
  obtain ⟨a, b, c, d⟩ := h
  refine ⟨fun hi hx => ?_, fun hi hx => ?_, fun hi hx => ?_, fun hi hx => ?_⟩
  · subst hi
    rcases T with _ | ⟨x, T⟩
    · simp at hT
    · have hx : x.Text ≠ wP := hx
      simp [parseT, hx, gi]
  · subst hi
    rcases T with _ | ⟨x, _ | ⟨y, T⟩⟩
    · simp at hT
    · simp at hT
    · have h1 : x.Text = wP := a (by omega)
      have hx : y.Text ≠ wCnf := hx
      simp [parseT, h1, hx, gi]
  · subst hi
    rcases T with _ | ⟨x, _ | ⟨y, _ | ⟨z, T⟩⟩⟩
    · simp at hT
    · simp at hT
    · simp at hT
    · have h1 : x.Text = wP := a (by omega)
      have h2 : y.Text = wCnf := b (by omega)
      have hx : (numOf z.Text 0 100000).2 ≠ 0 := hx
      simp [parseT, h1, h2, hx, gi]
  · subst hi
    rcases T with _ | ⟨x, _ | ⟨y, _ | ⟨z, _ | ⟨u, T⟩⟩⟩⟩
    · simp at hT
    · simp at hT
    · simp at hT
    · simp at hT
    · have h1 : x.Text = wP := a (by omega)
      have h2 : y.Text = wCnf := b (by omega)
      have h3 : numOf z.Text 0 100000 = (n0, 0) := c (by omega)
      have hx : (numOf u.Text 0 1000000).2 ≠ 0 := hx
      simp [parseT, h1, h2, h3, hx, gi]
theorem hd_short {T : List Token_Token} {i n0 n1 : Int} (e : Int) (h0 : 0 ≤ i) (h1 : i < 4) (hT : (T.length : Int) = i) (h : hdOK T i n0 n1) : parseT T e = (f0, e, 4) := by
  obtain ⟨a, b, c, d⟩ := h
  rcases T with _ | ⟨x, _ | ⟨y, _ | ⟨z, _ | ⟨u, T⟩⟩⟩⟩
  · rfl
  · have h1 : x.Text = wP := a (by simp at hT; omega)
    simp [parseT, h1]
  · have h1 : x.Text = wP := a (by simp at hT; omega)
    have h2 : y.Text = wCnf := b (by simp at hT; omega)
    simp [parseT, h1, h2]
  · have h1 : x.Text = wP := a (by simp at hT; omega)
    have h2 : y.Text = wCnf := b (by simp at hT; omega)
    have h3 : numOf z.Text 0 100000 = (n0, 0) := c (by simp at hT; omega)
    simp [parseT, h1, h2, h3]
  · simp at hT; omega
theorem hd_done {T : List Token_Token} {n0 n1 : Int} (e : Int) (hT : 4 ≤ (T.length : Int)) (h : hdOK T 4 n0 n1) : parseT T e = refGo n0 n1 e (T.drop 4) [] [] := by
  obtain ⟨a, b, c, d⟩ := h
  rcases T with _ | ⟨x, _ | ⟨y, _ | ⟨z, _ | ⟨u, T⟩⟩⟩⟩
  · simp at hT
  · simp at hT
  · simp at hT
  · simp at hT
  · have h1 : x.Text = wP := a (by omega)
    have h2 : y.Text = wCnf := b (by omega)
    have h3 : numOf z.Text 0 100000 = (n0, 0) := c (by omega)
    have h4 : numOf u.Text 0 1000000 = (n1, 0) := d (by omega)
    simp [parseT, h1, h2, h3, h4]
theorem v9 (s : Bs) : VC9 s (fun x => x = ref06_Parse s) := by
  unfold VC9
  refine ⟨fun h => ?_, fun h => ?_⟩
  · have h := of_decide_eq_true h
    unfold ref06_Parse dimacs_Parse
    rw [if_pos (by omega)]; rfl
  have hl : s.length ≤ 1000000 := by have := of_decide_eq_false h; omega
  refine ⟨hl, ?_⟩
  have hall : ref06_All s = (token_Lines s).flatten.map toRef := by unfold ref06_All ref05_Lines; rw [List.map_flatten]
  have hsh : shortT (token_Lines s).flatten := flat_short hl
  have hP : ref06_Parse s = parseT (token_Lines s).flatten s.length := parse_eq s hl
  rw [hP]
  rintro _ rfl
  rw [hall]
  have hTl : (token_Lines s).flatten.length ≤ s.length := flat_len _ s rfl 1 0
  generalize (token_Lines s).flatten = T at *
  intro hsm
  simp only [List.length_map]
  have i0' : inR .i64 0 := ⟨by decide, by decide⟩
  -- the main loop
  have main : ∀ n0 n1 : Int, 4 ≤ (T.length : Int) → hdOK T 4 n0 n1 → VC9_J1 s (fun x => x = parseT T s.length) (T.map toRef) n0 n1 := by
    intro n0 n1 hT4 hok
    have hn0 := numOf_in (t := (gi T 2).Text) (lo := 0) (hi := 100000) (by rw [hok.2.2.1 (by omega)])
    have hn1 := numOf_in (t := (gi T 3).Text) (lo := 0) (hi := 1000000) (by rw [hok.2.2.2 (by omega)])
    rw [hok.2.2.1 (by omega)] at hn0
    rw [hok.2.2.2 (by omega)] at hn1
    simp only at hn0 hn1
    rw [hd_done _ hT4 hok]
    unfold VC9_J1 VC9_J2 VC9_J3
    simp only [List.length_map]
    rw [wrp (n := 0 - n0) (by omega) (by omega), show (0 - n0 : Int) = -n0 by omega]
    generalize htgt : refGo n0 n1 s.length (T.drop 4) [] [] = tgt
    refine ⟨fun c i x cl => x = n0 ∧ 4 ≤ i ∧ i ≤ T.length ∧ c.length ≤ 1000 ∧ (cl.length : Int) ≤ n1 ∧ refGo n0 n1 s.length (T.drop i.toNat) cl c = tgt, fun _ i _ _ => (T.length - i).toNat, ⟨rfl, by omega, hT4, by simp, by simp; omega, htgt⟩, ?_⟩
    rintro c i x cl ⟨rfl, hi4, hiT, hc, hcl, ht⟩
    have h0 : 0 ≤ i := by omega
    refine ⟨fun hi => ?_, fun hi => ?_⟩
    · have hi := of_decide_eq_true hi
      obtain ⟨g1, g2⟩ := gi_toRef h0 hi
      rw [g1, g2]
      rw [drop_gi h0 hi] at ht
      unfold refGo at ht
      rw [wrp (n := i + 1) (by omega) (by omega)]
      have hmem : (gi T i).Text.length ≤ 1000000 := hsh _ (mem_gi h0 hi)
      refine ⟨fun he => ⟨⟨h0, hi⟩, ?_⟩, fun he => ?_⟩
      · rw [if_pos (by simpa using he)] at ht
        exact ht
      rw [if_neg (by simpa using he)] at ht
      have hlt : (cl.length : Int) < n1 := by have : ¬ (cl.length : Int) = n1 := by simpa using he
                                              omega
      refine ⟨⟨h0, hi⟩, ⟨hmem, ⟨by show (-9223372036854775808 : Int) ≤ _; omega, by show _ ≤ (9223372036854775807 : Int); omega⟩, ⟨by show (-9223372036854775808 : Int) ≤ _; omega, by show _ ≤ (9223372036854775807 : Int); omega⟩⟩, ?_⟩
      rintro _ rfl
      unfold ref05_Number
      refine ⟨fun h2 => ⟨⟨h0, hi⟩, ?_⟩, fun h2 => ?_⟩
      · rw [if_pos (by simpa using h2)] at ht; exact ht
      rw [if_neg (by simpa using h2)] at ht
      have hb := numOf_in (t := (gi T i).Text) (lo := -x) (hi := x) (by simpa using h2)
      refine ⟨fun h3 => ⟨by simp; omega, ⟨rfl, by omega, by omega, by simp, by simp; omega, ?_⟩, by first | omega | (dsimp only; omega)⟩, fun h3 => ?_⟩
      · rw [if_pos (by simpa using h3)] at ht; exact ht
      rw [if_neg (by simpa using h3)] at ht
      rw [wrp (n := 0 - _) (by omega) (by omega), show (0 - (numOf (gi T i).Text (-x) x).1 : Int) = -(numOf (gi T i).Text (-x) x).1 by omega]
      generalize (numOf (gi T i).Text (-x) x).1 = l at *
      unfold addE at ht
      unfold ref01_Has
      refine ⟨fun h4 => ⟨⟨h0, hi⟩, ?_⟩, fun h4 => ?_⟩
      · have : c.length ≥ 1000 := by have : (c.length : Int) = 1000 := by simpa using h4
                                     omega
        rw [if_pos (by rw [if_pos this]; decide), if_pos this] at ht
        exact ht
      have h4 : ¬ c.length ≥ 1000 := by have : ¬ (c.length : Int) = 1000 := by simpa using h4
                                        omega
      rintro _ rfl
      refine ⟨fun h5 => ⟨⟨h0, hi⟩, ?_⟩, fun h5 => ?_⟩
      · have h5 : l ∈ c := of_decide_eq_true h5
        rw [if_pos (by rw [if_neg h4, if_pos h5]; decide), if_neg h4, if_pos h5] at ht
        exact ht
      have h5 : l ∉ c := of_decide_eq_false h5
      rintro _ rfl
      refine ⟨fun h6 => ⟨⟨h0, hi⟩, ?_⟩, fun h6 => ?_⟩
      · have h6 : -l ∈ c := of_decide_eq_true h6
        rw [if_pos (by rw [if_neg h4, if_neg h5, if_pos h6]; decide), if_neg h4, if_neg h5, if_pos h6] at ht
        exact ht
      have h6 : -l ∉ c := of_decide_eq_false h6
      rw [if_neg (by rw [if_neg h4, if_neg h5, if_neg h6]; decide)] at ht
      exact ⟨by simp; omega, by simp; omega, ⟨rfl, by omega, by omega, by simp; omega, by omega, by simpa using ht⟩, by first | omega | (dsimp only; omega)⟩
    · have hi := of_decide_eq_false hi
      rw [List.drop_eq_nil_of_le (by omega)] at ht
      unfold refGo at ht
      refine ⟨fun h => ?_, fun h => ?_⟩
      · rw [if_pos (of_decide_eq_true h)] at ht; exact ht
      · rw [if_neg (of_decide_eq_false h)] at ht; exact ht
  refine ⟨fun i a b => 0 ≤ i ∧ i ≤ 4 ∧ i ≤ T.length ∧ hdOK T i a b, fun i _ _ => (4 - i).toNat, ⟨by omega, by omega, by omega, by unfold hdOK; refine ⟨?_, ?_, ?_, ?_⟩ <;> intro h <;> omega⟩, ?_⟩
  rintro i a b ⟨h0, h4, hT, hok⟩
  refine ⟨fun hi => ?_, fun hi => ?_⟩
  · have hi := of_decide_eq_true hi
    refine ⟨fun hx => ?_, fun hx => ?_⟩
    · have hx := of_decide_eq_true hx
      exact (hd_short _ h0 hi (by omega) hok).symm
    have hlt : i < T.length := by have := of_decide_eq_false hx; omega
    obtain ⟨b0, b1, b2, b3⟩ := hd_bad (e := s.length) h0 hi hlt hok
    obtain ⟨g1, g2⟩ := gi_toRef h0 hlt
    have hmem : (gi T i).Text.length ≤ 1000000 := hsh _ (mem_gi h0 hlt)
    -- behind the words
    have rest : ∀ bad : Bool, (bad = true → parseT T s.length = (f0, (gi T i).At, 8)) → (bad = false → (i = 0 → (gi T 0).Text = wP) ∧ (i = 1 → (gi T 1).Text = wCnf)) →
        VC9_J5 (fun x => x = parseT T s.length) (T.map toRef) (fun i a b => 0 ≤ i ∧ i ≤ 4 ∧ i ≤ T.length ∧ hdOK T i a b) (fun i _ _ => (4 - i).toNat) i a b bad := by
      intro bad hb1 hb2
      unfold VC9_J5 VC9_J4
      simp only [List.length_map]
      rw [g1, g2, wrp (n := i + 1) (by omega) (by omega)]
      refine ⟨fun h => ⟨⟨h0, hlt⟩, (hb1 h).symm⟩, fun h => ?_⟩
      obtain ⟨w0, w1⟩ := hb2 h
      refine ⟨fun h2 => ?_, fun h2 => ?_⟩
      · have h2 := of_decide_eq_true h2
        rw [wrp (n := i - 2) (by omega) (by omega), wrp (n := 900000 * (i - 2)) (by omega) (by omega), wrp (n := 100000 + 900000 * (i - 2)) (by omega) (by omega)]
        refine ⟨⟨h0, hlt⟩, ⟨hmem, i0', ⟨by show (-9223372036854775808 : Int) ≤ _; omega, by show _ ≤ (9223372036854775807 : Int); omega⟩⟩, ?_⟩
        rintro _ rfl
        unfold ref05_Number
        have hb : (100000 + 900000 * (i - 2) : Int) = if i = 2 then 100000 else 1000000 := by split <;> omega
        rw [hb]
        refine ⟨fun h3 => ⟨⟨h0, hlt⟩, ?_⟩, fun h3 => ⟨⟨by omega, by omega⟩, fun h5 => ?_, fun h5 => ?_⟩⟩
        · by_cases hi2 : i = 2
          · subst hi2
            exact (b2 rfl (by simpa using h3)).symm
          · have hi3 : i = 3 := by omega
            subst hi3
            exact (b3 rfl (by simpa using h3)).symm
        · have hi2 : i = 2 := by omega
          subst hi2
          have h3 : (numOf (gi T 2).Text 0 100000).2 = 0 := by simpa using h3
          refine ⟨⟨by omega, by omega, by omega, hok.1.comp (fun _ => by omega), hok.2.1.comp (fun _ => by omega), fun _ => ?_, fun h => by omega⟩, by first | omega | (dsimp only; omega)⟩
          exact Prod.ext rfl h3
        · have hi3 : i = 3 := by omega
          subst hi3
          have h3 : (numOf (gi T 3).Text 0 1000000).2 = 0 := by simpa using h3
          refine ⟨⟨by omega, by omega, by omega, hok.1.comp (fun _ => by omega), hok.2.1.comp (fun _ => by omega), hok.2.2.1.comp (fun _ => by omega), fun _ => ?_⟩, by first | omega | (dsimp only; omega)⟩
          exact Prod.ext rfl h3
      · have h2 := of_decide_eq_false h2
        refine ⟨⟨by omega, by omega, by omega, fun _ => ?_, fun h => ?_, fun h => by omega, fun h => by omega⟩, by first | omega | (dsimp only; omega)⟩
        · by_cases hi0 : i = 0
          · exact w0 hi0
          · exact hok.1 (by omega)
        · exact w1 (by omega)
    have hw : ∀ x y : Bs, (!(x == y)) = true ↔ x ≠ y := fun x y => by simp
    have hw2 : ∀ x y : Bs, (!(x == y)) = false ↔ x = y := fun x y => by simp
    have gA : (gi (T.map toRef) 0).Text = (gi T 0).Text := (gi_toRef (by omega) (by omega)).2
    refine ⟨fun he => ?_, fun he => ?_⟩
    · have he : i = 0 := by simpa using he
      rw [gA]
      refine ⟨⟨by omega, by omega⟩, fun hx => ?_, fun hx => ⟨fun h => ?_, fun _ => ?_⟩⟩
      · exact rest true (fun _ => by rw [b0 he ((hw _ _).1 hx), he]) (fun h => by simp at h)
      · rw [he] at h; simp at h
      · exact rest false (fun h => by simp at h) (fun _ => ⟨fun _ => (hw2 _ _).1 hx, fun h => by omega⟩)
    · have he : ¬ i = 0 := by simpa using he
      refine ⟨fun h1 => ?_, fun h1 => ?_⟩
      · have h1 : i = 1 := by simpa using h1
        have gB : (gi (T.map toRef) 1).Text = (gi T 1).Text := (gi_toRef (by omega) (by omega)).2
        rw [gB]
        refine ⟨⟨by omega, by omega⟩, rest _ (fun hx => by rw [b1 h1 ((hw _ _).1 hx), h1]) (fun hx => ⟨fun h => by omega, fun _ => (hw2 _ _).1 hx⟩)⟩
      · have h1 : ¬ i = 1 := by simpa using h1
        exact rest false (fun h => by simp at h) (fun _ => ⟨fun h => absurd h he, fun h => absurd h h1⟩)
  · have hi := of_decide_eq_false hi
    have : i = 4 := by omega
    subst this
    exact main a b hT hok
end Go.Proofs.YtancoeikfkebfaaDoor
