/- The laws of verdicts as text: plain. -/
import Derived.Test.YtkgcdoeldilhaaaDoorNV21
set_option linter.all false
namespace Go.Proofs.YtkgcdoeldilhaaaDoor
open Go Go.Sv Go.Pu
/-! what is read may be -/
theorem read_len {s : Bs} (hs : s.length ≤ 3000) (h : (proof_Parse s).2.2 = 0) : (printP (proof_Parse s).1) = (proofT (proof_Parse s).1, 0) ∧ (chkS (proof_Parse s).1).2 = 0 ∧ (proofT (proof_Parse s).1).length ≤ 90000 := by
  unfold proof_Parse at *
  rw [if_neg (by omega)] at h ⊢
  obtain ⟨a, b, c⟩ := steps_ok _ _ [] (by simp) (by simp) h
  have d := flat_len _ s rfl 1 0
  have d : (token_Lines s).flatten.length ≤ s.length := d
  have e := proofT_len a
  have hc := (chk_iff _).2 ⟨b, a⟩
  simp only [List.map_nil, List.sum_nil, Nat.zero_add] at c
  refine ⟨?_, hc, by omega⟩
  unfold printP
  rw [if_neg (by simp [hc]), if_neg (by omega)]
theorem pickT_len {p : Api_Pick} (h : pickOK p = true) : (pickT p).length ≤ 60 := by
  obtain ⟨a, b, c, d⟩ := (pickOK_iff p).1 h
  have x := joinRow_wlen wPick [p.Oper, p.Result] (by
    intro z hz; simp at hz
    rcases hz with rfl | rfl
    · exact ⟨by show (-9223372036854775808 : Int) ≤ _; omega, by show _ ≤ (9223372036854775807 : Int); omega⟩
    · exact ⟨by show (-9223372036854775808 : Int) ≤ _; omega, by show _ ≤ (9223372036854775807 : Int); omega⟩)
  unfold pickT lineB
  have e : wPick.length = 4 := rfl
  simp only [List.length_append, List.length_cons, List.length_nil] at x ⊢; omega
theorem picksT_len : ∀ {l : List Api_Pick}, (∀ p ∈ l, pickOK p = true) → (l.flatMap pickT).length ≤ 60 * l.length
  | [], _ => by simp
  | p :: l, h => by
    have a := pickT_len (h p (by simp))
    have b := picksT_len (l := l) (fun x hx => h x (by simp [hx]))
    simp only [List.flatMap_cons, List.length_append, List.length_cons]; omega
theorem lineV_len {k : Int} (hk : 1 ≤ k ∧ k ≤ 5) {ns : List Int} (h : ∀ x ∈ ns, inR .i64 x) : (lineB (wordV k) ns).length ≤ 16 + 22 * ns.length := by
  have x := joinRow_wlen (wordV k) ns h
  have e : (wordV k).length ≤ 15 := by rcases wordV_of hk with rfl | rfl | rfl | rfl | rfl <;> decide
  unfold lineB; simp only [List.length_append, List.length_cons, List.length_nil]; omega
theorem print_ok {v : Api_Verdict} (hc : chkV v = 0) (hR : v.Kind = 5 → (printP v.Proof) = (proofT v.Proof, 0) ∧ (proofT v.Proof).length ≤ 90000) : (printV v).2 = 0 ∧ (printV v).1.length ≤ 1000000 := by
  obtain ⟨hk, hpl, hpi, hpr, h4, h5⟩ := chk_zero hc
  obtain ⟨q1, q2, q3⟩ := (pickedB_iff v.Picks).1 hpi
  have nil : ∀ k : Int, 1 ≤ k ∧ k ≤ 5 → (lineB (wordV k) []).length ≤ 16 := fun k hk => by have := lineV_len hk (ns := []) (by simp); simpa using this
  unfold printV
  rw [if_neg (by simp [hc])]
  unfold placedB at hpl
  by_cases k1 : v.Kind = 1
  · rw [if_pos k1] at hpl ⊢
    simp only [Bool.and_eq_true, decide_eq_true_eq] at hpl
    refine ⟨rfl, ?_⟩
    have := lineV_len (k := 1) (by omega) (ns := [v.At, v.Err]) (by
      intro z hz; simp at hz
      rcases hz with rfl | rfl
      · exact ⟨by show (-9223372036854775808 : Int) ≤ _; omega, by show _ ≤ (9223372036854775807 : Int); omega⟩
      · exact ⟨by show (-9223372036854775808 : Int) ≤ _; omega, by show _ ≤ (9223372036854775807 : Int); omega⟩)
    simp only [List.length_cons, List.length_nil] at this
    show (lineB _ _).length ≤ _; omega
  rw [if_neg k1]
  by_cases k4 : v.Kind = 4
  · rw [if_pos k4]
    refine ⟨rfl, ?_⟩
    have a := lineV_len (k := 4) (by omega) (ns := [(v.Picks.length : Int)]) (by
      intro z hz
      have hz : z = (v.Picks.length : Int) := by simpa using hz
      subst hz
      exact ⟨by show (-9223372036854775808 : Int) ≤ _; omega, by show _ ≤ (9223372036854775807 : Int); omega⟩)
    have b := picksT_len q2
    simp only [List.length_cons, List.length_nil] at a
    show (lineB _ _ ++ _).length ≤ _
    rw [List.length_append]; omega
  rw [if_neg k4]
  by_cases k5 : v.Kind = 5
  · rw [if_pos k5]
    obtain ⟨a, b⟩ := hR k5
    have c := nil 5 (by omega)
    rw [a]
    rw [if_neg (by simp only [not_or]; exact ⟨by simp, by omega⟩)]
    refine ⟨rfl, ?_⟩
    show (lineB _ _ ++ _).length ≤ _
    rw [List.length_append]; show _ + (proofT _).length ≤ _; omega
  · rw [if_neg k5]
    have c := nil v.Kind hk
    exact ⟨rfl, by show (lineB _ _).length ≤ _; omega⟩
theorem restV_ok {e : Int} {L : List PL} {v : Api_Verdict} (h : (restV e L v).2.2 = 0) : L = [] ∧ restV e L v = (v, e, 0) := by
  cases L with
  | nil => exact ⟨rfl, rfl⟩
  | cons p L => simp [restV] at h
theorem chk_nil : (chkS []).2 = 0 := rfl
theorem picked_nil : pickedB [] = true := rfl
/-- what is read is a verdict that may be, and has a text -/
theorem parse_ok {s : Bs} (hs : s.length ≤ 3000) (h : (parseV s).2.2 = 0) : chkV (parseV s).1 = 0 ∧ (parseV s).2.1 = s.length ∧ ((parseV s).1.Kind = 5 → (printP (parseV s).1.Proof) = (proofT (parseV s).1.Proof, 0) ∧ (proofT (parseV s).1.Proof).length ≤ 90000) := by
  unfold parseV at *
  rw [if_neg (by omega)] at h ⊢
  generalize linesP (token_Lines s) = L at h ⊢
  cases L with
  | nil => simp [linesV] at h
  | cons p L =>
    rw [linesV_cons] at h ⊢
    by_cases h1 : kindW (gi p 0).2 = 0
    · rw [if_pos h1] at h; simp at h
    rw [if_neg h1] at h ⊢
    by_cases h2 : (headV p s.length).2.2 ≠ 0
    · rw [if_pos h2] at h; exact absurd h h2
    rw [if_neg h2] at h ⊢
    have hk : 1 ≤ kindW (gi p 0).2 ∧ kindW (gi p 0).2 ≤ 5 := by
      rcases kindW_cases (gi p 0).2 with ⟨a, _⟩ | ⟨a, b, _⟩
      · exact absurd a h1
      · exact ⟨a, b⟩
    have hH : headV p s.length = numsOf p (gi p 0).2 (loV (kindW (gi p 0).2)) (hiV (kindW (gi p 0).2)) s.length := rfl
    generalize kindW (gi p 0).2 = k at *
    unfold kindV at h ⊢
    by_cases k1 : k = 1
    · subst k1
      rw [if_pos rfl] at h ⊢
      obtain ⟨_, e⟩ := restV_ok h
      rw [e]
      have hn : (numsOf p (gi p 0).2 [0, 1] [1000000, 99] (s.length : Int)).2.2 = 0 := by
        have : (headV p s.length).2.2 = 0 := by simpa using h2
        rw [hH] at this; exact this
      obtain ⟨_, x, y, hx, b0, b1, b2, b3⟩ := nums_two hn
      have hx : (headV p s.length).1 = [x, y] := by rw [hH]; exact hx
      rw [hx]
      have g0 : gi [x, y] 0 = x := rfl
      have g1 : gi [x, y] 1 = y := rfl
      rw [g0, g1]
      refine ⟨zero_chk (by show (1 : Int) ≤ 1 ∧ (1 : Int) ≤ 5; omega) ?_ picked_nil chk_nil (fun _ => rfl) (fun _ => rfl), rfl, fun h => absurd h (by show ¬ (1 : Int) = 5; omega)⟩
      unfold placedB
      rw [if_pos rfl]
      simp only [Bool.and_eq_true, decide_eq_true_eq]
      exact ⟨⟨⟨b0, b1⟩, b2⟩, b3⟩
    rw [if_neg k1] at h ⊢
    by_cases k4 : k = 4
    · subst k4
      rw [if_pos rfl] at h ⊢
      by_cases h3 : (picksGo s.length (gi (headV p s.length).1 0).toNat L []).1.2.2 ≠ 0
      · rw [if_pos h3] at h; exact absurd h h3
      rw [if_neg h3] at h ⊢
      obtain ⟨_, e⟩ := restV_ok h
      rw [e]
      have hn : (numsOf p (gi p 0).2 [0] [64] (s.length : Int)).2.2 = 0 := by
        have : (headV p s.length).2.2 = 0 := by simpa using h2
        rw [hH] at this; exact this
      obtain ⟨_, x, hx, b0, b1⟩ := nums_one hn
      have hx : (headV p s.length).1 = [x] := by rw [hH]; exact hx
      have g0 : gi [x] 0 = x := rfl
      obtain ⟨p1, p2, p3, p4⟩ := picks_ok s.length (gi (headV p s.length).1 0).toNat L [] (by simp) (by simp) (by simpa using h3)
      have p2 : _ = 0 + _ := p2
      refine ⟨zero_chk (by show (1 : Int) ≤ 4 ∧ (4 : Int) ≤ 5; omega) rfl ?_ chk_nil (fun h => absurd rfl h) (fun _ => rfl), rfl, fun h => absurd h (by show ¬ (4 : Int) = 5; omega)⟩
      refine (pickedB_iff _).2 ⟨?_, p3, p4⟩
      show (picksGo s.length (gi (headV p s.length).1 0).toNat L []).1.1.length ≤ 64
      rw [p2, hx, g0]; omega
    rw [if_neg k4] at h ⊢
    by_cases k5 : k = 5
    · subst k5
      rw [if_pos rfl] at h ⊢
      by_cases h3 : (proof_Parse (s.drop (verdict_behind s).toNat)).2.2 ≠ 0
      · rw [if_pos h3] at h; exact absurd h h3
      rw [if_neg h3]
      obtain ⟨a, b, c⟩ := read_len (s := s.drop (verdict_behind s).toNat) (by simp; omega) (by simpa using h3)
      exact ⟨zero_chk (by show (1 : Int) ≤ 5 ∧ (5 : Int) ≤ 5; omega) rfl picked_nil b (fun _ => rfl) (fun h => absurd rfl h), rfl, fun _ => ⟨a, c⟩⟩
    · rw [if_neg k5] at h ⊢
      obtain ⟨_, e⟩ := restV_ok h
      rw [e]
      refine ⟨zero_chk hk ?_ picked_nil chk_nil (fun _ => rfl) (fun _ => rfl), rfl, fun h => absurd h k5⟩
      unfold placedB
      rw [if_neg (by exact k1)]; rfl
theorem parse_bad {s : Bs} (h : (parseV s).2.2 ≠ 0) : (parseV s).1 = v0 := by
  unfold parseV at *
  split
  · rfl
  · rename_i hs; rw [if_neg hs] at h
    generalize linesP (token_Lines s) = L at h ⊢
    cases L with
    | nil => rfl
    | cons p L =>
      rw [linesV_cons] at h ⊢
      split
      · rfl
      · rename_i h1; rw [if_neg h1] at h
        split
        · rfl
        · rename_i h2; rw [if_neg h2] at h
          have hr : ∀ (e : Int) (L : List PL) (v : Api_Verdict), (restV e L v).2.2 ≠ 0 → (restV e L v).1 = v0 := by
            intro e L v h; cases L with
            | nil => exact absurd rfl h
            | cons _ _ => rfl
          unfold kindV at h ⊢
          split
          · rename_i h3; rw [if_pos h3] at h; exact hr _ _ _ h
          · rename_i h3; rw [if_neg h3] at h
            split
            · rename_i h4; rw [if_pos h4] at h
              split
              · rfl
              · rename_i h5; rw [if_neg h5] at h; exact hr _ _ _ h
            · rename_i h4; rw [if_neg h4] at h
              split
              · rename_i h5; rw [if_pos h5] at h
                split
                · rfl
                · rename_i h6; rw [if_neg h6] at h; exact absurd rfl h
              · rename_i h5; rw [if_neg h5] at h; exact hr _ _ _ h
/-! places -/
theorem parse_place {s : Bs} (hs : s.length ≤ 3000) : 0 ≤ (parseV s).2.1 ∧ (parseV s).2.1 ≤ s.length := by
  have hin := lines_in s
  have hb : linesP (token_Lines s) ≠ [] → 0 ≤ verdict_behind s ∧ verdict_behind s ≤ s.length := behind_le
  unfold parseV
  rw [if_neg (by omega)]
  generalize linesP (token_Lines s) = L at hin hb ⊢
  have he : (0 : Int) ≤ s.length ∧ (s.length : Int) ≤ s.length := ⟨by omega, Int.le_refl _⟩
  have hr : ∀ (L : List PL) (v : Api_Verdict), inP s.length L → 0 ≤ (restV s.length L v).2.1 ∧ (restV s.length L v).2.1 ≤ s.length := by
    intro L v h; cases L with
    | nil => exact he
    | cons p L =>
      have hp := h p (by simp)
      have := hp.2 _ (gi0_mem hp.1)
      exact ⟨this.1, by show (gi p 0).1 ≤ _; omega⟩
  cases L with
  | nil => exact he
  | cons p L =>
    have hp := hin p (by simp)
    have hL : inP s.length L := fun q hq => hin q (by simp [hq])
    have g0 := hp.2 _ (gi0_mem hp.1)
    rw [linesV_cons]
    split
    · exact ⟨g0.1, by show (gi p 0).1 ≤ _; omega⟩
    · split
      · exact numsOf_in _ _ he hp.2 _ _ _
      · unfold kindV
        split
        · exact hr _ _ hL
        · split
          · have pi := picks_in s.length s.length he (gi (headV p s.length).1 0).toNat L [] hL
            split
            · exact ⟨pi.1, pi.2.1⟩
            · exact hr _ _ pi.2.2
          · split
            · split
              · obtain ⟨b0, b1⟩ := hb (by simp)
                obtain ⟨c0, c1⟩ := parse_in (s := s.drop (verdict_behind s).toNat) (by simp; omega)
                rw [List.length_drop] at c1
                exact ⟨by show 0 ≤ verdict_behind s + _; omega, by show verdict_behind s + _ ≤ _; omega⟩
              · exact he
            · exact hr _ _ hL
theorem steps_nils (e e' : Int) {M : List (List Token_Token)} (hM : ∀ r ∈ M, r = []) : ∀ (L : List (List Token_Token)) (acc : List Api_Step), (stepsGo e' (L ++ M) acc).2.2 = (stepsGo e L acc).2.2
  | [], acc => by
    show (stepsGo e' M acc).2.2 = 0
    induction M with
    | nil => rfl
    | cons r M ih =>
      have hr := hM r (by simp)
      subst hr
      have st : stepsGo e' ([] :: M) acc = stepsGo e' M acc := by simp [stepsGo]
      rw [st]; exact ih (fun x hx => hM x (by simp [hx]))
  | t :: L, acc => by
    have st : ∀ e L acc, stepsGo e (t :: L) acc = if t = [] then stepsGo e L acc else if (acc.length : Int) ≥ 1000000 then ([], (gi t 0).At, 3) else if (stepOf t).2.e ≠ 0 then ([], (stepOf t).2.at_, (stepOf t).2.e) else stepsGo e L (acc ++ [(stepOf t).1]) := fun _ _ _ => rfl
    rw [List.cons_append, st, st]
    split
    · exact steps_nils e e' hM L acc
    · split
      · rfl
      · split
        · rfl
        · exact steps_nils e e' hM L _
def sfxB : Bs := [10, 99, 32, 97, 32, 114, 101, 109, 97, 114, 107, 10]
theorem sfx_rows (k a : Int) : ∀ r ∈ linesL sfxB k a, r = [] := by
  have e : linesL sfxB k a = [rowOf [] k a, rowOf [99, 32, 97, 32, 114, 101, 109, 97, 114, 107] (k + 1) (a + ([] : Bs).length + 1)] := by
    rw [linesL_cons (by simp [sfxB])]
    have e1 : tw sfxB = [] := rfl
    rw [e1]
    have e2 : sfxB.drop (([] : Bs).length + 1) = [99, 32, 97, 32, 114, 101, 109, 97, 114, 107, 10] := rfl
    rw [e2, linesL_cons (by simp)]
    have e3 : tw [99, 32, 97, 32, 114, 101, 109, 97, 114, 107, 10] = [99, 32, 97, 32, 114, 101, 109, 97, 114, 107] := rfl
    rw [e3]
    have e4 : ([99, 32, 97, 32, 114, 101, 109, 97, 114, 107, 10] : Bs).drop (([99, 32, 97, 32, 114, 101, 109, 97, 114, 107] : Bs).length + 1) = [] := rfl
    rw [e4, linesL_nil]
  rw [e]
  intro r hr
  rcases List.mem_cons.1 hr with rfl | hr
  · exact rowOf_nil _ _
  · have : r = rowOf [99, 32, 97, 32, 114, 101, 109, 97, 114, 107] (k + 1) (a + ([] : Bs).length + 1) := by simpa using hr
    subst this
    unfold rowOf
    rw [if_pos (by decide)]
theorem proof_sfx (r : Bs) (hr : r.length ≤ 3000) : (proof_Parse (r ++ 10 :: sfxB)).2.2 = (proof_Parse r).2.2 := by
  unfold proof_Parse
  rw [if_neg (by simp [sfxB]; omega), if_neg (by omega)]
  obtain ⟨M, hM, hN⟩ := lines_sfx sfx_rows _ r rfl 1 0
  have e : token_Lines (r ++ 10 :: sfxB) = token_Lines r ++ M := hM
  rw [e]; exact steps_nils _ _ hN _ _
theorem proof_sfx0 : (proof_Parse sfxB).2.2 = (proof_Parse []).2.2 := by
  unfold proof_Parse
  rw [if_neg (by simp [sfxB]), if_neg (by simp)]
  have e : token_Lines sfxB = token_Lines [] ++ linesL sfxB 1 0 := rfl
  rw [e]; exact steps_nils _ _ (sfx_rows 1 0) _ _
theorem rest_end (e e' : Int) (L : List PL) (v w : Api_Verdict) : (restV e' L w).2.2 = (restV e L v).2.2 := by cases L <;> rfl
theorem parse_sfx {s : Bs} (hs : s.length ≤ 3000) : (parseV (s ++ 10 :: sfxB)).2.2 = (parseV s).2.2 := by
  unfold parseV
  rw [if_neg (by simp [sfxB]; omega), if_neg (by omega)]
  obtain ⟨M, hM, hN⟩ := lines_sfx sfx_rows _ s rfl 1 0
  have e : token_Lines (s ++ 10 :: sfxB) = token_Lines s ++ M := hM
  rw [e, linesP_app, linesP_nils hN, List.append_nil]
  have hb : linesP (token_Lines s) ≠ [] → ∃ i : Nat, i ≤ s.length ∧ beh s 1 0 = 0 + i ∧ (beh (s ++ 10 :: sfxB) 1 0 = 0 + i ∨ (i = s.length ∧ beh (s ++ 10 :: sfxB) 1 0 = 0 + i + 1)) := beh_app sfxB _ s rfl 1 0
  generalize linesP (token_Lines s) = L at hb ⊢
  cases L with
  | nil => rfl
  | cons p L =>
    obtain ⟨i, i0, i1, i2⟩ := hb (by simp)
    rw [linesV_cons, linesV_cons]
    obtain ⟨h1, h2⟩ := numsOf_end (s.length : Int) ((s ++ 10 :: sfxB).length : Int) p (gi p 0).2 (loV (kindW (gi p 0).2)) (hiV (kindW (gi p 0).2))
    have h1 : (headV p (s ++ 10 :: sfxB).length).1 = (headV p s.length).1 := h1
    have h2 : (headV p (s ++ 10 :: sfxB).length).2.2 = (headV p s.length).2.2 := h2
    rw [h1, h2]
    split
    · rfl
    · split
      · rfl
      · unfold kindV
        split
        · exact rest_end _ _ _ _ _
        · split
          · obtain ⟨a, b, c⟩ := picks_end (s.length : Int) ((s ++ 10 :: sfxB).length : Int) (gi (headV p s.length).1 0).toNat L []
            rw [a, b, c]
            split
            · rfl
            · exact rest_end _ _ _ _ _
          · split
            · have key : (proof_Parse ((s ++ 10 :: sfxB).drop (verdict_behind (s ++ 10 :: sfxB)).toNat)).2.2 = (proof_Parse (s.drop (verdict_behind s).toNat)).2.2 := by
                have b1 : verdict_behind s = 0 + i := i1
                rw [b1, show ((0 : Int) + (i : Int)).toNat = i by omega]
                rcases i2 with i2 | ⟨i2, i3⟩
                · have b2 : verdict_behind (s ++ 10 :: sfxB) = 0 + i := i2
                  rw [b2, show ((0 : Int) + (i : Int)).toNat = i by omega, List.drop_append_of_le_length i0]
                  exact proof_sfx _ (by simp; omega)
                · have b2 : verdict_behind (s ++ 10 :: sfxB) = 0 + i + 1 := i3
                  rw [b2, show ((0 : Int) + (i : Int) + 1).toNat = s.length + 1 by omega, drop_ten, show s.drop i = [] from List.drop_eq_nil_of_le (by omega)]
                  exact proof_sfx0
              rw [key]
              split
              · rfl
              · rfl
            · exact rest_end _ _ _ _ _
end Go.Proofs.YtkgcdoeldilhaaaDoor
