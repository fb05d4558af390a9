/- The laws of verdicts as text: plain. -/
import Derived.Test.YtkgcdoeldilhaaaDoorNV20
set_option linter.all false
namespace Go.Proofs.YtkgcdoeldilhaaaDoor
open Go Go.Sv Go.Pu
/-! picks -/
theorem pickedB_iff (l : List Api_Pick) : pickedB l = true ↔ l.length ≤ 64 ∧ (∀ p ∈ l, pickOK p = true) ∧ (l.map Api_Pick.Oper).Nodup := by
  unfold pickedB; simp [and_assoc]
theorem pickOK_iff (p : Api_Pick) : pickOK p = true ↔ 0 ≤ p.Oper ∧ p.Oper ≤ 63 ∧ 0 ≤ p.Result ∧ p.Result ≤ 1000000 := by
  unfold pickOK; simp only [Bool.and_eq_true, decide_eq_true_eq]; omega
theorem any_oper (l : List Api_Pick) (n : Int) : (l.any fun q => q.Oper == n) = true ↔ n ∈ l.map Api_Pick.Oper := by
  rw [List.any_eq_true]; simp
theorem nodup_snoc (l : List Int) (n : Int) : (l ++ [n]).Nodup ↔ l.Nodup ∧ n ∉ l := by
  rw [List.nodup_append]; simp
  intro _; constructor
  · intro h hn; exact h n hn rfl
  · intro h a ha e; exact h (e ▸ ha)
theorem picksGo_succ (e : Int) (n : Nat) (p : PL) (L : List PL) (out : List Api_Pick) : picksGo e (n + 1) (p :: L) out =
    if (numsOf p wPick [0, 0] [63, 1000000] e).2.2 ≠ 0 then (([], (numsOf p wPick [0, 0] [63, 1000000] e).2.1, (numsOf p wPick [0, 0] [63, 1000000] e).2.2), L)
    else if out.any (fun q => q.Oper == gi (numsOf p wPick [0, 0] [63, 1000000] e).1 0) then (([], (gi p 0).1, 21), L)
    else picksGo e n L (out ++ [⟨gi (numsOf p wPick [0, 0] [63, 1000000] e).1 0, gi (numsOf p wPick [0, 0] [63, 1000000] e).1 1⟩]) := rfl
def pickW (p : Api_Pick) : List Bs := wordsB wPick [p.Oper, p.Result]
theorem picks_words (e : Int) : ∀ (l acc : List Api_Pick) (L : List PL), L.map (fun r => r.map (fun p => p.2)) = l.map pickW → (∀ p ∈ l, pickOK p = true) → ((acc ++ l).map Api_Pick.Oper).Nodup → picksGo e l.length L acc = ((acc ++ l, e, 0), [])
  | [], acc, L, hL, _, _ => by
    have : L = [] := by simpa using hL
    subst this; simp [picksGo]
  | x :: l, acc, L, hL, ho, hn => by
    cases L with
    | nil => simp at hL
    | cons p L =>
      simp only [List.map_cons] at hL
      obtain ⟨h1, h2⟩ := List.cons.inj hL
      obtain ⟨o0, o1, o2, o3⟩ := (pickOK_iff x).1 (ho x (by simp))
      have hx : numsOf p wPick [0, 0] [63, 1000000] e = ([x.Oper, x.Result], e, 0) := nums_words e h1 rfl (by
        intro q hq; simp at hq
        rcases hq with rfl | rfl
        · exact ⟨o0, o1⟩
        · exact ⟨o2, o3⟩)
      rw [List.length_cons, picksGo_succ, hx, if_neg (by simp)]
      have ha : (acc.any fun q => q.Oper == x.Oper) = false := by
        rw [Bool.eq_false_iff]; intro h
        have h := (any_oper acc x.Oper).1 h
        rw [List.map_append, List.map_cons, List.nodup_append] at hn
        exact hn.2.2 _ h _ (by simp) rfl
      have g0 : gi [x.Oper, x.Result] 0 = x.Oper := rfl
      have g1 : gi [x.Oper, x.Result] 1 = x.Result := rfl
      rw [g0, g1, ha, if_neg (by simp), picks_words e l (acc ++ [x]) L h2 (fun y hy => ho y (by simp [hy])) (by simpa using hn)]
      simp
theorem picks_ok (e : Int) : ∀ (n : Nat) (L : List PL) (acc : List Api_Pick), (∀ p ∈ acc, pickOK p = true) → (acc.map Api_Pick.Oper).Nodup → (picksGo e n L acc).1.2.2 = 0 →
    (picksGo e n L acc).1.2.1 = e ∧ (picksGo e n L acc).1.1.length = acc.length + n ∧ (∀ p ∈ (picksGo e n L acc).1.1, pickOK p = true) ∧ ((picksGo e n L acc).1.1.map Api_Pick.Oper).Nodup
  | 0, L, acc, ho, hn, _ => ⟨rfl, rfl, ho, hn⟩
  | n + 1, [], acc, ho, hn, h => by simp [picksGo] at h
  | n + 1, p :: L, acc, ho, hn, h => by
    rw [picksGo_succ] at h ⊢
    by_cases h1 : (numsOf p wPick [0, 0] [63, 1000000] e).2.2 ≠ 0
    · rw [if_pos h1] at h; exact absurd h h1
    rw [if_neg h1] at h ⊢
    by_cases h2 : (acc.any fun q => q.Oper == gi (numsOf p wPick [0, 0] [63, 1000000] e).1 0) = true
    · rw [if_pos h2] at h; simp at h
    rw [if_neg h2] at h ⊢
    obtain ⟨_, x, y, hx, b0, b1, b2, b3⟩ := nums_two (by simpa using h1)
    rw [hx] at h h2 ⊢
    have g0 : gi [x, y] 0 = x := rfl
    have g1 : gi [x, y] 1 = y := rfl
    rw [g0, g1] at h ⊢; rw [g0] at h2
    obtain ⟨a, b, c, d⟩ := picks_ok e n L (acc ++ [⟨x, y⟩]) (fun q hq => by
      rcases List.mem_append.1 hq with hq | hq
      · exact ho q hq
      · have : q = ⟨x, y⟩ := by simpa using hq
        subst this; exact (pickOK_iff _).2 ⟨b0, b1, b2, b3⟩) (by
      rw [List.map_append]; exact (nodup_snoc _ _).2 ⟨hn, fun hm => h2 ((any_oper _ _).2 hm)⟩) h
    exact ⟨a, by rw [b]; simp; omega, c, d⟩
theorem picks_end (e e' : Int) : ∀ (n : Nat) (L : List PL) (acc : List Api_Pick), (picksGo e' n L acc).1.1 = (picksGo e n L acc).1.1 ∧ (picksGo e' n L acc).1.2.2 = (picksGo e n L acc).1.2.2 ∧ (picksGo e' n L acc).2 = (picksGo e n L acc).2
  | 0, L, acc => ⟨rfl, rfl, rfl⟩
  | n + 1, [], acc => ⟨rfl, rfl, rfl⟩
  | n + 1, p :: L, acc => by
    obtain ⟨a, b⟩ := numsOf_end e e' p wPick [0, 0] [63, 1000000]
    rw [picksGo_succ, picksGo_succ, a, b]
    split
    · exact ⟨rfl, rfl, rfl⟩
    · split
      · exact ⟨rfl, rfl, rfl⟩
      · exact picks_end e e' n L _
theorem gi0_mem {p : PL} (h : p ≠ []) : gi p 0 ∈ p := by
  cases p with
  | nil => exact absurd rfl h
  | cons a p => show a ∈ a :: p; simp
def inP (n : Int) (L : List PL) : Prop := ∀ p ∈ L, p ≠ [] ∧ ∀ q ∈ p, 0 ≤ q.1 ∧ q.1 + (q.2.length : Int) ≤ n
theorem picks_in (n e : Int) (he : 0 ≤ e ∧ e ≤ n) : ∀ (k : Nat) (L : List PL) (acc : List Api_Pick), inP n L → 0 ≤ (picksGo e k L acc).1.2.1 ∧ (picksGo e k L acc).1.2.1 ≤ n ∧ inP n (picksGo e k L acc).2
  | 0, L, acc, h => ⟨he.1, he.2, h⟩
  | k + 1, [], acc, h => ⟨he.1, he.2, by intro p hp; simp [picksGo] at hp⟩
  | k + 1, p :: L, acc, h => by
    have hp := h p (by simp)
    have hL : inP n L := fun q hq => h q (by simp [hq])
    rw [picksGo_succ]
    split
    · obtain ⟨a, b⟩ := numsOf_in n e he hp.2 wPick [0, 0] [63, 1000000]
      exact ⟨a, b, hL⟩
    · split
      · have := hp.2 _ (gi0_mem hp.1)
        exact ⟨this.1, by show (gi p 0).1 ≤ n; omega, hL⟩
      · exact picks_in n e he k L _ hL
theorem lines_in (s : Bs) : inP s.length (linesP (token_Lines s)) := by
  intro p hp
  obtain ⟨a, q, hq, rfl⟩ := linesP_ne _ p hp
  refine ⟨a, fun x hx => ?_⟩
  simp only [pairsT, List.mem_map] at hx
  obtain ⟨t, ht, rfl⟩ := hx
  obtain ⟨k, g⟩ := (flat_good s).1 t (List.mem_flatten.2 ⟨_, hq, ht⟩)
  have a := g.lo
  have b := g.hi
  unfold tend at b
  exact ⟨a, by show t.At + (t.Text.length : Int) ≤ _; omega⟩
/-! a verdict comes back -/
theorem chk_zero {v : Api_Verdict} (h : chkV v = 0) : (1 ≤ v.Kind ∧ v.Kind ≤ 5) ∧ placedB v = true ∧ pickedB v.Picks = true ∧ (chkS v.Proof).2 = 0 ∧ (v.Kind ≠ 4 → v.Picks = []) ∧ (v.Kind ≠ 5 → v.Proof = []) := by
  unfold chkV at h
  by_cases h1 : v.Kind < 1 ∨ v.Kind > 5
  · rw [if_pos h1] at h; simp at h
  rw [if_neg h1] at h
  by_cases h2 : fineV v = true
  · unfold fineV at h2
    simp only [Bool.and_eq_true, Bool.or_eq_true, beq_iff_eq, List.isEmpty_iff] at h2
    obtain ⟨⟨⟨⟨a, b⟩, c⟩, d⟩, e⟩ := h2
    exact ⟨by omega, a, b, c, fun h => d.resolve_left h, fun h => e.resolve_left h⟩
  · rw [if_neg h2] at h; simp at h
theorem zero_chk {v : Api_Verdict} (h0 : 1 ≤ v.Kind ∧ v.Kind ≤ 5) (h1 : placedB v = true) (h2 : pickedB v.Picks = true) (h3 : (chkS v.Proof).2 = 0) (h4 : v.Kind ≠ 4 → v.Picks = []) (h5 : v.Kind ≠ 5 → v.Proof = []) : chkV v = 0 := by
  unfold chkV
  rw [if_neg (by omega)]
  have : fineV v = true := by
    unfold fineV
    simp only [Bool.and_eq_true, Bool.or_eq_true, beq_iff_eq, List.isEmpty_iff]
    refine ⟨⟨⟨⟨h1, h2⟩, h3⟩, ?_⟩, ?_⟩
    · by_cases h : v.Kind = 4
      · exact .inl h
      · exact .inr (h4 h)
    · by_cases h : v.Kind = 5
      · exact .inl h
      · exact .inr (h5 h)
  rw [if_pos this]
theorem picksT_join (l : List Api_Pick) : l.flatMap pickT = joinAll (l.map pickW) := by
  unfold joinAll; rw [List.flatMap_map]; rfl
theorem row_words5 : rowOf (wordV 5) 1 0 = [⟨1, 0, wordV 5⟩] := by rfl
theorem no10_5 : ∀ c ∈ wordV 5, c ≠ 10 := by decide
theorem line5 (p : Bs) : lineB (wordV 5) [] ++ p = wordV 5 ++ 10 :: p := by simp [lineB, wordsB, joinRow]
theorem lines5 (p : Bs) : linesP (token_Lines (wordV 5 ++ 10 :: p)) = [(0, wordV 5)] :: linesP (linesL p 2 16) := by
  have e : token_Lines (wordV 5 ++ 10 :: p) = linesL (wordV 5 ++ 10 :: p) 1 0 := rfl
  rw [e, linesL_cons (by simp), tw_ten _ no10_5, drop_ten, row_words5, linesP_cons]
  rfl
theorem behind5 (p : Bs) : verdict_behind (wordV 5 ++ 10 :: p) = 16 := by
  have e : verdict_behind (wordV 5 ++ 10 :: p) = beh (wordV 5 ++ 10 :: p) 1 0 := rfl
  rw [e, beh_cons (by simp), tw_ten _ no10_5, row_words5, if_neg (by simp)]
  have : (wordV 5).length = 15 := rfl
  rw [List.length_append, List.length_cons, this]; omega
theorem drop5 (p : Bs) : (wordV 5 ++ 10 :: p).drop 16 = p := by
  have := drop_ten (wordV 5) p; exact this
theorem head_words {p : PL} {k : Int} (hk : 1 ≤ k ∧ k ≤ 5) {ns : List Int} (e : Int) (h : p.map (fun q => q.2) = wordsB (wordV k) ns) (hl : ns.length = ((loV k).zip (hiV k)).length) (hb : ∀ q ∈ ns.zip ((loV k).zip (hiV k)), q.2.1 ≤ q.1 ∧ q.1 ≤ q.2.2) :
    kindW (gi p 0).2 = k ∧ headV p e = (ns, e, 0) := by
  have g : (gi p 0).2 = wordV k := by
    cases p with
    | nil => simp [wordsB] at h
    | cons a p => simp [wordsB] at h; exact h.1
  unfold headV
  rw [g, kindW_wordV hk]
  exact ⟨rfl, nums_words e h hl hb⟩
theorem linesV_cons (s : Bs) (p : PL) (L : List PL) : linesV s (p :: L) = if kindW (gi p 0).2 = 0 then (v0, (gi p 0).1, 8)
      else if (headV p s.length).2.2 ≠ 0 then (v0, (headV p s.length).2.1, (headV p s.length).2.2)
      else kindV s (kindW (gi p 0).2) (headV p s.length).1 L := rfl
theorem linesV_words {s : Bs} {p : PL} {L : List PL} {k : Int} (hk : 1 ≤ k ∧ k ≤ 5) {ns : List Int} (h : p.map (fun q => q.2) = wordsB (wordV k) ns) (hl : ns.length = ((loV k).zip (hiV k)).length) (hb : ∀ q ∈ ns.zip ((loV k).zip (hiV k)), q.2.1 ≤ q.1 ∧ q.1 ≤ q.2.2) : linesV s (p :: L) = kindV s k ns L := by
  obtain ⟨a, b⟩ := head_words hk (s.length : Int) h hl hb
  rw [linesV_cons, a, b, if_neg (by omega), if_neg (by simp)]
theorem lines_words {T : List (List Bs)} (h : ∀ W ∈ T, lineOK W) : (linesP (token_Lines (joinAll T))).map (fun r => r.map (fun p => p.2)) = T :=
  linesP_of (lines_join T _ 1 0 (Nat.le_refl _) h) (fun W hW e => by obtain ⟨b, w, ts, hh, _⟩ := h W hW; rw [e] at hh; cases hh)
theorem parse_print {v : Api_Verdict} (hc : chkV v = 0) (hp : (printV v).2 = 0) (hl : (printV v).1.length ≤ 1000000) : parseV (printV v).1 = (v, ((printV v).1.length : Int), 0) := by
  obtain ⟨hk, hpl, hpi, hpr, h4, h5⟩ := chk_zero hc
  obtain ⟨K, A, E, P, R⟩ := v
  simp only at hk hpl hpi hpr h4 h5
  unfold parseV
  rw [if_neg (by omega)]
  unfold printV at hp ⊢
  rw [if_neg (by simp [hc])] at hp ⊢
  simp only at hp ⊢
  have one : ∀ (k : Int) (ns : List Int), 1 ≤ k ∧ k ≤ 5 → ns.length = ((loV k).zip (hiV k)).length → (∀ q ∈ ns.zip ((loV k).zip (hiV k)), q.2.1 ≤ q.1 ∧ q.1 ≤ q.2.2) → linesV (lineB (wordV k) ns) (linesP (token_Lines (lineB (wordV k) ns))) = kindV (lineB (wordV k) ns) k ns [] := by
    intro k ns hk hl hb
    have hw := lines_words (T := [wordsB (wordV k) ns]) (fun W hW => by have : W = wordsB (wordV k) ns := by simpa using hW
                                                                        rw [this]; exact wordV_line hk ns)
    rw [← line_join] at hw
    generalize linesP (token_Lines (lineB (wordV k) ns)) = L at hw
    cases L with
    | nil => simp at hw
    | cons p L =>
      simp only [List.map_cons] at hw
      obtain ⟨a, b⟩ := List.cons.inj hw
      have b : L = [] := by simpa using b
      subst b
      exact linesV_words hk a hl hb
  unfold placedB at hpl
  simp only at hpl
  by_cases k1 : K = 1
  · subst k1
    rw [if_pos rfl] at hpl ⊢
    have e1 := h4 (by omega)
    have e2 := h5 (by omega)
    subst e1 e2
    simp only [Bool.and_eq_true, decide_eq_true_eq] at hpl
    show linesV (lineB (wordV 1) [A, E]) _ = _
    rw [one 1 [A, E] (by omega) rfl (by
      intro q hq
      have hq : q = (A, (0, 1000000)) ∨ q = (E, (1, 99)) := by simpa [loV, hiV] using hq
      rcases hq with rfl | rfl
      · exact ⟨hpl.1.1.1, hpl.1.1.2⟩
      · exact ⟨hpl.1.2, hpl.2⟩)]
    rfl
  rw [if_neg k1] at hpl hp ⊢
  simp only [Bool.and_eq_true, beq_iff_eq] at hpl
  obtain ⟨a0, a1⟩ := hpl
  subst a0 a1
  by_cases k4 : K = 4
  · subst k4
    rw [if_pos rfl] at hp ⊢
    have e2 := h5 (by omega)
    subst e2
    obtain ⟨q1, q2, q3⟩ := (pickedB_iff P).1 hpi
    show linesV (lineB (wordV 4) [(P.length : Int)] ++ P.flatMap pickT) _ = (_, ((lineB (wordV 4) [(P.length : Int)] ++ P.flatMap pickT).length : Int), 0)
    have et : lineB (wordV 4) [(P.length : Int)] ++ P.flatMap pickT = joinAll (wordsB (wordV 4) [(P.length : Int)] :: P.map pickW) := by
      rw [picksT_join, line_join, ← joinAll_app2]; rfl
    have hw := lines_words (T := wordsB (wordV 4) [(P.length : Int)] :: P.map pickW) (fun W hW => by
      rcases List.mem_cons.1 hW with rfl | hW
      · exact wordV_line (by omega) _
      · obtain ⟨x, _, rfl⟩ := List.mem_map.1 hW; exact pick_line _)
    rw [← et] at hw
    generalize lineB (wordV 4) [(P.length : Int)] ++ P.flatMap pickT = s at hw
    generalize linesP (token_Lines s) = L at hw
    cases L with
    | nil => simp at hw
    | cons p L =>
      simp only [List.map_cons] at hw
      obtain ⟨a, b⟩ := List.cons.inj hw
      rw [linesV_words (k := 4) (by omega) a rfl (by
        intro q hq
        have hq : q = ((P.length : Int), (0, 64)) := by simpa [loV, hiV] using hq
        subst hq; exact ⟨by show (0 : Int) ≤ P.length; omega, by show (P.length : Int) ≤ 64; omega⟩)]
      unfold kindV
      rw [if_neg (by decide), if_pos rfl]
      have g0 : gi [(P.length : Int)] 0 = (P.length : Int) := rfl
      rw [g0, show ((P.length : Int)).toNat = P.length by omega, picks_words _ P [] L b q2 (by simpa using q3)]
      rfl
  have e1 := h4 k4
  subst e1
  rw [if_neg k4] at hp ⊢
  by_cases k5 : K = 5
  · subst k5
    rw [if_pos rfl] at hp ⊢
    by_cases hb : (printP R).2 ≠ 0 ∨ (lineB (wordV 5) []).length + (printP R).1.length > 1000000
    · rw [if_pos hb] at hp; simp at hp
    rw [if_neg hb]
    have hr : (printP R).2 = 0 := by
      by_cases h : (printP R).2 = 0
      · exact h
      · exact absurd (.inl h) hb
    show linesV (lineB (wordV 5) [] ++ (printP R).1) _ = (_, ((lineB (wordV 5) [] ++ (printP R).1).length : Int), 0)
    have pp := parse_proof R hr
    rw [line5]
    rw [lines5, linesV_words (k := 5) (ns := []) (by omega) rfl rfl (by simp)]
    unfold kindV
    rw [if_neg (by decide), if_neg (by decide), if_pos rfl, behind5, show (16 : Int).toNat = 16 from rfl, drop5, pp, if_neg (by simp)]
  · rw [if_neg k5] at hp ⊢
    have e2 := h5 k5
    subst e2
    have hk2 : K = 2 ∨ K = 3 := by omega
    show linesV (lineB (wordV K) []) _ = _
    rw [one K [] hk (by rcases hk2 with rfl | rfl <;> rfl) (by simp)]
    unfold kindV
    rw [if_neg k1, if_neg k4, if_neg k5]; rfl
end Go.Proofs.YtkgcdoeldilhaaaDoor
