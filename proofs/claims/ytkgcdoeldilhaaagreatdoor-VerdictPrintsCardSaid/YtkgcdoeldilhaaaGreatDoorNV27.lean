/- Verdicts as text: Parse. -/
import Derived.Test.YtkgcdoeldilhaaaGreatDoorNV26
set_option linter.all false
namespace Go.Proofs.YtkgcdoeldilhaaaGreatDoor
open Go Go.Sv Go.Pu
theorem parse_in2 (s : Bs) : 0 ≤ (proof_Parse s).2.1 ∧ (proof_Parse s).2.1 ≤ s.length := by
  unfold proof_Parse
  split
  · exact ⟨Int.le_refl _, by show (0 : Int) ≤ _; omega⟩
  refine steps_in (by omega) (Int.le_refl _) _ _ (fun T hT t ht => ?_)
  obtain ⟨k, g⟩ := (flat_good s).1 t (List.mem_flatten.2 ⟨_, hT, ht⟩)
  have a := g.lo
  have b := g.hi
  unfold tend at b
  exact ⟨a, by omega⟩
theorem take_picks (e : Int) : ∀ (n : Nat) (L : List (List Token_Token)) (out : List Api_Pick), (takeN e n L out).1 = (picksGo e n (linesP L) out).1.1 ∧ (takeN e n L out).2.2 = (picksGo e n (linesP L) out).1.2 ∧ linesP (takeN e n L out).2.1 = (picksGo e n (linesP L) out).2
  | 0, L, out => ⟨rfl, rfl, rfl⟩
  | n + 1, L, out => by
    rw [takeN_succ]
    rcases nextL_spec L with ⟨h1, h2⟩ | ⟨h1, h2, _⟩
    · rw [h1, h2]
      have e1 : numsOf (pairsT ([] : List Token_Token)) wPick [0, 0] [63, 1000000] e = ([], e, 4) := rfl
      have e2 : picksGo e (n + 1) [] out = (([], e, 4), []) := rfl
      show _ ∧ _
      simp only [e1, e2]
      exact ⟨rfl, rfl, rfl⟩
    · rw [h1, picksGo_succ]
      have g0 : (gi (pairsT (nextL L).1) 0).1 = (gi (nextL L).1 0).At := by
        rw [pairsT_gi (by omega) (by have := List.length_pos_iff.2 h2; omega)]
      rw [g0]
      generalize numsOf (pairsT (nextL L).1) wPick [0, 0] [63, 1000000] e = q
      split
      · exact ⟨rfl, rfl, rfl⟩
      · split
        · exact ⟨rfl, rfl, rfl⟩
        · exact take_picks e n _ _
theorem parseV_le {s : Bs} (h : ¬ s.length > 1000000) : parseV s = linesV s (linesP (token_Lines s)) := by unfold parseV; rw [if_neg h]
theorem kind_cases {k : Int} (h : 1 ≤ k ∧ k ≤ 5) (h1 : k ≠ 1) (h4 : k ≠ 4) (h5 : k ≠ 5) (s : Bs) (n : List Int) (L : List PL) : kindV s k n L = restV s.length L ⟨k, 0, 0, [], []⟩ := by
  unfold kindV; rw [if_neg h1, if_neg h4, if_neg h5]
theorem kind_1 (s : Bs) (n : List Int) (L : List PL) : kindV s 1 n L = restV s.length L ⟨1, gi n 0, gi n 1, [], []⟩ := rfl
theorem kind_4 (s : Bs) (n : List Int) (L : List PL) : kindV s 4 n L = if (picksGo s.length (gi n 0).toNat L []).1.2.2 ≠ 0 then (v0, (picksGo s.length (gi n 0).toNat L []).1.2.1, (picksGo s.length (gi n 0).toNat L []).1.2.2)
    else restV s.length (picksGo s.length (gi n 0).toNat L []).2 ⟨4, 0, 0, (picksGo s.length (gi n 0).toNat L []).1.1, []⟩ := rfl
theorem kind_5 (s : Bs) (n : List Int) (L : List PL) : kindV s 5 n L = if (proof_Parse (s.drop (verdict_behind s).toNat)).2.2 ≠ 0 then (v0, verdict_behind s + (proof_Parse (s.drop (verdict_behind s).toNat)).2.1, (proof_Parse (s.drop (verdict_behind s).toNat)).2.2)
    else (⟨5, 0, 0, [], (proof_Parse (s.drop (verdict_behind s).toNat)).1⟩, s.length, 0) := rfl
theorem head_nums {P : PL} {w : Bs} {k e : Int} (h : (numsOf P w (loV k) (hiV k) e).2.2 = 0) : (numsOf P w (loV k) (hiV k) e).2.1 = e ∧ (k = 1 → ∃ x y, (numsOf P w (loV k) (hiV k) e).1 = [x, y]) ∧ (k = 4 → ∃ x, (numsOf P w (loV k) (hiV k) e).1 = [x] ∧ 0 ≤ x ∧ x ≤ 64) := by
  by_cases k1 : k = 1
  · subst k1
    obtain ⟨a, x, y, b, _⟩ := nums_two (l := P) (w := w) (a := 0) (b := 1) (c := 1000000) (d := 99) (e := e) h
    exact ⟨a, fun _ => ⟨x, y, b⟩, fun h => by omega⟩
  by_cases k4 : k = 4
  · subst k4
    obtain ⟨a, x, b, c, d⟩ := nums_one (l := P) (w := w) (a := 0) (c := 64) (e := e) h
    exact ⟨a, fun h => by omega, fun _ => ⟨x, b, c, d⟩⟩
  · refine ⟨?_, fun h => absurd h k1, fun h => absurd h k4⟩
    have e1 : loV k = [] := by unfold loV; rw [if_neg k1, if_neg k4]
    have e2 : hiV k = [] := by unfold hiV; rw [if_neg k1, if_neg k4]
    rw [e1, e2] at h ⊢
    cases P with
    | nil => simp [numsOf] at h
    | cons p P =>
      rw [numsOf_cons] at h ⊢
      by_cases hw : p.2 ≠ w
      · rw [if_pos hw] at h; simp at h
      · rw [if_neg hw] at h ⊢
        exact (numsGo_ok e _ _ _ _ h).1
theorem v6 (s : Bs) : VC6 s (fun x => x = verdict_Parse s) := by
  unfold verdict_Parse
  refine ⟨fun h => ?_, fun h => ?_⟩
  · have h := of_decide_eq_true h
    unfold parseV; rw [if_pos (by omega)]; rfl
  have hl : ¬ s.length > 1000000 := by have := of_decide_eq_false h; omega
  rw [parseV_le hl]
  have hg := lines_goodL s (by omega)
  have hbl : linesP (token_Lines s) ≠ [] → 0 ≤ verdict_behind s ∧ verdict_behind s ≤ s.length := behind_le
  refine ⟨by show s.length ≤ 1000000; omega, ?_⟩
  rintro _ rfl
  intro _
  generalize token_Lines s = L at *
  refine ⟨⟨hg, rfl⟩, ?_⟩
  rintro _ rfl
  intro _ _
  -- behind the kind
  have fin : ∀ (T : Api_Verdict × Int × Int) (r : Int × List Int × Rd) (X : List (List Token_Token)) (a b at_ : Int) (P : List Api_Pick) (R : List Api_Step), goodL X → restV s.length (linesP X) ⟨r.1, a, b, P, R⟩ = T → VC6_J1 s (fun x => x = T) r a b P R X s.length at_ 0 := by
    intro T r X a b at_ P R hX hT
    unfold VC6_J1 VC6_J2
    have hnx : verdict_reader_next (⟨X, ((s.length : Nat) : Int), at_, 0⟩ : Rd) = ((nextL X).1, ⟨(nextL X).2, s.length, at_, 0⟩) := rfl
    rw [hnx]
    rintro _ rfl
    intro _ _
    rcases nextL_spec X with ⟨h1, h2⟩ | ⟨h1, h2, _⟩
    · rw [h1] at hT
      rw [h2]
      refine ⟨fun h => ?_, fun _ => ⟨fun h => ?_, fun _ => hT⟩⟩
      · simp at h
      · simp at h
    · rw [h1] at hT
      have hp := List.length_pos_iff.2 h2
      refine ⟨fun _ => ⟨⟨by omega, by show (0 : Int) < ((nextL X).1.length : Int); omega⟩, fun _ => ?_, fun h => ?_⟩, fun h => ?_⟩
      · rw [← hT]
        have g0 : (gi (pairsT (nextL X).1) 0).1 = (gi (nextL X).1 0).At := by rw [pairsT_gi (by omega) (by omega)]
        show _ = (v0, (gi (pairsT (nextL X).1) 0).1, 6)
        rw [g0]; rfl
      · simp at h
      · have h : decide ((((nextL X).1.length : Nat) : Int) > 0) = false := by simpa using h
        have := of_decide_eq_false h; omega
  have finE : ∀ (T : Api_Verdict × Int × Int) (r : Int × List Int × Rd) (X : List (List Token_Token)) (a b at_ e : Int) (P : List Api_Pick) (R : List Api_Step), e ≠ 0 → (v0, at_, e) = T → VC6_J1 s (fun x => x = T) r a b P R X s.length at_ e := by
    intro T r X a b at_ e P R he hT
    unfold VC6_J1 VC6_J2
    have hnx : verdict_reader_next (⟨X, ((s.length : Nat) : Int), at_, e⟩ : Rd) = ((nextL X).1, ⟨(nextL X).2, s.length, at_, e⟩) := rfl
    rw [hnx]
    rintro _ rfl
    intro _ _
    refine ⟨fun h => ?_, fun _ => ⟨fun _ => hT, fun h => ?_⟩⟩
    · have h : (e == 0) = true := by
        rw [Bool.and_eq_true] at h; exact h.1
      exact absurd (by simpa using h) he
    · have h : (e != 0) = false := h
      exact absurd (by simpa using h) he
  rcases nextL_spec L with ⟨h1, h2⟩ | ⟨h1, h2, h3, h4, _⟩
  · have hh : verdict_reader_head (⟨L, ((s.length : Nat) : Int), 0, 0⟩ : Rd) = (0, [], ⟨[], s.length, s.length, 4⟩) := by
      unfold verdict_reader_head; simp only [h2]; rfl
    rw [hh, h1]
    exact ⟨fun _ => rfl, fun h => by simp at h⟩
  · rw [h1] at hbl ⊢
    have hbl := hbl (by simp)
    obtain ⟨g1, g2⟩ := goodL_next hg
    have hp := List.length_pos_iff.2 h2
    have gp : gi (pairsT (nextL L).1) 0 = ((gi (nextL L).1 0).At, (gi (nextL L).1 0).Text) := pairsT_gi (by omega) (by omega)
    rw [linesV_cons]
    have hH : headV (pairsT (nextL L).1) s.length = numsOf (pairsT (nextL L).1) (gi (nextL L).1 0).Text (loV (kindW (gi (nextL L).1 0).Text)) (hiV (kindW (gi (nextL L).1 0).Text)) s.length := by unfold headV; rw [gp]
    rw [hH, gp]
    have hh : verdict_reader_head (⟨L, ((s.length : Nat) : Int), 0, 0⟩ : Rd) = if kindW (gi (nextL L).1 0).Text = 0 then (0, [], ⟨(nextL L).2, s.length, (gi (nextL L).1 0).At, 8⟩)
        else (kindW (gi (nextL L).1 0).Text, (numsOf (pairsT (nextL L).1) (gi (nextL L).1 0).Text (loV (kindW (gi (nextL L).1 0).Text)) (hiV (kindW (gi (nextL L).1 0).Text)) s.length).1, ⟨(nextL L).2, s.length, (numsOf (pairsT (nextL L).1) (gi (nextL L).1 0).Text (loV (kindW (gi (nextL L).1 0).Text)) (hiV (kindW (gi (nextL L).1 0).Text)) s.length).2.1, (numsOf (pairsT (nextL L).1) (gi (nextL L).1 0).Text (loV (kindW (gi (nextL L).1 0).Text)) (hiV (kindW (gi (nextL L).1 0).Text)) s.length).2.2⟩) := by
      unfold verdict_reader_head
      rw [if_neg (by exact h2)]; rfl
    rw [hh]
    obtain ⟨k0, k5⟩ := kindW_range (gi (nextL L).1 0).Text
    have hd := fun h => head_nums (P := pairsT (nextL L).1) (w := (gi (nextL L).1 0).Text) (k := kindW (gi (nextL L).1 0).Text) (e := s.length) h
    generalize kindW (gi (nextL L).1 0).Text = k at *
    generalize numsOf (pairsT (nextL L).1) (gi (nextL L).1 0).Text (loV k) (hiV k) s.length = q at *
    by_cases hk : k = 0
    · rw [if_pos hk, if_pos hk]
      exact ⟨fun _ => rfl, fun h => by simp at h⟩
    rw [if_neg hk, if_neg hk]
    refine ⟨fun h => ?_, fun h => ?_⟩
    · have h : q.2.2 ≠ 0 := bne_iff_ne.1 h
      rw [if_pos h]; rfl
    have hq : q.2.2 = 0 := by rw [bne_eq_false_iff_eq] at h; exact h
    rw [if_neg (by simp [hq])]
    obtain ⟨z1, z2, z3⟩ := hd hq
    refine ⟨fun k1 => ?_, fun k1 => ⟨fun k4 => ?_, fun k4 => ⟨fun k5 => ?_, fun k5 => ?_⟩⟩⟩
    · have k1 : k = 1 := by simpa using k1
      obtain ⟨x, y, hxy⟩ := z2 k1
      have hql : q.1.length = 2 := by rw [hxy]; rfl
      subst k1
      rw [kind_1]
      refine ⟨⟨by omega, by show (0 : Int) < (q.1.length : Int); omega⟩, ⟨by omega, by show (1 : Int) < (q.1.length : Int); omega⟩, ?_⟩
      show VC6_J1 _ _ _ _ _ _ _ _ _ _ q.2.2
      rw [hq]
      exact fin _ _ _ _ _ _ _ _ g1 rfl
    · have k1 : ¬ k = 1 := by simpa using k1
      have k4 : k = 4 := by simpa using k4
      obtain ⟨x, hx, x0, x1⟩ := z3 k4
      have hql : q.1.length = 1 := by rw [hx]; rfl
      have gx : gi q.1 0 = x := by rw [hx]; rfl
      subst k4
      rw [kind_4]
      refine ⟨⟨by omega, by show (0 : Int) < (q.1.length : Int); omega⟩, ⟨by show gi q.1 0 ≤ 64; omega, g1, hq⟩, ?_⟩
      show ∀ r195, verdict_reader_picks (gi q.1 0) ⟨(nextL L).2, s.length, q.2.1, q.2.2⟩ = r195 → _
      rw [gx, hq]
      have hP : ∃ at_, verdict_reader_picks x ⟨(nextL L).2, s.length, q.2.1, 0⟩ = ((takeN s.length x.toNat (nextL L).2 []).1, ⟨(takeN s.length x.toNat (nextL L).2 []).2.1, s.length, at_, (takeN s.length x.toNat (nextL L).2 []).2.2.2⟩) ∧ ((takeN s.length x.toNat (nextL L).2 []).2.2.2 ≠ 0 → at_ = (takeN s.length x.toNat (nextL L).2 []).2.2.1) := by
        unfold verdict_reader_picks
        by_cases hx0 : x ≤ 0
        · rw [if_pos hx0, show x.toNat = 0 by omega]
          exact ⟨_, rfl, fun h => absurd rfl h⟩
        · rw [if_neg hx0]; exact ⟨_, rfl, fun _ => rfl⟩
      obtain ⟨at_, hP, hat⟩ := hP
      rw [hP]
      rintro _ rfl
      intro _ _
      obtain ⟨t1, t2, t3⟩ := take_picks s.length x.toNat (nextL L).2 []
      rw [t2] at hat
      show VC6_J1 s _ _ 0 0 (takeN s.length x.toNat (nextL L).2 []).1 [] (takeN s.length x.toNat (nextL L).2 []).2.1 s.length at_ (takeN s.length x.toNat (nextL L).2 []).2.2.2
      rw [t1, t2]
      by_cases hf : (picksGo s.length x.toNat (linesP (nextL L).2) []).1.2.2 ≠ 0
      · rw [if_pos hf]
        exact finE _ _ _ _ _ _ _ _ _ hf (by rw [hat hf])
      · rw [if_neg hf]
        have hf : (picksGo s.length x.toNat (linesP (nextL L).2) []).1.2.2 = 0 := by simpa using hf
        rw [hf]
        refine fin _ _ _ _ _ _ _ _ ?_ (by rw [t3])
        have tg : ∀ (n : Nat) (X : List (List Token_Token)) (out : List Api_Pick), goodL X → goodL (takeN s.length n X out).2.1 := by
          intro n
          induction n with
          | zero => intro X out h; exact h
          | succ n ih =>
            intro X out h
            have := (goodL_next h).1
            rw [takeN_succ]
            split
            · exact this
            · split
              · exact this
              · exact ih _ _ this
        exact tg _ _ _ g1
    · have k5 : k = 5 := by simpa using k5
      subst k5
      rw [kind_5]
      refine ⟨by show s.length ≤ 1000000; omega, ?_⟩
      rintro _ rfl
      obtain ⟨c0, c1⟩ := parse_in2 (s.drop (verdict_behind s).toNat)
      rw [List.length_drop] at c1
      refine ⟨hbl, ?_⟩
      rintro _ rfl
      intro _
      rw [wrp (by omega) (by omega)]
      refine ⟨fun h => ?_, fun h => ?_⟩
      · rw [if_pos (bne_iff_ne.1 h)]; rfl
      · have h : (proof_Parse (s.drop (verdict_behind s).toNat)).2.2 = 0 := by rw [bne_eq_false_iff_eq] at h; exact h
        rw [if_neg (by simp [h])]
        show VC6_J1 _ _ _ _ _ _ _ _ _ _ q.2.2
        rw [hq]
        exact fin _ _ [] _ _ _ _ _ ⟨by simp, by simp⟩ rfl
    · have k1 : ¬ k = 1 := by simpa using k1
      have k4 : ¬ k = 4 := by simpa using k4
      have k5 : ¬ k = 5 := by simpa using k5
      rw [kind_cases (by omega) k1 k4 k5]
      show VC6_J1 _ _ _ _ _ _ _ _ _ _ q.2.2
      rw [hq]
      exact fin _ _ _ _ _ _ _ _ g1 rfl
end Go.Proofs.YtkgcdoeldilhaaaGreatDoor
