/- Verdicts as text: the document's Parse. -/
import Derived.Test.YtkgcdoeldilhaaaGreatDoorNV27
set_option linter.all false
namespace Go.Proofs.YtkgcdoeldilhaaaGreatDoor
open Go Go.Sv Go.Pu
theorem picks_drop (e : Int) : ∀ (n : Nat) (L : List PL) (acc : List Api_Pick), (picksGo e n L acc).1.2.2 = 0 → (picksGo e n L acc).2 = L.drop n ∧ n ≤ L.length
 | 0, L, acc, _ => ⟨rfl, by omega⟩
 | n + 1, [], acc, h => by simp [picksGo] at h
 | n + 1, p :: L, acc, h => by
  rw [picksGo_succ] at h ⊢
  by_cases h1 : (numsOf p wPick [0, 0] [63, 1000000] e).2.2 ≠ 0
  ·rw [if_pos h1] at h; exact absurd h h1
  rw [if_neg h1] at h ⊢
  by_cases h2 : (acc.any fun q => q.Oper == gi (numsOf p wPick [0, 0] [63, 1000000] e).1 0) = true
  ·rw [if_pos h2] at h; simp at h
  rw [if_neg h2] at h ⊢
  obtain ⟨a, b⟩ := picks_drop e n L _ h
  exact ⟨by rw [a]; rfl, by simp; omega⟩
theorem kind_text (w : Bs) {k : Int} (hk : 1 ≤ k ∧ k ≤ 5) : (w == wordV k) = decide (kindW w = k) := by
 rw [Bool.eq_iff_iff, beq_iff_eq, decide_eq_true_eq]
 refine ⟨fun h => by rw [h, kindW_wordV hk], fun h => ?_⟩
 rcases kindW_cases w with ⟨a, _⟩ | ⟨_, _, c⟩
 ·omega
 ·rw [← h, c]
theorem v7 (s : Bs) : VC7 s (fun x => x = ref39_Parse s) := by
 unfold ref39_Parse
 refine ⟨fun h => ?_, fun h => ?_⟩
 ·have h := of_decide_eq_true h
  unfold parseV; rw [if_pos (by omega)]; rfl
 have hl : ¬ s.length > 1000000 := by have := of_decide_eq_false h; omega
 rw [parseV_le hl]
 have hg := lines_goodL s (by omega)
 have hin := lines_in s
 have hbr : linesP (token_Lines s) ≠ [] → verdict_behind s = ref39_behind s (gi (gi (linesP (token_Lines s)) 0) 0).1 := behind_ref
 have hbl : linesP (token_Lines s) ≠ [] → 0 ≤ verdict_behind s ∧ verdict_behind s ≤ s.length := behind_le
 refine ⟨by show s.length ≤ 1000000; omega, ?_⟩
 rintro _ rfl
 intro _
 have hR : ref05_Lines s = (token_Lines s).map fun l => l.map toRef := rfl
 rw [hR]
 generalize token_Lines s = L at *
 refine ⟨by show (L.map _).length ≤ 10000000; rw [List.length_map]; exact hg.1, ?_⟩
 rintro _ rfl
 intro _
 have hlink := said_link L
 have hSg : ∀ r ∈ ref24_Said (L.map fun l => l.map toRef), goodP (pairsR r) ∧ r ≠ [] := by
  intro r hr
  unfold ref24_Said at hr
  rw [List.mem_filter] at hr
  obtain ⟨hr, hne⟩ := hr
  obtain ⟨q, hq, rfl⟩ := List.mem_map.1 hr
  rw [pairs_ref]
  exact ⟨hg.2 q hq, by rintro e; rw [e] at hne; simp at hne⟩
 have hSl : (ref24_Said (L.map fun l => l.map toRef)).length ≤ 10000000 := by
  have : (ref24_Said (L.map fun l => l.map toRef)).length ≤ (L.map fun l => l.map toRef).length := List.length_filter_le _ _
  rw [List.length_map] at this
  have := hg.1; omega
 rw [← hlink] at hin hbr hbl ⊢
 generalize ref24_Said (L.map fun l => l.map toRef) = S at *
 clear hlink hR
 cases S with
 | nil => exact ⟨fun _ => rfl, fun h => by simp at h⟩
 | cons t S =>
  refine ⟨fun h => by simp at h; omega, fun _ => ?_⟩
  have g0 : gi (t :: S) 0 = t := rfl
  have hlen0 : (0 : Int) ≤ 0 ∧ 0 < ((t :: S).length : Int) := ⟨by omega, by simp <;> omega⟩
  obtain ⟨gt, tne⟩ := hSg t (by simp)
  have tpos := List.length_pos_iff.2 tne
  have htl : (0 : Int) ≤ 0 ∧ 0 < (t.length : Int) := ⟨by omega, by omega⟩
  have gp : gi (pairsR t) 0 = ((gi t 0).At, (gi t 0).Text) := pairsR_gi (by omega) (by omega)
  have hAt := (hin (pairsR t) (by simp)).2 _ (gi0_mem (p := pairsR t) (by simpa [pairsR] using tne))
  rw [gp] at hAt
  have hAtle : (gi t 0).At ≤ (s.length : Int) := by
   have h2 : (gi t 0).At + ((gi t 0).Text.length : Int) ≤ (s.length : Int) := hAt.2
   omega
  have hbr := hbr (by simp)
  have hbl := hbl (by simp)
  have hg00 : gi (gi ((t :: S).map pairsR) 0) 0 = gi (pairsR t) 0 := rfl
  rw [hg00, gp] at hbr
  simp only [g0]
  rw [List.map_cons, linesV_cons, gp]
  have hH : headV (pairsR t) s.length = numsOf (pairsR t) (gi t 0).Text (loV (kindW (gi t 0).Text)) (hiV (kindW (gi t 0).Text)) s.length := by unfold headV; rw [gp]
  rw [hH]
  -- the end
  have fin : ∀ (T : Api_Verdict × Int × Int) (k a b : Int) (P : List Api_Pick) (at_ tk : Int) (R : List Api_Step), 1 ≤ tk → restV s.length (((t :: S).map pairsR).drop tk.toNat) ⟨k, a, b, P, R⟩ = T → VC7_J6 s (fun x => x = T) (t :: S) k a b P at_ 0 tk R := by
   intro T k a b P at_ tk R ht hT
   unfold VC7_J6
   refine ⟨fun h => by simp at h, fun _ => ⟨fun h => ?_, fun h => ?_⟩⟩
   ·have h := of_decide_eq_true h
    have hn : gi (t :: S) tk ≠ [] := (hSg _ (mem_gi (by omega) h)).2
    have hp := List.length_pos_iff.2 hn
    refine ⟨⟨by omega, h⟩, fun _ => ⟨⟨by omega, by omega⟩, ?_⟩⟩
    rw [← List.map_drop, drop_gi (by omega) h, List.map_cons] at hT
    have e : (gi (pairsR (gi (t :: S) tk)) 0).1 = (gi (gi (t :: S) tk) 0).At := by rw [pairsR_gi (by omega) (by omega)]
    rw [← hT]
    show _ = (v0, (gi (pairsR (gi (t :: S) tk)) 0).1, 6)
    rw [e]; rfl
   ·have h := of_decide_eq_false h
    rw [List.drop_eq_nil_of_le (by rw [List.length_map]; omega)] at hT
    exact hT
  have finE : ∀ (T : Api_Verdict × Int × Int) (k a b : Int) (P : List Api_Pick) (at_ e tk : Int) (R : List Api_Step), e ≠ 0 → (v0, at_, e) = T → VC7_J6 s (fun x => x = T) (t :: S) k a b P at_ e tk R := by
   intro T k a b P at_ e tk R he hT
   unfold VC7_J6
   exact ⟨fun _ => hT, fun h => absurd (by simpa using h) he⟩
  have hd := fun h => head_nums (P := pairsR t) (w := (gi t 0).Text) (k := kindW (gi t 0).Text) (e := s.length) h
  obtain ⟨k0, k5⟩ := kindW_range (gi t 0).Text
  have hword : kindW (gi t 0).Text ≠ 0 → ref39_Word (kindW (gi t 0).Text) = (gi t 0).Text := fun h => by
   rcases kindW_cases (gi t 0).Text with ⟨a, _⟩ | ⟨_, _, c⟩
   ·exact absurd a h
   ·exact c
  have hloop : ∀ k : Int, 1 ≤ k → k ≤ 5 → ((gi t 0).Text == ref39_Word k) = decide (kindW (gi t 0).Text = k) := fun k a b => kind_text _ ⟨a, b⟩
  -- behind the loop
  have main : VC7_J1 s (fun x => x = if kindW (gi t 0).Text = 0 then (v0, (gi t 0).At, 8)
    else if (numsOf (pairsR t) (gi t 0).Text (loV (kindW (gi t 0).Text)) (hiV (kindW (gi t 0).Text)) s.length).2.2 ≠ 0 then (v0, (numsOf (pairsR t) (gi t 0).Text (loV (kindW (gi t 0).Text)) (hiV (kindW (gi t 0).Text)) s.length).2.1, (numsOf (pairsR t) (gi t 0).Text (loV (kindW (gi t 0).Text)) (hiV (kindW (gi t 0).Text)) s.length).2.2)
    else kindV s (kindW (gi t 0).Text) (numsOf (pairsR t) (gi t 0).Text (loV (kindW (gi t 0).Text)) (hiV (kindW (gi t 0).Text)) s.length).1 (S.map pairsR)) (t :: S) (kindW (gi t 0).Text) 0 0 [] [] := by
   have hlp := lohi_pre gt (kindW (gi t 0).Text)
   generalize kindW (gi t 0).Text = k at *
   unfold VC7_J1
   refine ⟨fun h => ?_, fun h => ?_⟩
   ·have h : k = 0 := by simpa using h
    rw [if_pos h]
    exact ⟨hlen0, fun _ => ⟨htl, rfl⟩⟩
   have hk : k ≠ 0 := by simpa using h
   have hkk : 1 ≤ k ∧ k ≤ 5 := by clear hd hAt hbr hin hloop hlp; omega
   rw [if_neg hk]
   have hword := hword hk
   have J3 : ∀ lo hi : List Int, loV k = lo → hiV k = hi → VC7_J3 s (fun x => x = if (numsOf (pairsR t) (gi t 0).Text (loV k) (hiV k) s.length).2.2 ≠ 0 then (v0, (numsOf (pairsR t) (gi t 0).Text (loV k) (hiV k) s.length).2.1, (numsOf (pairsR t) (gi t 0).Text (loV k) (hiV k) s.length).2.2)
     else kindV s k (numsOf (pairsR t) (gi t 0).Text (loV k) (hiV k) s.length).1 (S.map pairsR)) (t :: S) k 0 0 [] [] lo hi := by
    rintro lo hi rfl rfl
    unfold VC7_J3
    refine ⟨hlen0, fun _ => ?_⟩
    rintro _ rfl
    refine ⟨hlp, ?_⟩
    rw [hword]
    have hnu : ref24_Numbers (gi (t :: S) 0) (gi t 0).Text (loV k) (hiV k) s.length = numsOf (pairsR t) (gi t 0).Text (loV k) (hiV k) s.length := rfl
    rw [hnu]
    rintro _ rfl
    intro _
    generalize numsOf (pairsR t) (gi t 0).Text (loV k) (hiV k) s.length = q at *
    refine ⟨fun h => by rw [if_pos (bne_iff_ne.1 h)]; rfl, fun h => ?_⟩
    have hq : q.2.2 = 0 := by rw [bne_eq_false_iff_eq] at h; exact h
    rw [if_neg (by simp [hq])]
    obtain ⟨z1, z2, z3⟩ := hd hq
    refine ⟨fun k1 => ?_, fun k1 => ?_⟩
    ·have k1 : k = 1 := by simpa using k1
     obtain ⟨x, y, hxy⟩ := z2 k1
     have hql : q.1.length = 2 := by rw [hxy]; rfl
     subst k1
     rw [kind_1]
     refine ⟨⟨by omega, by omega⟩, ⟨by omega, by omega⟩, ?_⟩
     unfold VC7_J4
     refine ⟨fun h => by simp at h, fun _ => ?_⟩
     unfold VC7_J5
     refine ⟨fun h => by simp at h, fun _ => ?_⟩
     rw [hq]
     exact fin _ _ _ _ _ _ _ _ (by omega) rfl
    ·have k1 : ¬ k = 1 := by simpa using k1
     unfold VC7_J4
     refine ⟨fun k4 => ?_, fun k4 => ?_⟩
     ·have k4 : k = 4 := by simpa using k4
      obtain ⟨x, hx, x0, x1⟩ := z3 k4
      have hql : q.1.length = 1 := by rw [hx]; rfl
      have gx : gi q.1 0 = x := by rw [hx]; rfl
      subst k4
      rw [kind_4, gx]
      refine ⟨⟨by omega, by omega⟩, ⟨x0, x1, hSl, by simp, hSg⟩, ?_⟩
      rintro _ rfl
      intro _
      refine ⟨⟨by omega, by omega⟩, ?_⟩
      have hP : ref39_picks (t :: S) x s.length = (picksGo s.length x.toNat (S.map pairsR) []).1 := rfl
      rw [hP, wrp (n := 1 + x) (by omega) (by omega)]
      unfold VC7_J5
      refine ⟨fun h => by simp at h, fun _ => ?_⟩
      by_cases hf : (picksGo s.length x.toNat (S.map pairsR) []).1.2.2 ≠ 0
      ·rw [if_pos hf]
       exact finE _ _ _ _ _ _ _ _ _ hf rfl
      ·rw [if_neg hf]
       have hf : (picksGo s.length x.toNat (S.map pairsR) []).1.2.2 = 0 := by simpa using hf
       obtain ⟨d1, d2⟩ := picks_drop _ _ _ _ hf
       rw [hf]
       refine fin _ _ _ _ _ _ _ _ (by omega) ?_
       rw [d1, show (1 + x).toNat = x.toNat + 1 by omega]; rfl
     ·have k4 : ¬ k = 4 := by simpa using k4
      unfold VC7_J5
      refine ⟨fun k5 => ?_, fun k5 => ?_⟩
      ·have k5 : k = 5 := by simpa using k5
       subst k5
       rw [kind_5]
       refine ⟨hlen0, fun _ => ⟨htl, ⟨by omega, hAt.1, hAtle⟩, ?_⟩⟩
       rintro _ rfl
       have hb2 : ref39_behind s (gi (gi (t :: S) 0) 0).At = verdict_behind s := hbr.symm
       rw [hb2]
       obtain ⟨c0, c1⟩ := parse_in2 (s.drop (verdict_behind s).toNat)
       rw [List.length_drop] at c1
       refine ⟨hbl, ?_⟩
       rintro _ rfl
       intro _
       have hpp : ∀ x : Bs, ref10_Parse x = proof_Parse x := fun _ => rfl
       rw [hpp, wrp (by omega) (by omega)]
       by_cases hf : (proof_Parse (s.drop (verdict_behind s).toNat)).2.2 ≠ 0
       ·rw [if_pos hf]
        exact finE _ _ _ _ _ _ _ _ _ hf rfl
       ·rw [if_neg hf]
        have hf : (proof_Parse (s.drop (verdict_behind s).toNat)).2.2 = 0 := by simpa using hf
        rw [hf]
        refine fin _ _ _ _ _ _ _ _ (by simp; omega) ?_
        rw [List.drop_eq_nil_of_le (by rw [List.length_map]; omega)]; rfl
      ·have k5 : ¬ k = 5 := by simpa using k5
       rw [kind_cases hkk k1 k4 k5, hq]
       exact fin _ _ _ _ _ _ _ _ (by omega) rfl
   have e1 : k = 1 → loV k = [0, 1] ∧ hiV k = [1000000, 99] := fun h => by subst h; exact ⟨rfl, rfl⟩
   have e4 : k = 4 → loV k = [0] ∧ hiV k = [64] := fun h => by subst h; exact ⟨rfl, rfl⟩
   have e0 : k ≠ 1 → k ≠ 4 → loV k = [] ∧ hiV k = [] := fun a b => by unfold loV hiV; rw [if_neg a, if_neg b, if_neg a, if_neg b]; exact ⟨rfl, rfl⟩
   unfold VC7_J2
   refine ⟨fun k1 => ?_, fun k1 => ?_⟩
   ·have k1 : k = 1 := by simpa using k1
    refine ⟨fun k4 => ?_, fun _ => J3 _ _ (e1 k1).1 (e1 k1).2⟩
    have k4 : k = 4 := by simpa using k4
    omega
   ·have k1 : ¬ k = 1 := by simpa using k1
    refine ⟨fun k4 => ?_, fun k4 => ?_⟩
    ·have k4 : k = 4 := by simpa using k4
     exact J3 _ _ (e4 k4).1 (e4 k4).2
    ·have k4 : ¬ k = 4 := by simpa using k4
     exact J3 _ _ (e0 k1 k4).1 (e0 k1 k4).2
  refine ⟨fun k x a b P R => 1 ≤ k ∧ k ≤ 6 ∧ a = 0 ∧ b = 0 ∧ P = [] ∧ R = [] ∧ x = if 1 ≤ kindW (gi t 0).Text ∧ kindW (gi t 0).Text < k then kindW (gi t 0).Text else 0, fun k _ _ _ _ _ => (6 - k).toNat, ⟨by omega, by omega, rfl, rfl, rfl, rfl, by rw [if_neg (by omega)]⟩, ?_⟩
  rintro k x a b P R ⟨i0, i1, rfl, rfl, rfl, rfl, hx⟩
  refine ⟨fun hk => ?_, fun hk => ?_⟩
  ·have hk := of_decide_eq_true hk
   refine ⟨hlen0, fun _ => ⟨htl, ?_⟩⟩
   rintro _ rfl
   rw [hloop k i0 hk]
   unfold VC7_J7
   rw [wrp (n := k + 1) (by omega) (by omega)]
   refine ⟨fun h => ?_, fun h => ?_⟩
   ·have h := of_decide_eq_true h
    exact ⟨⟨by omega, by omega, rfl, rfl, rfl, rfl, by rw [if_pos (by omega)]; exact h.symm⟩, by first | omega | (dsimp only; omega)⟩
   ·have h := of_decide_eq_false h
    refine ⟨⟨by omega, by omega, rfl, rfl, rfl, rfl, ?_⟩, by first | omega | (dsimp only; omega)⟩
    rw [hx]
    by_cases hc : 1 ≤ kindW (gi t 0).Text ∧ kindW (gi t 0).Text < k
    ·rw [if_pos hc, if_pos (by omega)]
    ·rw [if_neg hc, if_neg (by omega)]
  ·have hk := of_decide_eq_false hk
   have hx2 : x = kindW (gi t 0).Text := by
    rw [hx]
    by_cases hc : 1 ≤ kindW (gi t 0).Text ∧ kindW (gi t 0).Text < k
    ·rw [if_pos hc]
    ·rw [if_neg hc]; omega
   rw [hx2]
   exact main
theorem v5 : VC5 (fun r => r = law39_awake) := by
 have e1 : verdict_Parse [108, 105, 110, 101, 97, 114, 105, 122, 97, 98, 108, 101, 32, 49, 10, 112, 105, 99, 107, 32, 48, 32, 55, 10] = (⟨4, 0, 0, [⟨0, 7⟩], []⟩, 24, 0) := by decide +kernel
 have e2 : verdict_Parse [110, 111, 116, 108, 105, 110, 101, 97, 114, 105, 122, 97, 98, 108, 101, 10, 51, 32, 48, 32, 49, 32, 50, 32, 48, 10] = (⟨5, 0, 0, [], [⟨1, 3, [], [1, 2]⟩]⟩, 26, 0) := by decide +kernel
 have e3 : verdict_Parse [110, 111, 116, 108, 105, 110, 101, 97, 114, 105, 122, 97, 98, 108, 101, 10, 51, 32, 48, 32, 49, 32, 50] = (v0, 23, 4) := by decide +kernel
 have e4 : verdict_Parse [109, 97, 108, 102, 111, 114, 109, 101, 100, 32, 53, 32, 52] = (⟨1, 5, 4, [], []⟩, 13, 0) := by decide +kernel
 have e5 : verdict_Parse [116, 111, 111, 108, 97, 114, 103, 101, 32, 49] = (v0, 9, 6) := by decide +kernel
 have i0 : Lib.itoa 0 = [48] := itoa_d 0 (by decide)
 have i1 : Lib.itoa 1 = [49] := itoa_d 1 (by decide)
 have i7 : Lib.itoa 7 = [55] := itoa_d 7 (by decide)
 have c1 : verdict_Check ⟨4, 0, 0, [⟨0, 7⟩], []⟩ = 0 := by decide +kernel
 have c2 : verdict_Check ⟨0, 0, 0, [], []⟩ = 31 := by decide +kernel
 have p1 : verdict_Print ⟨4, 0, 0, [⟨0, 7⟩], []⟩ = ([108, 105, 110, 101, 97, 114, 105, 122, 97, 98, 108, 101, 32, 49, 10, 112, 105, 99, 107, 32, 48, 32, 55, 10], 0) := by
  show printV _ = _
  rw [print_4 (by exact c1) rfl]
  simp only [List.length_cons, List.length_nil, List.flatMap_cons, List.flatMap_nil, pickT, lineB, wordsB, joinRow, List.map_cons, List.map_nil]
  have e : ((0 + 1 : Nat) : Int) = 1 := rfl
  rw [e, i0, i1, i7]; decide
 have w3 : verdict_Word 3 = [98, 117, 100, 103, 101, 116, 111, 117, 116] := by decide
 have w6 : verdict_Word 6 = [] := by decide
 have s1 : verdict_Same ⟨4, 0, 0, [⟨0, 7⟩], []⟩ ⟨4, 0, 0, [⟨0, 7⟩], []⟩ = true := by decide
 have s2 : verdict_Same ⟨4, 0, 0, [⟨0, 7⟩], []⟩ ⟨5, 0, 0, [], [⟨1, 3, [], [1, 2]⟩]⟩ = false := by decide
 unfold VC5
 simp only [forall_eq', e1, e2, e3, e4, e5, p1, c1, c2, w3, w6, s1, s2]
 simp [law39_awake, gi]
end Go.Proofs.YtkgcdoeldilhaaaGreatDoor
