/- The laws TokenTells, TokenCounts and TokenNumbers: plain. -/
import Derived.Test.YtohbpcjnilefbaaDoorKV6
set_option linter.all false
namespace Go.Proofs.YtohbpcjnilefbaaDoor
open Go Go.Sv Go.Pu
/-! how long it gets -/
theorem wgo_sum : ∀ (l : Bs) (i : Int) (cur : Bs), ((wgo l i cur).map (fun p => p.2.length + 1)).sum ≤ 2 * (l.length + cur.length)
  | [], i, cur => by
    cases cur with
    | nil => simp [wgo]
    | cons c q => simp [wgo]; omega
  | b :: r, i, cur => by
    by_cases hg : gapB b = true
    · have ih := wgo_sum r (i + 1) []
      cases cur with
      | nil => rw [wgo_gap0 hg]; simp only [List.length_cons, List.length_nil] at ih ⊢; omega
      | cons c q => rw [wgo_gap hg (by simp), List.map_cons, List.sum_cons]; simp only [List.length_cons, List.length_nil] at ih ⊢; omega
    · have ih := wgo_sum r (i + 1) (cur ++ [b])
      rw [wgo_in (by simpa using hg)]
      simp only [List.length_cons, List.length_append, List.length_nil] at ih ⊢; omega
theorem len_sum {α : Type} (f : α → Nat) : ∀ l : List α, l.length ≤ (l.map (fun x => f x + 1)).sum
  | [] => by simp
  | x :: r => by have := len_sum f r; simp only [List.map_cons, List.sum_cons, List.length_cons]; omega
theorem joinRow_len : ∀ l : List Bs, (joinRow l).length ≤ (l.map (fun t => t.length + 1)).sum
  | [] => by simp [joinRow]
  | t :: r => by
    have : (r.flatMap fun t => (32 : UInt8) :: t).length = (r.map (fun t => t.length + 1)).sum := by rw [List.length_flatMap]; simp
    unfold joinRow
    rw [List.length_append, this, List.map_cons, List.sum_cons]; omega
theorem row_len (l : Bs) (k a : Int) : (rowOf l k a).length ≤ 2 * l.length ∧ (joinRow ((rowOf l k a).map Token_Token.Text)).length ≤ 2 * l.length := by
  have h := wgo_sum l a []
  have h2 := len_sum (fun p : Int × Bs => p.2.length) (wgo l a [])
  have h3 := joinRow_len ((rowOf l k a).map Token_Token.Text)
  unfold rowOf at *
  split
  · simp [joinRow]
  · rename_i hr
    rw [if_neg hr] at h3
    rw [List.map_map, List.map_map] at h3
    rw [List.length_map]
    simp only [List.length_nil, Nat.add_zero] at h
    refine ⟨by omega, Nat.le_trans ?_ h⟩
    rw [List.map_map]
    exact h3
theorem lines_len : ∀ (f : Nat) (l : Bs) (k a : Int), (linesGo f l k a).length ≤ l.length ∧ (∀ r ∈ linesGo f l k a, r.length ≤ 2 * l.length) ∧ (joinAll ((linesGo f l k a).map (fun r => r.map Token_Token.Text))).length ≤ 2 * l.length + 1 ∧ (l = [] → linesGo f l k a = [])
  | 0, l, k, a => by simp [linesGo, joinAll]
  | f + 1, [], k, a => by simp [linesGo, joinAll]
  | f + 1, b :: r, k, a => by
    have e : linesGo (f + 1) (b :: r) k a = rowOf (tw (b :: r)) k a :: linesGo f ((b :: r).drop ((tw (b :: r)).length + 1)) (k + 1) (a + (tw (b :: r)).length + 1) := rfl
    rw [e]
    obtain ⟨h1, h2, h3, h4⟩ := lines_len f ((b :: r).drop ((tw (b :: r)).length + 1)) (k + 1) (a + (tw (b :: r)).length + 1)
    have ht := tw_le (b :: r)
    obtain ⟨g1, g2⟩ := row_len (tw (b :: r)) k a
    rw [List.length_drop] at h1 h2 h3
    simp only [List.length_cons] at *
    refine ⟨by omega, fun q hq => ?_, ?_, fun h => by cases h⟩
    · rcases List.mem_cons.1 hq with rfl | hq
      · omega
      · have := h2 q hq; omega
    · rw [List.map_cons, ← List.singleton_append, joinAll_app, joinAll_one]
      simp only [List.length_append, List.length_singleton]
      by_cases hd : (tw (b :: r)).length + 1 ≤ r.length + 1
      · omega
      · have hz : (b :: r).drop ((tw (b :: r)).length + 1) = [] := List.drop_eq_nil_of_le (by simp; omega)
        rw [h4 hz] at h3 ⊢
        simp only [joinAll, List.map_nil, List.flatMap_nil, List.length_nil]
        omega
theorem lines_pre (s : Bs) (hl : len1 s) : preOf (token_Lines s) ∧ preJ (token_Lines s) ∧ preRJ (ref05_Lines s) ∧ ref05_Join (ref05_Lines s) = token_Join (token_Lines s) := by
  unfold len1 at hl
  obtain ⟨h1, h2, h3, _⟩ := lines_len s.length s 1 0
  have e : ref05_Join (ref05_Lines s) = token_Join (token_Lines s) := by
    unfold ref05_Join token_Join ref05_Lines
    rw [List.map_map]
    congr 1
    apply List.map_congr_left
    intro r _
    simp [toRef]
  have h3 : (token_Join (token_Lines s)).length ≤ 2 * s.length + 1 := h3
  refine ⟨⟨by have : (token_Lines s).length ≤ s.length := h1; omega, fun r hr => by have := h2 r hr; omega⟩, by unfold preJ; omega, by unfold preRJ; rw [e]; omega, e⟩
theorem v15 : VC15 (fun r => r = law05_awake) := by
  have e1 : token_Lines [112, 32, 49, 50, 10, 99, 32, 110, 111, 10, 9, 120, 13] = [[⟨1, 0, [112]⟩, ⟨1, 2, [49, 50]⟩], [], [⟨3, 11, [120]⟩]] := by decide +kernel
  have e2 : token_Number [45, 49, 50] (-20) 20 = (-12, 0) := by decide +kernel
  have e3 : token_Number [48, 48, 55] 0 9 = (0, 5) := by decide +kernel
  have e4 : token_Number [57, 57, 57, 57, 57, 57, 57, 57, 57, 57, 57, 57, 57, 57, 57, 57, 57, 57, 57, 57, 57, 57, 57] 0 9 = (0, 7) := by decide +kernel
  have e5 : token_Number [50, 49] (-20) 20 = (0, 7) := by decide +kernel
  have e6 : token_Digits (-7) = [45, 55] := by
    show Lib.itoa (-((7 : Nat) : Int)) = _
    rw [Lib.itoa_neg 7 (by decide), Lib.decDigits_one (by decide)]; rfl
  have e7 : token_Word [120] = true := by decide +kernel
  have e8 : token_Word [120, 32, 121] = false := by decide +kernel
  have e9 : token_Join [[⟨1, 0, [112]⟩, ⟨1, 2, [49, 50]⟩], [], [⟨3, 11, [120]⟩]] = [112, 32, 49, 50, 10, 10, 120, 10] := by decide +kernel
  have pn : ∀ (s : Bs) (a b : Int), s.length ≤ 1000000 → -100 ≤ a ∧ a ≤ 100 → -100 ≤ b ∧ b ≤ 100 → preNum s a b := fun s a b h h1 h2 => ⟨h, ⟨by show (-9223372036854775808 : Int) ≤ a; omega, by show a ≤ (9223372036854775807 : Int); omega⟩, ⟨by show (-9223372036854775808 : Int) ≤ b; omega, by show b ≤ (9223372036854775807 : Int); omega⟩⟩
  have pj : preJ [[⟨1, 0, [112]⟩, ⟨1, 2, [49, 50]⟩], [], [⟨3, 11, [120]⟩]] := by unfold preJ; rw [e9]; decide
  unfold VC15
  simp only [forall_eq', e1, e2, e3, e4, e5]
  refine ⟨by unfold len1; decide, fun _ => ⟨pn _ _ _ (by decide) (by decide) (by decide), pn _ _ _ (by decide) (by decide) (by decide), pn _ _ _ (by decide) (by decide) (by decide), pn _ _ _ (by decide) (by decide) (by decide), fun h => absurd h (by decide), fun _ => ⟨by decide, fun _ => ⟨fun h => absurd h (by decide), fun _ => ⟨by decide, fun _ => ⟨fun h => absurd h (by decide), fun _ => ⟨by decide, fun _ => ?_⟩⟩⟩⟩⟩⟩⟩
  unfold VC15_J1
  refine ⟨fun h => absurd h (by decide), fun _ => ⟨by decide, fun _ => ⟨by decide, fun _ => ⟨by decide, fun _ => ⟨by decide, fun _ => ⟨⟨by decide, by decide⟩, ?_⟩, fun h => absurd h (by decide)⟩⟩, fun h => absurd h (by decide)⟩⟩⟩
  simp only [forall_eq', e6, e7, e8, e9]
  refine ⟨fun _ => ⟨by unfold len1; decide, fun _ => ⟨by unfold len1; decide, fun _ => ⟨pj, by decide⟩, fun h => absurd h (by decide)⟩, fun h => absurd h (by decide)⟩, fun h => absurd h (by decide)⟩
theorem v3 (s : Bs) : VC3 s (fun r => r = true) := by
  unfold VC3
  simp only [forall_eq']
  refine ⟨fun _ => rfl, fun h => ?_⟩
  have h := of_decide_eq_false h
  have hl : len1 s := by unfold len1; omega
  obtain ⟨p1, p2, p3, e⟩ := lines_pre s hl
  have hsame : ref05_Same (law05_Of (token_Lines s)) (ref05_Lines s) = true := by simp [ref05_Same, law05_Of, ref05_Lines]
  have hw : (token_Word s == ref05_Word s) = true := by simp [token_Word, ref05_Word]
  rw [hsame, hw, e]
  refine ⟨hl, fun _ => ⟨hl, fun _ => ⟨p1, fun _ => ⟨fun _ => ⟨hl, hl, fun _ => ⟨p2, p3, fun _ => rfl, fun h => absurd h (by simp)⟩, fun h => absurd h (by simp)⟩, fun h => absurd h (by simp)⟩⟩⟩⟩
theorem v4 (s : Bs) (lo hi : Int) (_ : s.length ≤ 140737488355328) (hlo : inR .i64 lo) (hhi : inR .i64 hi) : VC4 s lo hi (fun r => r = true) := by
  unfold VC4
  simp only [forall_eq']
  refine ⟨fun _ => rfl, fun h => ?_⟩
  have h := of_decide_eq_false h
  have p : preNum s lo hi := ⟨by omega, hlo, hhi⟩
  have e1 : ref05_Number s lo hi = token_Number s lo hi := rfl
  have e2 : ∀ n, ref05_Digits n = token_Digits n := fun _ => rfl
  rw [e1, e2, e2]
  refine ⟨p, p, fun _ => ⟨hlo, hlo, fun _ => ⟨hhi, hhi, fun _ => rfl, fun h => absurd h (by simp)⟩, fun h => absurd h (by simp)⟩, fun h => absurd h (by simp)⟩
theorem numOf_range {s : Bs} {lo hi : Int} (hlo : inR .i64 lo) (hhi : inR .i64 hi) : inR .i64 (numOf s lo hi).1 := by
  have b1 : -9223372036854775808 ≤ lo := hlo.1
  have b2 : hi ≤ 9223372036854775807 := hhi.2
  have key : ∀ x : Int, -9223372036854775808 ≤ x → x ≤ 9223372036854775807 → inR .i64 x := fun x h1 h2 => ⟨h1, h2⟩
  unfold numOf
  split
  · split
    · rename_i h; exact key _ (by omega) (by omega)
    · exact key _ (by decide) (by decide)
  · exact key _ (by decide) (by decide)
theorem v6 (n : Int) (b : Int × Int) (s : Bs) (hn : inR .i64 n) (hb : inR .i64 b.1 ∧ inR .i64 b.2) (_ : s.length ≤ 140737488355328) : VC6 n b s (fun r => r = true) := by
  unfold VC6
  simp only [forall_eq']
  refine ⟨fun _ => rfl, fun h => ?_⟩
  have h := of_decide_eq_false h
  have n1 : -9223372036854775808 ≤ n := hn.1
  have n2 : n ≤ 9223372036854775807 := hn.2
  have hil := Lib.itoa_length_le n n1 n2
  have p1 : preNum (token_Digits n) b.1 b.2 := ⟨by unfold token_Digits; omega, hb.1, hb.2⟩
  have p2 : preNum s b.1 b.2 := ⟨by omega, hb.1, hb.2⟩
  obtain ⟨i1, i2⟩ := itoa_num n
  have hnum : token_Number (token_Digits n) b.1 b.2 = if b.1 ≤ n ∧ n ≤ b.2 then (n, 0) else (0, 7) := by
    unfold token_Number numOf token_Digits
    rw [if_pos i1, i2]
  refine ⟨hn, p1, fun hx => ?_, fun _ => ⟨p2, fun _ => rfl, fun hok => ⟨numOf_range hb.1 hb.2, fun _ => rfl, fun hx => ?_⟩⟩⟩
  · exfalso
    rw [hnum] at hx
    by_cases hin : b.1 ≤ n ∧ n ≤ b.2
    · rw [if_pos hin] at hx
      simp [hin.1, hin.2] at hx
    · rw [if_neg hin] at hx
      have : (decide (n ≥ b.1) && decide (n ≤ b.2)) = false := by
        rw [Bool.and_eq_false_iff, decide_eq_false_iff_not, decide_eq_false_iff_not]; omega
      rw [this] at hx
      simp at hx
  · exfalso
    have hok : (token_Number s b.1 b.2).2 = 0 := by simpa using hok
    unfold token_Number numOf at hok hx
    split at hok
    · rename_i hnk
      rw [if_pos hnk] at hx
      split at hok
      · rename_i hin
        rw [if_pos hin] at hx
        have := itoa_sval s hnk
        have ht : token_Digits (sval s) = s := this
        simp only [ht] at hx
        simp [hin.1, hin.2] at hx
      · simp at hok
    · simp at hok
end Go.Proofs.YtohbpcjnilefbaaDoor
