/- The laws TokenTells, TokenCounts and TokenNumbers: plain. -/
import Derived.Test.YtkgcdoeldilhaaaGreatDoorNV6
set_option linter.all false
namespace Go.Proofs.YtkgcdoeldilhaaaGreatDoor
open Go Go.Sv Go.Pu
theorem wgo_sum : ∀ (l : Bs) (i : Int) (cur : Bs), ((wgo l i cur).map (fun p => p.2.length + 1)).sum ≤ 2 * (l.length + cur.length)
  | [], i, cur => by
    cases cur with
    | nil => simp [wgo]
    | cons c q => simp [wgo]; omega
  | b :: r, i, cur => by
    by_cases hg : gapB b = true
    · have ih := wgo_sum r (i + 1) []
      cases cur with
      | nil => rw [wgo_gap0 hg]; simp only [List.length_cons, List.length_nil] at ih ⊢; omega
      | cons c q => rw [wgo_gap hg (by simp), List.map_cons, List.sum_cons]; simp only [List.length_cons, List.length_nil] at ih ⊢; omega
    · have ih := wgo_sum r (i + 1) (cur ++ [b])
      rw [wgo_in (by simpa using hg)]
      simp only [List.length_cons, List.length_append, List.length_nil] at ih ⊢; omega
theorem len_sum {α : Type} (f : α → Nat) : ∀ l : List α, l.length ≤ (l.map (fun x => f x + 1)).sum
  | [] => by simp
  | x :: r => by have := len_sum f r; simp only [List.map_cons, List.sum_cons, List.length_cons]; omega
theorem joinRow_len : ∀ l : List Bs, (joinRow l).length ≤ (l.map (fun t => t.length + 1)).sum
  | [] => by simp [joinRow]
  | t :: r => by
    have : (r.flatMap fun t => (32 : UInt8) :: t).length = (r.map (fun t => t.length + 1)).sum := by rw [List.length_flatMap]; simp
    unfold joinRow
    rw [List.length_append, this, List.map_cons, List.sum_cons]; omega
theorem row_len (l : Bs) (k a : Int) : (rowOf l k a).length ≤ 2 * l.length ∧ (joinRow ((rowOf l k a).map Token_Token.Text)).length ≤ 2 * l.length := by
  have h := wgo_sum l a []
  have h2 := len_sum (fun p : Int × Bs => p.2.length) (wgo l a [])
  have h3 := joinRow_len ((rowOf l k a).map Token_Token.Text)
  unfold rowOf at *
  split
  · simp [joinRow]
  · rename_i hr
    rw [if_neg hr] at h3
    rw [List.map_map, List.map_map] at h3
    rw [List.length_map]
    simp only [List.length_nil, Nat.add_zero] at h
    refine ⟨by omega, Nat.le_trans ?_ h⟩
    rw [List.map_map]
    exact h3
theorem lines_len : ∀ (f : Nat) (l : Bs) (k a : Int), (linesGo f l k a).length ≤ l.length ∧ (∀ r ∈ linesGo f l k a, r.length ≤ 2 * l.length) ∧ (joinAll ((linesGo f l k a).map (fun r => r.map Token_Token.Text))).length ≤ 2 * l.length + 1 ∧ (l = [] → linesGo f l k a = [])
  | 0, l, k, a => by simp [linesGo, joinAll]
  | f + 1, [], k, a => by simp [linesGo, joinAll]
  | f + 1, b :: r, k, a => by
    have e : linesGo (f + 1) (b :: r) k a = rowOf (tw (b :: r)) k a :: linesGo f ((b :: r).drop ((tw (b :: r)).length + 1)) (k + 1) (a + (tw (b :: r)).length + 1) := rfl
    rw [e]
    obtain ⟨h1, h2, h3, h4⟩ := lines_len f ((b :: r).drop ((tw (b :: r)).length + 1)) (k + 1) (a + (tw (b :: r)).length + 1)
    have ht := tw_le (b :: r)
    obtain ⟨g1, g2⟩ := row_len (tw (b :: r)) k a
    rw [List.length_drop] at h1 h2 h3
    simp only [List.length_cons] at *
    refine ⟨by omega, fun q hq => ?_, ?_, fun h => by cases h⟩
    · rcases List.mem_cons.1 hq with rfl | hq
      · omega
      · have := h2 q hq; omega
    · rw [List.map_cons, ← List.singleton_append, joinAll_app, joinAll_one]
      simp only [List.length_append, List.length_singleton]
      by_cases hd : (tw (b :: r)).length + 1 ≤ r.length + 1
      · omega
      · have hz : (b :: r).drop ((tw (b :: r)).length + 1) = [] := List.drop_eq_nil_of_le (by simp; omega)
        rw [h4 hz] at h3 ⊢
        simp only [joinAll, List.map_nil, List.flatMap_nil, List.length_nil]
        omega
end Go.Proofs.YtkgcdoeldilhaaaGreatDoor
