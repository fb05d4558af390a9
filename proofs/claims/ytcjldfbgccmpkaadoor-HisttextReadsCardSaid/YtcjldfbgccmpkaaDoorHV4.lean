/- Tokens put together; the document's tokens; the same. -/
import Derived.Test.YtcjldfbgccmpkaaDoorHV3
set_option linter.all false
namespace Go.Proofs.YtcjldfbgccmpkaaDoor
open Go Go.Sv Go.Pu
theorem gi_map {α β : Type} [Inhabited α] [Inhabited β] (f : α → β) {l : List α} {i : Int} (h0 : 0 ≤ i) (h : i < l.length) : gi (l.map f) i = f (gi l i) := by
  rw [gi_cast h0 (by simpa using h), gi_cast h0 h, List.getElem_map]
theorem gi_ext {α : Type} [Inhabited α] {a b : List α} (hl : a.length = b.length) (h : ∀ j : Int, 0 ≤ j → j < a.length → gi a j = gi b j) : a = b := by
  apply List.ext_getElem hl
  intro i h1 h2
  have := h i (by omega) (by omega)
  rwa [gi_nat _ _ h1, gi_nat _ _ h2] at this
theorem joinRow_snoc (l : List Bs) (t : Bs) : joinRow (l ++ [t]) = if l = [] then t else joinRow l ++ 32 :: t := by
  cases l with
  | nil => simp [joinRow]
  | cons x r => simp [joinRow]
theorem joinRow_app (a b : List Bs) : (joinRow a).length ≤ (joinRow (a ++ b)).length := by
  cases a with
  | nil => simp [joinRow]
  | cons x r => simp [joinRow]
theorem joinAll_app (a b : List (List Bs)) : joinAll (a ++ b) = joinAll a ++ joinAll b := by simp [joinAll]
theorem joinAll_one (r : List Bs) : joinAll [r] = joinRow r ++ [10] := by simp [joinAll]
theorem jbnd {L : List (List Bs)} {x : Int} (h0 : 0 ≤ x) (h : x < L.length) (k : Nat) : (joinAll (L.take x.toNat)).length + (joinRow ((gi L x).take k)).length + 1 ≤ (joinAll L).length := by
  have e : joinAll L = joinAll (L.take x.toNat) ++ ((joinRow (gi L x) ++ [10]) ++ joinAll (L.drop (x + 1).toNat)) := by
    conv => lhs; rw [← List.take_append_drop x.toNat L, drop_gi h0 h]
    rw [joinAll_app, ← List.singleton_append, joinAll_app, joinAll_one]
  have h2 := joinRow_app ((gi L x).take k) ((gi L x).drop k)
  rw [List.take_append_drop] at h2
  rw [e]
  simp only [List.length_append, List.length_singleton]
  omega
theorem joinRow_step {r : List Bs} {k : Int} (h0 : 0 ≤ k) (h : k < r.length) : joinRow (r.take (k + 1).toNat) = if 0 < k then joinRow (r.take k.toNat) ++ 32 :: gi r k else joinRow (r.take k.toNat) ++ gi r k := by
  rw [take_gi h0 h, joinRow_snoc]
  by_cases hk : 0 < k
  · rw [if_pos hk, if_neg]
    intro e
    have := congrArg List.length e
    rw [List.length_take] at this
    simp only [List.length_nil] at this
    omega
  · have : k = 0 := by omega
    subst this
    simp [joinRow]
theorem v52 (l : List (List Token_Token)) (hp : preJ l) : VC52 l (fun r => r = token_Join l) := by
  intro hs
  unfold preJ token_Join at hp
  simp only [sm] at hs
  unfold VC52_J1 VC52_J2 VC52_J3 token_Join
  generalize hL : l.map (fun r => r.map Token_Token.Text) = L at hp ⊢
  have hLl : L.length = l.length := by rw [← hL, List.length_map]
  refine ⟨fun b x => 0 ≤ x ∧ x ≤ l.length ∧ b = joinAll (L.take x.toNat), fun _ x => (l.length - x).toNat, ⟨by omega, by omega, by simp [joinAll]⟩, ?_⟩
  rintro b x ⟨h0, h1, h2⟩
  refine ⟨fun hx => ?_, fun hx => ?_⟩
  · have hx := of_decide_eq_true hx
    have hrow : gi L x = (gi l x).map Token_Token.Text := by rw [← hL, gi_map _ h0 hx]
    have hrl : (gi L x).length = (gi l x).length := by rw [hrow, List.length_map]
    have hb := jbnd (L := L) h0 (by omega)
    refine ⟨⟨h0, hx⟩, fun hs2 => ?_⟩
    simp only [sm] at hs2
    refine ⟨fun b k => 0 ≤ k ∧ k ≤ (gi l x).length ∧ b = joinAll (L.take x.toNat) ++ joinRow ((gi L x).take k.toNat), fun _ k => ((gi l x).length - k).toNat, ⟨by omega, by omega, by simpa [joinRow] using h2⟩, ?_⟩
    rintro b k ⟨k0, k1, k2⟩
    refine ⟨fun hk => ?_, fun hk => ?_⟩
    · have hk := of_decide_eq_true hk
      have ht : (gi (gi l x) k).Text = gi (gi L x) k := by rw [hrow, gi_map _ k0 hk]
      have hst := joinRow_step (r := gi L x) k0 (by omega)
      have hb1 := hb (k + 1).toNat
      have hb0 := hb k.toNat
      rw [ht, wrp (n := k + 1) (by omega) (by omega)]
      refine ⟨⟨k0, hk⟩, fun hk0 => ?_, fun hk0 => ?_⟩
      · have hk0 := of_decide_eq_true hk0
        rw [if_pos hk0] at hst
        rw [hst] at hb1
        simp only [List.length_append, List.length_cons] at hb1
        subst k2
        refine ⟨⟨by simp only [List.length_append]; omega, by omega, by omega⟩, by simp only [List.length_append, List.length_singleton]; omega, ⟨by omega, by omega, ?_⟩, by first | omega | (dsimp only; omega)⟩
        rw [hst]
        simp
      · have hk0 := of_decide_eq_false hk0
        rw [if_neg hk0] at hst
        rw [hst] at hb1
        simp only [List.length_append] at hb1
        subst k2
        refine ⟨by simp only [List.length_append]; omega, ⟨by omega, by omega, ?_⟩, by first | omega | (dsimp only; omega)⟩
        rw [hst]
        simp
    · have hk := of_decide_eq_false hk
      have hke : k.toNat = (gi L x).length := by omega
      have hb0 := hb k.toNat
      rw [wrp (n := x + 1) (by omega) (by omega)]
      subst k2
      refine ⟨⟨by simp only [List.length_append]; omega, by omega, by omega⟩, ⟨by omega, by omega, ?_⟩, by first | omega | (dsimp only; omega)⟩
      rw [take_gi h0 (by omega), joinAll_app, joinAll_one, hke, List.take_length]
      simp
  · have hx := of_decide_eq_false hx
    rw [h2, show x.toNat = L.length by omega, List.take_length]
theorem tok_eq (x y : Ref05_Token) : (!((x.Line) == (y.Line) && ((x.At) == (y.At) && ((x.Text) == (y.Text) && true)))) = !decide (x = y) := by
  cases x; cases y
  congr 1
  rw [Bool.eq_iff_iff]
  simp
end Go.Proofs.YtcjldfbgccmpkaaDoor
