/- The law ObjtextPlaces: plain: where faults are. -/
import Derived.Test.YtcjldfbgccmpkaaDoorHV14
set_option linter.all false
namespace Go.Proofs.YtcjldfbgccmpkaaDoor
open Go Go.Sv Go.Pu
def hitP (L0 : PL) (at_ e : Int) : Prop := ∃ p ∈ L0, (p.1 = at_ ∧ e ≠ 4) ∨ (p.1 + p.2.length = at_ ∧ e = 4)
theorem numOf_e (t : Bs) (lo hi : Int) : (numOf t lo hi).2 ≠ 4 := by
  unfold numOf
  split
  · split <;> simp
  · simp
theorem numsGo_place (e : Int) (l0 : PL) : ∀ (bs : List (Int × Int)) (l : PL) (q : Int) (acc : List Int), (∃ p ∈ l0, p.1 + p.2.length = q) → (∀ p ∈ l, p ∈ l0) → (numsGo e l bs q acc).2.2 = 0 ∨ hitP l0 (numsGo e l bs q acc).2.1 (numsGo e l bs q acc).2.2
  | [], [], q, acc, _, _ => .inl rfl
  | [], p :: l, q, acc, _, h => .inr ⟨p, h p (by simp), .inl ⟨rfl, by simp [numsGo]⟩⟩
  | b :: bs, [], q, acc, ⟨p, hp, hq⟩, _ => .inr ⟨p, hp, .inr ⟨hq, rfl⟩⟩
  | b :: bs, p :: l, q, acc, _, h => by
    simp only [numsGo]
    by_cases he : (numOf p.2 b.1 b.2).2 ≠ 0
    · rw [if_pos he]
      exact .inr ⟨p, h p (by simp), .inl ⟨rfl, numOf_e _ _ _⟩⟩
    · rw [if_neg he]
      exact numsGo_place e l0 bs l _ _ ⟨p, h p (by simp), rfl⟩ (fun x hx => h x (by simp [hx]))
theorem numsAt_place (L : List PL) (i : Int) (w : Bs) (e : Int) (h0 : 0 ≤ i) : (numsAt L i w e).2.2 = 0 ∨ (numsAt L i w e).2.1 = e ∨ hitP L.flatten (numsAt L i w e).2.1 (numsAt L i w e).2.2 := by
  unfold numsAt
  by_cases hi : i ≥ L.length
  · rw [if_pos hi]; exact .inr (.inl rfl)
  · rw [if_neg hi]
    have hm := mem_gi (l := L) h0 (by omega)
    cases hg : gi L i with
    | nil => exact .inr (.inl rfl)
    | cons p r =>
      rw [hg] at hm
      have hf : ∀ x ∈ p :: r, x ∈ L.flatten := fun x hx => List.mem_flatten.2 ⟨_, hm, hx⟩
      rw [numsOf_cons]
      by_cases hp : p.2 ≠ w
      · rw [if_pos hp]
        exact .inr (.inr ⟨p, hf p (by simp), .inl ⟨rfl, by simp⟩⟩)
      · rw [if_neg hp]
        rcases numsGo_place e L.flatten (lo4.zip hi4) r (p.1 + p.2.length) [] ⟨p, hf p (by simp), rfl⟩ (fun x hx => hf x (by simp [hx])) with h | h
        · exact .inl h
        · exact .inr (.inr h)
theorem rowsGo_place (L : List PL) (e : Int) : ∀ (n : Nat) (i : Int) (acc : List Api_Row), 0 ≤ i → (rowsGo L e n i acc).2.2 = 0 ∨ (rowsGo L e n i acc).2.1 = e ∨ hitP L.flatten (rowsGo L e n i acc).2.1 (rowsGo L e n i acc).2.2
  | 0, i, acc, _ => .inl rfl
  | n + 1, i, acc, h0 => by
    rw [rowsGo_succ]
    by_cases he : (numsAt L i wRow e).2.2 ≠ 0
    · rw [if_pos he]
      exact numsAt_place L i wRow e h0
    · rw [if_neg he]
      exact rowsGo_place L e n (i + 1) _ (by omega)
theorem rowE_e (o : Api_Object) (i : Int) : rowE o i ≠ 4 := by
  unfold rowE
  split
  · simp
  · split
    · simp
    · split
      · simp
      · split <;> simp
theorem chk_e (o : Api_Object) : ∀ (f : Nat) (i : Int), (chkGo o f i).2 ≠ 4
  | 0, i => by simp [chkGo]
  | f + 1, i => by
    rw [chkGo_succ]
    split
    · exact rowE_e o i
    · exact chk_e o f (i + 1)
theorem check_e (o : Api_Object) : (object_Check o).2 ≠ 4 := by
  by_cases hb : badHead o
  · rw [(check_eq o).1 hb]; simp
  · rw [(check_eq o).2 hb]; exact chk_e o _ _
theorem first_mem {L : List PL} (hne : ∀ r ∈ L, r ≠ []) {i : Int} (h0 : 0 ≤ i) (h1 : i < L.length) : gi (gi L i) 0 ∈ L.flatten := by
  have hm := mem_gi (l := L) h0 h1
  refine List.mem_flatten.2 ⟨_, hm, mem_gi (Int.le_refl _) ?_⟩
  cases hx : gi L i with
  | nil => exact absurd hx (hne _ hm)
  | cons _ _ => simp
theorem takeAll_place {L : List PL} (e : Int) (hne : ∀ r ∈ L, r ≠ []) : (takeAll L e).2.2.2 = 0 ∨ (takeAll L e).2.2.1 = e ∨ hitP L.flatten (takeAll L e).2.2.1 (takeAll L e).2.2.2 := by
  by_cases hN : (headN L e).2.2 = 0
  · by_cases hR : (rowsN L e).2.2 = 0
    · by_cases hC : (object_Check (objH (headN L e).1 (rowsN L e).1)).2 = 0
      · rw [taD hN hR hC]; exact .inl rfl
      · rw [taC hN hR hC]
        have hcr := check_range _ hC
        have hcr2 : (object_Check (objH (headN L e).1 (rowsN L e).1)).1 < (rowsN L e).1.length := hcr.2
        obtain ⟨n1, n2, n3, n4⟩ := numsAt_ok hN
        have hr := rowsGo_ok L e (gi (headN L e).1 3).toNat 1 [] (by omega) hR
        obtain ⟨r1, r2, r3⟩ := hr
        have r2 : (rowsN L e).1.length = (gi (headN L e).1 3).toNat := r2.trans (by simp)
        exact .inr (.inr ⟨_, first_mem hne (by omega) (by omega), .inl ⟨rfl, check_e _⟩⟩)
    · rw [taB hN hR]
      rcases rowsGo_place L e (gi (headN L e).1 3).toNat 1 [] (by decide) with h | h | h
      · exact absurd h hR
      · exact .inr (.inl h)
      · exact .inr (.inr h)
  · rw [taA hN]
    rcases numsAt_place L 0 wObject e (Int.le_refl _) with h | h | h
    · exact absurd h hN
    · exact .inr (.inl h)
    · exact .inr (.inr h)
theorem linesP_ne : ∀ l : List (List Token_Token), ∀ r ∈ linesP l, r ≠ [] ∧ ∃ q ∈ l, r = pairsT q := by
  intro l r hr
  unfold linesP saidP at hr
  rw [List.mem_filter] at hr
  obtain ⟨h1, h2⟩ := hr
  obtain ⟨q, hq, rfl⟩ := List.mem_map.1 h1
  exact ⟨fun e => by rw [e] at h2; simp at h2, q, hq, rfl⟩
theorem parse_place (s : Bs) (hs : s.length ≤ 3000) : ((objtext_Parse s).2.2 = 0 → (objtext_Parse s).2.1 = s.length) ∧ ((objtext_Parse s).2.2 ≠ 0 → (objtext_Parse s).2.1 = s.length ∨ hitP (linesP (token_Lines s)).flatten (objtext_Parse s).2.1 (objtext_Parse s).2.2) := by
  have hne := fun r hr => (linesP_ne (token_Lines s) r hr).1
  unfold objtext_Parse
  rw [if_neg (by omega)]
  generalize linesP (token_Lines s) = L at *
  unfold parseP
  by_cases hc : (takeAll L s.length).2.2.2 = 0 ∧ (takeAll L s.length).2.1 < L.length
  · rw [if_pos hc]
    obtain ⟨t1, t2, t3, _⟩ := takeAll_ok hc.1
    exact ⟨fun h => by simp at h, fun _ => .inr ⟨_, first_mem hne t2 hc.2, .inl ⟨rfl, by simp⟩⟩⟩
  · rw [if_neg hc]
    refine ⟨fun h => (takeAll_ok h).1, fun h => ?_⟩
    rcases takeAll_place (L := L) s.length hne with h2 | h2 | h2
    · exact absurd h2 h
    · exact .inl h2
    · exact .inr h2
end Go.Proofs.YtcjldfbgccmpkaaDoor
