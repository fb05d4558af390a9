/- The law TokenWhole: plain: where tokens stand. -/
import Derived.Test.YtkgcdoeldilhaaaGreatDoorNV7
set_option linter.all false
namespace Go.Proofs.YtkgcdoeldilhaaaGreatDoor
open Go Go.Sv Go.Pu
def tend (t : Token_Token) : Int := t.At + t.Text.length
def cnl (s : Bs) (i : Int) : Nat := (s.take i.toNat).count 10
theorem cnl_step {s : Bs} {i : Int} (h0 : 0 ≤ i) (h : i < s.length) : cnl s (i + 1) = cnl s i + if gi s i = 10 then 1 else 0 := by
  unfold cnl
  rw [take_gi h0 h, List.count_append]
  by_cases e : gi s i = 10
  · rw [if_pos e, e]; rfl
  · rw [if_neg e, List.count_eq_zero_of_not_mem (l := [gi s i]) (by simpa using Ne.symm e)]
theorem cnl_same {s : Bs} {i e : Int} (h0 : 0 ≤ i) (h1 : i ≤ e) (h2 : e ≤ s.length) (h : ∀ j : Int, i ≤ j → j < e → gi s j ≠ 10) : cnl s e = cnl s i := by
  have key : ∀ (n : Nat) (e : Int), (e - i).toNat = n → i ≤ e → e ≤ s.length → (∀ j : Int, i ≤ j → j < e → gi s j ≠ 10) → cnl s e = cnl s i := by
    intro n
    induction n with
    | zero => intro e he h1 h2 h; rw [show e = i by omega]
    | succ n ih =>
      intro e he h1 h2 h
      have := ih (e - 1) (by omega) (by omega) (by omega) (fun j a b => h j a (by omega))
      rw [show e = e - 1 + 1 by omega, cnl_step (by omega) (by omega), this, if_neg (h (e - 1) (by omega) (by omega))]
      rfl
  exact key _ e rfl h1 h2 h
structure Good (s : Bs) (k : Int) (t : Token_Token) : Prop where
  lo : 0 ≤ t.At
  hi : tend t ≤ s.length
  txt : (s.take (tend t).toNat).drop t.At.toNat = t.Text
  ne : t.Text ≠ []
  all : t.Text.all inB = true
  line : t.Line = k
  cnt : (cnl s t.At : Int) + 1 = k
  nxt : tend t < s.length → inB (gi s (tend t)) = false
theorem Good.word {s : Bs} {k : Int} {t : Token_Token} (h : Good s k t) : token_Word t.Text = true := by
  unfold token_Word
  rw [h.all, Bool.and_true]
  cases ht : t.Text with
  | nil => exact absurd ht h.ne
  | cons _ _ => rfl
theorem wgo_good {s : Bs} {e k : Int} (he : e ≤ s.length) (hend : e < s.length → gi s e = 10) : ∀ (n : Nat) (p q : Int), (e - p).toNat = n → 0 ≤ q → q ≤ p → p ≤ e →
    (∀ j : Int, p ≤ j → j < e → gi s j ≠ 10) → ((s.take p.toNat).drop q.toNat).all inB = true → (∀ j : Int, q ≤ j → j < e → (cnl s j : Int) + 1 = k) →
    (∀ t ∈ mkT k (wgo ((s.take e.toNat).drop p.toNat) p ((s.take p.toNat).drop q.toNat)), Good s k t ∧ q ≤ t.At ∧ tend t ≤ e) ∧
    (mkT k (wgo ((s.take e.toNat).drop p.toNat) p ((s.take p.toNat).drop q.toNat))).Pairwise (fun t u => tend t ≤ u.At) := by
  intro n
  have one : ∀ (p q : Int), 0 ≤ q → q < p → p ≤ e → ((s.take p.toNat).drop q.toNat).all inB = true → (∀ j : Int, q ≤ j → j < e → (cnl s j : Int) + 1 = k) → (p < s.length → inB (gi s p) = false) →
      Good s k ⟨k, p - ((s.take p.toNat).drop q.toNat).length, (s.take p.toNat).drop q.toNat⟩ ∧ q ≤ p - ((s.take p.toNat).drop q.toNat).length ∧ tend ⟨k, p - ((s.take p.toNat).drop q.toNat).length, (s.take p.toNat).drop q.toNat⟩ ≤ e := by
    intro p q h0 h1 h2 h3 h4 h5
    have hl := seg_len (s := s) h0 (Int.le_of_lt h1) (by omega)
    have ep : p - ((s.take p.toNat).drop q.toNat).length = q := by omega
    have et : tend ⟨k, q, (s.take p.toNat).drop q.toNat⟩ = p := by unfold tend; simp only; omega
    rw [ep]
    exact ⟨⟨h0, by rw [et]; omega, by rw [et], fun e => by have e' : (s.take p.toNat).drop q.toNat = [] := e; rw [e'] at hl; simp at hl; omega, h3, rfl, h4 q (Int.le_refl _) (by omega), fun h => by rw [et] at h ⊢; exact h5 h⟩, Int.le_refl _, by rw [et]; exact h2⟩
  induction n with
  | zero =>
    intro p q hn h0 h1 h2 h3 h4 h5
    have : p = e := by omega
    subst this
    rw [seg_nil (Int.le_refl _)]
    by_cases hq : q = p
    · subst hq
      rw [seg_nil (Int.le_refl _)]
      simp [wgo, mkT]
    · have hl := seg_len (s := s) h0 h1 he
      have hne : (s.take p.toNat).drop q.toNat ≠ [] := fun e => by rw [e] at hl; simp at hl; omega
      rw [wgo_nil _ hne]
      simp only [mkT, List.map_cons, List.map_nil, List.mem_singleton, forall_eq, List.pairwise_singleton, and_true]
      exact one p q h0 (by omega) h2 h4 h5 (fun h => by rw [hend h]; decide)
  | succ n ih =>
    intro p q hn h0 h1 h2 h3 h4 h5
    have hpe : p < e := by omega
    rw [seg_cons (by omega) hpe he]
    by_cases hg : gapB (gi s p) = true
    · obtain ⟨i1, i2⟩ := ih (p + 1) (p + 1) (by omega) (by omega) (Int.le_refl _) (by omega) (fun j a b => h3 j (by omega) b) (by rw [seg_nil (Int.le_refl _)]; rfl) (fun j a b => h5 j (by omega) b)
      rw [seg_nil (i := p + 1) (e := p + 1) (Int.le_refl _)] at i1 i2
      by_cases hq : q = p
      · subst hq
        rw [seg_nil (i := q) (e := q) (Int.le_refl _), wgo_gap0 hg]
        exact ⟨fun t ht => ⟨(i1 t ht).1, by have := (i1 t ht).2.1; omega, (i1 t ht).2.2⟩, i2⟩
      · have hl := seg_len (s := s) h0 h1 (by omega)
        have hne : (s.take p.toNat).drop q.toNat ≠ [] := fun e => by rw [e] at hl; simp at hl; omega
        rw [wgo_gap hg hne]
        have ho := one p q h0 (by omega) h2 h4 h5 (fun _ => by unfold inB; rw [hg]; rfl)
        have hte : tend ⟨k, p - ((s.take p.toNat).drop q.toNat).length, (s.take p.toNat).drop q.toNat⟩ = p := by unfold tend; simp only; omega
        simp only [mkT, List.map_cons]
        refine ⟨fun t ht => ?_, List.pairwise_cons.2 ⟨fun u hu => ?_, i2⟩⟩
        · rcases List.mem_cons.1 ht with rfl | ht
          · exact ho
          · exact ⟨(i1 t ht).1, by have := (i1 t ht).2.1; omega, (i1 t ht).2.2⟩
        · rw [hte]; have := (i1 u hu).2.1; omega
    · have hg : gapB (gi s p) = false := by simpa using hg
      rw [wgo_in hg, ← seg_snoc h0 h1 (by omega)]
      refine ih (p + 1) q (by omega) h0 (by omega) (by omega) (fun j a b => h3 j (by omega) b) ?_ h5
      rw [seg_snoc h0 h1 (by omega), List.all_append, h4]
      have hn10 := h3 p (Int.le_refl _) hpe
      have : (gi s p).toNat ≠ 10 := fun e => hn10 (UInt8.toNat_inj.1 e)
      simp [inB, hg, this]
theorem lines_good {s : Bs} : ∀ (f : Nat) (a k : Int), 0 ≤ a → a ≤ s.length + 1 → (a ≤ s.length → (cnl s a : Int) + 1 = k) →
    (∀ i : Nat, ∀ r, (linesGo f (s.drop a.toNat) k a)[i]? = some r → ∀ t ∈ r, Good s (k + i) t) ∧
    (∀ t ∈ (linesGo f (s.drop a.toNat) k a).flatten, a ≤ t.At) ∧
    ((linesGo f (s.drop a.toNat) k a).flatten).Pairwise (fun t u => tend t ≤ u.At)
  | 0, a, k, _, _, _ => by simp [linesGo]
  | f + 1, a, k, h0, h1, h2 => by
    by_cases hd : s.drop a.toNat = []
    · rw [hd]; simp [linesGo]
    · have ha : a < s.length := by
        by_cases h : a < s.length
        · exact h
        · exact absurd (List.drop_eq_nil_of_le (by omega)) hd
      -- the line's end
      obtain ⟨e, e0, e1, e2, e3⟩ : ∃ e : Int, a ≤ e ∧ e ≤ s.length ∧ (∀ j : Int, a ≤ j → j < e → gi s j ≠ 10) ∧ (e < s.length → gi s e = 10) := by
        have key : ∀ (n : Nat) (b : Int), (s.length - b).toNat = n → a ≤ b → b ≤ s.length → (∀ j : Int, a ≤ j → j < b → gi s j ≠ 10) → ∃ e : Int, a ≤ e ∧ e ≤ s.length ∧ (∀ j : Int, a ≤ j → j < e → gi s j ≠ 10) ∧ (e < s.length → gi s e = 10) := by
          intro n
          induction n with
          | zero => intro b hb b0 b1 b2; exact ⟨b, b0, b1, b2, fun h => by omega⟩
          | succ n ih =>
            intro b hb b0 b1 b2
            by_cases h10 : gi s b = 10
            · exact ⟨b, b0, b1, b2, fun _ => h10⟩
            · refine ih (b + 1) (by omega) (by omega) (by omega) (fun j j0 j1 => ?_)
              by_cases hj : j = b
              · subst hj; exact h10
              · exact b2 j j0 (by omega)
        exact key _ a rfl (Int.le_refl _) (by omega) (fun j a b => by omega)
      have htw := tw_seg h0 e0 e1 e2 e3
      have hlen := seg_len (s := s) h0 e0 e1
      have hex : linesGo (f + 1) (s.drop a.toNat) k a = rowOf (tw (s.drop a.toNat)) k a :: linesGo f ((s.drop a.toNat).drop ((tw (s.drop a.toNat)).length + 1)) (k + 1) (a + (tw (s.drop a.toNat)).length + 1) := by
        cases hc : s.drop a.toNat with
        | nil => exact absurd hc hd
        | cons b r => rfl
      rw [hex, htw, List.drop_drop, hlen, show a + (e - a) + 1 = e + 1 by omega, show a.toNat + (((s.take e.toNat).drop a.toNat).length + 1) = (e + 1).toNat by omega]
      have hcnt : ∀ j : Int, a ≤ j → j ≤ e → cnl s j = cnl s a := fun j j0 j1 => cnl_same (s := s) h0 j0 (by omega) (fun x x0 x1 => e2 x x0 (by omega))
      have hk := h2 (by omega)
      obtain ⟨r1, r2, r3⟩ := lines_good (s := s) f (e + 1) (k + 1) (by omega) (by omega) (fun h => by
        rw [cnl_step (by omega) (by omega), if_pos (e3 (by omega)), hcnt e e0 (Int.le_refl _)]; omega)
      have hrow : (∀ t ∈ rowOf ((s.take e.toNat).drop a.toNat) k a, Good s k t ∧ a ≤ t.At ∧ tend t ≤ e) ∧ (rowOf ((s.take e.toNat).drop a.toNat) k a).Pairwise (fun t u => tend t ≤ u.At) := by
        unfold rowOf
        split
        · simp
        · have := wgo_good (s := s) (e := e) (k := k) e1 e3 _ a a rfl h0 (Int.le_refl _) e0 e2 (by rw [seg_nil (Int.le_refl _)]; rfl) (fun j j0 j1 => by rw [hcnt j j0 (by omega)]; exact hk)
          rw [seg_nil (i := a) (e := a) (Int.le_refl _)] at this
          exact this
      refine ⟨fun i r hr t ht => ?_, fun t ht => ?_, ?_⟩
      · cases i with
        | zero =>
          simp at hr
          subst hr
          rw [show k + ((0 : Nat) : Int) = k by omega]
          exact (hrow.1 t ht).1
        | succ i =>
          simp at hr
          rw [show k + ((i + 1 : Nat) : Int) = k + 1 + i by omega]
          exact r1 i r hr t ht
      · rw [List.flatten_cons] at ht
        rcases List.mem_append.1 ht with ht | ht
        · exact (hrow.1 t ht).2.1
        · have := r2 t ht; omega
      · rw [List.flatten_cons, List.pairwise_append]
        refine ⟨hrow.2, r3, fun t ht u hu => ?_⟩
        have h1 := (hrow.1 t ht).2.2
        have h2 := r2 u hu
        omega
end Go.Proofs.YtkgcdoeldilhaaaGreatDoor
