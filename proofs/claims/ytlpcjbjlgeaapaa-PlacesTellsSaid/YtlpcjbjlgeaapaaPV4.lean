/- Plain lemmas about the specification functions. Conditions: in each lemma. -/
import Derived.Test.YtlpcjbjlgeaapaaPV3
set_option linter.all false
namespace Go.Proofs.Ytlpcjbjlgeaapaa
open Go Go.Sv Go.Pu

theorem sel_succ (t : Nat) (p : Int → Bool) : sel (t + 1) p = sel t p ++ (if p (t : Int) = true then [(t : Int)] else []) := by
  unfold sel
  rw [List.range_succ, List.map_append, List.filter_append]
  simp only [List.map_cons, List.map_nil, List.filter_cons, List.filter_nil]
  rfl
theorem sel_mem {t : Nat} {p : Int → Bool} {x : Int} : x ∈ sel t p ↔ 0 ≤ x ∧ x < t ∧ p x = true := by
  unfold sel
  rw [List.mem_filter, List.mem_map]
  constructor
  · rintro ⟨⟨y, hy, rfl⟩, h⟩
    rw [List.mem_range] at hy
    exact ⟨by simp, by simpa using hy, h⟩
  · rintro ⟨h0, h1, h⟩
    exact ⟨⟨x.toNat, by rw [List.mem_range]; omega, by simp; omega⟩, h⟩
theorem sel_mono {t n : Nat} (h : t ≤ n) (p : Int → Bool) : (sel t p).length ≤ (sel n p).length := by
  unfold sel
  exact (((List.range_sublist.mpr h).map Int.ofNat).filter p).length_le
theorem sel_le (t : Nat) (p : Int → Bool) : (sel t p).length ≤ t := by
  unfold sel
  refine Nat.le_trans (List.length_filter_le _ _) ?_
  simp
theorem last_neg {l : List Int} (h : ∀ x ∈ l, 0 ≤ x) : l.getLastD (-1) < 0 ↔ l = [] := by
  cases hl : l.getLast? with
  | none =>
    rw [List.getLast?_eq_none_iff] at hl
    subst hl
    simp
  | some x =>
    have hm := List.mem_of_getLast? hl
    rw [List.getLastD_eq_getLast?, hl]
    have := h x hm
    constructor
    · intro h2; dsimp only [Option.getD] at h2; omega
    · rintro rfl; simp at hm
theorem sel_last_neg {t : Nat} {p : Int → Bool} : (sel t p).getLastD (-1) < 0 ↔ (sel t p).length = 0 := by
  rw [last_neg (fun x hx => (sel_mem.mp hx).1), List.length_eq_zero_iff]

theorem sel_one {t : Nat} {p : Int → Bool} (h : (sel t p).length = 1) : sel t p = [(sel t p).getLastD (-1)] := by
  match hs : sel t p, h with
  | [x], _ => rfl
/-- One in each row and at most one in each column: just one in each column. -/
theorem mat_sym (n : Nat) (R : Int → Int → Bool) (h1 : ∀ a : Nat, a < n → (sel n (R a)).length = 1) (h2 : ∀ k : Nat, k < n → (sel n (fun a => R a k)).length ≤ 1) : ∀ k : Nat, k < n → (sel n (fun a => R a k)).length = 1 := by
  intro k hk
  have f : ∀ a : Nat, a < n → 0 ≤ (sel n (R a)).getLastD (-1) ∧ (sel n (R a)).getLastD (-1) < n ∧ R a ((sel n (R a)).getLastD (-1)) = true := by
    intro a ha
    have := sel_one (h1 a ha)
    exact sel_mem.mp (this ▸ List.mem_singleton_self _)
  have hd : ((List.range n).map (fun (a : Nat) => (sel n (R a)).getLastD (-1))).Nodup := by
    rw [List.nodup_iff_pairwise_ne, List.pairwise_map]
    refine List.Pairwise.imp_of_mem ?_ (List.nodup_iff_pairwise_ne.mp List.nodup_range)
    intro a b ha hb hne he
    rw [List.mem_range] at ha hb
    obtain ⟨a0, a1, a2⟩ := f a ha
    obtain ⟨b0, b1, b2⟩ := f b hb
    rw [he] at a2
    have hk2 := h2 ((sel n (R b)).getLastD (-1)).toNat (by omega)
    rw [show ((((sel n (R b)).getLastD (-1)).toNat : Nat) : Int) = (sel n (R b)).getLastD (-1) by omega] at hk2
    have := two_le (p := (a : Int)) (q := (b : Int)) (sel_mem (t := n) (p := fun x => R x ((sel n (R b)).getLastD (-1))) |>.mpr ⟨by omega, by omega, a2⟩) (sel_mem.mpr ⟨by omega, by omega, b2⟩) (by omega)
    omega
  have hm := nodup_full (n := n) hd (fun x hx => by
    rw [List.mem_map] at hx
    obtain ⟨a, ha, rfl⟩ := hx
    rw [List.mem_range] at ha
    exact ⟨(f a ha).1, (f a ha).2.1⟩) (by simp) (i := (k : Int)) (by omega) (by omega)
  rw [List.mem_map] at hm
  obtain ⟨a, ha, he⟩ := hm
  rw [List.mem_range] at ha
  have := (f a ha).2.2
  rw [he] at this
  have h3 := List.length_pos_of_mem (sel_mem (t := n) (p := fun x => R x k) |>.mpr ⟨by omega, by omega, this⟩)
  have h4 := h2 k hk
  omega

theorem mat_rows {s : Numbering_Size} {m : List Bool} (h : matOK s m) {a : Nat} (ha : a < s.Ops.toNat) : (sel s.Ops.toNat (pon s m (a : Int))).length = 1 := h.2.2.1 a (List.mem_range.mpr ha)
theorem mat_cols {s : Numbering_Size} {m : List Bool} (h : matOK s m) {k : Nat} (hk : k < s.Ops.toNat) : (sel s.Ops.toNat (fun a => pon s m a (k : Int))).length = 1 := h.2.2.2 k (List.mem_range.mpr hk)
theorem mat_of {s : Numbering_Size} {m : List Bool} (hc : numbering_Check s = 0) (hl : (m.length : Int) = numbering_Vars s) (h1 : ∀ a : Nat, a < s.Ops.toNat → (sel s.Ops.toNat (pon s m (a : Int))).length = 1) (h2 : ∀ k : Nat, k < s.Ops.toNat → (sel s.Ops.toNat (fun a => pon s m a (k : Int))).length ≤ 1) : matOK s m :=
  ⟨hc, hl, fun a ha => h1 a (List.mem_range.mp ha), fun k hk => mat_sym s.Ops.toNat (pon s m) h1 h2 k (List.mem_range.mp hk)⟩
theorem mat_of2 {s : Numbering_Size} {m : List Bool} (hc : numbering_Check s = 0) (hl : (m.length : Int) = numbering_Vars s) (h1 : ∀ k : Nat, k < s.Ops.toNat → (sel s.Ops.toNat (fun a => pon s m a (k : Int))).length = 1) (h2 : ∀ a : Nat, a < s.Ops.toNat → (sel s.Ops.toNat (pon s m (a : Int))).length ≤ 1) : matOK s m :=
  ⟨hc, hl, fun a ha => mat_sym s.Ops.toNat (fun k a => pon s m a k) h1 h2 a (List.mem_range.mp ha), fun k hk => h1 k (List.mem_range.mp hk)⟩

theorem order_no {s : Numbering_Size} {m : List Bool} (h : ¬ matOK s m) : places_Order s m = ([], false) := by unfold places_Order; rw [if_neg h]

/-- The places that are taken by the first operations, and those of the next one ahead of place u. -/
def outA (s : Numbering_Size) (m : List Bool) (t u : Nat) : List Int := (List.range s.Ops.toNat).map fun k => if k < u then who s m (t + 1) k else who s m t k

theorem outA_get {s : Numbering_Size} {m : List Bool} {t u i : Nat} (h : i < (outA s m t u).length) : (outA s m t u)[i] = if i < u then who s m (t + 1) i else who s m t i := by
  simp [outA]

theorem v51 (s : Numbering_Size) (m : List Bool) : VC51 s m (fun r => r = places_Order s m) := by
  unfold VC51
  have key : ∀ b, (b = true → ¬ matOK s m) → (b = false → numbering_Check s = 0 ∧ (m.length : Int) = numbering_Vars s) → VC51_J1 s m (fun r => r = places_Order s m) b := by
    intro b hb1 hb2
    unfold VC51_J1
    refine ⟨fun h => (order_no (hb1 h)).symm, fun h => ?_⟩
    obtain ⟨hc, hl⟩ := hb2 h
    obtain ⟨c0, c1, c2, c3⟩ := check0 hc
    obtain ⟨n, hn⟩ := Int.eq_ofNat_of_zero_le c0
    have hnn : s.Ops.toNat = n := by omega
    refine ⟨⟨rfl, c0, by omega⟩, ?_⟩
    rintro _ rfl _
    simp only [decide_eq_true_eq, decide_eq_false_iff_not]
    refine ⟨fun out x => ∃ t : Nat, x = t ∧ t ≤ n ∧ out = outA s m t 0 ∧ (∀ a : Nat, a < t → (sel n (pon s m (a : Int))).length = 1) ∧ ∀ k : Nat, k < n → (sel t (fun a => pon s m a (k : Int))).length ≤ 1, fun _ x => (n - x).toNat, ⟨0, rfl, by omega, ?_, fun a ha => by omega, fun k hk => by simp [sel]⟩, ?_⟩
    · unfold outA slices_Repeat_int_int
      rw [hnn]
      apply List.ext_getElem (by simp)
      intro i hi hj
      simp [who, sel, gi]
    rintro _ _ ⟨t, rfl, ht, rfl, hrows, hcols⟩
    refine ⟨fun hx => ?_, fun hx => ?_⟩
    · have hx : t < n := by omega
      refine ⟨fun out at_ k => ∃ u : Nat, k = u ∧ u ≤ n ∧ out = outA s m t u ∧ at_ = (sel u (pon s m (t : Int))).getLastD (-1) ∧ (sel u (pon s m (t : Int))).length ≤ 1 ∧ ∀ k : Nat, k < u → (sel (t + 1) (fun a => pon s m a (k : Int))).length ≤ 1, fun _ _ k => (n - k).toNat, ⟨0, rfl, by omega, rfl, by simp [sel], by simp [sel], fun k hk => by omega⟩, ?_⟩
      rintro _ _ _ ⟨u, rfl, hu, rfl, rfl, hrow, hcol⟩
      have hlen : (outA s m t u).length = n := by unfold outA; simp; omega
      have hget : u < n → gi (outA s m t u) u = who s m t u := fun h => by
        rw [gi_nat _ _ (by omega)]
        unfold outA
        simp
      refine ⟨fun hk => ?_, fun hk => ?_⟩
      · have hk : u < n := by omega
        rintro _ rfl
        obtain ⟨e, e1, e2, e3, e4⟩ := place_eq hc (a := (t : Int)) (k := (u : Int)) (by omega) (by omega) (by omega) (by omega)
        have ew : numbering_Var s ⟨1, (t : Int), (u : Int)⟩ = place_at s t u := rfl
        rw [ew, wrp (n := place_at s t u - 1) (by omega) (by omega)]
        refine ⟨⟨by omega, by omega⟩, fun hf => ?_, fun hf => ?_⟩
        · have hf : pon s m t u = false := by simpa [pon] using hf
          unfold VC51_J4
          rw [wrp (by omega) (by omega)]
          have ec : sel (t + 1) (fun a => pon s m a (u : Int)) = sel t (fun a => pon s m a (u : Int)) := by
            rw [sel_succ, if_neg (by rw [hf]; decide), List.append_nil]
          have er : sel (u + 1) (pon s m (t : Int)) = sel u (pon s m (t : Int)) := by
            rw [sel_succ, if_neg (by rw [hf]; decide), List.append_nil]
          refine ⟨⟨u + 1, by simp, by omega, ?_, by rw [er], by rw [er]; exact hrow, ?_⟩, by dsimp only; omega⟩
          · unfold outA
            apply List.map_congr_left
            intro k hk2
            by_cases h1 : k < u
            · rw [if_pos h1, if_pos (by omega)]
            · rw [if_neg h1]
              split
              · rw [show k = u by omega]; unfold who; rw [ec]
              · rfl
          · intro k hk2
            by_cases h1 : k < u
            · exact hcol k h1
            · rw [show k = u by omega, ec]; exact hcols u hk
        · have hf : pon s m t u = true := by simpa [pon] using hf
          have er : sel (u + 1) (pon s m (t : Int)) = sel u (pon s m (t : Int)) ++ [(u : Int)] := by
            rw [sel_succ, if_pos hf]
          have ec : sel (t + 1) (fun a => pon s m a (u : Int)) = sel t (fun a => pon s m a (u : Int)) ++ [(t : Int)] := by
            rw [sel_succ, if_pos hf]
          have rowbad : (sel u (pon s m (t : Int))).length ≠ 0 → ¬ matOK s m := by
            intro h0 hok
            have h1 := mat_rows hok (a := t) (by omega)
            have h2 := sel_mono (t := u + 1) (n := s.Ops.toNat) (by omega) (pon s m (t : Int))
            rw [er, List.length_append] at h2
            simp only [List.length_cons, List.length_nil] at h2
            omega
          have colbad : (sel t (fun a => pon s m a (u : Int))).length ≠ 0 → ¬ matOK s m := by
            intro h0 hok
            have h1 := mat_cols hok (k := u) (by omega)
            have h2 := sel_mono (t := t + 1) (n := s.Ops.toNat) (by omega) (fun a => pon s m a (u : Int))
            rw [ec, List.length_append] at h2
            simp only [List.length_cons, List.length_nil] at h2
            omega
          have j5 : ∀ b, (b = true → ¬ matOK s m) → (b = false → (sel u (pon s m (t : Int))).length = 0 ∧ (sel t (fun a => pon s m a (u : Int))).length = 0) → VC51_J5 (fun r => r = places_Order s m) (t : Int) (fun out at_ k => ∃ u : Nat, k = u ∧ u ≤ n ∧ out = outA s m t u ∧ at_ = (sel u (pon s m (t : Int))).getLastD (-1) ∧ (sel u (pon s m (t : Int))).length ≤ 1 ∧ ∀ k : Nat, k < u → (sel (t + 1) (fun a => pon s m a (k : Int))).length ≤ 1) (fun _ _ k => (n - k).toNat) (outA s m t u) ((sel u (pon s m (t : Int))).getLastD (-1)) u (outA s m t u) b := by
            intro b h1 h2
            unfold VC51_J5
            refine ⟨fun h => (order_no (h1 h)).symm, fun h => ⟨⟨by omega, by omega⟩, ?_⟩⟩
            obtain ⟨z1, z2⟩ := h2 h
            rw [List.length_eq_zero_iff] at z1 z2
            unfold VC51_J4
            rw [wrp (by omega) (by omega)]
            refine ⟨⟨u + 1, by simp, by omega, ?_, by rw [er, z1]; rfl, by rw [er, z1]; simp, ?_⟩, by dsimp only; omega⟩
            · apply List.ext_getElem (by simp [outA])
              intro i hi hj
              rw [List.getElem_set, outA_get, outA_get]
              rw [show ((u : Int)).toNat = u from rfl]
              by_cases hiu : u = i
              · subst hiu
                rw [if_pos rfl, if_pos (by omega)]
                unfold who
                rw [ec, z2]; rfl
              · rw [if_neg hiu]
                by_cases h3 : i < u
                · rw [if_pos h3, if_pos (by omega)]
                · rw [if_neg h3, if_neg (by omega)]
            · intro k hk2
              by_cases h3 : k < u
              · exact hcol k h3
              · rw [show k = u by omega, ec, z2]; simp
          refine ⟨fun hat => j5 true (fun _ => rowbad ?_) (fun h => by cases h), fun hat => ⟨⟨by omega, by omega⟩, j5 _ (fun h => ?_) (fun h => ?_)⟩⟩
          · intro h0
            have := sel_last_neg.mpr h0
            omega
          · rw [decide_eq_true_eq, hget hk] at h
            refine colbad fun h0 => ?_
            have := sel_last_neg.mpr h0
            unfold who at h
            omega
          · rw [decide_eq_false_iff_not, hget hk] at h
            unfold who at h
            exact ⟨sel_last_neg.mp (by omega), sel_last_neg.mp (by omega)⟩
      · have : u = n := by omega
        subst this
        unfold VC51_J3
        rw [decide_eq_true_eq, decide_eq_false_iff_not]
        refine ⟨fun hneg => ?_, fun hneg => ?_⟩
        · refine (order_no fun hok => ?_).symm
          have h1 := mat_rows hok (a := t) (by omega)
          have h2 := sel_last_neg.mp hneg
          rw [hnn] at h1
          omega
        · rw [wrp (by omega) (by omega)]
          refine ⟨⟨t + 1, by simp, by omega, ?_, ?_, hcol⟩, by dsimp only; omega⟩
          · unfold outA
            apply List.map_congr_left
            intro k hk2
            rw [List.mem_range] at hk2
            rw [if_pos (by omega), if_neg (by omega)]
          · intro a ha
            by_cases h1 : a < t
            · exact hrows a h1
            · rw [show a = t by omega]
              have : (sel u (pon s m (t : Int))).length ≠ 0 := fun h0 => hneg (sel_last_neg.mpr h0)
              omega
    · have : t = n := by omega
      subst this
      have hok : matOK s m := mat_of hc hl (by rw [hnn]; exact hrows) (by rw [hnn]; exact hcols)
      unfold VC51_J2 places_Order
      rw [if_pos hok]
      unfold outA
      simp [hnn]
  intro _
  rintro _ rfl
  refine ⟨fun h => key true (fun _ hok => ?_) (fun h => by cases h), fun h => ?_⟩
  · rw [hok.1] at h; simp at h
  · have hc : numbering_Check s = 0 := by simpa using h
    rintro _ rfl
    refine key _ (fun h hok => ?_) (fun h => ⟨hc, by simpa using h⟩)
    rw [hok.2.1] at h; simp at h
end Go.Proofs.Ytlpcjbjlgeaapaa
