/- Plain lemmas about the specification functions. Conditions: in each lemma. -/
import Derived.Test.YtlpcjbjlgeaapaaSV6
set_option linter.all false
namespace Go.Proofs.Ytlpcjbjlgeaapaa
open Go Go.Sv Go.Pu

theorem vars_eq {o s : Int} (hc : ref31_Check o s = 0) : IntKind.i64.wrap ((IntKind.i64.wrap ((IntKind.i64.wrap (o * o)) + o)) + (IntKind.i64.wrap ((IntKind.i64.wrap (o + 1)) * s))) = numbering_Vars ⟨o, s⟩ := by
  obtain ⟨h0, h1, h2, h3⟩ := check0 hc
  have hm := mulb h0 h1 h0 h1
  have hn := mulb (a := o + 1) (b := s) (by omega) (by omega : o + 1 ≤ 65) (by omega) h3
  have hc' : numbering_Check ⟨o, s⟩ = 0 := hc
  unfold numbering_Vars
  rw [if_pos hc']
  dsimp only
  rw [wrp (n := o * o) (by omega) (by omega), wrp (n := o + 1) (by omega) (by omega), wrp (n := (o + 1) * s) (by omega) (by omega), wrp (n := o * o + o) (by omega) (by omega), wrp (by omega) (by omega), Int.mul_comm s]

theorem row_no {s : Numbering_Size} {m : List Bool} {t : Nat} (h : oneOf s m t = false) (ht : (t : Int) ≤ s.Ops) : states_Row s m = ([], false) := by
  unfold states_Row
  rw [if_neg]
  rintro ⟨_, _, h3⟩
  rw [List.all_eq_true] at h3
  have := h3 t (by rw [List.mem_range]; omega)
  rw [h] at this
  cases this

theorem v28 (o s : Int) (m : List Bool) : VC28 o s m (fun r => r = ref34_Row o s m) := by
  unfold VC28
  intro _ r hr
  subst hr
  unfold ref34_Row
  simp only [Bool.or_eq_true, decide_eq_true_eq, Bool.or_eq_false_iff, decide_eq_false_iff_not, bne_iff_ne, bne_eq_false_iff_eq]
  refine ⟨fun h => ?_, fun h => ?_⟩
  · by_cases hc : ref31_Check o s = 0
    · rw [vars_eq hc] at h
      unfold states_Row
      rw [if_neg]
      rintro ⟨_, h2, _⟩
      exact h.elim (fun h => h hc) (fun h => h h2)
    · unfold states_Row
      rw [if_neg]
      rintro ⟨h2, _⟩
      exact hc h2
  · obtain ⟨hc, hl⟩ := h
    rw [vars_eq hc] at hl
    have hc' : numbering_Check ⟨o, s⟩ = 0 := hc
    obtain ⟨h0, h1, h2, h3⟩ := check0 hc
    refine ⟨fun out a => ∃ t : Nat, a = t ∧ (t : Int) ≤ o + 1 ∧ out = (List.range t).map (lastOf ⟨o, s⟩ m) ∧ (List.range t).all (oneOf ⟨o, s⟩ m) = true, fun _ a => (o + 1 - a).toNat, ⟨0, rfl, by omega, by simp, by simp⟩, ?_⟩
    rintro _ _ ⟨t, rfl, ht, rfl, hall⟩
    refine ⟨fun ha => ?_, fun ha => ?_⟩
    · refine ⟨fun out b => ∃ u : Nat, b = u ∧ (u : Int) ≤ s ∧ out = (List.range t).map (lastOf ⟨o, s⟩ m) ++ trues ⟨o, s⟩ m t u, fun _ b => (s - b).toNat, ⟨0, rfl, by omega, by simp [trues]⟩, ?_⟩
      rintro _ _ ⟨u, rfl, hu, rfl⟩
      refine ⟨fun hb r hr => ?_, fun hb => ?_⟩
      · subst hr
        obtain ⟨e, e1, e2, e3⟩ := at_eq hc' (a := (t : Int)) (by omega) ha (b := (u : Int)) (by omega) hb
        rw [state_eq hc (by omega) (by omega) (by omega) (by omega)]
        have hlen := trues_len ⟨o, s⟩ m t u
        unfold VC28_J3
        rw [wrp (n := _ - 1) (by omega) (by omega), wrp (n := (u : Int) + 1) (by omega) (by omega)]
        refine ⟨by omega, fun hg => ⟨?_, ⟨u + 1, by simp, by omega, ?_⟩, by dsimp only; omega⟩, fun hg => ⟨⟨u + 1, by simp, by omega, ?_⟩, by dsimp only; omega⟩⟩
        · simp only [List.length_append, List.length_cons, List.length_nil, List.length_map, List.length_range]; omega
        · rw [trues_succ, if_pos (show on ⟨o, s⟩ m t u = true from hg), List.append_assoc]
        · rw [trues_succ, if_neg (by rw [show on ⟨o, s⟩ m t u = false from hg]; decide), List.append_nil]
      · have hus : u = s.toNat := by omega
        subst hus
        have hlen := trues_len ⟨o, s⟩ m t s.toNat
        unfold VC28_J2
        simp only [List.length_append, List.length_map, List.length_range, bne_iff_ne, bne_eq_false_iff_eq]
        rw [wrp (n := (t : Int) + 1) (by omega) (by omega)]
        refine ⟨fun hn => ?_, fun he => ⟨⟨t + 1, by simp, by omega, ?_, ?_⟩, by omega⟩⟩
        · refine (row_no (t := t) ?_ ha).symm
          unfold oneOf
          rw [beq_eq_false_iff_ne]
          intro h
          apply hn
          dsimp only at h
          omega
        · have he : (trues ⟨o, s⟩ m t s.toNat).length = 1 := by omega
          rw [List.range_succ, List.map_append]
          congr 1
          unfold lastOf
          dsimp only
          match htr : trues ⟨o, s⟩ m t s.toNat, he with
          | [x], _ => simp [htr]
        · have he : (trues ⟨o, s⟩ m t s.toNat).length = 1 := by omega
          rw [List.range_succ, List.all_append, hall]
          simp [oneOf, he]
    · have : (o + 1).toNat = t := by omega
      unfold VC28_J1 states_Row
      dsimp only
      rw [this, if_pos ⟨hc', hl, hall⟩]

theorem cells_len (st : Nat) (b : Int) : (cellsOf st b).length = st := by simp [cellsOf]
theorem cells_set (st : Nat) (b : Int) (h0 : 0 ≤ b) (h1 : b < st) : (List.replicate st false).set b.toNat true = cellsOf st b := by
  apply List.ext_getElem (by simp [cellsOf])
  intro i hi hj
  simp only [List.getElem_set, List.getElem_replicate, cellsOf, List.getElem_map, List.getElem_range]
  split
  · rw [eq_comm, beq_iff_eq]; omega
  · rw [eq_comm, beq_eq_false_iff_ne]; omega

theorem flat_len (st : Nat) (l : List Int) : (l.flatMap (cellsOf st)).length = l.length * st := by
  induction l with
  | nil => simp
  | cons x r ih => rw [List.flatMap_cons, List.length_append, ih, cells_len, List.length_cons, Nat.add_mul, Nat.one_mul, Nat.add_comm]

theorem set_in {A R : List Bool} {st n : Nat} {b : Int} (h0 : 0 ≤ b) (h1 : b < st) (hn : n = A.length + b.toNat) : (A ++ (List.replicate st false ++ R)).set n true = A ++ (cellsOf st b ++ R) := by
  subst hn
  rw [List.set_append_right _ _ (by omega), List.set_append_left _ _ (by simp; omega), ← cells_set st b h0 h1]
  simp

theorem v29 (s : Numbering_Size) (row : List Int) : VC29 s row (fun r => r = states_Truths s row) := by
  unfold VC29
  intro _ r hr
  subst hr
  simp only [Bool.or_eq_true, decide_eq_true_eq, Bool.or_eq_false_iff, decide_eq_false_iff_not, bne_iff_ne, bne_eq_false_iff_eq]
  refine ⟨fun h => ?_, fun h => ?_⟩
  · unfold states_Truths
    rw [if_neg]
    rintro ⟨hc, hl, _⟩
    obtain ⟨h0, h1, h2, h3⟩ := check0 hc
    rw [wrp (by omega) (by omega)] at h
    exact h.elim (fun h => h hc) (fun h => h hl)
  · obtain ⟨hc, hl⟩ := h
    obtain ⟨h0, h1, h2, h3⟩ := check0 hc
    rw [wrp (by omega) (by omega)] at hl
    intro r hr
    subst hr
    have hm := mulb h0 h1 h0 h1
    have hn := mulb (a := s.Ops) (b := s.States) h0 h1 (by omega) h3
    have hv : numbering_Vars s = s.Ops * s.Ops + s.Ops + (s.Ops * s.States + s.States) := by
      unfold numbering_Vars; rw [if_pos hc, Int.mul_add, Int.mul_comm s.States, Int.mul_one]
    obtain ⟨st, hst⟩ := Int.eq_ofNat_of_zero_le (by omega : 0 ≤ s.States)
    obtain ⟨bs, hbs⟩ := Int.eq_ofNat_of_zero_le (by omega : 0 ≤ s.Ops * s.Ops + s.Ops)
    have hst' : s.States.toNat = st := by omega
    refine ⟨by omega, fun m x => ∃ t : Nat, x = t ∧ t ≤ row.length ∧ (∀ b ∈ row.take t, 0 ≤ b ∧ b < s.States) ∧ m = List.replicate bs false ++ ((row.take t).flatMap (cellsOf st) ++ List.replicate ((row.length - t) * st) false), fun _ x => (row.length - x).toNat, ⟨0, rfl, by omega, by simp, ?_⟩, ?_⟩
    · rw [List.take_zero, List.flatMap_nil, List.nil_append, List.replicate_append_replicate]
      congr 1
      have e2 : ((row.length * st : Nat) : Int) = s.Ops * s.States + s.States := by
        rw [Int.natCast_mul, hl, ← hst, Int.add_mul, Int.one_mul]
      rw [Nat.sub_zero]
      omega
    rintro _ _ ⟨t, rfl, ht, hg, rfl⟩
    refine ⟨fun hx => ⟨⟨by omega, hx⟩, fun hbad => ?_, fun hgood r hr => ?_⟩, fun hx => ?_⟩
    · unfold states_Truths
      rw [if_neg]
      rintro ⟨_, _, hall⟩
      have := hall (gi row t) (by rw [gi_nat _ _ (by omega)]; exact List.getElem_mem _)
      omega
    · subst hr
      have hx : t < row.length := by omega
      obtain ⟨e, e1, e2, e3⟩ := at_eq hc (a := (t : Int)) (by omega) (by omega) (b := gi row t) (by omega) (by omega)
      have e4 : ((t * st : Nat) : Int) = t * s.States := by rw [Int.natCast_mul, hst]
      have hfl := flat_len st (row.take t)
      rw [List.length_take, Nat.min_eq_left ht] at hfl
      have esp : (row.length - t) * st = st + (row.length - (t + 1)) * st := by
        rw [show row.length - t = (row.length - (t + 1)) + 1 by omega, Nat.add_mul, Nat.one_mul, Nat.add_comm]
      rw [wrp (n := _ - 1) (by omega) (by omega), wrp (by omega) (by omega)]
      have esp2 : List.replicate ((row.length - t) * st) false = List.replicate st false ++ List.replicate ((row.length - (t + 1)) * st) false := by
        rw [esp, List.replicate_append_replicate]
      refine ⟨⟨by omega, ?_⟩, ⟨t + 1, by simp, by omega, ?_, ?_⟩, by dsimp only; omega⟩
      · simp only [List.length_append, List.length_replicate, hfl, esp]
        have e5 : ((t * st + (st + (row.length - (t + 1)) * st) : Nat) : Int) = s.Ops * s.States + s.States := by
          rw [← esp, ← Nat.add_mul, show t + (row.length - t) = row.length by omega, Int.natCast_mul, hl, ← hst, Int.add_mul, Int.one_mul]
        omega
      · intro b hb
        rw [List.take_succ_eq_append_getElem hx, List.mem_append] at hb
        rcases hb with hb | hb
        · exact hg b hb
        · rw [List.mem_singleton] at hb
          subst hb
          rw [← gi_nat row t hx]
          omega
      · rw [esp2, ← List.append_assoc, set_in (b := gi row t) (by omega) (by omega) (by rw [List.length_append, List.length_replicate, hfl]; omega)]
        rw [List.take_succ_eq_append_getElem hx, List.flatMap_append, ← gi_nat row t hx]
        simp
    · have hx : t = row.length := by omega
      subst hx
      unfold VC29_J1 states_Truths
      rw [List.take_length] at hg
      rw [if_pos ⟨hc, hl, hg⟩, hbs, hst']
      simp

theorem v30 (o s : Int) (row : List Int) : VC30 o s row (fun r => r = ref34_Truths o s row) := by
  unfold VC30
  intro hsm r hr
  subst hr
  unfold ref34_Truths
  simp only [Bool.or_eq_true, decide_eq_true_eq, Bool.or_eq_false_iff, decide_eq_false_iff_not, bne_iff_ne, bne_eq_false_iff_eq]
  refine ⟨fun h => ?_, fun h => ?_⟩
  · unfold states_Truths
    rw [if_neg]
    rintro ⟨hc, hl, _⟩
    obtain ⟨h0, h1, h2, h3⟩ := check0 (o := o) (s := s) hc
    dsimp only at hl
    rw [wrp (by omega) (by omega)] at h
    exact h.elim (fun h => h hc) (fun h => h hl)
  · obtain ⟨hc, hl⟩ := h
    obtain ⟨h0, h1, h2, h3⟩ := check0 hc
    rw [wrp (by omega) (by omega)] at hl
    have hm := mulb h0 h1 h0 h1
    rw [wrp (n := o * o) (by omega) (by omega), wrp (n := o * o + o) (by omega) (by omega)]
    obtain ⟨st, hst⟩ := Int.eq_ofNat_of_zero_le (by omega : 0 ≤ s)
    subst hst
    have hfl : ∀ t, t ≤ row.length → ((row.take t).flatMap (cellsOf st)).length ≤ 65 * 32 := fun t ht => by
      rw [flat_len]
      exact Nat.mul_le_mul (by rw [List.length_take]; omega) (by omega)
    have bad : ∀ t : Nat, t < row.length → (gi row (t : Int) < 0 ∨ gi row (t : Int) ≥ (st : Int)) → (([], false) : List Bool × Bool) = states_Truths ⟨o, st⟩ row := by
      intro t ht hb
      unfold states_Truths
      rw [if_neg]
      rintro ⟨_, _, hall⟩
      have := hall (gi row t) (by rw [gi_nat _ _ (by omega)]; exact List.getElem_mem _)
      dsimp only at this
      omega
    refine ⟨by omega, fun m a => ∃ t : Nat, a = t ∧ (t : Int) ≤ o + 1 ∧ (∀ b ∈ row.take t, 0 ≤ b ∧ b < (st : Int)) ∧ m = List.replicate (o * o + o).toNat false ++ (row.take t).flatMap (cellsOf st), fun _ a => (o + 1 - a).toNat, ⟨0, rfl, by omega, by simp, by simp⟩, ?_⟩
    rintro _ _ ⟨t, rfl, ht, hg, rfl⟩
    refine ⟨fun ha => ⟨⟨by omega, by omega⟩, fun hb => ?_, fun hb => ⟨⟨by omega, by omega⟩, ?_⟩⟩, fun ha => ?_⟩
    · unfold VC30_J3
      exact ⟨fun _ => bad t (by omega) (Or.inl hb), fun h => by cases h⟩
    · unfold VC30_J3
      simp only [decide_eq_true_eq, decide_eq_false_iff_not]
      refine ⟨fun hb2 => bad t (by omega) (Or.inr hb2), fun hb2 => ?_⟩
      have ht' : t < row.length := by omega
      refine ⟨fun m b => ∃ u : Nat, b = u ∧ u ≤ st ∧ m = List.replicate (o * o + o).toNat false ++ ((row.take t).flatMap (cellsOf st) ++ (List.range u).map (fun (x : Nat) => ((x : Int) == gi row t))), fun _ b => (st - b).toNat, ⟨0, rfl, by omega, by simp⟩, ?_⟩
      rintro _ _ ⟨u, rfl, hu, rfl⟩
      have hf := hfl t (by omega)
      refine ⟨fun hb => ⟨⟨by omega, by omega⟩, ?_, ?_⟩, fun hb => ?_⟩
      · simp only [List.length_append, List.length_cons, List.length_nil, List.length_replicate, List.length_map, List.length_range]; omega
      · rw [wrp (by omega) (by omega)]
        refine ⟨⟨u + 1, by simp, by omega, ?_⟩, by dsimp only; omega⟩
        rw [List.range_succ, List.map_append]
        simp
      · have hus : u = st := by omega
        subst hus
        unfold VC30_J2
        rw [wrp (by omega) (by omega)]
        refine ⟨⟨t + 1, by simp, by omega, ?_, ?_⟩, by dsimp only; omega⟩
        · intro b hb
          rw [List.take_succ_eq_append_getElem ht', List.mem_append] at hb
          rcases hb with hb | hb
          · exact hg b hb
          · rw [List.mem_singleton] at hb
            subst hb
            rw [← gi_nat row t ht']
            omega
        · rw [List.take_succ_eq_append_getElem ht', List.flatMap_append, ← gi_nat row t ht']
          simp [cellsOf]
    · have hx : t = row.length := by omega
      subst hx
      unfold VC30_J1 states_Truths
      rw [List.take_length] at hg
      rw [if_pos ⟨hc, hl, hg⟩, List.take_length]
      simp
end Go.Proofs.Ytlpcjbjlgeaapaa
