/- Plain lemmas about the specification functions. Conditions: in each lemma. -/
import Derived.Test.YtnhdgebboafliaaWV2
set_option linter.all false
namespace Go.Proofs.Ytnhdgebboafliaa
open Go Go.Sv Go.Pu

theorem v73 (o : Api_Oper) : VC73 o (fun r => r = oper_ended o) := by
  unfold VC73 oper_ended
  simp only [beq_iff_eq, beq_eq_false_iff_ne]
  exact ⟨fun h => by rw [if_pos h], fun h => by rw [if_neg h]⟩
theorem v56 (o : Api_Oper) : VC56 o (fun r => r = oper_alone o) := by
  unfold VC56 oper_alone
  simp only [Bool.or_eq_true, decide_eq_true_eq, Bool.or_eq_false_iff, decide_eq_false_iff_not]
  refine ⟨fun h => by rw [if_pos (by omega)], fun h => ⟨fun h2 => by rw [if_neg (by omega), if_pos h2], fun h2 => ?_⟩⟩
  rintro _ rfl
  refine ⟨fun h3 => ?_, fun h3 => ?_⟩
  · have h3 : oper_ended o = false := by simpa using h3
    rw [if_neg (by omega), if_neg (by omega), if_pos h3]
  · have h3 : oper_ended o = true := by simpa using h3
    rw [if_neg (by omega), if_neg (by omega), if_neg (by rw [h3]; decide)]
theorem v53 (a b : Api_Oper) : VC53 a b (fun r => r = oper_Ahead a b) := rfl
theorem v32 (l : List Api_Oper) : VC32 l (fun r => r = oper_Check l) := by
  unfold VC32
  intro hsm
  simp only [sm] at hsm
  refine ⟨fun h => ?_, fun h => ?_⟩
  · rw [decide_eq_true_eq] at h
    unfold oper_Check; rw [if_pos (by omega)]
  · rw [decide_eq_false_iff_not] at h
    have e : oper_Check l = checkGo l l.length [] [] 0 := by unfold oper_Check; rw [if_neg (by omega)]
    rw [e]
    refine ⟨fun u la x => ∃ i f : Nat, x = i ∧ i + f = l.length ∧ checkGo l f u la i = checkGo l l.length [] [] 0, fun _ _ x => (l.length - x).toNat, ⟨0, l.length, rfl, by omega, rfl⟩, ?_⟩
    rintro u la _ ⟨i, f, rfl, hif, hgo⟩
    refine ⟨fun hx => ⟨⟨by omega, by simpa using hx⟩, ?_⟩, fun hx => ?_⟩
    · rw [decide_eq_true_eq] at hx
      obtain ⟨f, rfl⟩ : ∃ k, f = k + 1 := ⟨f - 1, by omega⟩
      rw [checkGo] at hgo
      rintro _ rfl
      refine ⟨fun ha => ?_, fun ha => ?_⟩
      · rw [bne_iff_ne] at ha
        rw [← hgo, if_pos ha]
      · have ha : oper_alone (gi l (i : Int)) = 0 := by simpa using ha
        rw [if_neg (by omega)] at hgo
        have j2 : ¬ out32 l u i → out33 l la i = false → VC32_J2 l (fun u la x => ∃ i f : Nat, x = i ∧ i + f = l.length ∧ checkGo l f u la i = checkGo l l.length [] [] 0) (fun _ _ x => (l.length - x).toNat) u la i (usedNext l u i) := by
          intro h1 h2
          rw [if_neg h1, if_neg (by rw [h2]; decide)] at hgo
          unfold VC32_J2
          rw [wrp (by omega) (by omega)]
          exact ⟨⟨i + 1, f, by simp, by omega, hgo⟩, by dsimp only; omega⟩
        have j4 : ¬ out32 l u i → ∀ b, b = out33 l la i → VC32_J4 l (fun r => r = checkGo l l.length [] [] 0) (fun u la x => ∃ i f : Nat, x = i ∧ i + f = l.length ∧ checkGo l f u la i = checkGo l l.length [] [] 0) (fun _ _ x => (l.length - x).toNat) u la i b := by
          rintro h1 b rfl
          unfold VC32_J4
          refine ⟨fun hb => ?_, fun hb => ⟨fun he => ?_, fun he => ?_⟩⟩
          · rw [if_neg h1, if_pos hb] at hgo
            exact hgo
          · rw [decide_eq_true_eq] at he
            have := j2 h1 hb
            unfold usedNext at this
            rw [if_pos he] at this
            exact this
          · rw [decide_eq_false_iff_not] at he
            have := j2 h1 hb
            unfold usedNext at this
            rw [if_neg he] at this
            exact this
        have j3 : ∀ b, (b = true ↔ out32 l u i) → VC32_J3 l (fun r => r = checkGo l l.length [] [] 0) (fun u la x => ∃ i f : Nat, x = i ∧ i + f = l.length ∧ checkGo l f u la i = checkGo l l.length [] [] 0) (fun _ _ x => (l.length - x).toNat) u la i b := by
          intro b hb
          unfold VC32_J3
          refine ⟨fun h => ?_, fun h => ?_⟩
          · rw [if_pos (hb.mp h)] at hgo
            exact hgo
          · have h1 : ¬ out32 l u i := fun h2 => by rw [hb.mpr h2] at h; cases h
            refine ⟨fun hs => ?_, fun hs => j4 h1 _ ?_⟩
            · rintro _ rfl
              refine j4 h1 _ ?_
              unfold out33
              rw [hs]; rfl
            · unfold out33
              rw [hs]; rfl
        have m1 : ∀ z : Bool, (z = true ↔ (0 < i ∧ (gi l (i : Int)).Start ≤ (gi l ((i : Int) - 1)).Start)) → z = false → 
            ((decide ((mget u (gi l (i : Int)).Start).getD 0 > 0)) = true → VC32_J3 l (fun r => r = checkGo l l.length [] [] 0) (fun u la x => ∃ i f : Nat, x = i ∧ i + f = l.length ∧ checkGo l f u la i = checkGo l l.length [] [] 0) (fun _ _ x => (l.length - x).toNat) u la i true) ∧
            ((decide ((mget u (gi l (i : Int)).Start).getD 0 > 0)) = false → ((decide ((gi l (i : Int)).End ≥ 0)) = true → VC32_J3 l (fun r => r = checkGo l l.length [] [] 0) (fun u la x => ∃ i f : Nat, x = i ∧ i + f = l.length ∧ checkGo l f u la i = checkGo l l.length [] [] 0) (fun _ _ x => (l.length - x).toNat) u la i (decide ((mget u (gi l (i : Int)).End).getD 0 > 0))) ∧ ((decide ((gi l (i : Int)).End ≥ 0)) = false → VC32_J3 l (fun r => r = checkGo l l.length [] [] 0) (fun u la x => ∃ i f : Nat, x = i ∧ i + f = l.length ∧ checkGo l f u la i = checkGo l l.length [] [] 0) (fun _ _ x => (l.length - x).toNat) u la i false)) := by
          intro z hz hzf
          have hz0 : ¬ (0 < i ∧ (gi l (i : Int)).Start ≤ (gi l ((i : Int) - 1)).Start) := fun h => by rw [hz.mpr h] at hzf; cases hzf
          simp only [decide_eq_true_eq, decide_eq_false_iff_not]
          refine ⟨fun hu => j3 _ ⟨fun _ => Or.inr (Or.inl hu), fun _ => rfl⟩, fun hu => ⟨fun he => j3 _ ⟨fun h => Or.inr (Or.inr ⟨he, by rw [decide_eq_true_eq] at h; exact h⟩), fun h => ?_⟩, fun he => j3 _ ⟨(fun h => by cases h), fun h => ?_⟩⟩⟩
          · rw [decide_eq_true_eq]
            rcases h with h | h | h
            · exact absurd h hz0
            · exact absurd h hu
            · exact h.2
          · rcases h with h | h | h
            · exact absurd h hz0
            · exact absurd h hu
            · exact absurd h.1 he
        refine ⟨fun h0 => ?_, fun h0 => ?_⟩
        · rw [decide_eq_true_eq] at h0
          rw [wrp (n := (i : Int) - 1) (by omega) (by omega)]
          refine ⟨⟨by omega, by omega⟩, fun hs => ?_, fun hs => ?_⟩
          · rw [decide_eq_true_eq] at hs
            exact j3 true ⟨fun _ => Or.inl ⟨by omega, hs⟩, fun _ => rfl⟩
          · refine m1 (decide ((gi l (i : Int)).Start ≤ (gi l ((i : Int) - 1)).Start)) ?_ hs
            rw [decide_eq_true_eq]
            exact ⟨fun h => ⟨by omega, h⟩, fun h => h.2⟩
        · rw [decide_eq_false_iff_not] at h0
          exact m1 false ⟨(fun h => by cases h), fun h => by omega⟩ rfl
    · rw [decide_eq_false_iff_not] at hx
      have : f = 0 := by omega
      subst this
      unfold VC32_J1
      rw [← hgo]; rfl
theorem check_ok (l : List Api_Oper) : ∀ (f : Nat) (u : List (Int × Int)) (la : List (Int × Api_Oper)) (i : Nat), i + f = l.length → (checkGo l f u la i).2 = 0 → ∀ j : Nat, i ≤ j → j < l.length → oper_alone (gi l (j : Int)) = 0 ∧ (0 < j → (gi l ((j : Int) - 1)).Start < (gi l (j : Int)).Start)
  | 0, u, la, i, hif, _, j, h1, h2 => by omega
  | f + 1, u, la, i, hif, h, j, h1, h2 => by
    rw [checkGo] at h
    by_cases ha : oper_alone (gi l (i : Int)) ≠ 0
    · rw [if_pos ha] at h; exact absurd h ha
    · rw [if_neg ha] at h
      by_cases h32 : out32 l u i
      · rw [if_pos h32] at h; simp at h
      · rw [if_neg h32] at h
        by_cases h33 : out33 l la i = true
        · rw [if_pos h33] at h; simp at h
        · rw [if_neg h33] at h
          by_cases hji : j = i
          · subst hji
            refine ⟨by omega, fun h0 => ?_⟩
            apply Classical.byContradiction
            intro hn
            exact h32 (Or.inl ⟨h0, by omega⟩)
          · exact check_ok l f _ _ (i + 1) (by omega) h j (by omega) h2
theorem absent_fold : ∀ (p : List Api_Pick) (u : List (Int × Int)), (∀ i, 0 ≤ (mget u i).getD 0 ∧ (mget u i).getD 0 + p.length ≤ 4611686018427387904) → ∀ i, (mget (p.foldl (fun u p => usedUp u p.Oper) u) i).getD 0 = (mget u i).getD 0 + ((opers p).count i : Nat)
  | [], u, _, i => by simp [opers]
  | q :: p, u, h, i => by
    rw [List.foldl_cons]
    have hq := h q.Oper
    simp only [List.length_cons] at hq
    have hg : ∀ j, (mget (usedUp u q.Oper) j).getD 0 = (mget u j).getD 0 + if j = q.Oper then 1 else 0 := by
      intro j
      unfold usedUp
      rw [mget_mput]
      by_cases hj : j = q.Oper
      · subst hj; rw [if_pos rfl, if_pos rfl]
        show IntKind.i64.wrap _ = _
        exact wrp (by omega) (by omega)
      · rw [if_neg hj, if_neg hj]; omega
    rw [absent_fold p _ (fun j => ?_) i, hg i]
    · unfold opers
      rw [List.map_cons, List.count_cons]
      by_cases hj : i = q.Oper
      · subst hj; simp; omega
      · rw [if_neg hj, if_neg (by simp; omega)]; omega
    · have := h j
      simp only [List.length_cons] at this
      rw [hg j]
      split <;> omega
theorem absent_at {p : List Api_Pick} (h : p.length ≤ 140737488355328) (i : Int) : 0 ≤ (mget (absentL p) i).getD 0 ∧ (mget (absentL p) i).getD 0 ≤ p.length ∧ ((mget (absentL p) i).getD 0 = 0 ↔ i ∉ opers p) := by
  have := absent_fold p [] (fun i => by simp only [mget]; exact ⟨by decide, by show (0 : Int) + _ ≤ _; omega⟩) i
  have h0 : (mget ([] : List (Int × Int)) i).getD 0 = 0 := rfl
  rw [h0] at this
  unfold absentL
  rw [this]
  have hc : (opers p).count i ≤ (opers p).length := List.count_le_length ..
  have hl : (opers p).length = p.length := by unfold opers; rw [List.length_map]
  refine ⟨by omega, by omega, ?_⟩
  rw [← List.count_eq_zero (a := i) (l := opers p)]
  omega
theorem take_pick {p : List Api_Pick} {t : Nat} (h : t < p.length) : p.take (t + 1) = p.take t ++ [gi p (t : Int)] := by
  rw [gi_nat _ _ h, List.take_succ_eq_append_getElem h]
theorem absent_succ {p : List Api_Pick} {t : Nat} (h : t < p.length) : absentL (p.take (t + 1)) = usedUp (absentL (p.take t)) (gi p (t : Int)).Oper := by
  unfold absentL
  rw [take_pick h, List.foldl_append]; rfl
theorem opers_succ {p : List Api_Pick} {t : Nat} (h : t < p.length) : opers (p.take (t + 1)) = opers (p.take t) ++ [(gi p (t : Int)).Oper] := by
  unfold opers
  rw [take_pick h, List.map_append]; rfl
theorem v71 (p : List Api_Pick) : VC71 p (fun r => r = witness_absent p) := by
  unfold VC71
  intro hs
  simp only [sm] at hs
  refine ⟨fun x m => ∃ t : Nat, x = t ∧ t ≤ p.length ∧ m = absentL (p.take t), fun x _ => (p.length - x).toNat, ⟨0, rfl, by omega, rfl⟩, ?_⟩
  rintro _ _ ⟨t, rfl, ht, rfl⟩
  refine ⟨fun h => ?_, fun h => ?_⟩
  · rw [decide_eq_true_eq] at h
    rw [wrp (n := (t : Int) + 1) (by omega) (by omega)]
    exact ⟨⟨by omega, by omega⟩, ⟨t + 1, by simp, by omega, by rw [absent_succ (by omega)]; rfl⟩, by dsimp only; omega⟩
  · rw [decide_eq_false_iff_not] at h
    have : t = p.length := by omega
    subst this
    unfold VC71_J1 witness_absent
    rw [List.take_length]
theorem v80 (i : Int) (m : List (Int × Int)) : VC80 i m (fun r => r = witness_absent_1 i m) := rfl
theorem thoseTo_succ (l : List Api_Oper) (p : List Api_Pick) (b : Bool) (t : Nat) : thoseTo l p b (t + 1) = thoseTo l p b t ++ (if isThose l p b (t : Int) = true then [(t : Int)] else []) := by
  unfold thoseTo
  rw [List.range_succ, List.filter_append, List.map_append, List.filter_cons, List.filter_nil]
  split <;> rfl
theorem thoseTo_le (l : List Api_Oper) (p : List Api_Pick) (b : Bool) (t : Nat) : (thoseTo l p b t).length ≤ t := by
  unfold thoseTo
  rw [List.length_map]
  have := List.length_filter_le (fun i : Nat => isThose l p b (i : Int)) (List.range t)
  rw [List.length_range] at this
  exact this
theorem j52 {l : List Api_Oper} {p : List Api_Pick} {b : Bool} {t : Nat} {I1 : List Int → Int → Prop} {μ1 : List Int → Int → Nat} (ht : t < 1000000)
    (k : I1 (thoseTo l p b (t + 1)) ((t + 1 : Nat) : Int) ∧ μ1 (thoseTo l p b (t + 1)) ((t + 1 : Nat) : Int) < μ1 (thoseTo l p b t) t) {z : Bool} (hz : z = isThose l p b (t : Int)) : VC52_J3 I1 μ1 (thoseTo l p b t) t (thoseTo l p b t) z := by
  have hle := thoseTo_le l p b t
  have hw : IntKind.i64.wrap ((t : Int) + 1) = ((t + 1 : Nat) : Int) := by rw [wrp (by omega) (by omega)]; rfl
  unfold VC52_J3 VC52_J2
  rw [hw]
  rw [thoseTo_succ, ← hz] at k
  refine ⟨fun h => ⟨?_, ?_⟩, fun h => ?_⟩
  · rw [List.length_singleton]; omega
  · rw [if_pos h] at k; exact k
  · rw [if_neg (by rw [h]; decide), List.append_nil] at k; exact k
theorem v52 (l : List Api_Oper) (p : List Api_Pick) (b : Bool) (hb : preT3 l p b) : VC52 l p b (fun r => r = witness_those l p b) := by
  unfold VC52 witness_those
  unfold preT3 at hb
  intro hl hp
  simp only [sm] at hl hp
  rintro _ rfl
  refine ⟨fun out x => ∃ t : Nat, x = t ∧ t ≤ l.length ∧ out = thoseTo l p b t, fun _ x => (l.length - x).toNat, ⟨0, rfl, by omega, rfl⟩, ?_⟩
  rintro _ _ ⟨t, rfl, ht, rfl⟩
  refine ⟨fun h => ?_, fun h => ?_⟩
  · rw [decide_eq_true_eq] at h
    refine ⟨⟨by omega, by omega⟩, fun hq => ?_, fun hq => ?_⟩
    · rintro _ rfl
      refine j52 (by omega) ⟨⟨t + 1, rfl, by omega, rfl⟩, by omega⟩ ?_
      unfold isThose witness_absent_1 witness_absent
      rw [hq, Bool.true_and, Bool.eq_iff_iff, beq_iff_eq, (absent_at hp _).2.2]
      simp
    · refine j52 (by omega) ⟨⟨t + 1, rfl, by omega, rfl⟩, by omega⟩ ?_
      unfold isThose
      rw [hq, Bool.false_and]
  · rw [decide_eq_false_iff_not] at h
    have : t = l.length := by omega
    subst this
    rfl
theorem v27 (l : List Api_Oper) (p : List Api_Pick) (hb : preT2 l p) : VC27 l p (fun r => r = witness_Missing l p) := by
  unfold VC27
  intro _ _
  unfold preT2 at hb
  first
    | exact ⟨hb, fun r hr _ => hr.symm⟩
    | exact fun r hr _ => hr.symm
theorem v29 (l : List Api_Oper) (p : List Api_Pick) (hb : preT2 l p) : VC29 l p (fun r => r = witness_Left l p) := by
  unfold VC29
  intro _ _
  unfold preT2 at hb
  first
    | exact ⟨hb, fun r hr _ => hr.symm⟩
    | exact fun r hr _ => hr.symm

theorem order_at {l : List Api_Oper} {p : List Api_Pick} {t : Nat} (h : t < p.length) (hw : orderBad l p t = true) (h2 : ∀ y : Nat, y < t → orderBad l p y = false) : witness_Order l p = t := by
  unfold witness_Order orderTo
  have : (List.range p.length).find? (orderBad l p) = some t := by
    rw [List.find?_range_eq_some]
    exact ⟨hw, by rw [List.mem_range]; omega, fun y hy => by simp [h2 y hy]⟩
  rw [this]
theorem order_no {l : List Api_Oper} {p : List Api_Pick} (h2 : ∀ y : Nat, y < p.length → orderBad l p y = false) : witness_Order l p = -1 := by
  unfold witness_Order orderTo
  have : (List.range p.length).find? (orderBad l p) = none := by
    rw [List.find?_range_eq_none]
    intro y hy
    simp [h2 y hy]
  rw [this]
/-- What is there, as the map has it. -/
def There (l : List Api_Oper) (m : List (Int × Int)) (p : List Api_Pick) (t : Nat) : Prop := ∀ k : Int, 0 ≤ (mget m k).getD 0 ∧ (mget m k).getD 0 ≤ t ∧ (0 ≤ k → k < l.length → ((mget m k).getD 0 = 0 ↔ k ∉ opers (p.take t)))
theorem bad_of {l : List Api_Oper} {p : List Api_Pick} {t : Nat} {k : Nat} (h : 0 ≤ (gi p (t : Int)).Oper ∧ (gi p (t : Int)).Oper < l.length) (hk : k < l.length) (ha : oper_Ahead (gi l (k : Int)) (gi l (gi p (t : Int)).Oper) = true) (hn : (k : Int) ∉ opers (p.take t)) : orderBad l p t = true := by
  unfold orderBad
  rw [Bool.and_eq_true, decide_eq_true_eq, List.any_eq_true]
  exact ⟨h, k, by rw [List.mem_range]; exact hk, by rw [ha]; simp [hn]⟩
theorem bad_no {l : List Api_Oper} {p : List Api_Pick} {t : Nat} (hn : ∀ k : Nat, k < l.length → ¬ (oper_Ahead (gi l (k : Int)) (gi l (gi p (t : Int)).Oper) = true ∧ (k : Int) ∉ opers (p.take t))) : orderBad l p t = false := by
  unfold orderBad
  rw [Bool.and_eq_false_iff]
  right
  rw [List.any_eq_false]
  intro k hk
  rw [List.mem_range] at hk
  have := hn k hk
  simpa using this
theorem v28 (l : List Api_Oper) (p : List Api_Pick) : VC28 l p (fun r => r = witness_Order l p) := by
  unfold VC28
  intro hl hp
  simp only [sm] at hl hp
  refine ⟨fun m x => ∃ t : Nat, x = t ∧ t ≤ p.length ∧ There l m p t ∧ ∀ y : Nat, y < t → orderBad l p y = false, fun _ x => (p.length - x).toNat, ⟨0, rfl, by omega, fun k => ⟨Int.le_refl 0, Int.le_refl 0, fun _ _ => by simp [opers, mget]⟩, fun y hy => by omega⟩, ?_⟩
  rintro m _ ⟨t, rfl, ht, hm, hb⟩
  refine ⟨fun h => ?_, fun h => ?_⟩
  · rw [decide_eq_true_eq] at h
    have hto := opers_succ (p := p) (t := t) (by omega)
    have hw : IntKind.i64.wrap ((t : Int) + 1) = ((t + 1 : Nat) : Int) := by rw [wrp (by omega) (by omega)]; rfl
    refine ⟨⟨by omega, by omega⟩, fun hq => ?_, fun hq => ?_⟩
    · rw [Bool.or_eq_true, decide_eq_true_eq, decide_eq_true_eq] at hq
      unfold VC28_J2
      rw [hw]
      refine ⟨⟨t + 1, rfl, by omega, fun k => ?_, fun y hy => ?_⟩, by dsimp only; omega⟩
      · obtain ⟨a1, a2, a3⟩ := hm k
        refine ⟨a1, by omega, fun b1 b2 => ?_⟩
        rw [a3 b1 b2, hto, List.mem_append, List.mem_singleton]
        constructor
        · rintro hk (hk2 | hk2)
          · exact hk hk2
          · omega
        · intro hk hk2; exact hk (Or.inl hk2)
      · by_cases hy2 : y < t
        · exact hb y hy2
        · have : y = t := by omega
          subst this
          unfold orderBad
          rw [Bool.and_eq_false_iff]; left
          rw [decide_eq_false_iff_not]; omega
    · rw [Bool.or_eq_false_iff, decide_eq_false_iff_not, decide_eq_false_iff_not] at hq
      have hin : 0 ≤ (gi p (t : Int)).Oper ∧ (gi p (t : Int)).Oper < l.length := by omega
      refine ⟨fun x => ∃ u : Nat, x = u ∧ u ≤ l.length ∧ ∀ k : Nat, k < u → ¬ (oper_Ahead (gi l (k : Int)) (gi l (gi p (t : Int)).Oper) = true ∧ (k : Int) ∉ opers (p.take t)), fun x => (l.length - x).toNat, ⟨0, rfl, by omega, fun k hk => by omega⟩, ?_⟩
      rintro _ ⟨u, rfl, hu, hk⟩
      have hw2 : u < l.length → IntKind.i64.wrap ((u : Int) + 1) = ((u + 1 : Nat) : Int) := fun _ => by rw [wrp (by omega) (by omega)]; rfl
      refine ⟨fun h2 => ?_, fun h2 => ?_⟩
      · rw [decide_eq_true_eq] at h2
        refine ⟨⟨by omega, by omega⟩, hin, ?_⟩
        rintro _ rfl
        obtain ⟨a1, a2, a3⟩ := hm (u : Int)
        have next : ¬ (oper_Ahead (gi l (u : Int)) (gi l (gi p (t : Int)).Oper) = true ∧ (u : Int) ∉ opers (p.take t)) → ∀ k : Nat, k < u + 1 → ¬ (oper_Ahead (gi l (k : Int)) (gi l (gi p (t : Int)).Oper) = true ∧ (k : Int) ∉ opers (p.take t)) := by
          intro hn k hk1
          by_cases hk2 : k < u
          · exact hk k hk2
          · have : k = u := by omega
            subst this; exact hn
        refine ⟨fun ha => ?_, fun ha => ?_⟩
        · unfold VC28_J4
          refine ⟨fun hz => ?_, fun hz => ?_⟩
          · rw [beq_iff_eq, a3 (by omega) (by omega)] at hz
            exact (order_at (by omega) (bad_of hin (by omega) ha hz) hb).symm
          · rw [beq_eq_false_iff_ne] at hz
            rw [hw2 (by omega)]
            exact ⟨⟨u + 1, rfl, by omega, next (fun hn => hz ((a3 (by omega) (by omega)).mpr hn.2))⟩, by dsimp only; omega⟩
        · unfold VC28_J4
          refine ⟨(fun hz => by cases hz), fun hz => ?_⟩
          rw [hw2 (by omega)]
          exact ⟨⟨u + 1, rfl, by omega, next (fun hn => by rw [ha] at hn; cases hn.1)⟩, by dsimp only; omega⟩
      · rw [decide_eq_false_iff_not] at h2
        have : u = l.length := by omega
        subst this
        unfold VC28_J3 VC28_J2
        rw [hw]
        have hq2 := hm (gi p (t : Int)).Oper
        rw [wrp (by omega) (by omega)]
        refine ⟨⟨t + 1, rfl, by omega, fun k => ?_, fun y hy => ?_⟩, by dsimp only; omega⟩
        · obtain ⟨a1, a2, a3⟩ := hm k
          rw [mget_mput]
          by_cases he : k = (gi p (t : Int)).Oper
          · rw [if_pos he]
            show 0 ≤ (mget m (gi p (t : Int)).Oper).getD 0 + 1 ∧ (mget m (gi p (t : Int)).Oper).getD 0 + 1 ≤ _ ∧ (_ → _ → ((mget m (gi p (t : Int)).Oper).getD 0 + 1 = 0 ↔ _))
            refine ⟨by omega, by omega, fun _ _ => ⟨fun h => by omega, fun h => ?_⟩⟩
            rw [hto] at h
            exact absurd (by rw [he]; simp) h
          · rw [if_neg he]
            refine ⟨a1, by omega, fun b1 b2 => ?_⟩
            rw [a3 b1 b2, hto]
            simp [he]
        · by_cases hy2 : y < t
          · exact hb y hy2
          · have : y = t := by omega
            subst this
            exact bad_no hk
  · rw [decide_eq_false_iff_not] at h
    have : t = p.length := by omega
    subst this
    exact (order_no hb).symm
theorem check_len {l : List Api_Oper} (h : (oper_Check l).2 = 0) : l.length ≤ 5000 := by
  unfold oper_Check at h
  split at h
  · cases h
  · omega
theorem v49 (o : Api_Object) (l : List Api_Oper) (p : List Api_Pick) (hp : preO2 o l p) : VC49 o l p (fun r => r = witness_Check o l p) := by
  unfold VC49 witness_Check
  intro _ _ _
  refine ⟨hp.1, ?_⟩
  rintro _ rfl _ rfl
  refine ⟨fun h => ?_, fun h => ?_⟩
  · rw [Bool.or_eq_true, bne_iff_ne, bne_iff_ne] at h
    rw [if_pos h]
  · rw [Bool.or_eq_false_iff, bne_eq_false_iff_eq, bne_eq_false_iff_eq] at h
    rw [if_neg (by omega)]
    refine ⟨hp, ?_⟩
    rintro _ rfl
    refine ⟨fun h2 => ?_, fun h2 => ?_⟩
    · rw [bne_iff_ne] at h2
      rw [if_pos h2]
    · rw [bne_eq_false_iff_eq] at h2
      rw [if_neg (by omega)]
      rintro _ rfl
      refine ⟨fun h3 => ?_, fun h3 => ?_⟩
      · rw [decide_eq_true_eq] at h3
        rw [if_pos h3]
      · rw [decide_eq_false_iff_not] at h3
        rw [if_neg h3]
        have hl := check_len h.2
        refine ⟨show l.length ≤ _ by omega, ?_⟩
        rintro _ rfl _
        refine ⟨fun h4 => ?_, fun h4 => ?_⟩
        · rw [decide_eq_true_eq] at h4
          rw [if_pos (by omega)]
          exact ⟨⟨by omega, by omega⟩, rfl⟩
        · rw [decide_eq_false_iff_not] at h4
          rw [if_neg (by omega)]
theorem v25 (o : Api_Object) (l : List Api_Oper) (p : List Api_Pick) (hp : preO2 o l p) : VC25 o l p (fun r => r = witness_Is o l p) := by
  unfold VC25 witness_Is
  intro _ _ _
  refine ⟨hp, ?_⟩
  rintro _ rfl
  rfl
theorem v50 : VC50 (fun r => r = law29_one) := rfl
theorem v51 : VC51 (fun r => r = law29_three) := rfl
theorem v57 (a b : Api_Oper) : VC57 a b (fun r => r = ref27_Ahead a b) := rfl
theorem v30 (p : List Api_Pick) (i : Int) : VC30 p i (fun r => r = ref29_Place p i) := by
  unfold VC30 ref29_Place
  intro hs
  simp only [sm] at hs
  refine ⟨fun x => 0 ≤ x ∧ x ≤ p.length ∧ ∀ j : Int, 0 ≤ j → j < x → (fun q : Api_Pick => q.Oper == i) (gi p j) = false, fun x => (p.length - x).toNat, ⟨by omega, by omega, fun j h0 h1 => by omega⟩, ?_⟩
  rintro x ⟨h0, h1, h2⟩
  refine ⟨fun h => ?_, fun h => ?_⟩
  · rw [decide_eq_true_eq] at h
    refine ⟨⟨h0, h⟩, fun he => ?_, fun he => ?_⟩
    · rw [find_at (f := fun q : Api_Pick => q.Oper == i) h0 h he h2]
      dsimp only; omega
    · rw [wrp (by omega) (by omega)]
      refine ⟨⟨by omega, by omega, fun j j0 j1 => ?_⟩, by dsimp only; omega⟩
      by_cases hj : j < x
      · exact h2 j j0 hj
      · rw [show j = x by omega]; exact he
  · rw [decide_eq_false_iff_not] at h
    unfold VC30_J1
    rw [find_no (f := fun q : Api_Pick => q.Oper == i) (fun j j0 j1 => h2 j j0 (by omega))]
theorem place_spec (p : List Api_Pick) (i : Int) : (ref29_Place p i = -1 ∧ i ∉ opers p) ∨ ∃ k : Nat, k < p.length ∧ ref29_Place p i = k ∧ (gi p (k : Int)).Oper = i ∧ ∀ j : Nat, j < k → (gi p (j : Int)).Oper ≠ i := by
  unfold ref29_Place
  cases h : p.findIdx? (fun q => q.Oper == i) with
  | none =>
    left
    refine ⟨rfl, ?_⟩
    rw [List.findIdx?_eq_none_iff] at h
    unfold opers
    rw [List.mem_map]
    rintro ⟨q, hq, rfl⟩
    have := h q hq
    simp at this
  | some k =>
    right
    rw [List.findIdx?_eq_some_iff_getElem] at h
    obtain ⟨hk, he, hj⟩ := h
    refine ⟨k, hk, rfl, ?_, fun j hjk => ?_⟩
    · rw [gi_nat _ _ hk]; simpa using he
    · rw [gi_nat _ _ (by omega)]; simpa using hj j hjk
theorem mem_opers {p : List Api_Pick} {i : Int} {t : Nat} (ht : t ≤ p.length) : i ∈ opers (p.take t) ↔ ∃ k : Nat, k < t ∧ (gi p (k : Int)).Oper = i := by
  unfold opers
  rw [List.mem_map]
  constructor
  · rintro ⟨q, hq, rfl⟩
    obtain ⟨k, hk, rfl⟩ := List.getElem_of_mem hq
    rw [List.length_take] at hk
    exact ⟨k, by omega, by rw [gi_nat _ _ (by omega), List.getElem_take]⟩
  · rintro ⟨k, hk, rfl⟩
    refine ⟨gi p (k : Int), ?_, rfl⟩
    rw [gi_nat _ _ (by omega), List.mem_take_iff_getElem]
    exact ⟨k, by omega, rfl⟩
theorem lin_false {o : Api_Object} {l : List Api_Oper} {p : List Api_Pick} {t : Nat} (ht : t < l.length) (h : linAt l p t = false) : ref29_Lin o l p = false := by
  unfold ref29_Lin
  rw [Bool.and_eq_false_iff]; right
  rw [List.all_eq_false]
  exact ⟨t, by rw [List.mem_range]; exact ht, by rw [h]; decide⟩
theorem v33 (o : Api_Object) (l : List Api_Oper) (p : List Api_Pick) : VC33 o l p (fun r => r = ref29_Lin o l p) := by
  unfold VC33
  intro _ hl _
  simp only [sm] at hl
  rintro _ rfl
  refine ⟨fun h => ?_, fun h => ?_⟩
  · rw [bne_iff_ne] at h
    unfold ref29_Lin
    rw [Bool.false_eq, Bool.and_eq_false_iff]; left
    rw [decide_eq_false_iff_not]; exact h
  · rw [bne_eq_false_iff_eq] at h
    refine ⟨fun x => ∃ t : Nat, x = t ∧ t ≤ l.length ∧ ∀ y : Nat, y < t → linAt l p y = true, fun x => (l.length - x).toNat, ⟨0, rfl, by omega, fun y hy => by omega⟩, ?_⟩
    rintro _ ⟨t, rfl, ht, hy⟩
    refine ⟨fun h2 => ?_, fun h2 => ?_⟩
    · rw [decide_eq_true_eq] at h2
      refine ⟨⟨by omega, by omega⟩, ?_⟩
      have hw : IntKind.i64.wrap ((t : Int) + 1) = ((t + 1 : Nat) : Int) := by rw [wrp (by omega) (by omega)]; rfl
      have j3 : ∀ z, z = (((gi l (t : Int)).End != -1) && decide (ref29_Place p t < 0)) → VC33_J3 l p (fun r => r = ref29_Lin o l p) (fun x => ∃ t : Nat, x = t ∧ t ≤ l.length ∧ ∀ y : Nat, y < t → linAt l p y = true) (fun x => (l.length - x).toNat) t z := by
        intro z hz
        unfold VC33_J3
        refine ⟨fun hz1 => ?_, fun hz0 => ?_⟩
        · refine (lin_false (t := t) (by omega) ?_).symm
          unfold linAt
          rw [← hz, hz1]; rfl
        · refine ⟨fun x => ∃ u : Nat, x = u ∧ u ≤ l.length ∧ ∀ k : Nat, k < u → linPair l p t k = true, fun x => (l.length - x).toNat, ⟨0, rfl, by omega, fun y hy => by omega⟩, ?_⟩
          rintro _ ⟨u, rfl, hu, hk⟩
          refine ⟨fun h3 => ?_, fun h3 => ?_⟩
          · rw [decide_eq_true_eq] at h3
            rintro _ rfl _ rfl
            refine ⟨⟨by omega, by omega⟩, ⟨by omega, by omega⟩, ?_⟩
            have hw2 : IntKind.i64.wrap ((u : Int) + 1) = ((u + 1 : Nat) : Int) := by rw [wrp (by omega) (by omega)]; rfl
            have j4 : ∀ z2, z2 = !linPair l p t u → VC33_J4 (fun r => r = ref29_Lin o l p) (fun x => ∃ u : Nat, x = u ∧ u ≤ l.length ∧ ∀ k : Nat, k < u → linPair l p t k = true) (fun x => (l.length - x).toNat) u z2 := by
              intro z2 hz2
              unfold VC33_J4
              refine ⟨fun h5 => ?_, fun h5 => ?_⟩
              · refine (lin_false (t := t) (by omega) ?_).symm
                unfold linAt
                rw [Bool.and_eq_false_iff]; right
                rw [List.all_eq_false]
                refine ⟨u, by rw [List.mem_range]; omega, ?_⟩
                rw [h5] at hz2
                simpa using hz2
              · rw [hw2]
                refine ⟨⟨u + 1, rfl, by omega, fun k hk1 => ?_⟩, by dsimp only; omega⟩
                by_cases hk2 : k < u
                · exact hk k hk2
                · have : k = u := by omega
                  subst this
                  rw [h5] at hz2
                  simpa using hz2
            have hlp : (!linPair l p t u) = (oper_Ahead (gi l (t : Int)) (gi l (u : Int)) && decide (ref29_Place p u ≥ 0) && (decide (ref29_Place p t < 0) || decide (ref29_Place p t > ref29_Place p u))) := by
              unfold linPair; rw [Bool.not_not]
            rintro _ rfl
            refine ⟨fun ha => ?_, fun ha => ?_⟩
            · have ha : oper_Ahead (gi l (t : Int)) (gi l (u : Int)) = true := ha
              refine ⟨fun hp1 => ⟨fun hp2 => j4 _ ?_, fun hp2 => j4 _ ?_⟩, fun hp1 => j4 _ ?_⟩ <;> rw [hlp, ha, hp1]
              · rw [hp2]; rfl
              · rw [hp2]; rfl
              · rfl
            · have ha : oper_Ahead (gi l (t : Int)) (gi l (u : Int)) = false := ha
              refine j4 _ ?_
              rw [hlp, ha]; rfl
          · rw [decide_eq_false_iff_not] at h3
            have : u = l.length := by omega
            subst this
            unfold VC33_J2
            rw [hw]
            refine ⟨⟨t + 1, rfl, by omega, fun y hy1 => ?_⟩, by dsimp only; omega⟩
            by_cases hy2 : y < t
            · exact hy y hy2
            · have : y = t := by omega
              subst this
              unfold linAt
              rw [← hz, hz0, List.all_eq_true.mpr (fun k hk1 => hk k (List.mem_range.mp hk1))]; rfl
      refine ⟨fun he => ?_, fun he => ?_⟩
      · rintro _ rfl
        exact j3 _ (by rw [he]; rfl)
      · exact j3 _ (by rw [he]; rfl)
    · rw [decide_eq_false_iff_not] at h2
      have : t = l.length := by omega
      subst this
      unfold VC33_J1 ref29_Lin
      rw [h, List.all_eq_true.mpr (fun k hk1 => hy k (List.mem_range.mp hk1))]; rfl
end Go.Proofs.Ytnhdgebboafliaa
