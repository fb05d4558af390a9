/- Literals and clauses: what the small functions answer. -/
import Derived.Test.YtancoeikfkebfaaDoorMV11
set_option linter.all false
namespace Go.Proofs.YtancoeikfkebfaaDoor
open Go Go.Sv Go.Pu
theorem var_iff (l : Int) : varOf l ≠ 0 ↔ l ≠ 0 ∧ -100000 ≤ l ∧ l ≤ 100000 := by
  unfold varOf; repeat' split
  all_goals omega
theorem var_pos (l : Int) : 0 ≤ varOf l := by
  unfold varOf; repeat' split
  all_goals omega
theorem v64 (l vars : Int) (hp : preIn l vars) : VC64 l vars (fun r => r = lit_number_in l vars) := by
  unfold VC64 lit_number_in
  obtain ⟨h0, h1⟩ := hp
  rw [wrp (by omega) (by omega), show (0 - vars : Int) = -vars by omega]
theorem in_iff (l vars : Int) : lit_number_in l vars = true ↔ l ≠ 0 ∧ -vars ≤ l ∧ l ≤ vars := by
  unfold lit_number_in; simp; omega
theorem v76 (l : Int) : VC76 l (fun r => r = lit_is l) := by
  refine ⟨⟨by omega, by omega⟩, ?_⟩
  rintro _ rfl
  rw [Bool.eq_iff_iff, in_iff]
  unfold lit_is
  have := var_iff l
  simp only [bne_iff_ne]
  rw [this]
theorem v65 (l : Int) : VC65 l (fun r => r = lit_Var l) := by
  rintro _ rfl
  unfold lit_is lit_Var
  refine ⟨fun h => ?_, fun h => ?_⟩
  · have h : varOf l = 0 := by simpa using h
    rw [h]
  · have h : varOf l ≠ 0 := by simpa using h
    have := (var_iff l).1 h
    rw [wrp (by omega) (by omega)]
    unfold varOf; repeat' split
    all_goals omega
theorem v50 (l vars : Int) : VC50 l vars (fun r => r = lit_Check l vars) := by
  unfold lit_Check litE
  refine ⟨fun h => ?_, fun h => ?_⟩
  · rw [if_pos (by simpa using h)]
  · have hv : ¬ (vars < 0 ∨ vars > 100000) := by simpa using h
    refine ⟨⟨by omega, by omega⟩, ?_⟩
    rintro _ rfl
    rw [if_neg hv]
    refine ⟨fun h => ?_, fun h => ?_⟩
    · rw [if_pos]
      by_cases h1 : l = 0 ∨ l < -vars ∨ l > vars
      · exact h1
      · have := (in_iff l vars).2 (by omega)
        rw [this] at h; simp at h
    · rw [if_neg]
      have := (in_iff l vars).1 (by simpa using h)
      omega
theorem v69 (l : Int) : VC69 l (fun r => r = ref01_Split l) := by
  unfold ref01_Split
  refine ⟨fun h => ?_, fun h => ⟨fun h2 => ?_, fun h2 => ?_⟩⟩
  · rw [if_pos (by simpa using h)]
  · have a : ¬ (l > 0 ∧ l ≤ 100000) := by simpa using h
    have b : l < 0 ∧ l ≥ -100000 := by simpa using h2
    rw [if_neg a, if_pos b, wrp (by omega) (by omega)]
    simp
  · have a : ¬ (l > 0 ∧ l ≤ 100000) := by simpa using h
    have b : ¬ (l < 0 ∧ l ≥ -100000) := by simpa using h2
    rw [if_neg a, if_neg b]
theorem split_var (l : Int) : (ref01_Split l).1 = varOf l ∧ ((ref01_Split l).2 = true ↔ 0 < l ∧ varOf l ≠ 0) := by
  unfold ref01_Split varOf
  repeat' split
  all_goals simp
  all_goals omega
theorem v70 (l : Int) : VC70 l (fun r => r = ref01_Index l) := by
  rintro _ rfl
  obtain ⟨h1, h2⟩ := split_var l
  unfold ref01_Index
  rw [h1]
  refine ⟨fun h => ?_, fun h => ⟨fun hb => ?_, fun hb => ?_⟩⟩
  · rw [if_pos (by simpa using h)]
  · have h : varOf l ≠ 0 := by simpa using h
    have a := (var_iff l).1 h
    have b := h2.1 hb
    have c : varOf l = l := by unfold varOf; rw [if_pos (by omega)]
    rw [if_neg h, if_pos b.1, c, wrp (n := 2 * l) (by omega) (by omega), wrp (by omega) (by omega)]
  · have h : varOf l ≠ 0 := by simpa using h
    have a := (var_iff l).1 h
    have b : ¬ 0 < l := fun hl => by rw [h2.2 ⟨hl, h⟩] at hb; simp at hb
    have c : varOf l = -l := by unfold varOf; rw [if_neg (by omega), if_pos (by omega)]
    rw [if_neg h, if_neg b, c, wrp (n := 2 * -l) (by omega) (by omega), wrp (by omega) (by omega)]
    omega
theorem v71 (v : Int) (b : Bool) : VC71 v b (fun r => r = ref01_Join v b) := by
  unfold ref01_Join
  refine ⟨fun h => ?_, fun h => ⟨fun hb => ?_, fun hb => ?_⟩⟩
  · rw [if_pos (by simpa using h)]
  · have a : ¬ (v < 1 ∨ v > 100000) := by simpa using h
    rw [if_neg a, if_pos hb]
  · have a : ¬ (v < 1 ∨ v > 100000) := by simpa using h
    rw [if_neg a, if_neg (by simp [hb]), wrp (by omega) (by omega)]
    omega
theorem v60 (l : Int) : VC60 l (fun r => r = ref01_Neg l) := by
  rintro _ rfl
  rintro _ rfl
  obtain ⟨h1, h2⟩ := split_var l
  unfold ref01_Neg negOf ref01_Join
  rw [h1]
  by_cases h : varOf l = 0
  · rw [if_pos h, if_pos (by omega)]
  · have a := (var_iff l).1 h
    rw [if_neg h]
    have hp := var_pos l
    by_cases hl : 0 < l
    · have c : varOf l = l := by unfold varOf; rw [if_pos (by omega)]
      rw [c, if_neg (by omega), h2.2 ⟨hl, h⟩]
      simp
    · have c : varOf l = -l := by unfold varOf; rw [if_neg (by omega), if_pos (by omega)]
      have hb : (ref01_Split l).2 = false := by
        cases hx : (ref01_Split l).2 with
        | false => rfl
        | true => exact absurd (h2.1 hx).1 hl
      rw [c, if_neg (by omega), hb]
      simp
theorem v58 (l vars : Int) : VC58 l vars (fun r => r = ref01_Check l vars) := by
  unfold ref01_Check litE
  refine ⟨fun h => ?_, fun h => ?_⟩
  · rw [if_pos (by simpa using h)]
  · have hv : ¬ (vars < 0 ∨ vars > 100000) := by simpa using h
    rintro _ rfl
    rw [if_neg hv, (split_var l).1]
    have a := var_iff l
    have e : varOf l = l ∨ varOf l = -l ∨ varOf l = 0 := by unfold varOf; repeat' split
                                                            all_goals omega
    have hp := var_pos l
    refine ⟨fun h => ?_, fun h => ?_⟩
    · have h : varOf l = 0 ∨ varOf l > vars := by simpa using h
      rw [if_pos]
      by_cases h0 : varOf l = 0
      · have : ¬ (l ≠ 0 ∧ -100000 ≤ l ∧ l ≤ 100000) := fun x => a.2 x h0
        omega
      · omega
    · have h : varOf l ≠ 0 ∧ varOf l ≤ vars := by simpa using h
      have := a.1 h.1
      rw [if_neg]
      omega
theorem v26 (l : List Int) (n : Int) : VC26 l n (fun r => r = ref01_Has l n) := by
  intro hsm
  simp only [sm] at hsm
  unfold VC26_J1 ref01_Has
  refine ⟨fun i => 0 ≤ i ∧ i ≤ l.length ∧ n ∉ l.take i.toNat, fun i => (l.length - i).toNat, ⟨by omega, by omega, by simp⟩, ?_⟩
  rintro i ⟨h0, h1, h2⟩
  refine ⟨fun hi => ?_, fun hi => ?_⟩
  · have hi := of_decide_eq_true hi
    rw [wrp (n := i + 1) (by omega) (by omega)]
    refine ⟨⟨h0, hi⟩, fun he => ?_, fun he => ⟨⟨by omega, by omega, ?_⟩, by first | omega | (dsimp only; omega)⟩⟩
    · have he : gi l i = n := by simpa using he
      show true = decide (n ∈ l)
      rw [eq_comm, decide_eq_true_eq, ← he]
      exact mem_gi h0 hi
    · have he : gi l i ≠ n := by simpa using he
      rw [take_gi h0 hi, List.mem_append, List.mem_singleton]
      rintro (h | h)
      · exact h2 h
      · exact he h.symm
  · have hi := of_decide_eq_false hi
    rw [show i.toNat = l.length by omega, List.take_length] at h2
    show false = decide (n ∈ l)
    rw [eq_comm, decide_eq_false_iff_not]; exact h2
theorem take_ne {α : Type} [Inhabited α] {a b : List α} {i : Int} (h0 : 0 ≤ i) (ha : i < a.length) (hb : i < b.length) (h : gi a i ≠ gi b i) : a ≠ b := fun e => h (by rw [e])
theorem v43 (a b : List Int) : VC43 a b (fun r => r = ref01_SameInts a b) := by
  intro hsa hsb
  simp only [sm] at hsa hsb
  unfold VC43_J1 ref01_SameInts
  refine ⟨fun h => ?_, fun h => ?_⟩
  · have h : (a.length : Int) ≠ b.length := by simpa using h
    show false = decide (a = b)
    rw [eq_comm, decide_eq_false_iff_not]; intro e; rw [e] at h; exact h rfl
  · have h : (a.length : Int) = b.length := by simpa using h
    refine ⟨fun i => 0 ≤ i ∧ i ≤ a.length ∧ ∀ j : Int, 0 ≤ j → j < i → gi a j = gi b j, fun i => (a.length - i).toNat, ⟨by omega, by omega, fun j _ _ => by omega⟩, ?_⟩
    rintro i ⟨h0, h1, h2⟩
    refine ⟨fun hi => ?_, fun hi => ?_⟩
    · have hi := of_decide_eq_true hi
      rw [wrp (n := i + 1) (by omega) (by omega)]
      refine ⟨⟨h0, hi⟩, ⟨h0, by omega⟩, fun he => ?_, fun he => ⟨⟨by omega, by omega, fun j j0 j1 => ?_⟩, by first | omega | (dsimp only; omega)⟩⟩
      · show false = decide (a = b)
        rw [eq_comm, decide_eq_false_iff_not]
        exact take_ne h0 hi (by omega) (by simpa using he)
      · by_cases hj : j = i
        · subst hj; simpa using he
        · exact h2 j j0 (by omega)
    · have hi := of_decide_eq_false hi
      show true = decide (a = b)
      rw [eq_comm, decide_eq_true_eq]
      exact gi_ext (by omega) (fun j j0 j1 => h2 j j0 (by omega))
theorem v37 (a b : List Int) : VC37 a b (fun r => r = slices_Equal_int_int a b) := by
  intro hsa hsb
  simp only [sm] at hsa hsb
  unfold VC37_J1 slices_Equal_int_int
  refine ⟨fun h => ?_, fun h => ?_⟩
  · have h : (a.length : Int) ≠ b.length := by simpa using h
    show false = decide (a = b)
    rw [eq_comm, decide_eq_false_iff_not]; intro e; rw [e] at h; exact h rfl
  · have h : (a.length : Int) = b.length := by simpa using h
    refine ⟨fun i => 0 ≤ i ∧ i ≤ a.length ∧ ∀ j : Int, 0 ≤ j → j < i → gi a j = gi b j, fun i => (a.length - i).toNat, ⟨by omega, by omega, fun j _ _ => by omega⟩, ?_⟩
    rintro i ⟨h0, h1, h2⟩
    refine ⟨fun hi => ?_, fun hi => ?_⟩
    · have hi := of_decide_eq_true hi
      rw [wrp (n := i + 1) (by omega) (by omega)]
      refine ⟨⟨h0, hi⟩, ⟨h0, by omega⟩, fun he => ?_, fun he => ⟨⟨by omega, by omega, fun j j0 j1 => ?_⟩, by first | omega | (dsimp only; omega)⟩⟩
      · show false = decide (a = b)
        rw [eq_comm, decide_eq_false_iff_not]
        exact take_ne h0 hi (by omega) (by simpa using he)
      · by_cases hj : j = i
        · subst hj; simpa using he
        · exact h2 j j0 (by omega)
    · have hi := of_decide_eq_false hi
      show true = decide (a = b)
      rw [eq_comm, decide_eq_true_eq]
      exact gi_ext (by omega) (fun j j0 j1 => h2 j j0 (by omega))
theorem v59 (c : List Int) (l : Int) : VC59 c l (fun r => r = ref02_Has c l) := by
  intro _
  rintro _ rfl
  have : (ref01_Index l ≥ 0) ↔ varOf l ≠ 0 := by
    unfold ref01_Index
    by_cases h : varOf l = 0
    · rw [if_pos h]; simp [h]
    · have := (var_iff l).1 h
      rw [if_neg h]; split <;> simp [h] <;> omega
  unfold ref02_Has ref01_Has
  refine ⟨fun h => ?_, fun h => ?_⟩
  · rintro _ rfl
    have h := this.1 (of_decide_eq_true h)
    simp [h]
  · have h : varOf l = 0 := by
      have := mt this.2 (of_decide_eq_false h)
      simpa using this
    simp [h]
theorem litsE_ten (vars : Int) (hv : ¬ (vars < 0 ∨ vars > 100000)) : ∀ c, litsE vars c = 0 ∨ litsE vars c = 10
  | [] => .inl rfl
  | l :: c => by
    unfold litsE
    split
    · rename_i h; unfold litE at h ⊢; rw [if_neg hv] at h ⊢; split <;> simp_all
    · exact litsE_ten vars hv c
theorem litsE_app (vars : Int) : ∀ a b, litsE vars (a ++ b) = if litsE vars a ≠ 0 then litsE vars a else litsE vars b
  | [], b => by simp [litsE]
  | l :: a, b => by
    have st : ∀ r, litsE vars (l :: r) = if litE l vars ≠ 0 then litE l vars else litsE vars r := fun _ => rfl
    rw [List.cons_append, st, st]
    by_cases h : litE l vars ≠ 0
    · rw [if_pos h, if_pos h, if_pos h]
    · rw [if_neg h, if_neg h, litsE_app vars a b]
theorem litsE_at {vars : Int} {c : List Int} {i : Int} (h0 : 0 ≤ i) (hi : i < c.length) (hz : litsE vars (c.take i.toNat) = 0) (he : litE (gi c i) vars ≠ 0) : litsE vars c = litE (gi c i) vars := by
  have e : c = c.take i.toNat ++ gi c i :: c.drop (i + 1).toNat := by rw [← drop_gi h0 hi, List.take_append_drop]
  conv => lhs; rw [e, litsE_app, if_neg (by simp [hz])]
  unfold litsE; rw [if_pos he]
theorem litsE_step {vars : Int} {c : List Int} {i : Int} (h0 : 0 ≤ i) (hi : i < c.length) (hz : litsE vars (c.take i.toNat) = 0) (he : litE (gi c i) vars = 0) : litsE vars (c.take (i + 1).toNat) = 0 := by
  rw [take_gi h0 hi, litsE_app, if_neg (by simp [hz])]
  simp [litsE, he]
theorem v45 (c : List Int) (vars : Int) : VC45 c vars (fun r => r = ref02_Check c vars) := by
  intro hsm
  simp only [sm] at hsm
  unfold VC45_J1 VC45_J2 ref02_Check clauseE
  refine ⟨fun h => ?_, fun h => ⟨fun h2 => ?_, fun h2 => ?_⟩⟩
  · rw [if_pos (by simpa using h)]
  · rw [if_neg (by simpa using h), if_pos (by have := of_decide_eq_true h2; omega)]
  · have hv : ¬ (vars < 0 ∨ vars > 100000) := by simpa using h
    have hl : ¬ c.length > 1000 := by have := of_decide_eq_false h2; omega
    rw [if_neg hv, if_neg hl]
    refine ⟨fun i => 0 ≤ i ∧ i ≤ c.length ∧ litsE vars (c.take i.toNat) = 0, fun i => (c.length - i).toNat, ⟨by omega, by omega, rfl⟩, ?_⟩
    rintro i ⟨h0, h1, hz⟩
    refine ⟨fun hi => ?_, fun hi => ?_⟩
    · have hi := of_decide_eq_true hi
      refine ⟨⟨h0, hi⟩, ?_⟩
      rintro _ rfl
      rw [wrp (n := i + 1) (by omega) (by omega)]
      refine ⟨fun he => ?_, fun he => ⟨⟨by omega, by omega, litsE_step h0 hi hz (by simpa [ref01_Check] using he)⟩, by first | omega | (dsimp only; omega)⟩⟩
      have he : litE (gi c i) vars ≠ 0 := by simpa [ref01_Check] using he
      have e := litsE_at h0 hi hz he
      have := litsE_ten vars hv c
      rw [if_pos (by rw [e]; exact he)]
      rw [e] at this ⊢
      omega
    · have hi := of_decide_eq_false hi
      rw [show i.toNat = c.length by omega, List.take_length] at hz
      rw [if_neg (by simp [hz])]
      refine ⟨fun i => 0 ≤ i ∧ i ≤ c.length ∧ (c.take i.toNat).Nodup, fun i => (c.length - i).toNat, ⟨by omega, by omega, by simp⟩, ?_⟩
      rintro i ⟨h0, h1, hn⟩
      refine ⟨fun hi => ?_, fun hi => ?_⟩
      · have hi := of_decide_eq_true hi
        refine ⟨⟨h0, h1⟩, ⟨h0, hi⟩, ?_⟩
        rintro _ rfl
        rw [wrp (n := i + 1) (by omega) (by omega)]
        refine ⟨fun he => ?_, fun he => ⟨⟨by omega, by omega, ?_⟩, by first | omega | (dsimp only; omega)⟩⟩
        · have he : gi c i ∈ c.take i.toNat := by simpa [ref01_Has] using he
          rw [if_neg]
          intro hnd
          have e : c = c.take i.toNat ++ gi c i :: c.drop (i + 1).toNat := by rw [← drop_gi h0 hi, List.take_append_drop]
          rw [e, List.nodup_append] at hnd
          exact hnd.2.2 _ he _ (by simp) rfl
        · have he : gi c i ∉ c.take i.toNat := by simpa [ref01_Has] using he
          rw [take_gi h0 hi, List.nodup_append]
          exact ⟨hn, by simp, fun a ha b hb e => by simp at hb; subst hb; subst e; exact he ha⟩
      · have hi := of_decide_eq_false hi
        rw [show i.toNat = c.length by omega, List.take_length] at hn
        rw [if_pos hn]
theorem any_at {f : Int → Bool} {c : List Int} {i : Int} (h0 : 0 ≤ i) (hi : i < c.length) (h : f (gi c i) = true) : c.any f = true := List.any_eq_true.2 ⟨_, mem_gi h0 hi, h⟩
theorem any_step {f : Int → Bool} {c : List Int} {i : Int} (h0 : 0 ≤ i) (hi : i < c.length) (hz : (c.take i.toNat).any f = false) (h : f (gi c i) = false) : (c.take (i + 1).toNat).any f = false := by
  rw [take_gi h0 hi, List.any_append, hz]; simp [h]
theorem taut_at (c : List Int) (l : Int) : (ref02_Has c l && ref02_Has c (ref01_Neg l)) = (decide (l ∈ c) && (varOf l != 0 && c.contains (-l))) := by
  unfold ref02_Has ref01_Neg negOf
  by_cases h : varOf l = 0
  · simp [h]
  · have := (var_iff l).1 h
    have h2 : varOf (-l) ≠ 0 := (var_iff (-l)).2 (by omega)
    have e1 : (varOf l != 0) = true := by simpa using h
    have e2 : (varOf (-l) != 0) = true := by simpa using h2
    simp [h, e1, e2]
theorem v46 (c : List Int) : VC46 c (fun r => r = ref02_Taut c) := by
  intro hsm
  simp only [sm] at hsm
  unfold VC46_J1 VC46_J2 ref02_Taut tautOf
  refine ⟨fun i => 0 ≤ i ∧ i ≤ c.length ∧ (c.take i.toNat).any (fun l => varOf l != 0 && c.contains (-l)) = false, fun i => (c.length - i).toNat, ⟨by omega, by omega, by simp⟩, ?_⟩
  rintro i ⟨h0, h1, hz⟩
  refine ⟨fun hi => ?_, fun hi => ?_⟩
  · have hi := of_decide_eq_true hi
    refine ⟨⟨h0, hi⟩, ?_⟩
    rintro _ rfl
    have ht := taut_at c (gi c i)
    have hm : decide (gi c i ∈ c) = true := decide_eq_true (mem_gi h0 hi)
    rw [hm, Bool.true_and] at ht
    rw [wrp (n := i + 1) (by omega) (by omega)]
    have key : ∀ x : Bool, (varOf (gi c i) != 0 && c.contains (-gi c i)) = x → (x = true → true = c.any fun l => varOf l != 0 && c.contains (-l)) ∧ (x = false → (0 ≤ i + 1 ∧ i + 1 ≤ (c.length : Int) ∧ (c.take (i + 1).toNat).any (fun l => varOf l != 0 && c.contains (-l)) = false) ∧ ((c.length : Int) - (i + 1)).toNat < ((c.length : Int) - i).toNat) := by
      intro x hx
      refine ⟨fun h => ?_, fun h => ⟨⟨by omega, by omega, any_step h0 hi hz (by rw [hx, h])⟩, by omega⟩⟩
      exact (any_at (f := fun l => varOf l != 0 && c.contains (-l)) h0 hi (by rw [hx, h])).symm
    refine ⟨fun h => ⟨⟨h0, hi⟩, ?_⟩, fun h => ?_⟩
    · rintro _ rfl
      rintro _ rfl
      rw [h, Bool.true_and] at ht
      exact key _ ht.symm
    · rw [h, Bool.false_and] at ht
      exact key _ ht.symm
  · have hi := of_decide_eq_false hi
    rw [show i.toNat = c.length by omega, List.take_length] at hz
    exact hz.symm
end Go.Proofs.YtancoeikfkebfaaDoor
