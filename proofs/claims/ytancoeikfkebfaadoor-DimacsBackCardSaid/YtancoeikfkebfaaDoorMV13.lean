/- Clauses and formulas: what the small functions answer. -/
import Derived.Test.YtancoeikfkebfaaDoorMV12
set_option linter.all false
namespace Go.Proofs.YtancoeikfkebfaaDoor
open Go Go.Sv Go.Pu
theorem take_neL {a b : List (List Int)} {i : Int} (h0 : 0 ≤ i) (h : gi a i ≠ gi b i) : a ≠ b := fun e => h (by rw [e])
theorem v36 (x y : List Int) : VC36 x y (fun r => r = cnf_Same_1 x y) := by
  intro _ _
  rintro _ rfl
  rfl
theorem v35_36 (a b : List (List Int)) : VC35_36 a b (fun r => r = slices_EqualFunc_int_int_int_int_cnf_Same_1 a b) := by
  intro hsa hsb
  simp only [sm] at hsa hsb
  unfold VC35_36_J1 slices_EqualFunc_int_int_int_int_cnf_Same_1
  refine ⟨fun h => ?_, fun h => ?_⟩
  · have h : (a.length : Int) ≠ b.length := by simpa using h
    show false = decide (a = b)
    rw [eq_comm, decide_eq_false_iff_not]; intro e; rw [e] at h; exact h rfl
  · have h : (a.length : Int) = b.length := by simpa using h
    refine ⟨fun i => 0 ≤ i ∧ i ≤ a.length ∧ ∀ j : Int, 0 ≤ j → j < i → gi a j = gi b j, fun i => (a.length - i).toNat, ⟨by omega, by omega, fun j _ _ => by omega⟩, ?_⟩
    rintro i ⟨h0, h1, h2⟩
    refine ⟨fun hi => ?_, fun hi => ?_⟩
    · have hi := of_decide_eq_true hi
      rw [wrp (n := i + 1) (by omega) (by omega)]
      refine ⟨⟨h0, hi⟩, fun _ => ⟨⟨h0, by omega⟩, fun _ => ?_⟩⟩
      rintro _ rfl
      refine ⟨fun he => ?_, fun he => ⟨⟨by omega, by omega, fun j j0 j1 => ?_⟩, by first | omega | (dsimp only; omega)⟩⟩
      · show false = decide (a = b)
        rw [eq_comm, decide_eq_false_iff_not]
        exact take_neL h0 (by simpa [cnf_Same_1] using he)
      · by_cases hj : j = i
        · subst hj; simpa [cnf_Same_1] using he
        · exact h2 j j0 (by omega)
    · have hi := of_decide_eq_false hi
      show true = decide (a = b)
      rw [eq_comm, decide_eq_true_eq]
      exact gi_ext (by omega) (fun j j0 j1 => h2 j j0 (by omega))
theorem v27 (a b : List (List Int)) : VC27 a b (fun r => r = ref04_SameRows a b) := by
  intro hsa hsb
  simp only [sm] at hsa hsb
  unfold VC27_J1 ref04_SameRows
  refine ⟨fun h => ?_, fun h => ?_⟩
  · have h : (a.length : Int) ≠ b.length := by simpa using h
    show false = decide (a = b)
    rw [eq_comm, decide_eq_false_iff_not]; intro e; rw [e] at h; exact h rfl
  · have h : (a.length : Int) = b.length := by simpa using h
    refine ⟨fun i => 0 ≤ i ∧ i ≤ a.length ∧ ∀ j : Int, 0 ≤ j → j < i → gi a j = gi b j, fun i => (a.length - i).toNat, ⟨by omega, by omega, fun j _ _ => by omega⟩, ?_⟩
    rintro i ⟨h0, h1, h2⟩
    refine ⟨fun hi => ?_, fun hi => ?_⟩
    · have hi := of_decide_eq_true hi
      rw [wrp (n := i + 1) (by omega) (by omega)]
      refine ⟨⟨h0, hi⟩, fun _ => ⟨⟨h0, by omega⟩, fun _ => ?_⟩⟩
      rintro _ rfl
      refine ⟨fun he => ?_, fun he => ⟨⟨by omega, by omega, fun j j0 j1 => ?_⟩, by first | omega | (dsimp only; omega)⟩⟩
      · show false = decide (a = b)
        rw [eq_comm, decide_eq_false_iff_not]
        exact take_neL h0 (by simpa [ref01_SameInts] using he)
      · by_cases hj : j = i
        · subst hj; simpa [ref01_SameInts] using he
        · exact h2 j j0 (by omega)
    · have hi := of_decide_eq_false hi
      show true = decide (a = b)
      rw [eq_comm, decide_eq_true_eq]
      exact gi_ext (by omega) (fun j j0 j1 => h2 j j0 (by omega))
theorem v18 (a b : Api_Formula) : VC18 a b (fun r => r = cnf_Same a b) := by
  intro _ _
  unfold cnf_Same slices_EqualFunc_int_int_int_int_cnf_Same_1
  obtain ⟨av, ac⟩ := a
  obtain ⟨bv, bc⟩ := b
  refine ⟨fun h => ?_, fun h => ?_⟩
  · rintro _ rfl
    have h : av = bv := by simpa using h
    subst h; simp
  · have h : ¬ av = bv := by simpa using h
    simp [h]
theorem v10 (a b : Api_Formula) : VC10 a b (fun r => r = ref04_Same a b) := by
  intro _ _
  unfold ref04_Same ref04_SameRows
  obtain ⟨av, ac⟩ := a
  obtain ⟨bv, bc⟩ := b
  refine ⟨fun h => ?_, fun h => ?_⟩
  · rintro _ rfl
    have h : av = bv := by simpa using h
    subst h; simp
  · have h : ¬ av = bv := by simpa using h
    simp [h]
theorem v11 (f : Api_Formula) : VC11 f (fun r => r = law04_Few f) := by
  intro hsm
  simp only [sm] at hsm
  unfold VC11_J1 law04_Few
  refine ⟨fun h => ?_, fun h => ?_⟩
  · have h := of_decide_eq_true h
    have : decide (f.Clauses.length ≤ 200) = false := decide_eq_false (by omega)
    rw [this]; rfl
  · have h := of_decide_eq_false h
    have : decide (f.Clauses.length ≤ 200) = true := decide_eq_true (by omega)
    rw [this, Bool.true_and]
    refine ⟨fun i => 0 ≤ i ∧ i ≤ f.Clauses.length ∧ (f.Clauses.take i.toNat).all (fun c => decide (c.length ≤ 50)) = true, fun i => (f.Clauses.length - i).toNat, ⟨by omega, by omega, by simp⟩, ?_⟩
    rintro i ⟨h0, h1, hz⟩
    refine ⟨fun hi => ?_, fun hi => ?_⟩
    · have hi := of_decide_eq_true hi
      rw [wrp (n := i + 1) (by omega) (by omega)]
      refine ⟨⟨h0, hi⟩, fun _ => ⟨fun he => ?_, fun he => ⟨⟨by omega, by omega, ?_⟩, by first | omega | (dsimp only; omega)⟩⟩⟩
      · have he := of_decide_eq_true he
        show false = f.Clauses.all _
        rw [eq_comm, List.all_eq_false]
        exact ⟨_, mem_gi h0 hi, by simp; omega⟩
      · have he := of_decide_eq_false he
        rw [take_gi h0 hi, List.all_append, hz]; simp; omega
    · have hi := of_decide_eq_false hi
      rw [show i.toNat = f.Clauses.length by omega, List.take_length] at hz
      exact hz.symm
/-! how often each literal stands in a clause -/
theorem seen_snoc (m : List (Int × Int)) : ∀ (c : List Int) (m : List (Int × Int)) (l : Int), seenGo (c ++ [l]) m = if varOf l > 0 then mput (seenGo c m) l ((mget (seenGo c m) l).getD 0 + 1) else seenGo c m
  | [], m, l => rfl
  | x :: c, m, l => by rw [List.cons_append]; unfold seenGo; exact seen_snoc m c _ l
theorem seen_get : ∀ (c : List Int) (m : List (Int × Int)) (x : Int), (mget (seenGo c m) x).getD 0 = (mget m x).getD 0 + if varOf x > 0 then (c.count x : Int) else 0
  | [], m, x => by simp [seenGo]
  | l :: c, m, x => by
    unfold seenGo
    rw [seen_get c _ x]
    by_cases hl : varOf l > 0
    · rw [if_pos hl, mget_mput]
      by_cases hx : x = l
      · subst hx; simp [hl]; omega
      · have : ¬ l = x := fun e => hx e.symm
        rw [if_neg hx, List.count_cons_of_ne this]
    · rw [if_neg hl]
      by_cases hx : x = l
      · subst hx; simp [hl]
      · have : ¬ l = x := fun e => hx e.symm
        rw [List.count_cons_of_ne this]
def keysM (m : List (Int × Int)) : List Int := m.map fun q => q.1
theorem keys_mput : ∀ (m : List (Int × Int)) (k x : Int), keysM (mput m k x) = if k ∈ keysM m then keysM m else keysM m ++ [k]
  | [], k, x => by simp [keysM, mput]
  | (a, b) :: m, k, x => by
    have ih := keys_mput m k x
    unfold keysM at *
    unfold mput
    by_cases h : a = k
    · subst h; simp
    · have h2 : ¬ k = a := fun e => h e.symm
      rw [if_neg h]
      simp only [List.map_cons, List.mem_cons, h2, false_or]
      rw [ih]
      split <;> simp
theorem len_mput (m : List (Int × Int)) (k x : Int) : (mput m k x).length = if k ∈ keysM m then m.length else m.length + 1 := by
  have := congrArg List.length (keys_mput m k x)
  simp only [keysM, List.length_map] at this
  rw [this]
  unfold keysM
  split <;> simp
theorem seen_len : ∀ (c : List Int) (m : List (Int × Int)), (∀ l ∈ c, varOf l > 0) → (seenGo c m).length ≤ m.length + c.length ∧ ((seenGo c m).length = m.length + c.length ↔ c.Nodup ∧ ∀ l ∈ c, l ∉ keysM m)
  | [], m, _ => by simp [seenGo]
  | l :: c, m, h => by
    have hl := h l (by simp)
    obtain ⟨i1, i2⟩ := seen_len c (mput m l ((mget m l).getD 0 + 1)) (fun x hx => h x (by simp [hx]))
    unfold seenGo
    rw [if_pos hl]
    have hm := len_mput m l ((mget m l).getD 0 + 1)
    have hk := keys_mput m l ((mget m l).getD 0 + 1)
    by_cases hin : l ∈ keysM m
    · rw [if_pos hin] at hm hk
      rw [hm] at i1 i2
      refine ⟨by simp; omega, ?_⟩
      constructor
      · intro e; simp at e; omega
      · intro e; exact absurd hin (e.2 l (by simp))
    · rw [if_neg hin] at hm hk
      rw [hm] at i1 i2
      refine ⟨by simp; omega, ?_⟩
      have e : ((seenGo c (mput m l ((mget m l).getD 0 + 1))).length = m.length + (l :: c).length) ↔ ((seenGo c (mput m l ((mget m l).getD 0 + 1))).length = m.length + 1 + c.length) := by simp; omega
      rw [e, i2, hk, List.nodup_cons]
      constructor
      · rintro ⟨a, b⟩
        refine ⟨⟨fun x => (b l x) (by simp), a⟩, fun x hx => ?_⟩
        rcases List.mem_cons.1 hx with rfl | hx
        · exact hin
        · exact fun y => b x hx (by simp [y])
      · rintro ⟨⟨a, b⟩, d⟩
        refine ⟨b, fun x hx y => ?_⟩
        rcases List.mem_append.1 y with y | y
        · exact d x (by simp [hx]) y
        · simp at y; subst y; exact a hx
theorem v51 (c : List Int) (hp : preSeen c) : VC51 c (fun r => r = clause_seen c) := by
  intro _
  have hl : c.length ≤ 1000000 := hp
  unfold VC51_J1 VC51_J2 clause_seen
  refine ⟨fun m i => 0 ≤ i ∧ i ≤ c.length ∧ m = seenGo (c.take i.toNat) [], fun _ i => (c.length - i).toNat, ⟨by omega, by omega, rfl⟩, ?_⟩
  rintro m i ⟨h0, h1, hm⟩
  refine ⟨fun hi => ?_, fun hi => ?_⟩
  · have hi := of_decide_eq_true hi
    refine ⟨⟨h0, hi⟩, ?_⟩
    rintro _ rfl
    have hs := seen_snoc [] (c.take i.toNat) [] (gi c i)
    rw [← take_gi h0 hi, ← hm] at hs
    have hg := seen_get (c.take i.toNat) [] (gi c i)
    rw [← hm] at hg
    have hc : (c.take i.toNat).count (gi c i) ≤ 1000000 := Nat.le_trans List.count_le_length (by simp; omega)
    have hb : 0 ≤ (mget m (gi c i)).getD 0 ∧ (mget m (gi c i)).getD 0 ≤ 1000000 := by
      rw [hg]; simp only [mget, Option.getD_none]; split <;> omega
    rw [wrp (n := i + 1) (by omega) (by omega), wrp (n := (mget m (gi c i)).getD 0 + 1) (by omega) (by omega)]
    refine ⟨fun h => ?_, fun h => ?_⟩
    · have h : varOf (gi c i) > 0 := of_decide_eq_true h
      rw [if_pos h] at hs
      exact ⟨⟨by omega, by omega, hs.symm⟩, by first | omega | (dsimp only; omega)⟩
    · have h : ¬ varOf (gi c i) > 0 := of_decide_eq_false h
      rw [if_neg h] at hs
      exact ⟨⟨by omega, by omega, hs.symm⟩, by first | omega | (dsimp only; omega)⟩
  · have hi := of_decide_eq_false hi
    rw [show i.toNat = c.length by omega, List.take_length] at hm
    exact hm
theorem v53 (l : Int) (m : List (Int × Int)) (hp : preT1 l m) : VC53 l m (fun r => r = clause_Taut_1 l m) := by
  obtain ⟨h0, h1⟩ := hp
  unfold VC53 clause_Taut_1
  rw [wrp (by omega) (by omega), show (0 - l : Int) = -l by omega]
  refine ⟨fun h => ?_, fun h => ?_⟩
  · rw [h, Bool.true_and]
  · rw [h, Bool.false_and]
theorem idxGo_cons (f : Int → Bool) (x : Int) (r : List Int) (k : Int) : idxGo f (x :: r) k = if f x then k else idxGo f r (k + 1) := rfl
theorem idx_at {f : Int → Bool} {c : List Int} {i : Int} (h0 : 0 ≤ i) (hi : i < c.length) (hz : (c.take i.toNat).any f = false) (h : f (gi c i) = true) : idxOf f c = i := by
  have key : ∀ (a : List Int) (b : List Int) (k : Int), a.any f = false → idxGo f (a ++ b) k = idxGo f b (k + a.length) := by
    intro a
    induction a with
    | nil => intro b k _; simp
    | cons x a ih =>
      intro b k ha
      rw [List.any_cons, Bool.or_eq_false_iff] at ha
      rw [List.cons_append, idxGo_cons, if_neg (by simp [ha.1]), ih b (k + 1) ha.2, List.length_cons]
      congr 1; omega
  have e : c = c.take i.toNat ++ gi c i :: c.drop (i + 1).toNat := by rw [← drop_gi h0 hi, List.take_append_drop]
  unfold idxOf
  rw [e, key _ _ 0 hz, idxGo_cons, if_pos h]
  simp; omega
theorem idx_none {f : Int → Bool} : ∀ {c : List Int} (k : Int), c.any f = false → idxGo f c k = -1
  | [], k, _ => rfl
  | x :: c, k, h => by
    rw [List.any_cons, Bool.or_eq_false_iff] at h
    unfold idxGo
    rw [if_neg (by simp [h.1])]
    exact idx_none _ h.2
theorem idx_ge {f : Int → Bool} (c : List Int) : decide (idxOf f c ≥ 0) = c.any f := by
  cases h : c.any f with
  | false => unfold idxOf; rw [idx_none 0 h]; decide
  | true =>
    have key : ∀ (c : List Int) (k : Int), 0 ≤ k → c.any f = true → 0 ≤ idxGo f c k := by
      intro c
      induction c with
      | nil => intro k _ h; simp at h
      | cons x c ih =>
        intro k hk h
        unfold idxGo
        split
        · exact hk
        · rename_i hx; rw [List.any_cons] at h; simp [hx] at h; exact ih (k + 1) (by omega) (by simpa using h)
    exact decide_eq_true (key c 0 (by omega) h)
theorem v66_53 (c : List Int) (m : List (Int × Int)) (hp : preTI c m) : VC66_53 c m (fun r => r = slices_IndexFunc_int_int_clause_Taut_1 c m) := by
  intro hsm
  simp only [sm] at hsm
  unfold VC66_53_J1 slices_IndexFunc_int_int_clause_Taut_1
  refine ⟨fun i => 0 ≤ i ∧ i ≤ c.length ∧ (c.take i.toNat).any (fun l => clause_Taut_1 l m) = false, fun i => (c.length - i).toNat, ⟨by omega, by omega, by simp⟩, ?_⟩
  rintro i ⟨h0, h1, hz⟩
  refine ⟨fun hi => ?_, fun hi => ?_⟩
  · have hi := of_decide_eq_true hi
    rw [wrp (n := i + 1) (by omega) (by omega)]
    refine ⟨⟨h0, hi⟩, hp _ (mem_gi h0 hi), ?_⟩
    rintro _ rfl
    refine ⟨fun h => (idx_at (f := fun l => clause_Taut_1 l m) h0 hi hz h).symm, fun h => ⟨⟨by omega, by omega, any_step (f := fun l => clause_Taut_1 l m) h0 hi hz h⟩, by first | omega | (dsimp only; omega)⟩⟩
  · have hi := of_decide_eq_false hi
    rw [show i.toNat = c.length by omega, List.take_length] at hz
    exact (idx_none 0 hz).symm
theorem v52_53 (c : List Int) (m : List (Int × Int)) (hp : preTI c m) : VC52_53 c m (fun r => r = slices_ContainsFunc_int_int_clause_Taut_1 c m) := by
  intro _
  refine ⟨hp, ?_⟩
  rintro _ rfl
  exact idx_ge c
theorem any_same {f g : Int → Bool} {c : List Int} (h : ∀ l ∈ c, f l = g l) : c.any f = c.any g := by
  rw [Bool.eq_iff_iff, List.any_eq_true, List.any_eq_true]
  constructor
  · rintro ⟨x, hx, hf⟩; exact ⟨x, hx, by rw [← h x hx]; exact hf⟩
  · rintro ⟨x, hx, hf⟩; exact ⟨x, hx, by rw [h x hx]; exact hf⟩
theorem v34 (c : List Int) (hp : preTt c) : VC34 c (fun r => r = clause_Taut c) := by
  obtain ⟨hl, hb⟩ := hp
  intro _
  refine ⟨hl, ?_⟩
  rintro _ rfl
  refine ⟨hb, ?_⟩
  rintro _ rfl
  unfold slices_ContainsFunc_int_int_clause_Taut_1 clause_Taut tautOf
  refine any_same fun l hl => ?_
  unfold clause_Taut_1 clause_seen
  rw [seen_get, seen_get]
  have b := hb l hl
  have hc : 0 < c.count l := List.count_pos_iff.2 hl
  have hz : ∀ x : Int, (mget ([] : List (Int × Int)) x).getD 0 = 0 := fun _ => rfl
  rw [hz, hz]
  by_cases hv : varOf l = 0
  · rw [hv]; simp
  · have a := (var_iff l).1 hv
    have p1 := var_pos l
    have p2 := var_pos (-l)
    have hv2 : varOf (-l) ≠ 0 := (var_iff (-l)).2 (by omega)
    rw [if_pos (by omega), if_pos (by omega)]
    have e1 : (varOf l != 0) = true := by simpa using hv
    rw [e1, Bool.true_and, decide_eq_true (show (0 : Int) + (c.count l : Int) > 0 by omega), Bool.true_and, Bool.eq_iff_iff]
    simp
theorem v33 (c : List Int) (vars : Int) : VC33 c vars (fun r => r = clause_Check c vars) := by
  intro hsm
  simp only [sm] at hsm
  unfold VC33_J1 clause_Check clauseE
  refine ⟨fun h => ?_, fun h => ⟨fun h2 => ?_, fun h2 => ?_⟩⟩
  · rw [if_pos (by simpa using h)]
  · rw [if_neg (by simpa using h), if_pos (by have := of_decide_eq_true h2; omega)]
  · have hv : ¬ (vars < 0 ∨ vars > 100000) := by simpa using h
    have hl : ¬ c.length > 1000 := by have := of_decide_eq_false h2; omega
    rw [if_neg hv, if_neg hl]
    refine ⟨fun i => 0 ≤ i ∧ i ≤ c.length ∧ litsE vars (c.take i.toNat) = 0, fun i => (c.length - i).toNat, ⟨by omega, by omega, rfl⟩, ?_⟩
    rintro i ⟨h0, h1, hz⟩
    refine ⟨fun hi => ?_, fun hi => ?_⟩
    · have hi := of_decide_eq_true hi
      refine ⟨⟨h0, hi⟩, ?_⟩
      rintro _ rfl
      rw [wrp (n := i + 1) (by omega) (by omega)]
      refine ⟨fun he => ?_, fun he => ⟨⟨by omega, by omega, litsE_step h0 hi hz (by simpa [lit_Check] using he)⟩, by first | omega | (dsimp only; omega)⟩⟩
      have he : litE (gi c i) vars ≠ 0 := by simpa [lit_Check] using he
      have e := litsE_at h0 hi hz he
      rw [if_pos (by rw [e]; exact he), e]; try rfl
    · have hi := of_decide_eq_false hi
      rw [show i.toNat = c.length by omega, List.take_length] at hz
      rw [if_neg (by simp [hz])]
      refine ⟨by show c.length ≤ 1000000; omega, ?_⟩
      rintro _ rfl
      have hb := (litsE_iff vars (by omega) c).1 hz
      obtain ⟨i1, i2⟩ := seen_len c [] (fun l hl => by
        have := hb l hl
        have p := var_pos l
        have := (var_iff l).2 (by omega)
        omega)
      unfold clause_seen
      simp only [List.length_nil, Nat.zero_add] at i1 i2
      by_cases hn : c.Nodup
      · have := i2.2 ⟨hn, fun l _ => by simp [keysM]⟩
        rw [if_pos hn]
        refine ⟨fun h => ?_, fun _ => rfl⟩
        have := of_decide_eq_true h
        omega
      · have : ¬ (seenGo c []).length = c.length := fun e => hn (i2.1 e).1
        rw [if_neg hn]
        refine ⟨fun _ => rfl, fun h => ?_⟩
        have := of_decide_eq_false h
        omega
theorem cnf_at {vars : Int} : ∀ (a b : List (List Int)) (k : Int), (∀ c ∈ a, clauseE c vars = 0 ∧ tautOf c = false) → cnfGo vars (a ++ b) k = cnfGo vars b (k + a.length)
  | [], b, k, _ => by simp
  | x :: a, b, k, h => by
    obtain ⟨h1, h2⟩ := h x (by simp)
    rw [List.cons_append]
    have st : ∀ r k, cnfGo vars (x :: r) k = if clauseE x vars ≠ 0 then (k, clauseE x vars) else if tautOf x then (k, 11) else cnfGo vars r (k + 1) := fun _ _ => rfl
    rw [st, if_neg (by simp [h1]), if_neg (by simp [h2]), cnf_at a b (k + 1) (fun c hc => h c (by simp [hc])), List.length_cons]
    congr 1; omega
theorem cnf_split {l : List (List Int)} {i : Int} (h0 : 0 ≤ i) (hi : i < l.length) : l = l.take i.toNat ++ gi l i :: l.drop (i + 1).toNat := by rw [← drop_gi h0 hi, List.take_append_drop]
theorem cnf_hit {vars : Int} {l : List (List Int)} {i : Int} (h0 : 0 ≤ i) (hi : i < l.length) (h : ∀ c ∈ l.take i.toNat, clauseE c vars = 0 ∧ tautOf c = false) : cnfGo vars l 0 = if clauseE (gi l i) vars ≠ 0 then (i, clauseE (gi l i) vars) else if tautOf (gi l i) then (i, 11) else cnfGo vars (l.drop (i + 1).toNat) (i + 1) := by
  have e := cnf_split h0 hi
  conv => lhs; rw [e, cnf_at _ _ 0 h]
  have : (0 : Int) + ((l.take i.toNat).length : Int) = i := by simp; omega
  rw [this]
  rfl
theorem cnf_step {vars : Int} {l : List (List Int)} {i : Int} (h0 : 0 ≤ i) (hi : i < l.length) (h : ∀ c ∈ l.take i.toNat, clauseE c vars = 0 ∧ tautOf c = false) (h1 : clauseE (gi l i) vars = 0) (h2 : tautOf (gi l i) = false) : ∀ c ∈ l.take (i + 1).toNat, clauseE c vars = 0 ∧ tautOf c = false := by
  intro c hc
  rw [take_gi h0 hi] at hc
  rcases List.mem_append.1 hc with hc | hc
  · exact h c hc
  · simp at hc; subst hc; exact ⟨h1, h2⟩
theorem cnf_end {vars : Int} {l : List (List Int)} (h : ∀ c ∈ l, clauseE c vars = 0 ∧ tautOf c = false) : cnfGo vars l 0 = ((l.length : Int), 0) := by
  have := cnf_at l [] 0 h
  rw [List.append_nil] at this
  rw [this]; simp [cnfGo]
theorem v17 (f : Api_Formula) : VC17 f (fun r => r = cnf_Check f) := by
  intro hsm
  simp only [sm] at hsm
  unfold VC17_J1 cnf_Check cnfE
  refine ⟨fun h => ?_, fun h => ⟨fun h2 => ?_, fun h2 => ?_⟩⟩
  · rw [if_pos (by simpa using h)]
  · rw [if_neg (by simpa using h), if_pos (by have := of_decide_eq_true h2; omega)]
  · have hv : ¬ (f.Vars < 0 ∨ f.Vars > 100000) := by simpa using h
    have hl : ¬ f.Clauses.length > 1000000 := by have := of_decide_eq_false h2; omega
    rw [if_neg hv, if_neg hl]
    refine ⟨fun i => 0 ≤ i ∧ i ≤ f.Clauses.length ∧ ∀ c ∈ f.Clauses.take i.toNat, clauseE c f.Vars = 0 ∧ tautOf c = false, fun i => (f.Clauses.length - i).toNat, ⟨by omega, by omega, by simp⟩, ?_⟩
    rintro i ⟨h0, h1, hz⟩
    refine ⟨fun hi => ?_, fun hi => ?_⟩
    · have hi := of_decide_eq_true hi
      have hh := cnf_hit h0 hi hz
      rw [wrp (n := i + 1) (by omega) (by omega)]
      refine ⟨⟨h0, hi⟩, fun _ => ?_⟩
      rintro _ rfl
      refine ⟨fun he => ?_, fun he => ?_⟩
      · have he : clauseE (gi f.Clauses i) f.Vars ≠ 0 := by simpa [clause_Check] using he
        rw [hh, if_pos he]; rfl
      · have he : clauseE (gi f.Clauses i) f.Vars = 0 := by simpa [clause_Check] using he
        obtain ⟨a1, a2, a3⟩ := (clauseE_iff _ _ (by omega)).1 he
        refine ⟨⟨by omega, fun l hl => by have := a2 l hl; omega⟩, ?_⟩
        rintro _ rfl
        rw [if_neg (by simp [he])] at hh
        refine ⟨fun ht => ?_, fun ht => ⟨⟨by omega, by omega, cnf_step h0 hi hz he ht⟩, by first | omega | (dsimp only; omega)⟩⟩
        have ht : tautOf (gi f.Clauses i) = true := ht
        rw [hh, if_pos ht]
    · have hi := of_decide_eq_false hi
      rw [show i.toNat = f.Clauses.length by omega, List.take_length] at hz
      rw [cnf_end hz]
theorem v29 (f : Api_Formula) : VC29 f (fun r => r = ref04_Check f) := by
  intro hsm
  simp only [sm] at hsm
  unfold VC29_J1 ref04_Check cnfE
  refine ⟨fun h => ?_, fun h => ⟨fun h2 => ?_, fun h2 => ?_⟩⟩
  · rw [if_pos (by simpa using h)]
  · rw [if_neg (by simpa using h), if_pos (by have := of_decide_eq_true h2; omega)]
  · have hv : ¬ (f.Vars < 0 ∨ f.Vars > 100000) := by simpa using h
    have hl : ¬ f.Clauses.length > 1000000 := by have := of_decide_eq_false h2; omega
    rw [if_neg hv, if_neg hl]
    refine ⟨fun i => 0 ≤ i ∧ i ≤ f.Clauses.length ∧ ∀ c ∈ f.Clauses.take i.toNat, clauseE c f.Vars = 0 ∧ tautOf c = false, fun i => (f.Clauses.length - i).toNat, ⟨by omega, by omega, by simp⟩, ?_⟩
    rintro i ⟨h0, h1, hz⟩
    refine ⟨fun hi => ?_, fun hi => ?_⟩
    · have hi := of_decide_eq_true hi
      have hh := cnf_hit h0 hi hz
      rw [wrp (n := i + 1) (by omega) (by omega)]
      refine ⟨⟨h0, hi⟩, fun _ => ?_⟩
      rintro _ rfl
      refine ⟨fun he => ?_, fun he => ⟨⟨h0, hi⟩, fun _ => ?_⟩⟩
      · have he : clauseE (gi f.Clauses i) f.Vars ≠ 0 := by simpa [ref02_Check] using he
        rw [hh, if_pos he]; rfl
      · have he : clauseE (gi f.Clauses i) f.Vars = 0 := by simpa [ref02_Check] using he
        rintro _ rfl
        rw [if_neg (by simp [he])] at hh
        refine ⟨fun ht => ?_, fun ht => ⟨⟨by omega, by omega, cnf_step h0 hi hz he ht⟩, by first | omega | (dsimp only; omega)⟩⟩
        have ht : tautOf (gi f.Clauses i) = true := ht
        rw [hh, if_pos ht]
    · have hi := of_decide_eq_false hi
      rw [show i.toNat = f.Clauses.length by omega, List.take_length] at hz
      rw [cnf_end hz]
end Go.Proofs.YtancoeikfkebfaaDoor
