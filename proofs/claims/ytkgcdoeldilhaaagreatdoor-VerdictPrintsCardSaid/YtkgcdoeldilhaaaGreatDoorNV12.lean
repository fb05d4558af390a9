/- Literals and clauses: what the small functions answer. -/
import Derived.Test.YtkgcdoeldilhaaaGreatDoorNV11
set_option linter.all false
namespace Go.Proofs.YtkgcdoeldilhaaaGreatDoor
open Go Go.Sv Go.Pu
theorem var_iff (l : Int) : varOf l ≠ 0 ↔ l ≠ 0 ∧ -100000 ≤ l ∧ l ≤ 100000 := by
  unfold varOf; repeat' split
  all_goals omega
theorem var_pos (l : Int) : 0 ≤ varOf l := by
  unfold varOf; repeat' split
  all_goals omega
theorem v103 (l vars : Int) (hp : preIn l vars) : VC103 l vars (fun r => r = lit_number_in l vars) := by
  unfold VC103 lit_number_in
  obtain ⟨h0, h1⟩ := hp
  rw [wrp (by omega) (by omega), show (0 - vars : Int) = -vars by omega]
theorem in_iff (l vars : Int) : lit_number_in l vars = true ↔ l ≠ 0 ∧ -vars ≤ l ∧ l ≤ vars := by
  unfold lit_number_in; simp; omega
theorem v112 (l : Int) : VC112 l (fun r => r = lit_is l) := by
  refine ⟨⟨by omega, by omega⟩, ?_⟩
  rintro _ rfl
  rw [Bool.eq_iff_iff, in_iff]
  unfold lit_is
  have := var_iff l
  simp only [bne_iff_ne]
  rw [this]
theorem v104 (l : Int) : VC104 l (fun r => r = lit_Var l) := by
  rintro _ rfl
  unfold lit_is lit_Var
  refine ⟨fun h => ?_, fun h => ?_⟩
  · have h : varOf l = 0 := by simpa using h
    rw [h]
  · have h : varOf l ≠ 0 := by simpa using h
    have := (var_iff l).1 h
    rw [wrp (by omega) (by omega)]
    unfold varOf; repeat' split
    all_goals omega
theorem v91 (l vars : Int) : VC91 l vars (fun r => r = lit_Check l vars) := by
  unfold lit_Check litE
  refine ⟨fun h => ?_, fun h => ?_⟩
  · rw [if_pos (by simpa using h)]
  · have hv : ¬ (vars < 0 ∨ vars > 100000) := by simpa using h
    refine ⟨⟨by omega, by omega⟩, ?_⟩
    rintro _ rfl
    rw [if_neg hv]
    refine ⟨fun h => ?_, fun h => ?_⟩
    · rw [if_pos]
      by_cases h1 : l = 0 ∨ l < -vars ∨ l > vars
      · exact h1
      · have := (in_iff l vars).2 (by omega)
        rw [this] at h; simp at h
    · rw [if_neg]
      have := (in_iff l vars).1 (by simpa using h)
      omega
theorem v95 (l : Int) : VC95 l (fun r => r = ref01_Split l) := by
  unfold ref01_Split
  refine ⟨fun h => ?_, fun h => ⟨fun h2 => ?_, fun h2 => ?_⟩⟩
  · rw [if_pos (by simpa using h)]
  · have a : ¬ (l > 0 ∧ l ≤ 100000) := by simpa using h
    have b : l < 0 ∧ l ≥ -100000 := by simpa using h2
    rw [if_neg a, if_pos b, wrp (by omega) (by omega)]
    simp
  · have a : ¬ (l > 0 ∧ l ≤ 100000) := by simpa using h
    have b : ¬ (l < 0 ∧ l ≥ -100000) := by simpa using h2
    rw [if_neg a, if_neg b]
theorem split_var (l : Int) : (ref01_Split l).1 = varOf l ∧ ((ref01_Split l).2 = true ↔ 0 < l ∧ varOf l ≠ 0) := by
  unfold ref01_Split varOf
  repeat' split
  all_goals simp
  all_goals omega
theorem v82 (l vars : Int) : VC82 l vars (fun r => r = ref01_Check l vars) := by
  unfold ref01_Check litE
  refine ⟨fun h => ?_, fun h => ?_⟩
  · rw [if_pos (by simpa using h)]
  · have hv : ¬ (vars < 0 ∨ vars > 100000) := by simpa using h
    rintro _ rfl
    rw [if_neg hv, (split_var l).1]
    have a := var_iff l
    have e : varOf l = l ∨ varOf l = -l ∨ varOf l = 0 := by unfold varOf; repeat' split
                                                            all_goals omega
    have hp := var_pos l
    refine ⟨fun h => ?_, fun h => ?_⟩
    · have h : varOf l = 0 ∨ varOf l > vars := by simpa using h
      rw [if_pos]
      by_cases h0 : varOf l = 0
      · have : ¬ (l ≠ 0 ∧ -100000 ≤ l ∧ l ≤ 100000) := fun x => a.2 x h0
        omega
      · omega
    · have h : varOf l ≠ 0 ∧ varOf l ≤ vars := by simpa using h
      have := a.1 h.1
      rw [if_neg]
      omega
theorem v83 (l : List Int) (n : Int) : VC83 l n (fun r => r = ref01_Has l n) := by
  intro hsm
  simp only [sm] at hsm
  unfold VC83_J1 ref01_Has
  refine ⟨fun i => 0 ≤ i ∧ i ≤ l.length ∧ n ∉ l.take i.toNat, fun i => (l.length - i).toNat, ⟨by omega, by omega, by simp⟩, ?_⟩
  rintro i ⟨h0, h1, h2⟩
  refine ⟨fun hi => ?_, fun hi => ?_⟩
  · have hi := of_decide_eq_true hi
    rw [wrp (n := i + 1) (by omega) (by omega)]
    refine ⟨⟨h0, hi⟩, fun he => ?_, fun he => ⟨⟨by omega, by omega, ?_⟩, by first | omega | (dsimp only; omega)⟩⟩
    · have he : gi l i = n := by simpa using he
      show true = decide (n ∈ l)
      rw [eq_comm, decide_eq_true_eq, ← he]
      exact mem_gi h0 hi
    · have he : gi l i ≠ n := by simpa using he
      rw [take_gi h0 hi, List.mem_append, List.mem_singleton]
      rintro (h | h)
      · exact h2 h
      · exact he h.symm
  · have hi := of_decide_eq_false hi
    rw [show i.toNat = l.length by omega, List.take_length] at h2
    show false = decide (n ∈ l)
    rw [eq_comm, decide_eq_false_iff_not]; exact h2
theorem take_ne {α : Type} [Inhabited α] {a b : List α} {i : Int} (h0 : 0 ≤ i) (ha : i < a.length) (hb : i < b.length) (h : gi a i ≠ gi b i) : a ≠ b := fun e => h (by rw [e])
theorem v54 (a b : List Int) : VC54 a b (fun r => r = ref01_SameInts a b) := by
  intro hsa hsb
  simp only [sm] at hsa hsb
  unfold VC54_J1 ref01_SameInts
  refine ⟨fun h => ?_, fun h => ?_⟩
  · have h : (a.length : Int) ≠ b.length := by simpa using h
    show false = decide (a = b)
    rw [eq_comm, decide_eq_false_iff_not]; intro e; rw [e] at h; exact h rfl
  · have h : (a.length : Int) = b.length := by simpa using h
    refine ⟨fun i => 0 ≤ i ∧ i ≤ a.length ∧ ∀ j : Int, 0 ≤ j → j < i → gi a j = gi b j, fun i => (a.length - i).toNat, ⟨by omega, by omega, fun j _ _ => by omega⟩, ?_⟩
    rintro i ⟨h0, h1, h2⟩
    refine ⟨fun hi => ?_, fun hi => ?_⟩
    · have hi := of_decide_eq_true hi
      rw [wrp (n := i + 1) (by omega) (by omega)]
      refine ⟨⟨h0, hi⟩, ⟨h0, by omega⟩, fun he => ?_, fun he => ⟨⟨by omega, by omega, fun j j0 j1 => ?_⟩, by first | omega | (dsimp only; omega)⟩⟩
      · show false = decide (a = b)
        rw [eq_comm, decide_eq_false_iff_not]
        exact take_ne h0 hi (by omega) (by simpa using he)
      · by_cases hj : j = i
        · subst hj; simpa using he
        · exact h2 j j0 (by omega)
    · have hi := of_decide_eq_false hi
      show true = decide (a = b)
      rw [eq_comm, decide_eq_true_eq]
      exact gi_ext (by omega) (fun j j0 j1 => h2 j j0 (by omega))
theorem v67 (a b : List Int) : VC67 a b (fun r => r = slices_Equal_int_int a b) := by
  intro hsa hsb
  simp only [sm] at hsa hsb
  unfold VC67_J1 slices_Equal_int_int
  refine ⟨fun h => ?_, fun h => ?_⟩
  · have h : (a.length : Int) ≠ b.length := by simpa using h
    show false = decide (a = b)
    rw [eq_comm, decide_eq_false_iff_not]; intro e; rw [e] at h; exact h rfl
  · have h : (a.length : Int) = b.length := by simpa using h
    refine ⟨fun i => 0 ≤ i ∧ i ≤ a.length ∧ ∀ j : Int, 0 ≤ j → j < i → gi a j = gi b j, fun i => (a.length - i).toNat, ⟨by omega, by omega, fun j _ _ => by omega⟩, ?_⟩
    rintro i ⟨h0, h1, h2⟩
    refine ⟨fun hi => ?_, fun hi => ?_⟩
    · have hi := of_decide_eq_true hi
      rw [wrp (n := i + 1) (by omega) (by omega)]
      refine ⟨⟨h0, hi⟩, ⟨h0, by omega⟩, fun he => ?_, fun he => ⟨⟨by omega, by omega, fun j j0 j1 => ?_⟩, by first | omega | (dsimp only; omega)⟩⟩
      · show false = decide (a = b)
        rw [eq_comm, decide_eq_false_iff_not]
        exact take_ne h0 hi (by omega) (by simpa using he)
      · by_cases hj : j = i
        · subst hj; simpa using he
        · exact h2 j j0 (by omega)
    · have hi := of_decide_eq_false hi
      show true = decide (a = b)
      rw [eq_comm, decide_eq_true_eq]
      exact gi_ext (by omega) (fun j j0 j1 => h2 j j0 (by omega))
theorem litsE_ten (vars : Int) (hv : ¬ (vars < 0 ∨ vars > 100000)) : ∀ c, litsE vars c = 0 ∨ litsE vars c = 10
  | [] => .inl rfl
  | l :: c => by
    unfold litsE
    split
    · rename_i h; unfold litE at h ⊢; rw [if_neg hv] at h ⊢; split <;> simp_all
    · exact litsE_ten vars hv c
theorem litsE_app (vars : Int) : ∀ a b, litsE vars (a ++ b) = if litsE vars a ≠ 0 then litsE vars a else litsE vars b
  | [], b => by simp [litsE]
  | l :: a, b => by
    have st : ∀ r, litsE vars (l :: r) = if litE l vars ≠ 0 then litE l vars else litsE vars r := fun _ => rfl
    rw [List.cons_append, st, st]
    by_cases h : litE l vars ≠ 0
    · rw [if_pos h, if_pos h, if_pos h]
    · rw [if_neg h, if_neg h, litsE_app vars a b]
theorem litsE_at {vars : Int} {c : List Int} {i : Int} (h0 : 0 ≤ i) (hi : i < c.length) (hz : litsE vars (c.take i.toNat) = 0) (he : litE (gi c i) vars ≠ 0) : litsE vars c = litE (gi c i) vars := by
  have e : c = c.take i.toNat ++ gi c i :: c.drop (i + 1).toNat := by rw [← drop_gi h0 hi, List.take_append_drop]
  conv => lhs; rw [e, litsE_app, if_neg (by simp [hz])]
  unfold litsE; rw [if_pos he]
theorem litsE_step {vars : Int} {c : List Int} {i : Int} (h0 : 0 ≤ i) (hi : i < c.length) (hz : litsE vars (c.take i.toNat) = 0) (he : litE (gi c i) vars = 0) : litsE vars (c.take (i + 1).toNat) = 0 := by
  rw [take_gi h0 hi, litsE_app, if_neg (by simp [hz])]
  simp [litsE, he]
theorem v63 (c : List Int) (vars : Int) : VC63 c vars (fun r => r = ref02_Check c vars) := by
  intro hsm
  simp only [sm] at hsm
  unfold VC63_J1 VC63_J2 ref02_Check clauseE
  refine ⟨fun h => ?_, fun h => ⟨fun h2 => ?_, fun h2 => ?_⟩⟩
  · rw [if_pos (by simpa using h)]
  · rw [if_neg (by simpa using h), if_pos (by have := of_decide_eq_true h2; omega)]
  · have hv : ¬ (vars < 0 ∨ vars > 100000) := by simpa using h
    have hl : ¬ c.length > 1000 := by have := of_decide_eq_false h2; omega
    rw [if_neg hv, if_neg hl]
    refine ⟨fun i => 0 ≤ i ∧ i ≤ c.length ∧ litsE vars (c.take i.toNat) = 0, fun i => (c.length - i).toNat, ⟨by omega, by omega, rfl⟩, ?_⟩
    rintro i ⟨h0, h1, hz⟩
    refine ⟨fun hi => ?_, fun hi => ?_⟩
    · have hi := of_decide_eq_true hi
      refine ⟨⟨h0, hi⟩, ?_⟩
      rintro _ rfl
      rw [wrp (n := i + 1) (by omega) (by omega)]
      refine ⟨fun he => ?_, fun he => ⟨⟨by omega, by omega, litsE_step h0 hi hz (by simpa [ref01_Check] using he)⟩, by first | omega | (dsimp only; omega)⟩⟩
      have he : litE (gi c i) vars ≠ 0 := by simpa [ref01_Check] using he
      have e := litsE_at h0 hi hz he
      have := litsE_ten vars hv c
      rw [if_pos (by rw [e]; exact he)]
      rw [e] at this ⊢
      omega
    · have hi := of_decide_eq_false hi
      rw [show i.toNat = c.length by omega, List.take_length] at hz
      rw [if_neg (by simp [hz])]
      refine ⟨fun i => 0 ≤ i ∧ i ≤ c.length ∧ (c.take i.toNat).Nodup, fun i => (c.length - i).toNat, ⟨by omega, by omega, by simp⟩, ?_⟩
      rintro i ⟨h0, h1, hn⟩
      refine ⟨fun hi => ?_, fun hi => ?_⟩
      · have hi := of_decide_eq_true hi
        refine ⟨⟨h0, h1⟩, ⟨h0, hi⟩, ?_⟩
        rintro _ rfl
        rw [wrp (n := i + 1) (by omega) (by omega)]
        refine ⟨fun he => ?_, fun he => ⟨⟨by omega, by omega, ?_⟩, by first | omega | (dsimp only; omega)⟩⟩
        · have he : gi c i ∈ c.take i.toNat := by simpa [ref01_Has] using he
          rw [if_neg]
          intro hnd
          have e : c = c.take i.toNat ++ gi c i :: c.drop (i + 1).toNat := by rw [← drop_gi h0 hi, List.take_append_drop]
          rw [e, List.nodup_append] at hnd
          exact hnd.2.2 _ he _ (by simp) rfl
        · have he : gi c i ∉ c.take i.toNat := by simpa [ref01_Has] using he
          rw [take_gi h0 hi, List.nodup_append]
          exact ⟨hn, by simp, fun a ha b hb e => by simp at hb; subst hb; subst e; exact he ha⟩
      · have hi := of_decide_eq_false hi
        rw [show i.toNat = c.length by omega, List.take_length] at hn
        rw [if_pos hn]
theorem any_step {f : Int → Bool} {c : List Int} {i : Int} (h0 : 0 ≤ i) (hi : i < c.length) (hz : (c.take i.toNat).any f = false) (h : f (gi c i) = false) : (c.take (i + 1).toNat).any f = false := by
  rw [take_gi h0 hi, List.any_append, hz]; simp [h]
theorem seen_snoc (m : List (Int × Int)) : ∀ (c : List Int) (m : List (Int × Int)) (l : Int), seenGo (c ++ [l]) m = if varOf l > 0 then mput (seenGo c m) l ((mget (seenGo c m) l).getD 0 + 1) else seenGo c m
  | [], m, l => rfl
  | x :: c, m, l => by rw [List.cons_append]; unfold seenGo; exact seen_snoc m c _ l
theorem seen_get : ∀ (c : List Int) (m : List (Int × Int)) (x : Int), (mget (seenGo c m) x).getD 0 = (mget m x).getD 0 + if varOf x > 0 then (c.count x : Int) else 0
  | [], m, x => by simp [seenGo]
  | l :: c, m, x => by
    unfold seenGo
    rw [seen_get c _ x]
    by_cases hl : varOf l > 0
    · rw [if_pos hl, mget_mput]
      by_cases hx : x = l
      · subst hx; simp [hl]; omega
      · have : ¬ l = x := fun e => hx e.symm
        rw [if_neg hx, List.count_cons_of_ne this]
    · rw [if_neg hl]
      by_cases hx : x = l
      · subst hx; simp [hl]
      · have : ¬ l = x := fun e => hx e.symm
        rw [List.count_cons_of_ne this]
def keysM (m : List (Int × Int)) : List Int := m.map fun q => q.1
theorem keys_mput : ∀ (m : List (Int × Int)) (k x : Int), keysM (mput m k x) = if k ∈ keysM m then keysM m else keysM m ++ [k]
  | [], k, x => by simp [keysM, mput]
  | (a, b) :: m, k, x => by
    have ih := keys_mput m k x
    unfold keysM at *
    unfold mput
    by_cases h : a = k
    · subst h; simp
    · have h2 : ¬ k = a := fun e => h e.symm
      rw [if_neg h]
      simp only [List.map_cons, List.mem_cons, h2, false_or]
      rw [ih]
      split <;> simp
theorem len_mput (m : List (Int × Int)) (k x : Int) : (mput m k x).length = if k ∈ keysM m then m.length else m.length + 1 := by
  have := congrArg List.length (keys_mput m k x)
  simp only [keysM, List.length_map] at this
  rw [this]
  unfold keysM
  split <;> simp
theorem seen_len : ∀ (c : List Int) (m : List (Int × Int)), (∀ l ∈ c, varOf l > 0) → (seenGo c m).length ≤ m.length + c.length ∧ ((seenGo c m).length = m.length + c.length ↔ c.Nodup ∧ ∀ l ∈ c, l ∉ keysM m)
  | [], m, _ => by simp [seenGo]
  | l :: c, m, h => by
    have hl := h l (by simp)
    obtain ⟨i1, i2⟩ := seen_len c (mput m l ((mget m l).getD 0 + 1)) (fun x hx => h x (by simp [hx]))
    unfold seenGo
    rw [if_pos hl]
    have hm := len_mput m l ((mget m l).getD 0 + 1)
    have hk := keys_mput m l ((mget m l).getD 0 + 1)
    by_cases hin : l ∈ keysM m
    · rw [if_pos hin] at hm hk
      rw [hm] at i1 i2
      refine ⟨by simp; omega, ?_⟩
      constructor
      · intro e; simp at e; omega
      · intro e; exact absurd hin (e.2 l (by simp))
    · rw [if_neg hin] at hm hk
      rw [hm] at i1 i2
      refine ⟨by simp; omega, ?_⟩
      have e : ((seenGo c (mput m l ((mget m l).getD 0 + 1))).length = m.length + (l :: c).length) ↔ ((seenGo c (mput m l ((mget m l).getD 0 + 1))).length = m.length + 1 + c.length) := by simp; omega
      rw [e, i2, hk, List.nodup_cons]
      constructor
      · rintro ⟨a, b⟩
        refine ⟨⟨fun x => (b l x) (by simp), a⟩, fun x hx => ?_⟩
        rcases List.mem_cons.1 hx with rfl | hx
        · exact hin
        · exact fun y => b x hx (by simp [y])
      · rintro ⟨⟨a, b⟩, d⟩
        refine ⟨b, fun x hx y => ?_⟩
        rcases List.mem_append.1 y with y | y
        · exact d x (by simp [hx]) y
        · simp at y; subst y; exact a hx
theorem v92 (c : List Int) (hp : preSeen c) : VC92 c (fun r => r = clause_seen c) := by
  intro _
  have hl : c.length ≤ 1000000 := hp
  unfold VC92_J1 VC92_J2 clause_seen
  refine ⟨fun m i => 0 ≤ i ∧ i ≤ c.length ∧ m = seenGo (c.take i.toNat) [], fun _ i => (c.length - i).toNat, ⟨by omega, by omega, rfl⟩, ?_⟩
  rintro m i ⟨h0, h1, hm⟩
  refine ⟨fun hi => ?_, fun hi => ?_⟩
  · have hi := of_decide_eq_true hi
    refine ⟨⟨h0, hi⟩, ?_⟩
    rintro _ rfl
    have hs := seen_snoc [] (c.take i.toNat) [] (gi c i)
    rw [← take_gi h0 hi, ← hm] at hs
    have hg := seen_get (c.take i.toNat) [] (gi c i)
    rw [← hm] at hg
    have hc : (c.take i.toNat).count (gi c i) ≤ 1000000 := Nat.le_trans List.count_le_length (by simp; omega)
    have hb : 0 ≤ (mget m (gi c i)).getD 0 ∧ (mget m (gi c i)).getD 0 ≤ 1000000 := by
      rw [hg]; simp only [mget, Option.getD_none]; split <;> omega
    rw [wrp (n := i + 1) (by omega) (by omega), wrp (n := (mget m (gi c i)).getD 0 + 1) (by omega) (by omega)]
    refine ⟨fun h => ?_, fun h => ?_⟩
    · have h : varOf (gi c i) > 0 := of_decide_eq_true h
      rw [if_pos h] at hs
      exact ⟨⟨by omega, by omega, hs.symm⟩, by first | omega | (dsimp only; omega)⟩
    · have h : ¬ varOf (gi c i) > 0 := of_decide_eq_false h
      rw [if_neg h] at hs
      exact ⟨⟨by omega, by omega, hs.symm⟩, by first | omega | (dsimp only; omega)⟩
  · have hi := of_decide_eq_false hi
    rw [show i.toNat = c.length by omega, List.take_length] at hm
    exact hm
theorem idxGo_cons (f : Int → Bool) (x : Int) (r : List Int) (k : Int) : idxGo f (x :: r) k = if f x then k else idxGo f r (k + 1) := rfl
theorem idx_at {f : Int → Bool} {c : List Int} {i : Int} (h0 : 0 ≤ i) (hi : i < c.length) (hz : (c.take i.toNat).any f = false) (h : f (gi c i) = true) : idxOf f c = i := by
  have key : ∀ (a : List Int) (b : List Int) (k : Int), a.any f = false → idxGo f (a ++ b) k = idxGo f b (k + a.length) := by
    intro a
    induction a with
    | nil => intro b k _; simp
    | cons x a ih =>
      intro b k ha
      rw [List.any_cons, Bool.or_eq_false_iff] at ha
      rw [List.cons_append, idxGo_cons, if_neg (by simp [ha.1]), ih b (k + 1) ha.2, List.length_cons]
      congr 1; omega
  have e : c = c.take i.toNat ++ gi c i :: c.drop (i + 1).toNat := by rw [← drop_gi h0 hi, List.take_append_drop]
  unfold idxOf
  rw [e, key _ _ 0 hz, idxGo_cons, if_pos h]
  simp; omega
theorem idx_none {f : Int → Bool} : ∀ {c : List Int} (k : Int), c.any f = false → idxGo f c k = -1
  | [], k, _ => rfl
  | x :: c, k, h => by
    rw [List.any_cons, Bool.or_eq_false_iff] at h
    unfold idxGo
    rw [if_neg (by simp [h.1])]
    exact idx_none _ h.2
theorem idx_ge {f : Int → Bool} (c : List Int) : decide (idxOf f c ≥ 0) = c.any f := by
  cases h : c.any f with
  | false => unfold idxOf; rw [idx_none 0 h]; decide
  | true =>
    have key : ∀ (c : List Int) (k : Int), 0 ≤ k → c.any f = true → 0 ≤ idxGo f c k := by
      intro c
      induction c with
      | nil => intro k _ h; simp at h
      | cons x c ih =>
        intro k hk h
        unfold idxGo
        split
        · exact hk
        · rename_i hx; rw [List.any_cons] at h; simp [hx] at h; exact ih (k + 1) (by omega) (by simpa using h)
    exact decide_eq_true (key c 0 (by omega) h)
theorem v80 (c : List Int) (vars : Int) : VC80 c vars (fun r => r = clause_Check c vars) := by
  intro hsm
  simp only [sm] at hsm
  unfold VC80_J1 clause_Check clauseE
  refine ⟨fun h => ?_, fun h => ⟨fun h2 => ?_, fun h2 => ?_⟩⟩
  · rw [if_pos (by simpa using h)]
  · rw [if_neg (by simpa using h), if_pos (by have := of_decide_eq_true h2; omega)]
  · have hv : ¬ (vars < 0 ∨ vars > 100000) := by simpa using h
    have hl : ¬ c.length > 1000 := by have := of_decide_eq_false h2; omega
    rw [if_neg hv, if_neg hl]
    refine ⟨fun i => 0 ≤ i ∧ i ≤ c.length ∧ litsE vars (c.take i.toNat) = 0, fun i => (c.length - i).toNat, ⟨by omega, by omega, rfl⟩, ?_⟩
    rintro i ⟨h0, h1, hz⟩
    refine ⟨fun hi => ?_, fun hi => ?_⟩
    · have hi := of_decide_eq_true hi
      refine ⟨⟨h0, hi⟩, ?_⟩
      rintro _ rfl
      rw [wrp (n := i + 1) (by omega) (by omega)]
      refine ⟨fun he => ?_, fun he => ⟨⟨by omega, by omega, litsE_step h0 hi hz (by simpa [lit_Check] using he)⟩, by first | omega | (dsimp only; omega)⟩⟩
      have he : litE (gi c i) vars ≠ 0 := by simpa [lit_Check] using he
      have e := litsE_at h0 hi hz he
      rw [if_pos (by rw [e]; exact he), e]; try rfl
    · have hi := of_decide_eq_false hi
      rw [show i.toNat = c.length by omega, List.take_length] at hz
      rw [if_neg (by simp [hz])]
      refine ⟨by show c.length ≤ 1000000; omega, ?_⟩
      rintro _ rfl
      have hb := (litsE_iff vars (by omega) c).1 hz
      obtain ⟨i1, i2⟩ := seen_len c [] (fun l hl => by
        have := hb l hl
        have p := var_pos l
        have := (var_iff l).2 (by omega)
        omega)
      unfold clause_seen
      simp only [List.length_nil, Nat.zero_add] at i1 i2
      by_cases hn : c.Nodup
      · have := i2.2 ⟨hn, fun l _ => by simp [keysM]⟩
        rw [if_pos hn]
        refine ⟨fun h => ?_, fun _ => rfl⟩
        have := of_decide_eq_true h
        omega
      · have : ¬ (seenGo c []).length = c.length := fun e => hn (i2.1 e).1
        rw [if_neg hn]
        refine ⟨fun _ => rfl, fun h => ?_⟩
        have := of_decide_eq_false h
        omega
end Go.Proofs.YtkgcdoeldilhaaaGreatDoor
