/- Verdicts as text: words, checks, sameness. -/
import Derived.Test.YtkgcdoeldilhaaaGreatDoorNV22
set_option linter.all false
namespace Go.Proofs.YtkgcdoeldilhaaaGreatDoor
open Go Go.Sv Go.Pu
theorem pick_ext (x y : Api_Pick) : ((x.Oper == y.Oper) && ((x.Result == y.Result) && true)) = decide (x = y) := by
  obtain ⟨a, b⟩ := x
  obtain ⟨c, d⟩ := y
  by_cases h : a = c
  · by_cases h2 : b = d
    · simp [h, h2]
    · simp [h, h2]
  · simp [h]
theorem take_neP {a b : List Api_Pick} {i : Int} (h : gi a i ≠ gi b i) : a ≠ b := fun e => h (by rw [e])
theorem v41 (a b : List Api_Pick) : VC41 a b (fun r => r = slices_Equal_api_Pick_api_Pick a b) := by
  intro hsa hsb
  simp only [sm] at hsa hsb
  unfold VC41_J1 slices_Equal_api_Pick_api_Pick
  simp only [pick_ext]
  refine ⟨fun h => ?_, fun h => ?_⟩
  · have h : (a.length : Int) ≠ b.length := by simpa using h
    show false = decide (a = b)
    rw [eq_comm, decide_eq_false_iff_not]; intro e; rw [e] at h; exact h rfl
  · have h : (a.length : Int) = b.length := by simpa using h
    refine ⟨fun i => 0 ≤ i ∧ i ≤ a.length ∧ ∀ j : Int, 0 ≤ j → j < i → gi a j = gi b j, fun i => (a.length - i).toNat, ⟨by omega, by omega, fun j _ _ => by omega⟩, ?_⟩
    rintro i ⟨h0, h1, h2⟩
    refine ⟨fun hi => ?_, fun hi => ?_⟩
    · have hi := of_decide_eq_true hi
      rw [wrp (n := i + 1) (by omega) (by omega)]
      refine ⟨⟨h0, hi⟩, ⟨h0, by omega⟩, fun he => ?_, fun he => ⟨⟨by omega, by omega, fun j j0 j1 => ?_⟩, by first | omega | (dsimp only; omega)⟩⟩
      · show false = decide (a = b)
        rw [eq_comm, decide_eq_false_iff_not]
        exact take_neP (i := i) (by simpa using he)
      · by_cases hj : j = i
        · subst hj; simpa using he
        · exact h2 j j0 (by omega)
    · have hi := of_decide_eq_false hi
      show true = decide (a = b)
      rw [eq_comm, decide_eq_true_eq]
      exact gi_ext (by omega) (fun j j0 j1 => h2 j j0 (by omega))
theorem v29 (a b : List Api_Pick) : VC29 a b (fun r => r = ref28_Same a b) := by
  intro hsa hsb
  simp only [sm] at hsa hsb
  unfold VC29_J1 ref28_Same
  simp only [pick_ext]
  refine ⟨fun h => ?_, fun h => ?_⟩
  · have h : (a.length : Int) ≠ b.length := by simpa using h
    show false = decide (a = b)
    rw [eq_comm, decide_eq_false_iff_not]; intro e; rw [e] at h; exact h rfl
  · have h : (a.length : Int) = b.length := by simpa using h
    refine ⟨fun i => 0 ≤ i ∧ i ≤ a.length ∧ ∀ j : Int, 0 ≤ j → j < i → gi a j = gi b j, fun i => (a.length - i).toNat, ⟨by omega, by omega, fun j _ _ => by omega⟩, ?_⟩
    rintro i ⟨h0, h1, h2⟩
    refine ⟨fun hi => ?_, fun hi => ?_⟩
    · have hi := of_decide_eq_true hi
      rw [wrp (n := i + 1) (by omega) (by omega)]
      refine ⟨⟨h0, hi⟩, ⟨h0, by omega⟩, fun he => ?_, fun he => ⟨⟨by omega, by omega, fun j j0 j1 => ?_⟩, by first | omega | (dsimp only; omega)⟩⟩
      · show false = decide (a = b)
        rw [eq_comm, decide_eq_false_iff_not]
        exact take_neP (i := i) (by simpa using he)
      · by_cases hj : j = i
        · subst hj; simpa using he
        · exact h2 j j0 (by omega)
    · have hi := of_decide_eq_false hi
      show true = decide (a = b)
      rw [eq_comm, decide_eq_true_eq]
      exact gi_ext (by omega) (fun j j0 j1 => h2 j j0 (by omega))
theorem v43 : VC43 (fun r => r = verdict_words) := rfl
theorem or_range {k : Int} (h : (decide (k < 1) || decide (k > 5)) = false) : 1 ≤ k ∧ k ≤ 5 := by
  rw [Bool.or_eq_false_iff] at h
  have a := of_decide_eq_false h.1
  have b := of_decide_eq_false h.2
  omega
theorem wordV_out {k : Int} (h : (decide (k < 1) || decide (k > 5)) = true) : wordV k = [] := by
  unfold wordV
  rw [if_pos (by simpa using h)]
theorem wordV_in {k : Int} (h : 1 ≤ k ∧ k ≤ 5) : wordV k = gi wordsV (k - 1) := by
  unfold wordV
  rw [if_neg (by omega)]
theorem v15 (k : Int) : VC15 k (fun r => r = verdict_Word k) := by
  unfold verdict_Word
  refine ⟨fun h => (wordV_out h).symm, fun h => ?_⟩
  have hk := or_range h
  rintro _ rfl
  intro _
  rw [wrp (n := k - 1) (by omega) (by omega)]
  have : verdict_words.length = 5 := rfl
  exact ⟨⟨by omega, by omega⟩, (wordV_in hk).symm⟩
theorem v16 (k : Int) : VC16 k (fun r => r = ref39_Word k) := by
  unfold ref39_Word
  refine ⟨fun h => (wordV_out h).symm, fun h => ?_⟩
  have hk := or_range h
  refine ⟨⟨by omega, by show k < (6 : Int); omega⟩, ?_⟩
  rcases wordV_of hk with rfl | rfl | rfl | rfl | rfl <;> rfl
theorem wordV_ne (k : Int) : (wordV k == ([] : Bs)) = decide (k < 1 ∨ k > 5) := by
  by_cases h : k < 1 ∨ k > 5
  · unfold wordV; simp [h]
  · have hk : 1 ≤ k ∧ k ≤ 5 := by omega
    rw [decide_eq_false h]
    rcases wordV_of hk with rfl | rfl | rfl | rfl | rfl <;> decide
theorem not_ok (p : Api_Pick) (b : Bool) : ((((b || decide (p.Oper < 0)) || decide (p.Oper ≥ 64)) || decide (p.Result < 0)) || decide (p.Result > 1000000)) = (b || !pickOK p) := by
  cases b with
  | true => simp
  | false =>
    rw [Bool.eq_iff_iff]
    simp only [Bool.false_or, Bool.or_eq_true, decide_eq_true_eq, Bool.not_eq_true', ← Bool.not_eq_true, pickOK_iff]
    omega
theorem v62 (p : Api_Pick) (m : List (Int × Int)) (hp : prePk p m) : VC62 p m (fun r => r = verdict_picked_1 p m) := by
  obtain ⟨_, hk⟩ := hp
  have := hk p.Oper
  unfold VC62 verdict_picked_1
  rw [wrp (n := (mget m p.Oper).getD 0 + 1) (by omega) (by omega), mget_mput, if_pos rfl, not_ok]
  rfl
def okN (n : Nat) (m : List (Int × Int)) : Prop := m.length ≤ n ∧ ∀ k : Int, 0 ≤ (mget m k).getD 0 ∧ (mget m k).getD 0 ≤ n
theorem okN_put {n : Nat} {m : List (Int × Int)} (h : okN n m) (k : Int) : okN (n + 1) (mput m k ((mget m k).getD 0 + 1)) := by
  obtain ⟨a, b⟩ := h
  refine ⟨?_, fun x => ?_⟩
  · rw [len_mput]; split <;> omega
  · rw [mget_mput]
    have := b k
    have := b x
    split
    · show 0 ≤ (mget m k).getD 0 + 1 ∧ (mget m k).getD 0 + 1 ≤ ((n + 1 : Nat) : Int); omega
    · push_cast; omega
theorem pkGo_cons (p : Api_Pick) (l : List Api_Pick) (m : List (Int × Int)) (i : Int) : pkGo (p :: l) m i = if (verdict_picked_1 p m).1 then (i, (verdict_picked_1 p m).2) else pkGo l (verdict_picked_1 p m).2 (i + 1) := rfl
theorem v72_62 (l : List Api_Pick) (m : List (Int × Int)) (hp : prePkI l m) : VC72_62 l m (fun r => r = slices_IndexFunc_api_Pick_api_Pick_verdict_picked_1 l m) := by
  obtain ⟨rfl, hl⟩ := hp
  intro _
  unfold VC72_62_J1 slices_IndexFunc_api_Pick_api_Pick_verdict_picked_1
  generalize hT : pkGo l [] 0 = T
  refine ⟨fun i m => 0 ≤ i ∧ i ≤ l.length ∧ okN i.toNat m ∧ pkGo (l.drop i.toNat) m i = T, fun i _ => (l.length - i).toNat, ⟨by omega, by omega, ⟨by simp, fun k => by simp [mget]⟩, by simpa using hT⟩, ?_⟩
  rintro i m ⟨h0, h1, h2, h3⟩
  refine ⟨fun hi => ?_, fun hi => ?_⟩
  · have hi := of_decide_eq_true hi
    rw [drop_gi h0 hi, pkGo_cons] at h3
    rw [wrp (n := i + 1) (by omega) (by omega)]
    refine ⟨⟨h0, hi⟩, ⟨by have := h2.1; omega, fun k => by have := h2.2 k; omega⟩, ?_⟩
    rintro _ rfl
    refine ⟨fun h => ?_, fun h => ⟨⟨by omega, by omega, ?_, ?_⟩, by first | omega | (dsimp only; omega)⟩⟩
    · rw [if_pos h] at h3; exact h3
    · rw [show (i + 1).toNat = i.toNat + 1 by omega]; exact okN_put h2 _
    · rw [if_neg (by simp [h])] at h3; exact h3
  · have hi := of_decide_eq_false hi
    rw [List.drop_eq_nil_of_le (by omega)] at h3
    exact h3
theorem v48_62 (l : List Api_Pick) (m : List (Int × Int)) (hp : prePkI l m) : VC48_62 l m (fun r => r = slices_ContainsFunc_api_Pick_api_Pick_verdict_picked_1 l m) := by
  intro _
  refine ⟨hp, ?_⟩
  rintro _ rfl
  rfl
theorem pk_spec : ∀ (l : List Api_Pick) (A : List Int) (m : List (Int × Int)) (i : Int), 0 ≤ i → A.Nodup → (∀ k, (mget m k).getD 0 = if k ∈ A then 1 else 0) →
    ((pkGo l m i).1 ≥ 0 ↔ ¬ ((∀ p ∈ l, pickOK p = true) ∧ (A ++ l.map Api_Pick.Oper).Nodup))
  | [], A, m, i, _, hA, _ => by simp [pkGo, hA]
  | p :: l, A, m, i, h0, hA, hm => by
    rw [pkGo_cons]
    have hc := hm p.Oper
    unfold verdict_picked_1
    rw [hc]
    by_cases hin : p.Oper ∈ A
    · rw [if_pos hin]
      simp only [show decide ((1 : Int) + 1 > 1) = true from rfl, Bool.true_or, if_true]
      refine ⟨fun _ h => ?_, fun _ => h0⟩
      have := h.2
      rw [List.map_cons, List.nodup_append] at this
      exact this.2.2 _ hin _ (by simp) rfl
    · rw [if_neg hin]
      simp only [show decide ((0 : Int) + 1 > 1) = false from rfl, Bool.false_or]
      by_cases hp : pickOK p = true
      · rw [hp]
        simp only [Bool.not_true, if_neg (show ¬ (false = true) by simp)]
        rw [pk_spec l (A ++ [p.Oper]) _ (i + 1) (by omega) ((nodup_snoc _ _).2 ⟨hA, hin⟩) (fun k => by
          rw [mget_mput]
          by_cases hk : p.Oper = k
          · subst hk; simp
          · have hk2 : ¬ k = p.Oper := fun e => hk e.symm
            first
            | (rw [if_neg hk, hm k]; simp [hk2])
            | (rw [if_neg hk2, hm k]; simp [hk2]))]
        simp [hp]
      · have hp : pickOK p = false := by simpa using hp
        rw [hp]
        simp only [Bool.not_false, if_true]
        exact ⟨fun _ h => absurd (h.1 p (by simp)) (by rw [hp]; simp), fun _ => h0⟩
theorem v38 (l : List Api_Pick) : VC38 l (fun r => r = verdict_picked l) := by
  intro _
  unfold verdict_picked
  refine ⟨fun h => ?_, fun h => ?_⟩
  · have h := of_decide_eq_true h
    refine ⟨⟨rfl, by omega⟩, ?_⟩
    rintro _ rfl
    have := pk_spec l [] [] 0 (Int.le_refl _) (by simp) (fun k => by simp [mget])
    show (!decide ((pkGo l [] 0).1 ≥ 0)) = pickedB l
    rw [Bool.eq_iff_iff, pickedB_iff, Bool.not_eq_true', decide_eq_false_iff_not, this]
    simp only [List.nil_append, Classical.not_not]
    exact ⟨fun a => ⟨by omega, a⟩, fun a => a.2⟩
  · have h := of_decide_eq_false h
    show false = pickedB l
    rw [eq_comm, ← Bool.not_eq_true, pickedB_iff]
    intro a; omega
theorem take_map {l : List Api_Pick} {i : Int} (h0 : 0 ≤ i) (h : i < l.length) : (l.take (i + 1).toNat).map Api_Pick.Oper = (l.take i.toNat).map Api_Pick.Oper ++ [(gi l i).Oper] := by
  rw [take_gi h0 h]; simp
theorem v40 (l : List Api_Pick) : VC40 l (fun r => r = ref39_picked l) := by
  intro hsm
  simp only [sm] at hsm
  unfold ref39_picked VC40_J1
  have bad : ∀ i : Int, 0 ≤ i → i < l.length → pickOK (gi l i) = false → false = pickedB l := fun i h0 h1 h => by
    rw [eq_comm, ← Bool.not_eq_true, pickedB_iff]
    intro a; have := a.2.1 _ (mem_gi h0 h1); rw [h] at this; cases this
  refine ⟨fun i => 0 ≤ i ∧ i ≤ l.length ∧ (∀ p ∈ l.take i.toNat, pickOK p = true) ∧ ((l.take i.toNat).map Api_Pick.Oper).Nodup, fun i => (l.length - i).toNat, ⟨by omega, by omega, by simp, by simp⟩, ?_⟩
  rintro i ⟨h0, h1, h2, h3⟩
  refine ⟨fun hi => ?_, fun hi => ?_⟩
  · have hi := of_decide_eq_true hi
    have no : ∀ x : Bool, (x = true → pickOK (gi l i) = false) → (x = false → pickOK (gi l i) = true) → VC40_J3 l (fun r => r = pickedB l) (fun i => 0 ≤ i ∧ i ≤ l.length ∧ (∀ p ∈ l.take i.toNat, pickOK p = true) ∧ ((l.take i.toNat).map Api_Pick.Oper).Nodup) (fun i => (l.length - i).toNat) i x := by
      intro x hx hx2
      refine ⟨fun h => bad i h0 hi (hx h), fun h => ?_⟩
      have ok := hx2 h
      refine ⟨fun k => 0 ≤ k ∧ k ≤ i ∧ ∀ j : Int, 0 ≤ j → j < k → (gi l j).Oper ≠ (gi l i).Oper, fun k => (i - k).toNat, ⟨by omega, by omega, fun j _ _ => by omega⟩, ?_⟩
      rintro k ⟨k0, k1, k2⟩
      refine ⟨fun hk => ?_, fun hk => ?_⟩
      · have hk := of_decide_eq_true hk
        rw [wrp (n := k + 1) (by omega) (by omega)]
        refine ⟨⟨k0, by omega⟩, ⟨h0, hi⟩, fun he => ?_, fun he => ⟨⟨by omega, by omega, fun j j0 j1 => ?_⟩, by first | omega | (dsimp only; omega)⟩⟩
        · have he : (gi l k).Oper = (gi l i).Oper := by simpa using he
          show false = pickedB l
          rw [eq_comm, ← Bool.not_eq_true, pickedB_iff]
          intro a
          have nd := a.2.2
          have e2 : l.map Api_Pick.Oper = (l.take (i + 1).toNat).map Api_Pick.Oper ++ (l.drop (i + 1).toNat).map Api_Pick.Oper := by rw [← List.map_append, List.take_append_drop]
          rw [e2, List.nodup_append] at nd
          have nd := nd.1
          rw [take_map h0 hi, nodup_snoc] at nd
          refine nd.2 (List.mem_map.2 ⟨gi l k, ?_, he⟩)
          rw [← gi_take (l := l) k0 hk (by omega)]
          exact mem_gi k0 (by rw [List.length_take]; omega)
        · by_cases hj : j = k
          · subst hj; simpa using he
          · exact k2 j j0 (by omega)
      · have hk := of_decide_eq_false hk
        unfold VC40_J2
        rw [wrp (n := i + 1) (by omega) (by omega)]
        refine ⟨⟨by omega, by omega, ?_, ?_⟩, by first | omega | (dsimp only; omega)⟩
        · intro p hp
          rw [take_gi h0 hi] at hp
          rcases List.mem_append.1 hp with hp | hp
          · exact h2 p hp
          · have : p = gi l i := by simpa using hp
            rw [this]; exact ok
        · rw [take_map h0 hi, nodup_snoc]
          refine ⟨h3, fun hm => ?_⟩
          obtain ⟨q, hq, hq2⟩ := List.mem_map.1 hm
          obtain ⟨j, hj, rfl⟩ := List.getElem_of_mem hq
          rw [List.length_take] at hj
          have := k2 (j : Int) (by omega) (by omega)
          rw [gi_nat l j (by omega)] at this
          rw [List.getElem_take] at hq2
          exact this hq2
    have hO := pickOK_iff (gi l i)
    have f : ∀ b : Prop, (¬ b) → (pickOK (gi l i) = true ↔ b) → pickOK (gi l i) = false := fun b hb hx => by
      rw [← Bool.not_eq_true]; exact fun h => hb (hx.1 h)
    refine ⟨⟨h0, hi⟩, fun a => no true (fun _ => ?_) (fun h => by cases h), fun a => ⟨⟨h0, hi⟩, fun b => no true (fun _ => ?_) (fun h => by cases h), fun b => ⟨⟨h0, hi⟩, fun c => no true (fun _ => ?_) (fun h => by cases h), fun c => ⟨⟨h0, hi⟩, no _ (fun d => ?_) (fun d => ?_)⟩⟩⟩⟩
    · have a := of_decide_eq_true a
      exact f _ (by omega) hO
    · have b := of_decide_eq_true b
      exact f _ (by omega) hO
    · have c := of_decide_eq_true c
      exact f _ (by omega) hO
    · have d := of_decide_eq_true d
      exact f _ (by omega) hO
    · have a := of_decide_eq_false a
      have b := of_decide_eq_false b
      have c := of_decide_eq_false c
      have d := of_decide_eq_false d
      exact hO.2 (by omega)
  · have hi := of_decide_eq_false hi
    rw [show i.toNat = l.length by omega, List.take_length] at h2 h3
    show decide ((l.length : Int) ≤ 64) = pickedB l
    rw [Bool.eq_iff_iff, pickedB_iff, decide_eq_true_eq]
    exact ⟨fun a => ⟨by omega, h2, h3⟩, fun a => by omega⟩
theorem v37 (v : Api_Verdict) : VC37 v (fun r => r = verdict_placed v) := by
  intro _ _
  unfold verdict_placed placedB
  refine ⟨fun h => ?_, fun h => ?_⟩
  · have h : v.Kind = 1 := by simpa using h
    rw [if_pos h]
  · have h : ¬ v.Kind = 1 := by simpa using h
    rw [if_neg h]
theorem len_zero {α : Type} (l : List α) : (((l.length : Nat) : Int) == 0) = l.isEmpty := by
  cases l with
  | nil => rfl
  | cons a l =>
    rw [Bool.eq_iff_iff]; simp; omega
theorem v12 (v : Api_Verdict) : VC12 v (fun r => r = verdict_Check v) := by
  intro _ _
  rintro _ rfl
  unfold verdict_Word verdict_Check chkV
  rw [wordV_ne]
  refine ⟨fun h => ?_, fun h => ?_⟩
  · rw [if_pos (of_decide_eq_true h)]
  · have h := of_decide_eq_false h
    rw [if_neg h]
    rintro _ rfl
    rintro _ rfl
    have end_ : ∀ b : Bool, b = (placedB v && pickedB v.Picks && (chkS v.Proof).2 == 0) → VC12_J1 v (fun r => r = if fineV v = true then 0 else 2) b := by
      intro b hb
      unfold VC12_J1
      rw [len_zero, len_zero, hb]
      have e : fineV v = (((placedB v && pickedB v.Picks && (chkS v.Proof).2 == 0) && (v.Kind == 4 || v.Picks.isEmpty)) && (v.Kind == 5 || v.Proof.isEmpty)) := rfl
      rw [← e]
      refine ⟨fun h => ?_, fun h => ?_⟩
      · rw [if_neg (by simpa using h)]
      · rw [if_pos (by simpa using h)]
    refine ⟨fun h2 => ?_, fun h2 => end_ _ ?_⟩
    · rintro _ rfl
      refine end_ _ ?_
      have h2 : placedB v = true := h2
      rw [h2]; rfl
    · have h2 : placedB v = false := h2
      rw [h2]; rfl
theorem v13 (v : Api_Verdict) : VC13 v (fun r => r = ref39_Check v) := by
  intro _ _
  rintro _ rfl
  unfold ref39_Word ref39_Check chkV
  rw [wordV_ne]
  refine ⟨fun h => ?_, fun h => ?_⟩
  · rw [if_pos (of_decide_eq_true h)]
  · have h := of_decide_eq_false h
    rw [if_neg h]
    have hp : (((v.Kind == 1) && ((((decide (v.At < 0)) || (decide (v.At > 1000000))) || (decide (v.Err < 1))) || (decide (v.Err > 99)))) || ((v.Kind != 1) && ((v.At != 0) || (v.Err != 0)))) = !placedB v := by
      unfold placedB
      by_cases h1 : v.Kind = 1
      · rw [if_pos h1, h1]
        simp only [beq_self_eq_true, Bool.true_and, bne_self_eq_false, Bool.false_and, Bool.or_false]
        rw [Bool.eq_iff_iff]
        simp only [Bool.or_eq_true, decide_eq_true_eq, Bool.not_eq_true', Bool.and_eq_false_iff, decide_eq_false_iff_not]
        omega
      · rw [if_neg h1]
        have e : (v.Kind == 1) = false := by simpa using h1
        simp [e, bne]
    have hq : (((v.Kind != 4) && (decide (((v.Picks.length : Nat) : Int) > 0))) || ((v.Kind != 5) && (decide (((v.Proof.length : Nat) : Int) > 0)))) = !((v.Kind == 4 || v.Picks.isEmpty) && (v.Kind == 5 || v.Proof.isEmpty)) := by
      have g : ∀ {α : Type} (l : List α), decide (((l.length : Nat) : Int) > 0) = !l.isEmpty := fun l => by cases l <;> simp <;> omega
      rw [g, g]
      have b4 : (v.Kind != 4) = !(v.Kind == 4) := rfl
      have b5 : (v.Kind != 5) = !(v.Kind == 5) := rfl
      rw [b4, b5]
      generalize (v.Kind == 4) = x1
      generalize (v.Kind == 5) = x2
      generalize v.Picks.isEmpty = x3
      generalize v.Proof.isEmpty = x4
      cases x1 <;> cases x2 <;> cases x3 <;> cases x4 <;> rfl
    rw [hp, hq]
    have e : fineV v = (((placedB v && pickedB v.Picks && (chkS v.Proof).2 == 0) && (v.Kind == 4 || v.Picks.isEmpty)) && (v.Kind == 5 || v.Proof.isEmpty)) := rfl
    refine ⟨fun h2 => ?_, fun h2 => ?_⟩
    · have h2 : placedB v = false := by simpa using h2
      rw [e, h2]; rfl
    · have h2 : placedB v = true := by simpa using h2
      rintro _ rfl
      refine ⟨fun h3 => ?_, fun h3 => ?_⟩
      · refine ⟨fun _ => ?_, fun h => by cases h⟩
        rw [e, Bool.and_assoc]
        have h3 : ((v.Kind == 4 || v.Picks.isEmpty) && (v.Kind == 5 || v.Proof.isEmpty)) = false := by
          rw [← Bool.not_eq_true']; exact h3
        rw [h3, Bool.and_false]; rfl
      · rintro _ rfl
        have h3 : ((v.Kind == 4 || v.Picks.isEmpty) && (v.Kind == 5 || v.Proof.isEmpty)) = true := by
          rw [← Bool.not_eq_false']; exact h3
        rw [e, Bool.and_assoc, h3, h2, Bool.and_true, Bool.true_and]
        have e3 : ((!ref39_picked v.Picks) || ((ref10_Check v.Proof).2 != 0)) = !(pickedB v.Picks && (chkS v.Proof).2 == 0) := by
          show ((!pickedB v.Picks) || ((chkS v.Proof).2 != 0)) = _
          rw [Bool.not_and]; rfl
        unfold VC13_J1
        rw [e3]
        generalize (pickedB v.Picks && (chkS v.Proof).2 == 0) = x
        cases x
        · exact ⟨fun _ => rfl, fun h => (by cases h)⟩
        · exact ⟨fun h => (by cases h), fun _ => rfl⟩
theorem verdict_ext (a b : Api_Verdict) : decide (a = b) = ((((a.Kind == b.Kind) && (a.At == b.At)) && (a.Err == b.Err)) && (decide (a.Picks = b.Picks) && decide (a.Proof = b.Proof))) := by
  obtain ⟨a1, a2, a3, a4, a5⟩ := a
  obtain ⟨b1, b2, b3, b4, b5⟩ := b
  rw [Bool.eq_iff_iff]
  simp [and_assoc]
theorem v14 (a b : Api_Verdict) : VC14 a b (fun r => r = verdict_Same a b) := by
  intro _ _ _ _
  unfold verdict_Same
  rw [verdict_ext]
  refine ⟨fun h => ?_, fun h => ?_⟩
  · rw [h]
    rintro _ rfl
    unfold slices_Equal_api_Pick_api_Pick
    refine ⟨fun h2 => ?_, fun h2 => ?_⟩
    · rintro _ rfl
      rw [h2]; rfl
    · rw [h2]; rfl
  · rw [h]; rfl
theorem v8 (a b : Api_Verdict) : VC8 a b (fun r => r = ref39_Same a b) := by
  intro _ _ _ _
  unfold ref39_Same
  rw [verdict_ext]
  refine ⟨fun h => ?_, fun h => ?_⟩
  · rw [h]
    rintro _ rfl
    unfold ref28_Same
    refine ⟨fun h2 => ?_, fun h2 => ?_⟩
    · rintro _ rfl
      rw [h2]; rfl
    · rw [h2]; rfl
  · rw [h]; rfl
theorem v9 (v : Api_Verdict) : VC9 v (fun r => r = law39_Few v) := by
  intro _ _
  unfold law39_Few
  refine ⟨fun h => ?_, fun h => ?_⟩
  · rintro _ rfl
    have h := of_decide_eq_true h
    rw [decide_eq_true (show v.Picks.length ≤ 100 by omega)]; rfl
  · have h := of_decide_eq_false h
    rw [decide_eq_false (show ¬ v.Picks.length ≤ 100 by omega)]; rfl
end Go.Proofs.YtkgcdoeldilhaaaGreatDoor
