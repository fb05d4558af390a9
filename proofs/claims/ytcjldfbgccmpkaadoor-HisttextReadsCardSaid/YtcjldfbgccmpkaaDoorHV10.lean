/- What the small functions about objects answer. -/
import Derived.Test.YtcjldfbgccmpkaaDoorHV8
set_option linter.all false
namespace Go.Proofs.YtcjldfbgccmpkaaDoor
open Go Go.Sv Go.Pu
theorem v57 (n top : Int) : VC57 n top (fun r => r = object_within n top) := rfl
theorem v95 (x : Int) : VC95 x (fun r => r = cmp_isNaN_int x) := by unfold VC95 cmp_isNaN_int; simp
theorem v82 (x y : Int) : VC82 x y (fun r => r = cmp_Compare_int x y) := by
  unfold VC82 cmp_isNaN_int cmp_Compare_int
  simp only [forall_eq']
  refine ⟨fun h => absurd h (by simp), fun _ => ⟨fun h => absurd h (by simp), fun _ => ⟨fun h => ?_, fun h => ⟨fun h2 => ?_, fun h2 => ?_⟩⟩⟩⟩
  · rw [if_pos (of_decide_eq_true h)]
  · rw [if_neg (of_decide_eq_false h), if_pos (of_decide_eq_true h2)]
  · rw [if_neg (of_decide_eq_false h), if_neg (of_decide_eq_false h2)]
theorem v81 (l : List Int) : VC81 l (fun r => r = cmp_Or_int l) := by
  intro hs
  simp only [sm] at hs
  unfold VC81_J1 cmp_Or_int
  refine ⟨fun i => 0 ≤ i ∧ i ≤ l.length ∧ l.find? (fun x => x != 0) = (l.drop i.toNat).find? (fun x => x != 0), fun i => (l.length - i).toNat, ⟨by omega, by omega, by simp⟩, ?_⟩
  rintro i ⟨h0, h1, h2⟩
  refine ⟨fun hi => ?_, fun hi => ?_⟩
  · have hi := of_decide_eq_true hi
    rw [drop_gi h0 hi, List.find?_cons] at h2
    refine ⟨⟨h0, hi⟩, fun hb => ?_, fun hb => ?_⟩
    · rw [hb] at h2; rw [h2]; rfl
    · rw [hb] at h2
      rw [wrp (n := i + 1) (by omega) (by omega)]
      exact ⟨⟨by omega, by omega, h2⟩, by first | omega | (dsimp only; omega)⟩
  · have hi := of_decide_eq_false hi
    rw [List.drop_eq_nil_of_le (by omega)] at h2
    rw [h2]; rfl
theorem v73 (a b : Api_Row) : VC73 a b (fun r => r = object_place a b) := by
  unfold VC73 object_place
  simp only [forall_eq']
theorem cmp3 (a b : Int) : (cmp_Compare_int a b ≠ 0 → a ≠ b) ∧ (cmp_Compare_int a b = 0 ↔ a = b) ∧ (0 ≤ cmp_Compare_int a b ↔ b ≤ a) := by
  unfold cmp_Compare_int
  split
  · refine ⟨fun _ => by omega, by omega, by omega⟩
  · split
    · refine ⟨fun _ => by omega, by omega, by omega⟩
    · refine ⟨fun h => absurd rfl h, by omega, by omega⟩
theorem place_ge (a b : Api_Row) : decide (object_place a b ≥ 0) = (decide (a.State > b.State) || (decide (a.State = b.State) && decide (a.Kind ≥ b.Kind))) := by
  obtain ⟨_, s2, s3⟩ := cmp3 a.State b.State
  obtain ⟨_, k2, k3⟩ := cmp3 a.Kind b.Kind
  unfold object_place cmp_Or_int
  rw [Bool.eq_iff_iff, Bool.or_eq_true, Bool.and_eq_true, decide_eq_true_eq, decide_eq_true_eq, decide_eq_true_eq, decide_eq_true_eq]
  by_cases h : cmp_Compare_int a.State b.State = 0
  · have e1 : (cmp_Compare_int a.State b.State != 0) = false := by simpa using h
    rw [List.find?_cons, e1]
    simp only [List.find?_cons]
    by_cases h2 : cmp_Compare_int a.Kind b.Kind = 0
    · have e2 : (cmp_Compare_int a.Kind b.Kind != 0) = false := by simpa using h2
      rw [e2]
      simp only [List.find?_nil, Option.getD_none]
      omega
    · have e2 : (cmp_Compare_int a.Kind b.Kind != 0) = true := by simpa using h2
      rw [e2]
      simp only [Option.getD_some]
      omega
  · have e1 : (cmp_Compare_int a.State b.State != 0) = true := by simpa using h
    rw [List.find?_cons, e1]
    simp only [Option.getD_some]
    omega
theorem v58 (o : Api_Object) (i : Int) (hp : preRow o i) : VC58 o i (fun r => r = object_row o i) := by
  intro hs
  simp only [sm] at hs
  obtain ⟨h0, h1⟩ := hp
  refine ⟨⟨h0, h1⟩, ?_⟩
  simp only [forall_eq']
  have key : ∀ x : Bool, x = (!object_within (gi o.Rows i).State o.States || !object_within (gi o.Rows i).Next o.States) → VC58_J1 o i (fun r => r = object_row o i) x := by
    intro x hx
    unfold VC58_J1 VC58_J2 object_row rowE
    rw [← hx]
    simp only [forall_eq']
    refine ⟨fun h => by rw [if_pos h], fun h => ⟨fun h2 => by rw [if_neg (by simp [h]), if_pos h2], fun h2 => ⟨fun h3 => by rw [if_neg (by simp [h]), if_neg (by simp [h2]), if_pos h3], fun h3 => ⟨fun h4 => ?_, fun h4 => ⟨fun h => absurd h (by simp), fun _ => ?_⟩⟩⟩⟩⟩
    · have h4' := of_decide_eq_true h4
      rw [wrp (n := i - 1) (by omega) (by omega), if_neg (by simp [h]), if_neg (by simp [h2]), if_neg (by simp [h3]), h4, Bool.true_and]
      refine ⟨⟨by omega, by omega⟩, fun h5 => by rw [if_pos h5], fun h5 => by rw [if_neg (by simp [h5])]⟩
    · rw [if_neg (by simp [h]), if_neg (by simp [h2]), if_neg (by simp [h3]), h4, Bool.false_and]; rfl
  refine ⟨fun h => key true (by rw [h]; rfl), fun h => key _ (by rw [h]; rfl)⟩
def badHead (o : Api_Object) : Prop := o.States < 1 ∨ o.States > 32 ∨ o.Kinds < 1 ∨ o.Kinds > 64 ∨ o.Init < 0 ∨ o.Init ≥ o.States
theorem check_eq (o : Api_Object) : (badHead o → object_Check o = (-1, 2)) ∧ (¬ badHead o → object_Check o = chkGo o o.Rows.length 0) := by
  unfold object_Check badHead
  exact ⟨fun h => by rw [if_pos h], fun h => by rw [if_neg h]⟩
theorem chkGo_succ (o : Api_Object) (f : Nat) (i : Int) : chkGo o (f + 1) i = if rowE o i ≠ 0 then (i, rowE o i) else chkGo o f (i + 1) := rfl
theorem v32 (o : Api_Object) (hp : preCk o) : VC32 o (fun r => r = object_Check o) := by
  intro hs
  simp only [sm] at hs
  obtain ⟨⟨a1, a2⟩, ⟨b1, b2⟩⟩ := hp
  have a1 : -9223372036854775808 ≤ o.States := a1
  have a2 : o.States ≤ 9223372036854775807 := a2
  have b1 : -9223372036854775808 ≤ o.Kinds := b1
  have b2 : o.Kinds ≤ 9223372036854775807 := b2
  simp only [forall_eq']
  have w1 : object_within (IntKind.i64.wrap (o.States - 1)) 32 = true ↔ 1 ≤ o.States ∧ o.States ≤ 32 := by
    unfold object_within
    rw [Bool.and_eq_true, decide_eq_true_eq, decide_eq_true_eq, wdef]; omega
  have w2 : object_within (IntKind.i64.wrap (o.Kinds - 1)) 64 = true ↔ 1 ≤ o.Kinds ∧ o.Kinds ≤ 64 := by
    unfold object_within
    rw [Bool.and_eq_true, decide_eq_true_eq, decide_eq_true_eq, wdef]; omega
  have w3 : object_within o.Init o.States = true ↔ 0 ≤ o.Init ∧ o.Init < o.States := by
    unfold object_within
    rw [Bool.and_eq_true, decide_eq_true_eq, decide_eq_true_eq]
  have key : ∀ x : Bool, (x = true ↔ badHead o) → VC32_J1 o (fun r => r = object_Check o) x := by
    intro x hx
    unfold VC32_J1 VC32_J2
    refine ⟨fun h => ((check_eq o).1 (hx.1 h)).symm, fun h => ?_⟩
    rw [(check_eq o).2 (fun hb => by rw [hx.2 hb] at h; cases h)]
    refine ⟨fun i => 0 ≤ i ∧ i ≤ o.Rows.length ∧ chkGo o (o.Rows.length - i.toNat) i = chkGo o o.Rows.length 0, fun i => (o.Rows.length - i).toNat, ⟨by omega, by omega, rfl⟩, ?_⟩
    rintro i ⟨h0, h1, h2⟩
    refine ⟨fun hi => ?_, fun hi => ?_⟩
    · have hi := of_decide_eq_true hi
      rw [show o.Rows.length - i.toNat = (o.Rows.length - (i + 1).toNat) + 1 by omega] at h2
      rw [chkGo_succ] at h2
      refine ⟨⟨h0, hi⟩, ?_⟩
      rintro _ rfl
      refine ⟨fun he => ?_, fun he => ?_⟩
      · have he : rowE o i ≠ 0 := by simpa [object_row] using he
        rw [if_pos he] at h2
        exact h2
      · have he : ¬ rowE o i ≠ 0 := by simpa [object_row] using he
        rw [if_neg he] at h2
        rw [wrp (n := i + 1) (by omega) (by omega)]
        exact ⟨⟨by omega, by omega, h2⟩, by first | omega | (dsimp only; omega)⟩
    · have hi := of_decide_eq_false hi
      rw [show o.Rows.length - i.toNat = 0 by omega] at h2
      rw [← h2, show i = o.Rows.length by omega]; rfl
  unfold badHead at key
  refine ⟨fun h => key true ?_, fun h => ⟨fun h2 => key true ?_, fun h2 => key _ ?_⟩⟩
  · have h : ¬ object_within (IntKind.i64.wrap (o.States - 1)) 32 = true := by simpa using h
    rw [w1] at h; simp; omega
  · have h2 : ¬ object_within (IntKind.i64.wrap (o.Kinds - 1)) 64 = true := by simpa using h2
    rw [w2] at h2; simp; omega
  · have h : object_within (IntKind.i64.wrap (o.States - 1)) 32 = true := by simpa using h
    have h2 : object_within (IntKind.i64.wrap (o.Kinds - 1)) 64 = true := by simpa using h2
    rw [w1] at h; rw [w2] at h2
    rw [Bool.not_eq_true', ← Bool.not_eq_true, w3]; omega
theorem v35 (o : Api_Object) : VC35 o (fun r => r = ref23_Check o) := by
  intro hs
  simp only [sm] at hs
  unfold ref23_Check VC35_J1 VC35_J2
  have hb : ((((((decide (o.States < 1)) || (decide (o.States > 32))) || (decide (o.Kinds < 1))) || (decide (o.Kinds > 64))) || (decide (o.Init < 0))) || (decide (o.Init ≥ o.States))) = true ↔ badHead o := by
    unfold badHead; simp [or_assoc]
  refine ⟨fun h => ((check_eq o).1 (hb.1 h)).symm, fun h => ?_⟩
  rw [(check_eq o).2 (fun h2 => by rw [hb.2 h2] at h; cases h)]
  refine ⟨fun i => 0 ≤ i ∧ i ≤ o.Rows.length ∧ chkGo o (o.Rows.length - i.toNat) i = chkGo o o.Rows.length 0, fun i => (o.Rows.length - i).toNat, ⟨by omega, by omega, rfl⟩, ?_⟩
  rintro i ⟨h0, h1, h2⟩
  refine ⟨fun hi => ?_, fun hi => ?_⟩
  · have hi := of_decide_eq_true hi
    rw [show o.Rows.length - i.toNat = (o.Rows.length - (i + 1).toNat) + 1 by omega] at h2
    rw [chkGo_succ] at h2
    have bad : ∀ e : Int, rowE o i = e → e ≠ 0 → (i, e) = chkGo o o.Rows.length 0 := by
      intro e he hne
      rw [if_pos (by rw [he]; exact hne), he] at h2
      exact h2
    have ok : rowE o i = 0 → ((0 : Int) ≤ IntKind.i64.wrap (i + 1) ∧ IntKind.i64.wrap (i + 1) ≤ o.Rows.length ∧ chkGo o (o.Rows.length - (IntKind.i64.wrap (i + 1)).toNat) (IntKind.i64.wrap (i + 1)) = chkGo o o.Rows.length 0) ∧ (o.Rows.length - IntKind.i64.wrap (i + 1)).toNat < (o.Rows.length - i).toNat := by
      intro he
      rw [if_neg (by simp [he])] at h2
      rw [wrp (n := i + 1) (by omega) (by omega)]
      exact ⟨⟨by omega, by omega, h2⟩, by omega⟩
    have wi : ∀ n top : Int, (!object_within n top) = true ↔ n < 0 ∨ top ≤ n := by
      intro n top
      unfold object_within
      rw [Bool.not_eq_true', Bool.and_eq_false_iff, decide_eq_false_iff_not, decide_eq_false_iff_not]; omega
    have c1 : (!object_within (gi o.Rows i).State o.States || !object_within (gi o.Rows i).Next o.States) = ((((decide (((gi o.Rows i).State) < 0)) || (decide (((gi o.Rows i).State) ≥ o.States))) || (decide (((gi o.Rows i).Next) < 0))) || (decide (((gi o.Rows i).Next) ≥ o.States))) := by
      rw [Bool.eq_iff_iff, Bool.or_eq_true, wi, wi]; simp [or_assoc]
    have c2 : (!object_within (gi o.Rows i).Kind o.Kinds) = ((decide (((gi o.Rows i).Kind) < 0)) || (decide (((gi o.Rows i).Kind) ≥ o.Kinds))) := by
      rw [Bool.eq_iff_iff, wi]; simp
    have c3 : (!object_within (gi o.Rows i).Result 1000001) = ((decide (((gi o.Rows i).Result) < 0)) || (decide (((gi o.Rows i).Result) > 1000000))) := by
      rw [Bool.eq_iff_iff, wi]; simp; omega
    unfold rowE at bad ok
    rw [c1, c2, c3, place_ge] at bad ok
    refine ⟨⟨h0, hi⟩, fun g1 => bad 30 (by rw [if_pos g1]) (by decide), fun g1 => ⟨fun g2 => bad 31 (by rw [if_neg (by simp [g1]), if_pos g2]) (by decide), fun g2 => ⟨fun g3 => bad 7 (by rw [if_neg (by simp [g1]), if_neg (by simp [g2]), if_pos g3]) (by decide), fun g3 => ?_⟩⟩⟩
    rw [if_neg (by simp [g1]), if_neg (by simp [g2]), if_neg (by simp [g3])] at bad ok
    refine ⟨fun g4 => ?_, fun g4 => ⟨fun h => absurd h (by simp), fun _ => ok (by rw [g4]; rfl)⟩⟩
    have g4' := of_decide_eq_true g4
    rw [wrp (n := i - 1) (by omega) (by omega)]
    rw [g4, Bool.true_and] at bad ok
    refine ⟨⟨by omega, by omega⟩, fun g5 => ⟨fun _ => bad 32 (by rw [g5]; rfl) (by decide), fun h => absurd h (by simp)⟩, fun g5 => ⟨⟨by omega, by omega⟩, fun g6 => ⟨⟨by omega, by omega⟩, fun g7 => bad 32 ?_ (by decide), fun g7 => ok ?_⟩, fun g6 => ⟨fun h => absurd h (by simp), fun _ => ok ?_⟩⟩⟩
    · have g6 : (gi o.Rows (i - 1)).State = (gi o.Rows i).State := by simpa using g6
      rw [g5, decide_eq_true g6, g7]; rfl
    · have g6 : (gi o.Rows (i - 1)).State = (gi o.Rows i).State := by simpa using g6
      rw [g5, decide_eq_true g6, g7]; rfl
    · have g6 : (gi o.Rows (i - 1)).State ≠ (gi o.Rows i).State := by simpa using g6
      rw [g5, decide_eq_false g6]; rfl
  · have hi := of_decide_eq_false hi
    rw [show o.Rows.length - i.toNat = 0 by omega] at h2
    rw [← h2, show i = o.Rows.length by omega]; rfl
theorem row_eq (x y : Api_Row) : (!((x.State) == (y.State) && ((x.Kind) == (y.Kind) && ((x.Next) == (y.Next) && ((x.Result) == (y.Result) && true))))) = !decide (x = y) := by
  cases x; cases y
  congr 1
  rw [Bool.eq_iff_iff]
  simp
theorem v49 (a b : List Api_Row) : VC49 a b (fun r => r = ref23_SameRows a b) := by
  unfold VC49
  intro ha hb
  simp only [sm] at ha hb
  have no : a ≠ b → false = ref23_SameRows a b := fun h => by simp [ref23_SameRows, h]
  refine ⟨fun h => no (by rintro rfl; simp at h), fun h => ?_⟩
  have hl : a.length = b.length := by simp at h; omega
  unfold VC49_J1
  refine ⟨fun i => 0 ≤ i ∧ i ≤ a.length ∧ ∀ j : Int, 0 ≤ j → j < i → gi a j = gi b j, fun i => (a.length - i).toNat, ⟨by omega, by omega, fun j h0 h1 => by omega⟩, ?_⟩
  rintro i ⟨h0, h1, h2⟩
  refine ⟨fun hi => ?_, fun hi => ?_⟩
  · have hi := of_decide_eq_true hi
    refine ⟨⟨h0, hi⟩, ⟨h0, by omega⟩, ?_⟩
    rw [row_eq, wrp (n := i + 1) (by omega) (by omega)]
    refine ⟨fun hne => no (by rintro rfl; simp at hne), fun he => ⟨⟨by omega, by omega, fun j j0 j1 => ?_⟩, by first | omega | (dsimp only; omega)⟩⟩
    by_cases hj : j < i
    · exact h2 j j0 hj
    · rw [show j = i by omega]; simpa using he
  · have hi := of_decide_eq_false hi
    have : a = b := gi_ext hl (fun j j0 j1 => h2 j j0 (by omega))
    simp [ref23_SameRows, this]
theorem obj_eq (a b : Api_Object) : decide (a = b) = (((a.States == b.States) && (a.Kinds == b.Kinds)) && (a.Init == b.Init) && decide (a.Rows = b.Rows)) := by
  cases a; cases b
  rw [Bool.eq_iff_iff]
  simp [and_assoc]
theorem v23 (a b : Api_Object) : VC23 a b (fun r => r = ref23_Same a b) := by
  intro _ _
  simp only [forall_eq']
  unfold ref23_Same ref23_SameRows
  rw [obj_eq]
  exact ⟨fun h => by rw [h, Bool.true_and], fun h => by rw [h, Bool.false_and]⟩
theorem v11 (o : Api_Object) : VC11 o (fun r => r = law23_Few o) := by
  intro _
  unfold law23_Few
  rw [Bool.eq_iff_iff, decide_eq_true_eq, decide_eq_true_eq]; omega
theorem v88 (x y : Int) (hp : preM x y) : VC88 x y (fun r => r = math_bits_Mul64 x y) := by
  obtain ⟨rfl, rfl⟩ := hp
  unfold VC88
  decide
theorem v77 (x y : Int) (hp : preM x y) : VC77 x y (fun r => r = math_bits_Mul x y) := by
  refine ⟨hp, ?_⟩
  simp only [forall_eq']; rfl
theorem v65 (x : List Int) (n : Int) (hp : preRep x n) : VC65 x n (fun r => r = slices_Repeat_int_int x n) := by
  obtain ⟨h1, rfl⟩ := hp
  obtain ⟨c, rfl⟩ : ∃ c, x = [c] := by
    rcases x with _ | ⟨c, _ | ⟨_, _⟩⟩
    · simp at h1
    · exact ⟨c, rfl⟩
    · simp at h1
  intro _
  have hm : math_bits_Mul (IntKind.u64.wrap (([c].length : Nat) : Int)) (IntKind.u64.wrap 4) = (0, 4) := by show math_bits_Mul (IntKind.u64.wrap 1) (IntKind.u64.wrap 4) = (0, 4); decide
  have hw1 : IntKind.u64.wrap (([c].length : Nat) : Int) = 1 := by show IntKind.u64.wrap 1 = 1; decide
  have hw4 : IntKind.u64.wrap 4 = 4 := by decide
  have hr : slices_Repeat_int_int [c] 4 = [c, c, c, c] := rfl
  refine ⟨fun h => absurd h (by decide), fun _ => ⟨⟨hw1, hw4⟩, ?_⟩⟩
  rintro _ rfl
  rw [hm, hr]
  refine ⟨fun h => absurd h (by decide), fun _ => ⟨by decide, ?_⟩⟩
  unfold VC65_J1
  refine ⟨fun l n => (l = [c, 0, 0, 0] ∧ n = 1) ∨ (l = [c, c, 0, 0] ∧ n = 2) ∨ (l = [c, c, c, c] ∧ n = 4), fun _ n => (4 - n).toNat, .inl ⟨rfl, rfl⟩, ?_⟩
  rintro l n (⟨rfl, rfl⟩ | ⟨rfl, rfl⟩ | ⟨rfl, rfl⟩)
  · exact ⟨fun _ => ⟨by show (0 : Int) ≤ 1 ∧ (1 : Int) ≤ 4; decide, by show (0 : Int) ≤ 1 ∧ (1 : Int) ≤ 4; decide, .inr (.inl ⟨rfl, rfl⟩), by show (2 : Nat) < 3; decide⟩, fun h => absurd h (by show ¬ decide ((1 : Int) < 4) = false; decide)⟩
  · exact ⟨fun _ => ⟨by show (0 : Int) ≤ 2 ∧ (2 : Int) ≤ 4; decide, by show (0 : Int) ≤ 2 ∧ (2 : Int) ≤ 4; decide, .inr (.inr ⟨rfl, rfl⟩), by show (0 : Nat) < 2; decide⟩, fun h => absurd h (by show ¬ decide ((2 : Int) < 4) = false; decide)⟩
  · exact ⟨fun h => absurd h (by show ¬ decide ((4 : Int) < 4) = true; decide), fun _ => rfl⟩
theorem v64 (x n : Int) (hp : preB1 x n) : VC64 x n (fun r => r = objtext_bounds_1 x n) := by
  refine ⟨⟨rfl, hp⟩, ?_⟩
  simp only [forall_eq']
  intro _
  rfl
theorem v40 (n : Int) (hp : preBn n) : VC40 n (fun r => r = objtext_bounds n) := by
  refine ⟨hp, ?_⟩
  simp only [forall_eq']
  refine fun _ => ⟨hp, ?_⟩
  intro _
  rfl
end Go.Proofs.YtcjldfbgccmpkaaDoor
