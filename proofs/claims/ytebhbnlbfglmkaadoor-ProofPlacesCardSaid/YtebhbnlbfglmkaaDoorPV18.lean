/- The laws of proofs as text: plain. -/
import Derived.Test.YtebhbnlbfglmkaaDoorPV17
set_option linter.all false
namespace Go.Proofs.YtebhbnlbfglmkaaDoor
open Go Go.Sv Go.Pu
theorem empty_row2 {t : List Int} (h : (((t.length : Nat) : Int) == 0) = true) : t = [] := by
  have : ((t.length : Nat) : Int) = 0 := by simpa using h
  exact List.length_eq_zero_iff.1 (by omega)
theorem parts_le : ∀ {g : List (List Int)}, (∀ r ∈ g, r ≠ []) → g.length ≤ g.flatten.length
  | [], _ => by simp
  | r :: g, h => by
    have a := parts_le (g := g) (fun x hx => h x (by simp [hx]))
    have b := List.length_pos_iff.2 (h r (by simp))
    simp only [List.length_cons, List.flatten_cons, List.length_append]; omega
theorem splitR_le (h : List Int) : (splitR h).length ≤ h.length := by
  obtain ⟨a, b⟩ := split_flat h
  have c := parts_le (fun r hr => (b r hr).1)
  have d := congrArg List.length a
  rw [List.length_append] at d; omega
theorem v17 (h : List Int) (hp : preSp h) : VC17 h (fun x => x = ref10_Split h) := by
  intro _
  have hp : h.length ≤ 1000000 := hp
  have main : ∀ i : Int, 0 ≤ i → i ≤ h.length → (∀ j : Int, 0 ≤ j → j < i → gi h j ≥ 0) → (i < h.length → gi h i < 0) → VC17_J1 h (fun x => x = ref10_Split h) i := by
    intro i i0 i1 hpos hneg
    have z : splitR (h.take i.toNat) = [] := splitR_pos (fun x hx => by
      obtain ⟨k, hk⟩ := List.getElem?_of_mem hx
      have hl := (List.getElem?_eq_some_iff.1 hk).1
      rw [List.getElem?_take] at hk
      split at hk
      · have := hpos (k : Int) (by omega) (by omega)
        have e2 : gi h (k : Int) = x := by unfold gi; simp [hk]
        rw [e2] at this; exact this
      · cases hk)
    unfold VC17_J1 VC17_J2 VC17_J3 VC17_J5 VC17_J4 VC17_J3
    refine ⟨fun rows k => i ≤ k ∧ k ≤ h.length ∧ ∃ e : Int, k ≤ e ∧ e ≤ h.length ∧ (∀ x : Int, k ≤ x → x < e → gi h x ≥ 0) ∧ (e < h.length → gi h e < 0) ∧ rows = splitR (h.take e.toNat), fun _ k => (h.length - k).toNat, ⟨by omega, i1, i, by omega, i1, fun x _ _ => by omega, hneg, z.symm⟩, ?_⟩
    rintro rows k ⟨k0, k1, e, e0, e1, ep, en, hr⟩
    refine ⟨fun hk => ?_, fun hk => ?_⟩
    · have hk := of_decide_eq_true hk
      rw [wrp (n := k + 1) (by omega) (by omega)]
      refine ⟨⟨by omega, hk⟩, fun hn => ?_, fun hn => ?_⟩
      · have hn := of_decide_eq_true hn
        have hek : e = k := by
          by_cases h : k < e
          · have := ep k (by omega) h; omega
          · omega
        subst hek
        have rl : rows.length ≤ 1000000 := by
          have := splitR_le (h.take e.toNat)
          rw [← hr, List.length_take] at this; omega
        have cl : ∀ j : Int, e + 1 ≤ j → j ≤ h.length → (∀ x : Int, e < x → x < j → gi h x ≥ 0) → (j < h.length → gi h j < 0) → ((0 : Int) ≤ e ∧ e ≤ j ∧ j ≤ (h.length : Int)) ∧ (rows.length + [(h.take j.toNat).drop e.toNat].length ≤ 1099511627776) ∧ (i ≤ e + 1 ∧ e + 1 ≤ (h.length : Int) ∧ ∃ e' : Int, e + 1 ≤ e' ∧ e' ≤ h.length ∧ (∀ x : Int, e + 1 ≤ x → x < e' → gi h x ≥ 0) ∧ (e' < h.length → gi h e' < 0) ∧ rows ++ [(h.take j.toNat).drop e.toNat] = splitR (h.take e'.toNat)) ∧ (h.length - (e + 1)).toNat < (h.length - e).toNat := by
          intro j j0 j1 jp jn
          refine ⟨⟨by omega, by omega, j1⟩, by simp; omega, ⟨by omega, by omega, j, j0, j1, fun x x0 x1 => jp x (by omega) x1, jn, ?_⟩, by omega⟩
          rw [hr]
          exact (split_seg (by omega) hk hn _ j rfl j0 j1 jp).symm
        refine ⟨fun r j => e + 1 ≤ j ∧ j ≤ h.length ∧ r = rows ∧ ∀ x : Int, e < x → x < j → gi h x ≥ 0, fun _ j => (h.length - j).toNat, ⟨by omega, by omega, rfl, fun x _ _ => by omega⟩, ?_⟩
        rintro r j ⟨j0, j1, hrr, jp⟩
        subst hrr
        refine ⟨fun hj => ?_, fun hj => ?_⟩
        · have hj := of_decide_eq_true hj
          rw [wrp (n := j + 1) (by omega) (by omega)]
          refine ⟨⟨by omega, hj⟩, fun hg => ⟨⟨by omega, by omega, rfl, fun x x0 x1 => ?_⟩, by first | omega | (dsimp only; omega)⟩, fun hg => ?_⟩
          · by_cases hx : x = j
            · subst hx; exact of_decide_eq_true hg
            · exact jp x x0 (by omega)
          · exact cl j j0 j1 jp (fun _ => by have := of_decide_eq_false hg; omega)
        · have hj := of_decide_eq_false hj
          refine ⟨fun x => by simp at x, fun _ => ?_⟩
          exact cl j j0 j1 jp (fun _ => by omega)
      · have hn := of_decide_eq_false hn
        have hek : k + 1 ≤ e := by
          by_cases h2 : e = k
          · subst h2; have := en hk; omega
          · omega
        exact ⟨⟨by omega, by omega, e, hek, e1, fun x x0 x1 => ep x (by omega) x1, en, hr⟩, by first | omega | (dsimp only; omega)⟩
    · have hk := of_decide_eq_false hk
      have : e = h.length := by omega
      rw [this, show ((h.length : Nat) : Int).toNat = h.length by omega, List.take_length] at hr
      refine ⟨⟨i0, i1⟩, ?_⟩
      unfold ref10_Split
      rw [splitA_take i0 i1 hpos hneg, hr]
  unfold VC17_J6
  refine ⟨fun i => 0 ≤ i ∧ i ≤ h.length ∧ ∀ j : Int, 0 ≤ j → j < i → gi h j ≥ 0, fun i => (h.length - i).toNat, ⟨by omega, by omega, fun j _ _ => by omega⟩, ?_⟩
  rintro i ⟨i0, i1, hpos⟩
  refine ⟨fun hi => ?_, fun hi => ?_⟩
  · have hi := of_decide_eq_true hi
    rw [wrp (n := i + 1) (by omega) (by omega)]
    refine ⟨⟨i0, hi⟩, fun hg => ⟨⟨by omega, by omega, fun j j0 j1 => ?_⟩, by first | omega | (dsimp only; omega)⟩, fun hg => ?_⟩
    · by_cases hj : j = i
      · subst hj; exact of_decide_eq_true hg
      · exact hpos j j0 (by omega)
    · exact main i i0 i1 hpos (fun _ => by have := of_decide_eq_false hg; omega)
  · have hi := of_decide_eq_false hi
    exact ⟨fun x => by simp at x, fun _ => main i i0 i1 hpos (fun _ => by omega)⟩
theorem v7 : VC7 (fun r => r = law10_awake) := by
  have e1 : proof_Parse [53, 32, 49, 32, 45, 50, 32, 48, 32, 51, 32, 45, 52, 32, 48, 10, 53, 32, 100, 32, 49, 32, 50, 32, 48, 10] = ([⟨1, 5, [1, -2], [3, -4]⟩, ⟨2, 5, [], [1, 2]⟩], 26, 0) := by decide +kernel
  have e2 : proof_Parse [53, 32, 49, 32, 45, 50, 32, 48, 32, 51] = ([], 10, 4) := by decide +kernel
  have e3 : proof_Parse [53, 32, 49, 32, 49, 32, 48, 32, 48] = ([], 4, 21) := by decide +kernel
  have i1 : Lib.itoa 1 = [49] := itoa_d 1 (by decide)
  have i2 : Lib.itoa 2 = [50] := itoa_d 2 (by decide)
  have i3 : Lib.itoa 3 = [51] := itoa_d 3 (by decide)
  have i5 : Lib.itoa 5 = [53] := itoa_d 5 (by decide)
  have j2 : Lib.itoa (-2) = [45, 50] := by
    have := Lib.itoa_neg 2 (by decide)
    have h2 : Lib.decDigits 2 = [50] := by have := Lib.decDigits_one (show (2 : Nat) < 10 by decide); exact this
    rw [h2] at this; exact this
  have j4 : Lib.itoa (-4) = [45, 52] := by
    have := Lib.itoa_neg 4 (by decide)
    have h2 : Lib.decDigits 4 = [52] := by have := Lib.decDigits_one (show (4 : Nat) < 10 by decide); exact this
    rw [h2] at this; exact this
  have hc : (chkS [⟨1, 5, [1, -2], [3, -4]⟩, ⟨2, 5, [], [1, 2]⟩]).2 = 0 := by decide +kernel
  have hT : proofT [⟨1, 5, [1, -2], [3, -4]⟩, ⟨2, 5, [], [1, 2]⟩] = [53, 32, 49, 32, 45, 50, 32, 48, 32, 51, 32, 45, 52, 32, 48, 10, 53, 32, 100, 32, 49, 32, 50, 32, 48, 10] := by
    unfold proofT stepT numsB
    simp only [List.flatMap_cons, List.flatMap_nil, i1, i2, i3, i5, j2, j4]
    decide
  have e4 : proof_Print [⟨1, 5, [1, -2], [3, -4]⟩, ⟨2, 5, [], [1, 2]⟩] = ([53, 32, 49, 32, 45, 50, 32, 48, 32, 51, 32, 45, 52, 32, 48, 10, 53, 32, 100, 32, 49, 32, 50, 32, 48, 10], 0) := by
    unfold proof_Print printP
    rw [if_neg (by rw [hc]; decide), hT, if_neg (by decide)]
  have e5 : proof_Split [1, 2, -3, 4, -5] = ([1, 2], [[-3, 4], [-5]]) := by decide +kernel
  have e6 : proof_Check [⟨1, 5, [1, -2], [3, -4]⟩, ⟨2, 5, [], [1, 2]⟩] = (2, 0) := by decide +kernel
  have e7 : proof_Check [⟨1, 0, [], []⟩] = (0, 2) := by decide +kernel
  unfold VC7
  simp only [forall_eq', e1, e2, e3, e4, e5, e6, e7]
  simp [ref01_SameInts, proof_Same, law10_awake, gi, preSp]
theorem v3 (s : Bs) : VC3 s (fun r => r = true) := by
  unfold VC3
  refine ⟨fun _ => ?_, fun _ => ?_⟩
  · rintro _ rfl; rfl
  rintro _ rfl
  intro _
  rintro _ rfl
  intro _
  rintro _ rfl
  have e : ref10_Parse s = proof_Parse s := rfl
  rw [e]
  have : ref10_Same (proof_Parse s).1 (proof_Parse s).1 = true := by simp [ref10_Same]
  rw [this]
  refine ⟨fun _ => ?_, fun h => by simp at h⟩
  rintro _ rfl; rfl
theorem v4 {P R S : Prop} (l m : List Api_Step) (h : List Int) (_ : P) (_ : R) (_ : S) : VC4 l m h (fun r => r = true) := by
  unfold VC4
  intro _ _ _
  have main : ∀ x : Bool, (x = false → h.length ≤ 200) → VC4_J1 l m h (fun r => r = true) x := by
    intro x hx
    unfold VC4_J1
    refine ⟨fun _ => ?_, fun h0 => ?_⟩
    · rintro _ rfl; rfl
    have hl := hx h0
    have e1 : ref10_Check l = proof_Check l := rfl
    have e2 : ref10_Print l = proof_Print l := rfl
    have e3 : ref10_Split h = proof_Split h := rfl
    have e4 : ref10_Same l m = proof_Same l m := rfl
    rw [e1, e2, e3, e4]
    rintro _ rfl _ rfl _ rfl _ rfl
    refine ⟨by show h.length ≤ 1000000; omega, ?_⟩
    rintro _ rfl
    intro _ _
    refine ⟨by show h.length ≤ 1000000; omega, ?_⟩
    rintro _ rfl
    intro _ _
    refine ⟨fun _ => ?_, fun h => by simp at h⟩
    rintro _ rfl _ rfl
    refine ⟨fun _ => ?_, fun h => by simp at h⟩
    rintro _ rfl
    refine ⟨fun _ => ?_, fun h => by simp [ref01_SameInts] at h⟩
    rintro _ rfl
    refine ⟨fun _ => ?_, fun h => by simp [ref04_SameRows] at h⟩
    rintro _ rfl; rfl
  rintro _ rfl
  refine ⟨fun _ => main true (fun h => by simp at h), fun _ => ?_⟩
  rintro _ rfl
  refine main _ (fun h => ?_)
  rw [Bool.or_eq_false_iff] at h
  have := of_decide_eq_false h.2
  omega
theorem v5 {P R S : Prop} (l : List Api_Step) (s : Bs) (h : List Int) (_ : P) (_ : R) (_ : S) : VC5 l s h (fun r => r = true) := by
  unfold VC5
  intro _ _
  rintro _ rfl
  refine ⟨fun _ => ?_, fun hg => ?_⟩
  · rintro _ rfl; rfl
  rw [Bool.or_eq_false_iff, Bool.or_eq_false_iff] at hg
  have hs : s.length ≤ 3000 := by have := of_decide_eq_false hg.1.2; omega
  have hh : h.length ≤ 200 := by have := of_decide_eq_false hg.2; omega
  have two : VC5_J2 s h (fun r => r = true) h := by
    unfold VC5_J2 VC5_J4 VC5_J3
    have fin : ∀ r153, ref01_SameInts h h = r153 → (r153 = true → ∀ r157, law10_awake = r157 → r157 = true) ∧ (r153 = false → false = true) := by
      rintro _ rfl
      refine ⟨fun _ => ?_, fun x => by simp [ref01_SameInts] at x⟩
      rintro _ rfl; rfl
    rintro _ rfl
    intro _
    refine ⟨fun he => ?_, fun _ => fin⟩
    have he : (proof_Parse s).2.2 = 0 := by simpa using he
    have hp := (read_proof hs he).1
    have hb := parse_proof _ hp
    rintro _ rfl
    rintro _ rfl
    intro _
    have hP : proof_Print (proof_Parse s).1 = printP (proof_Parse s).1 := rfl
    rw [hP, hb, hp]
    refine ⟨fun x => by simp at x, fun _ => ?_⟩
    rintro _ rfl
    refine ⟨fun x => by simp [ref10_Same] at x, fun _ => fin⟩
  have one : VC5_J1 s h (fun r => r = true) := by
    unfold VC5_J1 VC5_J5
    refine ⟨by show h.length ≤ 1000000; omega, ?_⟩
    obtain ⟨f1, f2⟩ := split_flat h
    have f3 := congrArg List.length f1
    rw [List.length_append] at f3
    rintro _ rfl
    intro _ _
    unfold proof_Split
    generalize splitR h = G at *
    generalize splitA h = A at *
    dsimp only
    refine ⟨by simp; omega, fun a i => 0 ≤ i ∧ i ≤ G.length ∧ a = A ++ (G.take i.toNat).flatten, fun _ i => (G.length - i).toNat, ⟨by omega, by omega, by simp⟩, ?_⟩
    rintro a i ⟨i0, i1, ha⟩
    refine ⟨fun hi => ?_, fun hi => ?_⟩
    · have hi := of_decide_eq_true hi
      have hi : i < G.length := hi
      obtain ⟨g1, g2⟩ := f2 _ (mem_gi i0 hi)
      have gp := List.length_pos_iff.2 g1
      have fs := flatten_step i0 hi
      have fl := flatten_le G (i + 1).toNat
      have gl := parts_le (fun r hr => (f2 r hr).1)
      have fsl := congrArg List.length fs
      have hal := congrArg List.length ha
      rw [List.length_append] at fsl hal
      refine ⟨⟨i0, hi⟩, fun _ => ⟨fun x => absurd (empty_row2 x) g1, fun _ => ⟨⟨i0, hi⟩, fun _ => ⟨⟨by omega, by omega⟩, fun x => ?_, fun _ => ⟨⟨i0, hi⟩, fun _ => ⟨by omega, ?_⟩⟩⟩⟩⟩⟩
      · have := of_decide_eq_true x; omega
      · rw [wrp (n := i + 1) (by omega) (by omega)]
        exact ⟨⟨by omega, by omega, by rw [fs, ha]; simp⟩, by first | omega | (dsimp only; omega)⟩
    · have hi := of_decide_eq_false hi
      have hi : ¬ i < G.length := hi
      rw [show i.toNat = G.length by omega, List.take_length, f1] at ha
      subst ha
      exact two
  rintro _ rfl
  refine ⟨fun hp => ?_, fun _ => one⟩
  have hp : (printP l).2 = 0 := by simpa [proof_Print] using hp
  have hb := parse_proof l hp
  have hP : proof_Print l = printP l := rfl
  rintro _ rfl
  intro _
  rintro _ rfl
  rw [hP, hb]
  refine ⟨fun x => by simp [ref10_Same] at x, fun _ => one⟩
/-! where a fault stands -/
def inT (n : Int) (l : List Token_Token) : Prop := ∀ t ∈ l, 0 ≤ t.At ∧ t.At + (t.Text.length : Int) ≤ n
def inLn (n : Int) (r : Ln) : Prop := 0 ≤ r.at_ ∧ r.at_ ≤ n ∧ inT n r.rest
theorem inT_tail {n : Int} {t : Token_Token} {T : List Token_Token} (h : inT n (t :: T)) : inT n T := fun x hx => h x (by simp [hx])
theorem wrong_in {n a e : Int} {r : Ln} (h : inLn n r) (h0 : 0 ≤ a) (h1 : a ≤ n) : inLn n (proof_line_wrong a e r) := by
  unfold proof_line_wrong
  split
  · exact ⟨h0, h1, h.2.2⟩
  · exact h
theorem number_in {n lo hi : Int} {r : Ln} (h : inLn n r) : inLn n (proof_line_number lo hi r).2.2.2 := by
  obtain ⟨T, a, e⟩ := r
  obtain ⟨h0, h1, h2⟩ := h
  unfold proof_line_number
  split
  · exact ⟨h0, h1, h2⟩
  · cases T with
    | nil => exact ⟨h0, h1, h2⟩
    | cons t T =>
      have g := h2 t (by simp)
      have gt := inT_tail h2
      show inLn n (if _ then _ else _ : Int × Int × Bool × Ln).2.2.2
      split
      · exact ⟨g.1, by show t.At ≤ n; omega, gt⟩
      · exact ⟨by show 0 ≤ t.At + (t.Text.length : Int); omega, g.2, gt⟩
theorem rowGo_in {n : Int} (lo hi : Int) (tw : Bool) : ∀ (T : List Token_Token) (a : Int) (out : List Int), inT n T → 0 ≤ a → a ≤ n → inLn n (rowGo lo hi tw T a out).2
  | [], a, out, h, h0, h1 => ⟨h0, h1, h⟩
  | t :: T, a, out, h, h0, h1 => by
    have g := h t (by simp)
    have gt := inT_tail h
    unfold rowGo
    split
    · exact ⟨g.1, by show t.At ≤ n; omega, gt⟩
    · split
      · exact ⟨by show 0 ≤ t.At + (t.Text.length : Int); omega, g.2, gt⟩
      · split
        · exact ⟨g.1, by show t.At ≤ n; omega, gt⟩
        · exact rowGo_in lo hi tw T _ _ gt (by omega) g.2
theorem row_in {n lo hi : Int} {tw : Bool} {r : Ln} (h : inLn n r) : inLn n (proof_line_row lo hi tw r).2 := by
  unfold proof_line_row
  split
  · exact h
  · exact rowGo_in _ _ _ _ _ _ h.2.2 h.1 h.2.1
theorem endS_in {n : Int} {r : Ln} (h : inLn n r) : inLn n (endS r) := by
  unfold endS
  split
  · exact h
  · rename_i t T hr
    have g := h.2.2 t (by rw [hr]; simp)
    exact wrong_in h g.1 (by omega)
theorem step_in {n : Int} {T : List Token_Token} (hT : T ≠ []) (hn : 0 ≤ n) (h : inT n T) : inLn n (stepOf T).2 := by
  unfold stepOf proof_line_step
  have g0 : 0 ≤ (gi T 0).At ∧ (gi T 0).At + ((gi T 0).Text.length : Int) ≤ n := h _ (mem_gi (by omega) (by have := List.length_pos_iff.2 hT; omega))
  have a := number_in (lo := 0) (hi := 10000000) (r := ⟨T, 0, 0⟩) ⟨Int.le_refl _, hn, h⟩
  generalize proof_line_number 0 10000000 ⟨T, 0, 0⟩ = q at *
  obtain ⟨id, pl, ok, r⟩ := q
  have a : inLn n r := a
  refine endS_in ?_
  show inLn n (stepB (gi T 0).At id r).2
  unfold stepB
  split
  · rename_i hd
    obtain ⟨he, hw⟩ := hd
    obtain ⟨R, ra, re⟩ := r
    cases R with
    | nil => simp at hw
    | cons t R =>
      have hw : t.Text = wD := by simpa using hw
      have g := a.2.2 t (by simp)
      rw [hw] at g
      have g2 : t.At + 1 ≤ n := g.2
      exact row_in ⟨by show 0 ≤ t.At + 1; omega, g2, inT_tail a.2.2⟩
  · have b := row_in (lo := -10000000) (hi := 10000000) (tw := false) (row_in (lo := -100000) (hi := 100000) (tw := true) a)
    show inLn n (if id = 0 then _ else _)
    split
    · exact wrong_in b g0.1 (by omega)
    · exact b
theorem steps_in {n e : Int} (h0 : 0 ≤ e) (h1 : e ≤ n) : ∀ (L : List (List Token_Token)) (acc : List Api_Step), (∀ T ∈ L, inT n T) → 0 ≤ (stepsGo e L acc).2.1 ∧ (stepsGo e L acc).2.1 ≤ n
  | [], acc, _ => ⟨h0, h1⟩
  | T :: L, acc, h => by
    have hL : ∀ U ∈ L, inT n U := fun U hU => h U (by simp [hU])
    have hT := h T (by simp)
    unfold stepsGo
    split
    · exact steps_in h0 h1 L acc hL
    · rename_i hne
      have g0 : 0 ≤ (gi T 0).At ∧ (gi T 0).At + ((gi T 0).Text.length : Int) ≤ n := hT _ (mem_gi (by omega) (by have := List.length_pos_iff.2 hne; omega))
      have s := step_in hne (by omega) hT
      split
      · exact ⟨g0.1, by show (gi T 0).At ≤ n; omega⟩
      · split
        · exact ⟨s.1, s.2.1⟩
        · exact steps_in h0 h1 L _ hL
theorem parse_in {s : Bs} (hs : s.length ≤ 3000) : 0 ≤ (proof_Parse s).2.1 ∧ (proof_Parse s).2.1 ≤ s.length := by
  unfold proof_Parse
  rw [if_neg (by omega)]
  refine steps_in (by omega) (Int.le_refl _) _ _ (fun T hT t ht => ?_)
  obtain ⟨k, g⟩ := (flat_good s).1 t (List.mem_flatten.2 ⟨_, hT, ht⟩)
  have a := g.lo
  have b := g.hi
  unfold tend at b
  exact ⟨a, by omega⟩
theorem v6 (s behind : Bs) : VC6 s behind (fun r => r = true) := by
  unfold VC6 VC6_J1
  refine ⟨fun _ => ?_, fun h => ?_⟩
  · rintro _ rfl; rfl
  rw [Bool.or_eq_false_iff] at h
  have hs : s.length ≤ 3000 := by have := of_decide_eq_false h.1; omega
  have hb : behind.length ≤ 300 := by have := of_decide_eq_false h.2; omega
  obtain ⟨p0, p1⟩ := parse_in hs
  have hend : (proof_Parse s).2.2 = 0 → (proof_Parse s).2.1 = s.length := by
    unfold proof_Parse
    rw [if_neg (by omega)]
    exact steps_end _ _ _
  rintro _ rfl
  intro _
  refine ⟨fun x => ?_, fun _ => ⟨fun he => ?_, fun he => ?_⟩⟩
  · exfalso
    have x : ((proof_Parse s).2.1 < 0 ∨ (proof_Parse s).2.1 > s.length) ∨ (proof_Parse s).2.2 = 0 ∧ ¬ (proof_Parse s).2.1 = s.length := by simpa using x
    rcases x with (x | x) | ⟨x, y⟩
    · omega
    · omega
    · exact y (hend x)
  · have he : (proof_Parse s).2.2 = 0 := by simpa using he
    obtain ⟨q1, q2⟩ := read_proof hs he
    have hlen : (proof_Parse s).1.length ≤ 1000000 := by
      have : (chkS (proof_Parse s).1).2 = 0 := by
        unfold printP at q1
        by_cases h1 : (chkS (proof_Parse s).1).2 ≠ 0
        · rw [if_pos h1] at q1; exact absurd q1 h1
        · simpa using h1
      exact ((chk_iff _).1 this).1
    generalize (proof_Parse s).1 = l at *
    refine ⟨fun i => 0 ≤ i ∧ i ≤ l.length, fun i => (l.length - i).toNat, ⟨by omega, by omega⟩, ?_⟩
    rintro i ⟨i0, i1⟩
    refine ⟨fun hi => ?_, fun _ => ?_⟩
    · have hi := of_decide_eq_true hi
      rw [wrp (n := i + 1) (by omega) (by omega)]
      refine ⟨⟨i0, by omega, by omega⟩, ?_⟩
      have e : (l.take (i + 1).toNat).drop i.toNat = [gi l i] := by
        rw [take_gi i0 hi, List.drop_append_of_le_length (by simp; omega), List.drop_eq_nil_of_le (by simp; omega)]; rfl
      rw [e]
      have hm := q2 _ (mem_gi i0 hi)
      have hc : proof_Check [gi l i] = (1, 0) := by
        unfold proof_Check chkS
        rw [if_neg (by simp)]
        unfold badGo badGo
        rw [if_pos hm]; rfl
      rintro _ rfl
      rw [hc]
      exact ⟨fun x => by simp at x, fun _ => ⟨⟨by omega, by omega⟩, by first | omega | (dsimp only; omega)⟩⟩
    · rintro _ rfl; rfl
  · have he : (proof_Parse s).2.2 ≠ 0 := by simpa using he
    obtain ⟨a1, a2, a3⟩ := proof_same hs behind hb he
    refine ⟨by simp; omega, by simp; omega, ?_⟩
    rintro _ rfl
    intro _
    refine ⟨by show s.length ≤ 1000000; omega, ?_⟩
    rintro _ rfl
    intro _
    have a4 := List.length_pos_iff.2 a3
    rw [a1, a2]
    refine ⟨fun _ => ?_, fun x => ?_⟩
    · rintro _ rfl; rfl
    · exfalso
      rw [decide_eq_true (show (((token_Lines s).length : Nat) : Int) > 0 by omega)] at x
      simp at x
end Go.Proofs.YtebhbnlbfglmkaaDoor
