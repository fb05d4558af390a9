/- Histories: what the functions about events answer. -/
import Derived.Test.YtcjldfbgccmpkaaDoorHV16
set_option linter.all false
namespace Go.Proofs.YtcjldfbgccmpkaaDoor
open Go Go.Sv Go.Pu
theorem v59 (x : Api_Event) : VC59 x (fun r => r = event_alone x) := by
  unfold VC59 event_alone evE
  have b1 : ((x.What != 1) && (x.What != 2)) = true ↔ (x.What ≠ 1 ∧ x.What ≠ 2) := by simp
  have b2 : ((decide (x.Prc < 1)) || (decide (x.Prc > 1000))) = true ↔ (x.Prc < 1 ∨ x.Prc > 1000) := by simp
  have b3 : ((x.What == 1) && ((decide (x.N < 0)) || (decide (x.N ≥ 64)))) = true ↔ (x.What = 1 ∧ (x.N < 0 ∨ x.N ≥ 64)) := by simp
  have b4 : ((x.What == 2) && ((decide (x.N < 0)) || (decide (x.N > 1000000)))) = true ↔ (x.What = 2 ∧ (x.N < 0 ∨ x.N > 1000000)) := by simp
  have ng : ∀ {b : Bool} {p : Prop}, (b = true ↔ p) → b = false → ¬ p := fun h hb hp => by rw [h.2 hp] at hb; cases hb
  refine ⟨fun h => by rw [if_pos (b1.1 h)], fun h1 => ⟨fun h => by rw [if_neg (ng b1 h1), if_pos (b2.1 h)], fun h2 => ⟨fun h => by rw [if_neg (ng b1 h1), if_neg (ng b2 h2), if_pos (b3.1 h)], fun h3 => ⟨fun h => by rw [if_neg (ng b1 h1), if_neg (ng b2 h2), if_neg (ng b3 h3), if_pos (b4.1 h)], fun h4 => by rw [if_neg (ng b1 h1), if_neg (ng b2 h2), if_neg (ng b3 h3), if_neg (ng b4 h4)]⟩⟩⟩⟩
theorem lastW_snoc (l : List Api_Event) (x : Api_Event) (p : Int) : lastW (l ++ [x]) p = if x.Prc = p then x.What else lastW l p := by simp [lastW]
theorem mget_mput (m : List (Int × Int)) (k q v : Int) : mget (mput m k v) q = if k = q then some v else mget m q := by
  induction m with
  | nil => simp only [mput, mget]
  | cons e m ih =>
    obtain ⟨j, x⟩ := e
    simp only [mput]
    by_cases h : j = k
    · subst h
      rw [if_pos rfl]
      simp only [mget]
      by_cases h2 : j = q
      · rw [if_pos h2, if_pos h2]
      · rw [if_neg h2, if_neg h2, if_neg h2]
    · rw [if_neg h]
      simp only [mget]
      by_cases h2 : j = q
      · rw [if_pos h2, if_pos h2, if_neg (by omega)]
      · rw [if_neg h2, if_neg h2, ih]
/-- the map of open operations tells each process' last event -/
def mapOK (m : List (Int × Int)) (l : List Api_Event) : Prop := ∀ q, (mget m q).getD 0 = lastW l q
theorem mapOK_put {m : List (Int × Int)} {l : List Api_Event} (h : mapOK m l) (x : Api_Event) : mapOK (mput m x.Prc x.What) (l ++ [x]) := by
  intro q
  rw [mget_mput, lastW_snoc]
  by_cases hq : x.Prc = q
  · rw [if_pos hq, if_pos hq]; rfl
  · rw [if_neg hq, if_neg hq]; exact h q
theorem evGo_succ (l : List Api_Event) (f : Nat) (i : Int) : evGo l (f + 1) i = if evE (gi l i) ≠ 0 then (i, evE (gi l i)) else if (lastW (l.take i.toNat) (gi l i).Prc == 1) == ((gi l i).What == 1) then (i, 33) else evGo l f (i + 1) := rfl
theorem v33 (l : List Api_Event) : VC33 l (fun r => r = event_Check l) := by
  intro _
  unfold VC33_J1 event_Check
  refine ⟨fun h => by have h := of_decide_eq_true h; rw [if_pos (by omega)], fun h => ?_⟩
  have h := of_decide_eq_false h
  rw [if_neg (by omega)]
  refine ⟨fun m i => 0 ≤ i ∧ i ≤ l.length ∧ mapOK m (l.take i.toNat) ∧ evGo l (l.length - i.toNat) i = evGo l l.length 0, fun _ i => (l.length - i).toNat, ⟨by omega, by omega, fun q => by simp [mget, lastW], rfl⟩, ?_⟩
  rintro m i ⟨h0, h1, h2, h3⟩
  refine ⟨fun hi => ?_, fun hi => ?_⟩
  · have hi := of_decide_eq_true hi
    rw [show l.length - i.toNat = (l.length - (i + 1).toNat) + 1 by omega, evGo_succ, ← h2] at h3
    refine ⟨⟨h0, hi⟩, ?_⟩
    rintro _ rfl
    refine ⟨fun he => ?_, fun he => ?_⟩
    · have he : evE (gi l i) ≠ 0 := by simpa [event_alone] using he
      rw [if_pos he] at h3
      exact h3
    · have he : evE (gi l i) = 0 := by simpa [event_alone] using he
      rw [if_neg (by simpa using he)] at h3
      refine ⟨fun ho => ?_, fun ho => ?_⟩
      · rw [if_pos ho] at h3
        exact h3
      · rw [if_neg (by rw [ho]; simp)] at h3
        rw [wrp (n := i + 1) (by omega) (by omega)]
        refine ⟨⟨by omega, by omega, ?_, h3⟩, by first | omega | (dsimp only; omega)⟩
        rw [take_gi h0 hi]
        exact mapOK_put h2 _
  · have hi := of_decide_eq_false hi
    rw [show l.length - i.toNat = 0 by omega] at h3
    rw [← h3, show i = l.length by omega]; rfl
theorem kinds_snoc (l : List Api_Event) (x : Api_Event) : kindsGo (l ++ [x]) = if x.What = 1 then max (kindsGo l) (min x.N 63 + 1) else kindsGo l := by simp [kindsGo]
theorem kinds_range (l : List Api_Event) : 0 ≤ kindsGo l ∧ kindsGo l ≤ 64 := by
  have key : ∀ (l : List Api_Event) (n : Int), 0 ≤ n → n ≤ 64 → 0 ≤ l.foldl (fun n x => if x.What = 1 then max n (min x.N 63 + 1) else n) n ∧ l.foldl (fun n x => if x.What = 1 then max n (min x.N 63 + 1) else n) n ≤ 64 := by
    intro l
    induction l with
    | nil => intro n h0 h1; exact ⟨h0, h1⟩
    | cons x l ih =>
      intro n h0 h1
      rw [List.foldl_cons]
      apply ih
      · split <;> omega
      · split <;> omega
  exact key l 0 (by omega) (by omega)
theorem v34 (l : List Api_Event) : VC34 l (fun r => r = event_Kinds l) := by
  intro hsm
  simp only [sm] at hsm
  unfold VC34_J1 VC34_J2 event_Kinds
  refine ⟨fun n i => 0 ≤ i ∧ i ≤ l.length ∧ n + 1 = kindsGo (l.take i.toNat), fun _ i => (l.length - i).toNat, ⟨by omega, by omega, rfl⟩, ?_⟩
  rintro n i ⟨h0, h1, h2⟩
  refine ⟨fun hi => ?_, fun hi => ?_⟩
  · have hi := of_decide_eq_true hi
    have hs := kinds_snoc (l.take i.toNat) (gi l i)
    rw [← take_gi h0 hi] at hs
    rw [wrp (n := i + 1) (by omega) (by omega)]
    refine ⟨⟨h0, hi⟩, fun hw => ⟨⟨by omega, by omega, ?_⟩, by first | omega | (dsimp only; omega)⟩, fun hw => ⟨⟨by omega, by omega, ?_⟩, by first | omega | (dsimp only; omega)⟩⟩
    · have hw : (gi l i).What = 1 := by simpa using hw
      rw [hs, if_pos hw, ← h2]
      split <;> split <;> omega
    · have hw : (gi l i).What ≠ 1 := by simpa using hw
      rw [hs, if_neg hw, ← h2]
  · have hi := of_decide_eq_false hi
    rw [show i.toNat = l.length by omega, List.take_length] at h2
    have := kinds_range l
    rw [wrp (n := n + 1) (by omega) (by omega), h2]
theorem v68 (l : List Api_Event) (p : Int) : VC68 l p (fun r => r = ref25_last l p) := by
  intro hsm
  simp only [sm] at hsm
  unfold VC68_J1 VC68_J2 ref25_last
  refine ⟨fun a i => 0 ≤ i ∧ i ≤ l.length ∧ a = lastGo l p i.toNat, fun _ i => (l.length - i).toNat, ⟨by omega, by omega, rfl⟩, ?_⟩
  rintro a i ⟨h0, h1, h2⟩
  refine ⟨fun hi => ?_, fun hi => ?_⟩
  · have hi := of_decide_eq_true hi
    have hs : lastGo l p (i + 1).toNat = if (gi l i).Prc = p then i else lastGo l p i.toNat := by
      rw [show (i + 1).toNat = i.toNat + 1 by omega]
      show (if (gi l ((i.toNat : Nat) : Int)).Prc = p then ((i.toNat : Nat) : Int) else _) = _
      rw [show ((i.toNat : Nat) : Int) = i by omega]
    rw [wrp (n := i + 1) (by omega) (by omega)]
    refine ⟨⟨h0, hi⟩, fun hw => ⟨⟨by omega, by omega, ?_⟩, by first | omega | (dsimp only; omega)⟩, fun hw => ⟨⟨by omega, by omega, ?_⟩, by first | omega | (dsimp only; omega)⟩⟩
    · have hw : (gi l i).Prc = p := by simpa using hw
      rw [hs, if_pos hw]
    · have hw : (gi l i).Prc ≠ p := by simpa using hw
      rw [hs, if_neg hw, h2]
  · have hi := of_decide_eq_false hi
    rw [h2, show i.toNat = l.length by omega]
theorem lastGo_spec (l : List Api_Event) (p : Int) : ∀ n : Nat, n ≤ l.length → (lastGo l p n = -1 ∧ lastW (l.take n) p = 0) ∨ (0 ≤ lastGo l p n ∧ lastGo l p n < n ∧ (gi l (lastGo l p n)).Prc = p ∧ lastW (l.take n) p = (gi l (lastGo l p n)).What)
  | 0, _ => .inl ⟨rfl, rfl⟩
  | n + 1, h => by
    have ht : l.take (n + 1) = l.take n ++ [gi l (n : Int)] := by
      have := take_gi (l := l) (i := (n : Int)) (by omega) (by omega)
      simpa [show ((n : Int) + 1).toNat = n + 1 by omega] using this
    rw [ht, lastW_snoc]
    show ((if (gi l (n : Int)).Prc = p then (n : Int) else lastGo l p n) = -1 ∧ _) ∨ (0 ≤ (if (gi l (n : Int)).Prc = p then (n : Int) else lastGo l p n) ∧ (if (gi l (n : Int)).Prc = p then (n : Int) else lastGo l p n) < _ ∧ (gi l (if (gi l (n : Int)).Prc = p then (n : Int) else lastGo l p n)).Prc = p ∧ _ = (gi l (if (gi l (n : Int)).Prc = p then (n : Int) else lastGo l p n)).What)
    by_cases hp : (gi l (n : Int)).Prc = p
    · rw [if_pos hp, if_pos hp]
      exact .inr ⟨by omega, by omega, hp, rfl⟩
    · rw [if_neg hp, if_neg hp]
      rcases lastGo_spec l p n (by omega) with ⟨h1, h2⟩ | ⟨h1, h2, h3, h4⟩
      · exact .inl ⟨h1, h2⟩
      · exact .inr ⟨h1, by omega, h3, h4⟩
theorem v60 (l : List Api_Event) (p : Int) : VC60 l p (fun r => r = ref25_open l p) := by
  intro _
  rintro _ rfl
  have := lastGo_spec l p l.length (Nat.le_refl _)
  rw [List.take_length] at this
  unfold ref25_open ref25_last
  refine ⟨fun h => ?_, fun h => ?_⟩
  · have h := of_decide_eq_true h
    rcases this with ⟨h1, _⟩ | ⟨h1, h2, h3, h4⟩
    · omega
    · exact ⟨⟨h1, by omega⟩, by rw [h4]⟩
  · have h := of_decide_eq_false h
    rcases this with ⟨h1, h2⟩ | ⟨h1, _⟩
    · rw [h2]; rfl
    · omega
theorem v36 (l : List Api_Event) : VC36 l (fun r => r = ref25_Check l) := by
  intro _
  unfold VC36_J1 VC36_J2 ref25_Check event_Check
  refine ⟨fun h => by have h := of_decide_eq_true h; rw [if_pos (by omega)], fun h => ?_⟩
  have h := of_decide_eq_false h
  rw [if_neg (by omega)]
  refine ⟨fun i => 0 ≤ i ∧ i ≤ l.length ∧ evGo l (l.length - i.toNat) i = evGo l l.length 0, fun i => (l.length - i).toNat, ⟨by omega, by omega, rfl⟩, ?_⟩
  rintro i ⟨h0, h1, h3⟩
  refine ⟨fun hi => ?_, fun hi => ?_⟩
  · have hi := of_decide_eq_true hi
    rw [show l.length - i.toNat = (l.length - (i + 1).toNat) + 1 by omega, evGo_succ] at h3
    rw [wrp (n := i + 1) (by omega) (by omega)]
    have bad : ∀ e : Int, evE (gi l i) = e → e ≠ 0 → (i, e) = evGo l l.length 0 := by
      intro e he hne
      rw [if_pos (by rw [he]; exact hne), he] at h3
      exact h3
    have fin : evE (gi l i) = 0 → ∀ x : Bool, x = ((lastW (l.take i.toNat) (gi l i).Prc == 1) == ((gi l i).What == 1)) → (x = true → (i, (33 : Int)) = evGo l l.length 0) ∧ (x = false → (0 ≤ i + 1 ∧ i + 1 ≤ l.length ∧ evGo l (l.length - (i + 1).toNat) (i + 1) = evGo l l.length 0) ∧ (l.length - (i + 1)).toNat < (l.length - i).toNat) := by
      intro he x hx
      rw [if_neg (by simpa using he), ← hx] at h3
      refine ⟨fun h => ?_, fun h => ?_⟩
      · rw [if_pos h] at h3; exact h3
      · rw [if_neg (by rw [h]; simp)] at h3; exact ⟨⟨by omega, by omega, h3⟩, by omega⟩
    generalize gi l i = y at *
    unfold evE at bad fin
    refine ⟨⟨h0, hi⟩, fun g1 => ?_, fun g1 => ⟨fun g2 => ?_, fun g2 => ⟨fun g3 => ?_, fun g3 => ⟨fun g4 => ?_, fun g4 => ?_⟩⟩⟩⟩
    · have g1 : y.What ≠ 1 ∧ y.What ≠ 2 := by simpa using g1
      exact bad 8 (by rw [if_pos g1]) (by decide)
    · have g1 : ¬ (y.What ≠ 1 ∧ y.What ≠ 2) := by simp at g1 ⊢; exact g1
      have g2 : y.Prc < 1 ∨ y.Prc > 1000 := by simpa using g2
      exact bad 2 (by rw [if_neg g1, if_pos g2]) (by decide)
    · have g1 : ¬ (y.What ≠ 1 ∧ y.What ≠ 2) := by simp at g1 ⊢; exact g1
      have g2 : ¬ (y.Prc < 1 ∨ y.Prc > 1000) := by simp at g2 ⊢; exact g2
      have g3 : y.What = 1 ∧ (y.N < 0 ∨ y.N > 63) := by simpa using g3
      exact bad 31 (by rw [if_neg g1, if_neg g2, if_pos ⟨g3.1, by omega⟩]) (by decide)
    · have g1 : ¬ (y.What ≠ 1 ∧ y.What ≠ 2) := by simp at g1 ⊢; exact g1
      have g2 : ¬ (y.Prc < 1 ∨ y.Prc > 1000) := by simp at g2 ⊢; exact g2
      have g3 : ¬ (y.What = 1 ∧ (y.N < 0 ∨ y.N ≥ 64)) := by simp at g3 ⊢; intro a; have := g3 a; omega
      have g4 : y.What = 2 ∧ (y.N < 0 ∨ y.N > 1000000) := by simpa using g4
      exact bad 7 (by rw [if_neg g1, if_neg g2, if_neg g3, if_pos g4]) (by decide)
    · have g1 : ¬ (y.What ≠ 1 ∧ y.What ≠ 2) := by simp at g1 ⊢; exact g1
      have g2 : ¬ (y.Prc < 1 ∨ y.Prc > 1000) := by simp at g2 ⊢; exact g2
      have g3 : ¬ (y.What = 1 ∧ (y.N < 0 ∨ y.N ≥ 64)) := by simp at g3 ⊢; intro a; have := g3 a; omega
      have g4 : ¬ (y.What = 2 ∧ (y.N < 0 ∨ y.N > 1000000)) := by simp at g4 ⊢; exact g4
      have hz := fin (by rw [if_neg g1, if_neg g2, if_neg g3, if_neg g4])
      unfold ref25_open
      have htl : (0 : Int) ≤ i ∧ i ≤ l.length := ⟨h0, h1⟩
      by_cases hw : y.What = 1
      · have e1 : (y.What == 1) = true := by simpa using hw
        have e2 : (y.What == 2) = false := by simp; omega
        rw [e1] at hz ⊢
        rw [e2]
        refine ⟨fun _ => ⟨htl, ?_⟩, fun h => absurd h (by simp)⟩
        rintro _ rfl
        refine ⟨fun ho => hz true (by rw [ho]; rfl), fun ho => ⟨fun h => absurd h (by simp), fun _ => hz false (by rw [ho]; rfl)⟩⟩
      · have hw2 : y.What = 2 := by omega
        have e1 : (y.What == 1) = false := by simpa using hw
        have e2 : (y.What == 2) = true := by simpa using hw2
        rw [e1] at hz ⊢
        rw [e2]
        refine ⟨fun h => absurd h (by simp), fun _ => ⟨fun _ => ⟨htl, ?_⟩, fun h => absurd h (by simp)⟩⟩
        rintro _ rfl
        exact hz _ (by cases (lastW (l.take i.toNat) y.Prc == 1) <;> rfl)
  · have hi := of_decide_eq_false hi
    rw [show l.length - i.toNat = 0 by omega] at h3
    rw [← h3, show i = l.length by omega]; rfl
theorem v37 (l : List Api_Event) : VC37 l (fun r => r = ref25_Kinds l) := by
  intro hsm
  simp only [sm] at hsm
  unfold VC37_J1 VC37_J3 VC37_J4 VC37_J2 ref25_Kinds
  refine ⟨fun n i => 0 ≤ i ∧ i ≤ l.length ∧ n = kindsGo (l.take i.toNat), fun _ i => (l.length - i).toNat, ⟨by omega, by omega, rfl⟩, ?_⟩
  rintro n i ⟨h0, h1, h2⟩
  have hr := kinds_range (l.take i.toNat)
  refine ⟨fun hi => ?_, fun hi => ?_⟩
  · have hi := of_decide_eq_true hi
    have hs := kinds_snoc (l.take i.toNat) (gi l i)
    rw [← take_gi h0 hi, ← h2] at hs
    rw [wrp (n := i + 1) (by omega) (by omega)]
    have go : ∀ m : Int, m = kindsGo (l.take (i + 1).toNat) → (0 ≤ i + 1 ∧ i + 1 ≤ l.length ∧ m = kindsGo (l.take (i + 1).toNat)) ∧ (l.length - (i + 1)).toNat < (l.length - i).toNat := fun m hm => ⟨⟨by omega, by omega, hm⟩, by omega⟩
    refine ⟨⟨h0, hi⟩, fun hw => ⟨⟨h0, hi⟩, fun hb => go _ ?_, fun hb => ⟨⟨h0, hi⟩, fun _ => ⟨⟨h0, hi⟩, fun hc => ⟨⟨h0, hi⟩, go _ ?_⟩, fun hc => go _ ?_⟩, fun h => absurd hw (by rw [h]; simp)⟩⟩, fun hw => ⟨fun h => absurd h (by simp), fun _ => ⟨⟨h0, hi⟩, fun h => absurd h (by rw [hw]; simp), fun _ => ⟨fun h => absurd h (by simp), fun _ => go _ ?_⟩⟩⟩⟩
    · have hw : (gi l i).What = 1 := by simpa using hw
      have hb := of_decide_eq_true hb
      rw [hs, if_pos hw]; omega
    · have hw : (gi l i).What = 1 := by simpa using hw
      have hb := of_decide_eq_false hb
      have hc := of_decide_eq_true hc
      rw [hs, if_pos hw, wrp (by omega) (by omega)]; omega
    · have hw : (gi l i).What = 1 := by simpa using hw
      have hb := of_decide_eq_false hb
      have hc := of_decide_eq_false hc
      rw [hs, if_pos hw]; omega
    · have hw : (gi l i).What ≠ 1 := by simpa using hw
      rw [hs, if_neg hw]
  · have hi := of_decide_eq_false hi
    rw [h2, show i.toNat = l.length by omega, List.take_length]
end Go.Proofs.YtcjldfbgccmpkaaDoor
