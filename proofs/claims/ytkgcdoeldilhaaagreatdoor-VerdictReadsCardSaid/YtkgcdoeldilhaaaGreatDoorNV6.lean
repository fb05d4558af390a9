/- The document's numerals and numbers. -/
import Derived.Test.YtkgcdoeldilhaaaGreatDoorNV5
set_option linter.all false
namespace Go.Proofs.YtkgcdoeldilhaaaGreatDoor
open Go Go.Sv Go.Pu
def preD (u : Nat) : Bs := if u = 0 then [] else Lib.decDigits u
theorem dd_step (u : Nat) (h : 0 < u) : Lib.decDigits u = preD (u / 10) ++ [UInt8.ofNat (48 + u % 10)] := by
  rw [Lib.decDigits]
  unfold preD
  by_cases h2 : u < 10
  · rw [dif_pos h2, if_pos (by omega), Nat.mod_eq_of_lt h2]; rfl
  · rw [dif_neg h2, if_neg (by omega)]
theorem tq (x : Int) : (x.tdiv 10).natAbs = x.natAbs / 10 ∧ (x.tmod 10).natAbs = x.natAbs % 10 ∧ (0 ≤ x → 0 ≤ x.tdiv 10 ∧ 0 ≤ x.tmod 10) ∧ (x ≤ 0 → x.tdiv 10 ≤ 0 ∧ x.tmod 10 ≤ 0) := by
  refine ⟨by rw [Int.natAbs_tdiv]; rfl, by rw [Int.natAbs_tmod]; rfl, fun h => ?_, fun h => ?_⟩
  · rw [Int.tdiv_eq_ediv_of_nonneg h, Int.tmod_eq_emod_of_nonneg h]; omega
  · obtain ⟨y, rfl⟩ : ∃ y : Int, x = -y := ⟨-x, by omega⟩
    rw [Int.neg_tdiv, Int.neg_tmod, Int.tdiv_eq_ediv_of_nonneg (by omega), Int.tmod_eq_emod_of_nonneg (by omega)]; omega
theorem v57 (n : Int) (hp : preI n) : VC57 n (fun r => r = ref05_Digits n) := by
  have a1 : -9223372036854775808 ≤ n := hp.1
  have a2 : n ≤ 9223372036854775807 := hp.2
  have hlen := Lib.itoa_length_le n a1 a2
  unfold VC57 VC57_J1 VC57_J2 ref05_Digits
  refine ⟨fun h => ?_, fun h => ?_⟩
  · have : n = 0 := by simpa using h
    subst this
    rw [show (0 : Int) = ((0 : Nat) : Int) from rfl, Lib.itoa_nonneg, Lib.decDigits]; rfl
  · have hn : n ≠ 0 := by simpa using h
    have hdl : (Lib.decDigits n.natAbs).length ≤ 21 := by
      unfold Lib.itoa at hlen
      split at hlen
      · simp at hlen; omega
      · rw [show n.natAbs = n.toNat by omega]; exact hlen
    refine ⟨fun out x => preD x.natAbs ++ out = Lib.decDigits n.natAbs ∧ x.natAbs ≤ n.natAbs ∧ (n < 0 → x ≤ 0) ∧ (0 < n → 0 ≤ x), fun _ x => x.natAbs, ⟨?_, by omega, fun h => by omega, fun h => by omega⟩, ?_⟩
    · unfold preD; rw [if_neg (by omega), List.append_nil]
    rintro out x ⟨h1, h2, h3, h4⟩
    have hol : out.length ≤ 21 := by
      have := congrArg List.length h1
      rw [List.length_append] at this; omega
    refine ⟨fun hx => ?_, fun hx => ?_⟩
    · have hx0 : x ≠ 0 := by simpa using hx
      obtain ⟨t1, t2, t3, t4⟩ := tq x
      have hpx : preD x.natAbs = Lib.decDigits x.natAbs := by unfold preD; rw [if_neg (by omega)]
      rw [hpx, dd_step _ (by omega), List.append_assoc] at h1
      have hwq : IntKind.i64.wrap (x.tdiv 10) = x.tdiv 10 := wrp (by omega) (by omega)
      have key : ∀ d : Int, d = (x.natAbs % 10 : Nat) → ((ofBytes [IntKind.u8.wrap (IntKind.i64.wrap (48 + d))]).length + out.length ≤ 4611686018427387904) ∧
          (preD (IntKind.i64.wrap (x.tdiv 10)).natAbs ++ (ofBytes [IntKind.u8.wrap (IntKind.i64.wrap (48 + d))] ++ out) = Lib.decDigits n.natAbs ∧ (IntKind.i64.wrap (x.tdiv 10)).natAbs ≤ n.natAbs ∧ (n < 0 → IntKind.i64.wrap (x.tdiv 10) ≤ 0) ∧ (0 < n → 0 ≤ IntKind.i64.wrap (x.tdiv 10))) ∧ (IntKind.i64.wrap (x.tdiv 10)).natAbs < x.natAbs := by
        intro d hd
        have hw : IntKind.u8.wrap (IntKind.i64.wrap (48 + d)) = 48 + d := by rw [wrp (by omega) (by omega), wu8 (by omega) (by omega)]
        have hb : ofBytes [IntKind.u8.wrap (IntKind.i64.wrap (48 + d))] = [UInt8.ofNat (48 + x.natAbs % 10)] := by
          rw [hw]
          unfold ofBytes
          simp only [List.map_cons, List.map_nil]
          rw [show (48 + d).toNat = 48 + x.natAbs % 10 by omega]
        rw [hwq, hb, t1]
        refine ⟨by simp; omega, ⟨h1, by omega, fun h => (t4 (h3 h)).1, fun h => (t3 (h4 h)).1⟩, by omega⟩
      refine ⟨fun hd => ?_, fun hd => ?_⟩
      · have hd := of_decide_eq_true hd
        exact key _ (by rw [wrp (by omega) (by omega)]; omega)
      · have hd := of_decide_eq_false hd
        exact key _ (by omega)
    · have hx0 : x = 0 := by simpa using hx
      subst hx0
      have h1 : out = Lib.decDigits n.natAbs := by simpa [preD] using h1
      subst h1
      unfold Lib.itoa
      refine ⟨fun hn => ⟨by simp; omega, ?_⟩, fun hn => ?_⟩
      · have hn := of_decide_eq_true hn
        rw [if_pos hn]; rfl
      · have hn := of_decide_eq_false hn
        rw [if_neg hn, show n.natAbs = n.toNat by omega]
theorem v55 (n : Int) (hp : preI n) : VC55 n (fun r => r = token_Digits n) := by
  refine ⟨hp, ?_⟩
  simp only [forall_eq']; rfl
theorem wr_step (S d : Int) : IntKind.i64.wrap (IntKind.i64.wrap (10 * IntKind.i64.wrap S) + d) = IntKind.i64.wrap (10 * S + d) := by
  simp only [wdef]; omega
theorem wr_range (S : Int) : -9223372036854775808 ≤ IntKind.i64.wrap S ∧ IntKind.i64.wrap S ≤ 9223372036854775807 := by rw [wdef]; omega
theorem gi_drop {s : Bs} {f i : Int} (h0 : 0 ≤ f) (h1 : f ≤ i) (h2 : i < s.length) : gi (s.drop f.toNat) (i - f) = gi s i := by
  rw [gi_cast (by omega) (by rw [List.length_drop]; omega), gi_cast (by omega) h2, List.getElem_drop]
  congr 1
  omega
theorem v52 (s : Bs) (lo hi : Int) (hp : preNum s lo hi) : VC52 s lo hi (fun r => r = ref05_Number s lo hi) := by
  obtain ⟨hl, hlo, hhi⟩ := hp
  have hl : s.length ≤ 1000000 := hl
  unfold ref05_Number
  -- from the sign on
  have main : ∀ m : Bool, m = minusOf s → VC52_J7 s lo hi (fun r => r = numOf s lo hi) m := by
    intro m hm
    have no : numOK s = false → ((0 : Int), (5 : Int)) = numOf s lo hi := fun h => by simp [numOf, h]
    -- with the digits' place
    have tail : ∀ f : Int, 0 ≤ f → f ≤ s.length → digsOf s = s.drop f.toNat → (f == 1) = minusOf s → (minusOf s = true → f = 1) → (minusOf s = false → f = 0) → VC52_J1 s lo hi (fun r => r = numOf s lo hi) f := by
      intro f f0 f1 hd hf1 hfm hfn
      have hdlen : ((digsOf s).length : Int) = s.length - f := by rw [hd, List.length_drop]; omega
      have hgd : ∀ i : Int, f ≤ i → i < s.length → gi (digsOf s) (i - f) = gi s i := fun i a b => by rw [hd]; exact gi_drop f0 a b
      unfold VC52_J1
      refine ⟨fun h => ?_, fun h => ?_⟩
      · unfold VC52_J2
        refine ⟨fun _ => no ?_, fun h => absurd h (by simp)⟩
        have hfe : f = s.length := by simpa using h
        have : digsOf s = [] := List.length_eq_zero_iff.1 (by omega)
        unfold numOK; rw [this]; rfl
      · have hfe : f ≠ s.length := by simpa using h
        have hf2 : f < s.length := by omega
        have hne : digsOf s ≠ [] := by intro e; rw [e] at hdlen; simp at hdlen; omega
        have hemp : (digsOf s).isEmpty = false := by
          cases hdd : digsOf s with
          | nil => exact absurd hdd hne
          | cons _ _ => rfl
        have hhead : (digsOf s).head? = some (gi s f) := by
          rw [← hgd f (Int.le_refl _) hf2, show f - f = 0 by omega]
          cases hdd : digsOf s with
          | nil => exact absurd hdd hne
          | cons c r => rfl
        have h48 : (((gi s f).toNat : Int) == 48) = ((digsOf s).head? == some 48) := by
          rw [hhead]
          have := u8eq (gi s f) 48 (by decide)
          rw [show (((gi s f).toNat : Int) == 48) = (((gi s f).toNat : Int) == ((48 : Nat) : Int)) from rfl, ← this]
          rfl
        have hlen1 : decide (((s.length : Nat) : Int) > 1) = (decide (1 < (digsOf s).length) || minusOf s) := by
          cases hm2 : minusOf s with
          | true => have := hfm hm2; simp; omega
          | false => have := hfn hm2; simp; omega
        refine ⟨⟨f0, hf2⟩, ?_⟩
        rw [h48, hlen1]
        unfold VC52_J2
        refine ⟨fun hb => no ?_, fun hb => ?_⟩
        · unfold numOK; rw [hb]; simp
        · refine ⟨fun i => f ≤ i ∧ i ≤ s.length ∧ ((digsOf s).take (i - f).toNat).all digB = true, fun i => (s.length - i).toNat, ⟨by omega, by omega, by rw [show f - f = 0 by omega]; simp⟩, ?_⟩
          rintro i ⟨h0, h1, h2⟩
          refine ⟨fun hi' => ?_, fun hi' => ?_⟩
          · have hi' : i < s.length := of_decide_eq_true hi'
            have hlt : i - f < (digsOf s).length := by omega
            have bad : digB (gi s i) = false → ((0 : Int), (5 : Int)) = numOf s lo hi := fun hbad => no (by
              have : (digsOf s).all digB = false := by rw [List.all_eq_false]; exact ⟨_, mem_gi (by omega) hlt, by rw [hgd i h0 hi']; simp [hbad]⟩
              unfold numOK; rw [this, Bool.and_false])
            unfold VC52_J6
            refine ⟨⟨by omega, hi'⟩, fun hlt => ⟨fun _ => bad ?_, fun h => absurd h (by simp)⟩, fun hge => ⟨⟨by omega, hi'⟩, fun hgt => bad ?_, fun hle => ?_⟩⟩
            · have hlt := of_decide_eq_true hlt
              unfold digB
              have : ¬ 48 ≤ (gi s i).toNat := by omega
              simp [this]
            · have hgt := of_decide_eq_true hgt
              unfold digB
              have : ¬ (gi s i).toNat ≤ 57 := by omega
              simp [this]
            · have hge := of_decide_eq_false hge
              have hle := of_decide_eq_false hle
              rw [wrp (n := i + 1) (by omega) (by omega)]
              refine ⟨⟨by omega, by omega, ?_⟩, by first | omega | (dsimp only; omega)⟩
              rw [show i + 1 - f = i - f + 1 by omega, take_gi (by omega) hlt, List.all_append, h2, hgd i h0 hi']
              simp only [List.all_cons, List.all_nil, Bool.and_true, Bool.true_and]
              rw [digB_iff]; omega
          · have hi' : ¬ i < s.length := of_decide_eq_false hi'
            rw [show (i - f).toNat = (digsOf s).length by omega, List.take_length] at h2
            have hok : numOK s = true := by unfold numOK; rw [hb, h2, hemp]; rfl
            have hno : numOf s lo hi = if lo ≤ sval s ∧ sval s ≤ hi then (sval s, 0) else (0, 7) := by unfold numOf; rw [if_pos hok]
            unfold VC52_J3
            rw [wrp (n := ((s.length : Nat) : Int) - f) (by omega) (by omega)]
            refine ⟨fun hlong => ?_, fun hshort => ?_⟩
            · have hlong := of_decide_eq_true hlong
              exact numOf_out hok hlo hhi (.inl (by have := val_big hok (by omega); omega))
            · refine ⟨fun n i => f ≤ i ∧ i ≤ s.length ∧ n = IntKind.i64.wrap (if minusOf s then -(decVal ((digsOf s).take (i - f).toNat) : Int) else decVal ((digsOf s).take (i - f).toNat)), fun _ i => (s.length - i).toNat, ⟨by omega, by omega, ?_⟩, ?_⟩
              · rw [show f - f = 0 by omega]
                cases minusOf s <;> rfl
              rintro n j ⟨j0, j1, j2⟩
              refine ⟨fun hj => ?_, fun hj => ?_⟩
              · have hj : j < s.length := of_decide_eq_true hj
                have hlt : j - f < (digsOf s).length := by omega
                have hdg := (digB_iff _).1 (List.all_eq_true.1 h2 _ (mem_gi (by omega) hlt))
                rw [hgd j j0 hj] at hdg
                have hsn : decVal ((digsOf s).take (j + 1 - f).toNat) = 10 * decVal ((digsOf s).take (j - f).toNat) + ((gi s j).toNat - 48) := by
                  rw [show j + 1 - f = j - f + 1 by omega, take_gi (by omega) hlt, decVal_snoc, hgd j j0 hj]
                have hw1 : IntKind.i64.wrap ((gi s j).toNat : Int) = (gi s j).toNat := wrp (by omega) (by omega)
                have hw2 : IntKind.i64.wrap (((gi s j).toNat : Int) - 48) = (gi s j).toNat - 48 := wrp (by omega) (by omega)
                unfold VC52_J5
                rw [hf1, hw1, hw2, wrp (n := j + 1) (by omega) (by omega)]
                refine ⟨⟨by omega, hj⟩, fun hm2 => ⟨⟨by omega, by omega, ?_⟩, by first | omega | (dsimp only; omega)⟩, fun hm2 => ⟨⟨by omega, by omega, ?_⟩, by first | omega | (dsimp only; omega)⟩⟩
                · rw [hm2, if_pos rfl] at j2 ⊢
                  rw [j2, wr_step, wrp (n := 0 - (((gi s j).toNat : Int) - 48)) (by omega) (by omega), hsn]
                  congr 1
                  omega
                · rw [hm2, if_neg (by simp)] at j2 ⊢
                  rw [j2, wr_step, hsn]
                  congr 1
                  omega
              · have hj : ¬ j < s.length := of_decide_eq_false hj
                rw [show (j - f).toNat = (digsOf s).length by omega, List.take_length] at j2
                have j2 : n = IntKind.i64.wrap (sval s) := j2
                have hr := wr_range (sval s)
                rw [← j2] at hr
                unfold VC52_J4
                refine ⟨⟨hr.1, hr.2⟩, ?_⟩
                simp only [forall_eq']
                have b1 : -9223372036854775808 ≤ lo := hlo.1
                have b2 : hi ≤ 9223372036854775807 := hhi.2
                have hself := itoa_sval s hok
                have hrev : Lib.itoa n = s → sval s = n := fun e => by
                  have := (itoa_num n).2
                  rw [e] at this
                  exact this
                have hin : (-9223372036854775808 ≤ sval s ∧ sval s ≤ 9223372036854775807) → n = sval s := fun h => by rw [j2]; exact wrp h.1 h.2
                rw [hno]
                refine ⟨fun hx => ?_, fun hx => ?_⟩
                · rw [if_neg]
                  rintro ⟨c1, c2⟩
                  have e := hin ⟨by omega, by omega⟩
                  rw [Bool.or_eq_true, Bool.or_eq_true] at hx
                  rcases hx with (hx | hx) | hx
                  · rw [e] at hx
                    have : ref05_Digits (sval s) = s := hself
                    rw [this] at hx
                    simp at hx
                  · have := of_decide_eq_true hx; omega
                  · have := of_decide_eq_true hx; omega
                · rw [Bool.or_eq_false_iff, Bool.or_eq_false_iff] at hx
                  obtain ⟨⟨x1, x2⟩, x3⟩ := hx
                  have x2 := of_decide_eq_false x2
                  have x3 := of_decide_eq_false x3
                  have x1 : ref05_Digits n = s := by simpa using x1
                  have e := hrev x1
                  rw [if_pos ⟨by omega, by omega⟩, e]
    unfold VC52_J7
    refine ⟨fun h => ?_, fun h => ?_⟩
    · rw [h] at hm
      have hs := (hp45 s).1 hm.symm
      have hsl : 0 < s.length := by rw [hs]; simp
      exact tail 1 (by omega) (by omega) (by conv => rhs; rw [hs]
                                             rfl) (by rw [← hm]; rfl) (fun _ => rfl) (fun h2 => by rw [h2] at hm; cases hm)
    · rw [h] at hm
      exact tail 0 (by omega) (by omega) (by simpa using (hp45 s).2 hm.symm) (by rw [← hm]; rfl) (fun h2 => by rw [h2] at hm; cases hm) (fun _ => rfl)
  refine ⟨fun h => ?_, fun h => ?_⟩
  · have h := of_decide_eq_true h
    refine ⟨⟨by omega, by omega⟩, main _ ?_⟩
    cases s with
    | nil => simp at h
    | cons b r =>
      rw [minus_cons]
      exact (u8eq b 45 (by decide)).symm
  · have h := of_decide_eq_false h
    have : s = [] := List.length_eq_zero_iff.1 (by omega)
    subst this
    exact main false rfl
end Go.Proofs.YtkgcdoeldilhaaaGreatDoor
