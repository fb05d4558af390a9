/- The document's numerals and numbers. -/
import Derived.Test.YtkgcdoeldilhaaaGreatDoorNV5
set_option linter.all false
namespace Go.Proofs.YtkgcdoeldilhaaaGreatDoor
open Go Go.Sv Go.Pu
def preD (u : Nat) : Bs := if u = 0 then [] else Lib.decDigits u
theorem dd_step (u : Nat) (h : 0 < u) : Lib.decDigits u = preD (u / 10) ++ [UInt8.ofNat (48 + u % 10)] := by
  rw [Lib.decDigits]
  unfold preD
  by_cases h2 : u < 10
  · rw [dif_pos h2, if_pos (by omega), Nat.mod_eq_of_lt h2]; rfl
  · rw [dif_neg h2, if_neg (by omega)]
theorem tq (x : Int) : (x.tdiv 10).natAbs = x.natAbs / 10 ∧ (x.tmod 10).natAbs = x.natAbs % 10 ∧ (0 ≤ x → 0 ≤ x.tdiv 10 ∧ 0 ≤ x.tmod 10) ∧ (x ≤ 0 → x.tdiv 10 ≤ 0 ∧ x.tmod 10 ≤ 0) := by
  refine ⟨by rw [Int.natAbs_tdiv]; rfl, by rw [Int.natAbs_tmod]; rfl, fun h => ?_, fun h => ?_⟩
  · rw [Int.tdiv_eq_ediv_of_nonneg h, Int.tmod_eq_emod_of_nonneg h]; omega
  · obtain ⟨y, rfl⟩ : ∃ y : Int, x = -y := ⟨-x, by omega⟩
    rw [Int.neg_tdiv, Int.neg_tmod, Int.tdiv_eq_ediv_of_nonneg (by omega), Int.tmod_eq_emod_of_nonneg (by omega)]; omega
theorem v57 (n : Int) (hp : preI n) : VC57 n (fun r => r = ref05_Digits n) := by
  have a1 : -9223372036854775808 ≤ n := hp.1
  have a2 : n ≤ 9223372036854775807 := hp.2
  have hlen := Lib.itoa_length_le n a1 a2
  unfold VC57 VC57_J1 VC57_J2 ref05_Digits
  refine ⟨fun h => ?_, fun h => ?_⟩
  · have : n = 0 := by simpa using h
    subst this
    rw [show (0 : Int) = ((0 : Nat) : Int) from rfl, Lib.itoa_nonneg, Lib.decDigits]; rfl
  · have hn : n ≠ 0 := by simpa using h
    have hdl : (Lib.decDigits n.natAbs).length ≤ 21 := by
      unfold Lib.itoa at hlen
      split at hlen
      · simp at hlen; omega
      · rw [show n.natAbs = n.toNat by omega]; exact hlen
    refine ⟨fun out x => preD x.natAbs ++ out = Lib.decDigits n.natAbs ∧ x.natAbs ≤ n.natAbs ∧ (n < 0 → x ≤ 0) ∧ (0 < n → 0 ≤ x), fun _ x => x.natAbs, ⟨?_, by omega, fun h => by omega, fun h => by omega⟩, ?_⟩
    · unfold preD; rw [if_neg (by omega), List.append_nil]
    rintro out x ⟨h1, h2, h3, h4⟩
    have hol : out.length ≤ 21 := by
      have := congrArg List.length h1
      rw [List.length_append] at this; omega
    refine ⟨fun hx => ?_, fun hx => ?_⟩
    · have hx0 : x ≠ 0 := by simpa using hx
      obtain ⟨t1, t2, t3, t4⟩ := tq x
      have hpx : preD x.natAbs = Lib.decDigits x.natAbs := by unfold preD; rw [if_neg (by omega)]
      rw [hpx, dd_step _ (by omega), List.append_assoc] at h1
      have hwq : IntKind.i64.wrap (x.tdiv 10) = x.tdiv 10 := wrp (by omega) (by omega)
      have key : ∀ d : Int, d = (x.natAbs % 10 : Nat) → ((ofBytes [IntKind.u8.wrap (IntKind.i64.wrap (48 + d))]).length + out.length ≤ 4611686018427387904) ∧
          (preD (IntKind.i64.wrap (x.tdiv 10)).natAbs ++ (ofBytes [IntKind.u8.wrap (IntKind.i64.wrap (48 + d))] ++ out) = Lib.decDigits n.natAbs ∧ (IntKind.i64.wrap (x.tdiv 10)).natAbs ≤ n.natAbs ∧ (n < 0 → IntKind.i64.wrap (x.tdiv 10) ≤ 0) ∧ (0 < n → 0 ≤ IntKind.i64.wrap (x.tdiv 10))) ∧ (IntKind.i64.wrap (x.tdiv 10)).natAbs < x.natAbs := by
        intro d hd
        have hw : IntKind.u8.wrap (IntKind.i64.wrap (48 + d)) = 48 + d := by rw [wrp (by omega) (by omega), wu8 (by omega) (by omega)]
        have hb : ofBytes [IntKind.u8.wrap (IntKind.i64.wrap (48 + d))] = [UInt8.ofNat (48 + x.natAbs % 10)] := by
          rw [hw]
          unfold ofBytes
          simp only [List.map_cons, List.map_nil]
          rw [show (48 + d).toNat = 48 + x.natAbs % 10 by omega]
        rw [hwq, hb, t1]
        refine ⟨by simp; omega, ⟨h1, by omega, fun h => (t4 (h3 h)).1, fun h => (t3 (h4 h)).1⟩, by omega⟩
      refine ⟨fun hd => ?_, fun hd => ?_⟩
      · have hd := of_decide_eq_true hd
        exact key _ (by rw [wrp (by omega) (by omega)]; omega)
      · have hd := of_decide_eq_false hd
        exact key _ (by omega)
    · have hx0 : x = 0 := by simpa using hx
      subst hx0
      have h1 : out = Lib.decDigits n.natAbs := by simpa [preD] using h1
      subst h1
      unfold Lib.itoa
      refine ⟨fun hn => ⟨by simp; omega, ?_⟩, fun hn => ?_⟩
      · have hn := of_decide_eq_true hn
        rw [if_pos hn]; rfl
      · have hn := of_decide_eq_false hn
        rw [if_neg hn, show n.natAbs = n.toNat by omega]
theorem v55 (n : Int) (hp : preI n) : VC55 n (fun r => r = token_Digits n) := by
  refine ⟨hp, ?_⟩
  simp only [forall_eq']; rfl
end Go.Proofs.YtkgcdoeldilhaaaGreatDoor
