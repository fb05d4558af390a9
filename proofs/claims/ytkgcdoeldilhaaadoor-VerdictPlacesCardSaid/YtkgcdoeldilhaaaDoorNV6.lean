/- The document's numerals and numbers. -/
import Derived.Test.YtkgcdoeldilhaaaDoorNV5
set_option linter.all false
namespace Go.Proofs.YtkgcdoeldilhaaaDoor
open Go Go.Sv Go.Pu
def preD (u : Nat) : Bs := if u = 0 then [] else Lib.decDigits u
theorem dd_step (u : Nat) (h : 0 < u) : Lib.decDigits u = preD (u / 10) ++ [UInt8.ofNat (48 + u % 10)] := by
  rw [Lib.decDigits]
  unfold preD
  by_cases h2 : u < 10
  · rw [dif_pos h2, if_pos (by omega), Nat.mod_eq_of_lt h2]; rfl
  · rw [dif_neg h2, if_neg (by omega)]
theorem tq (x : Int) : (x.tdiv 10).natAbs = x.natAbs / 10 ∧ (x.tmod 10).natAbs = x.natAbs % 10 ∧ (0 ≤ x → 0 ≤ x.tdiv 10 ∧ 0 ≤ x.tmod 10) ∧ (x ≤ 0 → x.tdiv 10 ≤ 0 ∧ x.tmod 10 ≤ 0) := by
  refine ⟨by rw [Int.natAbs_tdiv]; rfl, by rw [Int.natAbs_tmod]; rfl, fun h => ?_, fun h => ?_⟩
  · rw [Int.tdiv_eq_ediv_of_nonneg h, Int.tmod_eq_emod_of_nonneg h]; omega
  · obtain ⟨y, rfl⟩ : ∃ y : Int, x = -y := ⟨-x, by omega⟩
    rw [Int.neg_tdiv, Int.neg_tmod, Int.tdiv_eq_ediv_of_nonneg (by omega), Int.tmod_eq_emod_of_nonneg (by omega)]; omega
theorem v27 (n : Int) (hp : preI n) : VC27 n (fun r => r = token_Digits n) := by
  refine ⟨hp, ?_⟩
  simp only [forall_eq']; rfl
theorem wr_step (S d : Int) : IntKind.i64.wrap (IntKind.i64.wrap (10 * IntKind.i64.wrap S) + d) = IntKind.i64.wrap (10 * S + d) := by
  simp only [wdef]; omega
theorem wr_range (S : Int) : -9223372036854775808 ≤ IntKind.i64.wrap S ∧ IntKind.i64.wrap S ≤ 9223372036854775807 := by rw [wdef]; omega
theorem gi_drop {s : Bs} {f i : Int} (h0 : 0 ≤ f) (h1 : f ≤ i) (h2 : i < s.length) : gi (s.drop f.toNat) (i - f) = gi s i := by
  rw [gi_cast (by omega) (by rw [List.length_drop]; omega), gi_cast (by omega) h2, List.getElem_drop]
  congr 1
  omega
end Go.Proofs.YtkgcdoeldilhaaaDoor
