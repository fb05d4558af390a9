/- The conditions of the functions, in terms of their callees. Definitions. -/
import Derived.Test.YtkgcdoeldilhaaaGreatDoorNSpec
set_option linter.all false
namespace Go.Proofs.YtkgcdoeldilhaaaGreatDoor
open Go Go.Sv
/-- replevin/replevinref05.gap -/
def VC51 (b_ : Int) (Q : Bool → Prop) : Prop :=
  Q (((b_ == 32) || (b_ == 9)) || (b_ == 13))
def VC85 (s_ : List UInt8) (prefix_ : List UInt8) (Q : Bool → Prop) : Prop :=
  ((decide (((s_.length : Nat) : Int) ≥ ((prefix_.length : Nat) : Int))) = true →
  ((0 : Int) ≤ ((prefix_.length : Nat) : Int) ∧ ((prefix_.length : Nat) : Int) ≤ (s_.length : Int)) ∧
  Q ((s_.take ((prefix_.length : Nat) : Int).toNat) == prefix_)) ∧
  ((decide (((s_.length : Nat) : Int) ≥ ((prefix_.length : Nat) : Int))) = false →
  Q false)
def VC69 (s_ : List UInt8) (prefix_ : List UInt8) (Q : Bool → Prop) : Prop :=
  (preTwo s_ prefix_) ∧
  ∀ r104, internal_stringslite_HasPrefix s_ prefix_ = r104 →
  Q r104
def VC113 (s_ : List UInt8) (prefix_ : List UInt8) (Q : (List UInt8) × Bool → Prop) : Prop :=
  (preTwo s_ prefix_) ∧
  ∀ r104, internal_stringslite_HasPrefix s_ prefix_ = r104 →
  ((!r104) = true →
  Q (s_, false)) ∧
  ((!r104) = false →
  ((0 : Int) ≤ ((prefix_.length : Nat) : Int) ∧ ((prefix_.length : Nat) : Int) ≤ (s_.length : Int)) ∧
  Q ((s_.drop ((prefix_.length : Nat) : Int).toNat), true))
def VC107 (s_ : List UInt8) (prefix_ : List UInt8) (Q : (List UInt8) × Bool → Prop) : Prop :=
  (preTwo s_ prefix_) ∧
  ∀ r104, internal_stringslite_CutPrefix s_ prefix_ = r104 →
  Q (r104.1, r104.2)
def VC68 (s_ : List UInt8) (sep : List UInt8) (Q : (List UInt8) × (List UInt8) × Bool → Prop) : Prop :=
  (preOne s_ sep) ∧
  ∀ r104, internal_stringslite_Index s_ sep = r104 →
  ((decide (r104 ≥ 0)) = true →
  ((0 : Int) ≤ r104 ∧ r104 ≤ (s_.length : Int)) ∧
  ((0 : Int) ≤ (IntKind.i64.wrap (r104 + ((sep.length : Nat) : Int))) ∧ (IntKind.i64.wrap (r104 + ((sep.length : Nat) : Int))) ≤ (s_.length : Int)) ∧
  Q ((s_.take r104.toNat), (s_.drop (IntKind.i64.wrap (r104 + ((sep.length : Nat) : Int))).toNat), true)) ∧
  ((decide (r104 ≥ 0)) = false →
  Q (s_, ([] : List UInt8), false))
def VC44 (s_ : List UInt8) (sep : List UInt8) (Q : (List UInt8) × (List UInt8) × Bool → Prop) : Prop :=
  (preOne s_ sep) ∧
  ∀ r104, internal_stringslite_Cut s_ sep = r104 →
  Q (r104.1, r104.2.1, r104.2.2)
def VC45_J1 (s_ : List UInt8) (line : Int) (at_ : Int) (I1_0 : (List Token_Token) → Int → Int → Prop) (μ1_0 : (List Token_Token) → Int → Int → Nat) (I1_1 : (List Token_Token) → Int → Int → Prop) (μ1_1 : (List Token_Token) → Int → Int → Nat) (out_101 : List Token_Token) (i_105 : Int) (from_106 : Int) (out_113 : List Token_Token) (x_117 : Bool) : Prop :=
  (x_117 = true →
  I1_1 out_113 (IntKind.i64.wrap (i_105 + 1)) from_106 ∧ μ1_1 out_113 (IntKind.i64.wrap (i_105 + 1)) from_106 < μ1_1 out_101 i_105 from_106) ∧
  (x_117 = false →
  ((0 : Int) ≤ from_106 ∧ from_106 ≤ (IntKind.i64.wrap (i_105 + 1)) ∧ (IntKind.i64.wrap (i_105 + 1)) ≤ (s_.length : Int)) ∧
  (out_113.length + [(⟨line, IntKind.i64.wrap (at_ + from_106), ((s_.take (IntKind.i64.wrap (i_105 + 1)).toNat).drop from_106.toNat)⟩ : Token_Token)].length ≤ 1099511627776) ∧
  I1_0 (out_113 ++ [(⟨line, IntKind.i64.wrap (at_ + from_106), ((s_.take (IntKind.i64.wrap (i_105 + 1)).toNat).drop from_106.toNat)⟩ : Token_Token)]) (IntKind.i64.wrap (i_105 + 1)) from_106 ∧ μ1_0 (out_113 ++ [(⟨line, IntKind.i64.wrap (at_ + from_106), ((s_.take (IntKind.i64.wrap (i_105 + 1)).toNat).drop from_106.toNat)⟩ : Token_Token)]) (IntKind.i64.wrap (i_105 + 1)) from_106 < μ1_1 out_101 i_105 from_106)
def VC45_J2 (Q : ((List Token_Token)) → Prop) (I1_0 : (List Token_Token) → Int → Int → Prop) (x_133 : Bool) : Prop :=
  (x_133 = true →
  Q []) ∧
  (x_133 = false →
  I1_0 [] 0 0)
def VC45 (s_ : List UInt8) (line : Int) (at_ : Int) (Q : (List Token_Token) → Prop) : Prop :=
  ∃ (I1_0 : (List Token_Token) → Int → Int → Prop) (μ1_0 : (List Token_Token) → Int → Int → Nat) (I1_1 : (List Token_Token) → Int → Int → Prop) (μ1_1 : (List Token_Token) → Int → Int → Nat),
  (((s_ == ([99] : List UInt8)) = true →
  VC45_J2 Q I1_0 true) ∧
  ((s_ == ([99] : List UInt8)) = false →
  (preTwo s_ ([99, 32] : List UInt8)) ∧
  ∀ r137, strings_HasPrefix s_ ([99, 32] : List UInt8) = r137 →
  VC45_J2 Q I1_0 r137)) ∧
  (∀ (out_101 : List Token_Token) (i_105 : Int) (from_106 : Int), I1_0 out_101 i_105 from_106 →
  ((i_105 == ((s_.length : Nat) : Int)) = true →
  Q out_101) ∧
  ((i_105 == ((s_.length : Nat) : Int)) = false →
  ((0 : Int) ≤ i_105 ∧ i_105 < (s_.length : Int)) ∧
  ∀ r112, strings_IndexByte ([32, 9, 13] : List UInt8) ((gi s_ i_105).toNat : Int) = r112 →
  ((decide (r112 ≥ 0)) = true →
  I1_0 out_101 (IntKind.i64.wrap (i_105 + 1)) from_106 ∧ μ1_0 out_101 (IntKind.i64.wrap (i_105 + 1)) from_106 < μ1_0 out_101 i_105 from_106) ∧
  ((decide (r112 ≥ 0)) = false →
  I1_1 out_101 i_105 i_105 ∧ μ1_1 out_101 i_105 i_105 ≤ μ1_0 out_101 i_105 from_106))) ∧
  (∀ (out_101 : List Token_Token) (i_105 : Int) (from_106 : Int), I1_1 out_101 i_105 from_106 →
  ((decide ((IntKind.i64.wrap (i_105 + 1)) < ((s_.length : Nat) : Int))) = true →
  ((0 : Int) ≤ (IntKind.i64.wrap (i_105 + 1)) ∧ (IntKind.i64.wrap (i_105 + 1)) < (s_.length : Int)) ∧
  ∀ r130, strings_IndexByte ([32, 9, 13] : List UInt8) ((gi s_ (IntKind.i64.wrap (i_105 + 1))).toNat : Int) = r130 →
  VC45_J1 s_ line at_ I1_0 μ1_0 I1_1 μ1_1 out_101 i_105 from_106 out_101 (decide (r130 < 0))) ∧
  ((decide ((IntKind.i64.wrap (i_105 + 1)) < ((s_.length : Nat) : Int))) = false →
  VC45_J1 s_ line at_ I1_0 μ1_0 I1_1 μ1_1 out_101 i_105 from_106 out_101 false))
def VC17_J1 (Q : ((List (List Token_Token))) → Prop) (out_101 : List (List Token_Token)) : Prop :=
  Q out_101
def VC17 (s_ : List UInt8) (Q : (List (List Token_Token)) → Prop) : Prop :=
  ∃ (I1 : (List (List Token_Token)) → Int → Prop) (μ1 : (List (List Token_Token)) → Int → Nat), I1 [] 0 ∧ ∀ (out_107 : List (List Token_Token)) (at_111 : Int), I1 out_107 at_111 →
  ((decide (at_111 < ((s_.length : Nat) : Int))) = true →
  ((0 : Int) ≤ at_111 ∧ at_111 ≤ (s_.length : Int)) ∧
  (preOne (s_.drop at_111.toNat) ([10] : List UInt8)) ∧
  ∀ r115, strings_Cut (s_.drop at_111.toNat) ([10] : List UInt8) = r115 →
  (preTok r115.1 (IntKind.i64.wrap (((out_107.length : Nat) : Int) + 1)) at_111) ∧
  ∀ r119, token_tokens r115.1 (IntKind.i64.wrap (((out_107.length : Nat) : Int) + 1)) at_111 = r119 →
  ∀ (_ : sm r119),
  (out_107.length + [r119].length ≤ 1099511627776) ∧
  I1 (out_107 ++ [r119]) (IntKind.i64.wrap (at_111 + (IntKind.i64.wrap (((r115.1.length : Nat) : Int) + 1)))) ∧ μ1 (out_107 ++ [r119]) (IntKind.i64.wrap (at_111 + (IntKind.i64.wrap (((r115.1.length : Nat) : Int) + 1)))) < μ1 out_107 at_111) ∧
  ((decide (at_111 < ((s_.length : Nat) : Int))) = false →
  VC17_J1 Q out_107)
def VC24_J1 (Q : ((List (List Ref05_Token))) → Prop) (out_101 : List (List Ref05_Token)) : Prop :=
  Q out_101
def VC24_J4 (I1 : (List (List Ref05_Token)) → Int → Prop) (μ1 : (List (List Ref05_Token)) → Int → Nat) (out_107 : List (List Ref05_Token)) (at_111 : Int) (end_116 : Int) (out_122 : List (List Ref05_Token)) (row_126 : List Ref05_Token) : Prop :=
  (out_122.length + [row_126].length ≤ 1099511627776) ∧
  I1 (out_122 ++ [row_126]) (IntKind.i64.wrap (end_116 + 1)) ∧ μ1 (out_122 ++ [row_126]) (IntKind.i64.wrap (end_116 + 1)) < μ1 out_107 at_111
def VC24_J5 (I2 : (List (List Ref05_Token)) → (List Ref05_Token) → Int → Prop) (μ2 : (List (List Ref05_Token)) → (List Ref05_Token) → Int → Nat) (out_141 : List (List Ref05_Token)) (row_145 : List Ref05_Token) (i_149 : Int) (out_150 : List (List Ref05_Token)) (row_154 : List Ref05_Token) (i_158 : Int) : Prop :=
  I2 out_150 row_154 (IntKind.i64.wrap (i_158 + 1)) ∧ μ2 out_150 row_154 (IntKind.i64.wrap (i_158 + 1)) < μ2 out_141 row_145 i_149
def VC24_J6 (s_ : List UInt8) (I2 : (List (List Ref05_Token)) → (List Ref05_Token) → Int → Prop) (μ2 : (List (List Ref05_Token)) → (List Ref05_Token) → Int → Nat) (out_141 : List (List Ref05_Token)) (row_145 : List Ref05_Token) (i_149 : Int) (out_163 : List (List Ref05_Token)) (row_167 : List Ref05_Token) (k_171 : Int) : Prop :=
  ((0 : Int) ≤ i_149 ∧ i_149 ≤ k_171 ∧ k_171 ≤ (s_.length : Int)) ∧
  (row_167.length + [(⟨IntKind.i64.wrap (((out_163.length : Nat) : Int) + 1), i_149, ((s_.take k_171.toNat).drop i_149.toNat)⟩ : Ref05_Token)].length ≤ 1099511627776) ∧
  VC24_J5 I2 μ2 out_141 row_145 i_149 out_163 (row_167 ++ [(⟨IntKind.i64.wrap (((out_163.length : Nat) : Int) + 1), i_149, ((s_.take k_171.toNat).drop i_149.toNat)⟩ : Ref05_Token)]) k_171
def VC24_J7 (s_ : List UInt8) (I2 : (List (List Ref05_Token)) → (List Ref05_Token) → Int → Prop) (μ2 : (List (List Ref05_Token)) → (List Ref05_Token) → Int → Nat) (out_141 : List (List Ref05_Token)) (row_145 : List Ref05_Token) (i_149 : Int) (I3 : (List (List Ref05_Token)) → (List Ref05_Token) → Int → Prop) (μ3 : (List (List Ref05_Token)) → (List Ref05_Token) → Int → Nat) (out_181 : List (List Ref05_Token)) (row_185 : List Ref05_Token) (k_189 : Int) (out_190 : List (List Ref05_Token)) (row_194 : List Ref05_Token) (x_198 : Bool) : Prop :=
  (x_198 = true →
  I3 out_190 row_194 (IntKind.i64.wrap (k_189 + 1)) ∧ μ3 out_190 row_194 (IntKind.i64.wrap (k_189 + 1)) < μ3 out_181 row_185 k_189) ∧
  (x_198 = false →
  VC24_J6 s_ I2 μ2 out_141 row_145 i_149 out_190 row_194 k_189)
def VC24_J3 (s_ : List UInt8) (I1 : (List (List Ref05_Token)) → Int → Prop) (μ1 : (List (List Ref05_Token)) → Int → Nat) (out_107 : List (List Ref05_Token)) (at_111 : Int) (end_116 : Int) (out_117 : List (List Ref05_Token)) (remark_121 : Bool) : Prop :=
  ∃ (I2 : (List (List Ref05_Token)) → (List Ref05_Token) → Int → Prop) (μ2 : (List (List Ref05_Token)) → (List Ref05_Token) → Int → Nat), I2 out_117 [] at_111 ∧ ∀ (out_141 : List (List Ref05_Token)) (row_145 : List Ref05_Token) (i_149 : Int), I2 out_141 row_145 i_149 →
  (((decide (i_149 < end_116)) && (!remark_121)) = true →
  ((0 : Int) ≤ i_149 ∧ i_149 < (s_.length : Int)) ∧
  ∀ r162, ref05_gap ((gi s_ i_149).toNat : Int) = r162 →
  (r162 = true →
  VC24_J5 I2 μ2 out_141 row_145 i_149 out_141 row_145 i_149) ∧
  (r162 = false →
  ∃ (I3 : (List (List Ref05_Token)) → (List Ref05_Token) → Int → Prop) (μ3 : (List (List Ref05_Token)) → (List Ref05_Token) → Int → Nat), I3 out_141 row_145 i_149 ∧ ∀ (out_181 : List (List Ref05_Token)) (row_185 : List Ref05_Token) (k_189 : Int), I3 out_181 row_185 k_189 →
  ((decide (k_189 < end_116)) = true →
  ((0 : Int) ≤ k_189 ∧ k_189 < (s_.length : Int)) ∧
  ∀ r202, ref05_gap ((gi s_ k_189).toNat : Int) = r202 →
  VC24_J7 s_ I2 μ2 out_141 row_145 i_149 I3 μ3 out_181 row_185 k_189 out_181 row_185 (!r202)) ∧
  ((decide (k_189 < end_116)) = false →
  VC24_J7 s_ I2 μ2 out_141 row_145 i_149 I3 μ3 out_181 row_185 k_189 out_181 row_185 false))) ∧
  (((decide (i_149 < end_116)) && (!remark_121)) = false →
  VC24_J4 I1 μ1 out_107 at_111 end_116 out_141 row_145)
def VC24_J2 (s_ : List UInt8) (I1 : (List (List Ref05_Token)) → Int → Prop) (μ1 : (List (List Ref05_Token)) → Int → Nat) (out_107 : List (List Ref05_Token)) (at_111 : Int) (out_112 : List (List Ref05_Token)) (end_116 : Int) : Prop :=
  ((0 : Int) ≤ at_111 ∧ at_111 ≤ end_116 ∧ end_116 ≤ (s_.length : Int)) ∧
  ((((s_.take end_116.toNat).drop at_111.toNat) == ([99] : List UInt8)) = true →
  VC24_J3 s_ I1 μ1 out_107 at_111 end_116 out_112 true) ∧
  ((((s_.take end_116.toNat).drop at_111.toNat) == ([99] : List UInt8)) = false →
  ((decide ((IntKind.i64.wrap (end_116 - at_111)) ≥ 2)) = true →
  ((0 : Int) ≤ at_111 ∧ at_111 ≤ (IntKind.i64.wrap (at_111 + 2)) ∧ (IntKind.i64.wrap (at_111 + 2)) ≤ (s_.length : Int)) ∧
  VC24_J3 s_ I1 μ1 out_107 at_111 end_116 out_112 (((s_.take (IntKind.i64.wrap (at_111 + 2)).toNat).drop at_111.toNat) == ([99, 32] : List UInt8))) ∧
  ((decide ((IntKind.i64.wrap (end_116 - at_111)) ≥ 2)) = false →
  VC24_J3 s_ I1 μ1 out_107 at_111 end_116 out_112 false))
def VC24_J8 (s_ : List UInt8) (I1 : (List (List Ref05_Token)) → Int → Prop) (μ1 : (List (List Ref05_Token)) → Int → Nat) (out_107 : List (List Ref05_Token)) (at_111 : Int) (I4 : (List (List Ref05_Token)) → Int → Prop) (μ4 : (List (List Ref05_Token)) → Int → Nat) (out_217 : List (List Ref05_Token)) (end_221 : Int) (out_222 : List (List Ref05_Token)) (x_226 : Bool) : Prop :=
  (x_226 = true →
  I4 out_222 (IntKind.i64.wrap (end_221 + 1)) ∧ μ4 out_222 (IntKind.i64.wrap (end_221 + 1)) < μ4 out_217 end_221) ∧
  (x_226 = false →
  VC24_J2 s_ I1 μ1 out_107 at_111 out_222 end_221)
def VC24 (s_ : List UInt8) (Q : (List (List Ref05_Token)) → Prop) : Prop :=
  ∃ (I1 : (List (List Ref05_Token)) → Int → Prop) (μ1 : (List (List Ref05_Token)) → Int → Nat), I1 [] 0 ∧ ∀ (out_107 : List (List Ref05_Token)) (at_111 : Int), I1 out_107 at_111 →
  ((decide (at_111 < ((s_.length : Nat) : Int))) = true →
  ∃ (I4 : (List (List Ref05_Token)) → Int → Prop) (μ4 : (List (List Ref05_Token)) → Int → Nat), I4 out_107 at_111 ∧ ∀ (out_217 : List (List Ref05_Token)) (end_221 : Int), I4 out_217 end_221 →
  ((decide (end_221 < ((s_.length : Nat) : Int))) = true →
  ((0 : Int) ≤ end_221 ∧ end_221 < (s_.length : Int)) ∧
  VC24_J8 s_ I1 μ1 out_107 at_111 I4 μ4 out_217 end_221 out_217 (((gi s_ end_221).toNat : Int) != 10)) ∧
  ((decide (end_221 < ((s_.length : Nat) : Int))) = false →
  VC24_J8 s_ I1 μ1 out_107 at_111 I4 μ4 out_217 end_221 out_217 false)) ∧
  ((decide (at_111 < ((s_.length : Nat) : Int))) = false →
  VC24_J1 Q out_107)
def VC100_J2 (Q : ((List UInt8) × Bool × Bool) → Prop) (r104 : (List UInt8) × Bool) : Prop :=
  Q (r104.1, r104.2, true)
def VC100_J3 (Q : ((List UInt8) × Bool × Bool) → Prop) (I1 : Int → Prop) (μ1 : Int → Nat) (i_106 : Int) (x_107 : Bool) : Prop :=
  (x_107 = true →
  Q (([] : List UInt8), false, false)) ∧
  (x_107 = false →
  I1 (IntKind.i64.wrap (i_106 + 1)) ∧ μ1 (IntKind.i64.wrap (i_106 + 1)) < μ1 i_106)
def VC100_J1 (Q : ((List UInt8) × Bool × Bool) → Prop) (r104 : (List UInt8) × Bool) (x_105 : Bool) : Prop :=
  (x_105 = true →
  Q (([] : List UInt8), false, false)) ∧
  (x_105 = false →
  ∃ (I1 : Int → Prop) (μ1 : Int → Nat), I1 0 ∧ ∀ (i_106 : Int), I1 i_106 →
  ((decide (i_106 < ((r104.1.length : Nat) : Int))) = true →
  ((0 : Int) ≤ i_106 ∧ i_106 < (r104.1.length : Int)) ∧
  ((decide (((gi r104.1 i_106).toNat : Int) < 48)) = true →
  VC100_J3 Q I1 μ1 i_106 true) ∧
  ((decide (((gi r104.1 i_106).toNat : Int) < 48)) = false →
  ((0 : Int) ≤ i_106 ∧ i_106 < (r104.1.length : Int)) ∧
  VC100_J3 Q I1 μ1 i_106 (decide (((gi r104.1 i_106).toNat : Int) > 57)))) ∧
  ((decide (i_106 < ((r104.1.length : Nat) : Int))) = false →
  VC100_J2 Q r104))
def VC100 (s_ : List UInt8) (Q : (List UInt8) × Bool × Bool → Prop) : Prop :=
  (preTwo s_ ([45] : List UInt8)) ∧
  ∀ r104, strings_CutPrefix s_ ([45] : List UInt8) = r104 →
  ((r104.1 == ([] : List UInt8)) = true →
  VC100_J1 Q r104 true) ∧
  ((r104.1 == ([] : List UInt8)) = false →
  ((0 : Int) ≤ 0 ∧ 0 < (r104.1.length : Int)) ∧
  VC100_J1 Q r104 ((((gi r104.1 0).toNat : Int) == 48) && ((decide (((r104.1.length : Nat) : Int) > 1)) || r104.2)))
def VC87_J2 (lo : Int) (hi : Int) (Q : (Int × Int) → Prop) (x_106 : Int) : Prop :=
  (((decide (x_106 < lo)) || (decide (x_106 > hi))) = true →
  Q (0, 7)) ∧
  (((decide (x_106 < lo)) || (decide (x_106 > hi))) = false →
  Q (x_106, 0))
def VC87_J1 (lo : Int) (hi : Int) (Q : (Int × Int) → Prop) (r104 : (List UInt8) × Bool × Bool) (n_105 : Int) : Prop :=
  (((decide (n_105 > 9223372036854775807)) && (!(r104.2.1 && (n_105 == 9223372036854775808)))) = true →
  Q (0, 7)) ∧
  (((decide (n_105 > 9223372036854775807)) && (!(r104.2.1 && (n_105 == 9223372036854775808)))) = false →
  (r104.2.1 = true →
  VC87_J2 lo hi Q (IntKind.i64.wrap (0 - (IntKind.i64.wrap n_105)))) ∧
  (r104.2.1 = false →
  VC87_J2 lo hi Q (IntKind.i64.wrap n_105)))
def VC87 (s_ : List UInt8) (lo : Int) (hi : Int) (Q : Int × Int → Prop) : Prop :=
  (len1 s_) ∧
  ∀ r104, token_numeral s_ = r104 →
  ((!r104.2.2) = true →
  Q (0, 5)) ∧
  ((!r104.2.2) = false →
  ∃ (I1 : Int → Int → Prop) (μ1 : Int → Int → Nat), I1 0 0 ∧ ∀ (n_109 : Int) (i_110 : Int), I1 n_109 i_110 →
  ((decide (i_110 < ((r104.1.length : Nat) : Int))) = true →
  ((decide (n_109 > 1844674407370955160)) = true →
  Q (0, 7)) ∧
  ((decide (n_109 > 1844674407370955160)) = false →
  ((0 : Int) ≤ i_110 ∧ i_110 < (r104.1.length : Int)) ∧
  I1 (IntKind.u64.wrap ((IntKind.u64.wrap (10 * n_109)) + (IntKind.u64.wrap (IntKind.u8.wrap (((gi r104.1 i_110).toNat : Int) - 48))))) (IntKind.i64.wrap (i_110 + 1)) ∧ μ1 (IntKind.u64.wrap ((IntKind.u64.wrap (10 * n_109)) + (IntKind.u64.wrap (IntKind.u8.wrap (((gi r104.1 i_110).toNat : Int) - 48))))) (IntKind.i64.wrap (i_110 + 1)) < μ1 n_109 i_110)) ∧
  ((decide (i_110 < ((r104.1.length : Nat) : Int))) = false →
  VC87_J1 lo hi Q r104 n_109))
def VC55 (n_ : Int) (Q : (List UInt8) → Prop) : Prop :=
  (preI n_) ∧
  ∀ r104, strconv_Itoa n_ = r104 →
  Q r104
def VC57_J1 (n_ : Int) (Q : ((List UInt8)) → Prop) (out_101 : List UInt8) : Prop :=
  ((decide (n_ < 0)) = true →
  (([45] : List UInt8).length + out_101.length ≤ 4611686018427387904) ∧
  Q (([45] : List UInt8) ++ out_101)) ∧
  ((decide (n_ < 0)) = false →
  Q out_101)
def VC57_J2 (I1 : (List UInt8) → Int → Prop) (μ1 : (List UInt8) → Int → Nat) (out_102 : List UInt8) (x_103 : Int) (d_104 : Int) : Prop :=
  ((ofBytes [IntKind.u8.wrap (IntKind.i64.wrap (48 + d_104))]).length + out_102.length ≤ 4611686018427387904) ∧
  I1 ((ofBytes [IntKind.u8.wrap (IntKind.i64.wrap (48 + d_104))]) ++ out_102) (IntKind.i64.wrap ((x_103).tdiv 10)) ∧ μ1 ((ofBytes [IntKind.u8.wrap (IntKind.i64.wrap (48 + d_104))]) ++ out_102) (IntKind.i64.wrap ((x_103).tdiv 10)) < μ1 out_102 x_103
def VC57 (n_ : Int) (Q : (List UInt8) → Prop) : Prop :=
  ((n_ == 0) = true →
  Q ([48] : List UInt8)) ∧
  ((n_ == 0) = false →
  ∃ (I1 : (List UInt8) → Int → Prop) (μ1 : (List UInt8) → Int → Nat), I1 ([] : List UInt8) n_ ∧ ∀ (out_102 : List UInt8) (x_103 : Int), I1 out_102 x_103 →
  ((x_103 != 0) = true →
  ((decide (((x_103).tmod 10) < 0)) = true →
  VC57_J2 I1 μ1 out_102 x_103 (IntKind.i64.wrap (0 - ((x_103).tmod 10)))) ∧
  ((decide (((x_103).tmod 10) < 0)) = false →
  VC57_J2 I1 μ1 out_102 x_103 ((x_103).tmod 10))) ∧
  ((x_103 != 0) = false →
  VC57_J1 n_ Q out_102))
def VC52_J4 (s_ : List UInt8) (lo : Int) (hi : Int) (Q : (Int × Int) → Prop) (n_103 : Int) : Prop :=
  (preI n_103) ∧
  ∀ r107, ref05_Digits n_103 = r107 →
  ((((!(r107 == s_)) || (decide (n_103 < lo))) || (decide (n_103 > hi))) = true →
  Q (0, 7)) ∧
  ((((!(r107 == s_)) || (decide (n_103 < lo))) || (decide (n_103 > hi))) = false →
  Q (n_103, 0))
def VC52_J5 (I1 : Int → Int → Prop) (μ1 : Int → Int → Nat) (n_108 : Int) (i_109 : Int) (d_110 : Int) : Prop :=
  I1 (IntKind.i64.wrap ((IntKind.i64.wrap (10 * n_108)) + d_110)) (IntKind.i64.wrap (i_109 + 1)) ∧ μ1 (IntKind.i64.wrap ((IntKind.i64.wrap (10 * n_108)) + d_110)) (IntKind.i64.wrap (i_109 + 1)) < μ1 n_108 i_109
def VC52_J3 (s_ : List UInt8) (lo : Int) (hi : Int) (Q : (Int × Int) → Prop) (from_101 : Int) : Prop :=
  ((decide ((IntKind.i64.wrap (((s_.length : Nat) : Int) - from_101)) > 19)) = true →
  Q (0, 7)) ∧
  ((decide ((IntKind.i64.wrap (((s_.length : Nat) : Int) - from_101)) > 19)) = false →
  ∃ (I1 : Int → Int → Prop) (μ1 : Int → Int → Nat), I1 0 from_101 ∧ ∀ (n_108 : Int) (i_109 : Int), I1 n_108 i_109 →
  ((decide (i_109 < ((s_.length : Nat) : Int))) = true →
  ((0 : Int) ≤ i_109 ∧ i_109 < (s_.length : Int)) ∧
  ((from_101 == 1) = true →
  VC52_J5 I1 μ1 n_108 i_109 (IntKind.i64.wrap (0 - (IntKind.i64.wrap ((IntKind.i64.wrap ((gi s_ i_109).toNat : Int)) - 48))))) ∧
  ((from_101 == 1) = false →
  VC52_J5 I1 μ1 n_108 i_109 (IntKind.i64.wrap ((IntKind.i64.wrap ((gi s_ i_109).toNat : Int)) - 48)))) ∧
  ((decide (i_109 < ((s_.length : Nat) : Int))) = false →
  VC52_J4 s_ lo hi Q n_108))
def VC52_J6 (Q : (Int × Int) → Prop) (I2 : Int → Prop) (μ2 : Int → Nat) (i_117 : Int) (x_118 : Bool) : Prop :=
  (x_118 = true →
  Q (0, 5)) ∧
  (x_118 = false →
  I2 (IntKind.i64.wrap (i_117 + 1)) ∧ μ2 (IntKind.i64.wrap (i_117 + 1)) < μ2 i_117)
def VC52_J2 (s_ : List UInt8) (lo : Int) (hi : Int) (Q : (Int × Int) → Prop) (from_101 : Int) (x_102 : Bool) : Prop :=
  (x_102 = true →
  Q (0, 5)) ∧
  (x_102 = false →
  ∃ (I2 : Int → Prop) (μ2 : Int → Nat), I2 from_101 ∧ ∀ (i_117 : Int), I2 i_117 →
  ((decide (i_117 < ((s_.length : Nat) : Int))) = true →
  ((0 : Int) ≤ i_117 ∧ i_117 < (s_.length : Int)) ∧
  ((decide (((gi s_ i_117).toNat : Int) < 48)) = true →
  VC52_J6 Q I2 μ2 i_117 true) ∧
  ((decide (((gi s_ i_117).toNat : Int) < 48)) = false →
  ((0 : Int) ≤ i_117 ∧ i_117 < (s_.length : Int)) ∧
  VC52_J6 Q I2 μ2 i_117 (decide (((gi s_ i_117).toNat : Int) > 57)))) ∧
  ((decide (i_117 < ((s_.length : Nat) : Int))) = false →
  VC52_J3 s_ lo hi Q from_101))
def VC52_J1 (s_ : List UInt8) (lo : Int) (hi : Int) (Q : (Int × Int) → Prop) (from_101 : Int) : Prop :=
  ((from_101 == ((s_.length : Nat) : Int)) = true →
  VC52_J2 s_ lo hi Q from_101 true) ∧
  ((from_101 == ((s_.length : Nat) : Int)) = false →
  ((0 : Int) ≤ from_101 ∧ from_101 < (s_.length : Int)) ∧
  VC52_J2 s_ lo hi Q from_101 ((((gi s_ from_101).toNat : Int) == 48) && (decide (((s_.length : Nat) : Int) > 1))))
def VC52_J7 (s_ : List UInt8) (lo : Int) (hi : Int) (Q : (Int × Int) → Prop) (x_127 : Bool) : Prop :=
  (x_127 = true →
  VC52_J1 s_ lo hi Q 1) ∧
  (x_127 = false →
  VC52_J1 s_ lo hi Q 0)
def VC52 (s_ : List UInt8) (lo : Int) (hi : Int) (Q : Int × Int → Prop) : Prop :=
  ((decide (((s_.length : Nat) : Int) > 0)) = true →
  ((0 : Int) ≤ 0 ∧ 0 < (s_.length : Int)) ∧
  VC52_J7 s_ lo hi Q (((gi s_ 0).toNat : Int) == 45)) ∧
  ((decide (((s_.length : Nat) : Int) > 0)) = false →
  VC52_J7 s_ lo hi Q false)
def VC103 (n_ : Int) (vars : Int) (Q : Bool → Prop) : Prop :=
  Q (((n_ != 0) && (decide (n_ ≥ (IntKind.i64.wrap (0 - vars))))) && (decide (n_ ≤ vars)))
def VC112 (lit : Int) (Q : Bool → Prop) : Prop :=
  (preIn lit 100000) ∧
  ∀ r104, lit_number_in lit 100000 = r104 →
  Q r104
def VC104 (lit : Int) (Q : Int → Prop) : Prop :=
  ∀ r104, lit_is lit = r104 →
  ((!r104) = true →
  Q 0) ∧
  ((!r104) = false →
  Q (if (IntKind.i64.wrap (0 - lit)) > lit then (IntKind.i64.wrap (0 - lit)) else lit))
def VC91 (lit : Int) (vars : Int) (Q : Int → Prop) : Prop :=
  (((decide (vars < 0)) || (decide (vars > 100000))) = true →
  Q 2) ∧
  (((decide (vars < 0)) || (decide (vars > 100000))) = false →
  (preIn lit vars) ∧
  ∀ r104, lit_number_in lit vars = r104 →
  ((!r104) = true →
  Q 10) ∧
  ((!r104) = false →
  Q 0))
def VC83_J1 (Q : Bool → Prop) : Prop :=
  Q false
def VC83 (l_ : List Int) (n_ : Int) (Q : Bool → Prop) : Prop :=
  ∀ (_ : sm l_),
  ∃ (I1 : Int → Prop) (μ1 : Int → Nat), I1 0 ∧ ∀ (i_102 : Int), I1 i_102 →
  ((decide (i_102 < ((l_.length : Nat) : Int))) = true →
  ((0 : Int) ≤ i_102 ∧ i_102 < (l_.length : Int)) ∧
  (((gi l_ i_102) == n_) = true →
  Q true) ∧
  (((gi l_ i_102) == n_) = false →
  I1 (IntKind.i64.wrap (i_102 + 1)) ∧ μ1 (IntKind.i64.wrap (i_102 + 1)) < μ1 i_102)) ∧
  ((decide (i_102 < ((l_.length : Nat) : Int))) = false →
  VC83_J1 Q)
def VC54_J1 (Q : Bool → Prop) : Prop :=
  Q true
def VC54 (a_ : List Int) (b_ : List Int) (Q : Bool → Prop) : Prop :=
  ∀ (_ : sm a_),
  ∀ (_ : sm b_),
  ((((a_.length : Nat) : Int) != ((b_.length : Nat) : Int)) = true →
  Q false) ∧
  ((((a_.length : Nat) : Int) != ((b_.length : Nat) : Int)) = false →
  ∃ (I1 : Int → Prop) (μ1 : Int → Nat), I1 0 ∧ ∀ (i_103 : Int), I1 i_103 →
  ((decide (i_103 < ((a_.length : Nat) : Int))) = true →
  ((0 : Int) ≤ i_103 ∧ i_103 < (a_.length : Int)) ∧
  ((0 : Int) ≤ i_103 ∧ i_103 < (b_.length : Int)) ∧
  (((gi a_ i_103) != (gi b_ i_103)) = true →
  Q false) ∧
  (((gi a_ i_103) != (gi b_ i_103)) = false →
  I1 (IntKind.i64.wrap (i_103 + 1)) ∧ μ1 (IntKind.i64.wrap (i_103 + 1)) < μ1 i_103)) ∧
  ((decide (i_103 < ((a_.length : Nat) : Int))) = false →
  VC54_J1 Q))
def VC67_J1 (Q : Bool → Prop) : Prop :=
  Q true
def VC67 (s1 : List Int) (s2 : List Int) (Q : Bool → Prop) : Prop :=
  ∀ (_ : sm s1),
  ∀ (_ : sm s2),
  ((((s1.length : Nat) : Int) != ((s2.length : Nat) : Int)) = true →
  Q false) ∧
  ((((s1.length : Nat) : Int) != ((s2.length : Nat) : Int)) = false →
  ∃ (I1 : Int → Prop) (μ1 : Int → Nat), I1 0 ∧ ∀ (x_103 : Int), I1 x_103 →
  ((decide (x_103 < ((s1.length : Nat) : Int))) = true →
  ((0 : Int) ≤ x_103 ∧ x_103 < (s1.length : Int)) ∧
  ((0 : Int) ≤ x_103 ∧ x_103 < (s2.length : Int)) ∧
  (((gi s1 x_103) != (gi s2 x_103)) = true →
  Q false) ∧
  (((gi s1 x_103) != (gi s2 x_103)) = false →
  I1 (IntKind.i64.wrap (x_103 + 1)) ∧ μ1 (IntKind.i64.wrap (x_103 + 1)) < μ1 x_103)) ∧
  ((decide (x_103 < ((s1.length : Nat) : Int))) = false →
  VC67_J1 Q))
def VC92_J1 (Q : ((List (Int × Int))) → Prop) (out_105 : List (Int × Int)) : Prop :=
  Q out_105
def VC92_J2 (I1 : (List (Int × Int)) → Int → Prop) (μ1 : (List (Int × Int)) → Int → Nat) (out_107 : List (Int × Int)) (x_110 : Int) (out_111 : List (Int × Int)) : Prop :=
  I1 out_111 (IntKind.i64.wrap (x_110 + 1)) ∧ μ1 out_111 (IntKind.i64.wrap (x_110 + 1)) < μ1 out_107 x_110
def VC92 (c_ : List Int) (Q : (List (Int × Int)) → Prop) : Prop :=
  ∀ (_ : sm c_),
  ∃ (I1 : (List (Int × Int)) → Int → Prop) (μ1 : (List (Int × Int)) → Int → Nat), I1 ([] : List (Int × Int)) 0 ∧ ∀ (out_107 : List (Int × Int)) (x_110 : Int), I1 out_107 x_110 →
  ((decide (x_110 < ((c_.length : Nat) : Int))) = true →
  ((0 : Int) ≤ x_110 ∧ x_110 < (c_.length : Int)) ∧
  ∀ r120, lit_Var (gi c_ x_110) = r120 →
  ((decide (r120 > 0)) = true →
  VC92_J2 I1 μ1 out_107 x_110 (mput out_107 (gi c_ x_110) (IntKind.i64.wrap (((mget out_107 (gi c_ x_110)).getD 0) + 1)))) ∧
  ((decide (r120 > 0)) = false →
  VC92_J2 I1 μ1 out_107 x_110 out_107)) ∧
  ((decide (x_110 < ((c_.length : Nat) : Int))) = false →
  VC92_J1 Q out_107)
def VC80_J1 (c_ : List Int) (Q : Int → Prop) : Prop :=
  (preSeen c_) ∧
  ∀ r105, clause_seen c_ = r105 →
  ((decide (((r105.length : Nat) : Int) < ((c_.length : Nat) : Int))) = true →
  Q 21) ∧
  ((decide (((r105.length : Nat) : Int) < ((c_.length : Nat) : Int))) = false →
  Q 0)
def VC80 (c_ : List Int) (vars : Int) (Q : Int → Prop) : Prop :=
  ∀ (_ : sm c_),
  (((decide (vars < 0)) || (decide (vars > 100000))) = true →
  Q 2) ∧
  (((decide (vars < 0)) || (decide (vars > 100000))) = false →
  ((decide (((c_.length : Nat) : Int) > 1000)) = true →
  Q 3) ∧
  ((decide (((c_.length : Nat) : Int) > 1000)) = false →
  ∃ (I1 : Int → Prop) (μ1 : Int → Nat), I1 0 ∧ ∀ (x_110 : Int), I1 x_110 →
  ((decide (x_110 < ((c_.length : Nat) : Int))) = true →
  ((0 : Int) ≤ x_110 ∧ x_110 < (c_.length : Int)) ∧
  ∀ r117, lit_Check (gi c_ x_110) vars = r117 →
  ((r117 != 0) = true →
  Q r117) ∧
  ((r117 != 0) = false →
  I1 (IntKind.i64.wrap (x_110 + 1)) ∧ μ1 (IntKind.i64.wrap (x_110 + 1)) < μ1 x_110)) ∧
  ((decide (x_110 < ((c_.length : Nat) : Int))) = false →
  VC80_J1 c_ Q)))
def VC93 (n_ : Int) (cap1 : Int) (Q : Bool → Prop) : Prop :=
  Q (((decide (n_ < cap1)) || (decide (n_ > 10000000))) || (n_ == 0))
def VC105_93_J1 (Q : Int → Prop) : Prop :=
  Q (-1)
def VC105_93 (s_ : List Int) (cap1 : Int) (Q : Int → Prop) : Prop :=
  ∀ (_ : sm s_),
  ∃ (I1 : Int → Prop) (μ1 : Int → Nat), I1 0 ∧ ∀ (x_102 : Int), I1 x_102 →
  ((decide (x_102 < ((s_.length : Nat) : Int))) = true →
  ((0 : Int) ≤ x_102 ∧ x_102 < (s_.length : Int)) ∧
  ∀ r109, proof_within_1 (gi s_ x_102) cap1 = r109 →
  (r109 = true →
  Q x_102) ∧
  (r109 = false →
  I1 (IntKind.i64.wrap (x_102 + 1)) ∧ μ1 (IntKind.i64.wrap (x_102 + 1)) < μ1 x_102)) ∧
  ((decide (x_102 < ((s_.length : Nat) : Int))) = false →
  VC105_93_J1 Q)
def VC94_93 (s_ : List Int) (cap1 : Int) (Q : Bool → Prop) : Prop :=
  ∀ (_ : sm s_),
  ∀ r104, slices_IndexFunc_int_int_proof_within_1 s_ cap1 = r104 →
  Q (decide (r104 ≥ 0))
def VC81 (l_ : List Int) (lo : Int) (Q : Bool → Prop) : Prop :=
  ∀ (_ : sm l_),
  ((decide (((l_.length : Nat) : Int) ≤ 1000)) = true →
  ∀ r104, slices_ContainsFunc_int_int_proof_within_1 l_ lo = r104 →
  Q (!r104)) ∧
  ((decide (((l_.length : Nat) : Int) ≤ 1000)) = false →
  Q false)
def VC61 (s_ : Api_Step) (Q : Bool → Prop) : Prop :=
  ∀ (_ : sm s_.Lits),
  ∀ (_ : sm s_.Hints),
  ((s_.Kind == 1) = true →
  (((decide (s_.Id ≥ 1)) && (decide (s_.Id ≤ 10000000))) = true →
  ∀ r104, clause_Check s_.Lits 100000 = r104 →
  ((r104 == 0) = true →
  ∀ r108, proof_within s_.Hints (-10000000) = r108 →
  Q r108) ∧
  ((r104 == 0) = false →
  Q false)) ∧
  (((decide (s_.Id ≥ 1)) && (decide (s_.Id ≤ 10000000))) = false →
  Q false)) ∧
  ((s_.Kind == 1) = false →
  ((s_.Kind == 2) = true →
  ((((decide (s_.Id ≥ 0)) && (decide (s_.Id ≤ 10000000))) && (((s_.Lits.length : Nat) : Int) == 0)) = true →
  ∀ r112, proof_within s_.Hints 1 = r112 →
  Q r112) ∧
  ((((decide (s_.Id ≥ 0)) && (decide (s_.Id ≤ 10000000))) && (((s_.Lits.length : Nat) : Int) == 0)) = false →
  Q false)) ∧
  ((s_.Kind == 2) = false →
  Q false))
def VC60 (s_ : Api_Step) (Q : Bool → Prop) : Prop :=
  ∀ (_ : sm s_.Lits),
  ∀ (_ : sm s_.Hints),
  ∀ r104, proof_may s_ = r104 →
  Q (!r104)
def VC59_60_J1 (Q : Int → Prop) : Prop :=
  Q (-1)
def VC59_60 (s_ : List Api_Step) (Q : Int → Prop) : Prop :=
  ∀ (_ : sm s_),
  ∃ (I1 : Int → Prop) (μ1 : Int → Nat), I1 0 ∧ ∀ (x_102 : Int), I1 x_102 →
  ((decide (x_102 < ((s_.length : Nat) : Int))) = true →
  ((0 : Int) ≤ x_102 ∧ x_102 < (s_.length : Int)) ∧
  ∀ (_ : sm ((gi s_ x_102).Lits)),
  ∀ (_ : sm ((gi s_ x_102).Hints)),
  ∀ r115, proof_Check_1 (gi s_ x_102) = r115 →
  (r115 = true →
  Q x_102) ∧
  (r115 = false →
  I1 (IntKind.i64.wrap (x_102 + 1)) ∧ μ1 (IntKind.i64.wrap (x_102 + 1)) < μ1 x_102)) ∧
  ((decide (x_102 < ((s_.length : Nat) : Int))) = false →
  VC59_60_J1 Q)
def VC36 (l_ : List Api_Step) (Q : Int × Int → Prop) : Prop :=
  ∀ (_ : sm l_),
  ((decide (((l_.length : Nat) : Int) > 1000000)) = true →
  Q (0, 3)) ∧
  ((decide (((l_.length : Nat) : Int) > 1000000)) = false →
  ∀ r104, slices_IndexFunc_api_Step_api_Step_proof_Check_1 l_ = r104 →
  ((decide (r104 ≥ 0)) = true →
  Q (r104, 2)) ∧
  ((decide (r104 ≥ 0)) = false →
  Q (((l_.length : Nat) : Int), 0)))
def VC75 (at_ : Int) (e_ : Int) (cap1 : Proof_line) (Q : Proof_line → Prop) : Prop :=
  ∀ (_ : sm cap1.rest),
  ((cap1.e == 0) = true →
  Q (⟨cap1.rest, at_, e_⟩ : Proof_line)) ∧
  ((cap1.e == 0) = false →
  Q cap1)
def VC73 (lo : Int) (hi : Int) (cap1 : Proof_line) (Q : Int × Int × Bool × Proof_line → Prop) : Prop :=
  ∀ (_ : sm cap1.rest),
  ((cap1.e != 0) = true →
  Q (0, 0, false, cap1)) ∧
  ((cap1.e != 0) = false →
  ((((cap1.rest.length : Nat) : Int) == 0) = true →
  ∀ r104, proof_line_wrong cap1.at_ 4 cap1 = r104 →
  ∀ (_ : sm r104.rest),
  Q (0, 0, false, r104)) ∧
  ((((cap1.rest.length : Nat) : Int) == 0) = false →
  ((0 : Int) ≤ 0 ∧ 0 < (cap1.rest.length : Int)) ∧
  ((0 : Int) ≤ 1 ∧ 1 ≤ (cap1.rest.length : Int)) ∧
  (preNum ((gi cap1.rest 0).Text) lo hi) ∧
  ∀ r118, token_Number ((gi cap1.rest 0).Text) lo hi = r118 →
  ((r118.2 != 0) = true →
  ∀ r122, proof_line_wrong ((gi cap1.rest 0).At) r118.2 (⟨cap1.rest.drop (1 : Int).toNat, cap1.at_, cap1.e⟩ : Proof_line) = r122 →
  ∀ (_ : sm r122.rest),
  Q (0, 0, false, r122)) ∧
  ((r118.2 != 0) = false →
  Q (r118.1, (gi cap1.rest 0).At, true, (⟨cap1.rest.drop (1 : Int).toNat, IntKind.i64.wrap (((gi cap1.rest 0).At) + ((((gi cap1.rest 0).Text).length : Nat) : Int)), cap1.e⟩ : Proof_line)))))
def VC101_J1 (Q : Int → Prop) : Prop :=
  Q (-1)
def VC101 (s_ : List Int) (v_ : Int) (Q : Int → Prop) : Prop :=
  ∀ (_ : sm s_),
  ∃ (I1 : Int → Prop) (μ1 : Int → Nat), I1 0 ∧ ∀ (x_102 : Int), I1 x_102 →
  ((decide (x_102 < ((s_.length : Nat) : Int))) = true →
  ((0 : Int) ≤ x_102 ∧ x_102 < (s_.length : Int)) ∧
  ((v_ == (gi s_ x_102)) = true →
  Q x_102) ∧
  ((v_ == (gi s_ x_102)) = false →
  I1 (IntKind.i64.wrap (x_102 + 1)) ∧ μ1 (IntKind.i64.wrap (x_102 + 1)) < μ1 x_102)) ∧
  ((decide (x_102 < ((s_.length : Nat) : Int))) = false →
  VC101_J1 Q)
def VC89 (s_ : List Int) (v_ : Int) (Q : Bool → Prop) : Prop :=
  ∀ (_ : sm s_),
  ∀ r104, slices_Index_int_int s_ v_ = r104 →
  Q (decide (r104 ≥ 0))
def VC88_J1 (n_ : Int) (Q : ((List Int) × Proof_line) → Prop) (x_101 : List Int) (x_105 : List Token_Token) (x_109 : Int) (x_110 : Int) : Prop :=
  (x_101.length + [n_].length ≤ 1099511627776) ∧
  Q (x_101 ++ [n_], (⟨x_105, x_109, x_110⟩ : Proof_line))
def VC88_J2 (n_ : Int) (at_ : Int) (cap3 : Proof_line) (Q : ((List Int) × Proof_line) → Prop) (x_130 : Bool) (x_131 : List Int) : Prop :=
  (x_130 = true →
  ∀ r139, proof_line_wrong at_ 21 (⟨cap3.rest, cap3.at_, cap3.e⟩ : Proof_line) = r139 →
  ∀ (_ : sm r139.rest),
  VC88_J1 n_ Q x_131 r139.rest r139.at_ r139.e) ∧
  (x_130 = false →
  VC88_J1 n_ Q x_131 cap3.rest cap3.at_ cap3.e)
def VC88 (n_ : Int) (at_ : Int) (cap1 : List Int) (cap3 : Proof_line) (cap4 : Bool) (Q : (List Int) × Proof_line → Prop) : Prop :=
  ∀ (_ : sm cap1),
  ∀ (_ : sm cap3.rest),
  ((decide (((cap1.length : Nat) : Int) ≥ 1000)) = true →
  ∀ r125, proof_line_wrong at_ 3 cap3 = r125 →
  ∀ (_ : sm r125.rest),
  VC88_J1 n_ Q cap1 r125.rest r125.at_ r125.e) ∧
  ((decide (((cap1.length : Nat) : Int) ≥ 1000)) = false →
  (cap4 = true →
  ∀ r147, slices_Contains_int_int cap1 n_ = r147 →
  VC88_J2 n_ at_ cap3 Q r147 cap1) ∧
  (cap4 = false →
  VC88_J2 n_ at_ cap3 Q false cap1))
def VC74 (lo : Int) (hi : Int) (twice : Bool) (cap1 : Proof_line) (Q : (List Int) × Proof_line → Prop) : Prop :=
  ∀ (_ : sm cap1.rest),
  ∃ (I1 : (List Int) → (List Token_Token) → Int → Int → Prop) (μ1 : (List Int) → (List Token_Token) → Int → Int → Nat), I1 [] cap1.rest cap1.at_ cap1.e ∧ ∀ (x_101 : List Int) (x_105 : List Token_Token) (x_109 : Int) (x_110 : Int), I1 x_101 x_105 x_109 x_110 →
  (preNu lo hi (⟨x_105, x_109, x_110⟩ : Proof_line)) ∧
  ∀ r114, proof_line_number lo hi (⟨x_105, x_109, x_110⟩ : Proof_line) = r114 →
  ∀ (_ : sm r114.2.2.2.rest),
  (((!r114.2.2.1) || (r114.1 == 0)) = true →
  Q (x_101, r114.2.2.2)) ∧
  (((!r114.2.2.1) || (r114.1 == 0)) = false →
  (preRw1 r114.1 r114.2.1 x_101 r114.2.2.2 twice) ∧
  ∀ r124, proof_line_row_1 r114.1 r114.2.1 x_101 r114.2.2.2 twice = r124 →
  ∀ (_ : sm r124.1),
  ∀ (_ : sm r124.2.rest),
  I1 r124.1 r124.2.rest r124.2.at_ r124.2.e ∧ μ1 r124.1 r124.2.rest r124.2.at_ r124.2.e < μ1 x_101 x_105 x_109 x_110)
def VC50_J2 (Q : (Api_Step × Proof_line) → Prop) (r109 : Int × Int × Bool × Proof_line) (x_114 : Int) (x_115 : List Int) (x_119 : List Int) (x_131 : List Token_Token) (x_135 : Int) (x_136 : Int) : Prop :=
  Q ((⟨x_114, r109.1, x_115, x_119⟩ : Api_Step), (⟨x_131, x_135, x_136⟩ : Proof_line))
def VC50_J1 (Q : (Api_Step × Proof_line) → Prop) (r109 : Int × Int × Bool × Proof_line) (x_114 : Int) (x_115 : List Int) (x_119 : List Int) (x_123 : List Token_Token) (x_127 : Int) (x_128 : Int) : Prop :=
  ((decide (((x_123.length : Nat) : Int) > 0)) = true →
  ((0 : Int) ≤ 0 ∧ 0 < (x_123.length : Int)) ∧
  ∀ r147, proof_line_wrong ((gi x_123 0).At) 6 (⟨x_123, x_127, x_128⟩ : Proof_line) = r147 →
  ∀ (_ : sm r147.rest),
  VC50_J2 Q r109 x_114 x_115 x_119 r147.rest r147.at_ r147.e) ∧
  ((decide (((x_123.length : Nat) : Int) > 0)) = false →
  VC50_J2 Q r109 x_114 x_115 x_119 x_123 x_127 x_128)
def VC50_J3 (cap1 : Proof_line) (Q : (Api_Step × Proof_line) → Prop) (r109 : Int × Int × Bool × Proof_line) (x_154 : Bool) : Prop :=
  (x_154 = true →
  ((0 : Int) ≤ 0 ∧ 0 < (r109.2.2.2.rest.length : Int)) ∧
  ((0 : Int) ≤ 1 ∧ 1 ≤ (r109.2.2.2.rest.length : Int)) ∧
  (preRow 0 10000000 false (⟨r109.2.2.2.rest.drop (1 : Int).toNat, IntKind.i64.wrap (((gi r109.2.2.2.rest 0).At) + 1), r109.2.2.2.e⟩ : Proof_line)) ∧
  ∀ r167, proof_line_row 0 10000000 false (⟨r109.2.2.2.rest.drop (1 : Int).toNat, IntKind.i64.wrap (((gi r109.2.2.2.rest 0).At) + 1), r109.2.2.2.e⟩ : Proof_line) = r167 →
  ∀ (_ : sm r167.1),
  ∀ (_ : sm r167.2.rest),
  VC50_J1 Q r109 2 [] r167.1 r167.2.rest r167.2.at_ r167.2.e) ∧
  (x_154 = false →
  (preRow (-100000) 100000 true (⟨r109.2.2.2.rest, r109.2.2.2.at_, r109.2.2.2.e⟩ : Proof_line)) ∧
  ∀ r186, proof_line_row (-100000) 100000 true (⟨r109.2.2.2.rest, r109.2.2.2.at_, r109.2.2.2.e⟩ : Proof_line) = r186 →
  ∀ (_ : sm r186.1),
  ∀ (_ : sm r186.2.rest),
  (preRow (-10000000) 10000000 false r186.2) ∧
  ∀ r197, proof_line_row (-10000000) 10000000 false r186.2 = r197 →
  ∀ (_ : sm r197.1),
  ∀ (_ : sm r197.2.rest),
  ((r109.1 == 0) = true →
  ∀ r208, proof_line_wrong ((gi cap1.rest 0).At) 7 r197.2 = r208 →
  ∀ (_ : sm r208.rest),
  VC50_J1 Q r109 1 r186.1 r197.1 r208.rest r208.at_ r208.e) ∧
  ((r109.1 == 0) = false →
  VC50_J1 Q r109 1 r186.1 r197.1 r197.2.rest r197.2.at_ r197.2.e))
def VC50 (cap1 : Proof_line) (Q : Api_Step × Proof_line → Prop) : Prop :=
  ∀ (_ : sm cap1.rest),
  ((0 : Int) ≤ 0 ∧ 0 < (cap1.rest.length : Int)) ∧
  (preNu 0 10000000 cap1) ∧
  ∀ r109, proof_line_number 0 10000000 cap1 = r109 →
  ∀ (_ : sm r109.2.2.2.rest),
  (((r109.2.2.2.e == 0) && (decide (((r109.2.2.2.rest.length : Nat) : Int) > 0))) = true →
  ((0 : Int) ≤ 0 ∧ 0 < (r109.2.2.2.rest.length : Int)) ∧
  VC50_J3 cap1 Q r109 (((gi r109.2.2.2.rest 0).Text) == ([100] : List UInt8))) ∧
  (((r109.2.2.2.e == 0) && (decide (((r109.2.2.2.rest.length : Nat) : Int) > 0))) = false →
  VC50_J3 cap1 Q r109 false)
def VC21_J1 (s_ : List UInt8) (Q : ((List Api_Step) × Int × Int) → Prop) (l_101 : List Api_Step) : Prop :=
  Q (l_101, ((s_.length : Nat) : Int), 0)
def VC21_J2 (I1 : (List Api_Step) → Int → Prop) (μ1 : (List Api_Step) → Int → Nat) (l_114 : List Api_Step) (x_119 : Int) (l_120 : List Api_Step) : Prop :=
  I1 l_120 (IntKind.i64.wrap (x_119 + 1)) ∧ μ1 l_120 (IntKind.i64.wrap (x_119 + 1)) < μ1 l_114 x_119
def VC21 (s_ : List UInt8) (Q : (List Api_Step) × Int × Int → Prop) : Prop :=
  ((decide (((s_.length : Nat) : Int) > 1000000)) = true →
  Q ([], 0, 3)) ∧
  ((decide (((s_.length : Nat) : Int) > 1000000)) = false →
  (len1 s_) ∧
  ∀ r110, token_Lines s_ = r110 →
  ∀ (_ : sm r110),
  ∃ (I1 : (List Api_Step) → Int → Prop) (μ1 : (List Api_Step) → Int → Nat), I1 [] 0 ∧ ∀ (l_114 : List Api_Step) (x_119 : Int), I1 l_114 x_119 →
  ((decide (x_119 < ((r110.length : Nat) : Int))) = true →
  ((0 : Int) ≤ x_119 ∧ x_119 < (r110.length : Int)) ∧
  ∀ (_ : sm (gi r110 x_119)),
  (((((gi r110 x_119).length : Nat) : Int) == 0) = true →
  VC21_J2 I1 μ1 l_114 x_119 l_114) ∧
  (((((gi r110 x_119).length : Nat) : Int) == 0) = false →
  ((decide (((l_114.length : Nat) : Int) ≥ 1000000)) = true →
  ((0 : Int) ≤ 0 ∧ 0 < ((gi r110 x_119).length : Int)) ∧
  Q ([], (gi (gi r110 x_119) 0).At, 3)) ∧
  ((decide (((l_114.length : Nat) : Int) ≥ 1000000)) = false →
  (preStep (⟨gi r110 x_119, 0, 0⟩ : Proof_line)) ∧
  ∀ r141, proof_line_step (⟨gi r110 x_119, 0, 0⟩ : Proof_line) = r141 →
  ∀ (_ : sm r141.1.Lits),
  ∀ (_ : sm r141.1.Hints),
  ∀ (_ : sm r141.2.rest),
  (l_114.length + [r141.1].length ≤ 1099511627776) ∧
  ((r141.2.e != 0) = true →
  Q ([], r141.2.at_, r141.2.e)) ∧
  ((r141.2.e != 0) = false →
  VC21_J2 I1 μ1 l_114 x_119 (l_114 ++ [r141.1]))))) ∧
  ((decide (x_119 < ((r110.length : Nat) : Int))) = false →
  VC21_J1 s_ Q l_114))
def VC77 (t_ : Ref05_Token) (Q : Int → Prop) : Prop :=
  Q (IntKind.i64.wrap (t_.At + ((t_.Text.length : Nat) : Int)))
def VC76_J1 (Q : Ref10_Row → Prop) (end_101 : Int) : Prop :=
  Q (⟨[], 0, end_101, 4⟩ : Ref10_Row)
def VC76_J2 (t_ : List Ref05_Token) (Q : Ref10_Row → Prop) (I1 : Int → Int → (List Int) → Int → Int → Int → Prop) (μ1 : Int → Int → (List Int) → Int → Int → Int → Nat) (end_105 : Int) (i_106 : Int) (x_107 : List Int) (x_111 : Int) (x_112 : Int) (x_113 : Int) (r122 : Int × Int) (x_142 : Bool) (x_143 : List Int) : Prop :=
  (x_142 = true →
  ((0 : Int) ≤ i_106 ∧ i_106 < (t_.length : Int)) ∧
  Q (⟨[], 0, (gi t_ i_106).At, 21⟩ : Ref10_Row)) ∧
  (x_142 = false →
  (x_143.length + [r122.1].length ≤ 1099511627776) ∧
  ((0 : Int) ≤ i_106 ∧ i_106 < (t_.length : Int)) ∧
  ((0 : Int) ≤ i_106 ∧ i_106 < (t_.length : Int)) ∧
  I1 (IntKind.i64.wrap (((gi t_ i_106).At) + ((((gi t_ i_106).Text).length : Nat) : Int))) (IntKind.i64.wrap (i_106 + 1)) (x_143 ++ [r122.1]) (IntKind.i64.wrap (x_111 + 1)) x_112 x_113 ∧ μ1 (IntKind.i64.wrap (((gi t_ i_106).At) + ((((gi t_ i_106).Text).length : Nat) : Int))) (IntKind.i64.wrap (i_106 + 1)) (x_143 ++ [r122.1]) (IntKind.i64.wrap (x_111 + 1)) x_112 x_113 < μ1 end_105 i_106 x_107 x_111 x_112 x_113)
def VC76 (t_ : List Ref05_Token) (k_ : Int) (end_ : Int) (lo : Int) (hi : Int) (twice : Bool) (Q : Ref10_Row → Prop) : Prop :=
  ∀ (_ : sm t_),
  ∃ (I1 : Int → Int → (List Int) → Int → Int → Int → Prop) (μ1 : Int → Int → (List Int) → Int → Int → Int → Nat), I1 end_ k_ [] 0 0 0 ∧ ∀ (end_105 : Int) (i_106 : Int) (x_107 : List Int) (x_111 : Int) (x_112 : Int) (x_113 : Int), I1 end_105 i_106 x_107 x_111 x_112 x_113 →
  ((decide (i_106 < ((t_.length : Nat) : Int))) = true →
  ((0 : Int) ≤ i_106 ∧ i_106 < (t_.length : Int)) ∧
  (preNum ((gi t_ i_106).Text) lo hi) ∧
  ∀ r122, ref05_Number ((gi t_ i_106).Text) lo hi = r122 →
  ((r122.2 != 0) = true →
  ((0 : Int) ≤ i_106 ∧ i_106 < (t_.length : Int)) ∧
  Q (⟨[], 0, (gi t_ i_106).At, r122.2⟩ : Ref10_Row)) ∧
  ((r122.2 != 0) = false →
  ((r122.1 == 0) = true →
  Q (⟨x_107, IntKind.i64.wrap (x_111 + 1), x_112, x_113⟩ : Ref10_Row)) ∧
  ((r122.1 == 0) = false →
  ((((x_107.length : Nat) : Int) == 1000) = true →
  ((0 : Int) ≤ i_106 ∧ i_106 < (t_.length : Int)) ∧
  Q (⟨[], 0, (gi t_ i_106).At, 3⟩ : Ref10_Row)) ∧
  ((((x_107.length : Nat) : Int) == 1000) = false →
  (twice = true →
  ∀ r180, ref01_Has x_107 r122.1 = r180 →
  VC76_J2 t_ Q I1 μ1 end_105 i_106 x_107 x_111 x_112 x_113 r122 r180 x_107) ∧
  (twice = false →
  VC76_J2 t_ Q I1 μ1 end_105 i_106 x_107 x_111 x_112 x_113 r122 false x_107))))) ∧
  ((decide (i_106 < ((t_.length : Nat) : Int))) = false →
  VC76_J1 Q end_105)
def VC53_J1 (t_ : List Ref05_Token) (Q : (Api_Step × Int × Int) → Prop) (r109 : Int × Int) (next_120 : Int) (x_121 : Int) (x_122 : List Int) (x_126 : List Int) : Prop :=
  ((decide (next_120 < ((t_.length : Nat) : Int))) = true →
  ((0 : Int) ≤ next_120 ∧ next_120 < (t_.length : Int)) ∧
  Q ((⟨x_121, r109.1, x_122, x_126⟩ : Api_Step), (gi t_ next_120).At, 6)) ∧
  ((decide (next_120 < ((t_.length : Nat) : Int))) = false →
  Q ((⟨x_121, r109.1, x_122, x_126⟩ : Api_Step), 0, 0))
def VC53_J2 (t_ : List Ref05_Token) (Q : (Api_Step × Int × Int) → Prop) (r109 : Int × Int) (x_142 : Bool) : Prop :=
  (x_142 = true →
  ((0 : Int) ≤ 1 ∧ 1 < (t_.length : Int)) ∧
  (preBh (gi t_ 1)) ∧
  ∀ r149, ref10_behind (gi t_ 1) = r149 →
  (preRr t_ 2 r149 0 10000000 false) ∧
  ∀ r153, ref10_row t_ 2 r149 0 10000000 false = r153 →
  ∀ (_ : sm r153.L),
  ((r153.E != 0) = true →
  Q ((⟨2, r109.1, [], []⟩ : Api_Step), r153.At, r153.E)) ∧
  ((r153.E != 0) = false →
  VC53_J1 t_ Q r109 (IntKind.i64.wrap (2 + r153.Taken)) 2 [] r153.L)) ∧
  (x_142 = false →
  ((0 : Int) ≤ 0 ∧ 0 < (t_.length : Int)) ∧
  (preBh (gi t_ 0)) ∧
  ∀ r173, ref10_behind (gi t_ 0) = r173 →
  (preRr t_ 1 r173 (-100000) 100000 true) ∧
  ∀ r177, ref10_row t_ 1 r173 (-100000) 100000 true = r177 →
  ∀ (_ : sm r177.L),
  ((r177.E != 0) = true →
  Q ((⟨1, r109.1, [], []⟩ : Api_Step), r177.At, r177.E)) ∧
  ((r177.E != 0) = false →
  ((0 : Int) ≤ (IntKind.i64.wrap ((IntKind.i64.wrap (1 + r177.Taken)) - 1)) ∧ (IntKind.i64.wrap ((IntKind.i64.wrap (1 + r177.Taken)) - 1)) < (t_.length : Int)) ∧
  (preBh (gi t_ (IntKind.i64.wrap ((IntKind.i64.wrap (1 + r177.Taken)) - 1)))) ∧
  ∀ r191, ref10_behind (gi t_ (IntKind.i64.wrap ((IntKind.i64.wrap (1 + r177.Taken)) - 1))) = r191 →
  (preRr t_ (IntKind.i64.wrap (1 + r177.Taken)) r191 (-10000000) 10000000 false) ∧
  ∀ r195, ref10_row t_ (IntKind.i64.wrap (1 + r177.Taken)) r191 (-10000000) 10000000 false = r195 →
  ∀ (_ : sm r195.L),
  ((r195.E != 0) = true →
  Q ((⟨1, r109.1, [], []⟩ : Api_Step), r195.At, r195.E)) ∧
  ((r195.E != 0) = false →
  ((r109.1 == 0) = true →
  ((0 : Int) ≤ 0 ∧ 0 < (t_.length : Int)) ∧
  Q ((⟨1, r109.1, r177.L, r195.L⟩ : Api_Step), (gi t_ 0).At, 7)) ∧
  ((r109.1 == 0) = false →
  VC53_J1 t_ Q r109 (IntKind.i64.wrap ((IntKind.i64.wrap (1 + r177.Taken)) + r195.Taken)) 1 r177.L r195.L))))
def VC53 (t_ : List Ref05_Token) (Q : Api_Step × Int × Int → Prop) : Prop :=
  ∀ (_ : sm t_),
  ((0 : Int) ≤ 0 ∧ 0 < (t_.length : Int)) ∧
  (preNum ((gi t_ 0).Text) 0 10000000) ∧
  ∀ r109, ref05_Number ((gi t_ 0).Text) 0 10000000 = r109 →
  ((r109.2 != 0) = true →
  ((0 : Int) ≤ 0 ∧ 0 < (t_.length : Int)) ∧
  Q ((⟨0, 0, [], []⟩ : Api_Step), (gi t_ 0).At, r109.2)) ∧
  ((r109.2 != 0) = false →
  ((decide (((t_.length : Nat) : Int) > 1)) = true →
  ((0 : Int) ≤ 1 ∧ 1 < (t_.length : Int)) ∧
  VC53_J2 t_ Q r109 (((gi t_ 1).Text) == ([100] : List UInt8))) ∧
  ((decide (((t_.length : Nat) : Int) > 1)) = false →
  VC53_J2 t_ Q r109 false))
def VC28_J1 (s_ : List UInt8) (Q : ((List Api_Step) × Int × Int) → Prop) (out_108 : List Api_Step) : Prop :=
  Q (out_108, ((s_.length : Nat) : Int), 0)
def VC28_J2 (I1 : (List Api_Step) → Int → Prop) (μ1 : (List Api_Step) → Int → Nat) (out_114 : List Api_Step) (i_119 : Int) (out_120 : List Api_Step) : Prop :=
  I1 out_120 (IntKind.i64.wrap (i_119 + 1)) ∧ μ1 out_120 (IntKind.i64.wrap (i_119 + 1)) < μ1 out_114 i_119
def VC28 (s_ : List UInt8) (Q : (List Api_Step) × Int × Int → Prop) : Prop :=
  ((decide (((s_.length : Nat) : Int) > 1000000)) = true →
  Q ([], 0, 3)) ∧
  ((decide (((s_.length : Nat) : Int) > 1000000)) = false →
  (len1 s_) ∧
  ∀ r104, ref05_Lines s_ = r104 →
  ∀ (_ : sm r104),
  ∃ (I1 : (List Api_Step) → Int → Prop) (μ1 : (List Api_Step) → Int → Nat), I1 [] 0 ∧ ∀ (out_114 : List Api_Step) (i_119 : Int), I1 out_114 i_119 →
  ((decide (i_119 < ((r104.length : Nat) : Int))) = true →
  ((0 : Int) ≤ i_119 ∧ i_119 < (r104.length : Int)) ∧
  ∀ (_ : sm (gi r104 i_119)),
  (((((gi r104 i_119).length : Nat) : Int) == 0) = true →
  VC28_J2 I1 μ1 out_114 i_119 out_114) ∧
  (((((gi r104 i_119).length : Nat) : Int) == 0) = false →
  ((((out_114.length : Nat) : Int) == 1000000) = true →
  ((0 : Int) ≤ i_119 ∧ i_119 < (r104.length : Int)) ∧
  ∀ (_ : sm (gi r104 i_119)),
  ((0 : Int) ≤ 0 ∧ 0 < ((gi r104 i_119).length : Int)) ∧
  Q ([], (gi (gi r104 i_119) 0).At, 3)) ∧
  ((((out_114.length : Nat) : Int) == 1000000) = false →
  ((0 : Int) ≤ i_119 ∧ i_119 < (r104.length : Int)) ∧
  ∀ (_ : sm (gi r104 i_119)),
  (preRs (gi r104 i_119)) ∧
  ∀ r153, ref10_step (gi r104 i_119) = r153 →
  ∀ (_ : sm r153.1.Lits),
  ∀ (_ : sm r153.1.Hints),
  ((r153.2.2 != 0) = true →
  Q ([], r153.2.1, r153.2.2)) ∧
  ((r153.2.2 != 0) = false →
  (out_114.length + [r153.1].length ≤ 1099511627776) ∧
  VC28_J2 I1 μ1 out_114 i_119 (out_114 ++ [r153.1]))))) ∧
  ((decide (i_119 < ((r104.length : Nat) : Int))) = false →
  VC28_J1 s_ Q out_114))
def VC79_J1 (Q : ((List Int)) → Prop) (out_101 : List Int) : Prop :=
  (out_101.length + [48].length ≤ 1099511627776) ∧
  Q (out_101 ++ [48])
def VC79 (p_ : Api_Step) (out : List Int) (l_ : List Int) (Q : (List Int) → Prop) : Prop :=
  ∀ (_ : sm p_.Lits),
  ∀ (_ : sm p_.Hints),
  ∀ (_ : sm out),
  ∀ (_ : sm l_),
  ∃ (I1 : (List Int) → Int → Prop) (μ1 : (List Int) → Int → Nat), I1 out 0 ∧ ∀ (out_114 : List Int) (x_119 : Int), I1 out_114 x_119 →
  ((decide (x_119 < ((l_.length : Nat) : Int))) = true →
  ((0 : Int) ≤ x_119 ∧ x_119 < (l_.length : Int)) ∧
  (preI (gi l_ x_119)) ∧
  ∀ r126, token_Digits (gi l_ x_119) = r126 →
  (out_114.length + r126.length ≤ 1099511627776) ∧
  ((out_114 ++ toI r126).length + [32].length ≤ 1099511627776) ∧
  I1 ((out_114 ++ toI r126) ++ [32]) (IntKind.i64.wrap (x_119 + 1)) ∧ μ1 ((out_114 ++ toI r126) ++ [32]) (IntKind.i64.wrap (x_119 + 1)) < μ1 out_114 x_119) ∧
  ((decide (x_119 < ((l_.length : Nat) : Int))) = false →
  VC79_J1 Q out_114)
def VC56 (p_ : Api_Step) (out : List Int) (Q : (List Int) → Prop) : Prop :=
  ∀ (_ : sm p_.Lits),
  ∀ (_ : sm p_.Hints),
  ∀ (_ : sm out),
  (preI p_.Id) ∧
  ∀ r104, token_Digits p_.Id = r104 →
  (out.length + r104.length ≤ 1099511627776) ∧
  ((out ++ toI r104).length + [32].length ≤ 1099511627776) ∧
  ((p_.Kind == 2) = true →
  (((out ++ toI r104) ++ [32]).length + ([100, 32] : List UInt8).length ≤ 1099511627776) ∧
  (preNums p_ (((out ++ toI r104) ++ [32]) ++ toI ([100, 32] : List UInt8)) p_.Hints) ∧
  ∀ r129, proof_printed_numbers p_ (((out ++ toI r104) ++ [32]) ++ toI ([100, 32] : List UInt8)) p_.Hints = r129 →
  ∀ (_ : sm r129),
  (r129.length + [10].length ≤ 1099511627776) ∧
  Q (r129 ++ [10])) ∧
  ((p_.Kind == 2) = false →
  (preNums p_ ((out ++ toI r104) ++ [32]) p_.Lits) ∧
  ∀ r254, proof_printed_numbers p_ ((out ++ toI r104) ++ [32]) p_.Lits = r254 →
  ∀ (_ : sm r254),
  (r254.length + [32].length ≤ 1099511627776) ∧
  (preNums p_ (r254 ++ [32]) p_.Hints) ∧
  ∀ r270, proof_printed_numbers p_ (r254 ++ [32]) p_.Hints = r270 →
  ∀ (_ : sm r270),
  (r270.length + [10].length ≤ 1099511627776) ∧
  Q (r270 ++ [10]))
def VC33_J1 (Q : ((List UInt8) × Int) → Prop) (out_105 : List Int) : Prop :=
  Q ((ofBytes out_105), 0)
def VC33 (l_ : List Api_Step) (Q : (List UInt8) × Int → Prop) : Prop :=
  ∀ (_ : sm l_),
  ∀ r104, proof_Check l_ = r104 →
  ((r104.2 != 0) = true →
  Q (([] : List UInt8), r104.2)) ∧
  ((r104.2 != 0) = false →
  ∃ (I1 : (List Int) → Int → Prop) (μ1 : (List Int) → Int → Nat), I1 [] 0 ∧ ∀ (out_109 : List Int) (x_114 : Int), I1 out_109 x_114 →
  ((decide (x_114 < ((l_.length : Nat) : Int))) = true →
  ((0 : Int) ≤ x_114 ∧ x_114 < (l_.length : Int)) ∧
  ∀ (_ : sm ((gi l_ x_114).Lits)),
  ∀ (_ : sm ((gi l_ x_114).Hints)),
  (preLine (⟨(gi l_ x_114).Kind, (gi l_ x_114).Id, (gi l_ x_114).Lits, (gi l_ x_114).Hints⟩ : Api_Step) out_109) ∧
  ∀ r127, proof_printed_line (⟨(gi l_ x_114).Kind, (gi l_ x_114).Id, (gi l_ x_114).Lits, (gi l_ x_114).Hints⟩ : Api_Step) out_109 = r127 →
  ∀ (_ : sm r127),
  ((decide (((r127.length : Nat) : Int) > 1000000)) = true →
  Q (([] : List UInt8), 3)) ∧
  ((decide (((r127.length : Nat) : Int) > 1000000)) = false →
  I1 r127 (IntKind.i64.wrap (x_114 + 1)) ∧ μ1 r127 (IntKind.i64.wrap (x_114 + 1)) < μ1 out_109 x_114)) ∧
  ((decide (x_114 < ((l_.length : Nat) : Int))) = false →
  VC33_J1 Q out_109))
def VC66 (x_ : Api_Step) (y_ : Api_Step) (Q : Bool → Prop) : Prop :=
  ∀ (_ : sm x_.Lits),
  ∀ (_ : sm x_.Hints),
  ∀ (_ : sm y_.Lits),
  ∀ (_ : sm y_.Hints),
  (((x_.Kind == y_.Kind) && (x_.Id == y_.Id)) = true →
  ∀ r104, slices_Equal_int_int x_.Lits y_.Lits = r104 →
  (r104 = true →
  ∀ r108, slices_Equal_int_int x_.Hints y_.Hints = r108 →
  Q r108) ∧
  (r104 = false →
  Q false)) ∧
  (((x_.Kind == y_.Kind) && (x_.Id == y_.Id)) = false →
  Q false)
def VC65_66_J1 (Q : Bool → Prop) : Prop :=
  Q true
def VC65_66 (s1 : List Api_Step) (s2 : List Api_Step) (Q : Bool → Prop) : Prop :=
  ∀ (_ : sm s1),
  ∀ (_ : sm s2),
  ((((s1.length : Nat) : Int) != ((s2.length : Nat) : Int)) = true →
  Q false) ∧
  ((((s1.length : Nat) : Int) != ((s2.length : Nat) : Int)) = false →
  ∃ (I1 : Int → Prop) (μ1 : Int → Nat), I1 0 ∧ ∀ (x_103 : Int), I1 x_103 →
  ((decide (x_103 < ((s1.length : Nat) : Int))) = true →
  ((0 : Int) ≤ x_103 ∧ x_103 < (s1.length : Int)) ∧
  ∀ (_ : sm ((gi s1 x_103).Lits)),
  ∀ (_ : sm ((gi s1 x_103).Hints)),
  ((0 : Int) ≤ x_103 ∧ x_103 < (s2.length : Int)) ∧
  ∀ (_ : sm ((gi s2 x_103).Lits)),
  ∀ (_ : sm ((gi s2 x_103).Hints)),
  ∀ r125, proof_Same_1 (gi s1 x_103) (gi s2 x_103) = r125 →
  ((!r125) = true →
  Q false) ∧
  ((!r125) = false →
  I1 (IntKind.i64.wrap (x_103 + 1)) ∧ μ1 (IntKind.i64.wrap (x_103 + 1)) < μ1 x_103)) ∧
  ((decide (x_103 < ((s1.length : Nat) : Int))) = false →
  VC65_66_J1 Q))
def VC42 (a_ : List Api_Step) (b_ : List Api_Step) (Q : Bool → Prop) : Prop :=
  ∀ (_ : sm a_),
  ∀ (_ : sm b_),
  ∀ r104, slices_EqualFunc_api_Step_api_Step_api_Step_api_Step_proof_Same_1 a_ b_ = r104 →
  Q r104
def VC30_J1 (Q : Bool → Prop) : Prop :=
  Q true
def VC30_J2 (Q : Bool → Prop) (I1 : Int → Prop) (μ1 : Int → Nat) (i_103 : Int) (x_106 : Bool) : Prop :=
  (x_106 = true →
  Q false) ∧
  (x_106 = false →
  I1 (IntKind.i64.wrap (i_103 + 1)) ∧ μ1 (IntKind.i64.wrap (i_103 + 1)) < μ1 i_103)
def VC30 (a_ : List Api_Step) (b_ : List Api_Step) (Q : Bool → Prop) : Prop :=
  ∀ (_ : sm a_),
  ∀ (_ : sm b_),
  ((((a_.length : Nat) : Int) != ((b_.length : Nat) : Int)) = true →
  Q false) ∧
  ((((a_.length : Nat) : Int) != ((b_.length : Nat) : Int)) = false →
  ∃ (I1 : Int → Prop) (μ1 : Int → Nat), I1 0 ∧ ∀ (i_103 : Int), I1 i_103 →
  ((decide (i_103 < ((a_.length : Nat) : Int))) = true →
  ((0 : Int) ≤ i_103 ∧ i_103 < (a_.length : Int)) ∧
  ((0 : Int) ≤ i_103 ∧ i_103 < (b_.length : Int)) ∧
  ((((gi a_ i_103).Kind) != ((gi b_ i_103).Kind)) = true →
  VC30_J2 Q I1 μ1 i_103 true) ∧
  ((((gi a_ i_103).Kind) != ((gi b_ i_103).Kind)) = false →
  ((0 : Int) ≤ i_103 ∧ i_103 < (a_.length : Int)) ∧
  ((0 : Int) ≤ i_103 ∧ i_103 < (b_.length : Int)) ∧
  ((((gi a_ i_103).Id) != ((gi b_ i_103).Id)) = true →
  VC30_J2 Q I1 μ1 i_103 true) ∧
  ((((gi a_ i_103).Id) != ((gi b_ i_103).Id)) = false →
  ((0 : Int) ≤ i_103 ∧ i_103 < (a_.length : Int)) ∧
  ∀ (_ : sm ((gi a_ i_103).Lits)),
  ((0 : Int) ≤ i_103 ∧ i_103 < (b_.length : Int)) ∧
  ∀ (_ : sm ((gi b_ i_103).Lits)),
  ∀ r148, ref01_SameInts ((gi a_ i_103).Lits) ((gi b_ i_103).Lits) = r148 →
  ((!r148) = true →
  VC30_J2 Q I1 μ1 i_103 true) ∧
  ((!r148) = false →
  ((0 : Int) ≤ i_103 ∧ i_103 < (a_.length : Int)) ∧
  ((0 : Int) ≤ i_103 ∧ i_103 < (b_.length : Int)) ∧
  ∀ (_ : sm ((gi a_ i_103).Hints)),
  ∀ (_ : sm ((gi b_ i_103).Hints)),
  ∀ r640, ref01_SameInts ((gi a_ i_103).Hints) ((gi b_ i_103).Hints) = r640 →
  VC30_J2 Q I1 μ1 i_103 (!r640))))) ∧
  ((decide (i_103 < ((a_.length : Nat) : Int))) = false →
  VC30_J1 Q))
def VC71_J1 (l_ : List Token_Token) (end_ : Int) (Q : ((List Int) × Int × Int) → Prop) (out_117 : List Int) : Prop :=
  ((decide (((l_.length : Nat) : Int) > (IntKind.i64.wrap (((out_117.length : Nat) : Int) + 1)))) = true →
  ((0 : Int) ≤ (IntKind.i64.wrap (((out_117.length : Nat) : Int) + 1)) ∧ (IntKind.i64.wrap (((out_117.length : Nat) : Int) + 1)) < (l_.length : Int)) ∧
  Q ([], (gi l_ (IntKind.i64.wrap (((out_117.length : Nat) : Int) + 1))).At, 6)) ∧
  ((decide (((l_.length : Nat) : Int) > (IntKind.i64.wrap (((out_117.length : Nat) : Int) + 1)))) = false →
  Q (out_117, end_, 0))
def VC71 (l_ : List Token_Token) (word : List UInt8) (lo : List Int) (hi : List Int) (end_ : Int) (Q : (List Int) × Int × Int → Prop) : Prop :=
  ∀ (_ : sm l_),
  ∀ (_ : sm lo),
  ∀ (_ : sm hi),
  ((((l_.length : Nat) : Int) == 0) = true →
  Q ([], end_, 4)) ∧
  ((((l_.length : Nat) : Int) == 0) = false →
  ((0 : Int) ≤ 0 ∧ 0 < (l_.length : Int)) ∧
  ((!(((gi l_ 0).Text) == word)) = true →
  ((0 : Int) ≤ 0 ∧ 0 < (l_.length : Int)) ∧
  Q ([], (gi l_ 0).At, 8)) ∧
  ((!(((gi l_ 0).Text) == word)) = false →
  ((0 : Int) ≤ (IntKind.i64.wrap (((l_.length : Nat) : Int) - 1)) ∧ (IntKind.i64.wrap (((l_.length : Nat) : Int) - 1)) < (l_.length : Int)) ∧
  ∃ (I1 : (List Int) → Int → Prop) (μ1 : (List Int) → Int → Nat), I1 [] 0 ∧ ∀ (out_133 : List Int) (x_137 : Int), I1 out_133 x_137 →
  ((decide (x_137 < (if ((hi.length : Nat) : Int) < ((lo.length : Nat) : Int) then ((hi.length : Nat) : Int) else ((lo.length : Nat) : Int)))) = true →
  ((decide ((IntKind.i64.wrap (x_137 + 1)) ≥ ((l_.length : Nat) : Int))) = true →
  Q ([], IntKind.i64.wrap (((gi l_ (IntKind.i64.wrap (((l_.length : Nat) : Int) - 1))).At) + ((((gi l_ (IntKind.i64.wrap (((l_.length : Nat) : Int) - 1))).Text).length : Nat) : Int)), 4)) ∧
  ((decide ((IntKind.i64.wrap (x_137 + 1)) ≥ ((l_.length : Nat) : Int))) = false →
  ((0 : Int) ≤ (IntKind.i64.wrap (x_137 + 1)) ∧ (IntKind.i64.wrap (x_137 + 1)) < (l_.length : Int)) ∧
  ((0 : Int) ≤ x_137 ∧ x_137 < (lo.length : Int)) ∧
  ((0 : Int) ≤ x_137 ∧ x_137 < (hi.length : Int)) ∧
  (preNum ((gi l_ (IntKind.i64.wrap (x_137 + 1))).Text) (gi lo x_137) (gi hi x_137)) ∧
  ∀ r154, token_Number ((gi l_ (IntKind.i64.wrap (x_137 + 1))).Text) (gi lo x_137) (gi hi x_137) = r154 →
  ((r154.2 != 0) = true →
  Q ([], (gi l_ (IntKind.i64.wrap (x_137 + 1))).At, r154.2)) ∧
  ((r154.2 != 0) = false →
  (out_133.length + [r154.1].length ≤ 1099511627776) ∧
  I1 (out_133 ++ [r154.1]) (IntKind.i64.wrap (x_137 + 1)) ∧ μ1 (out_133 ++ [r154.1]) (IntKind.i64.wrap (x_137 + 1)) < μ1 out_133 x_137))) ∧
  ((decide (x_137 < (if ((hi.length : Nat) : Int) < ((lo.length : Nat) : Int) then ((hi.length : Nat) : Int) else ((lo.length : Nat) : Int)))) = false →
  VC71_J1 l_ end_ Q out_133)))
def VC25_J1 (l_ : List Ref05_Token) (end_ : Int) (Q : ((List Int) × Int × Int) → Prop) (out_114 : List Int) : Prop :=
  ((((l_.length : Nat) : Int) != (IntKind.i64.wrap (((out_114.length : Nat) : Int) + 1))) = true →
  ((0 : Int) ≤ (IntKind.i64.wrap (((out_114.length : Nat) : Int) + 1)) ∧ (IntKind.i64.wrap (((out_114.length : Nat) : Int) + 1)) < (l_.length : Int)) ∧
  Q ([], (gi l_ (IntKind.i64.wrap (((out_114.length : Nat) : Int) + 1))).At, 6)) ∧
  ((((l_.length : Nat) : Int) != (IntKind.i64.wrap (((out_114.length : Nat) : Int) + 1))) = false →
  Q (out_114, end_, 0))
def VC25 (l_ : List Ref05_Token) (word : List UInt8) (lo : List Int) (hi : List Int) (end_ : Int) (Q : (List Int) × Int × Int → Prop) : Prop :=
  ∀ (_ : sm l_),
  ∀ (_ : sm lo),
  ∀ (_ : sm hi),
  ((((l_.length : Nat) : Int) == 0) = true →
  Q ([], end_, 4)) ∧
  ((((l_.length : Nat) : Int) == 0) = false →
  ((0 : Int) ≤ 0 ∧ 0 < (l_.length : Int)) ∧
  ((!(((gi l_ 0).Text) == word)) = true →
  ((0 : Int) ≤ 0 ∧ 0 < (l_.length : Int)) ∧
  Q ([], (gi l_ 0).At, 8)) ∧
  ((!(((gi l_ 0).Text) == word)) = false →
  ∃ (I1 : (List Int) → Int → Prop) (μ1 : (List Int) → Int → Nat), I1 [] 0 ∧ ∀ (out_130 : List Int) (i_134 : Int), I1 out_130 i_134 →
  (((decide (i_134 < ((lo.length : Nat) : Int))) && (decide (i_134 < ((hi.length : Nat) : Int)))) = true →
  (((IntKind.i64.wrap (i_134 + 1)) == ((l_.length : Nat) : Int)) = true →
  ((0 : Int) ≤ i_134 ∧ i_134 < (l_.length : Int)) ∧
  ((0 : Int) ≤ i_134 ∧ i_134 < (l_.length : Int)) ∧
  Q ([], IntKind.i64.wrap (((gi l_ i_134).At) + ((((gi l_ i_134).Text).length : Nat) : Int)), 4)) ∧
  (((IntKind.i64.wrap (i_134 + 1)) == ((l_.length : Nat) : Int)) = false →
  ((0 : Int) ≤ (IntKind.i64.wrap (i_134 + 1)) ∧ (IntKind.i64.wrap (i_134 + 1)) < (l_.length : Int)) ∧
  ((0 : Int) ≤ i_134 ∧ i_134 < (lo.length : Int)) ∧
  ((0 : Int) ≤ i_134 ∧ i_134 < (hi.length : Int)) ∧
  (preNum ((gi l_ (IntKind.i64.wrap (i_134 + 1))).Text) (gi lo i_134) (gi hi i_134)) ∧
  ∀ r163, ref05_Number ((gi l_ (IntKind.i64.wrap (i_134 + 1))).Text) (gi lo i_134) (gi hi i_134) = r163 →
  ((r163.2 != 0) = true →
  ((0 : Int) ≤ (IntKind.i64.wrap (i_134 + 1)) ∧ (IntKind.i64.wrap (i_134 + 1)) < (l_.length : Int)) ∧
  Q ([], (gi l_ (IntKind.i64.wrap (i_134 + 1))).At, r163.2)) ∧
  ((r163.2 != 0) = false →
  (out_130.length + [r163.1].length ≤ 1099511627776) ∧
  I1 (out_130 ++ [r163.1]) (IntKind.i64.wrap (i_134 + 1)) ∧ μ1 (out_130 ++ [r163.1]) (IntKind.i64.wrap (i_134 + 1)) < μ1 out_130 i_134))) ∧
  (((decide (i_134 < ((lo.length : Nat) : Int))) && (decide (i_134 < ((hi.length : Nat) : Int)))) = false →
  VC25_J1 l_ end_ Q out_130)))
def VC23_J1 (Q : ((List (List Ref05_Token))) → Prop) (out_101 : List (List Ref05_Token)) : Prop :=
  Q out_101
def VC23_J2 (I1 : (List (List Ref05_Token)) → Int → Prop) (μ1 : (List (List Ref05_Token)) → Int → Nat) (out_108 : List (List Ref05_Token)) (i_112 : Int) (out_114 : List (List Ref05_Token)) : Prop :=
  I1 out_114 (IntKind.i64.wrap (i_112 + 1)) ∧ μ1 out_114 (IntKind.i64.wrap (i_112 + 1)) < μ1 out_108 i_112
def VC23 (l_ : List (List Ref05_Token)) (Q : (List (List Ref05_Token)) → Prop) : Prop :=
  ∀ (_ : sm l_),
  ∃ (I1 : (List (List Ref05_Token)) → Int → Prop) (μ1 : (List (List Ref05_Token)) → Int → Nat), I1 [] 0 ∧ ∀ (out_108 : List (List Ref05_Token)) (i_112 : Int), I1 out_108 i_112 →
  ((decide (i_112 < ((l_.length : Nat) : Int))) = true →
  ((0 : Int) ≤ i_112 ∧ i_112 < (l_.length : Int)) ∧
  ∀ (_ : sm (gi l_ i_112)),
  ((decide ((((gi l_ i_112).length : Nat) : Int) > 0)) = true →
  ((0 : Int) ≤ i_112 ∧ i_112 < (l_.length : Int)) ∧
  ∀ (_ : sm (gi l_ i_112)),
  (out_108.length + [gi l_ i_112].length ≤ 1099511627776) ∧
  VC23_J2 I1 μ1 out_108 i_112 (out_108 ++ [gi l_ i_112])) ∧
  ((decide ((((gi l_ i_112).length : Nat) : Int) > 0)) = false →
  VC23_J2 I1 μ1 out_108 i_112 out_108)) ∧
  ((decide (i_112 < ((l_.length : Nat) : Int))) = false →
  VC23_J1 Q out_108)
def VC41_J1 (Q : Bool → Prop) : Prop :=
  Q true
def VC41 (s1 : List Api_Pick) (s2 : List Api_Pick) (Q : Bool → Prop) : Prop :=
  ∀ (_ : sm s1),
  ∀ (_ : sm s2),
  ((((s1.length : Nat) : Int) != ((s2.length : Nat) : Int)) = true →
  Q false) ∧
  ((((s1.length : Nat) : Int) != ((s2.length : Nat) : Int)) = false →
  ∃ (I1 : Int → Prop) (μ1 : Int → Nat), I1 0 ∧ ∀ (x_103 : Int), I1 x_103 →
  ((decide (x_103 < ((s1.length : Nat) : Int))) = true →
  ((0 : Int) ≤ x_103 ∧ x_103 < (s1.length : Int)) ∧
  ((0 : Int) ≤ x_103 ∧ x_103 < (s2.length : Int)) ∧
  ((!(((gi s1 x_103).Oper) == ((gi s2 x_103).Oper) && (((gi s1 x_103).Result) == ((gi s2 x_103).Result) && true))) = true →
  Q false) ∧
  ((!(((gi s1 x_103).Oper) == ((gi s2 x_103).Oper) && (((gi s1 x_103).Result) == ((gi s2 x_103).Result) && true))) = false →
  I1 (IntKind.i64.wrap (x_103 + 1)) ∧ μ1 (IntKind.i64.wrap (x_103 + 1)) < μ1 x_103)) ∧
  ((decide (x_103 < ((s1.length : Nat) : Int))) = false →
  VC41_J1 Q))
def VC29_J1 (Q : Bool → Prop) : Prop :=
  Q true
def VC29 (a_ : List Api_Pick) (b_ : List Api_Pick) (Q : Bool → Prop) : Prop :=
  ∀ (_ : sm a_),
  ∀ (_ : sm b_),
  ((((a_.length : Nat) : Int) != ((b_.length : Nat) : Int)) = true →
  Q false) ∧
  ((((a_.length : Nat) : Int) != ((b_.length : Nat) : Int)) = false →
  ∃ (I1 : Int → Prop) (μ1 : Int → Nat), I1 0 ∧ ∀ (i_103 : Int), I1 i_103 →
  ((decide (i_103 < ((a_.length : Nat) : Int))) = true →
  ((0 : Int) ≤ i_103 ∧ i_103 < (a_.length : Int)) ∧
  ((0 : Int) ≤ i_103 ∧ i_103 < (b_.length : Int)) ∧
  ((!(((gi a_ i_103).Oper) == ((gi b_ i_103).Oper) && (((gi a_ i_103).Result) == ((gi b_ i_103).Result) && true))) = true →
  Q false) ∧
  ((!(((gi a_ i_103).Oper) == ((gi b_ i_103).Oper) && (((gi a_ i_103).Result) == ((gi b_ i_103).Result) && true))) = false →
  I1 (IntKind.i64.wrap (i_103 + 1)) ∧ μ1 (IntKind.i64.wrap (i_103 + 1)) < μ1 i_103)) ∧
  ((decide (i_103 < ((a_.length : Nat) : Int))) = false →
  VC29_J1 Q))
def VC43 (Q : (List (List UInt8)) → Prop) : Prop :=
  Q [([109, 97, 108, 102, 111, 114, 109, 101, 100] : List UInt8), ([116, 111, 111, 108, 97, 114, 103, 101] : List UInt8), ([98, 117, 100, 103, 101, 116, 111, 117, 116] : List UInt8), ([108, 105, 110, 101, 97, 114, 105, 122, 97, 98, 108, 101] : List UInt8), ([110, 111, 116, 108, 105, 110, 101, 97, 114, 105, 122, 97, 98, 108, 101] : List UInt8)]
def VC15 (kind : Int) (Q : (List UInt8) → Prop) : Prop :=
  (((decide (kind < 1)) || (decide (kind > 5))) = true →
  Q ([] : List UInt8)) ∧
  (((decide (kind < 1)) || (decide (kind > 5))) = false →
  ∀ r104, verdict_words = r104 →
  ∀ (_ : sm r104),
  ((0 : Int) ≤ (IntKind.i64.wrap (kind - 1)) ∧ (IntKind.i64.wrap (kind - 1)) < (r104.length : Int)) ∧
  Q (gi r104 (IntKind.i64.wrap (kind - 1))))
def VC16 (kind : Int) (Q : (List UInt8) → Prop) : Prop :=
  (((decide (kind < 1)) || (decide (kind > 5))) = true →
  Q ([] : List UInt8)) ∧
  (((decide (kind < 1)) || (decide (kind > 5))) = false →
  ((0 : Int) ≤ kind ∧ kind < ([([] : List UInt8), ([109, 97, 108, 102, 111, 114, 109, 101, 100] : List UInt8), ([116, 111, 111, 108, 97, 114, 103, 101] : List UInt8), ([98, 117, 100, 103, 101, 116, 111, 117, 116] : List UInt8), ([108, 105, 110, 101, 97, 114, 105, 122, 97, 98, 108, 101] : List UInt8), ([110, 111, 116, 108, 105, 110, 101, 97, 114, 105, 122, 97, 98, 108, 101] : List UInt8)].length : Int)) ∧
  Q (gi [([] : List UInt8), ([109, 97, 108, 102, 111, 114, 109, 101, 100] : List UInt8), ([116, 111, 111, 108, 97, 114, 103, 101] : List UInt8), ([98, 117, 100, 103, 101, 116, 111, 117, 116] : List UInt8), ([108, 105, 110, 101, 97, 114, 105, 122, 97, 98, 108, 101] : List UInt8), ([110, 111, 116, 108, 105, 110, 101, 97, 114, 105, 122, 97, 98, 108, 101] : List UInt8)] kind))
def VC62 (p_ : Api_Pick) (cap1 : List (Int × Int)) (Q : Bool × (List (Int × Int)) → Prop) : Prop :=
  Q ((((((decide (((mget (mput cap1 p_.Oper (IntKind.i64.wrap (((mget cap1 p_.Oper).getD 0) + 1))) p_.Oper).getD 0) > 1)) || (decide (p_.Oper < 0))) || (decide (p_.Oper ≥ 64))) || (decide (p_.Result < 0))) || (decide (p_.Result > 1000000))), mput cap1 p_.Oper (IntKind.i64.wrap (((mget cap1 p_.Oper).getD 0) + 1)))
def VC72_62_J1 (Q : (Int × (List (Int × Int))) → Prop) (x_101 : List (Int × Int)) : Prop :=
  Q ((-1), x_101)
def VC72_62 (s_ : List Api_Pick) (cap1 : List (Int × Int)) (Q : Int × (List (Int × Int)) → Prop) : Prop :=
  ∀ (_ : sm s_),
  ∃ (I1 : Int → (List (Int × Int)) → Prop) (μ1 : Int → (List (Int × Int)) → Nat), I1 0 cap1 ∧ ∀ (x_104 : Int) (x_105 : List (Int × Int)), I1 x_104 x_105 →
  ((decide (x_104 < ((s_.length : Nat) : Int))) = true →
  ((0 : Int) ≤ x_104 ∧ x_104 < (s_.length : Int)) ∧
  (prePk (gi s_ x_104) x_105) ∧
  ∀ r113, verdict_picked_1 (gi s_ x_104) x_105 = r113 →
  (r113.1 = true →
  Q (x_104, r113.2)) ∧
  (r113.1 = false →
  I1 (IntKind.i64.wrap (x_104 + 1)) r113.2 ∧ μ1 (IntKind.i64.wrap (x_104 + 1)) r113.2 < μ1 x_104 x_105)) ∧
  ((decide (x_104 < ((s_.length : Nat) : Int))) = false →
  VC72_62_J1 Q x_105)
def VC48_62 (s_ : List Api_Pick) (cap1 : List (Int × Int)) (Q : Bool × (List (Int × Int)) → Prop) : Prop :=
  ∀ (_ : sm s_),
  (prePkI s_ cap1) ∧
  ∀ r104, slices_IndexFunc_api_Pick_api_Pick_verdict_picked_1 s_ cap1 = r104 →
  Q (decide (r104.1 ≥ 0), r104.2)
def VC38 (l_ : List Api_Pick) (Q : Bool → Prop) : Prop :=
  ∀ (_ : sm l_),
  ((decide (((l_.length : Nat) : Int) ≤ 64)) = true →
  (prePkI l_ ([] : List (Int × Int))) ∧
  ∀ r108, slices_ContainsFunc_api_Pick_api_Pick_verdict_picked_1 l_ ([] : List (Int × Int)) = r108 →
  Q (!r108.1)) ∧
  ((decide (((l_.length : Nat) : Int) ≤ 64)) = false →
  Q false)
def VC40_J1 (l_ : List Api_Pick) (Q : Bool → Prop) : Prop :=
  Q (decide (((l_.length : Nat) : Int) ≤ 64))
def VC40_J2 (I1 : Int → Prop) (μ1 : Int → Nat) (i_103 : Int) : Prop :=
  I1 (IntKind.i64.wrap (i_103 + 1)) ∧ μ1 (IntKind.i64.wrap (i_103 + 1)) < μ1 i_103
def VC40_J3 (l_ : List Api_Pick) (Q : Bool → Prop) (I1 : Int → Prop) (μ1 : Int → Nat) (i_103 : Int) (x_106 : Bool) : Prop :=
  (x_106 = true →
  Q false) ∧
  (x_106 = false →
  ∃ (I2 : Int → Prop) (μ2 : Int → Nat), I2 0 ∧ ∀ (k_108 : Int), I2 k_108 →
  ((decide (k_108 < i_103)) = true →
  ((0 : Int) ≤ k_108 ∧ k_108 < (l_.length : Int)) ∧
  ((0 : Int) ≤ i_103 ∧ i_103 < (l_.length : Int)) ∧
  ((((gi l_ k_108).Oper) == ((gi l_ i_103).Oper)) = true →
  Q false) ∧
  ((((gi l_ k_108).Oper) == ((gi l_ i_103).Oper)) = false →
  I2 (IntKind.i64.wrap (k_108 + 1)) ∧ μ2 (IntKind.i64.wrap (k_108 + 1)) < μ2 k_108)) ∧
  ((decide (k_108 < i_103)) = false →
  VC40_J2 I1 μ1 i_103))
def VC40 (l_ : List Api_Pick) (Q : Bool → Prop) : Prop :=
  ∀ (_ : sm l_),
  ∃ (I1 : Int → Prop) (μ1 : Int → Nat), I1 0 ∧ ∀ (i_103 : Int), I1 i_103 →
  ((decide (i_103 < ((l_.length : Nat) : Int))) = true →
  ((0 : Int) ≤ i_103 ∧ i_103 < (l_.length : Int)) ∧
  ((decide (((gi l_ i_103).Oper) < 0)) = true →
  VC40_J3 l_ Q I1 μ1 i_103 true) ∧
  ((decide (((gi l_ i_103).Oper) < 0)) = false →
  ((0 : Int) ≤ i_103 ∧ i_103 < (l_.length : Int)) ∧
  ((decide (((gi l_ i_103).Oper) > 63)) = true →
  VC40_J3 l_ Q I1 μ1 i_103 true) ∧
  ((decide (((gi l_ i_103).Oper) > 63)) = false →
  ((0 : Int) ≤ i_103 ∧ i_103 < (l_.length : Int)) ∧
  ((decide (((gi l_ i_103).Result) < 0)) = true →
  VC40_J3 l_ Q I1 μ1 i_103 true) ∧
  ((decide (((gi l_ i_103).Result) < 0)) = false →
  ((0 : Int) ≤ i_103 ∧ i_103 < (l_.length : Int)) ∧
  VC40_J3 l_ Q I1 μ1 i_103 (decide (((gi l_ i_103).Result) > 1000000)))))) ∧
  ((decide (i_103 < ((l_.length : Nat) : Int))) = false →
  VC40_J1 l_ Q)
def VC37 (v_ : Api_Verdict) (Q : Bool → Prop) : Prop :=
  ∀ (_ : sm v_.Picks),
  ∀ (_ : sm v_.Proof),
  ((v_.Kind == 1) = true →
  Q ((((decide (v_.At ≥ 0)) && (decide (v_.At ≤ 1000000))) && (decide (v_.Err ≥ 1))) && (decide (v_.Err ≤ 99)))) ∧
  ((v_.Kind == 1) = false →
  Q ((v_.At == 0) && (v_.Err == 0)))
def VC12_J1 (v_ : Api_Verdict) (Q : Int → Prop) (fine_109 : Bool) : Prop :=
  ((!((fine_109 && ((v_.Kind == 4) || (((v_.Picks.length : Nat) : Int) == 0))) && ((v_.Kind == 5) || (((v_.Proof.length : Nat) : Int) == 0)))) = true →
  Q 2) ∧
  ((!((fine_109 && ((v_.Kind == 4) || (((v_.Picks.length : Nat) : Int) == 0))) && ((v_.Kind == 5) || (((v_.Proof.length : Nat) : Int) == 0)))) = false →
  Q 0)
def VC12 (v_ : Api_Verdict) (Q : Int → Prop) : Prop :=
  ∀ (_ : sm v_.Picks),
  ∀ (_ : sm v_.Proof),
  ∀ r104, verdict_Word v_.Kind = r104 →
  ((r104 == ([] : List UInt8)) = true →
  Q 31) ∧
  ((r104 == ([] : List UInt8)) = false →
  ∀ r108, proof_Check v_.Proof = r108 →
  ∀ r115, verdict_placed v_ = r115 →
  (r115 = true →
  ∀ r119, verdict_picked v_.Picks = r119 →
  VC12_J1 v_ Q (r119 && (r108.2 == 0))) ∧
  (r115 = false →
  VC12_J1 v_ Q false))
def VC14 (a_ : Api_Verdict) (b_ : Api_Verdict) (Q : Bool → Prop) : Prop :=
  ∀ (_ : sm a_.Picks),
  ∀ (_ : sm a_.Proof),
  ∀ (_ : sm b_.Picks),
  ∀ (_ : sm b_.Proof),
  ((((a_.Kind == b_.Kind) && (a_.At == b_.At)) && (a_.Err == b_.Err)) = true →
  ∀ r104, slices_Equal_api_Pick_api_Pick a_.Picks b_.Picks = r104 →
  (r104 = true →
  ∀ r108, proof_Same a_.Proof b_.Proof = r108 →
  Q r108) ∧
  (r104 = false →
  Q false)) ∧
  ((((a_.Kind == b_.Kind) && (a_.At == b_.At)) && (a_.Err == b_.Err)) = false →
  Q false)
def VC8 (a_ : Api_Verdict) (b_ : Api_Verdict) (Q : Bool → Prop) : Prop :=
  ∀ (_ : sm a_.Picks),
  ∀ (_ : sm a_.Proof),
  ∀ (_ : sm b_.Picks),
  ∀ (_ : sm b_.Proof),
  ((((a_.Kind == b_.Kind) && (a_.At == b_.At)) && (a_.Err == b_.Err)) = true →
  ∀ r104, ref28_Same a_.Picks b_.Picks = r104 →
  (r104 = true →
  ∀ r108, ref10_Same a_.Proof b_.Proof = r108 →
  Q r108) ∧
  (r104 = false →
  Q false)) ∧
  ((((a_.Kind == b_.Kind) && (a_.At == b_.At)) && (a_.Err == b_.Err)) = false →
  Q false)
def VC32_J1 (Q : ((List UInt8)) → Prop) (word_101 : List UInt8) : Prop :=
  (word_101.length + ([10] : List UInt8).length ≤ 4611686018427387904) ∧
  Q (word_101 ++ ([10] : List UInt8))
def VC32 (word : List UInt8) (n_ : List Int) (Q : (List UInt8) → Prop) : Prop :=
  ∀ (_ : sm n_),
  ∃ (I1 : (List UInt8) → Int → Prop) (μ1 : (List UInt8) → Int → Nat), I1 word 0 ∧ ∀ (word_102 : List UInt8) (x_104 : Int), I1 word_102 x_104 →
  ((decide (x_104 < ((n_.length : Nat) : Int))) = true →
  ((0 : Int) ≤ x_104 ∧ x_104 < (n_.length : Int)) ∧
  (preI (gi n_ x_104)) ∧
  ∀ r111, token_Digits (gi n_ x_104) = r111 →
  (([32] : List UInt8).length + r111.length ≤ 4611686018427387904) ∧
  (word_102.length + (([32] : List UInt8) ++ r111).length ≤ 4611686018427387904) ∧
  I1 (word_102 ++ (([32] : List UInt8) ++ r111)) (IntKind.i64.wrap (x_104 + 1)) ∧ μ1 (word_102 ++ (([32] : List UInt8) ++ r111)) (IntKind.i64.wrap (x_104 + 1)) < μ1 word_102 x_104) ∧
  ((decide (x_104 < ((n_.length : Nat) : Int))) = false →
  VC32_J1 Q word_102)
def VC10_J1 (Q : ((List UInt8) × Int) → Prop) (s_113 : List UInt8) : Prop :=
  Q (s_113, 0)
def VC10 (v_ : Api_Verdict) (Q : (List UInt8) × Int → Prop) : Prop :=
  ∀ (_ : sm v_.Picks),
  ∀ (_ : sm v_.Proof),
  ∀ r104, verdict_Check v_ = r104 →
  ((r104 != 0) = true →
  Q (([] : List UInt8), r104)) ∧
  ((r104 != 0) = false →
  ∀ r108, verdict_Word v_.Kind = r108 →
  (preWB r108 []) ∧
  ∀ r112, verdict_line r108 [] = r112 →
  ((v_.Kind == 1) = true →
  ∀ r119, verdict_Word v_.Kind = r119 →
  (preWB r119 [v_.At, v_.Err]) ∧
  ∀ r158, verdict_line r119 [v_.At, v_.Err] = r158 →
  VC10_J1 Q r158) ∧
  ((v_.Kind == 1) = false →
  ((v_.Kind == 4) = true →
  ∀ r164, verdict_Word v_.Kind = r164 →
  (preWB r164 [((v_.Picks.length : Nat) : Int)]) ∧
  ∀ r203, verdict_line r164 [((v_.Picks.length : Nat) : Int)] = r203 →
  ∃ (I1 : (List UInt8) → Int → Prop) (μ1 : (List UInt8) → Int → Nat), I1 r203 0 ∧ ∀ (s_204 : List UInt8) (x_206 : Int), I1 s_204 x_206 →
  ((decide (x_206 < ((v_.Picks.length : Nat) : Int))) = true →
  ((0 : Int) ≤ x_206 ∧ x_206 < (v_.Picks.length : Int)) ∧
  (preWB ([112, 105, 99, 107] : List UInt8) [(gi v_.Picks x_206).Oper, (gi v_.Picks x_206).Result]) ∧
  ∀ r217, verdict_line ([112, 105, 99, 107] : List UInt8) [(gi v_.Picks x_206).Oper, (gi v_.Picks x_206).Result] = r217 →
  (s_204.length + r217.length ≤ 4611686018427387904) ∧
  I1 (s_204 ++ r217) (IntKind.i64.wrap (x_206 + 1)) ∧ μ1 (s_204 ++ r217) (IntKind.i64.wrap (x_206 + 1)) < μ1 s_204 x_206) ∧
  ((decide (x_206 < ((v_.Picks.length : Nat) : Int))) = false →
  VC10_J1 Q s_204)) ∧
  ((v_.Kind == 4) = false →
  ((v_.Kind == 5) = true →
  ∀ r225, proof_Print v_.Proof = r225 →
  (((r225.2 != 0) || (decide ((IntKind.i64.wrap (((r112.length : Nat) : Int) + ((r225.1.length : Nat) : Int))) > 1000000))) = true →
  Q (([] : List UInt8), 3)) ∧
  (((r225.2 != 0) || (decide ((IntKind.i64.wrap (((r112.length : Nat) : Int) + ((r225.1.length : Nat) : Int))) > 1000000))) = false →
  (r112.length + r225.1.length ≤ 4611686018427387904) ∧
  VC10_J1 Q (r112 ++ r225.1))) ∧
  ((v_.Kind == 5) = false →
  VC10_J1 Q r112))))
def VC22_J1 (Q : ((List Token_Token) × Verdict_reader) → Prop) (x_101 : List (List Token_Token)) (x_105 : Int) (x_106 : Int) (x_107 : Int) : Prop :=
  Q ([], (⟨x_101, x_105, x_106, x_107⟩ : Verdict_reader))
def VC22 (cap1 : Verdict_reader) (Q : (List Token_Token) × Verdict_reader → Prop) : Prop :=
  ∀ (_ : sm cap1.rest),
  ∃ (I1 : (List (List Token_Token)) → Int → Int → Int → Prop) (μ1 : (List (List Token_Token)) → Int → Int → Int → Nat), I1 cap1.rest cap1.end_ cap1.at_ cap1.e ∧ ∀ (x_108 : List (List Token_Token)) (x_112 : Int) (x_113 : Int) (x_114 : Int), I1 x_108 x_112 x_113 x_114 →
  ((decide (((x_108.length : Nat) : Int) > 0)) = true →
  ((0 : Int) ≤ 0 ∧ 0 < (x_108.length : Int)) ∧
  ∀ (_ : sm (gi x_108 0)),
  ((0 : Int) ≤ 1 ∧ 1 ≤ (x_108.length : Int)) ∧
  ((decide ((((gi x_108 0).length : Nat) : Int) > 0)) = true →
  Q (gi x_108 0, (⟨x_108.drop (1 : Int).toNat, x_112, x_113, x_114⟩ : Verdict_reader))) ∧
  ((decide ((((gi x_108 0).length : Nat) : Int) > 0)) = false →
  I1 (x_108.drop (1 : Int).toNat) x_112 x_113 x_114 ∧ μ1 (x_108.drop (1 : Int).toNat) x_112 x_113 x_114 < μ1 x_108 x_112 x_113 x_114)) ∧
  ((decide (((x_108.length : Nat) : Int) > 0)) = false →
  VC22_J1 Q x_108 x_112 x_113 x_114)
def VC47 (l_ : List Token_Token) (word : List UInt8) (lo : List Int) (hi : List Int) (cap1 : Verdict_reader) (Q : (List Int) × Verdict_reader → Prop) : Prop :=
  ∀ (_ : sm l_),
  ∀ (_ : sm lo),
  ∀ (_ : sm hi),
  ∀ (_ : sm cap1.rest),
  ((cap1.e != 0) = true →
  Q ([], cap1)) ∧
  ((cap1.e != 0) = false →
  (preNT l_ word lo hi cap1.end_) ∧
  ∀ r104, objtext_Numbers l_ word lo hi cap1.end_ = r104 →
  ∀ (_ : sm r104.1),
  Q (r104.1, (⟨cap1.rest, cap1.end_, r104.2.1, r104.2.2⟩ : Verdict_reader)))
def VC49 (p_ : Api_Pick) (cap1 : List Int) (Q : Bool → Prop) : Prop :=
  ∀ (_ : sm cap1),
  ((0 : Int) ≤ 0 ∧ 0 < (cap1.length : Int)) ∧
  Q (p_.Oper == (gi cap1 0))
def VC72_49_J1 (Q : Int → Prop) : Prop :=
  Q (-1)
def VC72_49 (s_ : List Api_Pick) (cap1 : List Int) (Q : Int → Prop) : Prop :=
  ∀ (_ : sm s_),
  ∀ (_ : sm cap1),
  ∃ (I1 : Int → Prop) (μ1 : Int → Nat), I1 0 ∧ ∀ (x_103 : Int), I1 x_103 →
  ((decide (x_103 < ((s_.length : Nat) : Int))) = true →
  ((0 : Int) ≤ x_103 ∧ x_103 < (s_.length : Int)) ∧
  (preP1 (gi s_ x_103) cap1) ∧
  ∀ r111, verdict_reader_picks_1 (gi s_ x_103) cap1 = r111 →
  (r111 = true →
  Q x_103) ∧
  (r111 = false →
  I1 (IntKind.i64.wrap (x_103 + 1)) ∧ μ1 (IntKind.i64.wrap (x_103 + 1)) < μ1 x_103)) ∧
  ((decide (x_103 < ((s_.length : Nat) : Int))) = false →
  VC72_49_J1 Q)
def VC48_49 (s_ : List Api_Pick) (cap1 : List Int) (Q : Bool → Prop) : Prop :=
  ∀ (_ : sm s_),
  ∀ (_ : sm cap1),
  (preP1I s_ cap1) ∧
  ∀ r104, slices_IndexFunc_api_Pick_api_Pick_verdict_reader_picks_1 s_ cap1 = r104 →
  Q (decide (r104 ≥ 0))
def VC19_J1 (Q : ((List Api_Pick) × Verdict_reader) → Prop) (out_101 : List Api_Pick) (x_105 : List (List Token_Token)) (x_109 : Int) (x_110 : Int) (x_111 : Int) : Prop :=
  Q (out_101, (⟨x_105, x_109, x_110, x_111⟩ : Verdict_reader))
def VC19 (n_ : Int) (cap1 : Verdict_reader) (Q : (List Api_Pick) × Verdict_reader → Prop) : Prop :=
  ∀ (_ : sm cap1.rest),
  ∃ (I1 : (List Api_Pick) → Int → (List (List Token_Token)) → Int → Int → Int → Prop) (μ1 : (List Api_Pick) → Int → (List (List Token_Token)) → Int → Int → Int → Nat), I1 [] 0 cap1.rest cap1.end_ cap1.at_ cap1.e ∧ ∀ (out_114 : List Api_Pick) (x_118 : Int) (x_119 : List (List Token_Token)) (x_123 : Int) (x_124 : Int) (x_125 : Int), I1 out_114 x_118 x_119 x_123 x_124 x_125 →
  ((decide (x_118 < n_)) = true →
  ∀ r129, verdict_reader_next (⟨x_119, x_123, x_124, x_125⟩ : Verdict_reader) = r129 →
  ∀ (_ : sm r129.1),
  ∀ (_ : sm r129.2.rest),
  (preRdN r129.1 ([112, 105, 99, 107] : List UInt8) [0, 0] [63, 1000000] r129.2) ∧
  ∀ r148, verdict_reader_numbers r129.1 ([112, 105, 99, 107] : List UInt8) [0, 0] [63, 1000000] r129.2 = r148 →
  ∀ (_ : sm r148.1),
  ∀ (_ : sm r148.2.rest),
  ((r148.2.e != 0) = true →
  Q ([], r148.2)) ∧
  ((r148.2.e != 0) = false →
  (preP1I out_114 r148.1) ∧
  ∀ r159, slices_ContainsFunc_api_Pick_api_Pick_verdict_reader_picks_1 out_114 r148.1 = r159 →
  (r159 = true →
  ((0 : Int) ≤ 0 ∧ 0 < (r129.1.length : Int)) ∧
  Q ([], (⟨r148.2.rest, r148.2.end_, (gi r129.1 0).At, 21⟩ : Verdict_reader))) ∧
  (r159 = false →
  ((0 : Int) ≤ 0 ∧ 0 < (r148.1.length : Int)) ∧
  ((0 : Int) ≤ 1 ∧ 1 < (r148.1.length : Int)) ∧
  (out_114.length + [(⟨gi r148.1 0, gi r148.1 1⟩ : Api_Pick)].length ≤ 1099511627776) ∧
  I1 (out_114 ++ [(⟨gi r148.1 0, gi r148.1 1⟩ : Api_Pick)]) (IntKind.i64.wrap (x_118 + 1)) r148.2.rest r148.2.end_ r148.2.at_ r148.2.e ∧ μ1 (out_114 ++ [(⟨gi r148.1 0, gi r148.1 1⟩ : Api_Pick)]) (IntKind.i64.wrap (x_118 + 1)) r148.2.rest r148.2.end_ r148.2.at_ r148.2.e < μ1 out_114 x_118 x_119 x_123 x_124 x_125))) ∧
  ((decide (x_118 < n_)) = false →
  VC19_J1 Q out_114 x_119 x_123 x_124 x_125)
def VC46_J1 (Q : Int → Prop) : Prop :=
  Q (-1)
def VC46 (s_ : List (List UInt8)) (v_ : List UInt8) (Q : Int → Prop) : Prop :=
  ∀ (_ : sm s_),
  ∃ (I1 : Int → Prop) (μ1 : Int → Nat), I1 0 ∧ ∀ (x_102 : Int), I1 x_102 →
  ((decide (x_102 < ((s_.length : Nat) : Int))) = true →
  ((0 : Int) ≤ x_102 ∧ x_102 < (s_.length : Int)) ∧
  ((v_ == (gi s_ x_102)) = true →
  Q x_102) ∧
  ((v_ == (gi s_ x_102)) = false →
  I1 (IntKind.i64.wrap (x_102 + 1)) ∧ μ1 (IntKind.i64.wrap (x_102 + 1)) < μ1 x_102)) ∧
  ((decide (x_102 < ((s_.length : Nat) : Int))) = false →
  VC46_J1 Q)
def VC18_J1 (Q : (Int × (List Int) × Verdict_reader) → Prop) (r104 : (List Token_Token) × Verdict_reader) (r131 : Int) (lo_140 : List Int) (hi_144 : List Int) : Prop :=
  ((0 : Int) ≤ 0 ∧ 0 < (r104.1.length : Int)) ∧
  (preRdN r104.1 ((gi r104.1 0).Text) lo_140 hi_144 (⟨r104.2.rest, r104.2.end_, r104.2.at_, r104.2.e⟩ : Verdict_reader)) ∧
  ∀ r157, verdict_reader_numbers r104.1 ((gi r104.1 0).Text) lo_140 hi_144 (⟨r104.2.rest, r104.2.end_, r104.2.at_, r104.2.e⟩ : Verdict_reader) = r157 →
  ∀ (_ : sm r157.1),
  ∀ (_ : sm r157.2.rest),
  Q (IntKind.i64.wrap (r131 + 1), r157.1, r157.2)
def VC18 (cap1 : Verdict_reader) (Q : Int × (List Int) × Verdict_reader → Prop) : Prop :=
  ∀ (_ : sm cap1.rest),
  ∀ r104, verdict_reader_next cap1 = r104 →
  ∀ (_ : sm r104.1),
  ∀ (_ : sm r104.2.rest),
  ((((r104.1.length : Nat) : Int) == 0) = true →
  Q (0, [], (⟨r104.2.rest, r104.2.end_, r104.2.end_, 4⟩ : Verdict_reader))) ∧
  ((((r104.1.length : Nat) : Int) == 0) = false →
  ((0 : Int) ≤ 0 ∧ 0 < (r104.1.length : Int)) ∧
  ∀ r124, verdict_words = r124 →
  ∀ (_ : sm r124),
  ∀ r131, slices_Index_string_string r124 ((gi r104.1 0).Text) = r131 →
  (((IntKind.i64.wrap (r131 + 1)) == 0) = true →
  ((0 : Int) ≤ 0 ∧ 0 < (r104.1.length : Int)) ∧
  Q (0, [], (⟨r104.2.rest, r104.2.end_, (gi r104.1 0).At, 8⟩ : Verdict_reader))) ∧
  (((IntKind.i64.wrap (r131 + 1)) == 0) = false →
  (((IntKind.i64.wrap (r131 + 1)) == 1) = true →
  VC18_J1 Q r104 r131 [0, 1] [1000000, 99]) ∧
  (((IntKind.i64.wrap (r131 + 1)) == 1) = false →
  (((IntKind.i64.wrap (r131 + 1)) == 4) = true →
  VC18_J1 Q r104 r131 [0] [64]) ∧
  (((IntKind.i64.wrap (r131 + 1)) == 4) = false →
  VC18_J1 Q r104 r131 [] []))))
def VC20_J1 (Q : Int → Prop) (at_101 : Int) : Prop :=
  Q at_101
def VC20_J2 (s_ : List UInt8) (Q : Int → Prop) (r105 : (List (List Token_Token))) (I1 : Int → Int → Prop) (μ1 : Int → Int → Nat) (at_109 : Int) (x_111 : Int) (end_119 : Int) : Prop :=
  ((decide ((((gi r105 x_111).length : Nat) : Int) > 0)) = true →
  Q (if ((s_.length : Nat) : Int) < (IntKind.i64.wrap (end_119 + 1)) then ((s_.length : Nat) : Int) else (IntKind.i64.wrap (end_119 + 1)))) ∧
  ((decide ((((gi r105 x_111).length : Nat) : Int) > 0)) = false →
  I1 (if ((s_.length : Nat) : Int) < (IntKind.i64.wrap (end_119 + 1)) then ((s_.length : Nat) : Int) else (IntKind.i64.wrap (end_119 + 1))) (IntKind.i64.wrap (x_111 + 1)) ∧ μ1 (if ((s_.length : Nat) : Int) < (IntKind.i64.wrap (end_119 + 1)) then ((s_.length : Nat) : Int) else (IntKind.i64.wrap (end_119 + 1))) (IntKind.i64.wrap (x_111 + 1)) < μ1 at_109 x_111)
def VC20_J3 (s_ : List UInt8) (Q : Int → Prop) (r105 : (List (List Token_Token))) (I1 : Int → Int → Prop) (μ1 : Int → Int → Nat) (at_109 : Int) (x_111 : Int) (I2 : Int → Prop) (μ2 : Int → Nat) (end_122 : Int) (x_126 : Bool) : Prop :=
  (x_126 = true →
  I2 (IntKind.i64.wrap (end_122 + 1)) ∧ μ2 (IntKind.i64.wrap (end_122 + 1)) < μ2 end_122) ∧
  (x_126 = false →
  VC20_J2 s_ Q r105 I1 μ1 at_109 x_111 end_122)
def VC20 (s_ : List UInt8) (Q : Int → Prop) : Prop :=
  (len1 s_) ∧
  ∀ r105, token_Lines s_ = r105 →
  ∀ (_ : sm r105),
  ∃ (I1 : Int → Int → Prop) (μ1 : Int → Int → Nat), I1 0 0 ∧ ∀ (at_109 : Int) (x_111 : Int), I1 at_109 x_111 →
  ((decide (x_111 < ((r105.length : Nat) : Int))) = true →
  ((0 : Int) ≤ x_111 ∧ x_111 < (r105.length : Int)) ∧
  ∀ (_ : sm (gi r105 x_111)),
  ∃ (I2 : Int → Prop) (μ2 : Int → Nat), I2 at_109 ∧ ∀ (end_122 : Int), I2 end_122 →
  ((decide (end_122 < ((s_.length : Nat) : Int))) = true →
  ((0 : Int) ≤ end_122 ∧ end_122 < (s_.length : Int)) ∧
  VC20_J3 s_ Q r105 I1 μ1 at_109 x_111 I2 μ2 end_122 (((gi s_ end_122).toNat : Int) != 10)) ∧
  ((decide (end_122 < ((s_.length : Nat) : Int))) = false →
  VC20_J3 s_ Q r105 I1 μ1 at_109 x_111 I2 μ2 end_122 false)) ∧
  ((decide (x_111 < ((r105.length : Nat) : Int))) = false →
  VC20_J1 Q at_109)
def VC27_J1 (s_ : List UInt8) (Q : Int → Prop) : Prop :=
  Q ((s_.length : Nat) : Int)
def VC27 (s_ : List UInt8) (at_ : Int) (Q : Int → Prop) : Prop :=
  ∃ (I1 : Int → Prop) (μ1 : Int → Nat), I1 at_ ∧ ∀ (i_101 : Int), I1 i_101 →
  ((decide (i_101 < ((s_.length : Nat) : Int))) = true →
  ((0 : Int) ≤ i_101 ∧ i_101 < (s_.length : Int)) ∧
  ((((gi s_ i_101).toNat : Int) == 10) = true →
  Q (IntKind.i64.wrap (i_101 + 1))) ∧
  ((((gi s_ i_101).toNat : Int) == 10) = false →
  I1 (IntKind.i64.wrap (i_101 + 1)) ∧ μ1 (IntKind.i64.wrap (i_101 + 1)) < μ1 i_101)) ∧
  ((decide (i_101 < ((s_.length : Nat) : Int))) = false →
  VC27_J1 s_ Q)
def VC26_J1 (end_ : Int) (Q : ((List Api_Pick) × Int × Int) → Prop) (out_101 : List Api_Pick) : Prop :=
  Q (out_101, end_, 0)
def VC26 (l_ : List (List Ref05_Token)) (n_ : Int) (end_ : Int) (Q : (List Api_Pick) × Int × Int → Prop) : Prop :=
  ∀ (_ : sm l_),
  ∃ (I1 : (List Api_Pick) → Int → Prop) (μ1 : (List Api_Pick) → Int → Nat), I1 [] 1 ∧ ∀ (out_108 : List Api_Pick) (i_112 : Int), I1 out_108 i_112 →
  ((decide (i_112 ≤ n_)) = true →
  ((decide (i_112 ≥ ((l_.length : Nat) : Int))) = true →
  Q ([], end_, 4)) ∧
  ((decide (i_112 ≥ ((l_.length : Nat) : Int))) = false →
  ((0 : Int) ≤ i_112 ∧ i_112 < (l_.length : Int)) ∧
  ∀ (_ : sm (gi l_ i_112)),
  (preNR (gi l_ i_112) ([112, 105, 99, 107] : List UInt8) [0, 0] [63, 1000000] end_) ∧
  ∀ r130, ref24_Numbers (gi l_ i_112) ([112, 105, 99, 107] : List UInt8) [0, 0] [63, 1000000] end_ = r130 →
  ∀ (_ : sm r130.1),
  ((r130.2.2 != 0) = true →
  Q ([], r130.2.1, r130.2.2)) ∧
  ((r130.2.2 != 0) = false →
  ((0 : Int) ≤ 0 ∧ 0 < (r130.1.length : Int)) ∧
  ((0 : Int) ≤ 1 ∧ 1 < (r130.1.length : Int)) ∧
  (out_108.length + [(⟨gi r130.1 0, gi r130.1 1⟩ : Api_Pick)].length ≤ 1099511627776) ∧
  ∀ r154, ref39_picked (out_108 ++ [(⟨gi r130.1 0, gi r130.1 1⟩ : Api_Pick)]) = r154 →
  ((!r154) = true →
  ((0 : Int) ≤ i_112 ∧ i_112 < (l_.length : Int)) ∧
  ∀ (_ : sm (gi l_ i_112)),
  ((0 : Int) ≤ 0 ∧ 0 < ((gi l_ i_112).length : Int)) ∧
  Q ([], (gi (gi l_ i_112) 0).At, 21)) ∧
  ((!r154) = false →
  I1 (out_108 ++ [(⟨gi r130.1 0, gi r130.1 1⟩ : Api_Pick)]) (IntKind.i64.wrap (i_112 + 1)) ∧ μ1 (out_108 ++ [(⟨gi r130.1 0, gi r130.1 1⟩ : Api_Pick)]) (IntKind.i64.wrap (i_112 + 1)) < μ1 out_108 i_112)))) ∧
  ((decide (i_112 ≤ n_)) = false →
  VC26_J1 end_ Q out_108)
def VC6_J2 (s_ : List UInt8) (Q : (Api_Verdict × Int × Int) → Prop) (r113 : Int × (List Int) × Verdict_reader) (x_121 : Int) (x_122 : Int) (x_123 : List Api_Pick) (x_127 : List Api_Step) (x_140 : List (List Token_Token)) (x_144 : Int) (x_145 : Int) (x_146 : Int) : Prop :=
  ((x_146 != 0) = true →
  Q ((⟨0, 0, 0, [], []⟩ : Api_Verdict), x_145, x_146)) ∧
  ((x_146 != 0) = false →
  Q ((⟨r113.1, x_121, x_122, x_123, x_127⟩ : Api_Verdict), ((s_.length : Nat) : Int), 0))
def VC6_J1 (s_ : List UInt8) (Q : (Api_Verdict × Int × Int) → Prop) (r113 : Int × (List Int) × Verdict_reader) (x_121 : Int) (x_122 : Int) (x_123 : List Api_Pick) (x_127 : List Api_Step) (x_131 : List (List Token_Token)) (x_135 : Int) (x_136 : Int) (x_137 : Int) : Prop :=
  ∀ r156, verdict_reader_next (⟨x_131, x_135, x_136, x_137⟩ : Verdict_reader) = r156 →
  ∀ (_ : sm r156.1),
  ∀ (_ : sm r156.2.rest),
  (((r156.2.e == 0) && (decide (((r156.1.length : Nat) : Int) > 0))) = true →
  ((0 : Int) ≤ 0 ∧ 0 < (r156.1.length : Int)) ∧
  VC6_J2 s_ Q r113 x_121 x_122 x_123 x_127 r156.2.rest r156.2.end_ ((gi r156.1 0).At) 6) ∧
  (((r156.2.e == 0) && (decide (((r156.1.length : Nat) : Int) > 0))) = false →
  VC6_J2 s_ Q r113 x_121 x_122 x_123 x_127 r156.2.rest r156.2.end_ r156.2.at_ r156.2.e)
def VC6 (s_ : List UInt8) (Q : Api_Verdict × Int × Int → Prop) : Prop :=
  ((decide (((s_.length : Nat) : Int) > 1000000)) = true →
  Q ((⟨0, 0, 0, [], []⟩ : Api_Verdict), 0, 3)) ∧
  ((decide (((s_.length : Nat) : Int) > 1000000)) = false →
  (len1 s_) ∧
  ∀ r106, token_Lines s_ = r106 →
  ∀ (_ : sm r106),
  (preRdH (⟨r106, ((s_.length : Nat) : Int), 0, 0⟩ : Verdict_reader)) ∧
  ∀ r113, verdict_reader_head (⟨r106, ((s_.length : Nat) : Int), 0, 0⟩ : Verdict_reader) = r113 →
  ∀ (_ : sm r113.2.1),
  ∀ (_ : sm r113.2.2.rest),
  ((r113.2.2.e != 0) = true →
  Q ((⟨0, 0, 0, [], []⟩ : Api_Verdict), r113.2.2.at_, r113.2.2.e)) ∧
  ((r113.2.2.e != 0) = false →
  ((r113.1 == 1) = true →
  ((0 : Int) ≤ 0 ∧ 0 < (r113.2.1.length : Int)) ∧
  ((0 : Int) ≤ 1 ∧ 1 < (r113.2.1.length : Int)) ∧
  VC6_J1 s_ Q r113 (gi r113.2.1 0) (gi r113.2.1 1) [] [] r113.2.2.rest r113.2.2.end_ r113.2.2.at_ r113.2.2.e) ∧
  ((r113.1 == 1) = false →
  ((r113.1 == 4) = true →
  ((0 : Int) ≤ 0 ∧ 0 < (r113.2.1.length : Int)) ∧
  (preRdP (gi r113.2.1 0) r113.2.2) ∧
  ∀ r195, verdict_reader_picks (gi r113.2.1 0) r113.2.2 = r195 →
  ∀ (_ : sm r195.1),
  ∀ (_ : sm r195.2.rest),
  VC6_J1 s_ Q r113 0 0 r195.1 [] r195.2.rest r195.2.end_ r195.2.at_ r195.2.e) ∧
  ((r113.1 == 4) = false →
  ((r113.1 == 5) = true →
  (len1 s_) ∧
  ∀ r208, verdict_behind s_ = r208 →
  ((0 : Int) ≤ r208 ∧ r208 ≤ (s_.length : Int)) ∧
  ∀ r212, proof_Parse (s_.drop r208.toNat) = r212 →
  ∀ (_ : sm r212.1),
  ((r212.2.2 != 0) = true →
  Q ((⟨0, 0, 0, [], []⟩ : Api_Verdict), IntKind.i64.wrap (r208 + r212.2.1), r212.2.2)) ∧
  ((r212.2.2 != 0) = false →
  VC6_J1 s_ Q r113 0 0 [] r212.1 [] r113.2.2.end_ r113.2.2.at_ r113.2.2.e)) ∧
  ((r113.1 == 5) = false →
  VC6_J1 s_ Q r113 0 0 [] [] r113.2.2.rest r113.2.2.end_ r113.2.2.at_ r113.2.2.e)))))
def VC7_J6 (s_ : List UInt8) (Q : (Api_Verdict × Int × Int) → Prop) (r113 : (List (List Ref05_Token))) (x_120 : Int) (x_191 : Int) (x_192 : Int) (x_199 : List Api_Pick) (at_205 : Int) (e_206 : Int) (taken_207 : Int) (x_209 : List Api_Step) : Prop :=
  ((e_206 != 0) = true →
  Q ((⟨0, 0, 0, [], []⟩ : Api_Verdict), at_205, e_206)) ∧
  ((e_206 != 0) = false →
  ((decide (taken_207 < ((r113.length : Nat) : Int))) = true →
  ((0 : Int) ≤ taken_207 ∧ taken_207 < (r113.length : Int)) ∧
  ∀ (_ : sm (gi r113 taken_207)),
  ((0 : Int) ≤ 0 ∧ 0 < ((gi r113 taken_207).length : Int)) ∧
  Q ((⟨0, 0, 0, [], []⟩ : Api_Verdict), (gi (gi r113 taken_207) 0).At, 6)) ∧
  ((decide (taken_207 < ((r113.length : Nat) : Int))) = false →
  Q ((⟨x_120, x_191, x_192, x_199, x_209⟩ : Api_Verdict), ((s_.length : Nat) : Int), 0)))
def VC7_J5 (s_ : List UInt8) (Q : (Api_Verdict × Int × Int) → Prop) (r113 : (List (List Ref05_Token))) (x_120 : Int) (x_127 : List Api_Step) (x_191 : Int) (x_192 : Int) (at_196 : Int) (e_197 : Int) (taken_198 : Int) (x_199 : List Api_Pick) : Prop :=
  ((x_120 == 5) = true →
  ((0 : Int) ≤ 0 ∧ 0 < (r113.length : Int)) ∧
  ∀ (_ : sm (gi r113 0)),
  ((0 : Int) ≤ 0 ∧ 0 < ((gi r113 0).length : Int)) ∧
  (preBe s_ ((gi (gi r113 0) 0).At)) ∧
  ∀ r246, ref39_behind s_ ((gi (gi r113 0) 0).At) = r246 →
  ((0 : Int) ≤ r246 ∧ r246 ≤ (s_.length : Int)) ∧
  ∀ r250, ref10_Parse (s_.drop r246.toNat) = r250 →
  ∀ (_ : sm r250.1),
  VC7_J6 s_ Q r113 x_120 x_191 x_192 x_199 (IntKind.i64.wrap (r246 + r250.2.1)) r250.2.2 ((r113.length : Nat) : Int) r250.1) ∧
  ((x_120 == 5) = false →
  VC7_J6 s_ Q r113 x_120 x_191 x_192 x_199 at_196 e_197 taken_198 x_127)
def VC7_J4 (s_ : List UInt8) (Q : (Api_Verdict × Int × Int) → Prop) (r113 : (List (List Ref05_Token))) (x_120 : Int) (x_123 : List Api_Pick) (x_127 : List Api_Step) (r183 : (List Int) × Int × Int) (x_191 : Int) (x_192 : Int) : Prop :=
  ((x_120 == 4) = true →
  ((0 : Int) ≤ 0 ∧ 0 < (r183.1.length : Int)) ∧
  (preRp r113 (gi r183.1 0) ((s_.length : Nat) : Int)) ∧
  ∀ r264, ref39_picks r113 (gi r183.1 0) ((s_.length : Nat) : Int) = r264 →
  ∀ (_ : sm r264.1),
  ((0 : Int) ≤ 0 ∧ 0 < (r183.1.length : Int)) ∧
  VC7_J5 s_ Q r113 x_120 x_127 x_191 x_192 r264.2.1 r264.2.2 (IntKind.i64.wrap (1 + (gi r183.1 0))) r264.1) ∧
  ((x_120 == 4) = false →
  VC7_J5 s_ Q r113 x_120 x_127 x_191 x_192 r183.2.1 r183.2.2 1 x_123)
def VC7_J3 (s_ : List UInt8) (Q : (Api_Verdict × Int × Int) → Prop) (r113 : (List (List Ref05_Token))) (x_120 : Int) (x_121 : Int) (x_122 : Int) (x_123 : List Api_Pick) (x_127 : List Api_Step) (lo_158 : List Int) (hi_162 : List Int) : Prop :=
  ((0 : Int) ≤ 0 ∧ 0 < (r113.length : Int)) ∧
  ∀ (_ : sm (gi r113 0)),
  ∀ r179, ref39_Word x_120 = r179 →
  (preNR (gi r113 0) r179 lo_158 hi_162 ((s_.length : Nat) : Int)) ∧
  ∀ r183, ref24_Numbers (gi r113 0) r179 lo_158 hi_162 ((s_.length : Nat) : Int) = r183 →
  ∀ (_ : sm r183.1),
  ((r183.2.2 != 0) = true →
  Q ((⟨0, 0, 0, [], []⟩ : Api_Verdict), r183.2.1, r183.2.2)) ∧
  ((r183.2.2 != 0) = false →
  ((x_120 == 1) = true →
  ((0 : Int) ≤ 0 ∧ 0 < (r183.1.length : Int)) ∧
  ((0 : Int) ≤ 1 ∧ 1 < (r183.1.length : Int)) ∧
  VC7_J4 s_ Q r113 x_120 x_123 x_127 r183 (gi r183.1 0) (gi r183.1 1)) ∧
  ((x_120 == 1) = false →
  VC7_J4 s_ Q r113 x_120 x_123 x_127 r183 x_121 x_122))
def VC7_J2 (s_ : List UInt8) (Q : (Api_Verdict × Int × Int) → Prop) (r113 : (List (List Ref05_Token))) (x_120 : Int) (x_121 : Int) (x_122 : Int) (x_123 : List Api_Pick) (x_127 : List Api_Step) (lo_147 : List Int) (hi_151 : List Int) : Prop :=
  ((x_120 == 4) = true →
  VC7_J3 s_ Q r113 x_120 x_121 x_122 x_123 x_127 [0] [64]) ∧
  ((x_120 == 4) = false →
  VC7_J3 s_ Q r113 x_120 x_121 x_122 x_123 x_127 lo_147 hi_151)
def VC7_J1 (s_ : List UInt8) (Q : (Api_Verdict × Int × Int) → Prop) (r113 : (List (List Ref05_Token))) (x_120 : Int) (x_121 : Int) (x_122 : Int) (x_123 : List Api_Pick) (x_127 : List Api_Step) : Prop :=
  ((x_120 == 0) = true →
  ((0 : Int) ≤ 0 ∧ 0 < (r113.length : Int)) ∧
  ∀ (_ : sm (gi r113 0)),
  ((0 : Int) ≤ 0 ∧ 0 < ((gi r113 0).length : Int)) ∧
  Q ((⟨0, 0, 0, [], []⟩ : Api_Verdict), (gi (gi r113 0) 0).At, 8)) ∧
  ((x_120 == 0) = false →
  ((x_120 == 1) = true →
  VC7_J2 s_ Q r113 x_120 x_121 x_122 x_123 x_127 [0, 1] [1000000, 99]) ∧
  ((x_120 == 1) = false →
  VC7_J2 s_ Q r113 x_120 x_121 x_122 x_123 x_127 [] []))
def VC7_J7 (I1 : Int → Int → Int → Int → (List Api_Pick) → (List Api_Step) → Prop) (μ1 : Int → Int → Int → Int → (List Api_Pick) → (List Api_Step) → Nat) (k_308 : Int) (x_309 : Int) (x_310 : Int) (x_311 : Int) (x_312 : List Api_Pick) (x_316 : List Api_Step) (x_321 : Int) : Prop :=
  I1 (IntKind.i64.wrap (k_308 + 1)) x_321 x_310 x_311 x_312 x_316 ∧ μ1 (IntKind.i64.wrap (k_308 + 1)) x_321 x_310 x_311 x_312 x_316 < μ1 k_308 x_309 x_310 x_311 x_312 x_316
def VC7 (s_ : List UInt8) (Q : Api_Verdict × Int × Int → Prop) : Prop :=
  ((decide (((s_.length : Nat) : Int) > 1000000)) = true →
  Q ((⟨0, 0, 0, [], []⟩ : Api_Verdict), 0, 3)) ∧
  ((decide (((s_.length : Nat) : Int) > 1000000)) = false →
  (len1 s_) ∧
  ∀ r106, ref05_Lines s_ = r106 →
  ∀ (_ : sm r106),
  (preS r106) ∧
  ∀ r113, ref24_Said r106 = r113 →
  ∀ (_ : sm r113),
  ((((r113.length : Nat) : Int) == 0) = true →
  Q ((⟨0, 0, 0, [], []⟩ : Api_Verdict), ((s_.length : Nat) : Int), 4)) ∧
  ((((r113.length : Nat) : Int) == 0) = false →
  ∃ (I1 : Int → Int → Int → Int → (List Api_Pick) → (List Api_Step) → Prop) (μ1 : Int → Int → Int → Int → (List Api_Pick) → (List Api_Step) → Nat), I1 1 0 0 0 [] [] ∧ ∀ (k_308 : Int) (x_309 : Int) (x_310 : Int) (x_311 : Int) (x_312 : List Api_Pick) (x_316 : List Api_Step), I1 k_308 x_309 x_310 x_311 x_312 x_316 →
  ((decide (k_308 ≤ 5)) = true →
  ((0 : Int) ≤ 0 ∧ 0 < (r113.length : Int)) ∧
  ∀ (_ : sm (gi r113 0)),
  ((0 : Int) ≤ 0 ∧ 0 < ((gi r113 0).length : Int)) ∧
  ∀ r340, ref39_Word k_308 = r340 →
  ((((gi (gi r113 0) 0).Text) == r340) = true →
  VC7_J7 I1 μ1 k_308 x_309 x_310 x_311 x_312 x_316 k_308) ∧
  ((((gi (gi r113 0) 0).Text) == r340) = false →
  VC7_J7 I1 μ1 k_308 x_309 x_310 x_311 x_312 x_316 x_309)) ∧
  ((decide (k_308 ≤ 5)) = false →
  VC7_J1 s_ Q r113 x_309 x_310 x_311 x_312 x_316)))
def VC9 (v_ : Api_Verdict) (Q : Bool → Prop) : Prop :=
  ∀ (_ : sm v_.Picks),
  ∀ (_ : sm v_.Proof),
  ((decide (((v_.Picks.length : Nat) : Int) ≤ 100)) = true →
  ∀ r104, law10_Few v_.Proof = r104 →
  Q r104) ∧
  ((decide (((v_.Picks.length : Nat) : Int) ≤ 100)) = false →
  Q false)
def VC5 (Q : Bool → Prop) : Prop :=
  ∀ r104, verdict_Parse ([108, 105, 110, 101, 97, 114, 105, 122, 97, 98, 108, 101, 32, 49, 10, 112, 105, 99, 107, 32, 48, 32, 55, 10] : List UInt8) = r104 →
  ∀ (_ : sm r104.1.Picks),
  ∀ (_ : sm r104.1.Proof),
  ∀ r114, verdict_Print r104.1 = r114 →
  ∀ r118, verdict_Parse ([110, 111, 116, 108, 105, 110, 101, 97, 114, 105, 122, 97, 98, 108, 101, 10, 51, 32, 48, 32, 49, 32, 50, 32, 48, 10] : List UInt8) = r118 →
  ∀ (_ : sm r118.1.Picks),
  ∀ (_ : sm r118.1.Proof),
  ∀ r128, verdict_Parse ([110, 111, 116, 108, 105, 110, 101, 97, 114, 105, 122, 97, 98, 108, 101, 10, 51, 32, 48, 32, 49, 32, 50] : List UInt8) = r128 →
  ∀ (_ : sm r128.1.Picks),
  ∀ (_ : sm r128.1.Proof),
  ∀ r138, verdict_Parse ([109, 97, 108, 102, 111, 114, 109, 101, 100, 32, 53, 32, 52] : List UInt8) = r138 →
  ∀ (_ : sm r138.1.Picks),
  ∀ (_ : sm r138.1.Proof),
  ∀ r148, verdict_Parse ([116, 111, 111, 108, 97, 114, 103, 101, 32, 49] : List UInt8) = r148 →
  ∀ (_ : sm r148.1.Picks),
  ∀ (_ : sm r148.1.Proof),
  ((((r104.2.2 == 0) && (r104.2.1 == 24)) && (((r104.1.Picks.length : Nat) : Int) == 1)) = true →
  ((0 : Int) ≤ 0 ∧ 0 < (r104.1.Picks.length : Int)) ∧
  (((((((((((((((gi r104.1.Picks 0).Oper) == 0 && (((gi r104.1.Picks 0).Result) == 7 && true)) && (r114.2 == 0)) && (r114.1 == ([108, 105, 110, 101, 97, 114, 105, 122, 97, 98, 108, 101, 32, 49, 10, 112, 105, 99, 107, 32, 48, 32, 55, 10] : List UInt8))) && (r118.2.2 == 0)) && (((r118.1.Proof.length : Nat) : Int) == 1)) && (r128.2.1 == 23)) && (r128.2.2 == 4)) && (r138.2.2 == 0)) && (r138.1.At == 5)) && (r138.1.Err == 4)) && (r148.2.1 == 9)) && (r148.2.2 == 6)) = true →
  ∀ r161, verdict_Check r104.1 = r161 →
  ((r161 == 0) = true →
  ∀ r165, verdict_Check (⟨0, 0, 0, [], []⟩ : Api_Verdict) = r165 →
  ((r165 == 31) = true →
  ∀ r169, verdict_Same r104.1 r104.1 = r169 →
  (r169 = true →
  ∀ r173, verdict_Same r104.1 r118.1 = r173 →
  ((!r173) = true →
  ∀ r177, verdict_Word 3 = r177 →
  ((r177 == ([98, 117, 100, 103, 101, 116, 111, 117, 116] : List UInt8)) = true →
  ∀ r181, verdict_Word 6 = r181 →
  Q (r181 == ([] : List UInt8))) ∧
  ((r177 == ([98, 117, 100, 103, 101, 116, 111, 117, 116] : List UInt8)) = false →
  Q false)) ∧
  ((!r173) = false →
  Q false)) ∧
  (r169 = false →
  Q false)) ∧
  ((r165 == 31) = false →
  Q false)) ∧
  ((r161 == 0) = false →
  Q false)) ∧
  (((((((((((((((gi r104.1.Picks 0).Oper) == 0 && (((gi r104.1.Picks 0).Result) == 7 && true)) && (r114.2 == 0)) && (r114.1 == ([108, 105, 110, 101, 97, 114, 105, 122, 97, 98, 108, 101, 32, 49, 10, 112, 105, 99, 107, 32, 48, 32, 55, 10] : List UInt8))) && (r118.2.2 == 0)) && (((r118.1.Proof.length : Nat) : Int) == 1)) && (r128.2.1 == 23)) && (r128.2.2 == 4)) && (r138.2.2 == 0)) && (r138.1.At == 5)) && (r138.1.Err == 4)) && (r148.2.1 == 9)) && (r148.2.2 == 6)) = false →
  Q false)) ∧
  ((((r104.2.2 == 0) && (r104.2.1 == 24)) && (((r104.1.Picks.length : Nat) : Int) == 1)) = false →
  Q false)
def VC3 (s_ : List UInt8) (Q : Bool → Prop) : Prop :=
  ((decide (((s_.length : Nat) : Int) > 3000)) = true →
  ∀ r104, law39_awake = r104 →
  Q r104) ∧
  ((decide (((s_.length : Nat) : Int) > 3000)) = false →
  ∀ r108, verdict_Parse s_ = r108 →
  ∀ (_ : sm r108.1.Picks),
  ∀ (_ : sm r108.1.Proof),
  ∀ r118, ref39_Parse s_ = r118 →
  ∀ (_ : sm r118.1.Picks),
  ∀ (_ : sm r118.1.Proof),
  ∀ r128, ref39_Same r108.1 r118.1 = r128 →
  (((r128 && (r108.2.1 == r118.2.1)) && (r108.2.2 == r118.2.2)) = true →
  ∀ r132, law39_awake = r132 →
  Q r132) ∧
  (((r128 && (r108.2.1 == r118.2.1)) && (r108.2.2 == r118.2.2)) = false →
  Q false))
def VC4_J1 (v_ : Api_Verdict) (w_ : Api_Verdict) (kind : Int) (Q : Bool → Prop) (x_101 : Bool) : Prop :=
  (x_101 = true →
  ∀ r109, law39_awake = r109 →
  Q r109) ∧
  (x_101 = false →
  ∀ r113, verdict_Print v_ = r113 →
  ∀ r117, ref39_Print v_ = r117 →
  (((r113.1 == r117.1) && (r113.2 == r117.2)) = true →
  ∀ r123, verdict_Check v_ = r123 →
  ∀ r127, ref39_Check v_ = r127 →
  ((r123 == r127) = true →
  ∀ r131, verdict_Same v_ w_ = r131 →
  ∀ r135, ref39_Same v_ w_ = r135 →
  ((r131 == r135) = true →
  ∀ r139, verdict_Word kind = r139 →
  ∀ r143, ref39_Word kind = r143 →
  ((r139 == r143) = true →
  ∀ r147, law39_awake = r147 →
  Q r147) ∧
  ((r139 == r143) = false →
  Q false)) ∧
  ((r131 == r135) = false →
  Q false)) ∧
  ((r123 == r127) = false →
  Q false)) ∧
  (((r113.1 == r117.1) && (r113.2 == r117.2)) = false →
  Q false))
def VC4 (v_ : Api_Verdict) (w_ : Api_Verdict) (kind : Int) (Q : Bool → Prop) : Prop :=
  ∀ (_ : sm v_.Picks),
  ∀ (_ : sm v_.Proof),
  ∀ (_ : sm w_.Picks),
  ∀ (_ : sm w_.Proof),
  ∀ r151, law39_Few v_ = r151 →
  ((!r151) = true →
  VC4_J1 v_ w_ kind Q true) ∧
  ((!r151) = false →
  ∀ r155, law39_Few w_ = r155 →
  VC4_J1 v_ w_ kind Q (!r155))
end Go.Proofs.YtkgcdoeldilhaaaGreatDoor
