/- The conditions of the functions, in terms of their callees. Definitions. -/
import Derived.Test.YtmedefjboagkmaaDoorOSpec
set_option linter.all false
namespace Go.Proofs.YtmedefjboagkmaaDoor
open Go Go.Sv






/-- replevin/replevinref05.gap -/
def VC31 (b_ : Int) (Q : Bool → Prop) : Prop :=
  Q (((b_ == 32) || (b_ == 9)) || (b_ == 13))


/-- internal/stringslite.HasPrefix -/
def VC57 (s_ : List UInt8) (prefix_ : List UInt8) (Q : Bool → Prop) : Prop :=
  ((decide (((s_.length : Nat) : Int) ≥ ((prefix_.length : Nat) : Int))) = true →
  ((0 : Int) ≤ ((prefix_.length : Nat) : Int) ∧ ((prefix_.length : Nat) : Int) ≤ (s_.length : Int)) ∧
  Q ((s_.take ((prefix_.length : Nat) : Int).toNat) == prefix_)) ∧
  ((decide (((s_.length : Nat) : Int) ≥ ((prefix_.length : Nat) : Int))) = false →
  Q false)


/-- strings.HasPrefix -/
def VC46 (s_ : List UInt8) (prefix_ : List UInt8) (Q : Bool → Prop) : Prop :=
  (preTwo s_ prefix_) ∧
  ∀ r104, internal_stringslite_HasPrefix s_ prefix_ = r104 →
  Q r104


/-- internal/stringslite.CutPrefix -/
def VC72 (s_ : List UInt8) (prefix_ : List UInt8) (Q : (List UInt8) × Bool → Prop) : Prop :=
  (preTwo s_ prefix_) ∧
  ∀ r104, internal_stringslite_HasPrefix s_ prefix_ = r104 →
  ((!r104) = true →
  Q (s_, false)) ∧
  ((!r104) = false →
  ((0 : Int) ≤ ((prefix_.length : Nat) : Int) ∧ ((prefix_.length : Nat) : Int) ≤ (s_.length : Int)) ∧
  Q ((s_.drop ((prefix_.length : Nat) : Int).toNat), true))


/-- strings.CutPrefix -/
def VC61 (s_ : List UInt8) (prefix_ : List UInt8) (Q : (List UInt8) × Bool → Prop) : Prop :=
  (preTwo s_ prefix_) ∧
  ∀ r104, internal_stringslite_CutPrefix s_ prefix_ = r104 →
  Q (r104.1, r104.2)


/-- internal/stringslite.Cut -/
def VC45 (s_ : List UInt8) (sep : List UInt8) (Q : (List UInt8) × (List UInt8) × Bool → Prop) : Prop :=
  (preOne s_ sep) ∧
  ∀ r104, internal_stringslite_Index s_ sep = r104 →
  ((decide (r104 ≥ 0)) = true →
  ((0 : Int) ≤ r104 ∧ r104 ≤ (s_.length : Int)) ∧
  ((0 : Int) ≤ (IntKind.i64.wrap (r104 + ((sep.length : Nat) : Int))) ∧ (IntKind.i64.wrap (r104 + ((sep.length : Nat) : Int))) ≤ (s_.length : Int)) ∧
  Q ((s_.take r104.toNat), (s_.drop (IntKind.i64.wrap (r104 + ((sep.length : Nat) : Int))).toNat), true)) ∧
  ((decide (r104 ≥ 0)) = false →
  Q (s_, ([] : List UInt8), false))


/-- strings.Cut -/
def VC29 (s_ : List UInt8) (sep : List UInt8) (Q : (List UInt8) × (List UInt8) × Bool → Prop) : Prop :=
  (preOne s_ sep) ∧
  ∀ r104, internal_stringslite_Cut s_ sep = r104 →
  Q (r104.1, r104.2.1, r104.2.2)


def VC30_J1 (s_ : List UInt8) (line : Int) (at_ : Int) (I1_0 : (List Token_Token) → Int → Int → Prop) (μ1_0 : (List Token_Token) → Int → Int → Nat) (I1_1 : (List Token_Token) → Int → Int → Prop) (μ1_1 : (List Token_Token) → Int → Int → Nat) (out_101 : List Token_Token) (i_105 : Int) (from_106 : Int) (out_113 : List Token_Token) (x_117 : Bool) : Prop :=
  (x_117 = true →
  I1_1 out_113 (IntKind.i64.wrap (i_105 + 1)) from_106 ∧ μ1_1 out_113 (IntKind.i64.wrap (i_105 + 1)) from_106 < μ1_1 out_101 i_105 from_106) ∧
  (x_117 = false →
  ((0 : Int) ≤ from_106 ∧ from_106 ≤ (IntKind.i64.wrap (i_105 + 1)) ∧ (IntKind.i64.wrap (i_105 + 1)) ≤ (s_.length : Int)) ∧
  (out_113.length + [(⟨line, IntKind.i64.wrap (at_ + from_106), ((s_.take (IntKind.i64.wrap (i_105 + 1)).toNat).drop from_106.toNat)⟩ : Token_Token)].length ≤ 1099511627776) ∧
  I1_0 (out_113 ++ [(⟨line, IntKind.i64.wrap (at_ + from_106), ((s_.take (IntKind.i64.wrap (i_105 + 1)).toNat).drop from_106.toNat)⟩ : Token_Token)]) (IntKind.i64.wrap (i_105 + 1)) from_106 ∧ μ1_0 (out_113 ++ [(⟨line, IntKind.i64.wrap (at_ + from_106), ((s_.take (IntKind.i64.wrap (i_105 + 1)).toNat).drop from_106.toNat)⟩ : Token_Token)]) (IntKind.i64.wrap (i_105 + 1)) from_106 < μ1_1 out_101 i_105 from_106)
def VC30_J2 (Q : ((List Token_Token)) → Prop) (I1_0 : (List Token_Token) → Int → Int → Prop) (x_133 : Bool) : Prop :=
  (x_133 = true →
  Q []) ∧
  (x_133 = false →
  I1_0 [] 0 0)
/-- replevin/token.tokens -/
def VC30 (s_ : List UInt8) (line : Int) (at_ : Int) (Q : (List Token_Token) → Prop) : Prop :=
  ∃ (I1_0 : (List Token_Token) → Int → Int → Prop) (μ1_0 : (List Token_Token) → Int → Int → Nat) (I1_1 : (List Token_Token) → Int → Int → Prop) (μ1_1 : (List Token_Token) → Int → Int → Nat),
  (((s_ == ([99] : List UInt8)) = true →
  VC30_J2 Q I1_0 true) ∧
  ((s_ == ([99] : List UInt8)) = false →
  (preTwo s_ ([99, 32] : List UInt8)) ∧
  ∀ r137, strings_HasPrefix s_ ([99, 32] : List UInt8) = r137 →
  VC30_J2 Q I1_0 r137)) ∧
  (∀ (out_101 : List Token_Token) (i_105 : Int) (from_106 : Int), I1_0 out_101 i_105 from_106 →
  ((i_105 == ((s_.length : Nat) : Int)) = true →
  Q out_101) ∧
  ((i_105 == ((s_.length : Nat) : Int)) = false →
  ((0 : Int) ≤ i_105 ∧ i_105 < (s_.length : Int)) ∧
  ∀ r112, strings_IndexByte ([32, 9, 13] : List UInt8) ((gi s_ i_105).toNat : Int) = r112 →
  ((decide (r112 ≥ 0)) = true →
  I1_0 out_101 (IntKind.i64.wrap (i_105 + 1)) from_106 ∧ μ1_0 out_101 (IntKind.i64.wrap (i_105 + 1)) from_106 < μ1_0 out_101 i_105 from_106) ∧
  ((decide (r112 ≥ 0)) = false →
  I1_1 out_101 i_105 i_105 ∧ μ1_1 out_101 i_105 i_105 ≤ μ1_0 out_101 i_105 from_106))) ∧
  (∀ (out_101 : List Token_Token) (i_105 : Int) (from_106 : Int), I1_1 out_101 i_105 from_106 →
  ((decide ((IntKind.i64.wrap (i_105 + 1)) < ((s_.length : Nat) : Int))) = true →
  ((0 : Int) ≤ (IntKind.i64.wrap (i_105 + 1)) ∧ (IntKind.i64.wrap (i_105 + 1)) < (s_.length : Int)) ∧
  ∀ r130, strings_IndexByte ([32, 9, 13] : List UInt8) ((gi s_ (IntKind.i64.wrap (i_105 + 1))).toNat : Int) = r130 →
  VC30_J1 s_ line at_ I1_0 μ1_0 I1_1 μ1_1 out_101 i_105 from_106 out_101 (decide (r130 < 0))) ∧
  ((decide ((IntKind.i64.wrap (i_105 + 1)) < ((s_.length : Nat) : Int))) = false →
  VC30_J1 s_ line at_ I1_0 μ1_0 I1_1 μ1_1 out_101 i_105 from_106 out_101 false))


def VC53_J2 (Q : ((List UInt8) × Bool × Bool) → Prop) (r104 : (List UInt8) × Bool) : Prop :=
  Q (r104.1, r104.2, true)
def VC53_J3 (Q : ((List UInt8) × Bool × Bool) → Prop) (I1 : Int → Prop) (μ1 : Int → Nat) (i_106 : Int) (x_107 : Bool) : Prop :=
  (x_107 = true →
  Q (([] : List UInt8), false, false)) ∧
  (x_107 = false →
  I1 (IntKind.i64.wrap (i_106 + 1)) ∧ μ1 (IntKind.i64.wrap (i_106 + 1)) < μ1 i_106)
def VC53_J1 (Q : ((List UInt8) × Bool × Bool) → Prop) (r104 : (List UInt8) × Bool) (x_105 : Bool) : Prop :=
  (x_105 = true →
  Q (([] : List UInt8), false, false)) ∧
  (x_105 = false →
  ∃ (I1 : Int → Prop) (μ1 : Int → Nat), I1 0 ∧ ∀ (i_106 : Int), I1 i_106 →
  ((decide (i_106 < ((r104.1.length : Nat) : Int))) = true →
  ((0 : Int) ≤ i_106 ∧ i_106 < (r104.1.length : Int)) ∧
  ((decide (((gi r104.1 i_106).toNat : Int) < 48)) = true →
  VC53_J3 Q I1 μ1 i_106 true) ∧
  ((decide (((gi r104.1 i_106).toNat : Int) < 48)) = false →
  ((0 : Int) ≤ i_106 ∧ i_106 < (r104.1.length : Int)) ∧
  VC53_J3 Q I1 μ1 i_106 (decide (((gi r104.1 i_106).toNat : Int) > 57)))) ∧
  ((decide (i_106 < ((r104.1.length : Nat) : Int))) = false →
  VC53_J2 Q r104))
/-- replevin/token.numeral -/
def VC53 (s_ : List UInt8) (Q : (List UInt8) × Bool × Bool → Prop) : Prop :=
  (preTwo s_ ([45] : List UInt8)) ∧
  ∀ r104, strings_CutPrefix s_ ([45] : List UInt8) = r104 →
  ((r104.1 == ([] : List UInt8)) = true →
  VC53_J1 Q r104 true) ∧
  ((r104.1 == ([] : List UInt8)) = false →
  ((0 : Int) ≤ 0 ∧ 0 < (r104.1.length : Int)) ∧
  VC53_J1 Q r104 ((((gi r104.1 0).toNat : Int) == 48) && ((decide (((r104.1.length : Nat) : Int) > 1)) || r104.2)))


def VC12_J1 (Q : ((List (List Token_Token))) → Prop) (out_101 : List (List Token_Token)) : Prop :=
  Q out_101
/-- replevin/token.Lines -/
def VC12 (s_ : List UInt8) (Q : (List (List Token_Token)) → Prop) : Prop :=
  ∃ (I1 : (List (List Token_Token)) → Int → Prop) (μ1 : (List (List Token_Token)) → Int → Nat), I1 [] 0 ∧ ∀ (out_107 : List (List Token_Token)) (at_111 : Int), I1 out_107 at_111 →
  ((decide (at_111 < ((s_.length : Nat) : Int))) = true →
  ((0 : Int) ≤ at_111 ∧ at_111 ≤ (s_.length : Int)) ∧
  (preOne (s_.drop at_111.toNat) ([10] : List UInt8)) ∧
  ∀ r115, strings_Cut (s_.drop at_111.toNat) ([10] : List UInt8) = r115 →
  (preTok r115.1 (IntKind.i64.wrap (((out_107.length : Nat) : Int) + 1)) at_111) ∧
  ∀ r119, token_tokens r115.1 (IntKind.i64.wrap (((out_107.length : Nat) : Int) + 1)) at_111 = r119 →
  ∀ (_ : sm r119),
  (out_107.length + [r119].length ≤ 1099511627776) ∧
  I1 (out_107 ++ [r119]) (IntKind.i64.wrap (at_111 + (IntKind.i64.wrap (((r115.1.length : Nat) : Int) + 1)))) ∧ μ1 (out_107 ++ [r119]) (IntKind.i64.wrap (at_111 + (IntKind.i64.wrap (((r115.1.length : Nat) : Int) + 1)))) < μ1 out_107 at_111) ∧
  ((decide (at_111 < ((s_.length : Nat) : Int))) = false →
  VC12_J1 Q out_107)


def VC14_J1 (Q : ((List (List Ref05_Token))) → Prop) (out_101 : List (List Ref05_Token)) : Prop :=
  Q out_101
def VC14_J4 (I1 : (List (List Ref05_Token)) → Int → Prop) (μ1 : (List (List Ref05_Token)) → Int → Nat) (out_107 : List (List Ref05_Token)) (at_111 : Int) (end_116 : Int) (out_122 : List (List Ref05_Token)) (row_126 : List Ref05_Token) : Prop :=
  (out_122.length + [row_126].length ≤ 1099511627776) ∧
  I1 (out_122 ++ [row_126]) (IntKind.i64.wrap (end_116 + 1)) ∧ μ1 (out_122 ++ [row_126]) (IntKind.i64.wrap (end_116 + 1)) < μ1 out_107 at_111
def VC14_J5 (I2 : (List (List Ref05_Token)) → (List Ref05_Token) → Int → Prop) (μ2 : (List (List Ref05_Token)) → (List Ref05_Token) → Int → Nat) (out_141 : List (List Ref05_Token)) (row_145 : List Ref05_Token) (i_149 : Int) (out_150 : List (List Ref05_Token)) (row_154 : List Ref05_Token) (i_158 : Int) : Prop :=
  I2 out_150 row_154 (IntKind.i64.wrap (i_158 + 1)) ∧ μ2 out_150 row_154 (IntKind.i64.wrap (i_158 + 1)) < μ2 out_141 row_145 i_149
def VC14_J6 (s_ : List UInt8) (I2 : (List (List Ref05_Token)) → (List Ref05_Token) → Int → Prop) (μ2 : (List (List Ref05_Token)) → (List Ref05_Token) → Int → Nat) (out_141 : List (List Ref05_Token)) (row_145 : List Ref05_Token) (i_149 : Int) (out_163 : List (List Ref05_Token)) (row_167 : List Ref05_Token) (k_171 : Int) : Prop :=
  ((0 : Int) ≤ i_149 ∧ i_149 ≤ k_171 ∧ k_171 ≤ (s_.length : Int)) ∧
  (row_167.length + [(⟨IntKind.i64.wrap (((out_163.length : Nat) : Int) + 1), i_149, ((s_.take k_171.toNat).drop i_149.toNat)⟩ : Ref05_Token)].length ≤ 1099511627776) ∧
  VC14_J5 I2 μ2 out_141 row_145 i_149 out_163 (row_167 ++ [(⟨IntKind.i64.wrap (((out_163.length : Nat) : Int) + 1), i_149, ((s_.take k_171.toNat).drop i_149.toNat)⟩ : Ref05_Token)]) k_171
def VC14_J7 (s_ : List UInt8) (I2 : (List (List Ref05_Token)) → (List Ref05_Token) → Int → Prop) (μ2 : (List (List Ref05_Token)) → (List Ref05_Token) → Int → Nat) (out_141 : List (List Ref05_Token)) (row_145 : List Ref05_Token) (i_149 : Int) (I3 : (List (List Ref05_Token)) → (List Ref05_Token) → Int → Prop) (μ3 : (List (List Ref05_Token)) → (List Ref05_Token) → Int → Nat) (out_181 : List (List Ref05_Token)) (row_185 : List Ref05_Token) (k_189 : Int) (out_190 : List (List Ref05_Token)) (row_194 : List Ref05_Token) (x_198 : Bool) : Prop :=
  (x_198 = true →
  I3 out_190 row_194 (IntKind.i64.wrap (k_189 + 1)) ∧ μ3 out_190 row_194 (IntKind.i64.wrap (k_189 + 1)) < μ3 out_181 row_185 k_189) ∧
  (x_198 = false →
  VC14_J6 s_ I2 μ2 out_141 row_145 i_149 out_190 row_194 k_189)
def VC14_J3 (s_ : List UInt8) (I1 : (List (List Ref05_Token)) → Int → Prop) (μ1 : (List (List Ref05_Token)) → Int → Nat) (out_107 : List (List Ref05_Token)) (at_111 : Int) (end_116 : Int) (out_117 : List (List Ref05_Token)) (remark_121 : Bool) : Prop :=
  ∃ (I2 : (List (List Ref05_Token)) → (List Ref05_Token) → Int → Prop) (μ2 : (List (List Ref05_Token)) → (List Ref05_Token) → Int → Nat), I2 out_117 [] at_111 ∧ ∀ (out_141 : List (List Ref05_Token)) (row_145 : List Ref05_Token) (i_149 : Int), I2 out_141 row_145 i_149 →
  (((decide (i_149 < end_116)) && (!remark_121)) = true →
  ((0 : Int) ≤ i_149 ∧ i_149 < (s_.length : Int)) ∧
  ∀ r162, ref05_gap ((gi s_ i_149).toNat : Int) = r162 →
  (r162 = true →
  VC14_J5 I2 μ2 out_141 row_145 i_149 out_141 row_145 i_149) ∧
  (r162 = false →
  ∃ (I3 : (List (List Ref05_Token)) → (List Ref05_Token) → Int → Prop) (μ3 : (List (List Ref05_Token)) → (List Ref05_Token) → Int → Nat), I3 out_141 row_145 i_149 ∧ ∀ (out_181 : List (List Ref05_Token)) (row_185 : List Ref05_Token) (k_189 : Int), I3 out_181 row_185 k_189 →
  ((decide (k_189 < end_116)) = true →
  ((0 : Int) ≤ k_189 ∧ k_189 < (s_.length : Int)) ∧
  ∀ r202, ref05_gap ((gi s_ k_189).toNat : Int) = r202 →
  VC14_J7 s_ I2 μ2 out_141 row_145 i_149 I3 μ3 out_181 row_185 k_189 out_181 row_185 (!r202)) ∧
  ((decide (k_189 < end_116)) = false →
  VC14_J7 s_ I2 μ2 out_141 row_145 i_149 I3 μ3 out_181 row_185 k_189 out_181 row_185 false))) ∧
  (((decide (i_149 < end_116)) && (!remark_121)) = false →
  VC14_J4 I1 μ1 out_107 at_111 end_116 out_141 row_145)
def VC14_J2 (s_ : List UInt8) (I1 : (List (List Ref05_Token)) → Int → Prop) (μ1 : (List (List Ref05_Token)) → Int → Nat) (out_107 : List (List Ref05_Token)) (at_111 : Int) (out_112 : List (List Ref05_Token)) (end_116 : Int) : Prop :=
  ((0 : Int) ≤ at_111 ∧ at_111 ≤ end_116 ∧ end_116 ≤ (s_.length : Int)) ∧
  ((((s_.take end_116.toNat).drop at_111.toNat) == ([99] : List UInt8)) = true →
  VC14_J3 s_ I1 μ1 out_107 at_111 end_116 out_112 true) ∧
  ((((s_.take end_116.toNat).drop at_111.toNat) == ([99] : List UInt8)) = false →
  ((decide ((IntKind.i64.wrap (end_116 - at_111)) ≥ 2)) = true →
  ((0 : Int) ≤ at_111 ∧ at_111 ≤ (IntKind.i64.wrap (at_111 + 2)) ∧ (IntKind.i64.wrap (at_111 + 2)) ≤ (s_.length : Int)) ∧
  VC14_J3 s_ I1 μ1 out_107 at_111 end_116 out_112 (((s_.take (IntKind.i64.wrap (at_111 + 2)).toNat).drop at_111.toNat) == ([99, 32] : List UInt8))) ∧
  ((decide ((IntKind.i64.wrap (end_116 - at_111)) ≥ 2)) = false →
  VC14_J3 s_ I1 μ1 out_107 at_111 end_116 out_112 false))
def VC14_J8 (s_ : List UInt8) (I1 : (List (List Ref05_Token)) → Int → Prop) (μ1 : (List (List Ref05_Token)) → Int → Nat) (out_107 : List (List Ref05_Token)) (at_111 : Int) (I4 : (List (List Ref05_Token)) → Int → Prop) (μ4 : (List (List Ref05_Token)) → Int → Nat) (out_217 : List (List Ref05_Token)) (end_221 : Int) (out_222 : List (List Ref05_Token)) (x_226 : Bool) : Prop :=
  (x_226 = true →
  I4 out_222 (IntKind.i64.wrap (end_221 + 1)) ∧ μ4 out_222 (IntKind.i64.wrap (end_221 + 1)) < μ4 out_217 end_221) ∧
  (x_226 = false →
  VC14_J2 s_ I1 μ1 out_107 at_111 out_222 end_221)
/-- replevin/replevinref05.Lines -/
def VC14 (s_ : List UInt8) (Q : (List (List Ref05_Token)) → Prop) : Prop :=
  ∃ (I1 : (List (List Ref05_Token)) → Int → Prop) (μ1 : (List (List Ref05_Token)) → Int → Nat), I1 [] 0 ∧ ∀ (out_107 : List (List Ref05_Token)) (at_111 : Int), I1 out_107 at_111 →
  ((decide (at_111 < ((s_.length : Nat) : Int))) = true →
  ∃ (I4 : (List (List Ref05_Token)) → Int → Prop) (μ4 : (List (List Ref05_Token)) → Int → Nat), I4 out_107 at_111 ∧ ∀ (out_217 : List (List Ref05_Token)) (end_221 : Int), I4 out_217 end_221 →
  ((decide (end_221 < ((s_.length : Nat) : Int))) = true →
  ((0 : Int) ≤ end_221 ∧ end_221 < (s_.length : Int)) ∧
  VC14_J8 s_ I1 μ1 out_107 at_111 I4 μ4 out_217 end_221 out_217 (((gi s_ end_221).toNat : Int) != 10)) ∧
  ((decide (end_221 < ((s_.length : Nat) : Int))) = false →
  VC14_J8 s_ I1 μ1 out_107 at_111 I4 μ4 out_217 end_221 out_217 false)) ∧
  ((decide (at_111 < ((s_.length : Nat) : Int))) = false →
  VC14_J1 Q out_107)


def VC38_J2 (lo : Int) (hi : Int) (Q : (Int × Int) → Prop) (x_106 : Int) : Prop :=
  (((decide (x_106 < lo)) || (decide (x_106 > hi))) = true →
  Q (0, 7)) ∧
  (((decide (x_106 < lo)) || (decide (x_106 > hi))) = false →
  Q (x_106, 0))
def VC38_J1 (lo : Int) (hi : Int) (Q : (Int × Int) → Prop) (r104 : (List UInt8) × Bool × Bool) (n_105 : Int) : Prop :=
  (((decide (n_105 > 9223372036854775807)) && (!(r104.2.1 && (n_105 == 9223372036854775808)))) = true →
  Q (0, 7)) ∧
  (((decide (n_105 > 9223372036854775807)) && (!(r104.2.1 && (n_105 == 9223372036854775808)))) = false →
  (r104.2.1 = true →
  VC38_J2 lo hi Q (IntKind.i64.wrap (0 - (IntKind.i64.wrap n_105)))) ∧
  (r104.2.1 = false →
  VC38_J2 lo hi Q (IntKind.i64.wrap n_105)))
/-- replevin/token.Number -/
def VC38 (s_ : List UInt8) (lo : Int) (hi : Int) (Q : Int × Int → Prop) : Prop :=
  (len1 s_) ∧
  ∀ r104, token_numeral s_ = r104 →
  ((!r104.2.2) = true →
  Q (0, 5)) ∧
  ((!r104.2.2) = false →
  ∃ (I1 : Int → Int → Prop) (μ1 : Int → Int → Nat), I1 0 0 ∧ ∀ (n_109 : Int) (i_110 : Int), I1 n_109 i_110 →
  ((decide (i_110 < ((r104.1.length : Nat) : Int))) = true →
  ((decide (n_109 > 1844674407370955160)) = true →
  Q (0, 7)) ∧
  ((decide (n_109 > 1844674407370955160)) = false →
  ((0 : Int) ≤ i_110 ∧ i_110 < (r104.1.length : Int)) ∧
  I1 (IntKind.u64.wrap ((IntKind.u64.wrap (10 * n_109)) + (IntKind.u64.wrap (IntKind.u8.wrap (((gi r104.1 i_110).toNat : Int) - 48))))) (IntKind.i64.wrap (i_110 + 1)) ∧ μ1 (IntKind.u64.wrap ((IntKind.u64.wrap (10 * n_109)) + (IntKind.u64.wrap (IntKind.u8.wrap (((gi r104.1 i_110).toNat : Int) - 48))))) (IntKind.i64.wrap (i_110 + 1)) < μ1 n_109 i_110)) ∧
  ((decide (i_110 < ((r104.1.length : Nat) : Int))) = false →
  VC38_J1 lo hi Q r104 n_109))


/-- replevin/token.Digits -/
def VC48 (n_ : Int) (Q : (List UInt8) → Prop) : Prop :=
  (preI n_) ∧
  ∀ r104, strconv_Itoa n_ = r104 →
  Q r104


def VC52_J1 (n_ : Int) (Q : ((List UInt8)) → Prop) (out_101 : List UInt8) : Prop :=
  ((decide (n_ < 0)) = true →
  (([45] : List UInt8).length + out_101.length ≤ 4611686018427387904) ∧
  Q (([45] : List UInt8) ++ out_101)) ∧
  ((decide (n_ < 0)) = false →
  Q out_101)
def VC52_J2 (I1 : (List UInt8) → Int → Prop) (μ1 : (List UInt8) → Int → Nat) (out_102 : List UInt8) (x_103 : Int) (d_104 : Int) : Prop :=
  ((ofBytes [IntKind.u8.wrap (IntKind.i64.wrap (48 + d_104))]).length + out_102.length ≤ 4611686018427387904) ∧
  I1 ((ofBytes [IntKind.u8.wrap (IntKind.i64.wrap (48 + d_104))]) ++ out_102) (IntKind.i64.wrap ((x_103).tdiv 10)) ∧ μ1 ((ofBytes [IntKind.u8.wrap (IntKind.i64.wrap (48 + d_104))]) ++ out_102) (IntKind.i64.wrap ((x_103).tdiv 10)) < μ1 out_102 x_103
/-- replevin/replevinref05.Digits -/
def VC52 (n_ : Int) (Q : (List UInt8) → Prop) : Prop :=
  ((n_ == 0) = true →
  Q ([48] : List UInt8)) ∧
  ((n_ == 0) = false →
  ∃ (I1 : (List UInt8) → Int → Prop) (μ1 : (List UInt8) → Int → Nat), I1 ([] : List UInt8) n_ ∧ ∀ (out_102 : List UInt8) (x_103 : Int), I1 out_102 x_103 →
  ((x_103 != 0) = true →
  ((decide (((x_103).tmod 10) < 0)) = true →
  VC52_J2 I1 μ1 out_102 x_103 (IntKind.i64.wrap (0 - ((x_103).tmod 10)))) ∧
  ((decide (((x_103).tmod 10) < 0)) = false →
  VC52_J2 I1 μ1 out_102 x_103 ((x_103).tmod 10))) ∧
  ((x_103 != 0) = false →
  VC52_J1 n_ Q out_102))


def VC39_J4 (s_ : List UInt8) (lo : Int) (hi : Int) (Q : (Int × Int) → Prop) (n_103 : Int) : Prop :=
  (preI n_103) ∧
  ∀ r107, ref05_Digits n_103 = r107 →
  ((((!(r107 == s_)) || (decide (n_103 < lo))) || (decide (n_103 > hi))) = true →
  Q (0, 7)) ∧
  ((((!(r107 == s_)) || (decide (n_103 < lo))) || (decide (n_103 > hi))) = false →
  Q (n_103, 0))
def VC39_J5 (I1 : Int → Int → Prop) (μ1 : Int → Int → Nat) (n_108 : Int) (i_109 : Int) (d_110 : Int) : Prop :=
  I1 (IntKind.i64.wrap ((IntKind.i64.wrap (10 * n_108)) + d_110)) (IntKind.i64.wrap (i_109 + 1)) ∧ μ1 (IntKind.i64.wrap ((IntKind.i64.wrap (10 * n_108)) + d_110)) (IntKind.i64.wrap (i_109 + 1)) < μ1 n_108 i_109
def VC39_J3 (s_ : List UInt8) (lo : Int) (hi : Int) (Q : (Int × Int) → Prop) (from_101 : Int) : Prop :=
  ((decide ((IntKind.i64.wrap (((s_.length : Nat) : Int) - from_101)) > 19)) = true →
  Q (0, 7)) ∧
  ((decide ((IntKind.i64.wrap (((s_.length : Nat) : Int) - from_101)) > 19)) = false →
  ∃ (I1 : Int → Int → Prop) (μ1 : Int → Int → Nat), I1 0 from_101 ∧ ∀ (n_108 : Int) (i_109 : Int), I1 n_108 i_109 →
  ((decide (i_109 < ((s_.length : Nat) : Int))) = true →
  ((0 : Int) ≤ i_109 ∧ i_109 < (s_.length : Int)) ∧
  ((from_101 == 1) = true →
  VC39_J5 I1 μ1 n_108 i_109 (IntKind.i64.wrap (0 - (IntKind.i64.wrap ((IntKind.i64.wrap ((gi s_ i_109).toNat : Int)) - 48))))) ∧
  ((from_101 == 1) = false →
  VC39_J5 I1 μ1 n_108 i_109 (IntKind.i64.wrap ((IntKind.i64.wrap ((gi s_ i_109).toNat : Int)) - 48)))) ∧
  ((decide (i_109 < ((s_.length : Nat) : Int))) = false →
  VC39_J4 s_ lo hi Q n_108))
def VC39_J6 (Q : (Int × Int) → Prop) (I2 : Int → Prop) (μ2 : Int → Nat) (i_117 : Int) (x_118 : Bool) : Prop :=
  (x_118 = true →
  Q (0, 5)) ∧
  (x_118 = false →
  I2 (IntKind.i64.wrap (i_117 + 1)) ∧ μ2 (IntKind.i64.wrap (i_117 + 1)) < μ2 i_117)
def VC39_J2 (s_ : List UInt8) (lo : Int) (hi : Int) (Q : (Int × Int) → Prop) (from_101 : Int) (x_102 : Bool) : Prop :=
  (x_102 = true →
  Q (0, 5)) ∧
  (x_102 = false →
  ∃ (I2 : Int → Prop) (μ2 : Int → Nat), I2 from_101 ∧ ∀ (i_117 : Int), I2 i_117 →
  ((decide (i_117 < ((s_.length : Nat) : Int))) = true →
  ((0 : Int) ≤ i_117 ∧ i_117 < (s_.length : Int)) ∧
  ((decide (((gi s_ i_117).toNat : Int) < 48)) = true →
  VC39_J6 Q I2 μ2 i_117 true) ∧
  ((decide (((gi s_ i_117).toNat : Int) < 48)) = false →
  ((0 : Int) ≤ i_117 ∧ i_117 < (s_.length : Int)) ∧
  VC39_J6 Q I2 μ2 i_117 (decide (((gi s_ i_117).toNat : Int) > 57)))) ∧
  ((decide (i_117 < ((s_.length : Nat) : Int))) = false →
  VC39_J3 s_ lo hi Q from_101))
def VC39_J1 (s_ : List UInt8) (lo : Int) (hi : Int) (Q : (Int × Int) → Prop) (from_101 : Int) : Prop :=
  ((from_101 == ((s_.length : Nat) : Int)) = true →
  VC39_J2 s_ lo hi Q from_101 true) ∧
  ((from_101 == ((s_.length : Nat) : Int)) = false →
  ((0 : Int) ≤ from_101 ∧ from_101 < (s_.length : Int)) ∧
  VC39_J2 s_ lo hi Q from_101 ((((gi s_ from_101).toNat : Int) == 48) && (decide (((s_.length : Nat) : Int) > 1))))
def VC39_J7 (s_ : List UInt8) (lo : Int) (hi : Int) (Q : (Int × Int) → Prop) (x_127 : Bool) : Prop :=
  (x_127 = true →
  VC39_J1 s_ lo hi Q 1) ∧
  (x_127 = false →
  VC39_J1 s_ lo hi Q 0)
/-- replevin/replevinref05.Number -/
def VC39 (s_ : List UInt8) (lo : Int) (hi : Int) (Q : Int × Int → Prop) : Prop :=
  ((decide (((s_.length : Nat) : Int) > 0)) = true →
  ((0 : Int) ≤ 0 ∧ 0 < (s_.length : Int)) ∧
  VC39_J7 s_ lo hi Q (((gi s_ 0).toNat : Int) == 45)) ∧
  ((decide (((s_.length : Nat) : Int) > 0)) = false →
  VC39_J7 s_ lo hi Q false)


def VC36_J1 (Q : ((List UInt8)) → Prop) (b_105 : List UInt8) : Prop :=
  Q b_105
def VC36_J2 (I1 : (List UInt8) → Int → Prop) (μ1 : (List UInt8) → Int → Nat) (b_111 : List UInt8) (x_114 : Int) (b_121 : List UInt8) : Prop :=
  (b_121.length + 1 ≤ 140737488355328 ∧ (0 : Int) ≤ 10 ∧ (10 : Int) < 256) ∧
  I1 (b_121 ++ [UInt8.ofNat (10 : Int).toNat]) (IntKind.i64.wrap (x_114 + 1)) ∧ μ1 (b_121 ++ [UInt8.ofNat (10 : Int).toNat]) (IntKind.i64.wrap (x_114 + 1)) < μ1 b_111 x_114
def VC36_J3 (lines : List (List Token_Token)) (x_114 : Int) (I2 : (List UInt8) → Int → Prop) (μ2 : (List UInt8) → Int → Nat) (b_128 : List UInt8) (x_132 : Int) (b_136 : List UInt8) : Prop :=
  (b_136.length + ((gi (gi lines x_114) x_132).Text).length ≤ 140737488355328) ∧
  I2 (b_136 ++ ((gi (gi lines x_114) x_132).Text)) (IntKind.i64.wrap (x_132 + 1)) ∧ μ2 (b_136 ++ ((gi (gi lines x_114) x_132).Text)) (IntKind.i64.wrap (x_132 + 1)) < μ2 b_128 x_132
/-- replevin/token.Join -/
def VC36 (lines : List (List Token_Token)) (Q : (List UInt8) → Prop) : Prop :=
  ∀ (_ : sm lines),
  ∃ (I1 : (List UInt8) → Int → Prop) (μ1 : (List UInt8) → Int → Nat), I1 ([] : List UInt8) 0 ∧ ∀ (b_111 : List UInt8) (x_114 : Int), I1 b_111 x_114 →
  ((decide (x_114 < ((lines.length : Nat) : Int))) = true →
  ((0 : Int) ≤ x_114 ∧ x_114 < (lines.length : Int)) ∧
  ∀ (_ : sm (gi lines x_114)),
  ∃ (I2 : (List UInt8) → Int → Prop) (μ2 : (List UInt8) → Int → Nat), I2 b_111 0 ∧ ∀ (b_128 : List UInt8) (x_132 : Int), I2 b_128 x_132 →
  ((decide (x_132 < (((gi lines x_114).length : Nat) : Int))) = true →
  ((0 : Int) ≤ x_132 ∧ x_132 < ((gi lines x_114).length : Int)) ∧
  ((decide (x_132 > 0)) = true →
  (b_128.length + 1 ≤ 140737488355328 ∧ (0 : Int) ≤ 32 ∧ (32 : Int) < 256) ∧
  VC36_J3 lines x_114 I2 μ2 b_128 x_132 (b_128 ++ [UInt8.ofNat (32 : Int).toNat])) ∧
  ((decide (x_132 > 0)) = false →
  VC36_J3 lines x_114 I2 μ2 b_128 x_132 b_128)) ∧
  ((decide (x_132 < (((gi lines x_114).length : Nat) : Int))) = false →
  VC36_J2 I1 μ1 b_111 x_114 b_128)) ∧
  ((decide (x_114 < ((lines.length : Nat) : Int))) = false →
  VC36_J1 Q b_111)


def VC16_J1 (Q : Bool → Prop) : Prop :=
  Q true
def VC16_J2 (I1 : Int → Prop) (μ1 : Int → Nat) (i_103 : Int) : Prop :=
  I1 (IntKind.i64.wrap (i_103 + 1)) ∧ μ1 (IntKind.i64.wrap (i_103 + 1)) < μ1 i_103
/-- replevin/replevinref05.Same -/
def VC16 (a_ : List (List Ref05_Token)) (b_ : List (List Ref05_Token)) (Q : Bool → Prop) : Prop :=
  ∀ (_ : sm a_),
  ∀ (_ : sm b_),
  ((((a_.length : Nat) : Int) != ((b_.length : Nat) : Int)) = true →
  Q false) ∧
  ((((a_.length : Nat) : Int) != ((b_.length : Nat) : Int)) = false →
  ∃ (I1 : Int → Prop) (μ1 : Int → Nat), I1 0 ∧ ∀ (i_103 : Int), I1 i_103 →
  ((decide (i_103 < ((a_.length : Nat) : Int))) = true →
  ((0 : Int) ≤ i_103 ∧ i_103 < (a_.length : Int)) ∧
  ∀ (_ : sm (gi a_ i_103)),
  ((0 : Int) ≤ i_103 ∧ i_103 < (b_.length : Int)) ∧
  ∀ (_ : sm (gi b_ i_103)),
  (((((gi a_ i_103).length : Nat) : Int) != (((gi b_ i_103).length : Nat) : Int)) = true →
  Q false) ∧
  (((((gi a_ i_103).length : Nat) : Int) != (((gi b_ i_103).length : Nat) : Int)) = false →
  ∃ (I2 : Int → Prop) (μ2 : Int → Nat), I2 0 ∧ ∀ (k_122 : Int), I2 k_122 →
  ((0 : Int) ≤ i_103 ∧ i_103 < (a_.length : Int)) ∧
  ∀ (_ : sm (gi a_ i_103)),
  ((decide (k_122 < (((gi a_ i_103).length : Nat) : Int))) = true →
  ((0 : Int) ≤ i_103 ∧ i_103 < (a_.length : Int)) ∧
  ∀ (_ : sm (gi a_ i_103)),
  ((0 : Int) ≤ k_122 ∧ k_122 < ((gi a_ i_103).length : Int)) ∧
  ((0 : Int) ≤ i_103 ∧ i_103 < (b_.length : Int)) ∧
  ∀ (_ : sm (gi b_ i_103)),
  ((0 : Int) ≤ k_122 ∧ k_122 < ((gi b_ i_103).length : Int)) ∧
  ((!(((gi (gi a_ i_103) k_122).Line) == ((gi (gi b_ i_103) k_122).Line) && (((gi (gi a_ i_103) k_122).At) == ((gi (gi b_ i_103) k_122).At) && (((gi (gi a_ i_103) k_122).Text) == ((gi (gi b_ i_103) k_122).Text) && true)))) = true →
  Q false) ∧
  ((!(((gi (gi a_ i_103) k_122).Line) == ((gi (gi b_ i_103) k_122).Line) && (((gi (gi a_ i_103) k_122).At) == ((gi (gi b_ i_103) k_122).At) && (((gi (gi a_ i_103) k_122).Text) == ((gi (gi b_ i_103) k_122).Text) && true)))) = false →
  I2 (IntKind.i64.wrap (k_122 + 1)) ∧ μ2 (IntKind.i64.wrap (k_122 + 1)) < μ2 k_122)) ∧
  ((decide (k_122 < (((gi a_ i_103).length : Nat) : Int))) = false →
  VC16_J2 I1 μ1 i_103))) ∧
  ((decide (i_103 < ((a_.length : Nat) : Int))) = false →
  VC16_J1 Q))


def VC17_J1 (Q : ((List (List Ref05_Token))) → Prop) (out_101 : List (List Ref05_Token)) : Prop :=
  Q out_101
def VC17_J2 (I1 : (List (List Ref05_Token)) → Int → Prop) (μ1 : (List (List Ref05_Token)) → Int → Nat) (out_108 : List (List Ref05_Token)) (i_112 : Int) (out_114 : List (List Ref05_Token)) (row_118 : List Ref05_Token) : Prop :=
  (out_114.length + [row_118].length ≤ 1099511627776) ∧
  I1 (out_114 ++ [row_118]) (IntKind.i64.wrap (i_112 + 1)) ∧ μ1 (out_114 ++ [row_118]) (IntKind.i64.wrap (i_112 + 1)) < μ1 out_108 i_112
/-- replevin/replevinlaw05.Of -/
def VC17 (l_ : List (List Token_Token)) (Q : (List (List Ref05_Token)) → Prop) : Prop :=
  ∀ (_ : sm l_),
  ∃ (I1 : (List (List Ref05_Token)) → Int → Prop) (μ1 : (List (List Ref05_Token)) → Int → Nat), I1 [] 0 ∧ ∀ (out_108 : List (List Ref05_Token)) (i_112 : Int), I1 out_108 i_112 →
  ((decide (i_112 < ((l_.length : Nat) : Int))) = true →
  ∃ (I2 : (List (List Ref05_Token)) → (List Ref05_Token) → Int → Prop) (μ2 : (List (List Ref05_Token)) → (List Ref05_Token) → Int → Nat), I2 out_108 [] 0 ∧ ∀ (out_134 : List (List Ref05_Token)) (row_138 : List Ref05_Token) (k_142 : Int), I2 out_134 row_138 k_142 →
  ((0 : Int) ≤ i_112 ∧ i_112 < (l_.length : Int)) ∧
  ∀ (_ : sm (gi l_ i_112)),
  ((decide (k_142 < (((gi l_ i_112).length : Nat) : Int))) = true →
  ((0 : Int) ≤ i_112 ∧ i_112 < (l_.length : Int)) ∧
  ∀ (_ : sm (gi l_ i_112)),
  ((0 : Int) ≤ k_142 ∧ k_142 < ((gi l_ i_112).length : Int)) ∧
  (row_138.length + [(⟨(gi (gi l_ i_112) k_142).Line, (gi (gi l_ i_112) k_142).At, (gi (gi l_ i_112) k_142).Text⟩ : Ref05_Token)].length ≤ 1099511627776) ∧
  I2 out_134 (row_138 ++ [(⟨(gi (gi l_ i_112) k_142).Line, (gi (gi l_ i_112) k_142).At, (gi (gi l_ i_112) k_142).Text⟩ : Ref05_Token)]) (IntKind.i64.wrap (k_142 + 1)) ∧ μ2 out_134 (row_138 ++ [(⟨(gi (gi l_ i_112) k_142).Line, (gi (gi l_ i_112) k_142).At, (gi (gi l_ i_112) k_142).Text⟩ : Ref05_Token)]) (IntKind.i64.wrap (k_142 + 1)) < μ2 out_134 row_138 k_142) ∧
  ((decide (k_142 < (((gi l_ i_112).length : Nat) : Int))) = false →
  VC17_J2 I1 μ1 out_108 i_112 out_134 row_138)) ∧
  ((decide (i_112 < ((l_.length : Nat) : Int))) = false →
  VC17_J1 Q out_108)


/-- replevin/object.within -/
def VC40 (n_ : Int) (top : Int) (Q : Bool → Prop) : Prop :=
  Q ((decide (n_ ≥ 0)) && (decide (n_ < top)))


/-- cmp.isNaN[int] -/
def VC73 (x_ : Int) (Q : Bool → Prop) : Prop :=
  Q (x_ != x_)


/-- cmp.Compare[int] -/
def VC63 (x_ : Int) (y_ : Int) (Q : Int → Prop) : Prop :=
  ∀ r104, cmp_isNaN_int x_ = r104 →
  ∀ r108, cmp_isNaN_int y_ = r108 →
  (r104 = true →
  (r108 = true →
  Q 0) ∧
  (r108 = false →
  Q (-1))) ∧
  (r104 = false →
  (r108 = true →
  Q 1) ∧
  (r108 = false →
  ((decide (x_ < y_)) = true →
  Q (-1)) ∧
  ((decide (x_ < y_)) = false →
  ((decide (x_ > y_)) = true →
  Q 1) ∧
  ((decide (x_ > y_)) = false →
  Q 0))))


def VC62_J1 (Q : Int → Prop) : Prop :=
  Q 0
/-- cmp.Or[int] -/
def VC62 (vals : List Int) (Q : Int → Prop) : Prop :=
  ∀ (_ : sm vals),
  ∃ (I1 : Int → Prop) (μ1 : Int → Nat), I1 0 ∧ ∀ (x_102 : Int), I1 x_102 →
  ((decide (x_102 < ((vals.length : Nat) : Int))) = true →
  ((0 : Int) ≤ x_102 ∧ x_102 < (vals.length : Int)) ∧
  (((gi vals x_102) != 0) = true →
  Q (gi vals x_102)) ∧
  (((gi vals x_102) != 0) = false →
  I1 (IntKind.i64.wrap (x_102 + 1)) ∧ μ1 (IntKind.i64.wrap (x_102 + 1)) < μ1 x_102)) ∧
  ((decide (x_102 < ((vals.length : Nat) : Int))) = false →
  VC62_J1 Q)


/-- replevin/object.place -/
def VC54 (a_ : Api_Row) (b_ : Api_Row) (Q : Int → Prop) : Prop :=
  ∀ r106, cmp_Compare_int a_.State b_.State = r106 →
  ∀ r110, cmp_Compare_int a_.Kind b_.Kind = r110 →
  ∀ r118, cmp_Or_int [r106, r110] = r118 →
  Q r118


def VC41_J2 (Q : Int → Prop) (x_114 : Bool) : Prop :=
  (x_114 = true →
  Q 32) ∧
  (x_114 = false →
  Q 0)
def VC41_J1 (o_ : Api_Object) (i_ : Int) (Q : Int → Prop) (x_104 : Bool) : Prop :=
  (x_104 = true →
  Q 30) ∧
  (x_104 = false →
  ∀ r109, object_within ((gi o_.Rows i_).Kind) o_.Kinds = r109 →
  ((!r109) = true →
  Q 31) ∧
  ((!r109) = false →
  ∀ r113, object_within ((gi o_.Rows i_).Result) 1000001 = r113 →
  ((!r113) = true →
  Q 7) ∧
  ((!r113) = false →
  ((decide (i_ > 0)) = true →
  ((0 : Int) ≤ (IntKind.i64.wrap (i_ - 1)) ∧ (IntKind.i64.wrap (i_ - 1)) < (o_.Rows.length : Int)) ∧
  ∀ r123, object_place (gi o_.Rows (IntKind.i64.wrap (i_ - 1))) (gi o_.Rows i_) = r123 →
  VC41_J2 Q (decide (r123 ≥ 0))) ∧
  ((decide (i_ > 0)) = false →
  VC41_J2 Q false))))
/-- replevin/object.row -/
def VC41 (o_ : Api_Object) (i_ : Int) (Q : Int → Prop) : Prop :=
  ∀ (_ : sm o_.Rows),
  ((0 : Int) ≤ i_ ∧ i_ < (o_.Rows.length : Int)) ∧
  ∀ r129, object_within ((gi o_.Rows i_).State) o_.States = r129 →
  ((!r129) = true →
  VC41_J1 o_ i_ Q true) ∧
  ((!r129) = false →
  ∀ r133, object_within ((gi o_.Rows i_).Next) o_.States = r133 →
  VC41_J1 o_ i_ Q (!r133))


def VC24_J2 (o_ : Api_Object) (Q : (Int × Int) → Prop) : Prop :=
  Q (((o_.Rows.length : Nat) : Int), 0)
def VC24_J1 (o_ : Api_Object) (Q : (Int × Int) → Prop) (x_101 : Bool) : Prop :=
  (x_101 = true →
  Q ((-1), 2)) ∧
  (x_101 = false →
  ∃ (I1 : Int → Prop) (μ1 : Int → Nat), I1 0 ∧ ∀ (x_104 : Int), I1 x_104 →
  ((decide (x_104 < ((o_.Rows.length : Nat) : Int))) = true →
  (preRow o_ x_104) ∧
  ∀ r109, object_row o_ x_104 = r109 →
  ((r109 != 0) = true →
  Q (x_104, r109)) ∧
  ((r109 != 0) = false →
  I1 (IntKind.i64.wrap (x_104 + 1)) ∧ μ1 (IntKind.i64.wrap (x_104 + 1)) < μ1 x_104)) ∧
  ((decide (x_104 < ((o_.Rows.length : Nat) : Int))) = false →
  VC24_J2 o_ Q))
/-- replevin/object.Check -/
def VC24 (o_ : Api_Object) (Q : Int × Int → Prop) : Prop :=
  ∀ (_ : sm o_.Rows),
  ∀ r117, object_within (IntKind.i64.wrap (o_.States - 1)) 32 = r117 →
  ((!r117) = true →
  VC24_J1 o_ Q true) ∧
  ((!r117) = false →
  ∀ r121, object_within (IntKind.i64.wrap (o_.Kinds - 1)) 64 = r121 →
  ((!r121) = true →
  VC24_J1 o_ Q true) ∧
  ((!r121) = false →
  ∀ r125, object_within o_.Init o_.States = r125 →
  VC24_J1 o_ Q (!r125)))


def VC42_J1 (Q : Bool → Prop) : Prop :=
  Q true
/-- slices.Equal[[]replevin/api.Row,replevin/api.Row] -/
def VC42 (s1 : List Api_Row) (s2 : List Api_Row) (Q : Bool → Prop) : Prop :=
  ∀ (_ : sm s1),
  ∀ (_ : sm s2),
  ((((s1.length : Nat) : Int) != ((s2.length : Nat) : Int)) = true →
  Q false) ∧
  ((((s1.length : Nat) : Int) != ((s2.length : Nat) : Int)) = false →
  ∃ (I1 : Int → Prop) (μ1 : Int → Nat), I1 0 ∧ ∀ (x_103 : Int), I1 x_103 →
  ((decide (x_103 < ((s1.length : Nat) : Int))) = true →
  ((0 : Int) ≤ x_103 ∧ x_103 < (s1.length : Int)) ∧
  ((0 : Int) ≤ x_103 ∧ x_103 < (s2.length : Int)) ∧
  ((!(((gi s1 x_103).State) == ((gi s2 x_103).State) && (((gi s1 x_103).Kind) == ((gi s2 x_103).Kind) && (((gi s1 x_103).Next) == ((gi s2 x_103).Next) && (((gi s1 x_103).Result) == ((gi s2 x_103).Result) && true))))) = true →
  Q false) ∧
  ((!(((gi s1 x_103).State) == ((gi s2 x_103).State) && (((gi s1 x_103).Kind) == ((gi s2 x_103).Kind) && (((gi s1 x_103).Next) == ((gi s2 x_103).Next) && (((gi s1 x_103).Result) == ((gi s2 x_103).Result) && true))))) = false →
  I1 (IntKind.i64.wrap (x_103 + 1)) ∧ μ1 (IntKind.i64.wrap (x_103 + 1)) < μ1 x_103)) ∧
  ((decide (x_103 < ((s1.length : Nat) : Int))) = false →
  VC42_J1 Q))


/-- replevin/object.Same -/
def VC25 (a_ : Api_Object) (b_ : Api_Object) (Q : Bool → Prop) : Prop :=
  ∀ (_ : sm a_.Rows),
  ∀ (_ : sm b_.Rows),
  ((((a_.States == b_.States) && (a_.Kinds == b_.Kinds)) && (a_.Init == b_.Init)) = true →
  ∀ r104, slices_Equal_api_Row_api_Row a_.Rows b_.Rows = r104 →
  Q r104) ∧
  ((((a_.States == b_.States) && (a_.Kinds == b_.Kinds)) && (a_.Init == b_.Init)) = false →
  Q false)


def VC33_J1 (o_ : Api_Object) (Q : (Int × Int) → Prop) : Prop :=
  Q (((o_.Rows.length : Nat) : Int), 0)
def VC33_J2 (Q : (Int × Int) → Prop) (I1 : Int → Prop) (μ1 : Int → Nat) (i_102 : Int) (x_107 : Bool) : Prop :=
  (x_107 = true →
  Q (i_102, 32)) ∧
  (x_107 = false →
  I1 (IntKind.i64.wrap (i_102 + 1)) ∧ μ1 (IntKind.i64.wrap (i_102 + 1)) < μ1 i_102)
/-- replevin/replevinref23.Check -/
def VC33 (o_ : Api_Object) (Q : Int × Int → Prop) : Prop :=
  ∀ (_ : sm o_.Rows),
  (((((((decide (o_.States < 1)) || (decide (o_.States > 32))) || (decide (o_.Kinds < 1))) || (decide (o_.Kinds > 64))) || (decide (o_.Init < 0))) || (decide (o_.Init ≥ o_.States))) = true →
  Q ((-1), 2)) ∧
  (((((((decide (o_.States < 1)) || (decide (o_.States > 32))) || (decide (o_.Kinds < 1))) || (decide (o_.Kinds > 64))) || (decide (o_.Init < 0))) || (decide (o_.Init ≥ o_.States))) = false →
  ∃ (I1 : Int → Prop) (μ1 : Int → Nat), I1 0 ∧ ∀ (i_102 : Int), I1 i_102 →
  ((decide (i_102 < ((o_.Rows.length : Nat) : Int))) = true →
  ((0 : Int) ≤ i_102 ∧ i_102 < (o_.Rows.length : Int)) ∧
  (((((decide (((gi o_.Rows i_102).State) < 0)) || (decide (((gi o_.Rows i_102).State) ≥ o_.States))) || (decide (((gi o_.Rows i_102).Next) < 0))) || (decide (((gi o_.Rows i_102).Next) ≥ o_.States))) = true →
  Q (i_102, 30)) ∧
  (((((decide (((gi o_.Rows i_102).State) < 0)) || (decide (((gi o_.Rows i_102).State) ≥ o_.States))) || (decide (((gi o_.Rows i_102).Next) < 0))) || (decide (((gi o_.Rows i_102).Next) ≥ o_.States))) = false →
  (((decide (((gi o_.Rows i_102).Kind) < 0)) || (decide (((gi o_.Rows i_102).Kind) ≥ o_.Kinds))) = true →
  Q (i_102, 31)) ∧
  (((decide (((gi o_.Rows i_102).Kind) < 0)) || (decide (((gi o_.Rows i_102).Kind) ≥ o_.Kinds))) = false →
  (((decide (((gi o_.Rows i_102).Result) < 0)) || (decide (((gi o_.Rows i_102).Result) > 1000000))) = true →
  Q (i_102, 7)) ∧
  (((decide (((gi o_.Rows i_102).Result) < 0)) || (decide (((gi o_.Rows i_102).Result) > 1000000))) = false →
  ((decide (i_102 > 0)) = true →
  ((0 : Int) ≤ (IntKind.i64.wrap (i_102 - 1)) ∧ (IntKind.i64.wrap (i_102 - 1)) < (o_.Rows.length : Int)) ∧
  ((decide (((gi o_.Rows (IntKind.i64.wrap (i_102 - 1))).State) > ((gi o_.Rows i_102).State))) = true →
  VC33_J2 Q I1 μ1 i_102 true) ∧
  ((decide (((gi o_.Rows (IntKind.i64.wrap (i_102 - 1))).State) > ((gi o_.Rows i_102).State))) = false →
  ((0 : Int) ≤ (IntKind.i64.wrap (i_102 - 1)) ∧ (IntKind.i64.wrap (i_102 - 1)) < (o_.Rows.length : Int)) ∧
  ((((gi o_.Rows (IntKind.i64.wrap (i_102 - 1))).State) == ((gi o_.Rows i_102).State)) = true →
  ((0 : Int) ≤ (IntKind.i64.wrap (i_102 - 1)) ∧ (IntKind.i64.wrap (i_102 - 1)) < (o_.Rows.length : Int)) ∧
  VC33_J2 Q I1 μ1 i_102 (decide (((gi o_.Rows (IntKind.i64.wrap (i_102 - 1))).Kind) ≥ ((gi o_.Rows i_102).Kind)))) ∧
  ((((gi o_.Rows (IntKind.i64.wrap (i_102 - 1))).State) == ((gi o_.Rows i_102).State)) = false →
  VC33_J2 Q I1 μ1 i_102 false))) ∧
  ((decide (i_102 > 0)) = false →
  VC33_J2 Q I1 μ1 i_102 false))))) ∧
  ((decide (i_102 < ((o_.Rows.length : Nat) : Int))) = false →
  VC33_J1 o_ Q))


def VC27_J1 (Q : Bool → Prop) : Prop :=
  Q true
/-- replevin/replevinref23.SameRows -/
def VC27 (a_ : List Api_Row) (b_ : List Api_Row) (Q : Bool → Prop) : Prop :=
  ∀ (_ : sm a_),
  ∀ (_ : sm b_),
  ((((a_.length : Nat) : Int) != ((b_.length : Nat) : Int)) = true →
  Q false) ∧
  ((((a_.length : Nat) : Int) != ((b_.length : Nat) : Int)) = false →
  ∃ (I1 : Int → Prop) (μ1 : Int → Nat), I1 0 ∧ ∀ (i_103 : Int), I1 i_103 →
  ((decide (i_103 < ((a_.length : Nat) : Int))) = true →
  ((0 : Int) ≤ i_103 ∧ i_103 < (a_.length : Int)) ∧
  ((0 : Int) ≤ i_103 ∧ i_103 < (b_.length : Int)) ∧
  ((!(((gi a_ i_103).State) == ((gi b_ i_103).State) && (((gi a_ i_103).Kind) == ((gi b_ i_103).Kind) && (((gi a_ i_103).Next) == ((gi b_ i_103).Next) && (((gi a_ i_103).Result) == ((gi b_ i_103).Result) && true))))) = true →
  Q false) ∧
  ((!(((gi a_ i_103).State) == ((gi b_ i_103).State) && (((gi a_ i_103).Kind) == ((gi b_ i_103).Kind) && (((gi a_ i_103).Next) == ((gi b_ i_103).Next) && (((gi a_ i_103).Result) == ((gi b_ i_103).Result) && true))))) = false →
  I1 (IntKind.i64.wrap (i_103 + 1)) ∧ μ1 (IntKind.i64.wrap (i_103 + 1)) < μ1 i_103)) ∧
  ((decide (i_103 < ((a_.length : Nat) : Int))) = false →
  VC27_J1 Q))


/-- replevin/replevinref23.Same -/
def VC10 (a_ : Api_Object) (b_ : Api_Object) (Q : Bool → Prop) : Prop :=
  ∀ (_ : sm a_.Rows),
  ∀ (_ : sm b_.Rows),
  ((((a_.States == b_.States) && (a_.Kinds == b_.Kinds)) && (a_.Init == b_.Init)) = true →
  ∀ r104, ref23_SameRows a_.Rows b_.Rows = r104 →
  Q r104) ∧
  ((((a_.States == b_.States) && (a_.Kinds == b_.Kinds)) && (a_.Init == b_.Init)) = false →
  Q false)


def VC23_J1 (Q : Bool → Prop) : Prop :=
  Q true
/-- replevin/replevinref01.SameInts -/
def VC23 (a_ : List Int) (b_ : List Int) (Q : Bool → Prop) : Prop :=
  ∀ (_ : sm a_),
  ∀ (_ : sm b_),
  ((((a_.length : Nat) : Int) != ((b_.length : Nat) : Int)) = true →
  Q false) ∧
  ((((a_.length : Nat) : Int) != ((b_.length : Nat) : Int)) = false →
  ∃ (I1 : Int → Prop) (μ1 : Int → Nat), I1 0 ∧ ∀ (i_103 : Int), I1 i_103 →
  ((decide (i_103 < ((a_.length : Nat) : Int))) = true →
  ((0 : Int) ≤ i_103 ∧ i_103 < (a_.length : Int)) ∧
  ((0 : Int) ≤ i_103 ∧ i_103 < (b_.length : Int)) ∧
  (((gi a_ i_103) != (gi b_ i_103)) = true →
  Q false) ∧
  (((gi a_ i_103) != (gi b_ i_103)) = false →
  I1 (IntKind.i64.wrap (i_103 + 1)) ∧ μ1 (IntKind.i64.wrap (i_103 + 1)) < μ1 i_103)) ∧
  ((decide (i_103 < ((a_.length : Nat) : Int))) = false →
  VC23_J1 Q))


/-- replevin/replevinlaw23.Few -/
def VC18 (o_ : Api_Object) (Q : Bool → Prop) : Prop :=
  ∀ (_ : sm o_.Rows),
  Q (decide (((o_.Rows.length : Nat) : Int) ≤ 300))


/-- math/bits.Mul64 -/
def VC65 (x_ : Int) (y_ : Int) (Q : Int × Int → Prop) : Prop :=
  Q (IntKind.u64.wrap ((IntKind.u64.wrap ((IntKind.u64.wrap (((x_).fdiv (2 ^ 32)) * ((y_).fdiv (2 ^ 32)))) + (((IntKind.u64.wrap ((IntKind.u64.wrap (((x_).fdiv (2 ^ 32)) * (IntKind.u64.wrap ((BitVec.ofInt IntKind.u64.bits y_ &&& BitVec.ofInt IntKind.u64.bits 4294967295).toNat : Int)))) + (((IntKind.u64.wrap ((IntKind.u64.wrap ((BitVec.ofInt IntKind.u64.bits x_ &&& BitVec.ofInt IntKind.u64.bits 4294967295).toNat : Int)) * (IntKind.u64.wrap ((BitVec.ofInt IntKind.u64.bits y_ &&& BitVec.ofInt IntKind.u64.bits 4294967295).toNat : Int))))).fdiv (2 ^ 32))))).fdiv (2 ^ 32)))) + (((IntKind.u64.wrap ((IntKind.u64.wrap ((BitVec.ofInt IntKind.u64.bits (IntKind.u64.wrap ((IntKind.u64.wrap (((x_).fdiv (2 ^ 32)) * (IntKind.u64.wrap ((BitVec.ofInt IntKind.u64.bits y_ &&& BitVec.ofInt IntKind.u64.bits 4294967295).toNat : Int)))) + (((IntKind.u64.wrap ((IntKind.u64.wrap ((BitVec.ofInt IntKind.u64.bits x_ &&& BitVec.ofInt IntKind.u64.bits 4294967295).toNat : Int)) * (IntKind.u64.wrap ((BitVec.ofInt IntKind.u64.bits y_ &&& BitVec.ofInt IntKind.u64.bits 4294967295).toNat : Int))))).fdiv (2 ^ 32)))) &&& BitVec.ofInt IntKind.u64.bits 4294967295).toNat : Int)) + (IntKind.u64.wrap ((IntKind.u64.wrap ((BitVec.ofInt IntKind.u64.bits x_ &&& BitVec.ofInt IntKind.u64.bits 4294967295).toNat : Int)) * ((y_).fdiv (2 ^ 32))))))).fdiv (2 ^ 32))), IntKind.u64.wrap (x_ * y_))


/-- math/bits.Mul -/
def VC55 (x_ : Int) (y_ : Int) (Q : Int × Int → Prop) : Prop :=
  (preM x_ y_) ∧
  ∀ r104, math_bits_Mul64 x_ y_ = r104 →
  Q (r104.1, r104.2)


def VC44_J1 (Q : ((List Int)) → Prop) (newslice_111 : List Int) : Prop :=
  Q newslice_111
/-- slices.Repeat[[]int,int] -/
def VC44 (x_ : List Int) (count : Int) (Q : (List Int) → Prop) : Prop :=
  ∀ (_ : sm x_),
  ((decide (count < 0)) = true →
  False) ∧
  ((decide (count < 0)) = false →
  (preM (IntKind.u64.wrap ((x_.length : Nat) : Int)) (IntKind.u64.wrap count)) ∧
  ∀ r104, math_bits_Mul (IntKind.u64.wrap ((x_.length : Nat) : Int)) (IntKind.u64.wrap count) = r104 →
  (((decide (r104.1 > 0)) || (decide (r104.2 > 9223372036854775807))) = true →
  False) ∧
  (((decide (r104.1 > 0)) || (decide (r104.2 > 9223372036854775807))) = false →
  ((0 : Int) ≤ (IntKind.i64.wrap r104.2) ∧ (IntKind.i64.wrap r104.2) ≤ (IntKind.i64.wrap r104.2) ∧ (IntKind.i64.wrap r104.2) ≤ 1099511627776) ∧
  ∃ (I1 : (List Int) → Int → Prop) (μ1 : (List Int) → Int → Nat), I1 ((List.replicate (IntKind.i64.wrap r104.2).toNat (0 : Int)).take 0 ++ x_.take ((List.replicate (IntKind.i64.wrap r104.2).toNat (0 : Int)).length - 0) ++ (List.replicate (IntKind.i64.wrap r104.2).toNat (0 : Int)).drop (0 + min x_.length ((List.replicate (IntKind.i64.wrap r104.2).toNat (0 : Int)).length - 0))) ((min x_.length ((List.replicate (IntKind.i64.wrap r104.2).toNat (0 : Int)).length - 0) : Nat) : Int) ∧ ∀ (newslice_117 : List Int) (n_121 : Int), I1 newslice_117 n_121 →
  ((decide (n_121 < ((newslice_117.length : Nat) : Int))) = true →
  ((0 : Int) ≤ n_121 ∧ n_121 ≤ (newslice_117.length : Int)) ∧
  ((0 : Int) ≤ n_121 ∧ n_121 ≤ (newslice_117.length : Int)) ∧
  I1 (newslice_117.take n_121.toNat ++ (newslice_117.take n_121.toNat).take (newslice_117.length - n_121.toNat) ++ newslice_117.drop (n_121.toNat + min (newslice_117.take n_121.toNat).length (newslice_117.length - n_121.toNat))) (IntKind.i64.wrap (n_121 + ((min (newslice_117.take n_121.toNat).length (newslice_117.length - n_121.toNat) : Nat) : Int))) ∧ μ1 (newslice_117.take n_121.toNat ++ (newslice_117.take n_121.toNat).take (newslice_117.length - n_121.toNat) ++ newslice_117.drop (n_121.toNat + min (newslice_117.take n_121.toNat).length (newslice_117.length - n_121.toNat))) (IntKind.i64.wrap (n_121 + ((min (newslice_117.take n_121.toNat).length (newslice_117.length - n_121.toNat) : Nat) : Int))) < μ1 newslice_117 n_121) ∧
  ((decide (n_121 < ((newslice_117.length : Nat) : Int))) = false →
  VC44_J1 Q newslice_117)))


/-- replevin/objtext.bounds$1 -/
def VC43 (x_ : Int) (cap1 : Int) (Q : (List Int) → Prop) : Prop :=
  (preRep [x_] cap1) ∧
  ∀ r108, slices_Repeat_int_int [x_] cap1 = r108 →
  ∀ (_ : sm r108),
  Q r108


/-- replevin/objtext.bounds -/
def VC28 (n_ : Int) (Q : (List Int) × (List Int) → Prop) : Prop :=
  (preB1 0 n_) ∧
  ∀ r104, objtext_bounds_1 0 n_ = r104 →
  ∀ (_ : sm r104),
  (preB1 1000000 n_) ∧
  ∀ r112, objtext_bounds_1 1000000 n_ = r112 →
  ∀ (_ : sm r112),
  Q (r104, r112)


def VC21_J1 (l_ : List Token_Token) (end_ : Int) (Q : ((List Int) × Int × Int) → Prop) (out_117 : List Int) : Prop :=
  ((decide (((l_.length : Nat) : Int) > (IntKind.i64.wrap (((out_117.length : Nat) : Int) + 1)))) = true →
  ((0 : Int) ≤ (IntKind.i64.wrap (((out_117.length : Nat) : Int) + 1)) ∧ (IntKind.i64.wrap (((out_117.length : Nat) : Int) + 1)) < (l_.length : Int)) ∧
  Q ([], (gi l_ (IntKind.i64.wrap (((out_117.length : Nat) : Int) + 1))).At, 6)) ∧
  ((decide (((l_.length : Nat) : Int) > (IntKind.i64.wrap (((out_117.length : Nat) : Int) + 1)))) = false →
  Q (out_117, end_, 0))
/-- replevin/objtext.Numbers -/
def VC21 (l_ : List Token_Token) (word : List UInt8) (lo : List Int) (hi : List Int) (end_ : Int) (Q : (List Int) × Int × Int → Prop) : Prop :=
  ∀ (_ : sm l_),
  ∀ (_ : sm lo),
  ∀ (_ : sm hi),
  ((((l_.length : Nat) : Int) == 0) = true →
  Q ([], end_, 4)) ∧
  ((((l_.length : Nat) : Int) == 0) = false →
  ((0 : Int) ≤ 0 ∧ 0 < (l_.length : Int)) ∧
  ((!(((gi l_ 0).Text) == word)) = true →
  ((0 : Int) ≤ 0 ∧ 0 < (l_.length : Int)) ∧
  Q ([], (gi l_ 0).At, 8)) ∧
  ((!(((gi l_ 0).Text) == word)) = false →
  ((0 : Int) ≤ (IntKind.i64.wrap (((l_.length : Nat) : Int) - 1)) ∧ (IntKind.i64.wrap (((l_.length : Nat) : Int) - 1)) < (l_.length : Int)) ∧
  ∃ (I1 : (List Int) → Int → Prop) (μ1 : (List Int) → Int → Nat), I1 [] 0 ∧ ∀ (out_133 : List Int) (x_137 : Int), I1 out_133 x_137 →
  ((decide (x_137 < (if ((hi.length : Nat) : Int) < ((lo.length : Nat) : Int) then ((hi.length : Nat) : Int) else ((lo.length : Nat) : Int)))) = true →
  ((decide ((IntKind.i64.wrap (x_137 + 1)) ≥ ((l_.length : Nat) : Int))) = true →
  Q ([], IntKind.i64.wrap (((gi l_ (IntKind.i64.wrap (((l_.length : Nat) : Int) - 1))).At) + ((((gi l_ (IntKind.i64.wrap (((l_.length : Nat) : Int) - 1))).Text).length : Nat) : Int)), 4)) ∧
  ((decide ((IntKind.i64.wrap (x_137 + 1)) ≥ ((l_.length : Nat) : Int))) = false →
  ((0 : Int) ≤ (IntKind.i64.wrap (x_137 + 1)) ∧ (IntKind.i64.wrap (x_137 + 1)) < (l_.length : Int)) ∧
  ((0 : Int) ≤ x_137 ∧ x_137 < (lo.length : Int)) ∧
  ((0 : Int) ≤ x_137 ∧ x_137 < (hi.length : Int)) ∧
  (preNum ((gi l_ (IntKind.i64.wrap (x_137 + 1))).Text) (gi lo x_137) (gi hi x_137)) ∧
  ∀ r154, token_Number ((gi l_ (IntKind.i64.wrap (x_137 + 1))).Text) (gi lo x_137) (gi hi x_137) = r154 →
  ((r154.2 != 0) = true →
  Q ([], (gi l_ (IntKind.i64.wrap (x_137 + 1))).At, r154.2)) ∧
  ((r154.2 != 0) = false →
  (out_133.length + [r154.1].length ≤ 1099511627776) ∧
  I1 (out_133 ++ [r154.1]) (IntKind.i64.wrap (x_137 + 1)) ∧ μ1 (out_133 ++ [r154.1]) (IntKind.i64.wrap (x_137 + 1)) < μ1 out_133 x_137))) ∧
  ((decide (x_137 < (if ((hi.length : Nat) : Int) < ((lo.length : Nat) : Int) then ((hi.length : Nat) : Int) else ((lo.length : Nat) : Int)))) = false →
  VC21_J1 l_ end_ Q out_133)))


def VC22_J1 (l_ : List Ref05_Token) (end_ : Int) (Q : ((List Int) × Int × Int) → Prop) (out_114 : List Int) : Prop :=
  ((((l_.length : Nat) : Int) != (IntKind.i64.wrap (((out_114.length : Nat) : Int) + 1))) = true →
  ((0 : Int) ≤ (IntKind.i64.wrap (((out_114.length : Nat) : Int) + 1)) ∧ (IntKind.i64.wrap (((out_114.length : Nat) : Int) + 1)) < (l_.length : Int)) ∧
  Q ([], (gi l_ (IntKind.i64.wrap (((out_114.length : Nat) : Int) + 1))).At, 6)) ∧
  ((((l_.length : Nat) : Int) != (IntKind.i64.wrap (((out_114.length : Nat) : Int) + 1))) = false →
  Q (out_114, end_, 0))
/-- replevin/replevinref24.Numbers -/
def VC22 (l_ : List Ref05_Token) (word : List UInt8) (lo : List Int) (hi : List Int) (end_ : Int) (Q : (List Int) × Int × Int → Prop) : Prop :=
  ∀ (_ : sm l_),
  ∀ (_ : sm lo),
  ∀ (_ : sm hi),
  ((((l_.length : Nat) : Int) == 0) = true →
  Q ([], end_, 4)) ∧
  ((((l_.length : Nat) : Int) == 0) = false →
  ((0 : Int) ≤ 0 ∧ 0 < (l_.length : Int)) ∧
  ((!(((gi l_ 0).Text) == word)) = true →
  ((0 : Int) ≤ 0 ∧ 0 < (l_.length : Int)) ∧
  Q ([], (gi l_ 0).At, 8)) ∧
  ((!(((gi l_ 0).Text) == word)) = false →
  ∃ (I1 : (List Int) → Int → Prop) (μ1 : (List Int) → Int → Nat), I1 [] 0 ∧ ∀ (out_130 : List Int) (i_134 : Int), I1 out_130 i_134 →
  (((decide (i_134 < ((lo.length : Nat) : Int))) && (decide (i_134 < ((hi.length : Nat) : Int)))) = true →
  (((IntKind.i64.wrap (i_134 + 1)) == ((l_.length : Nat) : Int)) = true →
  ((0 : Int) ≤ i_134 ∧ i_134 < (l_.length : Int)) ∧
  ((0 : Int) ≤ i_134 ∧ i_134 < (l_.length : Int)) ∧
  Q ([], IntKind.i64.wrap (((gi l_ i_134).At) + ((((gi l_ i_134).Text).length : Nat) : Int)), 4)) ∧
  (((IntKind.i64.wrap (i_134 + 1)) == ((l_.length : Nat) : Int)) = false →
  ((0 : Int) ≤ (IntKind.i64.wrap (i_134 + 1)) ∧ (IntKind.i64.wrap (i_134 + 1)) < (l_.length : Int)) ∧
  ((0 : Int) ≤ i_134 ∧ i_134 < (lo.length : Int)) ∧
  ((0 : Int) ≤ i_134 ∧ i_134 < (hi.length : Int)) ∧
  (preNum ((gi l_ (IntKind.i64.wrap (i_134 + 1))).Text) (gi lo i_134) (gi hi i_134)) ∧
  ∀ r163, ref05_Number ((gi l_ (IntKind.i64.wrap (i_134 + 1))).Text) (gi lo i_134) (gi hi i_134) = r163 →
  ((r163.2 != 0) = true →
  ((0 : Int) ≤ (IntKind.i64.wrap (i_134 + 1)) ∧ (IntKind.i64.wrap (i_134 + 1)) < (l_.length : Int)) ∧
  Q ([], (gi l_ (IntKind.i64.wrap (i_134 + 1))).At, r163.2)) ∧
  ((r163.2 != 0) = false →
  (out_130.length + [r163.1].length ≤ 1099511627776) ∧
  I1 (out_130 ++ [r163.1]) (IntKind.i64.wrap (i_134 + 1)) ∧ μ1 (out_130 ++ [r163.1]) (IntKind.i64.wrap (i_134 + 1)) < μ1 out_130 i_134))) ∧
  (((decide (i_134 < ((lo.length : Nat) : Int))) && (decide (i_134 < ((hi.length : Nat) : Int)))) = false →
  VC22_J1 l_ end_ Q out_130)))


def VC26_J1 (Q : ((List Token_Token) × (List (List Token_Token))) → Prop) : Prop :=
  Q ([], [])
/-- replevin/objtext.next -/
def VC26 (lines : List (List Token_Token)) (Q : (List Token_Token) × (List (List Token_Token)) → Prop) : Prop :=
  ∀ (_ : sm lines),
  ∃ (I1 : Int → Prop) (μ1 : Int → Nat), I1 0 ∧ ∀ (x_103 : Int), I1 x_103 →
  ((decide (x_103 < ((lines.length : Nat) : Int))) = true →
  ((0 : Int) ≤ x_103 ∧ x_103 < (lines.length : Int)) ∧
  ∀ (_ : sm (gi lines x_103)),
  ((decide ((((gi lines x_103).length : Nat) : Int) > 0)) = true →
  ((0 : Int) ≤ (IntKind.i64.wrap (x_103 + 1)) ∧ (IntKind.i64.wrap (x_103 + 1)) ≤ (lines.length : Int)) ∧
  Q (gi lines x_103, lines.drop (IntKind.i64.wrap (x_103 + 1)).toNat)) ∧
  ((decide ((((gi lines x_103).length : Nat) : Int) > 0)) = false →
  I1 (IntKind.i64.wrap (x_103 + 1)) ∧ μ1 (IntKind.i64.wrap (x_103 + 1)) < μ1 x_103)) ∧
  ((decide (x_103 < ((lines.length : Nat) : Int))) = false →
  VC26_J1 Q)


def VC11_J1 (end_ : Int) (Q : (Api_Object × (List (List Token_Token)) × Int × Int) → Prop) (r114 : (List Token_Token) × (List (List Token_Token))) (rest_150 : List (List Token_Token)) (places_155 : List Int) (x_159 : Int) (x_160 : Int) (x_161 : Int) (x_162 : List Api_Row) : Prop :=
  (preCk (⟨x_159, x_160, x_161, x_162⟩ : Api_Object)) ∧
  ∀ r169, object_Check (⟨x_159, x_160, x_161, x_162⟩ : Api_Object) = r169 →
  ((r169.2 != 0) = true →
  ((0 : Int) ≤ 0 ∧ 0 < (r114.1.length : Int)) ∧
  ([(gi r114.1 0).At].length + places_155.length ≤ 1099511627776) ∧
  ((0 : Int) ≤ (IntKind.i64.wrap (r169.1 + 1)) ∧ (IntKind.i64.wrap (r169.1 + 1)) < (([(gi r114.1 0).At] ++ places_155).length : Int)) ∧
  Q ((⟨0, 0, 0, []⟩ : Api_Object), [], gi ([(gi r114.1 0).At] ++ places_155) (IntKind.i64.wrap (r169.1 + 1)), r169.2)) ∧
  ((r169.2 != 0) = false →
  Q ((⟨x_159, x_160, x_161, x_162⟩ : Api_Object), rest_150, end_, 0))
/-- replevin/objtext.Take -/
def VC11 (lines : List (List Token_Token)) (end_ : Int) (Q : Api_Object × (List (List Token_Token)) × Int × Int → Prop) : Prop :=
  ∀ (_ : sm lines),
  (preBn 4) ∧
  ∀ r104, objtext_bounds 4 = r104 →
  ∀ (_ : sm r104.1),
  ∀ (_ : sm r104.2),
  ∀ r114, objtext_next lines = r114 →
  ∀ (_ : sm r114.1),
  ∀ (_ : sm r114.2),
  (preNT r114.1 ([111, 98, 106, 101, 99, 116] : List UInt8) r104.1 r104.2 end_) ∧
  ∀ r124, objtext_Numbers r114.1 ([111, 98, 106, 101, 99, 116] : List UInt8) r104.1 r104.2 end_ = r124 →
  ∀ (_ : sm r124.1),
  ((r124.2.2 != 0) = true →
  Q ((⟨0, 0, 0, []⟩ : Api_Object), [], r124.2.1, r124.2.2)) ∧
  ((r124.2.2 != 0) = false →
  ((0 : Int) ≤ 0 ∧ 0 < (r124.1.length : Int)) ∧
  ((0 : Int) ≤ 1 ∧ 1 < (r124.1.length : Int)) ∧
  ((0 : Int) ≤ 2 ∧ 2 < (r124.1.length : Int)) ∧
  ((0 : Int) ≤ 3 ∧ 3 < (r124.1.length : Int)) ∧
  ∃ (I1 : (List (List Token_Token)) → (List Int) → Int → Int → Int → Int → (List Api_Row) → Prop) (μ1 : (List (List Token_Token)) → (List Int) → Int → Int → Int → Int → (List Api_Row) → Nat), I1 r114.2 ([] : List Int) 0 (gi r124.1 0) (gi r124.1 1) (gi r124.1 2) [] ∧ ∀ (rest_244 : List (List Token_Token)) (places_251 : List Int) (x_255 : Int) (x_256 : Int) (x_257 : Int) (x_258 : Int) (x_259 : List Api_Row), I1 rest_244 places_251 x_255 x_256 x_257 x_258 x_259 →
  ((decide (x_255 < (gi r124.1 3))) = true →
  ∀ r266, objtext_next rest_244 = r266 →
  ∀ (_ : sm r266.1),
  ∀ (_ : sm r266.2),
  (preNT r266.1 ([114, 111, 119] : List UInt8) r104.1 r104.2 end_) ∧
  ∀ r276, objtext_Numbers r266.1 ([114, 111, 119] : List UInt8) r104.1 r104.2 end_ = r276 →
  ∀ (_ : sm r276.1),
  ((r276.2.2 != 0) = true →
  Q ((⟨0, 0, 0, []⟩ : Api_Object), [], r276.2.1, r276.2.2)) ∧
  ((r276.2.2 != 0) = false →
  ((0 : Int) ≤ 0 ∧ 0 < (r266.1.length : Int)) ∧
  (places_251.length + [(gi r266.1 0).At].length ≤ 1099511627776) ∧
  ((0 : Int) ≤ 0 ∧ 0 < (r276.1.length : Int)) ∧
  ((0 : Int) ≤ 1 ∧ 1 < (r276.1.length : Int)) ∧
  ((0 : Int) ≤ 2 ∧ 2 < (r276.1.length : Int)) ∧
  ((0 : Int) ≤ 3 ∧ 3 < (r276.1.length : Int)) ∧
  (x_259.length + [(⟨gi r276.1 0, gi r276.1 1, gi r276.1 2, gi r276.1 3⟩ : Api_Row)].length ≤ 1099511627776) ∧
  I1 r266.2 (places_251 ++ [(gi r266.1 0).At]) (IntKind.i64.wrap (x_255 + 1)) x_256 x_257 x_258 (x_259 ++ [(⟨gi r276.1 0, gi r276.1 1, gi r276.1 2, gi r276.1 3⟩ : Api_Row)]) ∧ μ1 r266.2 (places_251 ++ [(gi r266.1 0).At]) (IntKind.i64.wrap (x_255 + 1)) x_256 x_257 x_258 (x_259 ++ [(⟨gi r276.1 0, gi r276.1 1, gi r276.1 2, gi r276.1 3⟩ : Api_Row)]) < μ1 rest_244 places_251 x_255 x_256 x_257 x_258 x_259)) ∧
  ((decide (x_255 < (gi r124.1 3))) = false →
  VC11_J1 end_ Q r114 rest_244 places_251 x_256 x_257 x_258 x_259))


/-- replevin/objtext.Parse -/
def VC8 (s_ : List UInt8) (Q : Api_Object × Int × Int → Prop) : Prop :=
  ((decide (((s_.length : Nat) : Int) > 1000000)) = true →
  Q ((⟨0, 0, 0, []⟩ : Api_Object), 0, 3)) ∧
  ((decide (((s_.length : Nat) : Int) > 1000000)) = false →
  (len1 s_) ∧
  ∀ r106, token_Lines s_ = r106 →
  ∀ (_ : sm r106),
  (preTk r106 ((s_.length : Nat) : Int)) ∧
  ∀ r113, objtext_Take r106 ((s_.length : Nat) : Int) = r113 →
  ∀ (_ : sm r113.1.Rows),
  ∀ (_ : sm r113.2.1),
  ∀ r123, objtext_next r113.2.1 = r123 →
  ∀ (_ : sm r123.1),
  ∀ (_ : sm r123.2),
  (((r113.2.2.2 == 0) && (decide (((r123.1.length : Nat) : Int) > 0))) = true →
  ((0 : Int) ≤ 0 ∧ 0 < (r123.1.length : Int)) ∧
  Q ((⟨0, 0, 0, []⟩ : Api_Object), (gi r123.1 0).At, 6)) ∧
  (((r113.2.2.2 == 0) && (decide (((r123.1.length : Nat) : Int) > 0))) = false →
  Q (r113.1, r113.2.2.1, r113.2.2.2)))


def VC13_J1 (Q : ((List (List Ref05_Token))) → Prop) (out_101 : List (List Ref05_Token)) : Prop :=
  Q out_101
def VC13_J2 (I1 : (List (List Ref05_Token)) → Int → Prop) (μ1 : (List (List Ref05_Token)) → Int → Nat) (out_108 : List (List Ref05_Token)) (i_112 : Int) (out_114 : List (List Ref05_Token)) : Prop :=
  I1 out_114 (IntKind.i64.wrap (i_112 + 1)) ∧ μ1 out_114 (IntKind.i64.wrap (i_112 + 1)) < μ1 out_108 i_112
/-- replevin/replevinref24.Said -/
def VC13 (l_ : List (List Ref05_Token)) (Q : (List (List Ref05_Token)) → Prop) : Prop :=
  ∀ (_ : sm l_),
  ∃ (I1 : (List (List Ref05_Token)) → Int → Prop) (μ1 : (List (List Ref05_Token)) → Int → Nat), I1 [] 0 ∧ ∀ (out_108 : List (List Ref05_Token)) (i_112 : Int), I1 out_108 i_112 →
  ((decide (i_112 < ((l_.length : Nat) : Int))) = true →
  ((0 : Int) ≤ i_112 ∧ i_112 < (l_.length : Int)) ∧
  ∀ (_ : sm (gi l_ i_112)),
  ((decide ((((gi l_ i_112).length : Nat) : Int) > 0)) = true →
  ((0 : Int) ≤ i_112 ∧ i_112 < (l_.length : Int)) ∧
  ∀ (_ : sm (gi l_ i_112)),
  (out_108.length + [gi l_ i_112].length ≤ 1099511627776) ∧
  VC13_J2 I1 μ1 out_108 i_112 (out_108 ++ [gi l_ i_112])) ∧
  ((decide ((((gi l_ i_112).length : Nat) : Int) > 0)) = false →
  VC13_J2 I1 μ1 out_108 i_112 out_108)) ∧
  ((decide (i_112 < ((l_.length : Nat) : Int))) = false →
  VC13_J1 Q out_108)


/-- replevin/replevinref24.line -/
def VC32 (l_ : List (List Ref05_Token)) (i_ : Int) (word : List UInt8) (end_ : Int) (Q : (List Int) × Int × Int → Prop) : Prop :=
  ∀ (_ : sm l_),
  ((decide (i_ ≥ ((l_.length : Nat) : Int))) = true →
  Q ([], end_, 4)) ∧
  ((decide (i_ ≥ ((l_.length : Nat) : Int))) = false →
  ((0 : Int) ≤ i_ ∧ i_ < (l_.length : Int)) ∧
  ∀ (_ : sm (gi l_ i_)),
  (preNR (gi l_ i_) word [0, 0, 0, 0] [1000000, 1000000, 1000000, 1000000] end_) ∧
  ∀ r118, ref24_Numbers (gi l_ i_) word [0, 0, 0, 0] [1000000, 1000000, 1000000, 1000000] end_ = r118 →
  ∀ (_ : sm r118.1),
  Q (r118.1, r118.2.1, r118.2.2))


def VC15_J1 (l_ : List (List Ref05_Token)) (end_ : Int) (Q : (Api_Object × Int × Int × Int) → Prop) (r104 : (List Int) × Int × Int) (x_128 : Int) (x_129 : Int) (x_130 : Int) (x_131 : List Api_Row) : Prop :=
  ∀ r138, ref23_Check (⟨x_128, x_129, x_130, x_131⟩ : Api_Object) = r138 →
  ((r138.2 != 0) = true →
  ((0 : Int) ≤ (IntKind.i64.wrap (r138.1 + 1)) ∧ (IntKind.i64.wrap (r138.1 + 1)) < (l_.length : Int)) ∧
  ∀ (_ : sm (gi l_ (IntKind.i64.wrap (r138.1 + 1)))),
  ((0 : Int) ≤ 0 ∧ 0 < ((gi l_ (IntKind.i64.wrap (r138.1 + 1))).length : Int)) ∧
  Q ((⟨0, 0, 0, []⟩ : Api_Object), 0, (gi (gi l_ (IntKind.i64.wrap (r138.1 + 1))) 0).At, r138.2)) ∧
  ((r138.2 != 0) = false →
  ((0 : Int) ≤ 3 ∧ 3 < (r104.1.length : Int)) ∧
  Q ((⟨x_128, x_129, x_130, x_131⟩ : Api_Object), IntKind.i64.wrap ((gi r104.1 3) + 1), end_, 0))
/-- replevin/replevinref24.Take -/
def VC15 (l_ : List (List Ref05_Token)) (end_ : Int) (Q : Api_Object × Int × Int × Int → Prop) : Prop :=
  ∀ (_ : sm l_),
  (preL l_ 0 ([111, 98, 106, 101, 99, 116] : List UInt8) end_) ∧
  ∀ r104, ref24_line l_ 0 ([111, 98, 106, 101, 99, 116] : List UInt8) end_ = r104 →
  ∀ (_ : sm r104.1),
  ((r104.2.2 != 0) = true →
  Q ((⟨0, 0, 0, []⟩ : Api_Object), 0, r104.2.1, r104.2.2)) ∧
  ((r104.2.2 != 0) = false →
  ((0 : Int) ≤ 0 ∧ 0 < (r104.1.length : Int)) ∧
  ((0 : Int) ≤ 1 ∧ 1 < (r104.1.length : Int)) ∧
  ((0 : Int) ≤ 2 ∧ 2 < (r104.1.length : Int)) ∧
  ∃ (I1 : Int → Int → Int → Int → (List Api_Row) → Prop) (μ1 : Int → Int → Int → Int → (List Api_Row) → Nat), I1 1 (gi r104.1 0) (gi r104.1 1) (gi r104.1 2) [] ∧ ∀ (i_165 : Int) (x_166 : Int) (x_167 : Int) (x_168 : Int) (x_169 : List Api_Row), I1 i_165 x_166 x_167 x_168 x_169 →
  ((0 : Int) ≤ 3 ∧ 3 < (r104.1.length : Int)) ∧
  ((decide (i_165 ≤ (gi r104.1 3))) = true →
  (preL l_ i_165 ([114, 111, 119] : List UInt8) end_) ∧
  ∀ r179, ref24_line l_ i_165 ([114, 111, 119] : List UInt8) end_ = r179 →
  ∀ (_ : sm r179.1),
  ((r179.2.2 != 0) = true →
  Q ((⟨0, 0, 0, []⟩ : Api_Object), 0, r179.2.1, r179.2.2)) ∧
  ((r179.2.2 != 0) = false →
  ((0 : Int) ≤ 0 ∧ 0 < (r179.1.length : Int)) ∧
  ((0 : Int) ≤ 1 ∧ 1 < (r179.1.length : Int)) ∧
  ((0 : Int) ≤ 2 ∧ 2 < (r179.1.length : Int)) ∧
  ((0 : Int) ≤ 3 ∧ 3 < (r179.1.length : Int)) ∧
  (x_169.length + [(⟨gi r179.1 0, gi r179.1 1, gi r179.1 2, gi r179.1 3⟩ : Api_Row)].length ≤ 1099511627776) ∧
  I1 (IntKind.i64.wrap (i_165 + 1)) x_166 x_167 x_168 (x_169 ++ [(⟨gi r179.1 0, gi r179.1 1, gi r179.1 2, gi r179.1 3⟩ : Api_Row)]) ∧ μ1 (IntKind.i64.wrap (i_165 + 1)) x_166 x_167 x_168 (x_169 ++ [(⟨gi r179.1 0, gi r179.1 1, gi r179.1 2, gi r179.1 3⟩ : Api_Row)]) < μ1 i_165 x_166 x_167 x_168 x_169)) ∧
  ((decide (i_165 ≤ (gi r104.1 3))) = false →
  VC15_J1 l_ end_ Q r104 x_166 x_167 x_168 x_169))


/-- replevin/replevinref24.Parse -/
def VC9 (s_ : List UInt8) (Q : Api_Object × Int × Int → Prop) : Prop :=
  ((decide (((s_.length : Nat) : Int) > 1000000)) = true →
  Q ((⟨0, 0, 0, []⟩ : Api_Object), 0, 3)) ∧
  ((decide (((s_.length : Nat) : Int) > 1000000)) = false →
  (len1 s_) ∧
  ∀ r106, ref05_Lines s_ = r106 →
  ∀ (_ : sm r106),
  (preS r106) ∧
  ∀ r113, ref24_Said r106 = r113 →
  ∀ (_ : sm r113),
  (preRT r113 ((s_.length : Nat) : Int)) ∧
  ∀ r120, ref24_Take r113 ((s_.length : Nat) : Int) = r120 →
  ∀ (_ : sm r120.1.Rows),
  (((r120.2.2.2 == 0) && (decide (r120.2.1 < ((r113.length : Nat) : Int)))) = true →
  ((0 : Int) ≤ r120.2.1 ∧ r120.2.1 < (r113.length : Int)) ∧
  ∀ (_ : sm (gi r113 r120.2.1)),
  ((0 : Int) ≤ 0 ∧ 0 < ((gi r113 r120.2.1).length : Int)) ∧
  Q ((⟨0, 0, 0, []⟩ : Api_Object), (gi (gi r113 r120.2.1) 0).At, 6)) ∧
  (((r120.2.2.2 == 0) && (decide (r120.2.1 < ((r113.length : Nat) : Int)))) = false →
  Q (r120.1, r120.2.2.1, r120.2.2.2)))


def VC35_J1 (Q : ((List Token_Token)) → Prop) (out_105 : List Token_Token) : Prop :=
  Q out_105
/-- replevin/objtext.words -/
def VC35 (word : List UInt8) (n_ : List Int) (Q : (List Token_Token) → Prop) : Prop :=
  ∀ (_ : sm n_),
  ∃ (I1 : (List Token_Token) → Int → Prop) (μ1 : (List Token_Token) → Int → Nat), I1 [(⟨0, 0, word⟩ : Token_Token)] 0 ∧ ∀ (out_111 : List Token_Token) (x_116 : Int), I1 out_111 x_116 →
  ((decide (x_116 < ((n_.length : Nat) : Int))) = true →
  ((0 : Int) ≤ x_116 ∧ x_116 < (n_.length : Int)) ∧
  (preI (gi n_ x_116)) ∧
  ∀ r123, token_Digits (gi n_ x_116) = r123 →
  (out_111.length + [(⟨0, 0, r123⟩ : Token_Token)].length ≤ 1099511627776) ∧
  I1 (out_111 ++ [(⟨0, 0, r123⟩ : Token_Token)]) (IntKind.i64.wrap (x_116 + 1)) ∧ μ1 (out_111 ++ [(⟨0, 0, r123⟩ : Token_Token)]) (IntKind.i64.wrap (x_116 + 1)) < μ1 out_111 x_116) ∧
  ((decide (x_116 < ((n_.length : Nat) : Int))) = false →
  VC35_J1 Q out_111)


/-- (replevin/objtext.printed).line -/
def VC34 (p_ : Api_Row) (Q : (List Token_Token) → Prop) : Prop :=
  (preW ([114, 111, 119] : List UInt8) [p_.State, p_.Kind, p_.Next, p_.Result]) ∧
  ∀ r108, objtext_words ([114, 111, 119] : List UInt8) [p_.State, p_.Kind, p_.Next, p_.Result] = r108 →
  ∀ (_ : sm r108),
  Q r108


def VC19_J1 (Q : ((List UInt8) × Int) → Prop) (lines_120 : List (List Token_Token)) : Prop :=
  (preJ lines_120) ∧
  ∀ r127, token_Join lines_120 = r127 →
  Q (r127, 0)
/-- replevin/objtext.Print -/
def VC19 (o_ : Api_Object) (Q : (List UInt8) × Int → Prop) : Prop :=
  ∀ (_ : sm o_.Rows),
  (preCk o_) ∧
  ∀ r104, object_Check o_ = r104 →
  ((r104.2 != 0) = true →
  Q (([] : List UInt8), r104.2)) ∧
  ((r104.2 != 0) = false →
  (preW ([111, 98, 106, 101, 99, 116] : List UInt8) [o_.States, o_.Kinds, o_.Init, ((o_.Rows.length : Nat) : Int)]) ∧
  ∀ r112, objtext_words ([111, 98, 106, 101, 99, 116] : List UInt8) [o_.States, o_.Kinds, o_.Init, ((o_.Rows.length : Nat) : Int)] = r112 →
  ∀ (_ : sm r112),
  ∃ (I1 : (List (List Token_Token)) → Int → Prop) (μ1 : (List (List Token_Token)) → Int → Nat), I1 [r112] 0 ∧ ∀ (lines_128 : List (List Token_Token)) (x_133 : Int), I1 lines_128 x_133 →
  ((decide (x_133 < ((o_.Rows.length : Nat) : Int))) = true →
  ((0 : Int) ≤ x_133 ∧ x_133 < (o_.Rows.length : Int)) ∧
  (preP (⟨(gi o_.Rows x_133).State, (gi o_.Rows x_133).Kind, (gi o_.Rows x_133).Next, (gi o_.Rows x_133).Result⟩ : Api_Row)) ∧
  ∀ r140, objtext_printed_line (⟨(gi o_.Rows x_133).State, (gi o_.Rows x_133).Kind, (gi o_.Rows x_133).Next, (gi o_.Rows x_133).Result⟩ : Api_Row) = r140 →
  ∀ (_ : sm r140),
  (lines_128.length + [r140].length ≤ 1099511627776) ∧
  I1 (lines_128 ++ [r140]) (IntKind.i64.wrap (x_133 + 1)) ∧ μ1 (lines_128 ++ [r140]) (IntKind.i64.wrap (x_133 + 1)) < μ1 lines_128 x_133) ∧
  ((decide (x_133 < ((o_.Rows.length : Nat) : Int))) = false →
  VC19_J1 Q lines_128))


def VC37_J1 (Q : ((List UInt8)) → Prop) (w_101 : List UInt8) : Prop :=
  (w_101.length + ([10] : List UInt8).length ≤ 4611686018427387904) ∧
  Q (w_101 ++ ([10] : List UInt8))
/-- replevin/replevinref24.Words -/
def VC37 (w_ : List UInt8) (n_ : List Int) (Q : (List UInt8) → Prop) : Prop :=
  ∀ (_ : sm n_),
  ∃ (I1 : (List UInt8) → Int → Prop) (μ1 : (List UInt8) → Int → Nat), I1 w_ 0 ∧ ∀ (w_102 : List UInt8) (i_104 : Int), I1 w_102 i_104 →
  ((decide (i_104 < ((n_.length : Nat) : Int))) = true →
  (w_102.length + ([32] : List UInt8).length ≤ 4611686018427387904) ∧
  ((0 : Int) ≤ i_104 ∧ i_104 < (n_.length : Int)) ∧
  (preI (gi n_ i_104)) ∧
  ∀ r111, ref05_Digits (gi n_ i_104) = r111 →
  ((w_102 ++ ([32] : List UInt8)).length + r111.length ≤ 4611686018427387904) ∧
  I1 ((w_102 ++ ([32] : List UInt8)) ++ r111) (IntKind.i64.wrap (i_104 + 1)) ∧ μ1 ((w_102 ++ ([32] : List UInt8)) ++ r111) (IntKind.i64.wrap (i_104 + 1)) < μ1 w_102 i_104) ∧
  ((decide (i_104 < ((n_.length : Nat) : Int))) = false →
  VC37_J1 Q w_102)


def VC20_J1 (Q : ((List UInt8) × Int) → Prop) (s_113 : List UInt8) : Prop :=
  Q (s_113, 0)
/-- replevin/replevinref24.Print -/
def VC20 (o_ : Api_Object) (Q : (List UInt8) × Int → Prop) : Prop :=
  ∀ (_ : sm o_.Rows),
  ∀ r104, ref23_Check o_ = r104 →
  ((r104.2 != 0) = true →
  Q (([] : List UInt8), r104.2)) ∧
  ((r104.2 != 0) = false →
  (preWB ([111, 98, 106, 101, 99, 116] : List UInt8) [o_.States, o_.Kinds, o_.Init, ((o_.Rows.length : Nat) : Int)]) ∧
  ∀ r112, ref24_Words ([111, 98, 106, 101, 99, 116] : List UInt8) [o_.States, o_.Kinds, o_.Init, ((o_.Rows.length : Nat) : Int)] = r112 →
  ∃ (I1 : (List UInt8) → Int → Prop) (μ1 : (List UInt8) → Int → Nat), I1 r112 0 ∧ ∀ (s_114 : List UInt8) (i_115 : Int), I1 s_114 i_115 →
  ((decide (i_115 < ((o_.Rows.length : Nat) : Int))) = true →
  ((0 : Int) ≤ i_115 ∧ i_115 < (o_.Rows.length : Int)) ∧
  (preWB ([114, 111, 119] : List UInt8) [(gi o_.Rows i_115).State, (gi o_.Rows i_115).Kind, (gi o_.Rows i_115).Next, (gi o_.Rows i_115).Result]) ∧
  ∀ r127, ref24_Words ([114, 111, 119] : List UInt8) [(gi o_.Rows i_115).State, (gi o_.Rows i_115).Kind, (gi o_.Rows i_115).Next, (gi o_.Rows i_115).Result] = r127 →
  (s_114.length + r127.length ≤ 4611686018427387904) ∧
  I1 (s_114 ++ r127) (IntKind.i64.wrap (i_115 + 1)) ∧ μ1 (s_114 ++ r127) (IntKind.i64.wrap (i_115 + 1)) < μ1 s_114 i_115) ∧
  ((decide (i_115 < ((o_.Rows.length : Nat) : Int))) = false →
  VC20_J1 Q s_114))


/-- replevin/replevinlaw24.awake -/
def VC7 (Q : Bool → Prop) : Prop :=
  ∀ r104, objtext_Parse ([111, 98, 106, 101, 99, 116, 32, 49, 32, 49, 32, 48, 32, 49, 10, 114, 111, 119, 32, 48, 32, 48, 32, 48, 32, 55, 10] : List UInt8) = r104 →
  ∀ (_ : sm r104.1.Rows),
  (prePr r104.1) ∧
  ∀ r111, objtext_Print r104.1 = r111 →
  ∀ r115, objtext_Parse ([111, 98, 106, 101, 99, 116, 32, 49, 32, 49, 32, 48, 32, 49, 10, 114, 111, 119, 32, 49, 32, 48, 32, 48, 32, 55] : List UInt8) = r115 →
  ∀ (_ : sm r115.1.Rows),
  ∀ r122, objtext_Parse ([111, 98, 106, 101, 99, 116, 32, 49, 32, 49, 32, 48, 32, 49, 10, 114, 111, 119, 32, 48, 32, 48, 32, 48] : List UInt8) = r122 →
  ∀ (_ : sm r122.1.Rows),
  (preNT [(⟨0, 0, ([120] : List UInt8)⟩ : Token_Token), (⟨0, 2, ([53] : List UInt8)⟩ : Token_Token)] ([120] : List UInt8) [0] [9] 3) ∧
  ∀ r141, objtext_Numbers [(⟨0, 0, ([120] : List UInt8)⟩ : Token_Token), (⟨0, 2, ([53] : List UInt8)⟩ : Token_Token)] ([120] : List UInt8) [0] [9] 3 = r141 →
  ∀ (_ : sm r141.1),
  (len1 ([111, 98, 106, 101, 99, 116, 32, 49, 32, 49, 32, 48, 32, 48, 10, 114, 101, 115, 116] : List UInt8)) ∧
  ∀ r148, token_Lines ([111, 98, 106, 101, 99, 116, 32, 49, 32, 49, 32, 48, 32, 48, 10, 114, 101, 115, 116] : List UInt8) = r148 →
  ∀ (_ : sm r148),
  (preTk r148 19) ∧
  ∀ r155, objtext_Take r148 19 = r155 →
  ∀ (_ : sm r155.1.Rows),
  ∀ (_ : sm r155.2.1),
  (((r104.2.2 == 0) && (r104.2.1 == 27)) = true →
  ∀ r169, ref23_Same r104.1 (⟨1, 1, 0, [(⟨0, 0, 0, 7⟩ : Api_Row)]⟩ : Api_Object) = r169 →
  (((((((r169 && (r111.2 == 0)) && (r111.1 == ([111, 98, 106, 101, 99, 116, 32, 49, 32, 49, 32, 48, 32, 49, 10, 114, 111, 119, 32, 48, 32, 48, 32, 48, 32, 55, 10] : List UInt8))) && (r115.2.1 == 15)) && (r115.2.2 == 30)) && (r122.2.1 == 24)) && (r122.2.2 == 4)) = true →
  ∀ r177, ref01_SameInts r141.1 [5] = r177 →
  Q (((r177 && (r141.2.2 == 0)) && (((r155.2.1.length : Nat) : Int) == 1)) && (r155.2.2.2 == 0))) ∧
  (((((((r169 && (r111.2 == 0)) && (r111.1 == ([111, 98, 106, 101, 99, 116, 32, 49, 32, 49, 32, 48, 32, 49, 10, 114, 111, 119, 32, 48, 32, 48, 32, 48, 32, 55, 10] : List UInt8))) && (r115.2.1 == 15)) && (r115.2.2 == 30)) && (r122.2.1 == 24)) && (r122.2.2 == 4)) = false →
  Q false)) ∧
  (((r104.2.2 == 0) && (r104.2.1 == 27)) = false →
  Q false)


/-- replevin/replevinlaw24.ObjtextReads -/
def VC3 (s_ : List UInt8) (end_ : Int) (Q : Bool → Prop) : Prop :=
  ((decide (((s_.length : Nat) : Int) > 3000)) = true →
  ∀ r104, law24_awake = r104 →
  Q r104) ∧
  ((decide (((s_.length : Nat) : Int) > 3000)) = false →
  ∀ r108, objtext_Parse s_ = r108 →
  ∀ (_ : sm r108.1.Rows),
  ∀ r115, ref24_Parse s_ = r115 →
  ∀ (_ : sm r115.1.Rows),
  ∀ r122, ref23_Same r108.1 r115.1 = r122 →
  ((((!r122) || (r108.2.1 != r115.2.1)) || (r108.2.2 != r115.2.2)) = true →
  Q false) ∧
  ((((!r122) || (r108.2.1 != r115.2.1)) || (r108.2.2 != r115.2.2)) = false →
  (len1 s_) ∧
  ∀ r126, token_Lines s_ = r126 →
  ∀ (_ : sm r126),
  (preTk r126 end_) ∧
  ∀ r133, objtext_Take r126 end_ = r133 →
  ∀ (_ : sm r133.1.Rows),
  ∀ (_ : sm r133.2.1),
  (len1 s_) ∧
  ∀ r143, ref05_Lines s_ = r143 →
  ∀ (_ : sm r143),
  (preS r143) ∧
  ∀ r150, ref24_Said r143 = r150 →
  ∀ (_ : sm r150),
  (preRT r150 end_) ∧
  ∀ r157, ref24_Take r150 end_ = r157 →
  ∀ (_ : sm r157.1.Rows),
  ∀ r164, ref23_Same r133.1 r157.1 = r164 →
  ((((!r164) || (r133.2.2.1 != r157.2.2.1)) || (r133.2.2.2 != r157.2.2.2)) = true →
  Q false) ∧
  ((((!r164) || (r133.2.2.1 != r157.2.2.1)) || (r133.2.2.2 != r157.2.2.2)) = false →
  ((r157.2.2.2 != 0) = true →
  ((((r133.2.1.length : Nat) : Int) == 0) = true →
  ∀ r168, law24_awake = r168 →
  Q r168) ∧
  ((((r133.2.1.length : Nat) : Int) == 0) = false →
  Q false)) ∧
  ((r157.2.2.2 != 0) = false →
  ((0 : Int) ≤ r157.2.1 ∧ r157.2.1 ≤ (r150.length : Int)) ∧
  (preOf r133.2.1) ∧
  ∀ r177, law05_Of r133.2.1 = r177 →
  ∀ (_ : sm r177),
  (preS r177) ∧
  ∀ r184, ref24_Said r177 = r184 →
  ∀ (_ : sm r184),
  ∀ r191, ref05_Same r184 (r150.drop r157.2.1.toNat) = r191 →
  (r191 = true →
  ∀ r195, law24_awake = r195 →
  Q r195) ∧
  (r191 = false →
  Q false)))))


def VC4_J2 (Q : Bool → Prop) : Prop :=
  ∀ r134, law24_awake = r134 →
  Q r134
def VC4_J1 (s_ : List UInt8) (b_ : (List Int) × (List Int)) (o_ : Api_Object) (Q : Bool → Prop) (x_101 : Bool) : Prop :=
  (x_101 = true →
  ∀ r108, law24_awake = r108 →
  Q r108) ∧
  (x_101 = false →
  (prePr o_) ∧
  ∀ r112, objtext_Print o_ = r112 →
  (prePr o_) ∧
  ∀ r116, ref24_Print o_ = r116 →
  (((!(r112.1 == r116.1)) || (r112.2 != r116.2)) = true →
  Q false) ∧
  (((!(r112.1 == r116.1)) || (r112.2 != r116.2)) = false →
  (len1 s_) ∧
  ∀ r120, token_Lines s_ = r120 →
  ∀ (_ : sm r120),
  (len1 s_) ∧
  ∀ r127, ref05_Lines s_ = r127 →
  ∀ (_ : sm r127),
  ((((r120.length : Nat) : Int) != ((r127.length : Nat) : Int)) = true →
  Q false) ∧
  ((((r120.length : Nat) : Int) != ((r127.length : Nat) : Int)) = false →
  ∃ (I1 : Int → Prop) (μ1 : Int → Nat), I1 0 ∧ ∀ (i_137 : Int), I1 i_137 →
  ((decide (i_137 < ((r120.length : Nat) : Int))) = true →
  ((0 : Int) ≤ i_137 ∧ i_137 < (r120.length : Int)) ∧
  ∀ (_ : sm (gi r120 i_137)),
  (preNT (gi r120 i_137) ([120] : List UInt8) b_.1 b_.2 ((s_.length : Nat) : Int)) ∧
  ∀ r151, objtext_Numbers (gi r120 i_137) ([120] : List UInt8) b_.1 b_.2 ((s_.length : Nat) : Int) = r151 →
  ∀ (_ : sm r151.1),
  ((0 : Int) ≤ i_137 ∧ i_137 < (r127.length : Int)) ∧
  ∀ (_ : sm (gi r127 i_137)),
  (preNR (gi r127 i_137) ([120] : List UInt8) b_.1 b_.2 ((s_.length : Nat) : Int)) ∧
  ∀ r166, ref24_Numbers (gi r127 i_137) ([120] : List UInt8) b_.1 b_.2 ((s_.length : Nat) : Int) = r166 →
  ∀ (_ : sm r166.1),
  ∀ r173, ref01_SameInts r151.1 r166.1 = r173 →
  ((((!r173) || (r151.2.1 != r166.2.1)) || (r151.2.2 != r166.2.2)) = true →
  Q false) ∧
  ((((!r173) || (r151.2.1 != r166.2.1)) || (r151.2.2 != r166.2.2)) = false →
  I1 (IntKind.i64.wrap (i_137 + 1)) ∧ μ1 (IntKind.i64.wrap (i_137 + 1)) < μ1 i_137)) ∧
  ((decide (i_137 < ((r120.length : Nat) : Int))) = false →
  VC4_J2 Q))))
/-- replevin/replevinlaw24.ObjtextLines -/
def VC4 (s_ : List UInt8) (b_ : (List Int) × (List Int)) (o_ : Api_Object) (Q : Bool → Prop) : Prop :=
  ∀ (_ : sm b_.1),
  ∀ (_ : sm b_.2),
  ∀ (_ : sm o_.Rows),
  ((((decide (((s_.length : Nat) : Int) > 1000)) || (decide (((b_.1.length : Nat) : Int) > 20))) || (decide (((b_.2.length : Nat) : Int) > 20))) = true →
  VC4_J1 s_ b_ o_ Q true) ∧
  ((((decide (((s_.length : Nat) : Int) > 1000)) || (decide (((b_.1.length : Nat) : Int) > 20))) || (decide (((b_.2.length : Nat) : Int) > 20))) = false →
  ∀ r181, law23_Few o_ = r181 →
  VC4_J1 s_ b_ o_ Q (!r181))


def VC5_J1 (Q : Bool → Prop) : Prop :=
  Q false
def VC5_J2 (I1 : Int → Prop) (μ1 : Int → Nat) (i_124 : Int) : Prop :=
  I1 (IntKind.i64.wrap (i_124 + 1)) ∧ μ1 (IntKind.i64.wrap (i_124 + 1)) < μ1 i_124
/-- replevin/replevinlaw24.ObjtextPlaces -/
def VC5 (s_ : List UInt8) (Q : Bool → Prop) : Prop :=
  ((decide (((s_.length : Nat) : Int) > 3000)) = true →
  ∀ r104, law24_awake = r104 →
  Q r104) ∧
  ((decide (((s_.length : Nat) : Int) > 3000)) = false →
  ∀ r108, objtext_Parse s_ = r108 →
  ∀ (_ : sm r108.1.Rows),
  (((r108.2.2 == 0) || (r108.2.1 == ((s_.length : Nat) : Int))) = true →
  ((r108.2.1 == ((s_.length : Nat) : Int)) = true →
  ∀ r115, law24_awake = r115 →
  Q r115) ∧
  ((r108.2.1 == ((s_.length : Nat) : Int)) = false →
  Q false)) ∧
  (((r108.2.2 == 0) || (r108.2.1 == ((s_.length : Nat) : Int))) = false →
  (len1 s_) ∧
  ∀ r119, token_Lines s_ = r119 →
  ∀ (_ : sm r119),
  ∃ (I1 : Int → Prop) (μ1 : Int → Nat), I1 0 ∧ ∀ (i_124 : Int), I1 i_124 →
  ((decide (i_124 < ((r119.length : Nat) : Int))) = true →
  ∃ (I2 : Int → Prop) (μ2 : Int → Nat), I2 0 ∧ ∀ (k_127 : Int), I2 k_127 →
  ((0 : Int) ≤ i_124 ∧ i_124 < (r119.length : Int)) ∧
  ∀ (_ : sm (gi r119 i_124)),
  ((decide (k_127 < (((gi r119 i_124).length : Nat) : Int))) = true →
  ((0 : Int) ≤ i_124 ∧ i_124 < (r119.length : Int)) ∧
  ∀ (_ : sm (gi r119 i_124)),
  ((0 : Int) ≤ k_127 ∧ k_127 < ((gi r119 i_124).length : Int)) ∧
  ((((((gi (gi r119 i_124) k_127).At) == r108.2.1) && (r108.2.2 != 4)) || (((IntKind.i64.wrap (((gi (gi r119 i_124) k_127).At) + ((((gi (gi r119 i_124) k_127).Text).length : Nat) : Int))) == r108.2.1) && (r108.2.2 == 4))) = true →
  ∀ r146, law24_awake = r146 →
  Q r146) ∧
  ((((((gi (gi r119 i_124) k_127).At) == r108.2.1) && (r108.2.2 != 4)) || (((IntKind.i64.wrap (((gi (gi r119 i_124) k_127).At) + ((((gi (gi r119 i_124) k_127).Text).length : Nat) : Int))) == r108.2.1) && (r108.2.2 == 4))) = false →
  I2 (IntKind.i64.wrap (k_127 + 1)) ∧ μ2 (IntKind.i64.wrap (k_127 + 1)) < μ2 k_127)) ∧
  ((decide (k_127 < (((gi r119 i_124).length : Nat) : Int))) = false →
  VC5_J2 I1 μ1 i_124)) ∧
  ((decide (i_124 < ((r119.length : Nat) : Int))) = false →
  VC5_J1 Q)))


def VC6_J1 (s_ : List UInt8) (Q : Bool → Prop) : Prop :=
  ∀ r120, objtext_Parse s_ = r120 →
  ∀ (_ : sm r120.1.Rows),
  ((r120.2.2 != 0) = true →
  ∀ r127, ref23_Same r120.1 (⟨0, 0, 0, []⟩ : Api_Object) = r127 →
  (r127 = true →
  ∀ r131, law24_awake = r131 →
  Q r131) ∧
  (r127 = false →
  Q false)) ∧
  ((r120.2.2 != 0) = false →
  (prePr r120.1) ∧
  ∀ r135, objtext_Print r120.1 = r135 →
  ∀ r139, objtext_Parse r135.1 = r139 →
  ∀ (_ : sm r139.1.Rows),
  (((r135.2 == 0) && (r139.2.2 == 0)) = true →
  ∀ r146, object_Same r139.1 r120.1 = r146 →
  (r146 = true →
  ∀ r150, law24_awake = r150 →
  Q r150) ∧
  (r146 = false →
  Q false)) ∧
  (((r135.2 == 0) && (r139.2.2 == 0)) = false →
  Q false))
/-- replevin/replevinlaw24.ObjtextBack -/
def VC6 (o_ : Api_Object) (s_ : List UInt8) (Q : Bool → Prop) : Prop :=
  ∀ (_ : sm o_.Rows),
  ∀ r104, law23_Few o_ = r104 →
  (((!r104) || (decide (((s_.length : Nat) : Int) > 3000))) = true →
  ∀ r108, law24_awake = r108 →
  Q r108) ∧
  (((!r104) || (decide (((s_.length : Nat) : Int) > 3000))) = false →
  (prePr o_) ∧
  ∀ r112, objtext_Print o_ = r112 →
  (preCk o_) ∧
  ∀ r116, object_Check o_ = r116 →
  ((r116.2 != r112.2) = true →
  Q false) ∧
  ((r116.2 != r112.2) = false →
  ((r112.2 == 0) = true →
  ∀ r158, objtext_Parse r112.1 = r158 →
  ∀ (_ : sm r158.1.Rows),
  ∀ r165, object_Same o_ r158.1 = r165 →
  ((((!r165) || (r158.2.1 != ((r112.1.length : Nat) : Int))) || (r158.2.2 != 0)) = true →
  Q false) ∧
  ((((!r165) || (r158.2.1 != ((r112.1.length : Nat) : Int))) || (r158.2.2 != 0)) = false →
  VC6_J1 s_ Q)) ∧
  ((r112.2 == 0) = false →
  VC6_J1 s_ Q)))


end Go.Proofs.YtmedefjboagkmaaDoor
