/- The conditions of the functions, in terms of their callees. Definitions. -/
import Derived.Test.YtancoeikfkebfaaDoorMSpec
set_option linter.all false
namespace Go.Proofs.YtancoeikfkebfaaDoor
open Go Go.Sv






/-- replevin/replevinref05.gap -/
def VC56 (b_ : Int) (Q : Bool → Prop) : Prop :=
  Q (((b_ == 32) || (b_ == 9)) || (b_ == 13))


/-- internal/stringslite.HasPrefix -/
def VC62 (s_ : List UInt8) (prefix_ : List UInt8) (Q : Bool → Prop) : Prop :=
  ((decide (((s_.length : Nat) : Int) ≥ ((prefix_.length : Nat) : Int))) = true →
  ((0 : Int) ≤ ((prefix_.length : Nat) : Int) ∧ ((prefix_.length : Nat) : Int) ≤ (s_.length : Int)) ∧
  Q ((s_.take ((prefix_.length : Nat) : Int).toNat) == prefix_)) ∧
  ((decide (((s_.length : Nat) : Int) ≥ ((prefix_.length : Nat) : Int))) = false →
  Q false)


/-- strings.HasPrefix -/
def VC48 (s_ : List UInt8) (prefix_ : List UInt8) (Q : Bool → Prop) : Prop :=
  (preTwo s_ prefix_) ∧
  ∀ r104, internal_stringslite_HasPrefix s_ prefix_ = r104 →
  Q r104


/-- internal/stringslite.CutPrefix -/
def VC77 (s_ : List UInt8) (prefix_ : List UInt8) (Q : (List UInt8) × Bool → Prop) : Prop :=
  (preTwo s_ prefix_) ∧
  ∀ r104, internal_stringslite_HasPrefix s_ prefix_ = r104 →
  ((!r104) = true →
  Q (s_, false)) ∧
  ((!r104) = false →
  ((0 : Int) ≤ ((prefix_.length : Nat) : Int) ∧ ((prefix_.length : Nat) : Int) ≤ (s_.length : Int)) ∧
  Q ((s_.drop ((prefix_.length : Nat) : Int).toNat), true))


/-- strings.CutPrefix -/
def VC67 (s_ : List UInt8) (prefix_ : List UInt8) (Q : (List UInt8) × Bool → Prop) : Prop :=
  (preTwo s_ prefix_) ∧
  ∀ r104, internal_stringslite_CutPrefix s_ prefix_ = r104 →
  Q (r104.1, r104.2)


/-- internal/stringslite.Cut -/
def VC47 (s_ : List UInt8) (sep : List UInt8) (Q : (List UInt8) × (List UInt8) × Bool → Prop) : Prop :=
  (preOne s_ sep) ∧
  ∀ r104, internal_stringslite_Index s_ sep = r104 →
  ((decide (r104 ≥ 0)) = true →
  ((0 : Int) ≤ r104 ∧ r104 ≤ (s_.length : Int)) ∧
  ((0 : Int) ≤ (IntKind.i64.wrap (r104 + ((sep.length : Nat) : Int))) ∧ (IntKind.i64.wrap (r104 + ((sep.length : Nat) : Int))) ≤ (s_.length : Int)) ∧
  Q ((s_.take r104.toNat), (s_.drop (IntKind.i64.wrap (r104 + ((sep.length : Nat) : Int))).toNat), true)) ∧
  ((decide (r104 ≥ 0)) = false →
  Q (s_, ([] : List UInt8), false))


/-- strings.Cut -/
def VC31 (s_ : List UInt8) (sep : List UInt8) (Q : (List UInt8) × (List UInt8) × Bool → Prop) : Prop :=
  (preOne s_ sep) ∧
  ∀ r104, internal_stringslite_Cut s_ sep = r104 →
  Q (r104.1, r104.2.1, r104.2.2)


def VC32_J1 (s_ : List UInt8) (line : Int) (at_ : Int) (I1_0 : (List Token_Token) → Int → Int → Prop) (μ1_0 : (List Token_Token) → Int → Int → Nat) (I1_1 : (List Token_Token) → Int → Int → Prop) (μ1_1 : (List Token_Token) → Int → Int → Nat) (out_101 : List Token_Token) (i_105 : Int) (from_106 : Int) (out_113 : List Token_Token) (x_117 : Bool) : Prop :=
  (x_117 = true →
  I1_1 out_113 (IntKind.i64.wrap (i_105 + 1)) from_106 ∧ μ1_1 out_113 (IntKind.i64.wrap (i_105 + 1)) from_106 < μ1_1 out_101 i_105 from_106) ∧
  (x_117 = false →
  ((0 : Int) ≤ from_106 ∧ from_106 ≤ (IntKind.i64.wrap (i_105 + 1)) ∧ (IntKind.i64.wrap (i_105 + 1)) ≤ (s_.length : Int)) ∧
  (out_113.length + [(⟨line, IntKind.i64.wrap (at_ + from_106), ((s_.take (IntKind.i64.wrap (i_105 + 1)).toNat).drop from_106.toNat)⟩ : Token_Token)].length ≤ 1099511627776) ∧
  I1_0 (out_113 ++ [(⟨line, IntKind.i64.wrap (at_ + from_106), ((s_.take (IntKind.i64.wrap (i_105 + 1)).toNat).drop from_106.toNat)⟩ : Token_Token)]) (IntKind.i64.wrap (i_105 + 1)) from_106 ∧ μ1_0 (out_113 ++ [(⟨line, IntKind.i64.wrap (at_ + from_106), ((s_.take (IntKind.i64.wrap (i_105 + 1)).toNat).drop from_106.toNat)⟩ : Token_Token)]) (IntKind.i64.wrap (i_105 + 1)) from_106 < μ1_1 out_101 i_105 from_106)
def VC32_J2 (Q : ((List Token_Token)) → Prop) (I1_0 : (List Token_Token) → Int → Int → Prop) (x_133 : Bool) : Prop :=
  (x_133 = true →
  Q []) ∧
  (x_133 = false →
  I1_0 [] 0 0)
/-- replevin/token.tokens -/
def VC32 (s_ : List UInt8) (line : Int) (at_ : Int) (Q : (List Token_Token) → Prop) : Prop :=
  ∃ (I1_0 : (List Token_Token) → Int → Int → Prop) (μ1_0 : (List Token_Token) → Int → Int → Nat) (I1_1 : (List Token_Token) → Int → Int → Prop) (μ1_1 : (List Token_Token) → Int → Int → Nat),
  (((s_ == ([99] : List UInt8)) = true →
  VC32_J2 Q I1_0 true) ∧
  ((s_ == ([99] : List UInt8)) = false →
  (preTwo s_ ([99, 32] : List UInt8)) ∧
  ∀ r137, strings_HasPrefix s_ ([99, 32] : List UInt8) = r137 →
  VC32_J2 Q I1_0 r137)) ∧
  (∀ (out_101 : List Token_Token) (i_105 : Int) (from_106 : Int), I1_0 out_101 i_105 from_106 →
  ((i_105 == ((s_.length : Nat) : Int)) = true →
  Q out_101) ∧
  ((i_105 == ((s_.length : Nat) : Int)) = false →
  ((0 : Int) ≤ i_105 ∧ i_105 < (s_.length : Int)) ∧
  ∀ r112, strings_IndexByte ([32, 9, 13] : List UInt8) ((gi s_ i_105).toNat : Int) = r112 →
  ((decide (r112 ≥ 0)) = true →
  I1_0 out_101 (IntKind.i64.wrap (i_105 + 1)) from_106 ∧ μ1_0 out_101 (IntKind.i64.wrap (i_105 + 1)) from_106 < μ1_0 out_101 i_105 from_106) ∧
  ((decide (r112 ≥ 0)) = false →
  I1_1 out_101 i_105 i_105 ∧ μ1_1 out_101 i_105 i_105 ≤ μ1_0 out_101 i_105 from_106))) ∧
  (∀ (out_101 : List Token_Token) (i_105 : Int) (from_106 : Int), I1_1 out_101 i_105 from_106 →
  ((decide ((IntKind.i64.wrap (i_105 + 1)) < ((s_.length : Nat) : Int))) = true →
  ((0 : Int) ≤ (IntKind.i64.wrap (i_105 + 1)) ∧ (IntKind.i64.wrap (i_105 + 1)) < (s_.length : Int)) ∧
  ∀ r130, strings_IndexByte ([32, 9, 13] : List UInt8) ((gi s_ (IntKind.i64.wrap (i_105 + 1))).toNat : Int) = r130 →
  VC32_J1 s_ line at_ I1_0 μ1_0 I1_1 μ1_1 out_101 i_105 from_106 out_101 (decide (r130 < 0))) ∧
  ((decide ((IntKind.i64.wrap (i_105 + 1)) < ((s_.length : Nat) : Int))) = false →
  VC32_J1 s_ line at_ I1_0 μ1_0 I1_1 μ1_1 out_101 i_105 from_106 out_101 false))


def VC16_J1 (Q : ((List (List Token_Token))) → Prop) (out_101 : List (List Token_Token)) : Prop :=
  Q out_101
/-- replevin/token.Lines -/
def VC16 (s_ : List UInt8) (Q : (List (List Token_Token)) → Prop) : Prop :=
  ∃ (I1 : (List (List Token_Token)) → Int → Prop) (μ1 : (List (List Token_Token)) → Int → Nat), I1 [] 0 ∧ ∀ (out_107 : List (List Token_Token)) (at_111 : Int), I1 out_107 at_111 →
  ((decide (at_111 < ((s_.length : Nat) : Int))) = true →
  ((0 : Int) ≤ at_111 ∧ at_111 ≤ (s_.length : Int)) ∧
  (preOne (s_.drop at_111.toNat) ([10] : List UInt8)) ∧
  ∀ r115, strings_Cut (s_.drop at_111.toNat) ([10] : List UInt8) = r115 →
  (preTok r115.1 (IntKind.i64.wrap (((out_107.length : Nat) : Int) + 1)) at_111) ∧
  ∀ r119, token_tokens r115.1 (IntKind.i64.wrap (((out_107.length : Nat) : Int) + 1)) at_111 = r119 →
  ∀ (_ : sm r119),
  (out_107.length + [r119].length ≤ 1099511627776) ∧
  I1 (out_107 ++ [r119]) (IntKind.i64.wrap (at_111 + (IntKind.i64.wrap (((r115.1.length : Nat) : Int) + 1)))) ∧ μ1 (out_107 ++ [r119]) (IntKind.i64.wrap (at_111 + (IntKind.i64.wrap (((r115.1.length : Nat) : Int) + 1)))) < μ1 out_107 at_111) ∧
  ((decide (at_111 < ((s_.length : Nat) : Int))) = false →
  VC16_J1 Q out_107)


def VC42_J1 (Q : ((List (List Ref05_Token))) → Prop) (out_101 : List (List Ref05_Token)) : Prop :=
  Q out_101
def VC42_J4 (I1 : (List (List Ref05_Token)) → Int → Prop) (μ1 : (List (List Ref05_Token)) → Int → Nat) (out_107 : List (List Ref05_Token)) (at_111 : Int) (end_116 : Int) (out_122 : List (List Ref05_Token)) (row_126 : List Ref05_Token) : Prop :=
  (out_122.length + [row_126].length ≤ 1099511627776) ∧
  I1 (out_122 ++ [row_126]) (IntKind.i64.wrap (end_116 + 1)) ∧ μ1 (out_122 ++ [row_126]) (IntKind.i64.wrap (end_116 + 1)) < μ1 out_107 at_111
def VC42_J5 (I2 : (List (List Ref05_Token)) → (List Ref05_Token) → Int → Prop) (μ2 : (List (List Ref05_Token)) → (List Ref05_Token) → Int → Nat) (out_141 : List (List Ref05_Token)) (row_145 : List Ref05_Token) (i_149 : Int) (out_150 : List (List Ref05_Token)) (row_154 : List Ref05_Token) (i_158 : Int) : Prop :=
  I2 out_150 row_154 (IntKind.i64.wrap (i_158 + 1)) ∧ μ2 out_150 row_154 (IntKind.i64.wrap (i_158 + 1)) < μ2 out_141 row_145 i_149
def VC42_J6 (s_ : List UInt8) (I2 : (List (List Ref05_Token)) → (List Ref05_Token) → Int → Prop) (μ2 : (List (List Ref05_Token)) → (List Ref05_Token) → Int → Nat) (out_141 : List (List Ref05_Token)) (row_145 : List Ref05_Token) (i_149 : Int) (out_163 : List (List Ref05_Token)) (row_167 : List Ref05_Token) (k_171 : Int) : Prop :=
  ((0 : Int) ≤ i_149 ∧ i_149 ≤ k_171 ∧ k_171 ≤ (s_.length : Int)) ∧
  (row_167.length + [(⟨IntKind.i64.wrap (((out_163.length : Nat) : Int) + 1), i_149, ((s_.take k_171.toNat).drop i_149.toNat)⟩ : Ref05_Token)].length ≤ 1099511627776) ∧
  VC42_J5 I2 μ2 out_141 row_145 i_149 out_163 (row_167 ++ [(⟨IntKind.i64.wrap (((out_163.length : Nat) : Int) + 1), i_149, ((s_.take k_171.toNat).drop i_149.toNat)⟩ : Ref05_Token)]) k_171
def VC42_J7 (s_ : List UInt8) (I2 : (List (List Ref05_Token)) → (List Ref05_Token) → Int → Prop) (μ2 : (List (List Ref05_Token)) → (List Ref05_Token) → Int → Nat) (out_141 : List (List Ref05_Token)) (row_145 : List Ref05_Token) (i_149 : Int) (I3 : (List (List Ref05_Token)) → (List Ref05_Token) → Int → Prop) (μ3 : (List (List Ref05_Token)) → (List Ref05_Token) → Int → Nat) (out_181 : List (List Ref05_Token)) (row_185 : List Ref05_Token) (k_189 : Int) (out_190 : List (List Ref05_Token)) (row_194 : List Ref05_Token) (x_198 : Bool) : Prop :=
  (x_198 = true →
  I3 out_190 row_194 (IntKind.i64.wrap (k_189 + 1)) ∧ μ3 out_190 row_194 (IntKind.i64.wrap (k_189 + 1)) < μ3 out_181 row_185 k_189) ∧
  (x_198 = false →
  VC42_J6 s_ I2 μ2 out_141 row_145 i_149 out_190 row_194 k_189)
def VC42_J3 (s_ : List UInt8) (I1 : (List (List Ref05_Token)) → Int → Prop) (μ1 : (List (List Ref05_Token)) → Int → Nat) (out_107 : List (List Ref05_Token)) (at_111 : Int) (end_116 : Int) (out_117 : List (List Ref05_Token)) (remark_121 : Bool) : Prop :=
  ∃ (I2 : (List (List Ref05_Token)) → (List Ref05_Token) → Int → Prop) (μ2 : (List (List Ref05_Token)) → (List Ref05_Token) → Int → Nat), I2 out_117 [] at_111 ∧ ∀ (out_141 : List (List Ref05_Token)) (row_145 : List Ref05_Token) (i_149 : Int), I2 out_141 row_145 i_149 →
  (((decide (i_149 < end_116)) && (!remark_121)) = true →
  ((0 : Int) ≤ i_149 ∧ i_149 < (s_.length : Int)) ∧
  ∀ r162, ref05_gap ((gi s_ i_149).toNat : Int) = r162 →
  (r162 = true →
  VC42_J5 I2 μ2 out_141 row_145 i_149 out_141 row_145 i_149) ∧
  (r162 = false →
  ∃ (I3 : (List (List Ref05_Token)) → (List Ref05_Token) → Int → Prop) (μ3 : (List (List Ref05_Token)) → (List Ref05_Token) → Int → Nat), I3 out_141 row_145 i_149 ∧ ∀ (out_181 : List (List Ref05_Token)) (row_185 : List Ref05_Token) (k_189 : Int), I3 out_181 row_185 k_189 →
  ((decide (k_189 < end_116)) = true →
  ((0 : Int) ≤ k_189 ∧ k_189 < (s_.length : Int)) ∧
  ∀ r202, ref05_gap ((gi s_ k_189).toNat : Int) = r202 →
  VC42_J7 s_ I2 μ2 out_141 row_145 i_149 I3 μ3 out_181 row_185 k_189 out_181 row_185 (!r202)) ∧
  ((decide (k_189 < end_116)) = false →
  VC42_J7 s_ I2 μ2 out_141 row_145 i_149 I3 μ3 out_181 row_185 k_189 out_181 row_185 false))) ∧
  (((decide (i_149 < end_116)) && (!remark_121)) = false →
  VC42_J4 I1 μ1 out_107 at_111 end_116 out_141 row_145)
def VC42_J2 (s_ : List UInt8) (I1 : (List (List Ref05_Token)) → Int → Prop) (μ1 : (List (List Ref05_Token)) → Int → Nat) (out_107 : List (List Ref05_Token)) (at_111 : Int) (out_112 : List (List Ref05_Token)) (end_116 : Int) : Prop :=
  ((0 : Int) ≤ at_111 ∧ at_111 ≤ end_116 ∧ end_116 ≤ (s_.length : Int)) ∧
  ((((s_.take end_116.toNat).drop at_111.toNat) == ([99] : List UInt8)) = true →
  VC42_J3 s_ I1 μ1 out_107 at_111 end_116 out_112 true) ∧
  ((((s_.take end_116.toNat).drop at_111.toNat) == ([99] : List UInt8)) = false →
  ((decide ((IntKind.i64.wrap (end_116 - at_111)) ≥ 2)) = true →
  ((0 : Int) ≤ at_111 ∧ at_111 ≤ (IntKind.i64.wrap (at_111 + 2)) ∧ (IntKind.i64.wrap (at_111 + 2)) ≤ (s_.length : Int)) ∧
  VC42_J3 s_ I1 μ1 out_107 at_111 end_116 out_112 (((s_.take (IntKind.i64.wrap (at_111 + 2)).toNat).drop at_111.toNat) == ([99, 32] : List UInt8))) ∧
  ((decide ((IntKind.i64.wrap (end_116 - at_111)) ≥ 2)) = false →
  VC42_J3 s_ I1 μ1 out_107 at_111 end_116 out_112 false))
def VC42_J8 (s_ : List UInt8) (I1 : (List (List Ref05_Token)) → Int → Prop) (μ1 : (List (List Ref05_Token)) → Int → Nat) (out_107 : List (List Ref05_Token)) (at_111 : Int) (I4 : (List (List Ref05_Token)) → Int → Prop) (μ4 : (List (List Ref05_Token)) → Int → Nat) (out_217 : List (List Ref05_Token)) (end_221 : Int) (out_222 : List (List Ref05_Token)) (x_226 : Bool) : Prop :=
  (x_226 = true →
  I4 out_222 (IntKind.i64.wrap (end_221 + 1)) ∧ μ4 out_222 (IntKind.i64.wrap (end_221 + 1)) < μ4 out_217 end_221) ∧
  (x_226 = false →
  VC42_J2 s_ I1 μ1 out_107 at_111 out_222 end_221)
/-- replevin/replevinref05.Lines -/
def VC42 (s_ : List UInt8) (Q : (List (List Ref05_Token)) → Prop) : Prop :=
  ∃ (I1 : (List (List Ref05_Token)) → Int → Prop) (μ1 : (List (List Ref05_Token)) → Int → Nat), I1 [] 0 ∧ ∀ (out_107 : List (List Ref05_Token)) (at_111 : Int), I1 out_107 at_111 →
  ((decide (at_111 < ((s_.length : Nat) : Int))) = true →
  ∃ (I4 : (List (List Ref05_Token)) → Int → Prop) (μ4 : (List (List Ref05_Token)) → Int → Nat), I4 out_107 at_111 ∧ ∀ (out_217 : List (List Ref05_Token)) (end_221 : Int), I4 out_217 end_221 →
  ((decide (end_221 < ((s_.length : Nat) : Int))) = true →
  ((0 : Int) ≤ end_221 ∧ end_221 < (s_.length : Int)) ∧
  VC42_J8 s_ I1 μ1 out_107 at_111 I4 μ4 out_217 end_221 out_217 (((gi s_ end_221).toNat : Int) != 10)) ∧
  ((decide (end_221 < ((s_.length : Nat) : Int))) = false →
  VC42_J8 s_ I1 μ1 out_107 at_111 I4 μ4 out_217 end_221 out_217 false)) ∧
  ((decide (at_111 < ((s_.length : Nat) : Int))) = false →
  VC42_J1 Q out_107)


def VC55_J2 (Q : ((List UInt8) × Bool × Bool) → Prop) (r104 : (List UInt8) × Bool) : Prop :=
  Q (r104.1, r104.2, true)
def VC55_J3 (Q : ((List UInt8) × Bool × Bool) → Prop) (I1 : Int → Prop) (μ1 : Int → Nat) (i_106 : Int) (x_107 : Bool) : Prop :=
  (x_107 = true →
  Q (([] : List UInt8), false, false)) ∧
  (x_107 = false →
  I1 (IntKind.i64.wrap (i_106 + 1)) ∧ μ1 (IntKind.i64.wrap (i_106 + 1)) < μ1 i_106)
def VC55_J1 (Q : ((List UInt8) × Bool × Bool) → Prop) (r104 : (List UInt8) × Bool) (x_105 : Bool) : Prop :=
  (x_105 = true →
  Q (([] : List UInt8), false, false)) ∧
  (x_105 = false →
  ∃ (I1 : Int → Prop) (μ1 : Int → Nat), I1 0 ∧ ∀ (i_106 : Int), I1 i_106 →
  ((decide (i_106 < ((r104.1.length : Nat) : Int))) = true →
  ((0 : Int) ≤ i_106 ∧ i_106 < (r104.1.length : Int)) ∧
  ((decide (((gi r104.1 i_106).toNat : Int) < 48)) = true →
  VC55_J3 Q I1 μ1 i_106 true) ∧
  ((decide (((gi r104.1 i_106).toNat : Int) < 48)) = false →
  ((0 : Int) ≤ i_106 ∧ i_106 < (r104.1.length : Int)) ∧
  VC55_J3 Q I1 μ1 i_106 (decide (((gi r104.1 i_106).toNat : Int) > 57)))) ∧
  ((decide (i_106 < ((r104.1.length : Nat) : Int))) = false →
  VC55_J2 Q r104))
/-- replevin/token.numeral -/
def VC55 (s_ : List UInt8) (Q : (List UInt8) × Bool × Bool → Prop) : Prop :=
  (preTwo s_ ([45] : List UInt8)) ∧
  ∀ r104, strings_CutPrefix s_ ([45] : List UInt8) = r104 →
  ((r104.1 == ([] : List UInt8)) = true →
  VC55_J1 Q r104 true) ∧
  ((r104.1 == ([] : List UInt8)) = false →
  ((0 : Int) ≤ 0 ∧ 0 < (r104.1.length : Int)) ∧
  VC55_J1 Q r104 ((((gi r104.1 0).toNat : Int) == 48) && ((decide (((r104.1.length : Nat) : Int) > 1)) || r104.2)))


def VC40_J2 (lo : Int) (hi : Int) (Q : (Int × Int) → Prop) (x_106 : Int) : Prop :=
  (((decide (x_106 < lo)) || (decide (x_106 > hi))) = true →
  Q (0, 7)) ∧
  (((decide (x_106 < lo)) || (decide (x_106 > hi))) = false →
  Q (x_106, 0))
def VC40_J1 (lo : Int) (hi : Int) (Q : (Int × Int) → Prop) (r104 : (List UInt8) × Bool × Bool) (n_105 : Int) : Prop :=
  (((decide (n_105 > 9223372036854775807)) && (!(r104.2.1 && (n_105 == 9223372036854775808)))) = true →
  Q (0, 7)) ∧
  (((decide (n_105 > 9223372036854775807)) && (!(r104.2.1 && (n_105 == 9223372036854775808)))) = false →
  (r104.2.1 = true →
  VC40_J2 lo hi Q (IntKind.i64.wrap (0 - (IntKind.i64.wrap n_105)))) ∧
  (r104.2.1 = false →
  VC40_J2 lo hi Q (IntKind.i64.wrap n_105)))
/-- replevin/token.Number -/
def VC40 (s_ : List UInt8) (lo : Int) (hi : Int) (Q : Int × Int → Prop) : Prop :=
  (len1 s_) ∧
  ∀ r104, token_numeral s_ = r104 →
  ((!r104.2.2) = true →
  Q (0, 5)) ∧
  ((!r104.2.2) = false →
  ∃ (I1 : Int → Int → Prop) (μ1 : Int → Int → Nat), I1 0 0 ∧ ∀ (n_109 : Int) (i_110 : Int), I1 n_109 i_110 →
  ((decide (i_110 < ((r104.1.length : Nat) : Int))) = true →
  ((decide (n_109 > 1844674407370955160)) = true →
  Q (0, 7)) ∧
  ((decide (n_109 > 1844674407370955160)) = false →
  ((0 : Int) ≤ i_110 ∧ i_110 < (r104.1.length : Int)) ∧
  I1 (IntKind.u64.wrap ((IntKind.u64.wrap (10 * n_109)) + (IntKind.u64.wrap (IntKind.u8.wrap (((gi r104.1 i_110).toNat : Int) - 48))))) (IntKind.i64.wrap (i_110 + 1)) ∧ μ1 (IntKind.u64.wrap ((IntKind.u64.wrap (10 * n_109)) + (IntKind.u64.wrap (IntKind.u8.wrap (((gi r104.1 i_110).toNat : Int) - 48))))) (IntKind.i64.wrap (i_110 + 1)) < μ1 n_109 i_110)) ∧
  ((decide (i_110 < ((r104.1.length : Nat) : Int))) = false →
  VC40_J1 lo hi Q r104 n_109))


def VC30_J1 (n_ : Int) (Q : ((List UInt8)) → Prop) (out_101 : List UInt8) : Prop :=
  ((decide (n_ < 0)) = true →
  (([45] : List UInt8).length + out_101.length ≤ 4611686018427387904) ∧
  Q (([45] : List UInt8) ++ out_101)) ∧
  ((decide (n_ < 0)) = false →
  Q out_101)
def VC30_J2 (I1 : (List UInt8) → Int → Prop) (μ1 : (List UInt8) → Int → Nat) (out_102 : List UInt8) (x_103 : Int) (d_104 : Int) : Prop :=
  ((ofBytes [IntKind.u8.wrap (IntKind.i64.wrap (48 + d_104))]).length + out_102.length ≤ 4611686018427387904) ∧
  I1 ((ofBytes [IntKind.u8.wrap (IntKind.i64.wrap (48 + d_104))]) ++ out_102) (IntKind.i64.wrap ((x_103).tdiv 10)) ∧ μ1 ((ofBytes [IntKind.u8.wrap (IntKind.i64.wrap (48 + d_104))]) ++ out_102) (IntKind.i64.wrap ((x_103).tdiv 10)) < μ1 out_102 x_103
/-- replevin/replevinref05.Digits -/
def VC30 (n_ : Int) (Q : (List UInt8) → Prop) : Prop :=
  ((n_ == 0) = true →
  Q ([48] : List UInt8)) ∧
  ((n_ == 0) = false →
  ∃ (I1 : (List UInt8) → Int → Prop) (μ1 : (List UInt8) → Int → Nat), I1 ([] : List UInt8) n_ ∧ ∀ (out_102 : List UInt8) (x_103 : Int), I1 out_102 x_103 →
  ((x_103 != 0) = true →
  ((decide (((x_103).tmod 10) < 0)) = true →
  VC30_J2 I1 μ1 out_102 x_103 (IntKind.i64.wrap (0 - ((x_103).tmod 10)))) ∧
  ((decide (((x_103).tmod 10) < 0)) = false →
  VC30_J2 I1 μ1 out_102 x_103 ((x_103).tmod 10))) ∧
  ((x_103 != 0) = false →
  VC30_J1 n_ Q out_102))


/-- replevin/token.Digits -/
def VC28 (n_ : Int) (Q : (List UInt8) → Prop) : Prop :=
  (preI n_) ∧
  ∀ r104, strconv_Itoa n_ = r104 →
  Q r104


def VC25_J4 (s_ : List UInt8) (lo : Int) (hi : Int) (Q : (Int × Int) → Prop) (n_103 : Int) : Prop :=
  (preI n_103) ∧
  ∀ r107, ref05_Digits n_103 = r107 →
  ((((!(r107 == s_)) || (decide (n_103 < lo))) || (decide (n_103 > hi))) = true →
  Q (0, 7)) ∧
  ((((!(r107 == s_)) || (decide (n_103 < lo))) || (decide (n_103 > hi))) = false →
  Q (n_103, 0))
def VC25_J5 (I1 : Int → Int → Prop) (μ1 : Int → Int → Nat) (n_108 : Int) (i_109 : Int) (d_110 : Int) : Prop :=
  I1 (IntKind.i64.wrap ((IntKind.i64.wrap (10 * n_108)) + d_110)) (IntKind.i64.wrap (i_109 + 1)) ∧ μ1 (IntKind.i64.wrap ((IntKind.i64.wrap (10 * n_108)) + d_110)) (IntKind.i64.wrap (i_109 + 1)) < μ1 n_108 i_109
def VC25_J3 (s_ : List UInt8) (lo : Int) (hi : Int) (Q : (Int × Int) → Prop) (from_101 : Int) : Prop :=
  ((decide ((IntKind.i64.wrap (((s_.length : Nat) : Int) - from_101)) > 19)) = true →
  Q (0, 7)) ∧
  ((decide ((IntKind.i64.wrap (((s_.length : Nat) : Int) - from_101)) > 19)) = false →
  ∃ (I1 : Int → Int → Prop) (μ1 : Int → Int → Nat), I1 0 from_101 ∧ ∀ (n_108 : Int) (i_109 : Int), I1 n_108 i_109 →
  ((decide (i_109 < ((s_.length : Nat) : Int))) = true →
  ((0 : Int) ≤ i_109 ∧ i_109 < (s_.length : Int)) ∧
  ((from_101 == 1) = true →
  VC25_J5 I1 μ1 n_108 i_109 (IntKind.i64.wrap (0 - (IntKind.i64.wrap ((IntKind.i64.wrap ((gi s_ i_109).toNat : Int)) - 48))))) ∧
  ((from_101 == 1) = false →
  VC25_J5 I1 μ1 n_108 i_109 (IntKind.i64.wrap ((IntKind.i64.wrap ((gi s_ i_109).toNat : Int)) - 48)))) ∧
  ((decide (i_109 < ((s_.length : Nat) : Int))) = false →
  VC25_J4 s_ lo hi Q n_108))
def VC25_J6 (Q : (Int × Int) → Prop) (I2 : Int → Prop) (μ2 : Int → Nat) (i_117 : Int) (x_118 : Bool) : Prop :=
  (x_118 = true →
  Q (0, 5)) ∧
  (x_118 = false →
  I2 (IntKind.i64.wrap (i_117 + 1)) ∧ μ2 (IntKind.i64.wrap (i_117 + 1)) < μ2 i_117)
def VC25_J2 (s_ : List UInt8) (lo : Int) (hi : Int) (Q : (Int × Int) → Prop) (from_101 : Int) (x_102 : Bool) : Prop :=
  (x_102 = true →
  Q (0, 5)) ∧
  (x_102 = false →
  ∃ (I2 : Int → Prop) (μ2 : Int → Nat), I2 from_101 ∧ ∀ (i_117 : Int), I2 i_117 →
  ((decide (i_117 < ((s_.length : Nat) : Int))) = true →
  ((0 : Int) ≤ i_117 ∧ i_117 < (s_.length : Int)) ∧
  ((decide (((gi s_ i_117).toNat : Int) < 48)) = true →
  VC25_J6 Q I2 μ2 i_117 true) ∧
  ((decide (((gi s_ i_117).toNat : Int) < 48)) = false →
  ((0 : Int) ≤ i_117 ∧ i_117 < (s_.length : Int)) ∧
  VC25_J6 Q I2 μ2 i_117 (decide (((gi s_ i_117).toNat : Int) > 57)))) ∧
  ((decide (i_117 < ((s_.length : Nat) : Int))) = false →
  VC25_J3 s_ lo hi Q from_101))
def VC25_J1 (s_ : List UInt8) (lo : Int) (hi : Int) (Q : (Int × Int) → Prop) (from_101 : Int) : Prop :=
  ((from_101 == ((s_.length : Nat) : Int)) = true →
  VC25_J2 s_ lo hi Q from_101 true) ∧
  ((from_101 == ((s_.length : Nat) : Int)) = false →
  ((0 : Int) ≤ from_101 ∧ from_101 < (s_.length : Int)) ∧
  VC25_J2 s_ lo hi Q from_101 ((((gi s_ from_101).toNat : Int) == 48) && (decide (((s_.length : Nat) : Int) > 1))))
def VC25_J7 (s_ : List UInt8) (lo : Int) (hi : Int) (Q : (Int × Int) → Prop) (x_127 : Bool) : Prop :=
  (x_127 = true →
  VC25_J1 s_ lo hi Q 1) ∧
  (x_127 = false →
  VC25_J1 s_ lo hi Q 0)
/-- replevin/replevinref05.Number -/
def VC25 (s_ : List UInt8) (lo : Int) (hi : Int) (Q : Int × Int → Prop) : Prop :=
  ((decide (((s_.length : Nat) : Int) > 0)) = true →
  ((0 : Int) ≤ 0 ∧ 0 < (s_.length : Int)) ∧
  VC25_J7 s_ lo hi Q (((gi s_ 0).toNat : Int) == 45)) ∧
  ((decide (((s_.length : Nat) : Int) > 0)) = false →
  VC25_J7 s_ lo hi Q false)


/-- (replevin/lit.number).in -/
def VC64 (n_ : Int) (vars : Int) (Q : Bool → Prop) : Prop :=
  Q (((n_ != 0) && (decide (n_ ≥ (IntKind.i64.wrap (0 - vars))))) && (decide (n_ ≤ vars)))


/-- replevin/lit.is -/
def VC76 (lit : Int) (Q : Bool → Prop) : Prop :=
  (preIn lit 100000) ∧
  ∀ r104, lit_number_in lit 100000 = r104 →
  Q r104


/-- replevin/lit.Var -/
def VC65 (lit : Int) (Q : Int → Prop) : Prop :=
  ∀ r104, lit_is lit = r104 →
  ((!r104) = true →
  Q 0) ∧
  ((!r104) = false →
  Q (if (IntKind.i64.wrap (0 - lit)) > lit then (IntKind.i64.wrap (0 - lit)) else lit))


/-- replevin/lit.Check -/
def VC50 (lit : Int) (vars : Int) (Q : Int → Prop) : Prop :=
  (((decide (vars < 0)) || (decide (vars > 100000))) = true →
  Q 2) ∧
  (((decide (vars < 0)) || (decide (vars > 100000))) = false →
  (preIn lit vars) ∧
  ∀ r104, lit_number_in lit vars = r104 →
  ((!r104) = true →
  Q 10) ∧
  ((!r104) = false →
  Q 0))


/-- replevin/replevinref01.Split -/
def VC69 (l_ : Int) (Q : Int × Bool → Prop) : Prop :=
  (((decide (l_ > 0)) && (decide (l_ ≤ 100000))) = true →
  Q (l_, true)) ∧
  (((decide (l_ > 0)) && (decide (l_ ≤ 100000))) = false →
  (((decide (l_ < 0)) && (decide (l_ ≥ (-100000)))) = true →
  Q (IntKind.i64.wrap (0 - l_), false)) ∧
  (((decide (l_ < 0)) && (decide (l_ ≥ (-100000)))) = false →
  Q (0, false)))


/-- replevin/replevinref01.Index -/
def VC70 (l_ : Int) (Q : Int → Prop) : Prop :=
  ∀ r104, ref01_Split l_ = r104 →
  ((r104.1 == 0) = true →
  Q (-1)) ∧
  ((r104.1 == 0) = false →
  (r104.2 = true →
  Q (IntKind.i64.wrap ((IntKind.i64.wrap (2 * r104.1)) - 2))) ∧
  (r104.2 = false →
  Q (IntKind.i64.wrap ((IntKind.i64.wrap (2 * r104.1)) - 1))))


/-- replevin/replevinref01.Join -/
def VC71 (v_ : Int) (truth : Bool) (Q : Int → Prop) : Prop :=
  (((decide (v_ < 1)) || (decide (v_ > 100000))) = true →
  Q 0) ∧
  (((decide (v_ < 1)) || (decide (v_ > 100000))) = false →
  (truth = true →
  Q v_) ∧
  (truth = false →
  Q (IntKind.i64.wrap (0 - v_))))


/-- replevin/replevinref01.Neg -/
def VC60 (l_ : Int) (Q : Int → Prop) : Prop :=
  ∀ r104, ref01_Split l_ = r104 →
  ∀ r108, ref01_Join r104.1 (!r104.2) = r108 →
  Q r108


/-- replevin/replevinref01.Check -/
def VC58 (l_ : Int) (vars : Int) (Q : Int → Prop) : Prop :=
  (((decide (vars < 0)) || (decide (vars > 100000))) = true →
  Q 2) ∧
  (((decide (vars < 0)) || (decide (vars > 100000))) = false →
  ∀ r104, ref01_Split l_ = r104 →
  (((r104.1 == 0) || (decide (r104.1 > vars))) = true →
  Q 10) ∧
  (((r104.1 == 0) || (decide (r104.1 > vars))) = false →
  Q 0))


def VC26_J1 (Q : Bool → Prop) : Prop :=
  Q false
/-- replevin/replevinref01.Has -/
def VC26 (l_ : List Int) (n_ : Int) (Q : Bool → Prop) : Prop :=
  ∀ (_ : sm l_),
  ∃ (I1 : Int → Prop) (μ1 : Int → Nat), I1 0 ∧ ∀ (i_102 : Int), I1 i_102 →
  ((decide (i_102 < ((l_.length : Nat) : Int))) = true →
  ((0 : Int) ≤ i_102 ∧ i_102 < (l_.length : Int)) ∧
  (((gi l_ i_102) == n_) = true →
  Q true) ∧
  (((gi l_ i_102) == n_) = false →
  I1 (IntKind.i64.wrap (i_102 + 1)) ∧ μ1 (IntKind.i64.wrap (i_102 + 1)) < μ1 i_102)) ∧
  ((decide (i_102 < ((l_.length : Nat) : Int))) = false →
  VC26_J1 Q)


def VC43_J1 (Q : Bool → Prop) : Prop :=
  Q true
/-- replevin/replevinref01.SameInts -/
def VC43 (a_ : List Int) (b_ : List Int) (Q : Bool → Prop) : Prop :=
  ∀ (_ : sm a_),
  ∀ (_ : sm b_),
  ((((a_.length : Nat) : Int) != ((b_.length : Nat) : Int)) = true →
  Q false) ∧
  ((((a_.length : Nat) : Int) != ((b_.length : Nat) : Int)) = false →
  ∃ (I1 : Int → Prop) (μ1 : Int → Nat), I1 0 ∧ ∀ (i_103 : Int), I1 i_103 →
  ((decide (i_103 < ((a_.length : Nat) : Int))) = true →
  ((0 : Int) ≤ i_103 ∧ i_103 < (a_.length : Int)) ∧
  ((0 : Int) ≤ i_103 ∧ i_103 < (b_.length : Int)) ∧
  (((gi a_ i_103) != (gi b_ i_103)) = true →
  Q false) ∧
  (((gi a_ i_103) != (gi b_ i_103)) = false →
  I1 (IntKind.i64.wrap (i_103 + 1)) ∧ μ1 (IntKind.i64.wrap (i_103 + 1)) < μ1 i_103)) ∧
  ((decide (i_103 < ((a_.length : Nat) : Int))) = false →
  VC43_J1 Q))


/-- replevin/replevinref02.Has -/
def VC59 (c_ : List Int) (l_ : Int) (Q : Bool → Prop) : Prop :=
  ∀ (_ : sm c_),
  ∀ r104, ref01_Index l_ = r104 →
  ((decide (r104 ≥ 0)) = true →
  ∀ r108, ref01_Has c_ l_ = r108 →
  Q r108) ∧
  ((decide (r104 ≥ 0)) = false →
  Q false)


def VC45_J2 (Q : Int → Prop) : Prop :=
  Q 0
def VC45_J1 (c_ : List Int) (Q : Int → Prop) : Prop :=
  ∃ (I1 : Int → Prop) (μ1 : Int → Nat), I1 0 ∧ ∀ (i_103 : Int), I1 i_103 →
  ((decide (i_103 < ((c_.length : Nat) : Int))) = true →
  ((0 : Int) ≤ i_103 ∧ i_103 ≤ (c_.length : Int)) ∧
  ((0 : Int) ≤ i_103 ∧ i_103 < (c_.length : Int)) ∧
  ∀ r115, ref01_Has (c_.take i_103.toNat) (gi c_ i_103) = r115 →
  (r115 = true →
  Q 21) ∧
  (r115 = false →
  I1 (IntKind.i64.wrap (i_103 + 1)) ∧ μ1 (IntKind.i64.wrap (i_103 + 1)) < μ1 i_103)) ∧
  ((decide (i_103 < ((c_.length : Nat) : Int))) = false →
  VC45_J2 Q)
/-- replevin/replevinref02.Check -/
def VC45 (c_ : List Int) (vars : Int) (Q : Int → Prop) : Prop :=
  ∀ (_ : sm c_),
  (((decide (vars < 0)) || (decide (vars > 100000))) = true →
  Q 2) ∧
  (((decide (vars < 0)) || (decide (vars > 100000))) = false →
  ((decide (((c_.length : Nat) : Int) > 1000)) = true →
  Q 3) ∧
  ((decide (((c_.length : Nat) : Int) > 1000)) = false →
  ∃ (I2 : Int → Prop) (μ2 : Int → Nat), I2 0 ∧ ∀ (i_121 : Int), I2 i_121 →
  ((decide (i_121 < ((c_.length : Nat) : Int))) = true →
  ((0 : Int) ≤ i_121 ∧ i_121 < (c_.length : Int)) ∧
  ∀ r128, ref01_Check (gi c_ i_121) vars = r128 →
  ((r128 != 0) = true →
  Q 10) ∧
  ((r128 != 0) = false →
  I2 (IntKind.i64.wrap (i_121 + 1)) ∧ μ2 (IntKind.i64.wrap (i_121 + 1)) < μ2 i_121)) ∧
  ((decide (i_121 < ((c_.length : Nat) : Int))) = false →
  VC45_J1 c_ Q)))


def VC46_J1 (Q : Bool → Prop) : Prop :=
  Q false
def VC46_J2 (Q : Bool → Prop) (I1 : Int → Prop) (μ1 : Int → Nat) (i_102 : Int) (x_104 : Bool) : Prop :=
  (x_104 = true →
  Q true) ∧
  (x_104 = false →
  I1 (IntKind.i64.wrap (i_102 + 1)) ∧ μ1 (IntKind.i64.wrap (i_102 + 1)) < μ1 i_102)
/-- replevin/replevinref02.Taut -/
def VC46 (c_ : List Int) (Q : Bool → Prop) : Prop :=
  ∀ (_ : sm c_),
  ∃ (I1 : Int → Prop) (μ1 : Int → Nat), I1 0 ∧ ∀ (i_102 : Int), I1 i_102 →
  ((decide (i_102 < ((c_.length : Nat) : Int))) = true →
  ((0 : Int) ≤ i_102 ∧ i_102 < (c_.length : Int)) ∧
  ∀ r111, ref02_Has c_ (gi c_ i_102) = r111 →
  (r111 = true →
  ((0 : Int) ≤ i_102 ∧ i_102 < (c_.length : Int)) ∧
  ∀ r118, ref01_Neg (gi c_ i_102) = r118 →
  ∀ r122, ref02_Has c_ r118 = r122 →
  VC46_J2 Q I1 μ1 i_102 r122) ∧
  (r111 = false →
  VC46_J2 Q I1 μ1 i_102 false)) ∧
  ((decide (i_102 < ((c_.length : Nat) : Int))) = false →
  VC46_J1 Q)


def VC51_J1 (Q : ((List (Int × Int))) → Prop) (out_105 : List (Int × Int)) : Prop :=
  Q out_105
def VC51_J2 (I1 : (List (Int × Int)) → Int → Prop) (μ1 : (List (Int × Int)) → Int → Nat) (out_107 : List (Int × Int)) (x_110 : Int) (out_111 : List (Int × Int)) : Prop :=
  I1 out_111 (IntKind.i64.wrap (x_110 + 1)) ∧ μ1 out_111 (IntKind.i64.wrap (x_110 + 1)) < μ1 out_107 x_110
/-- replevin/clause.seen -/
def VC51 (c_ : List Int) (Q : (List (Int × Int)) → Prop) : Prop :=
  ∀ (_ : sm c_),
  ∃ (I1 : (List (Int × Int)) → Int → Prop) (μ1 : (List (Int × Int)) → Int → Nat), I1 ([] : List (Int × Int)) 0 ∧ ∀ (out_107 : List (Int × Int)) (x_110 : Int), I1 out_107 x_110 →
  ((decide (x_110 < ((c_.length : Nat) : Int))) = true →
  ((0 : Int) ≤ x_110 ∧ x_110 < (c_.length : Int)) ∧
  ∀ r120, lit_Var (gi c_ x_110) = r120 →
  ((decide (r120 > 0)) = true →
  VC51_J2 I1 μ1 out_107 x_110 (mput out_107 (gi c_ x_110) (IntKind.i64.wrap (((mget out_107 (gi c_ x_110)).getD 0) + 1)))) ∧
  ((decide (r120 > 0)) = false →
  VC51_J2 I1 μ1 out_107 x_110 out_107)) ∧
  ((decide (x_110 < ((c_.length : Nat) : Int))) = false →
  VC51_J1 Q out_107)


/-- replevin/clause.Taut$1 -/
def VC53 (l_ : Int) (cap1 : List (Int × Int)) (Q : Bool → Prop) : Prop :=
  ((decide (((mget cap1 l_).getD 0) > 0)) = true →
  Q (decide (((mget cap1 (IntKind.i64.wrap (0 - l_))).getD 0) > 0))) ∧
  ((decide (((mget cap1 l_).getD 0) > 0)) = false →
  Q false)


def VC66_53_J1 (Q : Int → Prop) : Prop :=
  Q (-1)
/-- slices.IndexFunc[[]int,int] -/
def VC66_53 (s_ : List Int) (cap1 : List (Int × Int)) (Q : Int → Prop) : Prop :=
  ∀ (_ : sm s_),
  ∃ (I1 : Int → Prop) (μ1 : Int → Nat), I1 0 ∧ ∀ (x_103 : Int), I1 x_103 →
  ((decide (x_103 < ((s_.length : Nat) : Int))) = true →
  ((0 : Int) ≤ x_103 ∧ x_103 < (s_.length : Int)) ∧
  (preT1 (gi s_ x_103) cap1) ∧
  ∀ r111, clause_Taut_1 (gi s_ x_103) cap1 = r111 →
  (r111 = true →
  Q x_103) ∧
  (r111 = false →
  I1 (IntKind.i64.wrap (x_103 + 1)) ∧ μ1 (IntKind.i64.wrap (x_103 + 1)) < μ1 x_103)) ∧
  ((decide (x_103 < ((s_.length : Nat) : Int))) = false →
  VC66_53_J1 Q)


/-- slices.ContainsFunc[[]int,int] -/
def VC52_53 (s_ : List Int) (cap1 : List (Int × Int)) (Q : Bool → Prop) : Prop :=
  ∀ (_ : sm s_),
  (preTI s_ cap1) ∧
  ∀ r104, slices_IndexFunc_int_int_clause_Taut_1 s_ cap1 = r104 →
  Q (decide (r104 ≥ 0))


/-- replevin/clause.Taut -/
def VC34 (c_ : List Int) (Q : Bool → Prop) : Prop :=
  ∀ (_ : sm c_),
  (preSeen c_) ∧
  ∀ r104, clause_seen c_ = r104 →
  (preTI c_ r104) ∧
  ∀ r110, slices_ContainsFunc_int_int_clause_Taut_1 c_ r104 = r110 →
  Q r110


def VC33_J1 (c_ : List Int) (Q : Int → Prop) : Prop :=
  (preSeen c_) ∧
  ∀ r105, clause_seen c_ = r105 →
  ((decide (((r105.length : Nat) : Int) < ((c_.length : Nat) : Int))) = true →
  Q 21) ∧
  ((decide (((r105.length : Nat) : Int) < ((c_.length : Nat) : Int))) = false →
  Q 0)
/-- replevin/clause.Check -/
def VC33 (c_ : List Int) (vars : Int) (Q : Int → Prop) : Prop :=
  ∀ (_ : sm c_),
  (((decide (vars < 0)) || (decide (vars > 100000))) = true →
  Q 2) ∧
  (((decide (vars < 0)) || (decide (vars > 100000))) = false →
  ((decide (((c_.length : Nat) : Int) > 1000)) = true →
  Q 3) ∧
  ((decide (((c_.length : Nat) : Int) > 1000)) = false →
  ∃ (I1 : Int → Prop) (μ1 : Int → Nat), I1 0 ∧ ∀ (x_110 : Int), I1 x_110 →
  ((decide (x_110 < ((c_.length : Nat) : Int))) = true →
  ((0 : Int) ≤ x_110 ∧ x_110 < (c_.length : Int)) ∧
  ∀ r117, lit_Check (gi c_ x_110) vars = r117 →
  ((r117 != 0) = true →
  Q r117) ∧
  ((r117 != 0) = false →
  I1 (IntKind.i64.wrap (x_110 + 1)) ∧ μ1 (IntKind.i64.wrap (x_110 + 1)) < μ1 x_110)) ∧
  ((decide (x_110 < ((c_.length : Nat) : Int))) = false →
  VC33_J1 c_ Q)))


def VC17_J1 (f_ : Api_Formula) (Q : (Int × Int) → Prop) : Prop :=
  Q (((f_.Clauses.length : Nat) : Int), 0)
/-- replevin/cnf.Check -/
def VC17 (f_ : Api_Formula) (Q : Int × Int → Prop) : Prop :=
  ∀ (_ : sm f_.Clauses),
  (((decide (f_.Vars < 0)) || (decide (f_.Vars > 100000))) = true →
  Q (0, 2)) ∧
  (((decide (f_.Vars < 0)) || (decide (f_.Vars > 100000))) = false →
  ((decide (((f_.Clauses.length : Nat) : Int) > 1000000)) = true →
  Q (0, 3)) ∧
  ((decide (((f_.Clauses.length : Nat) : Int) > 1000000)) = false →
  ∃ (I1 : Int → Prop) (μ1 : Int → Nat), I1 0 ∧ ∀ (x_103 : Int), I1 x_103 →
  ((decide (x_103 < ((f_.Clauses.length : Nat) : Int))) = true →
  ((0 : Int) ≤ x_103 ∧ x_103 < (f_.Clauses.length : Int)) ∧
  ∀ (_ : sm (gi f_.Clauses x_103)),
  ∀ r114, clause_Check (gi f_.Clauses x_103) f_.Vars = r114 →
  ((r114 != 0) = true →
  Q (x_103, r114)) ∧
  ((r114 != 0) = false →
  (preTt (gi f_.Clauses x_103)) ∧
  ∀ r118, clause_Taut (gi f_.Clauses x_103) = r118 →
  (r118 = true →
  Q (x_103, 11)) ∧
  (r118 = false →
  I1 (IntKind.i64.wrap (x_103 + 1)) ∧ μ1 (IntKind.i64.wrap (x_103 + 1)) < μ1 x_103))) ∧
  ((decide (x_103 < ((f_.Clauses.length : Nat) : Int))) = false →
  VC17_J1 f_ Q)))


def VC29_J1 (f_ : Api_Formula) (Q : (Int × Int) → Prop) : Prop :=
  Q (((f_.Clauses.length : Nat) : Int), 0)
/-- replevin/replevinref04.Check -/
def VC29 (f_ : Api_Formula) (Q : Int × Int → Prop) : Prop :=
  ∀ (_ : sm f_.Clauses),
  (((decide (f_.Vars < 0)) || (decide (f_.Vars > 100000))) = true →
  Q (0, 2)) ∧
  (((decide (f_.Vars < 0)) || (decide (f_.Vars > 100000))) = false →
  ((decide (((f_.Clauses.length : Nat) : Int) > 1000000)) = true →
  Q (0, 3)) ∧
  ((decide (((f_.Clauses.length : Nat) : Int) > 1000000)) = false →
  ∃ (I1 : Int → Prop) (μ1 : Int → Nat), I1 0 ∧ ∀ (i_102 : Int), I1 i_102 →
  ((decide (i_102 < ((f_.Clauses.length : Nat) : Int))) = true →
  ((0 : Int) ≤ i_102 ∧ i_102 < (f_.Clauses.length : Int)) ∧
  ∀ (_ : sm (gi f_.Clauses i_102)),
  ∀ r115, ref02_Check (gi f_.Clauses i_102) f_.Vars = r115 →
  ((r115 != 0) = true →
  Q (i_102, r115)) ∧
  ((r115 != 0) = false →
  ((0 : Int) ≤ i_102 ∧ i_102 < (f_.Clauses.length : Int)) ∧
  ∀ (_ : sm (gi f_.Clauses i_102)),
  ∀ r125, ref02_Taut (gi f_.Clauses i_102) = r125 →
  (r125 = true →
  Q (i_102, 11)) ∧
  (r125 = false →
  I1 (IntKind.i64.wrap (i_102 + 1)) ∧ μ1 (IntKind.i64.wrap (i_102 + 1)) < μ1 i_102))) ∧
  ((decide (i_102 < ((f_.Clauses.length : Nat) : Int))) = false →
  VC29_J1 f_ Q)))


def VC37_J1 (Q : Bool → Prop) : Prop :=
  Q true
/-- slices.Equal[[]int,int] -/
def VC37 (s1 : List Int) (s2 : List Int) (Q : Bool → Prop) : Prop :=
  ∀ (_ : sm s1),
  ∀ (_ : sm s2),
  ((((s1.length : Nat) : Int) != ((s2.length : Nat) : Int)) = true →
  Q false) ∧
  ((((s1.length : Nat) : Int) != ((s2.length : Nat) : Int)) = false →
  ∃ (I1 : Int → Prop) (μ1 : Int → Nat), I1 0 ∧ ∀ (x_103 : Int), I1 x_103 →
  ((decide (x_103 < ((s1.length : Nat) : Int))) = true →
  ((0 : Int) ≤ x_103 ∧ x_103 < (s1.length : Int)) ∧
  ((0 : Int) ≤ x_103 ∧ x_103 < (s2.length : Int)) ∧
  (((gi s1 x_103) != (gi s2 x_103)) = true →
  Q false) ∧
  (((gi s1 x_103) != (gi s2 x_103)) = false →
  I1 (IntKind.i64.wrap (x_103 + 1)) ∧ μ1 (IntKind.i64.wrap (x_103 + 1)) < μ1 x_103)) ∧
  ((decide (x_103 < ((s1.length : Nat) : Int))) = false →
  VC37_J1 Q))


/-- replevin/cnf.Same$1 -/
def VC36 (x_ : List Int) (y_ : List Int) (Q : Bool → Prop) : Prop :=
  ∀ (_ : sm x_),
  ∀ (_ : sm y_),
  ∀ r104, slices_Equal_int_int x_ y_ = r104 →
  Q r104


def VC35_36_J1 (Q : Bool → Prop) : Prop :=
  Q true
/-- slices.EqualFunc[[][]int,[][]int,[]int,[]int] -/
def VC35_36 (s1 : List (List Int)) (s2 : List (List Int)) (Q : Bool → Prop) : Prop :=
  ∀ (_ : sm s1),
  ∀ (_ : sm s2),
  ((((s1.length : Nat) : Int) != ((s2.length : Nat) : Int)) = true →
  Q false) ∧
  ((((s1.length : Nat) : Int) != ((s2.length : Nat) : Int)) = false →
  ∃ (I1 : Int → Prop) (μ1 : Int → Nat), I1 0 ∧ ∀ (x_103 : Int), I1 x_103 →
  ((decide (x_103 < ((s1.length : Nat) : Int))) = true →
  ((0 : Int) ≤ x_103 ∧ x_103 < (s1.length : Int)) ∧
  ∀ (_ : sm (gi s1 x_103)),
  ((0 : Int) ≤ x_103 ∧ x_103 < (s2.length : Int)) ∧
  ∀ (_ : sm (gi s2 x_103)),
  ∀ r119, cnf_Same_1 (gi s1 x_103) (gi s2 x_103) = r119 →
  ((!r119) = true →
  Q false) ∧
  ((!r119) = false →
  I1 (IntKind.i64.wrap (x_103 + 1)) ∧ μ1 (IntKind.i64.wrap (x_103 + 1)) < μ1 x_103)) ∧
  ((decide (x_103 < ((s1.length : Nat) : Int))) = false →
  VC35_36_J1 Q))


/-- replevin/cnf.Same -/
def VC18 (a_ : Api_Formula) (b_ : Api_Formula) (Q : Bool → Prop) : Prop :=
  ∀ (_ : sm a_.Clauses),
  ∀ (_ : sm b_.Clauses),
  ((a_.Vars == b_.Vars) = true →
  ∀ r104, slices_EqualFunc_int_int_int_int_cnf_Same_1 a_.Clauses b_.Clauses = r104 →
  Q r104) ∧
  ((a_.Vars == b_.Vars) = false →
  Q false)


def VC27_J1 (Q : Bool → Prop) : Prop :=
  Q true
/-- replevin/replevinref04.SameRows -/
def VC27 (a_ : List (List Int)) (b_ : List (List Int)) (Q : Bool → Prop) : Prop :=
  ∀ (_ : sm a_),
  ∀ (_ : sm b_),
  ((((a_.length : Nat) : Int) != ((b_.length : Nat) : Int)) = true →
  Q false) ∧
  ((((a_.length : Nat) : Int) != ((b_.length : Nat) : Int)) = false →
  ∃ (I1 : Int → Prop) (μ1 : Int → Nat), I1 0 ∧ ∀ (i_103 : Int), I1 i_103 →
  ((decide (i_103 < ((a_.length : Nat) : Int))) = true →
  ((0 : Int) ≤ i_103 ∧ i_103 < (a_.length : Int)) ∧
  ∀ (_ : sm (gi a_ i_103)),
  ((0 : Int) ≤ i_103 ∧ i_103 < (b_.length : Int)) ∧
  ∀ (_ : sm (gi b_ i_103)),
  ∀ r121, ref01_SameInts (gi a_ i_103) (gi b_ i_103) = r121 →
  ((!r121) = true →
  Q false) ∧
  ((!r121) = false →
  I1 (IntKind.i64.wrap (i_103 + 1)) ∧ μ1 (IntKind.i64.wrap (i_103 + 1)) < μ1 i_103)) ∧
  ((decide (i_103 < ((a_.length : Nat) : Int))) = false →
  VC27_J1 Q))


/-- replevin/replevinref04.Same -/
def VC10 (a_ : Api_Formula) (b_ : Api_Formula) (Q : Bool → Prop) : Prop :=
  ∀ (_ : sm a_.Clauses),
  ∀ (_ : sm b_.Clauses),
  ((a_.Vars == b_.Vars) = true →
  ∀ r104, ref04_SameRows a_.Clauses b_.Clauses = r104 →
  Q r104) ∧
  ((a_.Vars == b_.Vars) = false →
  Q false)


def VC11_J1 (Q : Bool → Prop) : Prop :=
  Q true
/-- replevin/replevinlaw04.Few -/
def VC11 (f_ : Api_Formula) (Q : Bool → Prop) : Prop :=
  ∀ (_ : sm f_.Clauses),
  ((decide (((f_.Clauses.length : Nat) : Int) > 200)) = true →
  Q false) ∧
  ((decide (((f_.Clauses.length : Nat) : Int) > 200)) = false →
  ∃ (I1 : Int → Prop) (μ1 : Int → Nat), I1 0 ∧ ∀ (i_101 : Int), I1 i_101 →
  ((decide (i_101 < ((f_.Clauses.length : Nat) : Int))) = true →
  ((0 : Int) ≤ i_101 ∧ i_101 < (f_.Clauses.length : Int)) ∧
  ∀ (_ : sm (gi f_.Clauses i_101)),
  ((decide ((((gi f_.Clauses i_101).length : Nat) : Int) > 50)) = true →
  Q false) ∧
  ((decide ((((gi f_.Clauses i_101).length : Nat) : Int) > 50)) = false →
  I1 (IntKind.i64.wrap (i_101 + 1)) ∧ μ1 (IntKind.i64.wrap (i_101 + 1)) < μ1 i_101)) ∧
  ((decide (i_101 < ((f_.Clauses.length : Nat) : Int))) = false →
  VC11_J1 Q))


/-- (*replevin/dimacs.reader).wrong -/
def VC23 (t_ : Token_Token) (e_ : Int) (cap1 : Dimacs_reader) (Q : Dimacs_reader → Prop) : Prop :=
  ∀ (_ : sm cap1.rest),
  ((cap1.fault.e == 0) = true →
  Q (⟨(⟨t_.At, e_⟩ : Dimacs_fault), cap1.rest, cap1.end_⟩ : Dimacs_reader)) ∧
  ((cap1.fault.e == 0) = false →
  Q cap1)


/-- (*replevin/dimacs.reader).next -/
def VC39 (cap1 : Dimacs_reader) (Q : Token_Token × Bool × Dimacs_reader → Prop) : Prop :=
  ∀ (_ : sm cap1.rest),
  ((cap1.fault.e != 0) = true →
  Q ((⟨0, 0, ([] : List UInt8)⟩ : Token_Token), false, cap1)) ∧
  ((cap1.fault.e != 0) = false →
  ((((cap1.rest.length : Nat) : Int) == 0) = true →
  Q ((⟨0, 0, ([] : List UInt8)⟩ : Token_Token), false, (⟨(⟨cap1.end_, 4⟩ : Dimacs_fault), cap1.rest, cap1.end_⟩ : Dimacs_reader))) ∧
  ((((cap1.rest.length : Nat) : Int) == 0) = false →
  ((0 : Int) ≤ 0 ∧ 0 < (cap1.rest.length : Int)) ∧
  ((0 : Int) ≤ 1 ∧ 1 ≤ (cap1.rest.length : Int)) ∧
  Q ((gi cap1.rest 0), true, (⟨cap1.fault, cap1.rest.drop (1 : Int).toNat, cap1.end_⟩ : Dimacs_reader))))


/-- (*replevin/dimacs.reader).word -/
def VC20 (want : List UInt8) (cap1 : Dimacs_reader) (Q : Dimacs_reader → Prop) : Prop :=
  ∀ (_ : sm cap1.rest),
  ∀ r104, dimacs_reader_next cap1 = r104 →
  ∀ (_ : sm r104.2.2.rest),
  ((r104.2.1 && (!(r104.1.Text == want))) = true →
  ∀ r112, dimacs_reader_wrong r104.1 8 r104.2.2 = r112 →
  ∀ (_ : sm r112.rest),
  Q r112) ∧
  ((r104.2.1 && (!(r104.1.Text == want))) = false →
  Q r104.2.2)


def VC21_J1 (Q : (Int × Token_Token × Dimacs_reader) → Prop) (r104 : Token_Token × Bool × Dimacs_reader) (r116 : Int × Int) (x_117 : Int) (x_118 : Int) (x_119 : List Token_Token) (x_123 : Int) : Prop :=
  Q (r116.1, r104.1, (⟨(⟨x_117, x_118⟩ : Dimacs_fault), x_119, x_123⟩ : Dimacs_reader))
/-- (*replevin/dimacs.reader).number -/
def VC21 (lo : Int) (hi : Int) (cap1 : Dimacs_reader) (Q : Int × Token_Token × Dimacs_reader → Prop) : Prop :=
  ∀ (_ : sm cap1.rest),
  ∀ r104, dimacs_reader_next cap1 = r104 →
  ∀ (_ : sm r104.2.2.rest),
  ((!r104.2.1) = true →
  Q (0, r104.1, r104.2.2)) ∧
  ((!r104.2.1) = false →
  (preNum r104.1.Text lo hi) ∧
  ∀ r116, token_Number r104.1.Text lo hi = r116 →
  ((r116.2 != 0) = true →
  ∀ r131, dimacs_reader_wrong r104.1 r116.2 r104.2.2 = r131 →
  ∀ (_ : sm r131.rest),
  VC21_J1 Q r104 r116 r131.fault.at_ r131.fault.e r131.rest r131.end_) ∧
  ((r116.2 != 0) = false →
  VC21_J1 Q r104 r116 r104.2.2.fault.at_ r104.2.2.fault.e r104.2.2.rest r104.2.2.end_))


def VC41_J1 (l_ : Int) (cap4 : List (Int × Int)) (Q : ((List Int) × Dimacs_reader × (List (Int × Int))) → Prop) (x_101 : List Int) (x_105 : Int) (x_106 : Int) (x_107 : List Token_Token) (x_111 : Int) : Prop :=
  (x_101.length + [l_].length ≤ 1099511627776) ∧
  Q (x_101 ++ [l_], (⟨(⟨x_105, x_106⟩ : Dimacs_fault), x_107, x_111⟩ : Dimacs_reader), mput cap4 l_ (IntKind.i64.wrap (((mget cap4 l_).getD 0) + 1)))
/-- (*replevin/dimacs.reader).clause$1 -/
def VC41 (l_ : Int) (t_ : Token_Token) (cap1 : List Int) (cap3 : Dimacs_reader) (cap4 : List (Int × Int)) (Q : (List Int) × Dimacs_reader × (List (Int × Int)) → Prop) : Prop :=
  ∀ (_ : sm cap1),
  ∀ (_ : sm cap3.rest),
  ((decide (((cap1.length : Nat) : Int) ≥ 1000)) = true →
  ∀ r130, dimacs_reader_wrong t_ 3 cap3 = r130 →
  ∀ (_ : sm r130.rest),
  VC41_J1 l_ cap4 Q cap1 r130.fault.at_ r130.fault.e r130.rest r130.end_) ∧
  ((decide (((cap1.length : Nat) : Int) ≥ 1000)) = false →
  ((decide (((mget cap4 l_).getD 0) > 0)) = true →
  ∀ r139, dimacs_reader_wrong t_ 21 cap3 = r139 →
  ∀ (_ : sm r139.rest),
  VC41_J1 l_ cap4 Q cap1 r139.fault.at_ r139.fault.e r139.rest r139.end_) ∧
  ((decide (((mget cap4 l_).getD 0) > 0)) = false →
  ((decide (((mget cap4 (IntKind.i64.wrap (0 - l_))).getD 0) > 0)) = true →
  ∀ r148, dimacs_reader_wrong t_ 11 cap3 = r148 →
  ∀ (_ : sm r148.rest),
  VC41_J1 l_ cap4 Q cap1 r148.fault.at_ r148.fault.e r148.rest r148.end_) ∧
  ((decide (((mget cap4 (IntKind.i64.wrap (0 - l_))).getD 0) > 0)) = false →
  VC41_J1 l_ cap4 Q cap1 cap3.fault.at_ cap3.fault.e cap3.rest cap3.end_)))


/-- (*replevin/dimacs.reader).clause -/
def VC22 (vars : Int) (cap1 : Dimacs_reader) (Q : (List Int) × Dimacs_reader → Prop) : Prop :=
  ∀ (_ : sm cap1.rest),
  ∃ (I1 : (List Int) → (List (Int × Int)) → Int → Int → (List Token_Token) → Int → Prop) (μ1 : (List Int) → (List (Int × Int)) → Int → Int → (List Token_Token) → Int → Nat), I1 ([] : List Int) ([] : List (Int × Int)) cap1.fault.at_ cap1.fault.e cap1.rest cap1.end_ ∧ ∀ (x_109 : List Int) (x_113 : List (Int × Int)) (x_115 : Int) (x_116 : Int) (x_117 : List Token_Token) (x_121 : Int), I1 x_109 x_113 x_115 x_116 x_117 x_121 →
  (preNb (IntKind.i64.wrap (0 - vars)) vars (⟨(⟨x_115, x_116⟩ : Dimacs_fault), x_117, x_121⟩ : Dimacs_reader)) ∧
  ∀ r125, dimacs_reader_number (IntKind.i64.wrap (0 - vars)) vars (⟨(⟨x_115, x_116⟩ : Dimacs_fault), x_117, x_121⟩ : Dimacs_reader) = r125 →
  ∀ (_ : sm r125.2.2.rest),
  (((r125.2.2.fault.e != 0) || (r125.1 == 0)) = true →
  Q (x_109, r125.2.2)) ∧
  (((r125.2.2.fault.e != 0) || (r125.1 == 0)) = false →
  (preCl1 r125.1 r125.2.1 x_109 r125.2.2 x_113) ∧
  ∀ r135, dimacs_reader_clause_1 r125.1 r125.2.1 x_109 r125.2.2 x_113 = r135 →
  ∀ (_ : sm r135.1),
  ∀ (_ : sm r135.2.1.rest),
  I1 r135.1 r135.2.2 r135.2.1.fault.at_ r135.2.1.fault.e r135.2.1.rest r135.2.1.end_ ∧ μ1 r135.1 r135.2.2 r135.2.1.fault.at_ r135.2.1.fault.e r135.2.1.rest r135.2.1.end_ < μ1 x_109 x_113 x_115 x_116 x_117 x_121)


def VC54_J1 (Q : ((List Token_Token)) → Prop) (s_101 : List Token_Token) : Prop :=
  Q s_101
/-- slices.Grow[[]replevin/token.Token,replevin/token.Token] -/
def VC54 (n_ : Int) (Q : (List Token_Token) → Prop) : Prop :=
  ((decide (n_ < 0)) = true →
  False) ∧
  ((decide (n_ < 0)) = false →
  ((decide ((IntKind.i64.wrap (n_ - (IntKind.i64.wrap (0 - 0)))) > 0)) = true →
  ((0 : Int) ≤ 0 ∧ 0 ≤ (([] : List Token_Token).length : Int)) ∧
  ((0 : Int) < (IntKind.i64.wrap (n_ - (IntKind.i64.wrap (0 - 0)))) ∧ (IntKind.i64.wrap (n_ - (IntKind.i64.wrap (0 - 0)))) ≤ 1099511627776) ∧
  ((0 : Int) ≤ 0 ∧ 0 ≤ ((List.replicate (IntKind.i64.wrap (n_ - (IntKind.i64.wrap (0 - 0)))).toNat (⟨0, 0, ([] : List UInt8)⟩ : Token_Token)).length : Int)) ∧
  VC54_J1 Q ((List.replicate (IntKind.i64.wrap (n_ - (IntKind.i64.wrap (0 - 0)))).toNat (⟨0, 0, ([] : List UInt8)⟩ : Token_Token)).take (0 : Int).toNat)) ∧
  ((decide ((IntKind.i64.wrap (n_ - (IntKind.i64.wrap (0 - 0)))) > 0)) = false →
  VC54_J1 Q []))


def VC38_J2 (Q : ((List Token_Token)) → Prop) (newslice_110 : List Token_Token) : Prop :=
  Q newslice_110
def VC38_J1 (slices : List (List Token_Token)) (Q : ((List Token_Token)) → Prop) (size_102 : Int) : Prop :=
  (preGrow size_102) ∧
  ∀ r106, slices_Grow_token_Token_token_Token size_102 = r106 →
  ∀ (_ : sm r106),
  ∃ (I1 : (List Token_Token) → Int → Prop) (μ1 : (List Token_Token) → Int → Nat), I1 r106 0 ∧ ∀ (newslice_116 : List Token_Token) (x_121 : Int), I1 newslice_116 x_121 →
  ((decide (x_121 < ((slices.length : Nat) : Int))) = true →
  ((0 : Int) ≤ x_121 ∧ x_121 < (slices.length : Int)) ∧
  ∀ (_ : sm (gi slices x_121)),
  (newslice_116.length + (gi slices x_121).length ≤ 1099511627776) ∧
  I1 (newslice_116 ++ (gi slices x_121)) (IntKind.i64.wrap (x_121 + 1)) ∧ μ1 (newslice_116 ++ (gi slices x_121)) (IntKind.i64.wrap (x_121 + 1)) < μ1 newslice_116 x_121) ∧
  ((decide (x_121 < ((slices.length : Nat) : Int))) = false →
  VC38_J2 Q newslice_116)
/-- slices.Concat[[]replevin/token.Token,replevin/token.Token] -/
def VC38 (slices : List (List Token_Token)) (Q : (List Token_Token) → Prop) : Prop :=
  ∀ (_ : sm slices),
  ∃ (I2 : Int → Int → Prop) (μ2 : Int → Int → Nat), I2 0 0 ∧ ∀ (size_138 : Int) (x_140 : Int), I2 size_138 x_140 →
  ((decide (x_140 < ((slices.length : Nat) : Int))) = true →
  ((0 : Int) ≤ x_140 ∧ x_140 < (slices.length : Int)) ∧
  ∀ (_ : sm (gi slices x_140)),
  ((decide ((IntKind.i64.wrap (size_138 + (((gi slices x_140).length : Nat) : Int))) < 0)) = true →
  False) ∧
  ((decide ((IntKind.i64.wrap (size_138 + (((gi slices x_140).length : Nat) : Int))) < 0)) = false →
  I2 (IntKind.i64.wrap (size_138 + (((gi slices x_140).length : Nat) : Int))) (IntKind.i64.wrap (x_140 + 1)) ∧ μ2 (IntKind.i64.wrap (size_138 + (((gi slices x_140).length : Nat) : Int))) (IntKind.i64.wrap (x_140 + 1)) < μ2 size_138 x_140)) ∧
  ((decide (x_140 < ((slices.length : Nat) : Int))) = false →
  VC38_J1 slices Q size_138)


/-- replevin/dimacs.open -/
def VC19 (s_ : List UInt8) (Q : Dimacs_reader → Prop) : Prop :=
  (len1 s_) ∧
  ∀ r104, token_Lines s_ = r104 →
  ∀ (_ : sm r104),
  (preCat r104) ∧
  ∀ r111, slices_Concat_token_Token_token_Token r104 = r111 →
  ∀ (_ : sm r111),
  Q (⟨(⟨0, 0⟩ : Dimacs_fault), r111, ((s_.length : Nat) : Int)⟩ : Dimacs_reader)


def VC8_J2 (s_ : List UInt8) (Q : (Api_Formula × Int × Int) → Prop) (x_144 : Int) (x_156 : List (List Int)) (x_160 : Int) (x_161 : Int) (x_162 : List Token_Token) (x_166 : Int) : Prop :=
  ((x_161 != 0) = true →
  Q ((⟨0, []⟩ : Api_Formula), x_160, x_161)) ∧
  ((x_161 != 0) = false →
  Q ((⟨x_144, x_156⟩ : Api_Formula), ((s_.length : Nat) : Int), 0))
def VC8_J1 (s_ : List UInt8) (Q : (Api_Formula × Int × Int) → Prop) (x_144 : Int) (x_145 : List (List Int)) (x_149 : Int) (x_150 : Int) (x_151 : List Token_Token) (x_155 : Int) : Prop :=
  (((x_150 == 0) && (decide (((x_151.length : Nat) : Int) > 0))) = true →
  ((0 : Int) ≤ 0 ∧ 0 < (x_151.length : Int)) ∧
  ∀ r181, dimacs_reader_wrong (gi x_151 0) 6 (⟨(⟨x_149, x_150⟩ : Dimacs_fault), x_151, x_155⟩ : Dimacs_reader) = r181 →
  ∀ (_ : sm r181.rest),
  VC8_J2 s_ Q x_144 x_145 r181.fault.at_ r181.fault.e r181.rest r181.end_) ∧
  (((x_150 == 0) && (decide (((x_151.length : Nat) : Int) > 0))) = false →
  VC8_J2 s_ Q x_144 x_145 x_149 x_150 x_151 x_155)
/-- replevin/dimacs.Parse -/
def VC8 (s_ : List UInt8) (Q : Api_Formula × Int × Int → Prop) : Prop :=
  ((decide (((s_.length : Nat) : Int) > 1000000)) = true →
  Q ((⟨0, []⟩ : Api_Formula), 0, 3)) ∧
  ((decide (((s_.length : Nat) : Int) > 1000000)) = false →
  (len1 s_) ∧
  ∀ r106, dimacs_open s_ = r106 →
  ∀ (_ : sm r106.rest),
  ∀ r115, dimacs_reader_word ([112] : List UInt8) r106 = r115 →
  ∀ (_ : sm r115.rest),
  ∀ r123, dimacs_reader_word ([99, 110, 102] : List UInt8) r115 = r123 →
  ∀ (_ : sm r123.rest),
  (preNb 0 100000 r123) ∧
  ∀ r131, dimacs_reader_number 0 100000 r123 = r131 →
  ∀ (_ : sm r131.2.2.rest),
  (preNb 0 1000000 r131.2.2) ∧
  ∀ r139, dimacs_reader_number 0 1000000 r131.2.2 = r139 →
  ∀ (_ : sm r139.2.2.rest),
  ∃ (I1 : Int → (List (List Int)) → Int → Int → (List Token_Token) → Int → Prop) (μ1 : Int → (List (List Int)) → Int → Int → (List Token_Token) → Int → Nat), I1 r131.1 [] r139.2.2.fault.at_ r139.2.2.fault.e r139.2.2.rest r139.2.2.end_ ∧ ∀ (x_188 : Int) (x_189 : List (List Int)) (x_193 : Int) (x_194 : Int) (x_195 : List Token_Token) (x_199 : Int), I1 x_188 x_189 x_193 x_194 x_195 x_199 →
  (((x_194 == 0) && (decide (((x_189.length : Nat) : Int) < r139.1))) = true →
  (preCl x_188 (⟨(⟨x_193, x_194⟩ : Dimacs_fault), x_195, x_199⟩ : Dimacs_reader)) ∧
  ∀ r205, dimacs_reader_clause x_188 (⟨(⟨x_193, x_194⟩ : Dimacs_fault), x_195, x_199⟩ : Dimacs_reader) = r205 →
  ∀ (_ : sm r205.2.rest),
  (x_189.length + [r205.1].length ≤ 1099511627776) ∧
  I1 x_188 (x_189 ++ [r205.1]) r205.2.fault.at_ r205.2.fault.e r205.2.rest r205.2.end_ ∧ μ1 x_188 (x_189 ++ [r205.1]) r205.2.fault.at_ r205.2.fault.e r205.2.rest r205.2.end_ < μ1 x_188 x_189 x_193 x_194 x_195 x_199) ∧
  (((x_194 == 0) && (decide (((x_189.length : Nat) : Int) < r139.1))) = false →
  VC8_J1 s_ Q x_188 x_189 x_193 x_194 x_195 x_199))


def VC24_J1 (Q : ((List Ref05_Token)) → Prop) (out_108 : List Ref05_Token) : Prop :=
  Q out_108
def VC24_J2 (I1 : (List Ref05_Token) → Int → Prop) (μ1 : (List Ref05_Token) → Int → Nat) (out_114 : List Ref05_Token) (i_119 : Int) (out_120 : List Ref05_Token) : Prop :=
  I1 out_120 (IntKind.i64.wrap (i_119 + 1)) ∧ μ1 out_120 (IntKind.i64.wrap (i_119 + 1)) < μ1 out_114 i_119
/-- replevin/replevinref06.All -/
def VC24 (s_ : List UInt8) (Q : (List Ref05_Token) → Prop) : Prop :=
  (len1 s_) ∧
  ∀ r104, ref05_Lines s_ = r104 →
  ∀ (_ : sm r104),
  ∃ (I1 : (List Ref05_Token) → Int → Prop) (μ1 : (List Ref05_Token) → Int → Nat), I1 [] 0 ∧ ∀ (out_114 : List Ref05_Token) (i_119 : Int), I1 out_114 i_119 →
  ((decide (i_119 < ((r104.length : Nat) : Int))) = true →
  ∃ (I2 : (List Ref05_Token) → Int → Prop) (μ2 : (List Ref05_Token) → Int → Nat), I2 out_114 0 ∧ ∀ (out_125 : List Ref05_Token) (k_130 : Int), I2 out_125 k_130 →
  ((0 : Int) ≤ i_119 ∧ i_119 < (r104.length : Int)) ∧
  ∀ (_ : sm (gi r104 i_119)),
  ((decide (k_130 < (((gi r104 i_119).length : Nat) : Int))) = true →
  ((0 : Int) ≤ i_119 ∧ i_119 < (r104.length : Int)) ∧
  ∀ (_ : sm (gi r104 i_119)),
  ((0 : Int) ≤ k_130 ∧ k_130 < ((gi r104 i_119).length : Int)) ∧
  (out_125.length + [gi (gi r104 i_119) k_130].length ≤ 1099511627776) ∧
  I2 (out_125 ++ [gi (gi r104 i_119) k_130]) (IntKind.i64.wrap (k_130 + 1)) ∧ μ2 (out_125 ++ [gi (gi r104 i_119) k_130]) (IntKind.i64.wrap (k_130 + 1)) < μ2 out_125 k_130) ∧
  ((decide (k_130 < (((gi r104 i_119).length : Nat) : Int))) = false →
  VC24_J2 I1 μ1 out_114 i_119 out_125)) ∧
  ((decide (i_119 < ((r104.length : Nat) : Int))) = false →
  VC24_J1 Q out_114)


def VC9_J2 (s_ : List UInt8) (Q : (Api_Formula × Int × Int) → Prop) (x_112 : Int) (x_113 : Int) (x_114 : List (List Int)) : Prop :=
  ((decide (((x_114.length : Nat) : Int) < x_112)) = true →
  Q ((⟨0, []⟩ : Api_Formula), ((s_.length : Nat) : Int), 4)) ∧
  ((decide (((x_114.length : Nat) : Int) < x_112)) = false →
  Q ((⟨x_113, x_114⟩ : Api_Formula), ((s_.length : Nat) : Int), 0))
def VC9_J3 (I1 : (List Int) → Int → Int → (List (List Int)) → Prop) (μ1 : (List Int) → Int → Int → (List (List Int)) → Nat) (c_125 : List Int) (i_129 : Int) (x_130 : Int) (x_131 : List (List Int)) (c_136 : List Int) (x_140 : List (List Int)) : Prop :=
  I1 c_136 (IntKind.i64.wrap (i_129 + 1)) x_130 x_140 ∧ μ1 c_136 (IntKind.i64.wrap (i_129 + 1)) x_130 x_140 < μ1 c_125 i_129 x_130 x_131
def VC9_J1 (s_ : List UInt8) (Q : (Api_Formula × Int × Int) → Prop) (r106 : (List Ref05_Token)) (x_111 : Int) (x_112 : Int) : Prop :=
  ∃ (I1 : (List Int) → Int → Int → (List (List Int)) → Prop) (μ1 : (List Int) → Int → Int → (List (List Int)) → Nat), I1 [] 4 x_111 [] ∧ ∀ (c_125 : List Int) (i_129 : Int) (x_130 : Int) (x_131 : List (List Int)), I1 c_125 i_129 x_130 x_131 →
  ((decide (i_129 < ((r106.length : Nat) : Int))) = true →
  ((((x_131.length : Nat) : Int) == x_112) = true →
  ((0 : Int) ≤ i_129 ∧ i_129 < (r106.length : Int)) ∧
  Q ((⟨0, []⟩ : Api_Formula), (gi r106 i_129).At, 6)) ∧
  ((((x_131.length : Nat) : Int) == x_112) = false →
  ((0 : Int) ≤ i_129 ∧ i_129 < (r106.length : Int)) ∧
  (preNum ((gi r106 i_129).Text) (IntKind.i64.wrap (0 - x_111)) x_111) ∧
  ∀ r163, ref05_Number ((gi r106 i_129).Text) (IntKind.i64.wrap (0 - x_111)) x_111 = r163 →
  ((r163.2 != 0) = true →
  ((0 : Int) ≤ i_129 ∧ i_129 < (r106.length : Int)) ∧
  Q ((⟨0, []⟩ : Api_Formula), (gi r106 i_129).At, r163.2)) ∧
  ((r163.2 != 0) = false →
  ((r163.1 == 0) = true →
  (x_131.length + [c_125].length ≤ 1099511627776) ∧
  VC9_J3 I1 μ1 c_125 i_129 x_130 x_131 [] (x_131 ++ [c_125])) ∧
  ((r163.1 == 0) = false →
  ((((c_125.length : Nat) : Int) == 1000) = true →
  ((0 : Int) ≤ i_129 ∧ i_129 < (r106.length : Int)) ∧
  Q ((⟨0, []⟩ : Api_Formula), (gi r106 i_129).At, 3)) ∧
  ((((c_125.length : Nat) : Int) == 1000) = false →
  ∀ r198, ref01_Has c_125 r163.1 = r198 →
  (r198 = true →
  ((0 : Int) ≤ i_129 ∧ i_129 < (r106.length : Int)) ∧
  Q ((⟨0, []⟩ : Api_Formula), (gi r106 i_129).At, 21)) ∧
  (r198 = false →
  ∀ r211, ref01_Has c_125 (IntKind.i64.wrap (0 - r163.1)) = r211 →
  (r211 = true →
  ((0 : Int) ≤ i_129 ∧ i_129 < (r106.length : Int)) ∧
  Q ((⟨0, []⟩ : Api_Formula), (gi r106 i_129).At, 11)) ∧
  (r211 = false →
  (([] : List Int).length + c_125.length ≤ 1099511627776) ∧
  ((([] : List Int) ++ c_125).length + [r163.1].length ≤ 1099511627776) ∧
  VC9_J3 I1 μ1 c_125 i_129 x_130 x_131 ((([] : List Int) ++ c_125) ++ [r163.1]) x_131))))))) ∧
  ((decide (i_129 < ((r106.length : Nat) : Int))) = false →
  VC9_J2 s_ Q x_112 x_130 x_131)
def VC9_J4 (I2 : Int → Int → Int → Prop) (μ2 : Int → Int → Int → Nat) (i_250 : Int) (x_251 : Int) (x_252 : Int) (x_254 : Int) (x_255 : Int) : Prop :=
  I2 (IntKind.i64.wrap (i_250 + 1)) x_254 x_255 ∧ μ2 (IntKind.i64.wrap (i_250 + 1)) x_254 x_255 < μ2 i_250 x_251 x_252
def VC9_J5 (Q : (Api_Formula × Int × Int) → Prop) (r106 : (List Ref05_Token)) (I2 : Int → Int → Int → Prop) (μ2 : Int → Int → Int → Nat) (i_250 : Int) (x_251 : Int) (x_252 : Int) (x_259 : Bool) : Prop :=
  (x_259 = true →
  ((0 : Int) ≤ i_250 ∧ i_250 < (r106.length : Int)) ∧
  Q ((⟨0, []⟩ : Api_Formula), (gi r106 i_250).At, 8)) ∧
  (x_259 = false →
  ((decide (i_250 ≥ 2)) = true →
  ((0 : Int) ≤ i_250 ∧ i_250 < (r106.length : Int)) ∧
  (preNum ((gi r106 i_250).Text) 0 (IntKind.i64.wrap (100000 + (IntKind.i64.wrap (900000 * (IntKind.i64.wrap (i_250 - 2))))))) ∧
  ∀ r277, ref05_Number ((gi r106 i_250).Text) 0 (IntKind.i64.wrap (100000 + (IntKind.i64.wrap (900000 * (IntKind.i64.wrap (i_250 - 2)))))) = r277 →
  ((r277.2 != 0) = true →
  ((0 : Int) ≤ i_250 ∧ i_250 < (r106.length : Int)) ∧
  Q ((⟨0, []⟩ : Api_Formula), (gi r106 i_250).At, r277.2)) ∧
  ((r277.2 != 0) = false →
  ((0 : Int) ≤ (IntKind.i64.wrap (i_250 - 2)) ∧ (IntKind.i64.wrap (i_250 - 2)) < 2) ∧
  ((IntKind.i64.wrap (i_250 - 2)) = 0 →
  VC9_J4 I2 μ2 i_250 x_251 x_252 r277.1 x_252) ∧
  ((IntKind.i64.wrap (i_250 - 2)) = 1 →
  VC9_J4 I2 μ2 i_250 x_251 x_252 x_251 r277.1))) ∧
  ((decide (i_250 ≥ 2)) = false →
  VC9_J4 I2 μ2 i_250 x_251 x_252 x_251 x_252))
/-- replevin/replevinref06.Parse -/
def VC9 (s_ : List UInt8) (Q : Api_Formula × Int × Int → Prop) : Prop :=
  ((decide (((s_.length : Nat) : Int) > 1000000)) = true →
  Q ((⟨0, []⟩ : Api_Formula), 0, 3)) ∧
  ((decide (((s_.length : Nat) : Int) > 1000000)) = false →
  (len1 s_) ∧
  ∀ r106, ref06_All s_ = r106 →
  ∀ (_ : sm r106),
  ∃ (I2 : Int → Int → Int → Prop) (μ2 : Int → Int → Int → Nat), I2 0 0 0 ∧ ∀ (i_250 : Int) (x_251 : Int) (x_252 : Int), I2 i_250 x_251 x_252 →
  ((decide (i_250 < 4)) = true →
  ((decide (i_250 ≥ ((r106.length : Nat) : Int))) = true →
  Q ((⟨0, []⟩ : Api_Formula), ((s_.length : Nat) : Int), 4)) ∧
  ((decide (i_250 ≥ ((r106.length : Nat) : Int))) = false →
  ((i_250 == 0) = true →
  ((0 : Int) ≤ 0 ∧ 0 < (r106.length : Int)) ∧
  ((!(((gi r106 0).Text) == ([112] : List UInt8))) = true →
  VC9_J5 Q r106 I2 μ2 i_250 x_251 x_252 true) ∧
  ((!(((gi r106 0).Text) == ([112] : List UInt8))) = false →
  ((i_250 == 1) = true →
  ((0 : Int) ≤ 1 ∧ 1 < (r106.length : Int)) ∧
  VC9_J5 Q r106 I2 μ2 i_250 x_251 x_252 (!(((gi r106 1).Text) == ([99, 110, 102] : List UInt8)))) ∧
  ((i_250 == 1) = false →
  VC9_J5 Q r106 I2 μ2 i_250 x_251 x_252 false))) ∧
  ((i_250 == 0) = false →
  ((i_250 == 1) = true →
  ((0 : Int) ≤ 1 ∧ 1 < (r106.length : Int)) ∧
  VC9_J5 Q r106 I2 μ2 i_250 x_251 x_252 (!(((gi r106 1).Text) == ([99, 110, 102] : List UInt8)))) ∧
  ((i_250 == 1) = false →
  VC9_J5 Q r106 I2 μ2 i_250 x_251 x_252 false)))) ∧
  ((decide (i_250 < 4)) = false →
  VC9_J1 s_ Q r106 x_251 x_252))


/-- replevin/dimacs.Head -/
def VC14 (vars : Int) (clauses : Int) (Q : (List UInt8) → Prop) : Prop :=
  (preI vars) ∧
  ∀ r104, token_Digits vars = r104 →
  (([112, 32, 99, 110, 102, 32] : List UInt8).length + r104.length ≤ 4611686018427387904) ∧
  ((([112, 32, 99, 110, 102, 32] : List UInt8) ++ r104).length + ([32] : List UInt8).length ≤ 4611686018427387904) ∧
  (preI clauses) ∧
  ∀ r108, token_Digits clauses = r108 →
  (((([112, 32, 99, 110, 102, 32] : List UInt8) ++ r104) ++ ([32] : List UInt8)).length + r108.length ≤ 4611686018427387904) ∧
  ((((([112, 32, 99, 110, 102, 32] : List UInt8) ++ r104) ++ ([32] : List UInt8)) ++ r108).length + ([10] : List UInt8).length ≤ 4611686018427387904) ∧
  Q ((((([112, 32, 99, 110, 102, 32] : List UInt8) ++ r104) ++ ([32] : List UInt8)) ++ r108) ++ ([10] : List UInt8))


/-- replevin/replevinref06.Head -/
def VC15 (vars : Int) (clauses : Int) (Q : (List UInt8) → Prop) : Prop :=
  (preI vars) ∧
  ∀ r104, ref05_Digits vars = r104 →
  (([112, 32, 99, 110, 102, 32] : List UInt8).length + r104.length ≤ 4611686018427387904) ∧
  ((([112, 32, 99, 110, 102, 32] : List UInt8) ++ r104).length + ([32] : List UInt8).length ≤ 4611686018427387904) ∧
  (preI clauses) ∧
  ∀ r108, ref05_Digits clauses = r108 →
  (((([112, 32, 99, 110, 102, 32] : List UInt8) ++ r104) ++ ([32] : List UInt8)).length + r108.length ≤ 4611686018427387904) ∧
  ((((([112, 32, 99, 110, 102, 32] : List UInt8) ++ r104) ++ ([32] : List UInt8)) ++ r108).length + ([10] : List UInt8).length ≤ 4611686018427387904) ∧
  Q ((((([112, 32, 99, 110, 102, 32] : List UInt8) ++ r104) ++ ([32] : List UInt8)) ++ r108) ++ ([10] : List UInt8))


def VC12_J1 (Q : ((List UInt8) × Int) → Prop) (out_114 : List Int) : Prop :=
  Q ((ofBytes out_114), 0)
def VC12_J2 (Q : ((List UInt8) × Int) → Prop) (I1 : (List Int) → Int → Prop) (μ1 : (List Int) → Int → Nat) (out_118 : List Int) (x_123 : Int) (out_130 : List Int) : Prop :=
  (out_130.length + ([48, 10] : List UInt8).length ≤ 1099511627776) ∧
  ((decide ((((out_130 ++ toI ([48, 10] : List UInt8)).length : Nat) : Int) > 1000000)) = true →
  Q (([] : List UInt8), 3)) ∧
  ((decide ((((out_130 ++ toI ([48, 10] : List UInt8)).length : Nat) : Int) > 1000000)) = false →
  I1 (out_130 ++ toI ([48, 10] : List UInt8)) (IntKind.i64.wrap (x_123 + 1)) ∧ μ1 (out_130 ++ toI ([48, 10] : List UInt8)) (IntKind.i64.wrap (x_123 + 1)) < μ1 out_118 x_123)
/-- replevin/dimacs.Print -/
def VC12 (f_ : Api_Formula) (Q : (List UInt8) × Int → Prop) : Prop :=
  ∀ (_ : sm f_.Clauses),
  ∀ r104, cnf_Check f_ = r104 →
  ((r104.2 != 0) = true →
  Q (([] : List UInt8), r104.2)) ∧
  ((r104.2 != 0) = false →
  (preHd f_.Vars ((f_.Clauses.length : Nat) : Int)) ∧
  ∀ r108, dimacs_Head f_.Vars ((f_.Clauses.length : Nat) : Int) = r108 →
  (r108.length ≤ 1099511627776) ∧
  ∃ (I1 : (List Int) → Int → Prop) (μ1 : (List Int) → Int → Nat), I1 (toI r108) 0 ∧ ∀ (out_118 : List Int) (x_123 : Int), I1 out_118 x_123 →
  ((decide (x_123 < ((f_.Clauses.length : Nat) : Int))) = true →
  ((0 : Int) ≤ x_123 ∧ x_123 < (f_.Clauses.length : Int)) ∧
  ∀ (_ : sm (gi f_.Clauses x_123)),
  ∃ (I2 : (List Int) → Int → Prop) (μ2 : (List Int) → Int → Nat), I2 out_118 0 ∧ ∀ (out_140 : List Int) (x_146 : Int), I2 out_140 x_146 →
  ((decide (x_146 < (((gi f_.Clauses x_123).length : Nat) : Int))) = true →
  ((0 : Int) ≤ x_146 ∧ x_146 < ((gi f_.Clauses x_123).length : Int)) ∧
  (preI (gi (gi f_.Clauses x_123) x_146)) ∧
  ∀ r153, token_Digits (gi (gi f_.Clauses x_123) x_146) = r153 →
  (out_140.length + r153.length ≤ 1099511627776) ∧
  ((out_140 ++ toI r153).length + [32].length ≤ 1099511627776) ∧
  I2 ((out_140 ++ toI r153) ++ [32]) (IntKind.i64.wrap (x_146 + 1)) ∧ μ2 ((out_140 ++ toI r153) ++ [32]) (IntKind.i64.wrap (x_146 + 1)) < μ2 out_140 x_146) ∧
  ((decide (x_146 < (((gi f_.Clauses x_123).length : Nat) : Int))) = false →
  VC12_J2 Q I1 μ1 out_118 x_123 out_140)) ∧
  ((decide (x_123 < ((f_.Clauses.length : Nat) : Int))) = false →
  VC12_J1 Q out_118))


def VC13_J1 (Q : ((List UInt8) × Int) → Prop) (out_109 : List UInt8) : Prop :=
  ((decide (((out_109.length : Nat) : Int) > 1000000)) = true →
  Q (([] : List UInt8), 3)) ∧
  ((decide (((out_109.length : Nat) : Int) > 1000000)) = false →
  Q (out_109, 0))
def VC13_J2 (I1 : (List UInt8) → Int → Prop) (μ1 : (List UInt8) → Int → Nat) (out_110 : List UInt8) (i_111 : Int) (out_113 : List UInt8) : Prop :=
  (out_113.length + ([48, 10] : List UInt8).length ≤ 4611686018427387904) ∧
  I1 (out_113 ++ ([48, 10] : List UInt8)) (IntKind.i64.wrap (i_111 + 1)) ∧ μ1 (out_113 ++ ([48, 10] : List UInt8)) (IntKind.i64.wrap (i_111 + 1)) < μ1 out_110 i_111
/-- replevin/replevinref06.Print -/
def VC13 (f_ : Api_Formula) (Q : (List UInt8) × Int → Prop) : Prop :=
  ∀ (_ : sm f_.Clauses),
  ∀ r104, ref04_Check f_ = r104 →
  ((r104.2 != 0) = true →
  Q (([] : List UInt8), r104.2)) ∧
  ((r104.2 != 0) = false →
  (preHd f_.Vars ((f_.Clauses.length : Nat) : Int)) ∧
  ∀ r108, ref06_Head f_.Vars ((f_.Clauses.length : Nat) : Int) = r108 →
  ∃ (I1 : (List UInt8) → Int → Prop) (μ1 : (List UInt8) → Int → Nat), I1 r108 0 ∧ ∀ (out_110 : List UInt8) (i_111 : Int), I1 out_110 i_111 →
  ((decide (i_111 < ((f_.Clauses.length : Nat) : Int))) = true →
  ∃ (I2 : (List UInt8) → Int → Prop) (μ2 : (List UInt8) → Int → Nat), I2 out_110 0 ∧ ∀ (out_115 : List UInt8) (k_116 : Int), I2 out_115 k_116 →
  ((0 : Int) ≤ i_111 ∧ i_111 < (f_.Clauses.length : Int)) ∧
  ∀ (_ : sm (gi f_.Clauses i_111)),
  ((decide (k_116 < (((gi f_.Clauses i_111).length : Nat) : Int))) = true →
  ((0 : Int) ≤ i_111 ∧ i_111 < (f_.Clauses.length : Int)) ∧
  ∀ (_ : sm (gi f_.Clauses i_111)),
  ((0 : Int) ≤ k_116 ∧ k_116 < ((gi f_.Clauses i_111).length : Int)) ∧
  (preI (gi (gi f_.Clauses i_111) k_116)) ∧
  ∀ r136, ref05_Digits (gi (gi f_.Clauses i_111) k_116) = r136 →
  (out_115.length + r136.length ≤ 4611686018427387904) ∧
  ((out_115 ++ r136).length + ([32] : List UInt8).length ≤ 4611686018427387904) ∧
  I2 ((out_115 ++ r136) ++ ([32] : List UInt8)) (IntKind.i64.wrap (k_116 + 1)) ∧ μ2 ((out_115 ++ r136) ++ ([32] : List UInt8)) (IntKind.i64.wrap (k_116 + 1)) < μ2 out_115 k_116) ∧
  ((decide (k_116 < (((gi f_.Clauses i_111).length : Nat) : Int))) = false →
  VC13_J2 I1 μ1 out_110 i_111 out_115)) ∧
  ((decide (i_111 < ((f_.Clauses.length : Nat) : Int))) = false →
  VC13_J1 Q out_110))


/-- replevin/replevinlaw06.awake -/
def VC7 (Q : Bool → Prop) : Prop :=
  ∀ r104, dimacs_Parse ([99, 32, 111, 110, 101, 10, 112, 32, 99, 110, 102, 32, 50, 32, 50, 10, 49, 32, 45, 50, 32, 48, 32, 50, 10, 48, 10] : List UInt8) = r104 →
  ∀ (_ : sm r104.1.Clauses),
  ∀ r111, dimacs_Parse ([112, 32, 99, 110, 102, 32, 50, 32, 49, 10, 49, 32, 51, 32, 48] : List UInt8) = r111 →
  ∀ (_ : sm r111.1.Clauses),
  ∀ r118, dimacs_Parse ([112, 32, 99, 110, 102, 32, 50, 32, 49, 10, 49, 32, 45, 49, 32, 48] : List UInt8) = r118 →
  ∀ (_ : sm r118.1.Clauses),
  ∀ r125, dimacs_Print r104.1 = r125 →
  (((r104.2.2 == 0) && (r104.2.1 == 27)) = true →
  ∀ r141, ref04_Same r104.1 (⟨2, [[1, (-2)], [2]]⟩ : Api_Formula) = r141 →
  (((((((r141 && (r111.2.1 == 12)) && (r111.2.2 == 7)) && (r118.2.1 == 12)) && (r118.2.2 == 11)) && (r125.2 == 0)) && (r125.1 == ([112, 32, 99, 110, 102, 32, 50, 32, 50, 10, 49, 32, 45, 50, 32, 48, 10, 50, 32, 48, 10] : List UInt8))) = true →
  (preHd 1 0) ∧
  ∀ r145, dimacs_Head 1 0 = r145 →
  Q (r145 == ([112, 32, 99, 110, 102, 32, 49, 32, 48, 10] : List UInt8))) ∧
  (((((((r141 && (r111.2.1 == 12)) && (r111.2.2 == 7)) && (r118.2.1 == 12)) && (r118.2.2 == 11)) && (r125.2 == 0)) && (r125.1 == ([112, 32, 99, 110, 102, 32, 50, 32, 50, 10, 49, 32, 45, 50, 32, 48, 10, 50, 32, 48, 10] : List UInt8))) = false →
  Q false)) ∧
  (((r104.2.2 == 0) && (r104.2.1 == 27)) = false →
  Q false)


/-- replevin/replevinlaw06.DimacsReads -/
def VC3 (s_ : List UInt8) (Q : Bool → Prop) : Prop :=
  ((decide (((s_.length : Nat) : Int) > 3000)) = true →
  ∀ r104, law06_awake = r104 →
  Q r104) ∧
  ((decide (((s_.length : Nat) : Int) > 3000)) = false →
  ∀ r108, dimacs_Parse s_ = r108 →
  ∀ (_ : sm r108.1.Clauses),
  ∀ r115, ref06_Parse s_ = r115 →
  ∀ (_ : sm r115.1.Clauses),
  ∀ r122, ref04_Same r108.1 r115.1 = r122 →
  (((r122 && (r108.2.1 == r115.2.1)) && (r108.2.2 == r115.2.2)) = true →
  ∀ r126, law06_awake = r126 →
  Q r126) ∧
  (((r122 && (r108.2.1 == r115.2.1)) && (r108.2.2 == r115.2.2)) = false →
  Q false))


/-- replevin/replevinlaw06.DimacsPrints -/
def VC4 (f_ : Api_Formula) (vars : Int) (clauses : Int) (Q : Bool → Prop) : Prop :=
  ∀ (_ : sm f_.Clauses),
  ∀ r104, law04_Few f_ = r104 →
  ((!r104) = true →
  ∀ r108, law06_awake = r108 →
  Q r108) ∧
  ((!r104) = false →
  ∀ r112, dimacs_Print f_ = r112 →
  ∀ r116, ref06_Print f_ = r116 →
  (((r112.1 == r116.1) && (r112.2 == r116.2)) = true →
  (preHd vars clauses) ∧
  ∀ r120, dimacs_Head vars clauses = r120 →
  (preHd vars clauses) ∧
  ∀ r124, ref06_Head vars clauses = r124 →
  ((r120 == r124) = true →
  ∀ r128, law06_awake = r128 →
  Q r128) ∧
  ((r120 == r124) = false →
  Q false)) ∧
  (((r112.1 == r116.1) && (r112.2 == r116.2)) = false →
  Q false))


def VC5_J1 (s_ : List UInt8) (behind : List UInt8) (Q : Bool → Prop) (r108 : Api_Formula × Int × Int) (end_123 : Int) : Prop :=
  ((decide (end_123 < 0)) = true →
  Q false) ∧
  ((decide (end_123 < 0)) = false →
  ((0 : Int) ≤ end_123 ∧ end_123 ≤ (s_.length : Int)) ∧
  ((s_.take end_123.toNat).length + ([9] : List UInt8).length ≤ 4611686018427387904) ∧
  (((s_.take end_123.toNat) ++ ([9] : List UInt8)).length + behind.length ≤ 4611686018427387904) ∧
  ∀ r127, dimacs_Parse (((s_.take end_123.toNat) ++ ([9] : List UInt8)) ++ behind) = r127 →
  ∀ (_ : sm r127.1.Clauses),
  (((r127.2.1 == r108.2.1) && (r127.2.2 == r108.2.2)) = true →
  ∀ r134, law06_awake = r134 →
  Q r134) ∧
  (((r127.2.1 == r108.2.1) && (r127.2.2 == r108.2.2)) = false →
  Q false))
def VC5_J2 (I1 : Int → Int → Prop) (μ1 : Int → Int → Nat) (end_137 : Int) (i_139 : Int) (end_140 : Int) : Prop :=
  I1 end_140 (IntKind.i64.wrap (i_139 + 1)) ∧ μ1 end_140 (IntKind.i64.wrap (i_139 + 1)) < μ1 end_137 i_139
def VC5_J3 (I2 : Int → Int → Prop) (μ2 : Int → Int → Nat) (end_142 : Int) (k_144 : Int) (end_151 : Int) : Prop :=
  I2 end_151 (IntKind.i64.wrap (k_144 + 1)) ∧ μ2 end_151 (IntKind.i64.wrap (k_144 + 1)) < μ2 end_142 k_144
/-- replevin/replevinlaw06.DimacsPlaces -/
def VC5 (s_ : List UInt8) (behind : List UInt8) (Q : Bool → Prop) : Prop :=
  (((decide (((s_.length : Nat) : Int) > 3000)) || (decide (((behind.length : Nat) : Int) > 300))) = true →
  ∀ r104, law06_awake = r104 →
  Q r104) ∧
  (((decide (((s_.length : Nat) : Int) > 3000)) || (decide (((behind.length : Nat) : Int) > 300))) = false →
  ∀ r108, dimacs_Parse s_ = r108 →
  ∀ (_ : sm r108.1.Clauses),
  (((decide (r108.2.1 < 0)) || (decide (r108.2.1 > ((s_.length : Nat) : Int)))) = true →
  Q false) ∧
  (((decide (r108.2.1 < 0)) || (decide (r108.2.1 > ((s_.length : Nat) : Int)))) = false →
  (((r108.2.2 == 0) || (r108.2.2 == 4)) = true →
  ((r108.2.1 == ((s_.length : Nat) : Int)) = true →
  ∀ r115, law06_awake = r115 →
  Q r115) ∧
  ((r108.2.1 == ((s_.length : Nat) : Int)) = false →
  Q false)) ∧
  (((r108.2.2 == 0) || (r108.2.2 == 4)) = false →
  (len1 s_) ∧
  ∀ r119, token_Lines s_ = r119 →
  ∀ (_ : sm r119),
  ∃ (I1 : Int → Int → Prop) (μ1 : Int → Int → Nat), I1 (-1) 0 ∧ ∀ (end_137 : Int) (i_139 : Int), I1 end_137 i_139 →
  ((decide (i_139 < ((r119.length : Nat) : Int))) = true →
  ∃ (I2 : Int → Int → Prop) (μ2 : Int → Int → Nat), I2 end_137 0 ∧ ∀ (end_142 : Int) (k_144 : Int), I2 end_142 k_144 →
  ((0 : Int) ≤ i_139 ∧ i_139 < (r119.length : Int)) ∧
  ∀ (_ : sm (gi r119 i_139)),
  ((decide (k_144 < (((gi r119 i_139).length : Nat) : Int))) = true →
  ((0 : Int) ≤ i_139 ∧ i_139 < (r119.length : Int)) ∧
  ∀ (_ : sm (gi r119 i_139)),
  ((0 : Int) ≤ k_144 ∧ k_144 < ((gi r119 i_139).length : Int)) ∧
  ((((gi (gi r119 i_139) k_144).At) == r108.2.1) = true →
  ((0 : Int) ≤ i_139 ∧ i_139 < (r119.length : Int)) ∧
  ∀ (_ : sm (gi r119 i_139)),
  ((0 : Int) ≤ k_144 ∧ k_144 < ((gi r119 i_139).length : Int)) ∧
  VC5_J3 I2 μ2 end_142 k_144 (IntKind.i64.wrap (r108.2.1 + ((((gi (gi r119 i_139) k_144).Text).length : Nat) : Int)))) ∧
  ((((gi (gi r119 i_139) k_144).At) == r108.2.1) = false →
  VC5_J3 I2 μ2 end_142 k_144 end_142)) ∧
  ((decide (k_144 < (((gi r119 i_139).length : Nat) : Int))) = false →
  VC5_J2 I1 μ1 end_137 i_139 end_142)) ∧
  ((decide (i_139 < ((r119.length : Nat) : Int))) = false →
  VC5_J1 s_ behind Q r108 end_137))))


def VC6_J1 (s_ : List UInt8) (Q : Bool → Prop) : Prop :=
  ∀ r120, dimacs_Parse s_ = r120 →
  ∀ (_ : sm r120.1.Clauses),
  ((r120.2.2 != 0) = true →
  (((r120.1.Vars == 0) && (((r120.1.Clauses.length : Nat) : Int) == 0)) = true →
  ∀ r127, law06_awake = r127 →
  Q r127) ∧
  (((r120.1.Vars == 0) && (((r120.1.Clauses.length : Nat) : Int) == 0)) = false →
  Q false)) ∧
  ((r120.2.2 != 0) = false →
  ∀ r131, dimacs_Print r120.1 = r131 →
  ∀ r135, dimacs_Parse r131.1 = r135 →
  ∀ (_ : sm r135.1.Clauses),
  (((r131.2 == 0) && (r135.2.2 == 0)) = true →
  ∀ r142, cnf_Same r135.1 r120.1 = r142 →
  (r142 = true →
  ∀ r146, law06_awake = r146 →
  Q r146) ∧
  (r142 = false →
  Q false)) ∧
  (((r131.2 == 0) && (r135.2.2 == 0)) = false →
  Q false))
/-- replevin/replevinlaw06.DimacsBack -/
def VC6 (f_ : Api_Formula) (s_ : List UInt8) (Q : Bool → Prop) : Prop :=
  ∀ (_ : sm f_.Clauses),
  ∀ r104, law04_Few f_ = r104 →
  (((!r104) || (decide (((s_.length : Nat) : Int) > 3000))) = true →
  ∀ r108, law06_awake = r108 →
  Q r108) ∧
  (((!r104) || (decide (((s_.length : Nat) : Int) > 3000))) = false →
  ∀ r112, dimacs_Print f_ = r112 →
  ∀ r116, cnf_Check f_ = r116 →
  ((r116.2 != r112.2) = true →
  Q false) ∧
  ((r116.2 != r112.2) = false →
  ((r112.2 == 0) = true →
  ∀ r154, dimacs_Parse r112.1 = r154 →
  ∀ (_ : sm r154.1.Clauses),
  ∀ r161, cnf_Same f_ r154.1 = r161 →
  ((((!r161) || (r154.2.1 != ((r112.1.length : Nat) : Int))) || (r154.2.2 != 0)) = true →
  Q false) ∧
  ((((!r161) || (r154.2.1 != ((r112.1.length : Nat) : Int))) || (r154.2.2 != 0)) = false →
  VC6_J1 s_ Q)) ∧
  ((r112.2 == 0) = false →
  VC6_J1 s_ Q)))


end Go.Proofs.YtancoeikfkebfaaDoor
