/- The conditions of the functions, in terms of their callees. Definitions. -/
import Derived.Test.YtebhbnlbfglmkaaDoorPSpec
set_option linter.all false
namespace Go.Proofs.YtebhbnlbfglmkaaDoor
open Go Go.Sv






/-- replevin/replevinref05.gap -/
def VC41 (b_ : Int) (Q : Bool → Prop) : Prop :=
  Q (((b_ == 32) || (b_ == 9)) || (b_ == 13))


/-- internal/stringslite.HasPrefix -/
def VC64 (s_ : List UInt8) (prefix_ : List UInt8) (Q : Bool → Prop) : Prop :=
  ((decide (((s_.length : Nat) : Int) ≥ ((prefix_.length : Nat) : Int))) = true →
  ((0 : Int) ≤ ((prefix_.length : Nat) : Int) ∧ ((prefix_.length : Nat) : Int) ≤ (s_.length : Int)) ∧
  Q ((s_.take ((prefix_.length : Nat) : Int).toNat) == prefix_)) ∧
  ((decide (((s_.length : Nat) : Int) ≥ ((prefix_.length : Nat) : Int))) = false →
  Q false)


/-- strings.HasPrefix -/
def VC52 (s_ : List UInt8) (prefix_ : List UInt8) (Q : Bool → Prop) : Prop :=
  (preTwo s_ prefix_) ∧
  ∀ r104, internal_stringslite_HasPrefix s_ prefix_ = r104 →
  Q r104


/-- internal/stringslite.CutPrefix -/
def VC80 (s_ : List UInt8) (prefix_ : List UInt8) (Q : (List UInt8) × Bool → Prop) : Prop :=
  (preTwo s_ prefix_) ∧
  ∀ r104, internal_stringslite_HasPrefix s_ prefix_ = r104 →
  ((!r104) = true →
  Q (s_, false)) ∧
  ((!r104) = false →
  ((0 : Int) ≤ ((prefix_.length : Nat) : Int) ∧ ((prefix_.length : Nat) : Int) ≤ (s_.length : Int)) ∧
  Q ((s_.drop ((prefix_.length : Nat) : Int).toNat), true))


/-- strings.CutPrefix -/
def VC76 (s_ : List UInt8) (prefix_ : List UInt8) (Q : (List UInt8) × Bool → Prop) : Prop :=
  (preTwo s_ prefix_) ∧
  ∀ r104, internal_stringslite_CutPrefix s_ prefix_ = r104 →
  Q (r104.1, r104.2)


/-- internal/stringslite.Cut -/
def VC51 (s_ : List UInt8) (sep : List UInt8) (Q : (List UInt8) × (List UInt8) × Bool → Prop) : Prop :=
  (preOne s_ sep) ∧
  ∀ r104, internal_stringslite_Index s_ sep = r104 →
  ((decide (r104 ≥ 0)) = true →
  ((0 : Int) ≤ r104 ∧ r104 ≤ (s_.length : Int)) ∧
  ((0 : Int) ≤ (IntKind.i64.wrap (r104 + ((sep.length : Nat) : Int))) ∧ (IntKind.i64.wrap (r104 + ((sep.length : Nat) : Int))) ≤ (s_.length : Int)) ∧
  Q ((s_.take r104.toNat), (s_.drop (IntKind.i64.wrap (r104 + ((sep.length : Nat) : Int))).toNat), true)) ∧
  ((decide (r104 ≥ 0)) = false →
  Q (s_, ([] : List UInt8), false))


/-- strings.Cut -/
def VC36 (s_ : List UInt8) (sep : List UInt8) (Q : (List UInt8) × (List UInt8) × Bool → Prop) : Prop :=
  (preOne s_ sep) ∧
  ∀ r104, internal_stringslite_Cut s_ sep = r104 →
  Q (r104.1, r104.2.1, r104.2.2)


def VC37_J1 (s_ : List UInt8) (line : Int) (at_ : Int) (I1_0 : (List Token_Token) → Int → Int → Prop) (μ1_0 : (List Token_Token) → Int → Int → Nat) (I1_1 : (List Token_Token) → Int → Int → Prop) (μ1_1 : (List Token_Token) → Int → Int → Nat) (out_101 : List Token_Token) (i_105 : Int) (from_106 : Int) (out_113 : List Token_Token) (x_117 : Bool) : Prop :=
  (x_117 = true →
  I1_1 out_113 (IntKind.i64.wrap (i_105 + 1)) from_106 ∧ μ1_1 out_113 (IntKind.i64.wrap (i_105 + 1)) from_106 < μ1_1 out_101 i_105 from_106) ∧
  (x_117 = false →
  ((0 : Int) ≤ from_106 ∧ from_106 ≤ (IntKind.i64.wrap (i_105 + 1)) ∧ (IntKind.i64.wrap (i_105 + 1)) ≤ (s_.length : Int)) ∧
  (out_113.length + [(⟨line, IntKind.i64.wrap (at_ + from_106), ((s_.take (IntKind.i64.wrap (i_105 + 1)).toNat).drop from_106.toNat)⟩ : Token_Token)].length ≤ 1099511627776) ∧
  I1_0 (out_113 ++ [(⟨line, IntKind.i64.wrap (at_ + from_106), ((s_.take (IntKind.i64.wrap (i_105 + 1)).toNat).drop from_106.toNat)⟩ : Token_Token)]) (IntKind.i64.wrap (i_105 + 1)) from_106 ∧ μ1_0 (out_113 ++ [(⟨line, IntKind.i64.wrap (at_ + from_106), ((s_.take (IntKind.i64.wrap (i_105 + 1)).toNat).drop from_106.toNat)⟩ : Token_Token)]) (IntKind.i64.wrap (i_105 + 1)) from_106 < μ1_1 out_101 i_105 from_106)
def VC37_J2 (Q : ((List Token_Token)) → Prop) (I1_0 : (List Token_Token) → Int → Int → Prop) (x_133 : Bool) : Prop :=
  (x_133 = true →
  Q []) ∧
  (x_133 = false →
  I1_0 [] 0 0)
/-- replevin/token.tokens -/
def VC37 (s_ : List UInt8) (line : Int) (at_ : Int) (Q : (List Token_Token) → Prop) : Prop :=
  ∃ (I1_0 : (List Token_Token) → Int → Int → Prop) (μ1_0 : (List Token_Token) → Int → Int → Nat) (I1_1 : (List Token_Token) → Int → Int → Prop) (μ1_1 : (List Token_Token) → Int → Int → Nat),
  (((s_ == ([99] : List UInt8)) = true →
  VC37_J2 Q I1_0 true) ∧
  ((s_ == ([99] : List UInt8)) = false →
  (preTwo s_ ([99, 32] : List UInt8)) ∧
  ∀ r137, strings_HasPrefix s_ ([99, 32] : List UInt8) = r137 →
  VC37_J2 Q I1_0 r137)) ∧
  (∀ (out_101 : List Token_Token) (i_105 : Int) (from_106 : Int), I1_0 out_101 i_105 from_106 →
  ((i_105 == ((s_.length : Nat) : Int)) = true →
  Q out_101) ∧
  ((i_105 == ((s_.length : Nat) : Int)) = false →
  ((0 : Int) ≤ i_105 ∧ i_105 < (s_.length : Int)) ∧
  ∀ r112, strings_IndexByte ([32, 9, 13] : List UInt8) ((gi s_ i_105).toNat : Int) = r112 →
  ((decide (r112 ≥ 0)) = true →
  I1_0 out_101 (IntKind.i64.wrap (i_105 + 1)) from_106 ∧ μ1_0 out_101 (IntKind.i64.wrap (i_105 + 1)) from_106 < μ1_0 out_101 i_105 from_106) ∧
  ((decide (r112 ≥ 0)) = false →
  I1_1 out_101 i_105 i_105 ∧ μ1_1 out_101 i_105 i_105 ≤ μ1_0 out_101 i_105 from_106))) ∧
  (∀ (out_101 : List Token_Token) (i_105 : Int) (from_106 : Int), I1_1 out_101 i_105 from_106 →
  ((decide ((IntKind.i64.wrap (i_105 + 1)) < ((s_.length : Nat) : Int))) = true →
  ((0 : Int) ≤ (IntKind.i64.wrap (i_105 + 1)) ∧ (IntKind.i64.wrap (i_105 + 1)) < (s_.length : Int)) ∧
  ∀ r130, strings_IndexByte ([32, 9, 13] : List UInt8) ((gi s_ (IntKind.i64.wrap (i_105 + 1))).toNat : Int) = r130 →
  VC37_J1 s_ line at_ I1_0 μ1_0 I1_1 μ1_1 out_101 i_105 from_106 out_101 (decide (r130 < 0))) ∧
  ((decide ((IntKind.i64.wrap (i_105 + 1)) < ((s_.length : Nat) : Int))) = false →
  VC37_J1 s_ line at_ I1_0 μ1_0 I1_1 μ1_1 out_101 i_105 from_106 out_101 false))


def VC21_J1 (Q : ((List (List Token_Token))) → Prop) (out_101 : List (List Token_Token)) : Prop :=
  Q out_101
/-- replevin/token.Lines -/
def VC21 (s_ : List UInt8) (Q : (List (List Token_Token)) → Prop) : Prop :=
  ∃ (I1 : (List (List Token_Token)) → Int → Prop) (μ1 : (List (List Token_Token)) → Int → Nat), I1 [] 0 ∧ ∀ (out_107 : List (List Token_Token)) (at_111 : Int), I1 out_107 at_111 →
  ((decide (at_111 < ((s_.length : Nat) : Int))) = true →
  ((0 : Int) ≤ at_111 ∧ at_111 ≤ (s_.length : Int)) ∧
  (preOne (s_.drop at_111.toNat) ([10] : List UInt8)) ∧
  ∀ r115, strings_Cut (s_.drop at_111.toNat) ([10] : List UInt8) = r115 →
  (preTok r115.1 (IntKind.i64.wrap (((out_107.length : Nat) : Int) + 1)) at_111) ∧
  ∀ r119, token_tokens r115.1 (IntKind.i64.wrap (((out_107.length : Nat) : Int) + 1)) at_111 = r119 →
  ∀ (_ : sm r119),
  (out_107.length + [r119].length ≤ 1099511627776) ∧
  I1 (out_107 ++ [r119]) (IntKind.i64.wrap (at_111 + (IntKind.i64.wrap (((r115.1.length : Nat) : Int) + 1)))) ∧ μ1 (out_107 ++ [r119]) (IntKind.i64.wrap (at_111 + (IntKind.i64.wrap (((r115.1.length : Nat) : Int) + 1)))) < μ1 out_107 at_111) ∧
  ((decide (at_111 < ((s_.length : Nat) : Int))) = false →
  VC21_J1 Q out_107)


def VC23_J1 (Q : ((List (List Ref05_Token))) → Prop) (out_101 : List (List Ref05_Token)) : Prop :=
  Q out_101
def VC23_J4 (I1 : (List (List Ref05_Token)) → Int → Prop) (μ1 : (List (List Ref05_Token)) → Int → Nat) (out_107 : List (List Ref05_Token)) (at_111 : Int) (end_116 : Int) (out_122 : List (List Ref05_Token)) (row_126 : List Ref05_Token) : Prop :=
  (out_122.length + [row_126].length ≤ 1099511627776) ∧
  I1 (out_122 ++ [row_126]) (IntKind.i64.wrap (end_116 + 1)) ∧ μ1 (out_122 ++ [row_126]) (IntKind.i64.wrap (end_116 + 1)) < μ1 out_107 at_111
def VC23_J5 (I2 : (List (List Ref05_Token)) → (List Ref05_Token) → Int → Prop) (μ2 : (List (List Ref05_Token)) → (List Ref05_Token) → Int → Nat) (out_141 : List (List Ref05_Token)) (row_145 : List Ref05_Token) (i_149 : Int) (out_150 : List (List Ref05_Token)) (row_154 : List Ref05_Token) (i_158 : Int) : Prop :=
  I2 out_150 row_154 (IntKind.i64.wrap (i_158 + 1)) ∧ μ2 out_150 row_154 (IntKind.i64.wrap (i_158 + 1)) < μ2 out_141 row_145 i_149
def VC23_J6 (s_ : List UInt8) (I2 : (List (List Ref05_Token)) → (List Ref05_Token) → Int → Prop) (μ2 : (List (List Ref05_Token)) → (List Ref05_Token) → Int → Nat) (out_141 : List (List Ref05_Token)) (row_145 : List Ref05_Token) (i_149 : Int) (out_163 : List (List Ref05_Token)) (row_167 : List Ref05_Token) (k_171 : Int) : Prop :=
  ((0 : Int) ≤ i_149 ∧ i_149 ≤ k_171 ∧ k_171 ≤ (s_.length : Int)) ∧
  (row_167.length + [(⟨IntKind.i64.wrap (((out_163.length : Nat) : Int) + 1), i_149, ((s_.take k_171.toNat).drop i_149.toNat)⟩ : Ref05_Token)].length ≤ 1099511627776) ∧
  VC23_J5 I2 μ2 out_141 row_145 i_149 out_163 (row_167 ++ [(⟨IntKind.i64.wrap (((out_163.length : Nat) : Int) + 1), i_149, ((s_.take k_171.toNat).drop i_149.toNat)⟩ : Ref05_Token)]) k_171
def VC23_J7 (s_ : List UInt8) (I2 : (List (List Ref05_Token)) → (List Ref05_Token) → Int → Prop) (μ2 : (List (List Ref05_Token)) → (List Ref05_Token) → Int → Nat) (out_141 : List (List Ref05_Token)) (row_145 : List Ref05_Token) (i_149 : Int) (I3 : (List (List Ref05_Token)) → (List Ref05_Token) → Int → Prop) (μ3 : (List (List Ref05_Token)) → (List Ref05_Token) → Int → Nat) (out_181 : List (List Ref05_Token)) (row_185 : List Ref05_Token) (k_189 : Int) (out_190 : List (List Ref05_Token)) (row_194 : List Ref05_Token) (x_198 : Bool) : Prop :=
  (x_198 = true →
  I3 out_190 row_194 (IntKind.i64.wrap (k_189 + 1)) ∧ μ3 out_190 row_194 (IntKind.i64.wrap (k_189 + 1)) < μ3 out_181 row_185 k_189) ∧
  (x_198 = false →
  VC23_J6 s_ I2 μ2 out_141 row_145 i_149 out_190 row_194 k_189)
def VC23_J3 (s_ : List UInt8) (I1 : (List (List Ref05_Token)) → Int → Prop) (μ1 : (List (List Ref05_Token)) → Int → Nat) (out_107 : List (List Ref05_Token)) (at_111 : Int) (end_116 : Int) (out_117 : List (List Ref05_Token)) (remark_121 : Bool) : Prop :=
  ∃ (I2 : (List (List Ref05_Token)) → (List Ref05_Token) → Int → Prop) (μ2 : (List (List Ref05_Token)) → (List Ref05_Token) → Int → Nat), I2 out_117 [] at_111 ∧ ∀ (out_141 : List (List Ref05_Token)) (row_145 : List Ref05_Token) (i_149 : Int), I2 out_141 row_145 i_149 →
  (((decide (i_149 < end_116)) && (!remark_121)) = true →
  ((0 : Int) ≤ i_149 ∧ i_149 < (s_.length : Int)) ∧
  ∀ r162, ref05_gap ((gi s_ i_149).toNat : Int) = r162 →
  (r162 = true →
  VC23_J5 I2 μ2 out_141 row_145 i_149 out_141 row_145 i_149) ∧
  (r162 = false →
  ∃ (I3 : (List (List Ref05_Token)) → (List Ref05_Token) → Int → Prop) (μ3 : (List (List Ref05_Token)) → (List Ref05_Token) → Int → Nat), I3 out_141 row_145 i_149 ∧ ∀ (out_181 : List (List Ref05_Token)) (row_185 : List Ref05_Token) (k_189 : Int), I3 out_181 row_185 k_189 →
  ((decide (k_189 < end_116)) = true →
  ((0 : Int) ≤ k_189 ∧ k_189 < (s_.length : Int)) ∧
  ∀ r202, ref05_gap ((gi s_ k_189).toNat : Int) = r202 →
  VC23_J7 s_ I2 μ2 out_141 row_145 i_149 I3 μ3 out_181 row_185 k_189 out_181 row_185 (!r202)) ∧
  ((decide (k_189 < end_116)) = false →
  VC23_J7 s_ I2 μ2 out_141 row_145 i_149 I3 μ3 out_181 row_185 k_189 out_181 row_185 false))) ∧
  (((decide (i_149 < end_116)) && (!remark_121)) = false →
  VC23_J4 I1 μ1 out_107 at_111 end_116 out_141 row_145)
def VC23_J2 (s_ : List UInt8) (I1 : (List (List Ref05_Token)) → Int → Prop) (μ1 : (List (List Ref05_Token)) → Int → Nat) (out_107 : List (List Ref05_Token)) (at_111 : Int) (out_112 : List (List Ref05_Token)) (end_116 : Int) : Prop :=
  ((0 : Int) ≤ at_111 ∧ at_111 ≤ end_116 ∧ end_116 ≤ (s_.length : Int)) ∧
  ((((s_.take end_116.toNat).drop at_111.toNat) == ([99] : List UInt8)) = true →
  VC23_J3 s_ I1 μ1 out_107 at_111 end_116 out_112 true) ∧
  ((((s_.take end_116.toNat).drop at_111.toNat) == ([99] : List UInt8)) = false →
  ((decide ((IntKind.i64.wrap (end_116 - at_111)) ≥ 2)) = true →
  ((0 : Int) ≤ at_111 ∧ at_111 ≤ (IntKind.i64.wrap (at_111 + 2)) ∧ (IntKind.i64.wrap (at_111 + 2)) ≤ (s_.length : Int)) ∧
  VC23_J3 s_ I1 μ1 out_107 at_111 end_116 out_112 (((s_.take (IntKind.i64.wrap (at_111 + 2)).toNat).drop at_111.toNat) == ([99, 32] : List UInt8))) ∧
  ((decide ((IntKind.i64.wrap (end_116 - at_111)) ≥ 2)) = false →
  VC23_J3 s_ I1 μ1 out_107 at_111 end_116 out_112 false))
def VC23_J8 (s_ : List UInt8) (I1 : (List (List Ref05_Token)) → Int → Prop) (μ1 : (List (List Ref05_Token)) → Int → Nat) (out_107 : List (List Ref05_Token)) (at_111 : Int) (I4 : (List (List Ref05_Token)) → Int → Prop) (μ4 : (List (List Ref05_Token)) → Int → Nat) (out_217 : List (List Ref05_Token)) (end_221 : Int) (out_222 : List (List Ref05_Token)) (x_226 : Bool) : Prop :=
  (x_226 = true →
  I4 out_222 (IntKind.i64.wrap (end_221 + 1)) ∧ μ4 out_222 (IntKind.i64.wrap (end_221 + 1)) < μ4 out_217 end_221) ∧
  (x_226 = false →
  VC23_J2 s_ I1 μ1 out_107 at_111 out_222 end_221)
/-- replevin/replevinref05.Lines -/
def VC23 (s_ : List UInt8) (Q : (List (List Ref05_Token)) → Prop) : Prop :=
  ∃ (I1 : (List (List Ref05_Token)) → Int → Prop) (μ1 : (List (List Ref05_Token)) → Int → Nat), I1 [] 0 ∧ ∀ (out_107 : List (List Ref05_Token)) (at_111 : Int), I1 out_107 at_111 →
  ((decide (at_111 < ((s_.length : Nat) : Int))) = true →
  ∃ (I4 : (List (List Ref05_Token)) → Int → Prop) (μ4 : (List (List Ref05_Token)) → Int → Nat), I4 out_107 at_111 ∧ ∀ (out_217 : List (List Ref05_Token)) (end_221 : Int), I4 out_217 end_221 →
  ((decide (end_221 < ((s_.length : Nat) : Int))) = true →
  ((0 : Int) ≤ end_221 ∧ end_221 < (s_.length : Int)) ∧
  VC23_J8 s_ I1 μ1 out_107 at_111 I4 μ4 out_217 end_221 out_217 (((gi s_ end_221).toNat : Int) != 10)) ∧
  ((decide (end_221 < ((s_.length : Nat) : Int))) = false →
  VC23_J8 s_ I1 μ1 out_107 at_111 I4 μ4 out_217 end_221 out_217 false)) ∧
  ((decide (at_111 < ((s_.length : Nat) : Int))) = false →
  VC23_J1 Q out_107)


def VC66_J2 (Q : ((List UInt8) × Bool × Bool) → Prop) (r104 : (List UInt8) × Bool) : Prop :=
  Q (r104.1, r104.2, true)
def VC66_J3 (Q : ((List UInt8) × Bool × Bool) → Prop) (I1 : Int → Prop) (μ1 : Int → Nat) (i_106 : Int) (x_107 : Bool) : Prop :=
  (x_107 = true →
  Q (([] : List UInt8), false, false)) ∧
  (x_107 = false →
  I1 (IntKind.i64.wrap (i_106 + 1)) ∧ μ1 (IntKind.i64.wrap (i_106 + 1)) < μ1 i_106)
def VC66_J1 (Q : ((List UInt8) × Bool × Bool) → Prop) (r104 : (List UInt8) × Bool) (x_105 : Bool) : Prop :=
  (x_105 = true →
  Q (([] : List UInt8), false, false)) ∧
  (x_105 = false →
  ∃ (I1 : Int → Prop) (μ1 : Int → Nat), I1 0 ∧ ∀ (i_106 : Int), I1 i_106 →
  ((decide (i_106 < ((r104.1.length : Nat) : Int))) = true →
  ((0 : Int) ≤ i_106 ∧ i_106 < (r104.1.length : Int)) ∧
  ((decide (((gi r104.1 i_106).toNat : Int) < 48)) = true →
  VC66_J3 Q I1 μ1 i_106 true) ∧
  ((decide (((gi r104.1 i_106).toNat : Int) < 48)) = false →
  ((0 : Int) ≤ i_106 ∧ i_106 < (r104.1.length : Int)) ∧
  VC66_J3 Q I1 μ1 i_106 (decide (((gi r104.1 i_106).toNat : Int) > 57)))) ∧
  ((decide (i_106 < ((r104.1.length : Nat) : Int))) = false →
  VC66_J2 Q r104))
/-- replevin/token.numeral -/
def VC66 (s_ : List UInt8) (Q : (List UInt8) × Bool × Bool → Prop) : Prop :=
  (preTwo s_ ([45] : List UInt8)) ∧
  ∀ r104, strings_CutPrefix s_ ([45] : List UInt8) = r104 →
  ((r104.1 == ([] : List UInt8)) = true →
  VC66_J1 Q r104 true) ∧
  ((r104.1 == ([] : List UInt8)) = false →
  ((0 : Int) ≤ 0 ∧ 0 < (r104.1.length : Int)) ∧
  VC66_J1 Q r104 ((((gi r104.1 0).toNat : Int) == 48) && ((decide (((r104.1.length : Nat) : Int) > 1)) || r104.2)))


def VC54_J2 (lo : Int) (hi : Int) (Q : (Int × Int) → Prop) (x_106 : Int) : Prop :=
  (((decide (x_106 < lo)) || (decide (x_106 > hi))) = true →
  Q (0, 7)) ∧
  (((decide (x_106 < lo)) || (decide (x_106 > hi))) = false →
  Q (x_106, 0))
def VC54_J1 (lo : Int) (hi : Int) (Q : (Int × Int) → Prop) (r104 : (List UInt8) × Bool × Bool) (n_105 : Int) : Prop :=
  (((decide (n_105 > 9223372036854775807)) && (!(r104.2.1 && (n_105 == 9223372036854775808)))) = true →
  Q (0, 7)) ∧
  (((decide (n_105 > 9223372036854775807)) && (!(r104.2.1 && (n_105 == 9223372036854775808)))) = false →
  (r104.2.1 = true →
  VC54_J2 lo hi Q (IntKind.i64.wrap (0 - (IntKind.i64.wrap n_105)))) ∧
  (r104.2.1 = false →
  VC54_J2 lo hi Q (IntKind.i64.wrap n_105)))
/-- replevin/token.Number -/
def VC54 (s_ : List UInt8) (lo : Int) (hi : Int) (Q : Int × Int → Prop) : Prop :=
  (len1 s_) ∧
  ∀ r104, token_numeral s_ = r104 →
  ((!r104.2.2) = true →
  Q (0, 5)) ∧
  ((!r104.2.2) = false →
  ∃ (I1 : Int → Int → Prop) (μ1 : Int → Int → Nat), I1 0 0 ∧ ∀ (n_109 : Int) (i_110 : Int), I1 n_109 i_110 →
  ((decide (i_110 < ((r104.1.length : Nat) : Int))) = true →
  ((decide (n_109 > 1844674407370955160)) = true →
  Q (0, 7)) ∧
  ((decide (n_109 > 1844674407370955160)) = false →
  ((0 : Int) ≤ i_110 ∧ i_110 < (r104.1.length : Int)) ∧
  I1 (IntKind.u64.wrap ((IntKind.u64.wrap (10 * n_109)) + (IntKind.u64.wrap (IntKind.u8.wrap (((gi r104.1 i_110).toNat : Int) - 48))))) (IntKind.i64.wrap (i_110 + 1)) ∧ μ1 (IntKind.u64.wrap ((IntKind.u64.wrap (10 * n_109)) + (IntKind.u64.wrap (IntKind.u8.wrap (((gi r104.1 i_110).toNat : Int) - 48))))) (IntKind.i64.wrap (i_110 + 1)) < μ1 n_109 i_110)) ∧
  ((decide (i_110 < ((r104.1.length : Nat) : Int))) = false →
  VC54_J1 lo hi Q r104 n_109))


def VC31_J1 (n_ : Int) (Q : ((List UInt8)) → Prop) (out_101 : List UInt8) : Prop :=
  ((decide (n_ < 0)) = true →
  (([45] : List UInt8).length + out_101.length ≤ 4611686018427387904) ∧
  Q (([45] : List UInt8) ++ out_101)) ∧
  ((decide (n_ < 0)) = false →
  Q out_101)
def VC31_J2 (I1 : (List UInt8) → Int → Prop) (μ1 : (List UInt8) → Int → Nat) (out_102 : List UInt8) (x_103 : Int) (d_104 : Int) : Prop :=
  ((ofBytes [IntKind.u8.wrap (IntKind.i64.wrap (48 + d_104))]).length + out_102.length ≤ 4611686018427387904) ∧
  I1 ((ofBytes [IntKind.u8.wrap (IntKind.i64.wrap (48 + d_104))]) ++ out_102) (IntKind.i64.wrap ((x_103).tdiv 10)) ∧ μ1 ((ofBytes [IntKind.u8.wrap (IntKind.i64.wrap (48 + d_104))]) ++ out_102) (IntKind.i64.wrap ((x_103).tdiv 10)) < μ1 out_102 x_103
/-- replevin/replevinref05.Digits -/
def VC31 (n_ : Int) (Q : (List UInt8) → Prop) : Prop :=
  ((n_ == 0) = true →
  Q ([48] : List UInt8)) ∧
  ((n_ == 0) = false →
  ∃ (I1 : (List UInt8) → Int → Prop) (μ1 : (List UInt8) → Int → Nat), I1 ([] : List UInt8) n_ ∧ ∀ (out_102 : List UInt8) (x_103 : Int), I1 out_102 x_103 →
  ((x_103 != 0) = true →
  ((decide (((x_103).tmod 10) < 0)) = true →
  VC31_J2 I1 μ1 out_102 x_103 (IntKind.i64.wrap (0 - ((x_103).tmod 10)))) ∧
  ((decide (((x_103).tmod 10) < 0)) = false →
  VC31_J2 I1 μ1 out_102 x_103 ((x_103).tmod 10))) ∧
  ((x_103 != 0) = false →
  VC31_J1 n_ Q out_102))


/-- replevin/token.Digits -/
def VC50 (n_ : Int) (Q : (List UInt8) → Prop) : Prop :=
  (preI n_) ∧
  ∀ r104, strconv_Itoa n_ = r104 →
  Q r104


def VC42_J4 (s_ : List UInt8) (lo : Int) (hi : Int) (Q : (Int × Int) → Prop) (n_103 : Int) : Prop :=
  (preI n_103) ∧
  ∀ r107, ref05_Digits n_103 = r107 →
  ((((!(r107 == s_)) || (decide (n_103 < lo))) || (decide (n_103 > hi))) = true →
  Q (0, 7)) ∧
  ((((!(r107 == s_)) || (decide (n_103 < lo))) || (decide (n_103 > hi))) = false →
  Q (n_103, 0))
def VC42_J5 (I1 : Int → Int → Prop) (μ1 : Int → Int → Nat) (n_108 : Int) (i_109 : Int) (d_110 : Int) : Prop :=
  I1 (IntKind.i64.wrap ((IntKind.i64.wrap (10 * n_108)) + d_110)) (IntKind.i64.wrap (i_109 + 1)) ∧ μ1 (IntKind.i64.wrap ((IntKind.i64.wrap (10 * n_108)) + d_110)) (IntKind.i64.wrap (i_109 + 1)) < μ1 n_108 i_109
def VC42_J3 (s_ : List UInt8) (lo : Int) (hi : Int) (Q : (Int × Int) → Prop) (from_101 : Int) : Prop :=
  ((decide ((IntKind.i64.wrap (((s_.length : Nat) : Int) - from_101)) > 19)) = true →
  Q (0, 7)) ∧
  ((decide ((IntKind.i64.wrap (((s_.length : Nat) : Int) - from_101)) > 19)) = false →
  ∃ (I1 : Int → Int → Prop) (μ1 : Int → Int → Nat), I1 0 from_101 ∧ ∀ (n_108 : Int) (i_109 : Int), I1 n_108 i_109 →
  ((decide (i_109 < ((s_.length : Nat) : Int))) = true →
  ((0 : Int) ≤ i_109 ∧ i_109 < (s_.length : Int)) ∧
  ((from_101 == 1) = true →
  VC42_J5 I1 μ1 n_108 i_109 (IntKind.i64.wrap (0 - (IntKind.i64.wrap ((IntKind.i64.wrap ((gi s_ i_109).toNat : Int)) - 48))))) ∧
  ((from_101 == 1) = false →
  VC42_J5 I1 μ1 n_108 i_109 (IntKind.i64.wrap ((IntKind.i64.wrap ((gi s_ i_109).toNat : Int)) - 48)))) ∧
  ((decide (i_109 < ((s_.length : Nat) : Int))) = false →
  VC42_J4 s_ lo hi Q n_108))
def VC42_J6 (Q : (Int × Int) → Prop) (I2 : Int → Prop) (μ2 : Int → Nat) (i_117 : Int) (x_118 : Bool) : Prop :=
  (x_118 = true →
  Q (0, 5)) ∧
  (x_118 = false →
  I2 (IntKind.i64.wrap (i_117 + 1)) ∧ μ2 (IntKind.i64.wrap (i_117 + 1)) < μ2 i_117)
def VC42_J2 (s_ : List UInt8) (lo : Int) (hi : Int) (Q : (Int × Int) → Prop) (from_101 : Int) (x_102 : Bool) : Prop :=
  (x_102 = true →
  Q (0, 5)) ∧
  (x_102 = false →
  ∃ (I2 : Int → Prop) (μ2 : Int → Nat), I2 from_101 ∧ ∀ (i_117 : Int), I2 i_117 →
  ((decide (i_117 < ((s_.length : Nat) : Int))) = true →
  ((0 : Int) ≤ i_117 ∧ i_117 < (s_.length : Int)) ∧
  ((decide (((gi s_ i_117).toNat : Int) < 48)) = true →
  VC42_J6 Q I2 μ2 i_117 true) ∧
  ((decide (((gi s_ i_117).toNat : Int) < 48)) = false →
  ((0 : Int) ≤ i_117 ∧ i_117 < (s_.length : Int)) ∧
  VC42_J6 Q I2 μ2 i_117 (decide (((gi s_ i_117).toNat : Int) > 57)))) ∧
  ((decide (i_117 < ((s_.length : Nat) : Int))) = false →
  VC42_J3 s_ lo hi Q from_101))
def VC42_J1 (s_ : List UInt8) (lo : Int) (hi : Int) (Q : (Int × Int) → Prop) (from_101 : Int) : Prop :=
  ((from_101 == ((s_.length : Nat) : Int)) = true →
  VC42_J2 s_ lo hi Q from_101 true) ∧
  ((from_101 == ((s_.length : Nat) : Int)) = false →
  ((0 : Int) ≤ from_101 ∧ from_101 < (s_.length : Int)) ∧
  VC42_J2 s_ lo hi Q from_101 ((((gi s_ from_101).toNat : Int) == 48) && (decide (((s_.length : Nat) : Int) > 1))))
def VC42_J7 (s_ : List UInt8) (lo : Int) (hi : Int) (Q : (Int × Int) → Prop) (x_127 : Bool) : Prop :=
  (x_127 = true →
  VC42_J1 s_ lo hi Q 1) ∧
  (x_127 = false →
  VC42_J1 s_ lo hi Q 0)
/-- replevin/replevinref05.Number -/
def VC42 (s_ : List UInt8) (lo : Int) (hi : Int) (Q : Int × Int → Prop) : Prop :=
  ((decide (((s_.length : Nat) : Int) > 0)) = true →
  ((0 : Int) ≤ 0 ∧ 0 < (s_.length : Int)) ∧
  VC42_J7 s_ lo hi Q (((gi s_ 0).toNat : Int) == 45)) ∧
  ((decide (((s_.length : Nat) : Int) > 0)) = false →
  VC42_J7 s_ lo hi Q false)


/-- (replevin/lit.number).in -/
def VC68 (n_ : Int) (vars : Int) (Q : Bool → Prop) : Prop :=
  Q (((n_ != 0) && (decide (n_ ≥ (IntKind.i64.wrap (0 - vars))))) && (decide (n_ ≤ vars)))


/-- replevin/lit.is -/
def VC77 (lit : Int) (Q : Bool → Prop) : Prop :=
  (preIn lit 100000) ∧
  ∀ r104, lit_number_in lit 100000 = r104 →
  Q r104


/-- replevin/lit.Var -/
def VC69 (lit : Int) (Q : Int → Prop) : Prop :=
  ∀ r104, lit_is lit = r104 →
  ((!r104) = true →
  Q 0) ∧
  ((!r104) = false →
  Q (if (IntKind.i64.wrap (0 - lit)) > lit then (IntKind.i64.wrap (0 - lit)) else lit))


/-- replevin/lit.Check -/
def VC57 (lit : Int) (vars : Int) (Q : Int → Prop) : Prop :=
  (((decide (vars < 0)) || (decide (vars > 100000))) = true →
  Q 2) ∧
  (((decide (vars < 0)) || (decide (vars > 100000))) = false →
  (preIn lit vars) ∧
  ∀ r104, lit_number_in lit vars = r104 →
  ((!r104) = true →
  Q 10) ∧
  ((!r104) = false →
  Q 0))


/-- replevin/replevinref01.Split -/
def VC61 (l_ : Int) (Q : Int × Bool → Prop) : Prop :=
  (((decide (l_ > 0)) && (decide (l_ ≤ 100000))) = true →
  Q (l_, true)) ∧
  (((decide (l_ > 0)) && (decide (l_ ≤ 100000))) = false →
  (((decide (l_ < 0)) && (decide (l_ ≥ (-100000)))) = true →
  Q (IntKind.i64.wrap (0 - l_), false)) ∧
  (((decide (l_ < 0)) && (decide (l_ ≥ (-100000)))) = false →
  Q (0, false)))


/-- replevin/replevinref01.Check -/
def VC47 (l_ : Int) (vars : Int) (Q : Int → Prop) : Prop :=
  (((decide (vars < 0)) || (decide (vars > 100000))) = true →
  Q 2) ∧
  (((decide (vars < 0)) || (decide (vars > 100000))) = false →
  ∀ r104, ref01_Split l_ = r104 →
  (((r104.1 == 0) || (decide (r104.1 > vars))) = true →
  Q 10) ∧
  (((r104.1 == 0) || (decide (r104.1 > vars))) = false →
  Q 0))


def VC48_J1 (Q : Bool → Prop) : Prop :=
  Q false
/-- replevin/replevinref01.Has -/
def VC48 (l_ : List Int) (n_ : Int) (Q : Bool → Prop) : Prop :=
  ∀ (_ : sm l_),
  ∃ (I1 : Int → Prop) (μ1 : Int → Nat), I1 0 ∧ ∀ (i_102 : Int), I1 i_102 →
  ((decide (i_102 < ((l_.length : Nat) : Int))) = true →
  ((0 : Int) ≤ i_102 ∧ i_102 < (l_.length : Int)) ∧
  (((gi l_ i_102) == n_) = true →
  Q true) ∧
  (((gi l_ i_102) == n_) = false →
  I1 (IntKind.i64.wrap (i_102 + 1)) ∧ μ1 (IntKind.i64.wrap (i_102 + 1)) < μ1 i_102)) ∧
  ((decide (i_102 < ((l_.length : Nat) : Int))) = false →
  VC48_J1 Q)


def VC19_J1 (Q : Bool → Prop) : Prop :=
  Q true
/-- replevin/replevinref01.SameInts -/
def VC19 (a_ : List Int) (b_ : List Int) (Q : Bool → Prop) : Prop :=
  ∀ (_ : sm a_),
  ∀ (_ : sm b_),
  ((((a_.length : Nat) : Int) != ((b_.length : Nat) : Int)) = true →
  Q false) ∧
  ((((a_.length : Nat) : Int) != ((b_.length : Nat) : Int)) = false →
  ∃ (I1 : Int → Prop) (μ1 : Int → Nat), I1 0 ∧ ∀ (i_103 : Int), I1 i_103 →
  ((decide (i_103 < ((a_.length : Nat) : Int))) = true →
  ((0 : Int) ≤ i_103 ∧ i_103 < (a_.length : Int)) ∧
  ((0 : Int) ≤ i_103 ∧ i_103 < (b_.length : Int)) ∧
  (((gi a_ i_103) != (gi b_ i_103)) = true →
  Q false) ∧
  (((gi a_ i_103) != (gi b_ i_103)) = false →
  I1 (IntKind.i64.wrap (i_103 + 1)) ∧ μ1 (IntKind.i64.wrap (i_103 + 1)) < μ1 i_103)) ∧
  ((decide (i_103 < ((a_.length : Nat) : Int))) = false →
  VC19_J1 Q))


def VC28_J2 (Q : Int → Prop) : Prop :=
  Q 0
def VC28_J1 (c_ : List Int) (Q : Int → Prop) : Prop :=
  ∃ (I1 : Int → Prop) (μ1 : Int → Nat), I1 0 ∧ ∀ (i_103 : Int), I1 i_103 →
  ((decide (i_103 < ((c_.length : Nat) : Int))) = true →
  ((0 : Int) ≤ i_103 ∧ i_103 ≤ (c_.length : Int)) ∧
  ((0 : Int) ≤ i_103 ∧ i_103 < (c_.length : Int)) ∧
  ∀ r115, ref01_Has (c_.take i_103.toNat) (gi c_ i_103) = r115 →
  (r115 = true →
  Q 21) ∧
  (r115 = false →
  I1 (IntKind.i64.wrap (i_103 + 1)) ∧ μ1 (IntKind.i64.wrap (i_103 + 1)) < μ1 i_103)) ∧
  ((decide (i_103 < ((c_.length : Nat) : Int))) = false →
  VC28_J2 Q)
/-- replevin/replevinref02.Check -/
def VC28 (c_ : List Int) (vars : Int) (Q : Int → Prop) : Prop :=
  ∀ (_ : sm c_),
  (((decide (vars < 0)) || (decide (vars > 100000))) = true →
  Q 2) ∧
  (((decide (vars < 0)) || (decide (vars > 100000))) = false →
  ((decide (((c_.length : Nat) : Int) > 1000)) = true →
  Q 3) ∧
  ((decide (((c_.length : Nat) : Int) > 1000)) = false →
  ∃ (I2 : Int → Prop) (μ2 : Int → Nat), I2 0 ∧ ∀ (i_121 : Int), I2 i_121 →
  ((decide (i_121 < ((c_.length : Nat) : Int))) = true →
  ((0 : Int) ≤ i_121 ∧ i_121 < (c_.length : Int)) ∧
  ∀ r128, ref01_Check (gi c_ i_121) vars = r128 →
  ((r128 != 0) = true →
  Q 10) ∧
  ((r128 != 0) = false →
  I2 (IntKind.i64.wrap (i_121 + 1)) ∧ μ2 (IntKind.i64.wrap (i_121 + 1)) < μ2 i_121)) ∧
  ((decide (i_121 < ((c_.length : Nat) : Int))) = false →
  VC28_J1 c_ Q)))


def VC58_J1 (Q : ((List (Int × Int))) → Prop) (out_105 : List (Int × Int)) : Prop :=
  Q out_105
def VC58_J2 (I1 : (List (Int × Int)) → Int → Prop) (μ1 : (List (Int × Int)) → Int → Nat) (out_107 : List (Int × Int)) (x_110 : Int) (out_111 : List (Int × Int)) : Prop :=
  I1 out_111 (IntKind.i64.wrap (x_110 + 1)) ∧ μ1 out_111 (IntKind.i64.wrap (x_110 + 1)) < μ1 out_107 x_110
/-- replevin/clause.seen -/
def VC58 (c_ : List Int) (Q : (List (Int × Int)) → Prop) : Prop :=
  ∀ (_ : sm c_),
  ∃ (I1 : (List (Int × Int)) → Int → Prop) (μ1 : (List (Int × Int)) → Int → Nat), I1 ([] : List (Int × Int)) 0 ∧ ∀ (out_107 : List (Int × Int)) (x_110 : Int), I1 out_107 x_110 →
  ((decide (x_110 < ((c_.length : Nat) : Int))) = true →
  ((0 : Int) ≤ x_110 ∧ x_110 < (c_.length : Int)) ∧
  ∀ r120, lit_Var (gi c_ x_110) = r120 →
  ((decide (r120 > 0)) = true →
  VC58_J2 I1 μ1 out_107 x_110 (mput out_107 (gi c_ x_110) (IntKind.i64.wrap (((mget out_107 (gi c_ x_110)).getD 0) + 1)))) ∧
  ((decide (r120 > 0)) = false →
  VC58_J2 I1 μ1 out_107 x_110 out_107)) ∧
  ((decide (x_110 < ((c_.length : Nat) : Int))) = false →
  VC58_J1 Q out_107)


def VC45_J1 (c_ : List Int) (Q : Int → Prop) : Prop :=
  (preSeen c_) ∧
  ∀ r105, clause_seen c_ = r105 →
  ((decide (((r105.length : Nat) : Int) < ((c_.length : Nat) : Int))) = true →
  Q 21) ∧
  ((decide (((r105.length : Nat) : Int) < ((c_.length : Nat) : Int))) = false →
  Q 0)
/-- replevin/clause.Check -/
def VC45 (c_ : List Int) (vars : Int) (Q : Int → Prop) : Prop :=
  ∀ (_ : sm c_),
  (((decide (vars < 0)) || (decide (vars > 100000))) = true →
  Q 2) ∧
  (((decide (vars < 0)) || (decide (vars > 100000))) = false →
  ((decide (((c_.length : Nat) : Int) > 1000)) = true →
  Q 3) ∧
  ((decide (((c_.length : Nat) : Int) > 1000)) = false →
  ∃ (I1 : Int → Prop) (μ1 : Int → Nat), I1 0 ∧ ∀ (x_110 : Int), I1 x_110 →
  ((decide (x_110 < ((c_.length : Nat) : Int))) = true →
  ((0 : Int) ≤ x_110 ∧ x_110 < (c_.length : Int)) ∧
  ∀ r117, lit_Check (gi c_ x_110) vars = r117 →
  ((r117 != 0) = true →
  Q r117) ∧
  ((r117 != 0) = false →
  I1 (IntKind.i64.wrap (x_110 + 1)) ∧ μ1 (IntKind.i64.wrap (x_110 + 1)) < μ1 x_110)) ∧
  ((decide (x_110 < ((c_.length : Nat) : Int))) = false →
  VC45_J1 c_ Q)))


def VC35_J1 (Q : Bool → Prop) : Prop :=
  Q true
/-- slices.Equal[[]int,int] -/
def VC35 (s1 : List Int) (s2 : List Int) (Q : Bool → Prop) : Prop :=
  ∀ (_ : sm s1),
  ∀ (_ : sm s2),
  ((((s1.length : Nat) : Int) != ((s2.length : Nat) : Int)) = true →
  Q false) ∧
  ((((s1.length : Nat) : Int) != ((s2.length : Nat) : Int)) = false →
  ∃ (I1 : Int → Prop) (μ1 : Int → Nat), I1 0 ∧ ∀ (x_103 : Int), I1 x_103 →
  ((decide (x_103 < ((s1.length : Nat) : Int))) = true →
  ((0 : Int) ≤ x_103 ∧ x_103 < (s1.length : Int)) ∧
  ((0 : Int) ≤ x_103 ∧ x_103 < (s2.length : Int)) ∧
  (((gi s1 x_103) != (gi s2 x_103)) = true →
  Q false) ∧
  (((gi s1 x_103) != (gi s2 x_103)) = false →
  I1 (IntKind.i64.wrap (x_103 + 1)) ∧ μ1 (IntKind.i64.wrap (x_103 + 1)) < μ1 x_103)) ∧
  ((decide (x_103 < ((s1.length : Nat) : Int))) = false →
  VC35_J1 Q))


def VC20_J1 (Q : Bool → Prop) : Prop :=
  Q true
/-- replevin/replevinref04.SameRows -/
def VC20 (a_ : List (List Int)) (b_ : List (List Int)) (Q : Bool → Prop) : Prop :=
  ∀ (_ : sm a_),
  ∀ (_ : sm b_),
  ((((a_.length : Nat) : Int) != ((b_.length : Nat) : Int)) = true →
  Q false) ∧
  ((((a_.length : Nat) : Int) != ((b_.length : Nat) : Int)) = false →
  ∃ (I1 : Int → Prop) (μ1 : Int → Nat), I1 0 ∧ ∀ (i_103 : Int), I1 i_103 →
  ((decide (i_103 < ((a_.length : Nat) : Int))) = true →
  ((0 : Int) ≤ i_103 ∧ i_103 < (a_.length : Int)) ∧
  ∀ (_ : sm (gi a_ i_103)),
  ((0 : Int) ≤ i_103 ∧ i_103 < (b_.length : Int)) ∧
  ∀ (_ : sm (gi b_ i_103)),
  ∀ r121, ref01_SameInts (gi a_ i_103) (gi b_ i_103) = r121 →
  ((!r121) = true →
  Q false) ∧
  ((!r121) = false →
  I1 (IntKind.i64.wrap (i_103 + 1)) ∧ μ1 (IntKind.i64.wrap (i_103 + 1)) < μ1 i_103)) ∧
  ((decide (i_103 < ((a_.length : Nat) : Int))) = false →
  VC20_J1 Q))


/-- replevin/proof.within$1 -/
def VC59 (n_ : Int) (cap1 : Int) (Q : Bool → Prop) : Prop :=
  Q (((decide (n_ < cap1)) || (decide (n_ > 10000000))) || (n_ == 0))


def VC70_59_J1 (Q : Int → Prop) : Prop :=
  Q (-1)
/-- slices.IndexFunc[[]int,int] -/
def VC70_59 (s_ : List Int) (cap1 : Int) (Q : Int → Prop) : Prop :=
  ∀ (_ : sm s_),
  ∃ (I1 : Int → Prop) (μ1 : Int → Nat), I1 0 ∧ ∀ (x_102 : Int), I1 x_102 →
  ((decide (x_102 < ((s_.length : Nat) : Int))) = true →
  ((0 : Int) ≤ x_102 ∧ x_102 < (s_.length : Int)) ∧
  ∀ r109, proof_within_1 (gi s_ x_102) cap1 = r109 →
  (r109 = true →
  Q x_102) ∧
  (r109 = false →
  I1 (IntKind.i64.wrap (x_102 + 1)) ∧ μ1 (IntKind.i64.wrap (x_102 + 1)) < μ1 x_102)) ∧
  ((decide (x_102 < ((s_.length : Nat) : Int))) = false →
  VC70_59_J1 Q)


/-- slices.ContainsFunc[[]int,int] -/
def VC60_59 (s_ : List Int) (cap1 : Int) (Q : Bool → Prop) : Prop :=
  ∀ (_ : sm s_),
  ∀ r104, slices_IndexFunc_int_int_proof_within_1 s_ cap1 = r104 →
  Q (decide (r104 ≥ 0))


/-- replevin/proof.within -/
def VC46 (l_ : List Int) (lo : Int) (Q : Bool → Prop) : Prop :=
  ∀ (_ : sm l_),
  ((decide (((l_.length : Nat) : Int) ≤ 1000)) = true →
  ∀ r104, slices_ContainsFunc_int_int_proof_within_1 l_ lo = r104 →
  Q (!r104)) ∧
  ((decide (((l_.length : Nat) : Int) ≤ 1000)) = false →
  Q false)


def VC29_J1 (l_ : List Int) (Q : Bool → Prop) : Prop :=
  Q (decide (((l_.length : Nat) : Int) ≤ 1000))
def VC29_J2 (Q : Bool → Prop) (I1 : Int → Prop) (μ1 : Int → Nat) (i_103 : Int) (x_105 : Bool) : Prop :=
  (x_105 = true →
  Q false) ∧
  (x_105 = false →
  I1 (IntKind.i64.wrap (i_103 + 1)) ∧ μ1 (IntKind.i64.wrap (i_103 + 1)) < μ1 i_103)
/-- replevin/replevinref10.within -/
def VC29 (l_ : List Int) (lo : Int) (Q : Bool → Prop) : Prop :=
  ∀ (_ : sm l_),
  ∃ (I1 : Int → Prop) (μ1 : Int → Nat), I1 0 ∧ ∀ (i_103 : Int), I1 i_103 →
  ((decide (i_103 < ((l_.length : Nat) : Int))) = true →
  ((0 : Int) ≤ i_103 ∧ i_103 < (l_.length : Int)) ∧
  ((decide ((gi l_ i_103) < lo)) = true →
  VC29_J2 Q I1 μ1 i_103 true) ∧
  ((decide ((gi l_ i_103) < lo)) = false →
  ((0 : Int) ≤ i_103 ∧ i_103 < (l_.length : Int)) ∧
  ((decide ((gi l_ i_103) > 10000000)) = true →
  VC29_J2 Q I1 μ1 i_103 true) ∧
  ((decide ((gi l_ i_103) > 10000000)) = false →
  ((0 : Int) ≤ i_103 ∧ i_103 < (l_.length : Int)) ∧
  VC29_J2 Q I1 μ1 i_103 ((gi l_ i_103) == 0)))) ∧
  ((decide (i_103 < ((l_.length : Nat) : Int))) = false →
  VC29_J1 l_ Q)


/-- replevin/proof.may -/
def VC27 (s_ : Api_Step) (Q : Bool → Prop) : Prop :=
  ∀ (_ : sm s_.Lits),
  ∀ (_ : sm s_.Hints),
  ((s_.Kind == 1) = true →
  (((decide (s_.Id ≥ 1)) && (decide (s_.Id ≤ 10000000))) = true →
  ∀ r104, clause_Check s_.Lits 100000 = r104 →
  ((r104 == 0) = true →
  ∀ r108, proof_within s_.Hints (-10000000) = r108 →
  Q r108) ∧
  ((r104 == 0) = false →
  Q false)) ∧
  (((decide (s_.Id ≥ 1)) && (decide (s_.Id ≤ 10000000))) = false →
  Q false)) ∧
  ((s_.Kind == 1) = false →
  ((s_.Kind == 2) = true →
  ((((decide (s_.Id ≥ 0)) && (decide (s_.Id ≤ 10000000))) && (((s_.Lits.length : Nat) : Int) == 0)) = true →
  ∀ r112, proof_within s_.Hints 1 = r112 →
  Q r112) ∧
  ((((decide (s_.Id ≥ 0)) && (decide (s_.Id ≤ 10000000))) && (((s_.Lits.length : Nat) : Int) == 0)) = false →
  Q false)) ∧
  ((s_.Kind == 2) = false →
  Q false))


/-- replevin/proof.Check$1 -/
def VC26 (s_ : Api_Step) (Q : Bool → Prop) : Prop :=
  ∀ (_ : sm s_.Lits),
  ∀ (_ : sm s_.Hints),
  ∀ r104, proof_may s_ = r104 →
  Q (!r104)


def VC25_26_J1 (Q : Int → Prop) : Prop :=
  Q (-1)
/-- slices.IndexFunc[[]replevin/api.Step,replevin/api.Step] -/
def VC25_26 (s_ : List Api_Step) (Q : Int → Prop) : Prop :=
  ∀ (_ : sm s_),
  ∃ (I1 : Int → Prop) (μ1 : Int → Nat), I1 0 ∧ ∀ (x_102 : Int), I1 x_102 →
  ((decide (x_102 < ((s_.length : Nat) : Int))) = true →
  ((0 : Int) ≤ x_102 ∧ x_102 < (s_.length : Int)) ∧
  ∀ (_ : sm ((gi s_ x_102).Lits)),
  ∀ (_ : sm ((gi s_ x_102).Hints)),
  ∀ r115, proof_Check_1 (gi s_ x_102) = r115 →
  (r115 = true →
  Q x_102) ∧
  (r115 = false →
  I1 (IntKind.i64.wrap (x_102 + 1)) ∧ μ1 (IntKind.i64.wrap (x_102 + 1)) < μ1 x_102)) ∧
  ((decide (x_102 < ((s_.length : Nat) : Int))) = false →
  VC25_26_J1 Q)


/-- replevin/proof.Check -/
def VC12 (l_ : List Api_Step) (Q : Int × Int → Prop) : Prop :=
  ∀ (_ : sm l_),
  ((decide (((l_.length : Nat) : Int) > 1000000)) = true →
  Q (0, 3)) ∧
  ((decide (((l_.length : Nat) : Int) > 1000000)) = false →
  ∀ r104, slices_IndexFunc_api_Step_api_Step_proof_Check_1 l_ = r104 →
  ((decide (r104 ≥ 0)) = true →
  Q (r104, 2)) ∧
  ((decide (r104 ≥ 0)) = false →
  Q (((l_.length : Nat) : Int), 0)))


def VC13_J1 (l_ : List Api_Step) (Q : (Int × Int) → Prop) : Prop :=
  Q (((l_.length : Nat) : Int), 0)
def VC13_J3 (Q : (Int × Int) → Prop) (I1 : Int → Prop) (μ1 : Int → Nat) (i_103 : Int) (add_114 : Bool) (del_118 : Bool) : Prop :=
  (((!add_114) && (!del_118)) = true →
  Q (i_103, 2)) ∧
  (((!add_114) && (!del_118)) = false →
  I1 (IntKind.i64.wrap (i_103 + 1)) ∧ μ1 (IntKind.i64.wrap (i_103 + 1)) < μ1 i_103)
def VC13_J2 (l_ : List Api_Step) (Q : (Int × Int) → Prop) (I1 : Int → Prop) (μ1 : Int → Nat) (i_103 : Int) (add_114 : Bool) : Prop :=
  (((((((gi l_ i_103).Kind) == 2) && (decide (((gi l_ i_103).Id) ≥ 0))) && (decide (((gi l_ i_103).Id) ≤ 10000000))) && (((((gi l_ i_103).Lits).length : Nat) : Int) == 0)) = true →
  ∀ r122, ref10_within ((gi l_ i_103).Hints) 1 = r122 →
  VC13_J3 Q I1 μ1 i_103 add_114 r122) ∧
  (((((((gi l_ i_103).Kind) == 2) && (decide (((gi l_ i_103).Id) ≥ 0))) && (decide (((gi l_ i_103).Id) ≤ 10000000))) && (((((gi l_ i_103).Lits).length : Nat) : Int) == 0)) = false →
  VC13_J3 Q I1 μ1 i_103 add_114 false)
/-- replevin/replevinref10.Check -/
def VC13 (l_ : List Api_Step) (Q : Int × Int → Prop) : Prop :=
  ∀ (_ : sm l_),
  ((decide (((l_.length : Nat) : Int) > 1000000)) = true →
  Q (0, 3)) ∧
  ((decide (((l_.length : Nat) : Int) > 1000000)) = false →
  ∃ (I1 : Int → Prop) (μ1 : Int → Nat), I1 0 ∧ ∀ (i_103 : Int), I1 i_103 →
  ((decide (i_103 < ((l_.length : Nat) : Int))) = true →
  ((0 : Int) ≤ i_103 ∧ i_103 < (l_.length : Int)) ∧
  ∀ (_ : sm ((gi l_ i_103).Lits)),
  ∀ (_ : sm ((gi l_ i_103).Hints)),
  ((((((gi l_ i_103).Kind) == 1) && (decide (((gi l_ i_103).Id) ≥ 1))) && (decide (((gi l_ i_103).Id) ≤ 10000000))) = true →
  ∀ r128, ref02_Check ((gi l_ i_103).Lits) 100000 = r128 →
  ((r128 == 0) = true →
  ∀ r132, ref10_within ((gi l_ i_103).Hints) (-10000000) = r132 →
  VC13_J2 l_ Q I1 μ1 i_103 r132) ∧
  ((r128 == 0) = false →
  VC13_J2 l_ Q I1 μ1 i_103 false)) ∧
  ((((((gi l_ i_103).Kind) == 1) && (decide (((gi l_ i_103).Id) ≥ 1))) && (decide (((gi l_ i_103).Id) ≤ 10000000))) = false →
  VC13_J2 l_ Q I1 μ1 i_103 false)) ∧
  ((decide (i_103 < ((l_.length : Nat) : Int))) = false →
  VC13_J1 l_ Q))


/-- (*replevin/proof.line).wrong -/
def VC40 (at_ : Int) (e_ : Int) (cap1 : Proof_line) (Q : Proof_line → Prop) : Prop :=
  ∀ (_ : sm cap1.rest),
  ((cap1.e == 0) = true →
  Q (⟨cap1.rest, at_, e_⟩ : Proof_line)) ∧
  ((cap1.e == 0) = false →
  Q cap1)


/-- (*replevin/proof.line).number -/
def VC38 (lo : Int) (hi : Int) (cap1 : Proof_line) (Q : Int × Int × Bool × Proof_line → Prop) : Prop :=
  ∀ (_ : sm cap1.rest),
  ((cap1.e != 0) = true →
  Q (0, 0, false, cap1)) ∧
  ((cap1.e != 0) = false →
  ((((cap1.rest.length : Nat) : Int) == 0) = true →
  ∀ r104, proof_line_wrong cap1.at_ 4 cap1 = r104 →
  ∀ (_ : sm r104.rest),
  Q (0, 0, false, r104)) ∧
  ((((cap1.rest.length : Nat) : Int) == 0) = false →
  ((0 : Int) ≤ 0 ∧ 0 < (cap1.rest.length : Int)) ∧
  ((0 : Int) ≤ 1 ∧ 1 ≤ (cap1.rest.length : Int)) ∧
  (preNum ((gi cap1.rest 0).Text) lo hi) ∧
  ∀ r118, token_Number ((gi cap1.rest 0).Text) lo hi = r118 →
  ((r118.2 != 0) = true →
  ∀ r122, proof_line_wrong ((gi cap1.rest 0).At) r118.2 (⟨cap1.rest.drop (1 : Int).toNat, cap1.at_, cap1.e⟩ : Proof_line) = r122 →
  ∀ (_ : sm r122.rest),
  Q (0, 0, false, r122)) ∧
  ((r118.2 != 0) = false →
  Q (r118.1, (gi cap1.rest 0).At, true, (⟨cap1.rest.drop (1 : Int).toNat, IntKind.i64.wrap (((gi cap1.rest 0).At) + ((((gi cap1.rest 0).Text).length : Nat) : Int)), cap1.e⟩ : Proof_line)))))


def VC67_J1 (Q : Int → Prop) : Prop :=
  Q (-1)
/-- slices.Index[[]int,int] -/
def VC67 (s_ : List Int) (v_ : Int) (Q : Int → Prop) : Prop :=
  ∀ (_ : sm s_),
  ∃ (I1 : Int → Prop) (μ1 : Int → Nat), I1 0 ∧ ∀ (x_102 : Int), I1 x_102 →
  ((decide (x_102 < ((s_.length : Nat) : Int))) = true →
  ((0 : Int) ≤ x_102 ∧ x_102 < (s_.length : Int)) ∧
  ((v_ == (gi s_ x_102)) = true →
  Q x_102) ∧
  ((v_ == (gi s_ x_102)) = false →
  I1 (IntKind.i64.wrap (x_102 + 1)) ∧ μ1 (IntKind.i64.wrap (x_102 + 1)) < μ1 x_102)) ∧
  ((decide (x_102 < ((s_.length : Nat) : Int))) = false →
  VC67_J1 Q)


/-- slices.Contains[[]int,int] -/
def VC56 (s_ : List Int) (v_ : Int) (Q : Bool → Prop) : Prop :=
  ∀ (_ : sm s_),
  ∀ r104, slices_Index_int_int s_ v_ = r104 →
  Q (decide (r104 ≥ 0))


def VC55_J1 (n_ : Int) (Q : ((List Int) × Proof_line) → Prop) (x_101 : List Int) (x_105 : List Token_Token) (x_109 : Int) (x_110 : Int) : Prop :=
  (x_101.length + [n_].length ≤ 1099511627776) ∧
  Q (x_101 ++ [n_], (⟨x_105, x_109, x_110⟩ : Proof_line))
def VC55_J2 (n_ : Int) (at_ : Int) (cap3 : Proof_line) (Q : ((List Int) × Proof_line) → Prop) (x_130 : Bool) (x_131 : List Int) : Prop :=
  (x_130 = true →
  ∀ r139, proof_line_wrong at_ 21 (⟨cap3.rest, cap3.at_, cap3.e⟩ : Proof_line) = r139 →
  ∀ (_ : sm r139.rest),
  VC55_J1 n_ Q x_131 r139.rest r139.at_ r139.e) ∧
  (x_130 = false →
  VC55_J1 n_ Q x_131 cap3.rest cap3.at_ cap3.e)
/-- (*replevin/proof.line).row$1 -/
def VC55 (n_ : Int) (at_ : Int) (cap1 : List Int) (cap3 : Proof_line) (cap4 : Bool) (Q : (List Int) × Proof_line → Prop) : Prop :=
  ∀ (_ : sm cap1),
  ∀ (_ : sm cap3.rest),
  ((decide (((cap1.length : Nat) : Int) ≥ 1000)) = true →
  ∀ r125, proof_line_wrong at_ 3 cap3 = r125 →
  ∀ (_ : sm r125.rest),
  VC55_J1 n_ Q cap1 r125.rest r125.at_ r125.e) ∧
  ((decide (((cap1.length : Nat) : Int) ≥ 1000)) = false →
  (cap4 = true →
  ∀ r147, slices_Contains_int_int cap1 n_ = r147 →
  VC55_J2 n_ at_ cap3 Q r147 cap1) ∧
  (cap4 = false →
  VC55_J2 n_ at_ cap3 Q false cap1))


/-- (*replevin/proof.line).row -/
def VC39 (lo : Int) (hi : Int) (twice : Bool) (cap1 : Proof_line) (Q : (List Int) × Proof_line → Prop) : Prop :=
  ∀ (_ : sm cap1.rest),
  ∃ (I1 : (List Int) → (List Token_Token) → Int → Int → Prop) (μ1 : (List Int) → (List Token_Token) → Int → Int → Nat), I1 [] cap1.rest cap1.at_ cap1.e ∧ ∀ (x_101 : List Int) (x_105 : List Token_Token) (x_109 : Int) (x_110 : Int), I1 x_101 x_105 x_109 x_110 →
  (preNu lo hi (⟨x_105, x_109, x_110⟩ : Proof_line)) ∧
  ∀ r114, proof_line_number lo hi (⟨x_105, x_109, x_110⟩ : Proof_line) = r114 →
  ∀ (_ : sm r114.2.2.2.rest),
  (((!r114.2.2.1) || (r114.1 == 0)) = true →
  Q (x_101, r114.2.2.2)) ∧
  (((!r114.2.2.1) || (r114.1 == 0)) = false →
  (preRw1 r114.1 r114.2.1 x_101 r114.2.2.2 twice) ∧
  ∀ r124, proof_line_row_1 r114.1 r114.2.1 x_101 r114.2.2.2 twice = r124 →
  ∀ (_ : sm r124.1),
  ∀ (_ : sm r124.2.rest),
  I1 r124.1 r124.2.rest r124.2.at_ r124.2.e ∧ μ1 r124.1 r124.2.rest r124.2.at_ r124.2.e < μ1 x_101 x_105 x_109 x_110)


def VC22_J2 (Q : (Api_Step × Proof_line) → Prop) (r109 : Int × Int × Bool × Proof_line) (x_114 : Int) (x_115 : List Int) (x_119 : List Int) (x_131 : List Token_Token) (x_135 : Int) (x_136 : Int) : Prop :=
  Q ((⟨x_114, r109.1, x_115, x_119⟩ : Api_Step), (⟨x_131, x_135, x_136⟩ : Proof_line))
def VC22_J1 (Q : (Api_Step × Proof_line) → Prop) (r109 : Int × Int × Bool × Proof_line) (x_114 : Int) (x_115 : List Int) (x_119 : List Int) (x_123 : List Token_Token) (x_127 : Int) (x_128 : Int) : Prop :=
  ((decide (((x_123.length : Nat) : Int) > 0)) = true →
  ((0 : Int) ≤ 0 ∧ 0 < (x_123.length : Int)) ∧
  ∀ r147, proof_line_wrong ((gi x_123 0).At) 6 (⟨x_123, x_127, x_128⟩ : Proof_line) = r147 →
  ∀ (_ : sm r147.rest),
  VC22_J2 Q r109 x_114 x_115 x_119 r147.rest r147.at_ r147.e) ∧
  ((decide (((x_123.length : Nat) : Int) > 0)) = false →
  VC22_J2 Q r109 x_114 x_115 x_119 x_123 x_127 x_128)
def VC22_J3 (cap1 : Proof_line) (Q : (Api_Step × Proof_line) → Prop) (r109 : Int × Int × Bool × Proof_line) (x_154 : Bool) : Prop :=
  (x_154 = true →
  ((0 : Int) ≤ 0 ∧ 0 < (r109.2.2.2.rest.length : Int)) ∧
  ((0 : Int) ≤ 1 ∧ 1 ≤ (r109.2.2.2.rest.length : Int)) ∧
  (preRow 0 10000000 false (⟨r109.2.2.2.rest.drop (1 : Int).toNat, IntKind.i64.wrap (((gi r109.2.2.2.rest 0).At) + 1), r109.2.2.2.e⟩ : Proof_line)) ∧
  ∀ r167, proof_line_row 0 10000000 false (⟨r109.2.2.2.rest.drop (1 : Int).toNat, IntKind.i64.wrap (((gi r109.2.2.2.rest 0).At) + 1), r109.2.2.2.e⟩ : Proof_line) = r167 →
  ∀ (_ : sm r167.1),
  ∀ (_ : sm r167.2.rest),
  VC22_J1 Q r109 2 [] r167.1 r167.2.rest r167.2.at_ r167.2.e) ∧
  (x_154 = false →
  (preRow (-100000) 100000 true (⟨r109.2.2.2.rest, r109.2.2.2.at_, r109.2.2.2.e⟩ : Proof_line)) ∧
  ∀ r186, proof_line_row (-100000) 100000 true (⟨r109.2.2.2.rest, r109.2.2.2.at_, r109.2.2.2.e⟩ : Proof_line) = r186 →
  ∀ (_ : sm r186.1),
  ∀ (_ : sm r186.2.rest),
  (preRow (-10000000) 10000000 false r186.2) ∧
  ∀ r197, proof_line_row (-10000000) 10000000 false r186.2 = r197 →
  ∀ (_ : sm r197.1),
  ∀ (_ : sm r197.2.rest),
  ((r109.1 == 0) = true →
  ∀ r208, proof_line_wrong ((gi cap1.rest 0).At) 7 r197.2 = r208 →
  ∀ (_ : sm r208.rest),
  VC22_J1 Q r109 1 r186.1 r197.1 r208.rest r208.at_ r208.e) ∧
  ((r109.1 == 0) = false →
  VC22_J1 Q r109 1 r186.1 r197.1 r197.2.rest r197.2.at_ r197.2.e))
/-- (*replevin/proof.line).step -/
def VC22 (cap1 : Proof_line) (Q : Api_Step × Proof_line → Prop) : Prop :=
  ∀ (_ : sm cap1.rest),
  ((0 : Int) ≤ 0 ∧ 0 < (cap1.rest.length : Int)) ∧
  (preNu 0 10000000 cap1) ∧
  ∀ r109, proof_line_number 0 10000000 cap1 = r109 →
  ∀ (_ : sm r109.2.2.2.rest),
  (((r109.2.2.2.e == 0) && (decide (((r109.2.2.2.rest.length : Nat) : Int) > 0))) = true →
  ((0 : Int) ≤ 0 ∧ 0 < (r109.2.2.2.rest.length : Int)) ∧
  VC22_J3 cap1 Q r109 (((gi r109.2.2.2.rest 0).Text) == ([100] : List UInt8))) ∧
  (((r109.2.2.2.e == 0) && (decide (((r109.2.2.2.rest.length : Nat) : Int) > 0))) = false →
  VC22_J3 cap1 Q r109 false)


def VC8_J1 (s_ : List UInt8) (Q : ((List Api_Step) × Int × Int) → Prop) (l_101 : List Api_Step) : Prop :=
  Q (l_101, ((s_.length : Nat) : Int), 0)
def VC8_J2 (I1 : (List Api_Step) → Int → Prop) (μ1 : (List Api_Step) → Int → Nat) (l_114 : List Api_Step) (x_119 : Int) (l_120 : List Api_Step) : Prop :=
  I1 l_120 (IntKind.i64.wrap (x_119 + 1)) ∧ μ1 l_120 (IntKind.i64.wrap (x_119 + 1)) < μ1 l_114 x_119
/-- replevin/proof.Parse -/
def VC8 (s_ : List UInt8) (Q : (List Api_Step) × Int × Int → Prop) : Prop :=
  ((decide (((s_.length : Nat) : Int) > 1000000)) = true →
  Q ([], 0, 3)) ∧
  ((decide (((s_.length : Nat) : Int) > 1000000)) = false →
  (len1 s_) ∧
  ∀ r110, token_Lines s_ = r110 →
  ∀ (_ : sm r110),
  ∃ (I1 : (List Api_Step) → Int → Prop) (μ1 : (List Api_Step) → Int → Nat), I1 [] 0 ∧ ∀ (l_114 : List Api_Step) (x_119 : Int), I1 l_114 x_119 →
  ((decide (x_119 < ((r110.length : Nat) : Int))) = true →
  ((0 : Int) ≤ x_119 ∧ x_119 < (r110.length : Int)) ∧
  ∀ (_ : sm (gi r110 x_119)),
  (((((gi r110 x_119).length : Nat) : Int) == 0) = true →
  VC8_J2 I1 μ1 l_114 x_119 l_114) ∧
  (((((gi r110 x_119).length : Nat) : Int) == 0) = false →
  ((decide (((l_114.length : Nat) : Int) ≥ 1000000)) = true →
  ((0 : Int) ≤ 0 ∧ 0 < ((gi r110 x_119).length : Int)) ∧
  Q ([], (gi (gi r110 x_119) 0).At, 3)) ∧
  ((decide (((l_114.length : Nat) : Int) ≥ 1000000)) = false →
  (preStep (⟨gi r110 x_119, 0, 0⟩ : Proof_line)) ∧
  ∀ r141, proof_line_step (⟨gi r110 x_119, 0, 0⟩ : Proof_line) = r141 →
  ∀ (_ : sm r141.1.Lits),
  ∀ (_ : sm r141.1.Hints),
  ∀ (_ : sm r141.2.rest),
  (l_114.length + [r141.1].length ≤ 1099511627776) ∧
  ((r141.2.e != 0) = true →
  Q ([], r141.2.at_, r141.2.e)) ∧
  ((r141.2.e != 0) = false →
  VC8_J2 I1 μ1 l_114 x_119 (l_114 ++ [r141.1]))))) ∧
  ((decide (x_119 < ((r110.length : Nat) : Int))) = false →
  VC8_J1 s_ Q l_114))


/-- replevin/replevinref10.behind -/
def VC44 (t_ : Ref05_Token) (Q : Int → Prop) : Prop :=
  Q (IntKind.i64.wrap (t_.At + ((t_.Text.length : Nat) : Int)))


def VC43_J1 (Q : Ref10_Row → Prop) (end_101 : Int) : Prop :=
  Q (⟨[], 0, end_101, 4⟩ : Ref10_Row)
def VC43_J2 (t_ : List Ref05_Token) (Q : Ref10_Row → Prop) (I1 : Int → Int → (List Int) → Int → Int → Int → Prop) (μ1 : Int → Int → (List Int) → Int → Int → Int → Nat) (end_105 : Int) (i_106 : Int) (x_107 : List Int) (x_111 : Int) (x_112 : Int) (x_113 : Int) (r122 : Int × Int) (x_142 : Bool) (x_143 : List Int) : Prop :=
  (x_142 = true →
  ((0 : Int) ≤ i_106 ∧ i_106 < (t_.length : Int)) ∧
  Q (⟨[], 0, (gi t_ i_106).At, 21⟩ : Ref10_Row)) ∧
  (x_142 = false →
  (x_143.length + [r122.1].length ≤ 1099511627776) ∧
  ((0 : Int) ≤ i_106 ∧ i_106 < (t_.length : Int)) ∧
  ((0 : Int) ≤ i_106 ∧ i_106 < (t_.length : Int)) ∧
  I1 (IntKind.i64.wrap (((gi t_ i_106).At) + ((((gi t_ i_106).Text).length : Nat) : Int))) (IntKind.i64.wrap (i_106 + 1)) (x_143 ++ [r122.1]) (IntKind.i64.wrap (x_111 + 1)) x_112 x_113 ∧ μ1 (IntKind.i64.wrap (((gi t_ i_106).At) + ((((gi t_ i_106).Text).length : Nat) : Int))) (IntKind.i64.wrap (i_106 + 1)) (x_143 ++ [r122.1]) (IntKind.i64.wrap (x_111 + 1)) x_112 x_113 < μ1 end_105 i_106 x_107 x_111 x_112 x_113)
/-- replevin/replevinref10.row -/
def VC43 (t_ : List Ref05_Token) (k_ : Int) (end_ : Int) (lo : Int) (hi : Int) (twice : Bool) (Q : Ref10_Row → Prop) : Prop :=
  ∀ (_ : sm t_),
  ∃ (I1 : Int → Int → (List Int) → Int → Int → Int → Prop) (μ1 : Int → Int → (List Int) → Int → Int → Int → Nat), I1 end_ k_ [] 0 0 0 ∧ ∀ (end_105 : Int) (i_106 : Int) (x_107 : List Int) (x_111 : Int) (x_112 : Int) (x_113 : Int), I1 end_105 i_106 x_107 x_111 x_112 x_113 →
  ((decide (i_106 < ((t_.length : Nat) : Int))) = true →
  ((0 : Int) ≤ i_106 ∧ i_106 < (t_.length : Int)) ∧
  (preNum ((gi t_ i_106).Text) lo hi) ∧
  ∀ r122, ref05_Number ((gi t_ i_106).Text) lo hi = r122 →
  ((r122.2 != 0) = true →
  ((0 : Int) ≤ i_106 ∧ i_106 < (t_.length : Int)) ∧
  Q (⟨[], 0, (gi t_ i_106).At, r122.2⟩ : Ref10_Row)) ∧
  ((r122.2 != 0) = false →
  ((r122.1 == 0) = true →
  Q (⟨x_107, IntKind.i64.wrap (x_111 + 1), x_112, x_113⟩ : Ref10_Row)) ∧
  ((r122.1 == 0) = false →
  ((((x_107.length : Nat) : Int) == 1000) = true →
  ((0 : Int) ≤ i_106 ∧ i_106 < (t_.length : Int)) ∧
  Q (⟨[], 0, (gi t_ i_106).At, 3⟩ : Ref10_Row)) ∧
  ((((x_107.length : Nat) : Int) == 1000) = false →
  (twice = true →
  ∀ r180, ref01_Has x_107 r122.1 = r180 →
  VC43_J2 t_ Q I1 μ1 end_105 i_106 x_107 x_111 x_112 x_113 r122 r180 x_107) ∧
  (twice = false →
  VC43_J2 t_ Q I1 μ1 end_105 i_106 x_107 x_111 x_112 x_113 r122 false x_107))))) ∧
  ((decide (i_106 < ((t_.length : Nat) : Int))) = false →
  VC43_J1 Q end_105)


def VC24_J1 (t_ : List Ref05_Token) (Q : (Api_Step × Int × Int) → Prop) (r109 : Int × Int) (next_120 : Int) (x_121 : Int) (x_122 : List Int) (x_126 : List Int) : Prop :=
  ((decide (next_120 < ((t_.length : Nat) : Int))) = true →
  ((0 : Int) ≤ next_120 ∧ next_120 < (t_.length : Int)) ∧
  Q ((⟨x_121, r109.1, x_122, x_126⟩ : Api_Step), (gi t_ next_120).At, 6)) ∧
  ((decide (next_120 < ((t_.length : Nat) : Int))) = false →
  Q ((⟨x_121, r109.1, x_122, x_126⟩ : Api_Step), 0, 0))
def VC24_J2 (t_ : List Ref05_Token) (Q : (Api_Step × Int × Int) → Prop) (r109 : Int × Int) (x_142 : Bool) : Prop :=
  (x_142 = true →
  ((0 : Int) ≤ 1 ∧ 1 < (t_.length : Int)) ∧
  (preBh (gi t_ 1)) ∧
  ∀ r149, ref10_behind (gi t_ 1) = r149 →
  (preRr t_ 2 r149 0 10000000 false) ∧
  ∀ r153, ref10_row t_ 2 r149 0 10000000 false = r153 →
  ∀ (_ : sm r153.L),
  ((r153.E != 0) = true →
  Q ((⟨2, r109.1, [], []⟩ : Api_Step), r153.At, r153.E)) ∧
  ((r153.E != 0) = false →
  VC24_J1 t_ Q r109 (IntKind.i64.wrap (2 + r153.Taken)) 2 [] r153.L)) ∧
  (x_142 = false →
  ((0 : Int) ≤ 0 ∧ 0 < (t_.length : Int)) ∧
  (preBh (gi t_ 0)) ∧
  ∀ r173, ref10_behind (gi t_ 0) = r173 →
  (preRr t_ 1 r173 (-100000) 100000 true) ∧
  ∀ r177, ref10_row t_ 1 r173 (-100000) 100000 true = r177 →
  ∀ (_ : sm r177.L),
  ((r177.E != 0) = true →
  Q ((⟨1, r109.1, [], []⟩ : Api_Step), r177.At, r177.E)) ∧
  ((r177.E != 0) = false →
  ((0 : Int) ≤ (IntKind.i64.wrap ((IntKind.i64.wrap (1 + r177.Taken)) - 1)) ∧ (IntKind.i64.wrap ((IntKind.i64.wrap (1 + r177.Taken)) - 1)) < (t_.length : Int)) ∧
  (preBh (gi t_ (IntKind.i64.wrap ((IntKind.i64.wrap (1 + r177.Taken)) - 1)))) ∧
  ∀ r191, ref10_behind (gi t_ (IntKind.i64.wrap ((IntKind.i64.wrap (1 + r177.Taken)) - 1))) = r191 →
  (preRr t_ (IntKind.i64.wrap (1 + r177.Taken)) r191 (-10000000) 10000000 false) ∧
  ∀ r195, ref10_row t_ (IntKind.i64.wrap (1 + r177.Taken)) r191 (-10000000) 10000000 false = r195 →
  ∀ (_ : sm r195.L),
  ((r195.E != 0) = true →
  Q ((⟨1, r109.1, [], []⟩ : Api_Step), r195.At, r195.E)) ∧
  ((r195.E != 0) = false →
  ((r109.1 == 0) = true →
  ((0 : Int) ≤ 0 ∧ 0 < (t_.length : Int)) ∧
  Q ((⟨1, r109.1, r177.L, r195.L⟩ : Api_Step), (gi t_ 0).At, 7)) ∧
  ((r109.1 == 0) = false →
  VC24_J1 t_ Q r109 (IntKind.i64.wrap ((IntKind.i64.wrap (1 + r177.Taken)) + r195.Taken)) 1 r177.L r195.L))))
/-- replevin/replevinref10.step -/
def VC24 (t_ : List Ref05_Token) (Q : Api_Step × Int × Int → Prop) : Prop :=
  ∀ (_ : sm t_),
  ((0 : Int) ≤ 0 ∧ 0 < (t_.length : Int)) ∧
  (preNum ((gi t_ 0).Text) 0 10000000) ∧
  ∀ r109, ref05_Number ((gi t_ 0).Text) 0 10000000 = r109 →
  ((r109.2 != 0) = true →
  ((0 : Int) ≤ 0 ∧ 0 < (t_.length : Int)) ∧
  Q ((⟨0, 0, [], []⟩ : Api_Step), (gi t_ 0).At, r109.2)) ∧
  ((r109.2 != 0) = false →
  ((decide (((t_.length : Nat) : Int) > 1)) = true →
  ((0 : Int) ≤ 1 ∧ 1 < (t_.length : Int)) ∧
  VC24_J2 t_ Q r109 (((gi t_ 1).Text) == ([100] : List UInt8))) ∧
  ((decide (((t_.length : Nat) : Int) > 1)) = false →
  VC24_J2 t_ Q r109 false))


def VC9_J1 (s_ : List UInt8) (Q : ((List Api_Step) × Int × Int) → Prop) (out_108 : List Api_Step) : Prop :=
  Q (out_108, ((s_.length : Nat) : Int), 0)
def VC9_J2 (I1 : (List Api_Step) → Int → Prop) (μ1 : (List Api_Step) → Int → Nat) (out_114 : List Api_Step) (i_119 : Int) (out_120 : List Api_Step) : Prop :=
  I1 out_120 (IntKind.i64.wrap (i_119 + 1)) ∧ μ1 out_120 (IntKind.i64.wrap (i_119 + 1)) < μ1 out_114 i_119
/-- replevin/replevinref10.Parse -/
def VC9 (s_ : List UInt8) (Q : (List Api_Step) × Int × Int → Prop) : Prop :=
  ((decide (((s_.length : Nat) : Int) > 1000000)) = true →
  Q ([], 0, 3)) ∧
  ((decide (((s_.length : Nat) : Int) > 1000000)) = false →
  (len1 s_) ∧
  ∀ r104, ref05_Lines s_ = r104 →
  ∀ (_ : sm r104),
  ∃ (I1 : (List Api_Step) → Int → Prop) (μ1 : (List Api_Step) → Int → Nat), I1 [] 0 ∧ ∀ (out_114 : List Api_Step) (i_119 : Int), I1 out_114 i_119 →
  ((decide (i_119 < ((r104.length : Nat) : Int))) = true →
  ((0 : Int) ≤ i_119 ∧ i_119 < (r104.length : Int)) ∧
  ∀ (_ : sm (gi r104 i_119)),
  (((((gi r104 i_119).length : Nat) : Int) == 0) = true →
  VC9_J2 I1 μ1 out_114 i_119 out_114) ∧
  (((((gi r104 i_119).length : Nat) : Int) == 0) = false →
  ((((out_114.length : Nat) : Int) == 1000000) = true →
  ((0 : Int) ≤ i_119 ∧ i_119 < (r104.length : Int)) ∧
  ∀ (_ : sm (gi r104 i_119)),
  ((0 : Int) ≤ 0 ∧ 0 < ((gi r104 i_119).length : Int)) ∧
  Q ([], (gi (gi r104 i_119) 0).At, 3)) ∧
  ((((out_114.length : Nat) : Int) == 1000000) = false →
  ((0 : Int) ≤ i_119 ∧ i_119 < (r104.length : Int)) ∧
  ∀ (_ : sm (gi r104 i_119)),
  (preRs (gi r104 i_119)) ∧
  ∀ r153, ref10_step (gi r104 i_119) = r153 →
  ∀ (_ : sm r153.1.Lits),
  ∀ (_ : sm r153.1.Hints),
  ((r153.2.2 != 0) = true →
  Q ([], r153.2.1, r153.2.2)) ∧
  ((r153.2.2 != 0) = false →
  (out_114.length + [r153.1].length ≤ 1099511627776) ∧
  VC9_J2 I1 μ1 out_114 i_119 (out_114 ++ [r153.1]))))) ∧
  ((decide (i_119 < ((r104.length : Nat) : Int))) = false →
  VC9_J1 s_ Q out_114))


def VC49_J1 (Q : ((List Int)) → Prop) (out_101 : List Int) : Prop :=
  (out_101.length + [48].length ≤ 1099511627776) ∧
  Q (out_101 ++ [48])
/-- (replevin/proof.printed).numbers -/
def VC49 (p_ : Api_Step) (out : List Int) (l_ : List Int) (Q : (List Int) → Prop) : Prop :=
  ∀ (_ : sm p_.Lits),
  ∀ (_ : sm p_.Hints),
  ∀ (_ : sm out),
  ∀ (_ : sm l_),
  ∃ (I1 : (List Int) → Int → Prop) (μ1 : (List Int) → Int → Nat), I1 out 0 ∧ ∀ (out_114 : List Int) (x_119 : Int), I1 out_114 x_119 →
  ((decide (x_119 < ((l_.length : Nat) : Int))) = true →
  ((0 : Int) ≤ x_119 ∧ x_119 < (l_.length : Int)) ∧
  (preI (gi l_ x_119)) ∧
  ∀ r126, token_Digits (gi l_ x_119) = r126 →
  (out_114.length + r126.length ≤ 1099511627776) ∧
  ((out_114 ++ toI r126).length + [32].length ≤ 1099511627776) ∧
  I1 ((out_114 ++ toI r126) ++ [32]) (IntKind.i64.wrap (x_119 + 1)) ∧ μ1 ((out_114 ++ toI r126) ++ [32]) (IntKind.i64.wrap (x_119 + 1)) < μ1 out_114 x_119) ∧
  ((decide (x_119 < ((l_.length : Nat) : Int))) = false →
  VC49_J1 Q out_114)


/-- (replevin/proof.printed).line -/
def VC30 (p_ : Api_Step) (out : List Int) (Q : (List Int) → Prop) : Prop :=
  ∀ (_ : sm p_.Lits),
  ∀ (_ : sm p_.Hints),
  ∀ (_ : sm out),
  (preI p_.Id) ∧
  ∀ r104, token_Digits p_.Id = r104 →
  (out.length + r104.length ≤ 1099511627776) ∧
  ((out ++ toI r104).length + [32].length ≤ 1099511627776) ∧
  ((p_.Kind == 2) = true →
  (((out ++ toI r104) ++ [32]).length + ([100, 32] : List UInt8).length ≤ 1099511627776) ∧
  (preNums p_ (((out ++ toI r104) ++ [32]) ++ toI ([100, 32] : List UInt8)) p_.Hints) ∧
  ∀ r129, proof_printed_numbers p_ (((out ++ toI r104) ++ [32]) ++ toI ([100, 32] : List UInt8)) p_.Hints = r129 →
  ∀ (_ : sm r129),
  (r129.length + [10].length ≤ 1099511627776) ∧
  Q (r129 ++ [10])) ∧
  ((p_.Kind == 2) = false →
  (preNums p_ ((out ++ toI r104) ++ [32]) p_.Lits) ∧
  ∀ r254, proof_printed_numbers p_ ((out ++ toI r104) ++ [32]) p_.Lits = r254 →
  ∀ (_ : sm r254),
  (r254.length + [32].length ≤ 1099511627776) ∧
  (preNums p_ (r254 ++ [32]) p_.Hints) ∧
  ∀ r270, proof_printed_numbers p_ (r254 ++ [32]) p_.Hints = r270 →
  ∀ (_ : sm r270),
  (r270.length + [10].length ≤ 1099511627776) ∧
  Q (r270 ++ [10]))


def VC14_J1 (Q : ((List UInt8) × Int) → Prop) (out_105 : List Int) : Prop :=
  Q ((ofBytes out_105), 0)
/-- replevin/proof.Print -/
def VC14 (l_ : List Api_Step) (Q : (List UInt8) × Int → Prop) : Prop :=
  ∀ (_ : sm l_),
  ∀ r104, proof_Check l_ = r104 →
  ((r104.2 != 0) = true →
  Q (([] : List UInt8), r104.2)) ∧
  ((r104.2 != 0) = false →
  ∃ (I1 : (List Int) → Int → Prop) (μ1 : (List Int) → Int → Nat), I1 [] 0 ∧ ∀ (out_109 : List Int) (x_114 : Int), I1 out_109 x_114 →
  ((decide (x_114 < ((l_.length : Nat) : Int))) = true →
  ((0 : Int) ≤ x_114 ∧ x_114 < (l_.length : Int)) ∧
  ∀ (_ : sm ((gi l_ x_114).Lits)),
  ∀ (_ : sm ((gi l_ x_114).Hints)),
  (preLine (⟨(gi l_ x_114).Kind, (gi l_ x_114).Id, (gi l_ x_114).Lits, (gi l_ x_114).Hints⟩ : Api_Step) out_109) ∧
  ∀ r127, proof_printed_line (⟨(gi l_ x_114).Kind, (gi l_ x_114).Id, (gi l_ x_114).Lits, (gi l_ x_114).Hints⟩ : Api_Step) out_109 = r127 →
  ∀ (_ : sm r127),
  ((decide (((r127.length : Nat) : Int) > 1000000)) = true →
  Q (([] : List UInt8), 3)) ∧
  ((decide (((r127.length : Nat) : Int) > 1000000)) = false →
  I1 r127 (IntKind.i64.wrap (x_114 + 1)) ∧ μ1 r127 (IntKind.i64.wrap (x_114 + 1)) < μ1 out_109 x_114)) ∧
  ((decide (x_114 < ((l_.length : Nat) : Int))) = false →
  VC14_J1 Q out_109))


def VC32_J1 (Q : ((List UInt8)) → Prop) (out_101 : List UInt8) : Prop :=
  (out_101.length + ([48] : List UInt8).length ≤ 4611686018427387904) ∧
  Q (out_101 ++ ([48] : List UInt8))
/-- replevin/replevinref10.numbers -/
def VC32 (l_ : List Int) (Q : (List UInt8) → Prop) : Prop :=
  ∀ (_ : sm l_),
  ∃ (I1 : (List UInt8) → Int → Prop) (μ1 : (List UInt8) → Int → Nat), I1 ([] : List UInt8) 0 ∧ ∀ (out_103 : List UInt8) (i_104 : Int), I1 out_103 i_104 →
  ((decide (i_104 < ((l_.length : Nat) : Int))) = true →
  ((0 : Int) ≤ i_104 ∧ i_104 < (l_.length : Int)) ∧
  (preI (gi l_ i_104)) ∧
  ∀ r111, ref05_Digits (gi l_ i_104) = r111 →
  (out_103.length + r111.length ≤ 4611686018427387904) ∧
  ((out_103 ++ r111).length + ([32] : List UInt8).length ≤ 4611686018427387904) ∧
  I1 ((out_103 ++ r111) ++ ([32] : List UInt8)) (IntKind.i64.wrap (i_104 + 1)) ∧ μ1 ((out_103 ++ r111) ++ ([32] : List UInt8)) (IntKind.i64.wrap (i_104 + 1)) < μ1 out_103 i_104) ∧
  ((decide (i_104 < ((l_.length : Nat) : Int))) = false →
  VC32_J1 Q out_103)


def VC15_J1 (Q : ((List UInt8) × Int) → Prop) (out_105 : List UInt8) : Prop :=
  ((decide (((out_105.length : Nat) : Int) > 1000000)) = true →
  Q (([] : List UInt8), 3)) ∧
  ((decide (((out_105.length : Nat) : Int) > 1000000)) = false →
  Q (out_105, 0))
def VC15_J2 (l_ : List Api_Step) (I1 : (List UInt8) → Int → Prop) (μ1 : (List UInt8) → Int → Nat) (out_107 : List UInt8) (i_108 : Int) (out_119 : List UInt8) : Prop :=
  ((0 : Int) ≤ i_108 ∧ i_108 < (l_.length : Int)) ∧
  ∀ (_ : sm ((gi l_ i_108).Hints)),
  (preRn ((gi l_ i_108).Hints)) ∧
  ∀ r131, ref10_numbers ((gi l_ i_108).Hints) = r131 →
  (out_119.length + r131.length ≤ 4611686018427387904) ∧
  ((out_119 ++ r131).length + ([10] : List UInt8).length ≤ 4611686018427387904) ∧
  I1 ((out_119 ++ r131) ++ ([10] : List UInt8)) (IntKind.i64.wrap (i_108 + 1)) ∧ μ1 ((out_119 ++ r131) ++ ([10] : List UInt8)) (IntKind.i64.wrap (i_108 + 1)) < μ1 out_107 i_108
/-- replevin/replevinref10.Print -/
def VC15 (l_ : List Api_Step) (Q : (List UInt8) × Int → Prop) : Prop :=
  ∀ (_ : sm l_),
  ∀ r104, ref10_Check l_ = r104 →
  ((r104.2 != 0) = true →
  Q (([] : List UInt8), r104.2)) ∧
  ((r104.2 != 0) = false →
  ∃ (I1 : (List UInt8) → Int → Prop) (μ1 : (List UInt8) → Int → Nat), I1 ([] : List UInt8) 0 ∧ ∀ (out_107 : List UInt8) (i_108 : Int), I1 out_107 i_108 →
  ((decide (i_108 < ((l_.length : Nat) : Int))) = true →
  ((0 : Int) ≤ i_108 ∧ i_108 < (l_.length : Int)) ∧
  (preI ((gi l_ i_108).Id)) ∧
  ∀ r117, ref05_Digits ((gi l_ i_108).Id) = r117 →
  (out_107.length + r117.length ≤ 4611686018427387904) ∧
  ((out_107 ++ r117).length + ([32] : List UInt8).length ≤ 4611686018427387904) ∧
  ((0 : Int) ≤ i_108 ∧ i_108 < (l_.length : Int)) ∧
  ((((gi l_ i_108).Kind) == 2) = true →
  (((out_107 ++ r117) ++ ([32] : List UInt8)).length + ([100, 32] : List UInt8).length ≤ 4611686018427387904) ∧
  VC15_J2 l_ I1 μ1 out_107 i_108 (((out_107 ++ r117) ++ ([32] : List UInt8)) ++ ([100, 32] : List UInt8))) ∧
  ((((gi l_ i_108).Kind) == 2) = false →
  ((0 : Int) ≤ i_108 ∧ i_108 < (l_.length : Int)) ∧
  ∀ (_ : sm ((gi l_ i_108).Lits)),
  (preRn ((gi l_ i_108).Lits)) ∧
  ∀ r148, ref10_numbers ((gi l_ i_108).Lits) = r148 →
  (((out_107 ++ r117) ++ ([32] : List UInt8)).length + r148.length ≤ 4611686018427387904) ∧
  ((((out_107 ++ r117) ++ ([32] : List UInt8)) ++ r148).length + ([32] : List UInt8).length ≤ 4611686018427387904) ∧
  VC15_J2 l_ I1 μ1 out_107 i_108 ((((out_107 ++ r117) ++ ([32] : List UInt8)) ++ r148) ++ ([32] : List UInt8)))) ∧
  ((decide (i_108 < ((l_.length : Nat) : Int))) = false →
  VC15_J1 Q out_107))


/-- replevin/proof.Same$1 -/
def VC34 (x_ : Api_Step) (y_ : Api_Step) (Q : Bool → Prop) : Prop :=
  ∀ (_ : sm x_.Lits),
  ∀ (_ : sm x_.Hints),
  ∀ (_ : sm y_.Lits),
  ∀ (_ : sm y_.Hints),
  (((x_.Kind == y_.Kind) && (x_.Id == y_.Id)) = true →
  ∀ r104, slices_Equal_int_int x_.Lits y_.Lits = r104 →
  (r104 = true →
  ∀ r108, slices_Equal_int_int x_.Hints y_.Hints = r108 →
  Q r108) ∧
  (r104 = false →
  Q false)) ∧
  (((x_.Kind == y_.Kind) && (x_.Id == y_.Id)) = false →
  Q false)


def VC33_34_J1 (Q : Bool → Prop) : Prop :=
  Q true
/-- slices.EqualFunc[[]replevin/api.Step,[]replevin/api.Step,replevin/api.Step,replevin/api.Step] -/
def VC33_34 (s1 : List Api_Step) (s2 : List Api_Step) (Q : Bool → Prop) : Prop :=
  ∀ (_ : sm s1),
  ∀ (_ : sm s2),
  ((((s1.length : Nat) : Int) != ((s2.length : Nat) : Int)) = true →
  Q false) ∧
  ((((s1.length : Nat) : Int) != ((s2.length : Nat) : Int)) = false →
  ∃ (I1 : Int → Prop) (μ1 : Int → Nat), I1 0 ∧ ∀ (x_103 : Int), I1 x_103 →
  ((decide (x_103 < ((s1.length : Nat) : Int))) = true →
  ((0 : Int) ≤ x_103 ∧ x_103 < (s1.length : Int)) ∧
  ∀ (_ : sm ((gi s1 x_103).Lits)),
  ∀ (_ : sm ((gi s1 x_103).Hints)),
  ((0 : Int) ≤ x_103 ∧ x_103 < (s2.length : Int)) ∧
  ∀ (_ : sm ((gi s2 x_103).Lits)),
  ∀ (_ : sm ((gi s2 x_103).Hints)),
  ∀ r125, proof_Same_1 (gi s1 x_103) (gi s2 x_103) = r125 →
  ((!r125) = true →
  Q false) ∧
  ((!r125) = false →
  I1 (IntKind.i64.wrap (x_103 + 1)) ∧ μ1 (IntKind.i64.wrap (x_103 + 1)) < μ1 x_103)) ∧
  ((decide (x_103 < ((s1.length : Nat) : Int))) = false →
  VC33_34_J1 Q))


/-- replevin/proof.Same -/
def VC18 (a_ : List Api_Step) (b_ : List Api_Step) (Q : Bool → Prop) : Prop :=
  ∀ (_ : sm a_),
  ∀ (_ : sm b_),
  ∀ r104, slices_EqualFunc_api_Step_api_Step_api_Step_api_Step_proof_Same_1 a_ b_ = r104 →
  Q r104


def VC10_J1 (Q : Bool → Prop) : Prop :=
  Q true
def VC10_J2 (Q : Bool → Prop) (I1 : Int → Prop) (μ1 : Int → Nat) (i_103 : Int) (x_106 : Bool) : Prop :=
  (x_106 = true →
  Q false) ∧
  (x_106 = false →
  I1 (IntKind.i64.wrap (i_103 + 1)) ∧ μ1 (IntKind.i64.wrap (i_103 + 1)) < μ1 i_103)
/-- replevin/replevinref10.Same -/
def VC10 (a_ : List Api_Step) (b_ : List Api_Step) (Q : Bool → Prop) : Prop :=
  ∀ (_ : sm a_),
  ∀ (_ : sm b_),
  ((((a_.length : Nat) : Int) != ((b_.length : Nat) : Int)) = true →
  Q false) ∧
  ((((a_.length : Nat) : Int) != ((b_.length : Nat) : Int)) = false →
  ∃ (I1 : Int → Prop) (μ1 : Int → Nat), I1 0 ∧ ∀ (i_103 : Int), I1 i_103 →
  ((decide (i_103 < ((a_.length : Nat) : Int))) = true →
  ((0 : Int) ≤ i_103 ∧ i_103 < (a_.length : Int)) ∧
  ((0 : Int) ≤ i_103 ∧ i_103 < (b_.length : Int)) ∧
  ((((gi a_ i_103).Kind) != ((gi b_ i_103).Kind)) = true →
  VC10_J2 Q I1 μ1 i_103 true) ∧
  ((((gi a_ i_103).Kind) != ((gi b_ i_103).Kind)) = false →
  ((0 : Int) ≤ i_103 ∧ i_103 < (a_.length : Int)) ∧
  ((0 : Int) ≤ i_103 ∧ i_103 < (b_.length : Int)) ∧
  ((((gi a_ i_103).Id) != ((gi b_ i_103).Id)) = true →
  VC10_J2 Q I1 μ1 i_103 true) ∧
  ((((gi a_ i_103).Id) != ((gi b_ i_103).Id)) = false →
  ((0 : Int) ≤ i_103 ∧ i_103 < (a_.length : Int)) ∧
  ∀ (_ : sm ((gi a_ i_103).Lits)),
  ((0 : Int) ≤ i_103 ∧ i_103 < (b_.length : Int)) ∧
  ∀ (_ : sm ((gi b_ i_103).Lits)),
  ∀ r148, ref01_SameInts ((gi a_ i_103).Lits) ((gi b_ i_103).Lits) = r148 →
  ((!r148) = true →
  VC10_J2 Q I1 μ1 i_103 true) ∧
  ((!r148) = false →
  ((0 : Int) ≤ i_103 ∧ i_103 < (a_.length : Int)) ∧
  ((0 : Int) ≤ i_103 ∧ i_103 < (b_.length : Int)) ∧
  ∀ (_ : sm ((gi a_ i_103).Hints)),
  ∀ (_ : sm ((gi b_ i_103).Hints)),
  ∀ r640, ref01_SameInts ((gi a_ i_103).Hints) ((gi b_ i_103).Hints) = r640 →
  VC10_J2 Q I1 μ1 i_103 (!r640))))) ∧
  ((decide (i_103 < ((a_.length : Nat) : Int))) = false →
  VC10_J1 Q))


def VC16_J1 (Q : ((List Int) × (List (List Int))) → Prop) (ahead_101 : List Int) (groups_105 : List (List Int)) : Prop :=
  Q (ahead_101, groups_105)
def VC16_J2 (I1 : (List Int) → (List (List Int)) → Int → Prop) (μ1 : (List Int) → (List (List Int)) → Int → Nat) (ahead_117 : List Int) (groups_121 : List (List Int)) (x_128 : Int) (ahead_129 : List Int) (groups_133 : List (List Int)) : Prop :=
  I1 ahead_129 groups_133 (IntKind.i64.wrap (x_128 + 1)) ∧ μ1 ahead_129 groups_133 (IntKind.i64.wrap (x_128 + 1)) < μ1 ahead_117 groups_121 x_128
/-- replevin/proof.Split -/
def VC16 (hints : List Int) (Q : (List Int) × (List (List Int)) → Prop) : Prop :=
  ∀ (_ : sm hints),
  ∃ (I1 : (List Int) → (List (List Int)) → Int → Prop) (μ1 : (List Int) → (List (List Int)) → Int → Nat), I1 [] [] 0 ∧ ∀ (ahead_117 : List Int) (groups_121 : List (List Int)) (x_128 : Int), I1 ahead_117 groups_121 x_128 →
  ((decide (x_128 < ((hints.length : Nat) : Int))) = true →
  ((0 : Int) ≤ x_128 ∧ x_128 < (hints.length : Int)) ∧
  ((decide ((gi hints x_128) < 0)) = true →
  (groups_121.length + 1 ≤ 1099511627776) ∧
  VC16_J2 I1 μ1 ahead_117 groups_121 x_128 ahead_117 (groups_121 ++ [[gi hints x_128]])) ∧
  ((decide ((gi hints x_128) < 0)) = false →
  ((decide ((IntKind.i64.wrap (((groups_121.length : Nat) : Int) - 1)) < 0)) = true →
  (ahead_117.length + [gi hints x_128].length ≤ 1099511627776) ∧
  VC16_J2 I1 μ1 ahead_117 groups_121 x_128 (ahead_117 ++ [gi hints x_128]) groups_121) ∧
  ((decide ((IntKind.i64.wrap (((groups_121.length : Nat) : Int) - 1)) < 0)) = false →
  ((0 : Int) ≤ (IntKind.i64.wrap (((groups_121.length : Nat) : Int) - 1)) ∧ (IntKind.i64.wrap (((groups_121.length : Nat) : Int) - 1)) + 1 = (groups_121.length : Int)) ∧
  ((gi groups_121 (IntKind.i64.wrap (((groups_121.length : Nat) : Int) - 1))).length + [gi hints x_128].length ≤ 1099511627776) ∧
  ((0 : Int) ≤ (IntKind.i64.wrap (((groups_121.length : Nat) : Int) - 1)) ∧ (IntKind.i64.wrap (((groups_121.length : Nat) : Int) - 1)) + 1 = (groups_121.length : Int)) ∧
  VC16_J2 I1 μ1 ahead_117 groups_121 x_128 ahead_117 (groups_121.dropLast ++ [(gi groups_121 (IntKind.i64.wrap (((groups_121.length : Nat) : Int) - 1))) ++ [gi hints x_128]])))) ∧
  ((decide (x_128 < ((hints.length : Nat) : Int))) = false →
  VC16_J1 Q ahead_117 groups_121)


def VC17_J2 (h_ : List Int) (Q : ((List Int) × (List (List Int))) → Prop) (i_102 : Int) (rows_104 : List (List Int)) : Prop :=
  ((0 : Int) ≤ i_102 ∧ i_102 ≤ (h_.length : Int)) ∧
  Q (h_.take i_102.toNat, rows_104)
def VC17_J3 (I1 : (List (List Int)) → Int → Prop) (μ1 : (List (List Int)) → Int → Nat) (rows_114 : List (List Int)) (k_118 : Int) (rows_120 : List (List Int)) : Prop :=
  I1 rows_120 (IntKind.i64.wrap (k_118 + 1)) ∧ μ1 rows_120 (IntKind.i64.wrap (k_118 + 1)) < μ1 rows_114 k_118
def VC17_J4 (h_ : List Int) (I1 : (List (List Int)) → Int → Prop) (μ1 : (List (List Int)) → Int → Nat) (rows_114 : List (List Int)) (k_118 : Int) (rows_128 : List (List Int)) (j_132 : Int) : Prop :=
  ((0 : Int) ≤ k_118 ∧ k_118 ≤ j_132 ∧ j_132 ≤ (h_.length : Int)) ∧
  (rows_128.length + [(h_.take j_132.toNat).drop k_118.toNat].length ≤ 1099511627776) ∧
  VC17_J3 I1 μ1 rows_114 k_118 (rows_128 ++ [(h_.take j_132.toNat).drop k_118.toNat])
def VC17_J5 (h_ : List Int) (I1 : (List (List Int)) → Int → Prop) (μ1 : (List (List Int)) → Int → Nat) (rows_114 : List (List Int)) (k_118 : Int) (I2 : (List (List Int)) → Int → Prop) (μ2 : (List (List Int)) → Int → Nat) (rows_146 : List (List Int)) (j_150 : Int) (rows_152 : List (List Int)) (x_156 : Bool) : Prop :=
  (x_156 = true →
  I2 rows_152 (IntKind.i64.wrap (j_150 + 1)) ∧ μ2 rows_152 (IntKind.i64.wrap (j_150 + 1)) < μ2 rows_146 j_150) ∧
  (x_156 = false →
  VC17_J4 h_ I1 μ1 rows_114 k_118 rows_152 j_150)
def VC17_J1 (h_ : List Int) (Q : ((List Int) × (List (List Int))) → Prop) (i_102 : Int) : Prop :=
  ∃ (I1 : (List (List Int)) → Int → Prop) (μ1 : (List (List Int)) → Int → Nat), I1 [] i_102 ∧ ∀ (rows_114 : List (List Int)) (k_118 : Int), I1 rows_114 k_118 →
  ((decide (k_118 < ((h_.length : Nat) : Int))) = true →
  ((0 : Int) ≤ k_118 ∧ k_118 < (h_.length : Int)) ∧
  ((decide ((gi h_ k_118) < 0)) = true →
  ∃ (I2 : (List (List Int)) → Int → Prop) (μ2 : (List (List Int)) → Int → Nat), I2 rows_114 (IntKind.i64.wrap (k_118 + 1)) ∧ ∀ (rows_146 : List (List Int)) (j_150 : Int), I2 rows_146 j_150 →
  ((decide (j_150 < ((h_.length : Nat) : Int))) = true →
  ((0 : Int) ≤ j_150 ∧ j_150 < (h_.length : Int)) ∧
  VC17_J5 h_ I1 μ1 rows_114 k_118 I2 μ2 rows_146 j_150 rows_146 (decide ((gi h_ j_150) ≥ 0))) ∧
  ((decide (j_150 < ((h_.length : Nat) : Int))) = false →
  VC17_J5 h_ I1 μ1 rows_114 k_118 I2 μ2 rows_146 j_150 rows_146 false)) ∧
  ((decide ((gi h_ k_118) < 0)) = false →
  VC17_J3 I1 μ1 rows_114 k_118 rows_114)) ∧
  ((decide (k_118 < ((h_.length : Nat) : Int))) = false →
  VC17_J2 h_ Q i_102 rows_114)
def VC17_J6 (h_ : List Int) (Q : ((List Int) × (List (List Int))) → Prop) (I3 : Int → Prop) (μ3 : Int → Nat) (i_173 : Int) (x_175 : Bool) : Prop :=
  (x_175 = true →
  I3 (IntKind.i64.wrap (i_173 + 1)) ∧ μ3 (IntKind.i64.wrap (i_173 + 1)) < μ3 i_173) ∧
  (x_175 = false →
  VC17_J1 h_ Q i_173)
/-- replevin/replevinref10.Split -/
def VC17 (h_ : List Int) (Q : (List Int) × (List (List Int)) → Prop) : Prop :=
  ∀ (_ : sm h_),
  ∃ (I3 : Int → Prop) (μ3 : Int → Nat), I3 0 ∧ ∀ (i_173 : Int), I3 i_173 →
  ((decide (i_173 < ((h_.length : Nat) : Int))) = true →
  ((0 : Int) ≤ i_173 ∧ i_173 < (h_.length : Int)) ∧
  VC17_J6 h_ Q I3 μ3 i_173 (decide ((gi h_ i_173) ≥ 0))) ∧
  ((decide (i_173 < ((h_.length : Nat) : Int))) = false →
  VC17_J6 h_ Q I3 μ3 i_173 false)


def VC11_J1 (Q : Bool → Prop) : Prop :=
  Q true
def VC11_J2 (Q : Bool → Prop) (I1 : Int → Prop) (μ1 : Int → Nat) (i_102 : Int) (x_104 : Bool) : Prop :=
  (x_104 = true →
  Q false) ∧
  (x_104 = false →
  I1 (IntKind.i64.wrap (i_102 + 1)) ∧ μ1 (IntKind.i64.wrap (i_102 + 1)) < μ1 i_102)
/-- replevin/replevinlaw10.Few -/
def VC11 (l_ : List Api_Step) (Q : Bool → Prop) : Prop :=
  ∀ (_ : sm l_),
  ((decide (((l_.length : Nat) : Int) > 200)) = true →
  Q false) ∧
  ((decide (((l_.length : Nat) : Int) > 200)) = false →
  ∃ (I1 : Int → Prop) (μ1 : Int → Nat), I1 0 ∧ ∀ (i_102 : Int), I1 i_102 →
  ((decide (i_102 < ((l_.length : Nat) : Int))) = true →
  ((0 : Int) ≤ i_102 ∧ i_102 < (l_.length : Int)) ∧
  ∀ (_ : sm ((gi l_ i_102).Lits)),
  ((decide (((((gi l_ i_102).Lits).length : Nat) : Int) > 60)) = true →
  VC11_J2 Q I1 μ1 i_102 true) ∧
  ((decide (((((gi l_ i_102).Lits).length : Nat) : Int) > 60)) = false →
  ((0 : Int) ≤ i_102 ∧ i_102 < (l_.length : Int)) ∧
  ∀ (_ : sm ((gi l_ i_102).Hints)),
  VC11_J2 Q I1 μ1 i_102 (decide (((((gi l_ i_102).Hints).length : Nat) : Int) > 200)))) ∧
  ((decide (i_102 < ((l_.length : Nat) : Int))) = false →
  VC11_J1 Q))


/-- replevin/replevinlaw10.awake -/
def VC7 (Q : Bool → Prop) : Prop :=
  ∀ r104, proof_Parse ([53, 32, 49, 32, 45, 50, 32, 48, 32, 51, 32, 45, 52, 32, 48, 10, 53, 32, 100, 32, 49, 32, 50, 32, 48, 10] : List UInt8) = r104 →
  ∀ (_ : sm r104.1),
  ∀ r111, proof_Parse ([53, 32, 49, 32, 45, 50, 32, 48, 32, 51] : List UInt8) = r111 →
  ∀ (_ : sm r111.1),
  ∀ r118, proof_Parse ([53, 32, 49, 32, 49, 32, 48, 32, 48] : List UInt8) = r118 →
  ∀ (_ : sm r118.1),
  ∀ r125, proof_Print r104.1 = r125 →
  (preSp [1, 2, (-3), 4, (-5)]) ∧
  ∀ r133, proof_Split [1, 2, (-3), 4, (-5)] = r133 →
  ∀ (_ : sm r133.1),
  ∀ (_ : sm r133.2),
  (((((r104.1.length : Nat) : Int) != 2) || (((r133.2.length : Nat) : Int) != 2)) = true →
  Q false) ∧
  (((((r104.1.length : Nat) : Int) != 2) || (((r133.2.length : Nat) : Int) != 2)) = false →
  ∀ r143, proof_Check r104.1 = r143 →
  ∀ r151, proof_Check [(⟨1, 0, [], []⟩ : Api_Step)] = r151 →
  (((r104.2.1 == 26) && (r104.2.2 == 0)) = true →
  ((0 : Int) ≤ 0 ∧ 0 < (r104.1.length : Int)) ∧
  ((((gi r104.1 0).Id) == 5) = true →
  ((0 : Int) ≤ 1 ∧ 1 < (r104.1.length : Int)) ∧
  ((((((((((gi r104.1 1).Kind) == 2) && (r111.2.1 == 10)) && (r111.2.2 == 4)) && (r118.2.1 == 4)) && (r118.2.2 == 21)) && (r125.2 == 0)) && (r125.1 == ([53, 32, 49, 32, 45, 50, 32, 48, 32, 51, 32, 45, 52, 32, 48, 10, 53, 32, 100, 32, 49, 32, 50, 32, 48, 10] : List UInt8))) = true →
  ∀ r169, ref01_SameInts r133.1 [1, 2] = r169 →
  (r169 = true →
  ((0 : Int) ≤ 0 ∧ 0 < (r133.2.length : Int)) ∧
  ∀ (_ : sm (gi r133.2 0)),
  ∀ r183, ref01_SameInts (gi r133.2 0) [(-3), 4] = r183 →
  (r183 = true →
  ((0 : Int) ≤ 1 ∧ 1 < (r133.2.length : Int)) ∧
  ∀ (_ : sm (gi r133.2 1)),
  ∀ r197, ref01_SameInts (gi r133.2 1) [(-5)] = r197 →
  ((((r197 && (r143.1 == 2)) && (r143.2 == 0)) && (r151.2 == 2)) = true →
  ∀ r201, proof_Same r104.1 r104.1 = r201 →
  (r201 = true →
  ((0 : Int) ≤ 1 ∧ 1 ≤ (r104.1.length : Int)) ∧
  ∀ r208, proof_Same r104.1 (r104.1.take (1 : Int).toNat) = r208 →
  Q (!r208)) ∧
  (r201 = false →
  Q false)) ∧
  ((((r197 && (r143.1 == 2)) && (r143.2 == 0)) && (r151.2 == 2)) = false →
  Q false)) ∧
  (r183 = false →
  Q false)) ∧
  (r169 = false →
  Q false)) ∧
  ((((((((((gi r104.1 1).Kind) == 2) && (r111.2.1 == 10)) && (r111.2.2 == 4)) && (r118.2.1 == 4)) && (r118.2.2 == 21)) && (r125.2 == 0)) && (r125.1 == ([53, 32, 49, 32, 45, 50, 32, 48, 32, 51, 32, 45, 52, 32, 48, 10, 53, 32, 100, 32, 49, 32, 50, 32, 48, 10] : List UInt8))) = false →
  Q false)) ∧
  ((((gi r104.1 0).Id) == 5) = false →
  Q false)) ∧
  (((r104.2.1 == 26) && (r104.2.2 == 0)) = false →
  Q false))


/-- replevin/replevinlaw10.ProofReads -/
def VC3 (s_ : List UInt8) (Q : Bool → Prop) : Prop :=
  ((decide (((s_.length : Nat) : Int) > 3000)) = true →
  ∀ r104, law10_awake = r104 →
  Q r104) ∧
  ((decide (((s_.length : Nat) : Int) > 3000)) = false →
  ∀ r108, proof_Parse s_ = r108 →
  ∀ (_ : sm r108.1),
  ∀ r115, ref10_Parse s_ = r115 →
  ∀ (_ : sm r115.1),
  ∀ r122, ref10_Same r108.1 r115.1 = r122 →
  (((r122 && (r108.2.1 == r115.2.1)) && (r108.2.2 == r115.2.2)) = true →
  ∀ r126, law10_awake = r126 →
  Q r126) ∧
  (((r122 && (r108.2.1 == r115.2.1)) && (r108.2.2 == r115.2.2)) = false →
  Q false))


def VC4_J1 (l_ : List Api_Step) (m_ : List Api_Step) (h_ : List Int) (Q : Bool → Prop) (x_104 : Bool) : Prop :=
  (x_104 = true →
  ∀ r108, law10_awake = r108 →
  Q r108) ∧
  (x_104 = false →
  ∀ r112, proof_Check l_ = r112 →
  ∀ r116, ref10_Check l_ = r116 →
  ∀ r120, proof_Print l_ = r120 →
  ∀ r124, ref10_Print l_ = r124 →
  (preSp h_) ∧
  ∀ r128, proof_Split h_ = r128 →
  ∀ (_ : sm r128.1),
  ∀ (_ : sm r128.2),
  (preSp h_) ∧
  ∀ r138, ref10_Split h_ = r138 →
  ∀ (_ : sm r138.1),
  ∀ (_ : sm r138.2),
  (((((r112.1 == r116.1) && (r112.2 == r116.2)) && (r120.1 == r124.1)) && (r120.2 == r124.2)) = true →
  ∀ r148, proof_Same l_ m_ = r148 →
  ∀ r152, ref10_Same l_ m_ = r152 →
  ((r148 == r152) = true →
  ∀ r156, ref01_SameInts r128.1 r138.1 = r156 →
  (r156 = true →
  ∀ r160, ref04_SameRows r128.2 r138.2 = r160 →
  (r160 = true →
  ∀ r164, law10_awake = r164 →
  Q r164) ∧
  (r160 = false →
  Q false)) ∧
  (r156 = false →
  Q false)) ∧
  ((r148 == r152) = false →
  Q false)) ∧
  (((((r112.1 == r116.1) && (r112.2 == r116.2)) && (r120.1 == r124.1)) && (r120.2 == r124.2)) = false →
  Q false))
/-- replevin/replevinlaw10.ProofPrints -/
def VC4 (l_ : List Api_Step) (m_ : List Api_Step) (h_ : List Int) (Q : Bool → Prop) : Prop :=
  ∀ (_ : sm l_),
  ∀ (_ : sm m_),
  ∀ (_ : sm h_),
  ∀ r168, law10_Few l_ = r168 →
  ((!r168) = true →
  VC4_J1 l_ m_ h_ Q true) ∧
  ((!r168) = false →
  ∀ r172, law10_Few m_ = r172 →
  VC4_J1 l_ m_ h_ Q ((!r172) || (decide (((h_.length : Nat) : Int) > 200))))


def VC5_J3 (h_ : List Int) (Q : Bool → Prop) (all_146 : List Int) : Prop :=
  ∀ r153, ref01_SameInts all_146 h_ = r153 →
  (r153 = true →
  ∀ r157, law10_awake = r157 →
  Q r157) ∧
  (r153 = false →
  Q false)
def VC5_J4 (h_ : List Int) (Q : Bool → Prop) (all_170 : List Int) (x_174 : Bool) : Prop :=
  (x_174 = true →
  Q false) ∧
  (x_174 = false →
  VC5_J3 h_ Q all_170)
def VC5_J2 (s_ : List UInt8) (h_ : List Int) (Q : Bool → Prop) (all_134 : List Int) : Prop :=
  ∀ r141, proof_Parse s_ = r141 →
  ∀ (_ : sm r141.1),
  ((r141.2.2 == 0) = true →
  ∀ r161, proof_Print r141.1 = r161 →
  ∀ r165, proof_Parse r161.1 = r165 →
  ∀ (_ : sm r165.1),
  (((r161.2 != 0) || (r165.2.2 != 0)) = true →
  VC5_J4 h_ Q all_134 true) ∧
  (((r161.2 != 0) || (r165.2.2 != 0)) = false →
  ∀ r178, ref10_Same r165.1 r141.1 = r178 →
  VC5_J4 h_ Q all_134 (!r178))) ∧
  ((r141.2.2 == 0) = false →
  VC5_J3 h_ Q all_134)
def VC5_J5 (Q : Bool → Prop) (r117 : (List Int) × (List (List Int))) (I1 : (List Int) → Int → Prop) (μ1 : (List Int) → Int → Nat) (all_185 : List Int) (i_189 : Int) (all_192 : List Int) (x_196 : Bool) : Prop :=
  (x_196 = true →
  Q false) ∧
  (x_196 = false →
  ((0 : Int) ≤ i_189 ∧ i_189 < (r117.2.length : Int)) ∧
  ∀ (_ : sm (gi r117.2 i_189)),
  (all_192.length + (gi r117.2 i_189).length ≤ 1099511627776) ∧
  I1 (all_192 ++ (gi r117.2 i_189)) (IntKind.i64.wrap (i_189 + 1)) ∧ μ1 (all_192 ++ (gi r117.2 i_189)) (IntKind.i64.wrap (i_189 + 1)) < μ1 all_185 i_189)
def VC5_J1 (s_ : List UInt8) (h_ : List Int) (Q : Bool → Prop) : Prop :=
  (preSp h_) ∧
  ∀ r117, proof_Split h_ = r117 →
  ∀ (_ : sm r117.1),
  ∀ (_ : sm r117.2),
  (([] : List Int).length + r117.1.length ≤ 1099511627776) ∧
  ∃ (I1 : (List Int) → Int → Prop) (μ1 : (List Int) → Int → Nat), I1 (([] : List Int) ++ r117.1) 0 ∧ ∀ (all_185 : List Int) (i_189 : Int), I1 all_185 i_189 →
  ((decide (i_189 < ((r117.2.length : Nat) : Int))) = true →
  ((0 : Int) ≤ i_189 ∧ i_189 < (r117.2.length : Int)) ∧
  ∀ (_ : sm (gi r117.2 i_189)),
  (((((gi r117.2 i_189).length : Nat) : Int) == 0) = true →
  VC5_J5 Q r117 I1 μ1 all_185 i_189 all_185 true) ∧
  (((((gi r117.2 i_189).length : Nat) : Int) == 0) = false →
  ((0 : Int) ≤ i_189 ∧ i_189 < (r117.2.length : Int)) ∧
  ∀ (_ : sm (gi r117.2 i_189)),
  ((0 : Int) ≤ 0 ∧ 0 < ((gi r117.2 i_189).length : Int)) ∧
  VC5_J5 Q r117 I1 μ1 all_185 i_189 all_185 (decide ((gi (gi r117.2 i_189) 0) ≥ 0)))) ∧
  ((decide (i_189 < ((r117.2.length : Nat) : Int))) = false →
  VC5_J2 s_ h_ Q all_185)
/-- replevin/replevinlaw10.ProofBack -/
def VC5 (l_ : List Api_Step) (s_ : List UInt8) (h_ : List Int) (Q : Bool → Prop) : Prop :=
  ∀ (_ : sm l_),
  ∀ (_ : sm h_),
  ∀ r104, law10_Few l_ = r104 →
  ((((!r104) || (decide (((s_.length : Nat) : Int) > 3000))) || (decide (((h_.length : Nat) : Int) > 200))) = true →
  ∀ r108, law10_awake = r108 →
  Q r108) ∧
  ((((!r104) || (decide (((s_.length : Nat) : Int) > 3000))) || (decide (((h_.length : Nat) : Int) > 200))) = false →
  ∀ r112, proof_Print l_ = r112 →
  ((r112.2 == 0) = true →
  ∀ r232, proof_Parse r112.1 = r232 →
  ∀ (_ : sm r232.1),
  ∀ r239, ref10_Same l_ r232.1 = r239 →
  ((((!r239) || (r232.2.1 != ((r112.1.length : Nat) : Int))) || (r232.2.2 != 0)) = true →
  Q false) ∧
  ((((!r239) || (r232.2.1 != ((r112.1.length : Nat) : Int))) || (r232.2.2 != 0)) = false →
  VC5_J1 s_ h_ Q)) ∧
  ((r112.2 == 0) = false →
  VC5_J1 s_ h_ Q))


def VC6_J1 (Q : Bool → Prop) : Prop :=
  ∀ r115, law10_awake = r115 →
  Q r115
/-- replevin/replevinlaw10.ProofPlaces -/
def VC6 (s_ : List UInt8) (behind : List UInt8) (Q : Bool → Prop) : Prop :=
  (((decide (((s_.length : Nat) : Int) > 3000)) || (decide (((behind.length : Nat) : Int) > 300))) = true →
  ∀ r104, law10_awake = r104 →
  Q r104) ∧
  (((decide (((s_.length : Nat) : Int) > 3000)) || (decide (((behind.length : Nat) : Int) > 300))) = false →
  ∀ r108, proof_Parse s_ = r108 →
  ∀ (_ : sm r108.1),
  ((((decide (r108.2.1 < 0)) || (decide (r108.2.1 > ((s_.length : Nat) : Int)))) || ((r108.2.2 == 0) && (r108.2.1 != ((s_.length : Nat) : Int)))) = true →
  Q false) ∧
  ((((decide (r108.2.1 < 0)) || (decide (r108.2.1 > ((s_.length : Nat) : Int)))) || ((r108.2.2 == 0) && (r108.2.1 != ((s_.length : Nat) : Int)))) = false →
  ((r108.2.2 == 0) = true →
  ∃ (I1 : Int → Prop) (μ1 : Int → Nat), I1 0 ∧ ∀ (i_117 : Int), I1 i_117 →
  ((decide (i_117 < ((r108.1.length : Nat) : Int))) = true →
  ((0 : Int) ≤ i_117 ∧ i_117 ≤ (IntKind.i64.wrap (i_117 + 1)) ∧ (IntKind.i64.wrap (i_117 + 1)) ≤ (r108.1.length : Int)) ∧
  ∀ r124, proof_Check ((r108.1.take (IntKind.i64.wrap (i_117 + 1)).toNat).drop i_117.toNat) = r124 →
  (((r124.1 != 1) || (r124.2 != 0)) = true →
  Q false) ∧
  (((r124.1 != 1) || (r124.2 != 0)) = false →
  I1 (IntKind.i64.wrap (i_117 + 1)) ∧ μ1 (IntKind.i64.wrap (i_117 + 1)) < μ1 i_117)) ∧
  ((decide (i_117 < ((r108.1.length : Nat) : Int))) = false →
  VC6_J1 Q)) ∧
  ((r108.2.2 == 0) = false →
  (s_.length + ([10] : List UInt8).length ≤ 4611686018427387904) ∧
  ((s_ ++ ([10] : List UInt8)).length + behind.length ≤ 4611686018427387904) ∧
  ∀ r132, proof_Parse ((s_ ++ ([10] : List UInt8)) ++ behind) = r132 →
  ∀ (_ : sm r132.1),
  (len1 s_) ∧
  ∀ r139, token_Lines s_ = r139 →
  ∀ (_ : sm r139),
  (((((((r108.1.length : Nat) : Int) == 0) && (r132.2.1 == r108.2.1)) && (r132.2.2 == r108.2.2)) && (decide (((r139.length : Nat) : Int) > 0))) = true →
  ∀ r146, law10_awake = r146 →
  Q r146) ∧
  (((((((r108.1.length : Nat) : Int) == 0) && (r132.2.1 == r108.2.1)) && (r132.2.2 == r108.2.2)) && (decide (((r139.length : Nat) : Int) > 0))) = false →
  Q false))))


end Go.Proofs.YtebhbnlbfglmkaaDoor
