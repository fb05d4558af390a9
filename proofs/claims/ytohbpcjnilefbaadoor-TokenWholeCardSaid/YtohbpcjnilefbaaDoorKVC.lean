/- The conditions of the functions, in terms of their callees. Definitions. -/
import Derived.Test.YtohbpcjnilefbaaDoorKSpec
set_option linter.all false
namespace Go.Proofs.YtohbpcjnilefbaaDoor
open Go Go.Sv






/-- replevin/replevinref05.gap -/
def VC55 (b_ : Int) (Q : Bool → Prop) : Prop :=
  Q (((b_ == 32) || (b_ == 9)) || (b_ == 13))


def VC21_J1 (s_ : List UInt8) (Q : Bool → Prop) : Prop :=
  Q (decide (((s_.length : Nat) : Int) > 0))
def VC21_J2 (Q : Bool → Prop) (I1 : Int → Prop) (μ1 : Int → Nat) (i_101 : Int) (x_102 : Bool) : Prop :=
  (x_102 = true →
  Q false) ∧
  (x_102 = false →
  I1 (IntKind.i64.wrap (i_101 + 1)) ∧ μ1 (IntKind.i64.wrap (i_101 + 1)) < μ1 i_101)
/-- replevin/replevinref05.Word -/
def VC21 (s_ : List UInt8) (Q : Bool → Prop) : Prop :=
  ∃ (I1 : Int → Prop) (μ1 : Int → Nat), I1 0 ∧ ∀ (i_101 : Int), I1 i_101 →
  ((decide (i_101 < ((s_.length : Nat) : Int))) = true →
  ((0 : Int) ≤ i_101 ∧ i_101 < (s_.length : Int)) ∧
  ∀ r106, ref05_gap ((gi s_ i_101).toNat : Int) = r106 →
  (r106 = true →
  VC21_J2 Q I1 μ1 i_101 true) ∧
  (r106 = false →
  ((0 : Int) ≤ i_101 ∧ i_101 < (s_.length : Int)) ∧
  VC21_J2 Q I1 μ1 i_101 (((gi s_ i_101).toNat : Int) == 10))) ∧
  ((decide (i_101 < ((s_.length : Nat) : Int))) = false →
  VC21_J1 s_ Q)


/-- internal/stringslite.HasPrefix -/
def VC109 (s_ : List UInt8) (prefix_ : List UInt8) (Q : Bool → Prop) : Prop :=
  ((decide (((s_.length : Nat) : Int) ≥ ((prefix_.length : Nat) : Int))) = true →
  ((0 : Int) ≤ ((prefix_.length : Nat) : Int) ∧ ((prefix_.length : Nat) : Int) ≤ (s_.length : Int)) ∧
  Q ((s_.take ((prefix_.length : Nat) : Int).toNat) == prefix_)) ∧
  ((decide (((s_.length : Nat) : Int) ≥ ((prefix_.length : Nat) : Int))) = false →
  Q false)


/-- strings.HasPrefix -/
def VC87 (s_ : List UInt8) (prefix_ : List UInt8) (Q : Bool → Prop) : Prop :=
  (preTwo s_ prefix_) ∧
  ∀ r104, internal_stringslite_HasPrefix s_ prefix_ = r104 →
  Q r104


/-- internal/stringslite.CutPrefix -/
def VC112 (s_ : List UInt8) (prefix_ : List UInt8) (Q : (List UInt8) × Bool → Prop) : Prop :=
  (preTwo s_ prefix_) ∧
  ∀ r104, internal_stringslite_HasPrefix s_ prefix_ = r104 →
  ((!r104) = true →
  Q (s_, false)) ∧
  ((!r104) = false →
  ((0 : Int) ≤ ((prefix_.length : Nat) : Int) ∧ ((prefix_.length : Nat) : Int) ≤ (s_.length : Int)) ∧
  Q ((s_.drop ((prefix_.length : Nat) : Int).toNat), true))


/-- strings.CutPrefix -/
def VC90 (s_ : List UInt8) (prefix_ : List UInt8) (Q : (List UInt8) × Bool → Prop) : Prop :=
  (preTwo s_ prefix_) ∧
  ∀ r104, internal_stringslite_CutPrefix s_ prefix_ = r104 →
  Q (r104.1, r104.2)


/-- internal/stringslite.Cut -/
def VC86 (s_ : List UInt8) (sep : List UInt8) (Q : (List UInt8) × (List UInt8) × Bool → Prop) : Prop :=
  (preOne s_ sep) ∧
  ∀ r104, internal_stringslite_Index s_ sep = r104 →
  ((decide (r104 ≥ 0)) = true →
  ((0 : Int) ≤ r104 ∧ r104 ≤ (s_.length : Int)) ∧
  ((0 : Int) ≤ (IntKind.i64.wrap (r104 + ((sep.length : Nat) : Int))) ∧ (IntKind.i64.wrap (r104 + ((sep.length : Nat) : Int))) ≤ (s_.length : Int)) ∧
  Q ((s_.take r104.toNat), (s_.drop (IntKind.i64.wrap (r104 + ((sep.length : Nat) : Int))).toNat), true)) ∧
  ((decide (r104 ≥ 0)) = false →
  Q (s_, ([] : List UInt8), false))


/-- strings.Cut -/
def VC53 (s_ : List UInt8) (sep : List UInt8) (Q : (List UInt8) × (List UInt8) × Bool → Prop) : Prop :=
  (preOne s_ sep) ∧
  ∀ r104, internal_stringslite_Cut s_ sep = r104 →
  Q (r104.1, r104.2.1, r104.2.2)


def VC54_J1 (s_ : List UInt8) (line : Int) (at_ : Int) (I1_0 : (List Token_Token) → Int → Int → Prop) (μ1_0 : (List Token_Token) → Int → Int → Nat) (I1_1 : (List Token_Token) → Int → Int → Prop) (μ1_1 : (List Token_Token) → Int → Int → Nat) (out_101 : List Token_Token) (i_105 : Int) (from_106 : Int) (out_113 : List Token_Token) (x_117 : Bool) : Prop :=
  (x_117 = true →
  I1_1 out_113 (IntKind.i64.wrap (i_105 + 1)) from_106 ∧ μ1_1 out_113 (IntKind.i64.wrap (i_105 + 1)) from_106 < μ1_1 out_101 i_105 from_106) ∧
  (x_117 = false →
  ((0 : Int) ≤ from_106 ∧ from_106 ≤ (IntKind.i64.wrap (i_105 + 1)) ∧ (IntKind.i64.wrap (i_105 + 1)) ≤ (s_.length : Int)) ∧
  (out_113.length + [(⟨line, IntKind.i64.wrap (at_ + from_106), ((s_.take (IntKind.i64.wrap (i_105 + 1)).toNat).drop from_106.toNat)⟩ : Token_Token)].length ≤ 1099511627776) ∧
  I1_0 (out_113 ++ [(⟨line, IntKind.i64.wrap (at_ + from_106), ((s_.take (IntKind.i64.wrap (i_105 + 1)).toNat).drop from_106.toNat)⟩ : Token_Token)]) (IntKind.i64.wrap (i_105 + 1)) from_106 ∧ μ1_0 (out_113 ++ [(⟨line, IntKind.i64.wrap (at_ + from_106), ((s_.take (IntKind.i64.wrap (i_105 + 1)).toNat).drop from_106.toNat)⟩ : Token_Token)]) (IntKind.i64.wrap (i_105 + 1)) from_106 < μ1_1 out_101 i_105 from_106)
def VC54_J2 (Q : ((List Token_Token)) → Prop) (I1_0 : (List Token_Token) → Int → Int → Prop) (x_133 : Bool) : Prop :=
  (x_133 = true →
  Q []) ∧
  (x_133 = false →
  I1_0 [] 0 0)
/-- replevin/token.tokens -/
def VC54 (s_ : List UInt8) (line : Int) (at_ : Int) (Q : (List Token_Token) → Prop) : Prop :=
  ∃ (I1_0 : (List Token_Token) → Int → Int → Prop) (μ1_0 : (List Token_Token) → Int → Int → Nat) (I1_1 : (List Token_Token) → Int → Int → Prop) (μ1_1 : (List Token_Token) → Int → Int → Nat),
  (((s_ == ([99] : List UInt8)) = true →
  VC54_J2 Q I1_0 true) ∧
  ((s_ == ([99] : List UInt8)) = false →
  (preTwo s_ ([99, 32] : List UInt8)) ∧
  ∀ r137, strings_HasPrefix s_ ([99, 32] : List UInt8) = r137 →
  VC54_J2 Q I1_0 r137)) ∧
  (∀ (out_101 : List Token_Token) (i_105 : Int) (from_106 : Int), I1_0 out_101 i_105 from_106 →
  ((i_105 == ((s_.length : Nat) : Int)) = true →
  Q out_101) ∧
  ((i_105 == ((s_.length : Nat) : Int)) = false →
  ((0 : Int) ≤ i_105 ∧ i_105 < (s_.length : Int)) ∧
  ∀ r112, strings_IndexByte ([32, 9, 13] : List UInt8) ((gi s_ i_105).toNat : Int) = r112 →
  ((decide (r112 ≥ 0)) = true →
  I1_0 out_101 (IntKind.i64.wrap (i_105 + 1)) from_106 ∧ μ1_0 out_101 (IntKind.i64.wrap (i_105 + 1)) from_106 < μ1_0 out_101 i_105 from_106) ∧
  ((decide (r112 ≥ 0)) = false →
  I1_1 out_101 i_105 i_105 ∧ μ1_1 out_101 i_105 i_105 ≤ μ1_0 out_101 i_105 from_106))) ∧
  (∀ (out_101 : List Token_Token) (i_105 : Int) (from_106 : Int), I1_1 out_101 i_105 from_106 →
  ((decide ((IntKind.i64.wrap (i_105 + 1)) < ((s_.length : Nat) : Int))) = true →
  ((0 : Int) ≤ (IntKind.i64.wrap (i_105 + 1)) ∧ (IntKind.i64.wrap (i_105 + 1)) < (s_.length : Int)) ∧
  ∀ r130, strings_IndexByte ([32, 9, 13] : List UInt8) ((gi s_ (IntKind.i64.wrap (i_105 + 1))).toNat : Int) = r130 →
  VC54_J1 s_ line at_ I1_0 μ1_0 I1_1 μ1_1 out_101 i_105 from_106 out_101 (decide (r130 < 0))) ∧
  ((decide ((IntKind.i64.wrap (i_105 + 1)) < ((s_.length : Nat) : Int))) = false →
  VC54_J1 s_ line at_ I1_0 μ1_0 I1_1 μ1_1 out_101 i_105 from_106 out_101 false))


def VC20_J1 (s_ : List UInt8) (Q : Bool → Prop) : Prop :=
  Q (!(s_ == ([] : List UInt8)))
def VC20_J2 (Q : Bool → Prop) (I1 : Int → Prop) (μ1 : Int → Nat) (i_101 : Int) (x_102 : Bool) : Prop :=
  (x_102 = true →
  Q false) ∧
  (x_102 = false →
  I1 (IntKind.i64.wrap (i_101 + 1)) ∧ μ1 (IntKind.i64.wrap (i_101 + 1)) < μ1 i_101)
/-- replevin/token.Word -/
def VC20 (s_ : List UInt8) (Q : Bool → Prop) : Prop :=
  ∃ (I1 : Int → Prop) (μ1 : Int → Nat), I1 0 ∧ ∀ (i_101 : Int), I1 i_101 →
  ((decide (i_101 < ((s_.length : Nat) : Int))) = true →
  ((0 : Int) ≤ i_101 ∧ i_101 < (s_.length : Int)) ∧
  ((((gi s_ i_101).toNat : Int) == 10) = true →
  VC20_J2 Q I1 μ1 i_101 true) ∧
  ((((gi s_ i_101).toNat : Int) == 10) = false →
  ((0 : Int) ≤ i_101 ∧ i_101 < (s_.length : Int)) ∧
  ∀ r106, strings_IndexByte ([32, 9, 13] : List UInt8) ((gi s_ i_101).toNat : Int) = r106 →
  VC20_J2 Q I1 μ1 i_101 (decide (r106 ≥ 0)))) ∧
  ((decide (i_101 < ((s_.length : Nat) : Int))) = false →
  VC20_J1 s_ Q)


def VC60_J2 (Q : ((List UInt8) × Bool × Bool) → Prop) (r104 : (List UInt8) × Bool) : Prop :=
  Q (r104.1, r104.2, true)
def VC60_J3 (Q : ((List UInt8) × Bool × Bool) → Prop) (I1 : Int → Prop) (μ1 : Int → Nat) (i_106 : Int) (x_107 : Bool) : Prop :=
  (x_107 = true →
  Q (([] : List UInt8), false, false)) ∧
  (x_107 = false →
  I1 (IntKind.i64.wrap (i_106 + 1)) ∧ μ1 (IntKind.i64.wrap (i_106 + 1)) < μ1 i_106)
def VC60_J1 (Q : ((List UInt8) × Bool × Bool) → Prop) (r104 : (List UInt8) × Bool) (x_105 : Bool) : Prop :=
  (x_105 = true →
  Q (([] : List UInt8), false, false)) ∧
  (x_105 = false →
  ∃ (I1 : Int → Prop) (μ1 : Int → Nat), I1 0 ∧ ∀ (i_106 : Int), I1 i_106 →
  ((decide (i_106 < ((r104.1.length : Nat) : Int))) = true →
  ((0 : Int) ≤ i_106 ∧ i_106 < (r104.1.length : Int)) ∧
  ((decide (((gi r104.1 i_106).toNat : Int) < 48)) = true →
  VC60_J3 Q I1 μ1 i_106 true) ∧
  ((decide (((gi r104.1 i_106).toNat : Int) < 48)) = false →
  ((0 : Int) ≤ i_106 ∧ i_106 < (r104.1.length : Int)) ∧
  VC60_J3 Q I1 μ1 i_106 (decide (((gi r104.1 i_106).toNat : Int) > 57)))) ∧
  ((decide (i_106 < ((r104.1.length : Nat) : Int))) = false →
  VC60_J2 Q r104))
/-- replevin/token.numeral -/
def VC60 (s_ : List UInt8) (Q : (List UInt8) × Bool × Bool → Prop) : Prop :=
  (preTwo s_ ([45] : List UInt8)) ∧
  ∀ r104, strings_CutPrefix s_ ([45] : List UInt8) = r104 →
  ((r104.1 == ([] : List UInt8)) = true →
  VC60_J1 Q r104 true) ∧
  ((r104.1 == ([] : List UInt8)) = false →
  ((0 : Int) ≤ 0 ∧ 0 < (r104.1.length : Int)) ∧
  VC60_J1 Q r104 ((((gi r104.1 0).toNat : Int) == 48) && ((decide (((r104.1.length : Nat) : Int) > 1)) || r104.2)))


def VC27_J1 (n_ : Int) (Q : ((List UInt8)) → Prop) (out_101 : List UInt8) : Prop :=
  ((decide (n_ < 0)) = true →
  (([45] : List UInt8).length + out_101.length ≤ 4611686018427387904) ∧
  Q (([45] : List UInt8) ++ out_101)) ∧
  ((decide (n_ < 0)) = false →
  Q out_101)
def VC27_J2 (I1 : (List UInt8) → Int → Prop) (μ1 : (List UInt8) → Int → Nat) (out_102 : List UInt8) (x_103 : Int) (d_104 : Int) : Prop :=
  ((ofBytes [IntKind.u8.wrap (IntKind.i64.wrap (48 + d_104))]).length + out_102.length ≤ 4611686018427387904) ∧
  I1 ((ofBytes [IntKind.u8.wrap (IntKind.i64.wrap (48 + d_104))]) ++ out_102) (IntKind.i64.wrap ((x_103).tdiv 10)) ∧ μ1 ((ofBytes [IntKind.u8.wrap (IntKind.i64.wrap (48 + d_104))]) ++ out_102) (IntKind.i64.wrap ((x_103).tdiv 10)) < μ1 out_102 x_103
/-- replevin/replevinref05.Digits -/
def VC27 (n_ : Int) (Q : (List UInt8) → Prop) : Prop :=
  ((n_ == 0) = true →
  Q ([48] : List UInt8)) ∧
  ((n_ == 0) = false →
  ∃ (I1 : (List UInt8) → Int → Prop) (μ1 : (List UInt8) → Int → Nat), I1 ([] : List UInt8) n_ ∧ ∀ (out_102 : List UInt8) (x_103 : Int), I1 out_102 x_103 →
  ((x_103 != 0) = true →
  ((decide (((x_103).tmod 10) < 0)) = true →
  VC27_J2 I1 μ1 out_102 x_103 (IntKind.i64.wrap (0 - ((x_103).tmod 10)))) ∧
  ((decide (((x_103).tmod 10) < 0)) = false →
  VC27_J2 I1 μ1 out_102 x_103 ((x_103).tmod 10))) ∧
  ((x_103 != 0) = false →
  VC27_J1 n_ Q out_102))


def VC23_J1 (Q : ((List UInt8)) → Prop) (out_101 : List UInt8) : Prop :=
  Q out_101
def VC23_J2 (I1 : (List UInt8) → Int → Prop) (μ1 : (List UInt8) → Int → Nat) (out_103 : List UInt8) (i_104 : Int) (out_106 : List UInt8) : Prop :=
  (out_106.length + ([10] : List UInt8).length ≤ 4611686018427387904) ∧
  I1 (out_106 ++ ([10] : List UInt8)) (IntKind.i64.wrap (i_104 + 1)) ∧ μ1 (out_106 ++ ([10] : List UInt8)) (IntKind.i64.wrap (i_104 + 1)) < μ1 out_103 i_104
def VC23_J3 (l_ : List (List Ref05_Token)) (i_104 : Int) (I2 : (List UInt8) → Int → Prop) (μ2 : (List UInt8) → Int → Nat) (out_108 : List UInt8) (k_109 : Int) (out_117 : List UInt8) : Prop :=
  ((0 : Int) ≤ i_104 ∧ i_104 < (l_.length : Int)) ∧
  ∀ (_ : sm (gi l_ i_104)),
  ((0 : Int) ≤ k_109 ∧ k_109 < ((gi l_ i_104).length : Int)) ∧
  (out_117.length + ((gi (gi l_ i_104) k_109).Text).length ≤ 4611686018427387904) ∧
  I2 (out_117 ++ ((gi (gi l_ i_104) k_109).Text)) (IntKind.i64.wrap (k_109 + 1)) ∧ μ2 (out_117 ++ ((gi (gi l_ i_104) k_109).Text)) (IntKind.i64.wrap (k_109 + 1)) < μ2 out_108 k_109
/-- replevin/replevinref05.Join -/
def VC23 (l_ : List (List Ref05_Token)) (Q : (List UInt8) → Prop) : Prop :=
  ∀ (_ : sm l_),
  ∃ (I1 : (List UInt8) → Int → Prop) (μ1 : (List UInt8) → Int → Nat), I1 ([] : List UInt8) 0 ∧ ∀ (out_103 : List UInt8) (i_104 : Int), I1 out_103 i_104 →
  ((decide (i_104 < ((l_.length : Nat) : Int))) = true →
  ∃ (I2 : (List UInt8) → Int → Prop) (μ2 : (List UInt8) → Int → Nat), I2 out_103 0 ∧ ∀ (out_108 : List UInt8) (k_109 : Int), I2 out_108 k_109 →
  ((0 : Int) ≤ i_104 ∧ i_104 < (l_.length : Int)) ∧
  ∀ (_ : sm (gi l_ i_104)),
  ((decide (k_109 < (((gi l_ i_104).length : Nat) : Int))) = true →
  ((decide (k_109 > 0)) = true →
  (out_108.length + ([32] : List UInt8).length ≤ 4611686018427387904) ∧
  VC23_J3 l_ i_104 I2 μ2 out_108 k_109 (out_108 ++ ([32] : List UInt8))) ∧
  ((decide (k_109 > 0)) = false →
  VC23_J3 l_ i_104 I2 μ2 out_108 k_109 out_108)) ∧
  ((decide (k_109 < (((gi l_ i_104).length : Nat) : Int))) = false →
  VC23_J2 I1 μ1 out_103 i_104 out_108)) ∧
  ((decide (i_104 < ((l_.length : Nat) : Int))) = false →
  VC23_J1 Q out_103)


def VC17_J1 (Q : ((List (List Ref05_Token))) → Prop) (out_101 : List (List Ref05_Token)) : Prop :=
  Q out_101
def VC17_J4 (I1 : (List (List Ref05_Token)) → Int → Prop) (μ1 : (List (List Ref05_Token)) → Int → Nat) (out_107 : List (List Ref05_Token)) (at_111 : Int) (end_116 : Int) (out_122 : List (List Ref05_Token)) (row_126 : List Ref05_Token) : Prop :=
  (out_122.length + [row_126].length ≤ 1099511627776) ∧
  I1 (out_122 ++ [row_126]) (IntKind.i64.wrap (end_116 + 1)) ∧ μ1 (out_122 ++ [row_126]) (IntKind.i64.wrap (end_116 + 1)) < μ1 out_107 at_111
def VC17_J5 (I2 : (List (List Ref05_Token)) → (List Ref05_Token) → Int → Prop) (μ2 : (List (List Ref05_Token)) → (List Ref05_Token) → Int → Nat) (out_141 : List (List Ref05_Token)) (row_145 : List Ref05_Token) (i_149 : Int) (out_150 : List (List Ref05_Token)) (row_154 : List Ref05_Token) (i_158 : Int) : Prop :=
  I2 out_150 row_154 (IntKind.i64.wrap (i_158 + 1)) ∧ μ2 out_150 row_154 (IntKind.i64.wrap (i_158 + 1)) < μ2 out_141 row_145 i_149
def VC17_J6 (s_ : List UInt8) (I2 : (List (List Ref05_Token)) → (List Ref05_Token) → Int → Prop) (μ2 : (List (List Ref05_Token)) → (List Ref05_Token) → Int → Nat) (out_141 : List (List Ref05_Token)) (row_145 : List Ref05_Token) (i_149 : Int) (out_163 : List (List Ref05_Token)) (row_167 : List Ref05_Token) (k_171 : Int) : Prop :=
  ((0 : Int) ≤ i_149 ∧ i_149 ≤ k_171 ∧ k_171 ≤ (s_.length : Int)) ∧
  (row_167.length + [(⟨IntKind.i64.wrap (((out_163.length : Nat) : Int) + 1), i_149, ((s_.take k_171.toNat).drop i_149.toNat)⟩ : Ref05_Token)].length ≤ 1099511627776) ∧
  VC17_J5 I2 μ2 out_141 row_145 i_149 out_163 (row_167 ++ [(⟨IntKind.i64.wrap (((out_163.length : Nat) : Int) + 1), i_149, ((s_.take k_171.toNat).drop i_149.toNat)⟩ : Ref05_Token)]) k_171
def VC17_J7 (s_ : List UInt8) (I2 : (List (List Ref05_Token)) → (List Ref05_Token) → Int → Prop) (μ2 : (List (List Ref05_Token)) → (List Ref05_Token) → Int → Nat) (out_141 : List (List Ref05_Token)) (row_145 : List Ref05_Token) (i_149 : Int) (I3 : (List (List Ref05_Token)) → (List Ref05_Token) → Int → Prop) (μ3 : (List (List Ref05_Token)) → (List Ref05_Token) → Int → Nat) (out_181 : List (List Ref05_Token)) (row_185 : List Ref05_Token) (k_189 : Int) (out_190 : List (List Ref05_Token)) (row_194 : List Ref05_Token) (x_198 : Bool) : Prop :=
  (x_198 = true →
  I3 out_190 row_194 (IntKind.i64.wrap (k_189 + 1)) ∧ μ3 out_190 row_194 (IntKind.i64.wrap (k_189 + 1)) < μ3 out_181 row_185 k_189) ∧
  (x_198 = false →
  VC17_J6 s_ I2 μ2 out_141 row_145 i_149 out_190 row_194 k_189)
def VC17_J3 (s_ : List UInt8) (I1 : (List (List Ref05_Token)) → Int → Prop) (μ1 : (List (List Ref05_Token)) → Int → Nat) (out_107 : List (List Ref05_Token)) (at_111 : Int) (end_116 : Int) (out_117 : List (List Ref05_Token)) (remark_121 : Bool) : Prop :=
  ∃ (I2 : (List (List Ref05_Token)) → (List Ref05_Token) → Int → Prop) (μ2 : (List (List Ref05_Token)) → (List Ref05_Token) → Int → Nat), I2 out_117 [] at_111 ∧ ∀ (out_141 : List (List Ref05_Token)) (row_145 : List Ref05_Token) (i_149 : Int), I2 out_141 row_145 i_149 →
  (((decide (i_149 < end_116)) && (!remark_121)) = true →
  ((0 : Int) ≤ i_149 ∧ i_149 < (s_.length : Int)) ∧
  ∀ r162, ref05_gap ((gi s_ i_149).toNat : Int) = r162 →
  (r162 = true →
  VC17_J5 I2 μ2 out_141 row_145 i_149 out_141 row_145 i_149) ∧
  (r162 = false →
  ∃ (I3 : (List (List Ref05_Token)) → (List Ref05_Token) → Int → Prop) (μ3 : (List (List Ref05_Token)) → (List Ref05_Token) → Int → Nat), I3 out_141 row_145 i_149 ∧ ∀ (out_181 : List (List Ref05_Token)) (row_185 : List Ref05_Token) (k_189 : Int), I3 out_181 row_185 k_189 →
  ((decide (k_189 < end_116)) = true →
  ((0 : Int) ≤ k_189 ∧ k_189 < (s_.length : Int)) ∧
  ∀ r202, ref05_gap ((gi s_ k_189).toNat : Int) = r202 →
  VC17_J7 s_ I2 μ2 out_141 row_145 i_149 I3 μ3 out_181 row_185 k_189 out_181 row_185 (!r202)) ∧
  ((decide (k_189 < end_116)) = false →
  VC17_J7 s_ I2 μ2 out_141 row_145 i_149 I3 μ3 out_181 row_185 k_189 out_181 row_185 false))) ∧
  (((decide (i_149 < end_116)) && (!remark_121)) = false →
  VC17_J4 I1 μ1 out_107 at_111 end_116 out_141 row_145)
def VC17_J2 (s_ : List UInt8) (I1 : (List (List Ref05_Token)) → Int → Prop) (μ1 : (List (List Ref05_Token)) → Int → Nat) (out_107 : List (List Ref05_Token)) (at_111 : Int) (out_112 : List (List Ref05_Token)) (end_116 : Int) : Prop :=
  ((0 : Int) ≤ at_111 ∧ at_111 ≤ end_116 ∧ end_116 ≤ (s_.length : Int)) ∧
  ((((s_.take end_116.toNat).drop at_111.toNat) == ([99] : List UInt8)) = true →
  VC17_J3 s_ I1 μ1 out_107 at_111 end_116 out_112 true) ∧
  ((((s_.take end_116.toNat).drop at_111.toNat) == ([99] : List UInt8)) = false →
  ((decide ((IntKind.i64.wrap (end_116 - at_111)) ≥ 2)) = true →
  ((0 : Int) ≤ at_111 ∧ at_111 ≤ (IntKind.i64.wrap (at_111 + 2)) ∧ (IntKind.i64.wrap (at_111 + 2)) ≤ (s_.length : Int)) ∧
  VC17_J3 s_ I1 μ1 out_107 at_111 end_116 out_112 (((s_.take (IntKind.i64.wrap (at_111 + 2)).toNat).drop at_111.toNat) == ([99, 32] : List UInt8))) ∧
  ((decide ((IntKind.i64.wrap (end_116 - at_111)) ≥ 2)) = false →
  VC17_J3 s_ I1 μ1 out_107 at_111 end_116 out_112 false))
def VC17_J8 (s_ : List UInt8) (I1 : (List (List Ref05_Token)) → Int → Prop) (μ1 : (List (List Ref05_Token)) → Int → Nat) (out_107 : List (List Ref05_Token)) (at_111 : Int) (I4 : (List (List Ref05_Token)) → Int → Prop) (μ4 : (List (List Ref05_Token)) → Int → Nat) (out_217 : List (List Ref05_Token)) (end_221 : Int) (out_222 : List (List Ref05_Token)) (x_226 : Bool) : Prop :=
  (x_226 = true →
  I4 out_222 (IntKind.i64.wrap (end_221 + 1)) ∧ μ4 out_222 (IntKind.i64.wrap (end_221 + 1)) < μ4 out_217 end_221) ∧
  (x_226 = false →
  VC17_J2 s_ I1 μ1 out_107 at_111 out_222 end_221)
/-- replevin/replevinref05.Lines -/
def VC17 (s_ : List UInt8) (Q : (List (List Ref05_Token)) → Prop) : Prop :=
  ∃ (I1 : (List (List Ref05_Token)) → Int → Prop) (μ1 : (List (List Ref05_Token)) → Int → Nat), I1 [] 0 ∧ ∀ (out_107 : List (List Ref05_Token)) (at_111 : Int), I1 out_107 at_111 →
  ((decide (at_111 < ((s_.length : Nat) : Int))) = true →
  ∃ (I4 : (List (List Ref05_Token)) → Int → Prop) (μ4 : (List (List Ref05_Token)) → Int → Nat), I4 out_107 at_111 ∧ ∀ (out_217 : List (List Ref05_Token)) (end_221 : Int), I4 out_217 end_221 →
  ((decide (end_221 < ((s_.length : Nat) : Int))) = true →
  ((0 : Int) ≤ end_221 ∧ end_221 < (s_.length : Int)) ∧
  VC17_J8 s_ I1 μ1 out_107 at_111 I4 μ4 out_217 end_221 out_217 (((gi s_ end_221).toNat : Int) != 10)) ∧
  ((decide (end_221 < ((s_.length : Nat) : Int))) = false →
  VC17_J8 s_ I1 μ1 out_107 at_111 I4 μ4 out_217 end_221 out_217 false)) ∧
  ((decide (at_111 < ((s_.length : Nat) : Int))) = false →
  VC17_J1 Q out_107)


def VC18_J1 (Q : Bool → Prop) : Prop :=
  Q true
def VC18_J2 (I1 : Int → Prop) (μ1 : Int → Nat) (i_103 : Int) : Prop :=
  I1 (IntKind.i64.wrap (i_103 + 1)) ∧ μ1 (IntKind.i64.wrap (i_103 + 1)) < μ1 i_103
/-- replevin/replevinref05.Same -/
def VC18 (a_ : List (List Ref05_Token)) (b_ : List (List Ref05_Token)) (Q : Bool → Prop) : Prop :=
  ∀ (_ : sm a_),
  ∀ (_ : sm b_),
  ((((a_.length : Nat) : Int) != ((b_.length : Nat) : Int)) = true →
  Q false) ∧
  ((((a_.length : Nat) : Int) != ((b_.length : Nat) : Int)) = false →
  ∃ (I1 : Int → Prop) (μ1 : Int → Nat), I1 0 ∧ ∀ (i_103 : Int), I1 i_103 →
  ((decide (i_103 < ((a_.length : Nat) : Int))) = true →
  ((0 : Int) ≤ i_103 ∧ i_103 < (a_.length : Int)) ∧
  ∀ (_ : sm (gi a_ i_103)),
  ((0 : Int) ≤ i_103 ∧ i_103 < (b_.length : Int)) ∧
  ∀ (_ : sm (gi b_ i_103)),
  (((((gi a_ i_103).length : Nat) : Int) != (((gi b_ i_103).length : Nat) : Int)) = true →
  Q false) ∧
  (((((gi a_ i_103).length : Nat) : Int) != (((gi b_ i_103).length : Nat) : Int)) = false →
  ∃ (I2 : Int → Prop) (μ2 : Int → Nat), I2 0 ∧ ∀ (k_122 : Int), I2 k_122 →
  ((0 : Int) ≤ i_103 ∧ i_103 < (a_.length : Int)) ∧
  ∀ (_ : sm (gi a_ i_103)),
  ((decide (k_122 < (((gi a_ i_103).length : Nat) : Int))) = true →
  ((0 : Int) ≤ i_103 ∧ i_103 < (a_.length : Int)) ∧
  ∀ (_ : sm (gi a_ i_103)),
  ((0 : Int) ≤ k_122 ∧ k_122 < ((gi a_ i_103).length : Int)) ∧
  ((0 : Int) ≤ i_103 ∧ i_103 < (b_.length : Int)) ∧
  ∀ (_ : sm (gi b_ i_103)),
  ((0 : Int) ≤ k_122 ∧ k_122 < ((gi b_ i_103).length : Int)) ∧
  ((!(((gi (gi a_ i_103) k_122).Line) == ((gi (gi b_ i_103) k_122).Line) && (((gi (gi a_ i_103) k_122).At) == ((gi (gi b_ i_103) k_122).At) && (((gi (gi a_ i_103) k_122).Text) == ((gi (gi b_ i_103) k_122).Text) && true)))) = true →
  Q false) ∧
  ((!(((gi (gi a_ i_103) k_122).Line) == ((gi (gi b_ i_103) k_122).Line) && (((gi (gi a_ i_103) k_122).At) == ((gi (gi b_ i_103) k_122).At) && (((gi (gi a_ i_103) k_122).Text) == ((gi (gi b_ i_103) k_122).Text) && true)))) = false →
  I2 (IntKind.i64.wrap (k_122 + 1)) ∧ μ2 (IntKind.i64.wrap (k_122 + 1)) < μ2 k_122)) ∧
  ((decide (k_122 < (((gi a_ i_103).length : Nat) : Int))) = false →
  VC18_J2 I1 μ1 i_103))) ∧
  ((decide (i_103 < ((a_.length : Nat) : Int))) = false →
  VC18_J1 Q))


def VC19_J1 (Q : ((List (List Ref05_Token))) → Prop) (out_101 : List (List Ref05_Token)) : Prop :=
  Q out_101
def VC19_J2 (I1 : (List (List Ref05_Token)) → Int → Prop) (μ1 : (List (List Ref05_Token)) → Int → Nat) (out_108 : List (List Ref05_Token)) (i_112 : Int) (out_114 : List (List Ref05_Token)) (row_118 : List Ref05_Token) : Prop :=
  (out_114.length + [row_118].length ≤ 1099511627776) ∧
  I1 (out_114 ++ [row_118]) (IntKind.i64.wrap (i_112 + 1)) ∧ μ1 (out_114 ++ [row_118]) (IntKind.i64.wrap (i_112 + 1)) < μ1 out_108 i_112
/-- replevin/replevinlaw05.Of -/
def VC19 (l_ : List (List Token_Token)) (Q : (List (List Ref05_Token)) → Prop) : Prop :=
  ∀ (_ : sm l_),
  ∃ (I1 : (List (List Ref05_Token)) → Int → Prop) (μ1 : (List (List Ref05_Token)) → Int → Nat), I1 [] 0 ∧ ∀ (out_108 : List (List Ref05_Token)) (i_112 : Int), I1 out_108 i_112 →
  ((decide (i_112 < ((l_.length : Nat) : Int))) = true →
  ∃ (I2 : (List (List Ref05_Token)) → (List Ref05_Token) → Int → Prop) (μ2 : (List (List Ref05_Token)) → (List Ref05_Token) → Int → Nat), I2 out_108 [] 0 ∧ ∀ (out_134 : List (List Ref05_Token)) (row_138 : List Ref05_Token) (k_142 : Int), I2 out_134 row_138 k_142 →
  ((0 : Int) ≤ i_112 ∧ i_112 < (l_.length : Int)) ∧
  ∀ (_ : sm (gi l_ i_112)),
  ((decide (k_142 < (((gi l_ i_112).length : Nat) : Int))) = true →
  ((0 : Int) ≤ i_112 ∧ i_112 < (l_.length : Int)) ∧
  ∀ (_ : sm (gi l_ i_112)),
  ((0 : Int) ≤ k_142 ∧ k_142 < ((gi l_ i_112).length : Int)) ∧
  (row_138.length + [(⟨(gi (gi l_ i_112) k_142).Line, (gi (gi l_ i_112) k_142).At, (gi (gi l_ i_112) k_142).Text⟩ : Ref05_Token)].length ≤ 1099511627776) ∧
  I2 out_134 (row_138 ++ [(⟨(gi (gi l_ i_112) k_142).Line, (gi (gi l_ i_112) k_142).At, (gi (gi l_ i_112) k_142).Text⟩ : Ref05_Token)]) (IntKind.i64.wrap (k_142 + 1)) ∧ μ2 out_134 (row_138 ++ [(⟨(gi (gi l_ i_112) k_142).Line, (gi (gi l_ i_112) k_142).At, (gi (gi l_ i_112) k_142).Text⟩ : Ref05_Token)]) (IntKind.i64.wrap (k_142 + 1)) < μ2 out_134 row_138 k_142) ∧
  ((decide (k_142 < (((gi l_ i_112).length : Nat) : Int))) = false →
  VC19_J2 I1 μ1 out_108 i_112 out_134 row_138)) ∧
  ((decide (i_112 < ((l_.length : Nat) : Int))) = false →
  VC19_J1 Q out_108)


def VC16_J1 (Q : ((List (List Token_Token))) → Prop) (out_101 : List (List Token_Token)) : Prop :=
  Q out_101
/-- replevin/token.Lines -/
def VC16 (s_ : List UInt8) (Q : (List (List Token_Token)) → Prop) : Prop :=
  ∃ (I1 : (List (List Token_Token)) → Int → Prop) (μ1 : (List (List Token_Token)) → Int → Nat), I1 [] 0 ∧ ∀ (out_107 : List (List Token_Token)) (at_111 : Int), I1 out_107 at_111 →
  ((decide (at_111 < ((s_.length : Nat) : Int))) = true →
  ((0 : Int) ≤ at_111 ∧ at_111 ≤ (s_.length : Int)) ∧
  (preOne (s_.drop at_111.toNat) ([10] : List UInt8)) ∧
  ∀ r115, strings_Cut (s_.drop at_111.toNat) ([10] : List UInt8) = r115 →
  (preTok r115.1 (IntKind.i64.wrap (((out_107.length : Nat) : Int) + 1)) at_111) ∧
  ∀ r119, token_tokens r115.1 (IntKind.i64.wrap (((out_107.length : Nat) : Int) + 1)) at_111 = r119 →
  ∀ (_ : sm r119),
  (out_107.length + [r119].length ≤ 1099511627776) ∧
  I1 (out_107 ++ [r119]) (IntKind.i64.wrap (at_111 + (IntKind.i64.wrap (((r115.1.length : Nat) : Int) + 1)))) ∧ μ1 (out_107 ++ [r119]) (IntKind.i64.wrap (at_111 + (IntKind.i64.wrap (((r115.1.length : Nat) : Int) + 1)))) < μ1 out_107 at_111) ∧
  ((decide (at_111 < ((s_.length : Nat) : Int))) = false →
  VC16_J1 Q out_107)


def VC24_J2 (lo : Int) (hi : Int) (Q : (Int × Int) → Prop) (x_106 : Int) : Prop :=
  (((decide (x_106 < lo)) || (decide (x_106 > hi))) = true →
  Q (0, 7)) ∧
  (((decide (x_106 < lo)) || (decide (x_106 > hi))) = false →
  Q (x_106, 0))
def VC24_J1 (lo : Int) (hi : Int) (Q : (Int × Int) → Prop) (r104 : (List UInt8) × Bool × Bool) (n_105 : Int) : Prop :=
  (((decide (n_105 > 9223372036854775807)) && (!(r104.2.1 && (n_105 == 9223372036854775808)))) = true →
  Q (0, 7)) ∧
  (((decide (n_105 > 9223372036854775807)) && (!(r104.2.1 && (n_105 == 9223372036854775808)))) = false →
  (r104.2.1 = true →
  VC24_J2 lo hi Q (IntKind.i64.wrap (0 - (IntKind.i64.wrap n_105)))) ∧
  (r104.2.1 = false →
  VC24_J2 lo hi Q (IntKind.i64.wrap n_105)))
/-- replevin/token.Number -/
def VC24 (s_ : List UInt8) (lo : Int) (hi : Int) (Q : Int × Int → Prop) : Prop :=
  (len1 s_) ∧
  ∀ r104, token_numeral s_ = r104 →
  ((!r104.2.2) = true →
  Q (0, 5)) ∧
  ((!r104.2.2) = false →
  ∃ (I1 : Int → Int → Prop) (μ1 : Int → Int → Nat), I1 0 0 ∧ ∀ (n_109 : Int) (i_110 : Int), I1 n_109 i_110 →
  ((decide (i_110 < ((r104.1.length : Nat) : Int))) = true →
  ((decide (n_109 > 1844674407370955160)) = true →
  Q (0, 7)) ∧
  ((decide (n_109 > 1844674407370955160)) = false →
  ((0 : Int) ≤ i_110 ∧ i_110 < (r104.1.length : Int)) ∧
  I1 (IntKind.u64.wrap ((IntKind.u64.wrap (10 * n_109)) + (IntKind.u64.wrap (IntKind.u8.wrap (((gi r104.1 i_110).toNat : Int) - 48))))) (IntKind.i64.wrap (i_110 + 1)) ∧ μ1 (IntKind.u64.wrap ((IntKind.u64.wrap (10 * n_109)) + (IntKind.u64.wrap (IntKind.u8.wrap (((gi r104.1 i_110).toNat : Int) - 48))))) (IntKind.i64.wrap (i_110 + 1)) < μ1 n_109 i_110)) ∧
  ((decide (i_110 < ((r104.1.length : Nat) : Int))) = false →
  VC24_J1 lo hi Q r104 n_109))


/-- replevin/token.Digits -/
def VC26 (n_ : Int) (Q : (List UInt8) → Prop) : Prop :=
  (preI n_) ∧
  ∀ r104, strconv_Itoa n_ = r104 →
  Q r104


def VC22_J1 (Q : ((List UInt8)) → Prop) (b_105 : List UInt8) : Prop :=
  Q b_105
def VC22_J2 (I1 : (List UInt8) → Int → Prop) (μ1 : (List UInt8) → Int → Nat) (b_111 : List UInt8) (x_114 : Int) (b_121 : List UInt8) : Prop :=
  (b_121.length + 1 ≤ 140737488355328 ∧ (0 : Int) ≤ 10 ∧ (10 : Int) < 256) ∧
  I1 (b_121 ++ [UInt8.ofNat (10 : Int).toNat]) (IntKind.i64.wrap (x_114 + 1)) ∧ μ1 (b_121 ++ [UInt8.ofNat (10 : Int).toNat]) (IntKind.i64.wrap (x_114 + 1)) < μ1 b_111 x_114
def VC22_J3 (lines : List (List Token_Token)) (x_114 : Int) (I2 : (List UInt8) → Int → Prop) (μ2 : (List UInt8) → Int → Nat) (b_128 : List UInt8) (x_132 : Int) (b_136 : List UInt8) : Prop :=
  (b_136.length + ((gi (gi lines x_114) x_132).Text).length ≤ 140737488355328) ∧
  I2 (b_136 ++ ((gi (gi lines x_114) x_132).Text)) (IntKind.i64.wrap (x_132 + 1)) ∧ μ2 (b_136 ++ ((gi (gi lines x_114) x_132).Text)) (IntKind.i64.wrap (x_132 + 1)) < μ2 b_128 x_132
/-- replevin/token.Join -/
def VC22 (lines : List (List Token_Token)) (Q : (List UInt8) → Prop) : Prop :=
  ∀ (_ : sm lines),
  ∃ (I1 : (List UInt8) → Int → Prop) (μ1 : (List UInt8) → Int → Nat), I1 ([] : List UInt8) 0 ∧ ∀ (b_111 : List UInt8) (x_114 : Int), I1 b_111 x_114 →
  ((decide (x_114 < ((lines.length : Nat) : Int))) = true →
  ((0 : Int) ≤ x_114 ∧ x_114 < (lines.length : Int)) ∧
  ∀ (_ : sm (gi lines x_114)),
  ∃ (I2 : (List UInt8) → Int → Prop) (μ2 : (List UInt8) → Int → Nat), I2 b_111 0 ∧ ∀ (b_128 : List UInt8) (x_132 : Int), I2 b_128 x_132 →
  ((decide (x_132 < (((gi lines x_114).length : Nat) : Int))) = true →
  ((0 : Int) ≤ x_132 ∧ x_132 < ((gi lines x_114).length : Int)) ∧
  ((decide (x_132 > 0)) = true →
  (b_128.length + 1 ≤ 140737488355328 ∧ (0 : Int) ≤ 32 ∧ (32 : Int) < 256) ∧
  VC22_J3 lines x_114 I2 μ2 b_128 x_132 (b_128 ++ [UInt8.ofNat (32 : Int).toNat])) ∧
  ((decide (x_132 > 0)) = false →
  VC22_J3 lines x_114 I2 μ2 b_128 x_132 b_128)) ∧
  ((decide (x_132 < (((gi lines x_114).length : Nat) : Int))) = false →
  VC22_J2 I1 μ1 b_111 x_114 b_128)) ∧
  ((decide (x_114 < ((lines.length : Nat) : Int))) = false →
  VC22_J1 Q b_111)


def VC25_J4 (s_ : List UInt8) (lo : Int) (hi : Int) (Q : (Int × Int) → Prop) (n_103 : Int) : Prop :=
  (preI n_103) ∧
  ∀ r107, ref05_Digits n_103 = r107 →
  ((((!(r107 == s_)) || (decide (n_103 < lo))) || (decide (n_103 > hi))) = true →
  Q (0, 7)) ∧
  ((((!(r107 == s_)) || (decide (n_103 < lo))) || (decide (n_103 > hi))) = false →
  Q (n_103, 0))
def VC25_J5 (I1 : Int → Int → Prop) (μ1 : Int → Int → Nat) (n_108 : Int) (i_109 : Int) (d_110 : Int) : Prop :=
  I1 (IntKind.i64.wrap ((IntKind.i64.wrap (10 * n_108)) + d_110)) (IntKind.i64.wrap (i_109 + 1)) ∧ μ1 (IntKind.i64.wrap ((IntKind.i64.wrap (10 * n_108)) + d_110)) (IntKind.i64.wrap (i_109 + 1)) < μ1 n_108 i_109
def VC25_J3 (s_ : List UInt8) (lo : Int) (hi : Int) (Q : (Int × Int) → Prop) (from_101 : Int) : Prop :=
  ((decide ((IntKind.i64.wrap (((s_.length : Nat) : Int) - from_101)) > 19)) = true →
  Q (0, 7)) ∧
  ((decide ((IntKind.i64.wrap (((s_.length : Nat) : Int) - from_101)) > 19)) = false →
  ∃ (I1 : Int → Int → Prop) (μ1 : Int → Int → Nat), I1 0 from_101 ∧ ∀ (n_108 : Int) (i_109 : Int), I1 n_108 i_109 →
  ((decide (i_109 < ((s_.length : Nat) : Int))) = true →
  ((0 : Int) ≤ i_109 ∧ i_109 < (s_.length : Int)) ∧
  ((from_101 == 1) = true →
  VC25_J5 I1 μ1 n_108 i_109 (IntKind.i64.wrap (0 - (IntKind.i64.wrap ((IntKind.i64.wrap ((gi s_ i_109).toNat : Int)) - 48))))) ∧
  ((from_101 == 1) = false →
  VC25_J5 I1 μ1 n_108 i_109 (IntKind.i64.wrap ((IntKind.i64.wrap ((gi s_ i_109).toNat : Int)) - 48)))) ∧
  ((decide (i_109 < ((s_.length : Nat) : Int))) = false →
  VC25_J4 s_ lo hi Q n_108))
def VC25_J6 (Q : (Int × Int) → Prop) (I2 : Int → Prop) (μ2 : Int → Nat) (i_117 : Int) (x_118 : Bool) : Prop :=
  (x_118 = true →
  Q (0, 5)) ∧
  (x_118 = false →
  I2 (IntKind.i64.wrap (i_117 + 1)) ∧ μ2 (IntKind.i64.wrap (i_117 + 1)) < μ2 i_117)
def VC25_J2 (s_ : List UInt8) (lo : Int) (hi : Int) (Q : (Int × Int) → Prop) (from_101 : Int) (x_102 : Bool) : Prop :=
  (x_102 = true →
  Q (0, 5)) ∧
  (x_102 = false →
  ∃ (I2 : Int → Prop) (μ2 : Int → Nat), I2 from_101 ∧ ∀ (i_117 : Int), I2 i_117 →
  ((decide (i_117 < ((s_.length : Nat) : Int))) = true →
  ((0 : Int) ≤ i_117 ∧ i_117 < (s_.length : Int)) ∧
  ((decide (((gi s_ i_117).toNat : Int) < 48)) = true →
  VC25_J6 Q I2 μ2 i_117 true) ∧
  ((decide (((gi s_ i_117).toNat : Int) < 48)) = false →
  ((0 : Int) ≤ i_117 ∧ i_117 < (s_.length : Int)) ∧
  VC25_J6 Q I2 μ2 i_117 (decide (((gi s_ i_117).toNat : Int) > 57)))) ∧
  ((decide (i_117 < ((s_.length : Nat) : Int))) = false →
  VC25_J3 s_ lo hi Q from_101))
def VC25_J1 (s_ : List UInt8) (lo : Int) (hi : Int) (Q : (Int × Int) → Prop) (from_101 : Int) : Prop :=
  ((from_101 == ((s_.length : Nat) : Int)) = true →
  VC25_J2 s_ lo hi Q from_101 true) ∧
  ((from_101 == ((s_.length : Nat) : Int)) = false →
  ((0 : Int) ≤ from_101 ∧ from_101 < (s_.length : Int)) ∧
  VC25_J2 s_ lo hi Q from_101 ((((gi s_ from_101).toNat : Int) == 48) && (decide (((s_.length : Nat) : Int) > 1))))
def VC25_J7 (s_ : List UInt8) (lo : Int) (hi : Int) (Q : (Int × Int) → Prop) (x_127 : Bool) : Prop :=
  (x_127 = true →
  VC25_J1 s_ lo hi Q 1) ∧
  (x_127 = false →
  VC25_J1 s_ lo hi Q 0)
/-- replevin/replevinref05.Number -/
def VC25 (s_ : List UInt8) (lo : Int) (hi : Int) (Q : Int × Int → Prop) : Prop :=
  ((decide (((s_.length : Nat) : Int) > 0)) = true →
  ((0 : Int) ≤ 0 ∧ 0 < (s_.length : Int)) ∧
  VC25_J7 s_ lo hi Q (((gi s_ 0).toNat : Int) == 45)) ∧
  ((decide (((s_.length : Nat) : Int) > 0)) = false →
  VC25_J7 s_ lo hi Q false)


def VC15_J1 (Q : Bool → Prop) (r104 : (List (List Token_Token))) (r111 : Int × Int) (r115 : Int × Int) (r119 : Int × Int) (r123 : Int × Int) (x_125 : Bool) : Prop :=
  (x_125 = true →
  Q false) ∧
  (x_125 = false →
  ((0 : Int) ≤ 0 ∧ 0 < (r104.length : Int)) ∧
  ∀ (_ : sm (gi r104 0)),
  ((0 : Int) ≤ 1 ∧ 1 < ((gi r104 0).length : Int)) ∧
  ((((gi (gi r104 0) 1).Line) == 1 && (((gi (gi r104 0) 1).At) == 2 && (((gi (gi r104 0) 1).Text) == ([49, 50] : List UInt8) && true))) = true →
  ((0 : Int) ≤ 2 ∧ 2 < (r104.length : Int)) ∧
  ∀ (_ : sm (gi r104 2)),
  ((0 : Int) ≤ 0 ∧ 0 < ((gi r104 2).length : Int)) ∧
  (((((((((gi (gi r104 2) 0).Line) == 3 && (((gi (gi r104 2) 0).At) == 11 && (((gi (gi r104 2) 0).Text) == ([120] : List UInt8) && true))) && (r111.1 == (-12))) && (r111.2 == 0)) && (r115.2 == 5)) && (r119.2 == 7)) && (r123.2 == 7)) = true →
  (preI (-7)) ∧
  ∀ r147, token_Digits (-7) = r147 →
  ((r147 == ([45, 55] : List UInt8)) = true →
  (len1 ([120] : List UInt8)) ∧
  ∀ r151, token_Word ([120] : List UInt8) = r151 →
  (r151 = true →
  (len1 ([120, 32, 121] : List UInt8)) ∧
  ∀ r155, token_Word ([120, 32, 121] : List UInt8) = r155 →
  ((!r155) = true →
  (preJ r104) ∧
  ∀ r159, token_Join r104 = r159 →
  Q (r159 == ([112, 32, 49, 50, 10, 10, 120, 10] : List UInt8))) ∧
  ((!r155) = false →
  Q false)) ∧
  (r151 = false →
  Q false)) ∧
  ((r147 == ([45, 55] : List UInt8)) = false →
  Q false)) ∧
  (((((((((gi (gi r104 2) 0).Line) == 3 && (((gi (gi r104 2) 0).At) == 11 && (((gi (gi r104 2) 0).Text) == ([120] : List UInt8) && true))) && (r111.1 == (-12))) && (r111.2 == 0)) && (r115.2 == 5)) && (r119.2 == 7)) && (r123.2 == 7)) = false →
  Q false)) ∧
  ((((gi (gi r104 0) 1).Line) == 1 && (((gi (gi r104 0) 1).At) == 2 && (((gi (gi r104 0) 1).Text) == ([49, 50] : List UInt8) && true))) = false →
  Q false))
/-- replevin/replevinlaw05.awake -/
def VC15 (Q : Bool → Prop) : Prop :=
  (len1 ([112, 32, 49, 50, 10, 99, 32, 110, 111, 10, 9, 120, 13] : List UInt8)) ∧
  ∀ r104, token_Lines ([112, 32, 49, 50, 10, 99, 32, 110, 111, 10, 9, 120, 13] : List UInt8) = r104 →
  ∀ (_ : sm r104),
  (preNum ([45, 49, 50] : List UInt8) (-20) 20) ∧
  ∀ r111, token_Number ([45, 49, 50] : List UInt8) (-20) 20 = r111 →
  (preNum ([48, 48, 55] : List UInt8) 0 9) ∧
  ∀ r115, token_Number ([48, 48, 55] : List UInt8) 0 9 = r115 →
  (preNum ([57, 57, 57, 57, 57, 57, 57, 57, 57, 57, 57, 57, 57, 57, 57, 57, 57, 57, 57, 57, 57, 57, 57] : List UInt8) 0 9) ∧
  ∀ r119, token_Number ([57, 57, 57, 57, 57, 57, 57, 57, 57, 57, 57, 57, 57, 57, 57, 57, 57, 57, 57, 57, 57, 57, 57] : List UInt8) 0 9 = r119 →
  (preNum ([50, 49] : List UInt8) (-20) 20) ∧
  ∀ r123, token_Number ([50, 49] : List UInt8) (-20) 20 = r123 →
  ((((r104.length : Nat) : Int) != 3) = true →
  VC15_J1 Q r104 r111 r115 r119 r123 true) ∧
  ((((r104.length : Nat) : Int) != 3) = false →
  ((0 : Int) ≤ 0 ∧ 0 < (r104.length : Int)) ∧
  ∀ (_ : sm (gi r104 0)),
  (((((gi r104 0).length : Nat) : Int) != 2) = true →
  VC15_J1 Q r104 r111 r115 r119 r123 true) ∧
  (((((gi r104 0).length : Nat) : Int) != 2) = false →
  ((0 : Int) ≤ 1 ∧ 1 < (r104.length : Int)) ∧
  ∀ (_ : sm (gi r104 1)),
  (((((gi r104 1).length : Nat) : Int) != 0) = true →
  VC15_J1 Q r104 r111 r115 r119 r123 true) ∧
  (((((gi r104 1).length : Nat) : Int) != 0) = false →
  ((0 : Int) ≤ 2 ∧ 2 < (r104.length : Int)) ∧
  ∀ (_ : sm (gi r104 2)),
  VC15_J1 Q r104 r111 r115 r119 r123 ((((gi r104 2).length : Nat) : Int) != 1))))


/-- replevin/replevinlaw05.TokenTells -/
def VC3 (s_ : List UInt8) (Q : Bool → Prop) : Prop :=
  ((decide (((s_.length : Nat) : Int) > 3000)) = true →
  ∀ r104, law05_awake = r104 →
  Q r104) ∧
  ((decide (((s_.length : Nat) : Int) > 3000)) = false →
  (len1 s_) ∧
  ∀ r108, token_Lines s_ = r108 →
  ∀ (_ : sm r108),
  (len1 s_) ∧
  ∀ r115, ref05_Lines s_ = r115 →
  ∀ (_ : sm r115),
  (preOf r108) ∧
  ∀ r122, law05_Of r108 = r122 →
  ∀ (_ : sm r122),
  ∀ r129, ref05_Same r122 r115 = r129 →
  (r129 = true →
  (len1 s_) ∧
  ∀ r133, token_Word s_ = r133 →
  (len1 s_) ∧
  ∀ r137, ref05_Word s_ = r137 →
  ((r133 == r137) = true →
  (preJ r108) ∧
  ∀ r141, token_Join r108 = r141 →
  (preRJ r115) ∧
  ∀ r145, ref05_Join r115 = r145 →
  ((r141 == r145) = true →
  ∀ r149, law05_awake = r149 →
  Q r149) ∧
  ((r141 == r145) = false →
  Q false)) ∧
  ((r133 == r137) = false →
  Q false)) ∧
  (r129 = false →
  Q false))


/-- replevin/replevinlaw05.TokenCounts -/
def VC4 (s_ : List UInt8) (lo : Int) (hi : Int) (Q : Bool → Prop) : Prop :=
  ((decide (((s_.length : Nat) : Int) > 1000)) = true →
  ∀ r104, law05_awake = r104 →
  Q r104) ∧
  ((decide (((s_.length : Nat) : Int) > 1000)) = false →
  (preNum s_ lo hi) ∧
  ∀ r108, token_Number s_ lo hi = r108 →
  (preNum s_ lo hi) ∧
  ∀ r112, ref05_Number s_ lo hi = r112 →
  (((r108.1 == r112.1) && (r108.2 == r112.2)) = true →
  (preI lo) ∧
  ∀ r116, token_Digits lo = r116 →
  (preI lo) ∧
  ∀ r120, ref05_Digits lo = r120 →
  ((r116 == r120) = true →
  (preI hi) ∧
  ∀ r124, token_Digits hi = r124 →
  (preI hi) ∧
  ∀ r128, ref05_Digits hi = r128 →
  ((r124 == r128) = true →
  ∀ r132, law05_awake = r132 →
  Q r132) ∧
  ((r124 == r128) = false →
  Q false)) ∧
  ((r116 == r120) = false →
  Q false)) ∧
  (((r108.1 == r112.1) && (r108.2 == r112.2)) = false →
  Q false))


def VC5_J1 (Q : Bool → Prop) : Prop :=
  ∀ r115, law05_awake = r115 →
  Q r115
def VC5_J2 (I1 : Int → Int → Int → Prop) (μ1 : Int → Int → Int → Nat) (end_117 : Int) (line_118 : Int) (i_119 : Int) (end_121 : Int) (line_122 : Int) : Prop :=
  I1 end_121 line_122 (IntKind.i64.wrap (i_119 + 1)) ∧ μ1 end_121 line_122 (IntKind.i64.wrap (i_119 + 1)) < μ1 end_117 line_118 i_119
def VC5_J5 (Q : Bool → Prop) (r108 : (List (List Token_Token))) (i_119 : Int) (I2 : Int → Int → Int → Prop) (μ2 : Int → Int → Int → Nat) (end_124 : Int) (line_125 : Int) (k_126 : Int) (line_145 : Int) (x_147 : Bool) : Prop :=
  (x_147 = true →
  Q false) ∧
  (x_147 = false →
  I2 (IntKind.i64.wrap (((gi (gi r108 i_119) k_126).At) + ((((gi (gi r108 i_119) k_126).Text).length : Nat) : Int))) line_145 (IntKind.i64.wrap (k_126 + 1)) ∧ μ2 (IntKind.i64.wrap (((gi (gi r108 i_119) k_126).At) + ((((gi (gi r108 i_119) k_126).Text).length : Nat) : Int))) line_145 (IntKind.i64.wrap (k_126 + 1)) < μ2 end_124 line_125 k_126)
def VC5_J4 (s_ : List UInt8) (Q : Bool → Prop) (r108 : (List (List Token_Token))) (i_119 : Int) (I2 : Int → Int → Int → Prop) (μ2 : Int → Int → Int → Nat) (end_124 : Int) (line_125 : Int) (k_126 : Int) (line_145 : Int) : Prop :=
  ((line_145 != ((gi (gi r108 i_119) k_126).Line)) = true →
  Q false) ∧
  ((line_145 != ((gi (gi r108 i_119) k_126).Line)) = false →
  ((decide ((IntKind.i64.wrap (((gi (gi r108 i_119) k_126).At) + ((((gi (gi r108 i_119) k_126).Text).length : Nat) : Int))) < ((s_.length : Nat) : Int))) = true →
  ((0 : Int) ≤ (IntKind.i64.wrap (((gi (gi r108 i_119) k_126).At) + ((((gi (gi r108 i_119) k_126).Text).length : Nat) : Int))) ∧ (IntKind.i64.wrap (((gi (gi r108 i_119) k_126).At) + ((((gi (gi r108 i_119) k_126).Text).length : Nat) : Int))) ≤ (IntKind.i64.wrap ((IntKind.i64.wrap (((gi (gi r108 i_119) k_126).At) + ((((gi (gi r108 i_119) k_126).Text).length : Nat) : Int))) + 1)) ∧ (IntKind.i64.wrap ((IntKind.i64.wrap (((gi (gi r108 i_119) k_126).At) + ((((gi (gi r108 i_119) k_126).Text).length : Nat) : Int))) + 1)) ≤ (s_.length : Int)) ∧
  (len1 ((s_.take (IntKind.i64.wrap ((IntKind.i64.wrap (((gi (gi r108 i_119) k_126).At) + ((((gi (gi r108 i_119) k_126).Text).length : Nat) : Int))) + 1)).toNat).drop (IntKind.i64.wrap (((gi (gi r108 i_119) k_126).At) + ((((gi (gi r108 i_119) k_126).Text).length : Nat) : Int))).toNat)) ∧
  ∀ r151, token_Word ((s_.take (IntKind.i64.wrap ((IntKind.i64.wrap (((gi (gi r108 i_119) k_126).At) + ((((gi (gi r108 i_119) k_126).Text).length : Nat) : Int))) + 1)).toNat).drop (IntKind.i64.wrap (((gi (gi r108 i_119) k_126).At) + ((((gi (gi r108 i_119) k_126).Text).length : Nat) : Int))).toNat) = r151 →
  VC5_J5 Q r108 i_119 I2 μ2 end_124 line_125 k_126 line_145 r151) ∧
  ((decide ((IntKind.i64.wrap (((gi (gi r108 i_119) k_126).At) + ((((gi (gi r108 i_119) k_126).Text).length : Nat) : Int))) < ((s_.length : Nat) : Int))) = false →
  VC5_J5 Q r108 i_119 I2 μ2 end_124 line_125 k_126 line_145 false))
def VC5_J6 (I3 : Int → Int → Prop) (μ3 : Int → Int → Nat) (line_155 : Int) (j_156 : Int) (line_158 : Int) : Prop :=
  I3 line_158 (IntKind.i64.wrap (j_156 + 1)) ∧ μ3 line_158 (IntKind.i64.wrap (j_156 + 1)) < μ3 line_155 j_156
def VC5_J3 (s_ : List UInt8) (Q : Bool → Prop) (r108 : (List (List Token_Token))) (i_119 : Int) (I2 : Int → Int → Int → Prop) (μ2 : Int → Int → Int → Nat) (end_124 : Int) (line_125 : Int) (k_126 : Int) (x_143 : Bool) : Prop :=
  (x_143 = true →
  Q false) ∧
  (x_143 = false →
  ∃ (I3 : Int → Int → Prop) (μ3 : Int → Int → Nat), I3 line_125 end_124 ∧ ∀ (line_155 : Int) (j_156 : Int), I3 line_155 j_156 →
  ((decide (j_156 < ((gi (gi r108 i_119) k_126).At))) = true →
  ((0 : Int) ≤ j_156 ∧ j_156 < (s_.length : Int)) ∧
  ((((gi s_ j_156).toNat : Int) == 10) = true →
  VC5_J6 I3 μ3 line_155 j_156 (IntKind.i64.wrap (line_155 + 1))) ∧
  ((((gi s_ j_156).toNat : Int) == 10) = false →
  VC5_J6 I3 μ3 line_155 j_156 line_155)) ∧
  ((decide (j_156 < ((gi (gi r108 i_119) k_126).At))) = false →
  VC5_J4 s_ Q r108 i_119 I2 μ2 end_124 line_125 k_126 line_155))
/-- replevin/replevinlaw05.TokenWhole -/
def VC5 (s_ : List UInt8) (Q : Bool → Prop) : Prop :=
  ((decide (((s_.length : Nat) : Int) > 3000)) = true →
  ∀ r104, law05_awake = r104 →
  Q r104) ∧
  ((decide (((s_.length : Nat) : Int) > 3000)) = false →
  (len1 s_) ∧
  ∀ r108, token_Lines s_ = r108 →
  ∀ (_ : sm r108),
  ∃ (I1 : Int → Int → Int → Prop) (μ1 : Int → Int → Int → Nat), I1 0 1 0 ∧ ∀ (end_117 : Int) (line_118 : Int) (i_119 : Int), I1 end_117 line_118 i_119 →
  ((decide (i_119 < ((r108.length : Nat) : Int))) = true →
  ∃ (I2 : Int → Int → Int → Prop) (μ2 : Int → Int → Int → Nat), I2 end_117 line_118 0 ∧ ∀ (end_124 : Int) (line_125 : Int) (k_126 : Int), I2 end_124 line_125 k_126 →
  ((0 : Int) ≤ i_119 ∧ i_119 < (r108.length : Int)) ∧
  ∀ (_ : sm (gi r108 i_119)),
  ((decide (k_126 < (((gi r108 i_119).length : Nat) : Int))) = true →
  ((0 : Int) ≤ i_119 ∧ i_119 < (r108.length : Int)) ∧
  ∀ (_ : sm (gi r108 i_119)),
  ((0 : Int) ≤ k_126 ∧ k_126 < ((gi r108 i_119).length : Int)) ∧
  ((decide (((gi (gi r108 i_119) k_126).At) < end_124)) = true →
  VC5_J3 s_ Q r108 i_119 I2 μ2 end_124 line_125 k_126 true) ∧
  ((decide (((gi (gi r108 i_119) k_126).At) < end_124)) = false →
  ((decide (((gi (gi r108 i_119) k_126).At) > (IntKind.i64.wrap (((s_.length : Nat) : Int) - ((((gi (gi r108 i_119) k_126).Text).length : Nat) : Int))))) = true →
  VC5_J3 s_ Q r108 i_119 I2 μ2 end_124 line_125 k_126 true) ∧
  ((decide (((gi (gi r108 i_119) k_126).At) > (IntKind.i64.wrap (((s_.length : Nat) : Int) - ((((gi (gi r108 i_119) k_126).Text).length : Nat) : Int))))) = false →
  ((0 : Int) ≤ ((gi (gi r108 i_119) k_126).At) ∧ ((gi (gi r108 i_119) k_126).At) ≤ (IntKind.i64.wrap (((gi (gi r108 i_119) k_126).At) + ((((gi (gi r108 i_119) k_126).Text).length : Nat) : Int))) ∧ (IntKind.i64.wrap (((gi (gi r108 i_119) k_126).At) + ((((gi (gi r108 i_119) k_126).Text).length : Nat) : Int))) ≤ (s_.length : Int)) ∧
  ((!(((s_.take (IntKind.i64.wrap (((gi (gi r108 i_119) k_126).At) + ((((gi (gi r108 i_119) k_126).Text).length : Nat) : Int))).toNat).drop ((gi (gi r108 i_119) k_126).At).toNat) == ((gi (gi r108 i_119) k_126).Text))) = true →
  VC5_J3 s_ Q r108 i_119 I2 μ2 end_124 line_125 k_126 true) ∧
  ((!(((s_.take (IntKind.i64.wrap (((gi (gi r108 i_119) k_126).At) + ((((gi (gi r108 i_119) k_126).Text).length : Nat) : Int))).toNat).drop ((gi (gi r108 i_119) k_126).At).toNat) == ((gi (gi r108 i_119) k_126).Text))) = false →
  (len1 ((gi (gi r108 i_119) k_126).Text)) ∧
  ∀ r170, token_Word ((gi (gi r108 i_119) k_126).Text) = r170 →
  ((!r170) = true →
  VC5_J3 s_ Q r108 i_119 I2 μ2 end_124 line_125 k_126 true) ∧
  ((!r170) = false →
  VC5_J3 s_ Q r108 i_119 I2 μ2 end_124 line_125 k_126 (((gi (gi r108 i_119) k_126).Line) != (IntKind.i64.wrap (i_119 + 1)))))))) ∧
  ((decide (k_126 < (((gi r108 i_119).length : Nat) : Int))) = false →
  VC5_J2 I1 μ1 end_117 line_118 i_119 end_124 line_125)) ∧
  ((decide (i_119 < ((r108.length : Nat) : Int))) = false →
  VC5_J1 Q))


/-- replevin/replevinlaw05.TokenNumbers -/
def VC6 (n_ : Int) (b_ : Int × Int) (s_ : List UInt8) (Q : Bool → Prop) : Prop :=
  ((decide (((s_.length : Nat) : Int) > 1000)) = true →
  ∀ r106, law05_awake = r106 →
  Q r106) ∧
  ((decide (((s_.length : Nat) : Int) > 1000)) = false →
  (preI n_) ∧
  ∀ r110, token_Digits n_ = r110 →
  (preNum r110 b_.1 b_.2) ∧
  ∀ r114, token_Number r110 b_.1 b_.2 = r114 →
  (((((decide (n_ ≥ b_.1)) && (decide (n_ ≤ b_.2))) && ((r114.1 != n_) || (r114.2 != 0))) || ((!((decide (n_ ≥ b_.1)) && (decide (n_ ≤ b_.2)))) && ((r114.1 != 0) || (r114.2 != 7)))) = true →
  Q false) ∧
  (((((decide (n_ ≥ b_.1)) && (decide (n_ ≤ b_.2))) && ((r114.1 != n_) || (r114.2 != 0))) || ((!((decide (n_ ≥ b_.1)) && (decide (n_ ≤ b_.2)))) && ((r114.1 != 0) || (r114.2 != 7)))) = false →
  (preNum s_ b_.1 b_.2) ∧
  ∀ r118, token_Number s_ b_.1 b_.2 = r118 →
  ((r118.2 != 0) = true →
  ∀ r122, law05_awake = r122 →
  Q r122) ∧
  ((r118.2 != 0) = false →
  (preI r118.1) ∧
  ∀ r126, token_Digits r118.1 = r126 →
  ((((r126 == s_) && (decide (r118.1 ≥ b_.1))) && (decide (r118.1 ≤ b_.2))) = true →
  ∀ r130, law05_awake = r130 →
  Q r130) ∧
  ((((r126 == s_) && (decide (r118.1 ≥ b_.1))) && (decide (r118.1 ≤ b_.2))) = false →
  Q false))))


end Go.Proofs.YtohbpcjnilefbaaDoor
