/- The conditions of the functions, in terms of their callees. Definitions. -/
import Derived.Test.YtlpcjbjlgeaapaaTSpec
set_option linter.all false
namespace Go.Proofs.Ytlpcjbjlgeaapaa
open Go Go.Sv
/-- replevin/numbering.Check -/
def VC21 (s_ : Numbering_Size) (Q : Int → Prop) : Prop :=
  (((((decide (s_.Ops < 0)) || (decide (s_.Ops > 64))) || (decide (s_.States < 1))) || (decide (s_.States > 32))) = true →
  Q 2) ∧
  (((((decide (s_.Ops < 0)) || (decide (s_.Ops > 64))) || (decide (s_.States < 1))) || (decide (s_.States > 32))) = false →
  Q 0)


/-- replevin/replevinref31.Check -/
def VC22 (ops : Int) (states : Int) (Q : Int → Prop) : Prop :=
  (((((decide (ops < 0)) || (decide (ops > 64))) || (decide (states < 1))) || (decide (states > 32))) = true →
  Q 2) ∧
  (((((decide (ops < 0)) || (decide (ops > 64))) || (decide (states < 1))) || (decide (states > 32))) = false →
  Q 0)


/-- (replevin/numbering.Size).block -/
def VC56 (s_ : Numbering_Size) (kind : Int) (Q : Int × Int × Int → Prop) : Prop :=
  ((kind == 1) = true →
  Q (0, s_.Ops, s_.Ops)) ∧
  ((kind == 1) = false →
  ((kind == 2) = true →
  Q (IntKind.i64.wrap (s_.Ops * s_.Ops), 1, s_.Ops)) ∧
  ((kind == 2) = false →
  Q (IntKind.i64.wrap ((IntKind.i64.wrap (s_.Ops * s_.Ops)) + s_.Ops), s_.States, IntKind.i64.wrap (s_.Ops + 1))))


/-- replevin/numbering.Vars -/
def VC23 (s_ : Numbering_Size) (Q : Int → Prop) : Prop :=
  ∀ r104, numbering_Check s_ = r104 →
  ((r104 != 0) = true →
  Q 0) ∧
  ((r104 != 0) = false →
  ∀ r108, numbering_Size_block s_ 3 = r108 →
  Q (IntKind.i64.wrap (r108.1 + (IntKind.i64.wrap (r108.2.1 * r108.2.2)))))


/-- replevin/numbering.Var -/
def VC24 (s_ : Numbering_Size) (n_ : Numbering_Name) (Q : Int → Prop) : Prop :=
  ∀ r104, numbering_Check s_ = r104 →
  ((((r104 != 0) || (decide (n_.Kind ≤ 0))) || (decide (n_.Kind > 3))) = true →
  Q 0) ∧
  ((((r104 != 0) || (decide (n_.Kind ≤ 0))) || (decide (n_.Kind > 3))) = false →
  ∀ r108, numbering_Size_block s_ n_.Kind = r108 →
  (((((decide (n_.A < 0)) || (decide (n_.A ≥ r108.2.2))) || (decide (n_.B < 0))) || (decide (n_.B ≥ r108.2.1))) = true →
  Q 0) ∧
  (((((decide (n_.A < 0)) || (decide (n_.A ≥ r108.2.2))) || (decide (n_.B < 0))) || (decide (n_.B ≥ r108.2.1))) = false →
  Q (IntKind.i64.wrap ((IntKind.i64.wrap ((IntKind.i64.wrap (r108.1 + (IntKind.i64.wrap (n_.A * r108.2.1)))) + n_.B)) + 1))))


def VC64_J1 (Q : Int → Prop) : Prop :=
  Q (-1)
/-- slices.Index[[]int,int] -/
def VC64 (s_ : List Int) (v_ : Int) (Q : Int → Prop) : Prop :=
  ∀ (_ : sm s_),
  ∃ (I1 : Int → Prop) (μ1 : Int → Nat), I1 0 ∧ ∀ (x_102 : Int), I1 x_102 →
  ((decide (x_102 < ((s_.length : Nat) : Int))) = true →
  ((0 : Int) ≤ x_102 ∧ x_102 < (s_.length : Int)) ∧
  ((v_ == (gi s_ x_102)) = true →
  Q x_102) ∧
  ((v_ == (gi s_ x_102)) = false →
  I1 (IntKind.i64.wrap (x_102 + 1)) ∧ μ1 (IntKind.i64.wrap (x_102 + 1)) < μ1 x_102)) ∧
  ((decide (x_102 < ((s_.length : Nat) : Int))) = false →
  VC64_J1 Q)


/-- slices.Contains[[]int,int] -/
def VC68 (s_ : List Int) (v_ : Int) (Q : Bool → Prop) : Prop :=
  ∀ (_ : sm s_),
  ∀ r104, slices_Index_int_int s_ v_ = r104 →
  Q (decide (r104 ≥ 0))


/-- replevin/times.proper -/
def VC67 (p_ : Int × Int) (n_ : Int) (Q : Bool → Prop) : Prop :=
  Q (((decide ((if p_.2 < p_.1 then p_.2 else p_.1) ≥ 0)) && (decide ((if p_.2 > p_.1 then p_.2 else p_.1) < n_))) && (p_.1 != p_.2))


/-- replevin/times.Sort$1$1 -/
def VC66 (p_ : Int × Int) (cap1 : Int) (cap2 : Int) (cap3 : List Int) (Q : Bool → Prop) : Prop :=
  ∀ (_ : sm cap3),
  ∀ r104, times_proper (p_.1, p_.2) cap1 = r104 →
  ((r104 && (p_.2 == cap2)) = true →
  ∀ r108, slices_Contains_int_int cap3 p_.1 = r108 →
  Q (!r108)) ∧
  ((r104 && (p_.2 == cap2)) = false →
  Q false)


def VC80_66_J1 (Q : Int → Prop) : Prop :=
  Q (-1)
/-- slices.IndexFunc[[][2]int,[2]int] -/
def VC80_66 (s_ : List (Int × Int)) (cap1 : Int) (cap2 : Int) (cap3 : List Int) (Q : Int → Prop) : Prop :=
  ∀ (_ : sm s_),
  ∀ (_ : sm cap3),
  ∃ (I1 : Int → Prop) (μ1 : Int → Nat), I1 0 ∧ ∀ (x_103 : Int), I1 x_103 →
  ((decide (x_103 < ((s_.length : Nat) : Int))) = true →
  ((0 : Int) ≤ x_103 ∧ x_103 < (s_.length : Int)) ∧
  ∀ r111, times_Sort_1_1 (gi s_ x_103) cap1 cap2 cap3 = r111 →
  (r111 = true →
  Q x_103) ∧
  (r111 = false →
  I1 (IntKind.i64.wrap (x_103 + 1)) ∧ μ1 (IntKind.i64.wrap (x_103 + 1)) < μ1 x_103)) ∧
  ((decide (x_103 < ((s_.length : Nat) : Int))) = false →
  VC80_66_J1 Q)


/-- slices.ContainsFunc[[][2]int,[2]int] -/
def VC69_66 (s_ : List (Int × Int)) (cap1 : Int) (cap2 : Int) (cap3 : List Int) (Q : Bool → Prop) : Prop :=
  ∀ (_ : sm s_),
  ∀ (_ : sm cap3),
  ∀ r104, slices_IndexFunc_2_int_2_int_times_Sort_1_1 s_ cap1 cap2 cap3 = r104 →
  Q (decide (r104 ≥ 0))


/-- replevin/times.Sort$1 -/
def VC65 (x_ : Int) (cap1 : Int) (cap2 : List Int) (cap3 : List (Int × Int)) (Q : Bool → Prop) : Prop :=
  ∀ (_ : sm cap2),
  ∀ (_ : sm cap3),
  ∀ r104, slices_Contains_int_int cap2 x_ = r104 →
  (r104 = true →
  Q true) ∧
  (r104 = false →
  ∀ r108, slices_ContainsFunc_2_int_2_int_times_Sort_1_1 cap3 cap1 x_ cap2 = r108 →
  Q r108)


def VC40_J1 (Q : ((List Int) × Bool) → Prop) (x_105 : List Int) : Prop :=
  Q (x_105, true)
def VC40_J2 (n_ : Int) (Q : ((List Int) × Bool) → Prop) (I1 : (List Int) → Prop) (μ1 : (List Int) → Nat) (x_112 : List Int) (x_116 : Int) (x_118 : List Int) : Prop :=
  ((x_116 == n_) = true →
  Q ([], false)) ∧
  ((x_116 == n_) = false →
  (x_118.length + [x_116].length ≤ 1099511627776) ∧
  I1 (x_118 ++ [x_116]) ∧ μ1 (x_118 ++ [x_116]) < μ1 x_112)
def VC40_J3 (n_ : Int) (Q : ((List Int) × Bool) → Prop) (I1 : (List Int) → Prop) (μ1 : (List Int) → Nat) (x_112 : List Int) (I2 : Int → (List Int) → Prop) (μ2 : Int → (List Int) → Nat) (x_133 : Int) (x_135 : List Int) (x_139 : Bool) (x_141 : List Int) : Prop :=
  (x_139 = true →
  I2 (IntKind.i64.wrap (x_133 + 1)) x_141 ∧ μ2 (IntKind.i64.wrap (x_133 + 1)) x_141 < μ2 x_133 x_135) ∧
  (x_139 = false →
  VC40_J2 n_ Q I1 μ1 x_112 x_133 x_141)
/-- replevin/times.Sort -/
def VC40 (n_ : Int) (pairs : List (Int × Int)) (Q : (List Int) × Bool → Prop) : Prop :=
  ∀ (_ : sm pairs),
  (((decide (n_ < 0)) || (decide (n_ > 64))) = true →
  Q ([], false)) ∧
  (((decide (n_ < 0)) || (decide (n_ > 64))) = false →
  ((0 : Int) ≤ 0 ∧ 0 ≤ n_ ∧ n_ ≤ 1099511627776) ∧
  ∃ (I1 : (List Int) → Prop) (μ1 : (List Int) → Nat), I1 (List.replicate (0 : Int).toNat (0 : Int)) ∧ ∀ (x_112 : List Int), I1 x_112 →
  ((decide (((x_112.length : Nat) : Int) < n_)) = true →
  ∃ (I2 : Int → (List Int) → Prop) (μ2 : Int → (List Int) → Nat), I2 0 x_112 ∧ ∀ (x_133 : Int) (x_135 : List Int), I2 x_133 x_135 →
  ((decide (x_133 < n_)) = true →
  ∀ r148, times_Sort_1 x_133 n_ x_135 pairs = r148 →
  VC40_J3 n_ Q I1 μ1 x_112 I2 μ2 x_133 x_135 r148 x_135) ∧
  ((decide (x_133 < n_)) = false →
  VC40_J3 n_ Q I1 μ1 x_112 I2 μ2 x_133 x_135 false x_135)) ∧
  ((decide (((x_112.length : Nat) : Int) < n_)) = false →
  VC40_J1 Q x_112))


def VC44_J1 (Q : Int → Prop) : Prop :=
  Q (-1)
/-- replevin/replevinref33.Place -/
def VC44 (l_ : List Int) (n_ : Int) (Q : Int → Prop) : Prop :=
  ∀ (_ : sm l_),
  ∃ (I1 : Int → Prop) (μ1 : Int → Nat), I1 0 ∧ ∀ (i_102 : Int), I1 i_102 →
  ((decide (i_102 < ((l_.length : Nat) : Int))) = true →
  ((0 : Int) ≤ i_102 ∧ i_102 < (l_.length : Int)) ∧
  (((gi l_ i_102) == n_) = true →
  Q i_102) ∧
  (((gi l_ i_102) == n_) = false →
  I1 (IntKind.i64.wrap (i_102 + 1)) ∧ μ1 (IntKind.i64.wrap (i_102 + 1)) < μ1 i_102)) ∧
  ((decide (i_102 < ((l_.length : Nat) : Int))) = false →
  VC44_J1 Q)


def VC41_J1 (Q : ((List Int) × Bool) → Prop) (o_101 : List Int) : Prop :=
  Q (o_101, true)
def VC41_J2 (Q : ((List Int) × Bool) → Prop) (I1 : (List Int) → Int → Prop) (μ1 : (List Int) → Int → Nat) (o_108 : List Int) (A_112 : Int) (o_114 : List Int) (r_118 : Int) : Prop :=
  ((decide (r_118 < 0)) = true →
  Q ([], false)) ∧
  ((decide (r_118 < 0)) = false →
  (o_114.length + [r_118].length ≤ 1099511627776) ∧
  I1 (o_114 ++ [r_118]) (IntKind.i64.wrap (A_112 + 1)) ∧ μ1 (o_114 ++ [r_118]) (IntKind.i64.wrap (A_112 + 1)) < μ1 o_108 A_112)
def VC41_J3 (I2 : (List Int) → Int → Int → Prop) (μ2 : (List Int) → Int → Int → Nat) (o_129 : List Int) (r_133 : Int) (r_134 : Int) (o_136 : List Int) (r_140 : Int) : Prop :=
  I2 o_136 r_140 (IntKind.i64.wrap (r_134 - 1)) ∧ μ2 o_136 r_140 (IntKind.i64.wrap (r_134 - 1)) < μ2 o_129 r_133 r_134
def VC41_J4 (I2 : (List Int) → Int → Int → Prop) (μ2 : (List Int) → Int → Int → Nat) (o_129 : List Int) (r_133 : Int) (r_134 : Int) (o_146 : List Int) (a_150 : Bool) : Prop :=
  (a_150 = true →
  VC41_J3 I2 μ2 o_129 r_133 r_134 o_146 r_134) ∧
  (a_150 = false →
  VC41_J3 I2 μ2 o_129 r_133 r_134 o_146 r_133)
def VC41_J5 (I3 : (List Int) → Bool → Int → Prop) (μ3 : (List Int) → Bool → Int → Nat) (o_152 : List Int) (a_156 : Bool) (y_157 : Int) (o_159 : List Int) (a_163 : Bool) : Prop :=
  I3 o_159 a_163 (IntKind.i64.wrap (y_157 + 1)) ∧ μ3 o_159 a_163 (IntKind.i64.wrap (y_157 + 1)) < μ3 o_152 a_156 y_157
def VC41_J6 (I3 : (List Int) → Bool → Int → Prop) (μ3 : (List Int) → Bool → Int → Nat) (o_152 : List Int) (a_156 : Bool) (y_157 : Int) (o_168 : List Int) (x_172 : Bool) : Prop :=
  (x_172 = true →
  VC41_J5 I3 μ3 o_152 a_156 y_157 o_168 false) ∧
  (x_172 = false →
  VC41_J5 I3 μ3 o_152 a_156 y_157 o_168 a_156)
/-- replevin/replevinref33.Sort -/
def VC41 (P : Int) (O : List (Int × Int)) (Q : (List Int) × Bool → Prop) : Prop :=
  ∀ (_ : sm O),
  (((decide (P < 0)) || (decide (P > 64))) = true →
  Q ([], false)) ∧
  (((decide (P < 0)) || (decide (P > 64))) = false →
  ∃ (I1 : (List Int) → Int → Prop) (μ1 : (List Int) → Int → Nat), I1 [] 0 ∧ ∀ (o_108 : List Int) (A_112 : Int), I1 o_108 A_112 →
  ((decide (A_112 < P)) = true →
  ∃ (I2 : (List Int) → Int → Int → Prop) (μ2 : (List Int) → Int → Int → Nat), I2 o_108 (-1) (IntKind.i64.wrap (P - 1)) ∧ ∀ (o_129 : List Int) (r_133 : Int) (r_134 : Int), I2 o_129 r_133 r_134 →
  ((decide (r_134 ≥ 0)) = true →
  ∀ r144, ref33_Place o_129 r_134 = r144 →
  ∃ (I3 : (List Int) → Bool → Int → Prop) (μ3 : (List Int) → Bool → Int → Nat), I3 o_129 (decide (r144 < 0)) 0 ∧ ∀ (o_152 : List Int) (a_156 : Bool) (y_157 : Int), I3 o_152 a_156 y_157 →
  ((decide (y_157 < ((O.length : Nat) : Int))) = true →
  ((0 : Int) ≤ y_157 ∧ y_157 < (O.length : Int)) ∧
  (((((((gi O y_157).2) == r_134) && (((gi O y_157).1) != r_134)) && (decide (((gi O y_157).1) ≥ 0))) && (decide (((gi O y_157).1) < P))) = true →
  ∀ r176, ref33_Place o_152 ((gi O y_157).1) = r176 →
  VC41_J6 I3 μ3 o_152 a_156 y_157 o_152 (decide (r176 < 0))) ∧
  (((((((gi O y_157).2) == r_134) && (((gi O y_157).1) != r_134)) && (decide (((gi O y_157).1) ≥ 0))) && (decide (((gi O y_157).1) < P))) = false →
  VC41_J6 I3 μ3 o_152 a_156 y_157 o_152 false)) ∧
  ((decide (y_157 < ((O.length : Nat) : Int))) = false →
  VC41_J4 I2 μ2 o_129 r_133 r_134 o_152 a_156)) ∧
  ((decide (r_134 ≥ 0)) = false →
  VC41_J2 Q I1 μ1 o_108 A_112 o_129 r_133)) ∧
  ((decide (A_112 < P)) = false →
  VC41_J1 Q o_108))


/-- replevin/times.Against$1 -/
def VC63 (x_ : Int) (cap1 : List Int) (Q : Int → Prop) : Prop :=
  ∀ (_ : sm cap1),
  ∀ r104, slices_Index_int_int cap1 x_ = r104 →
  Q r104


def VC38_J1 (pairs : List (Int × Int)) (Q : (Int × Bool) → Prop) : Prop :=
  Q (((pairs.length : Nat) : Int), true)
/-- replevin/times.Against -/
def VC38 (order : List Int) (pairs : List (Int × Int)) (Q : Int × Bool → Prop) : Prop :=
  ∀ (_ : sm order),
  ∀ (_ : sm pairs),
  ∃ (I1 : Int → Prop) (μ1 : Int → Nat), I1 0 ∧ ∀ (x_104 : Int), I1 x_104 →
  ((decide (x_104 < ((pairs.length : Nat) : Int))) = true →
  ((0 : Int) ≤ x_104 ∧ x_104 < (pairs.length : Int)) ∧
  ∀ r113, times_Against_1 ((gi pairs x_104).1) order = r113 →
  ∀ r118, times_Against_1 ((gi pairs x_104).2) order = r118 →
  ((((decide (r113 ≥ 0)) && (decide (r118 ≥ 0))) && (decide (r118 < r113))) = true →
  Q (x_104, false)) ∧
  ((((decide (r113 ≥ 0)) && (decide (r118 ≥ 0))) && (decide (r118 < r113))) = false →
  I1 (IntKind.i64.wrap (x_104 + 1)) ∧ μ1 (IntKind.i64.wrap (x_104 + 1)) < μ1 x_104)) ∧
  ((decide (x_104 < ((pairs.length : Nat) : Int))) = false →
  VC38_J1 pairs Q)


def VC39_J1 (pairs : List (Int × Int)) (Q : (Int × Bool) → Prop) : Prop :=
  Q (((pairs.length : Nat) : Int), true)
/-- replevin/replevinref33.Against -/
def VC39 (order : List Int) (pairs : List (Int × Int)) (Q : Int × Bool → Prop) : Prop :=
  ∀ (_ : sm order),
  ∀ (_ : sm pairs),
  ∃ (I1 : Int → Prop) (μ1 : Int → Nat), I1 0 ∧ ∀ (i_104 : Int), I1 i_104 →
  ((decide (i_104 < ((pairs.length : Nat) : Int))) = true →
  ((0 : Int) ≤ i_104 ∧ i_104 < (pairs.length : Int)) ∧
  ((0 : Int) ≤ i_104 ∧ i_104 < (pairs.length : Int)) ∧
  ∀ r119, ref33_Place order ((gi pairs i_104).1) = r119 →
  ∀ r123, ref33_Place order ((gi pairs i_104).2) = r123 →
  (((decide (r123 ≥ 0)) && (decide (r119 > r123))) = true →
  Q (i_104, false)) ∧
  (((decide (r123 ≥ 0)) && (decide (r119 > r123))) = false →
  I1 (IntKind.i64.wrap (i_104 + 1)) ∧ μ1 (IntKind.i64.wrap (i_104 + 1)) < μ1 i_104)) ∧
  ((decide (i_104 < ((pairs.length : Nat) : Int))) = false →
  VC39_J1 pairs Q)


/-- replevin/times.Clauses$1 -/
def VC70 (a_ : Int) (b_ : Int) (cap1 : Numbering_Size) (Q : Int → Prop) : Prop :=
  ∀ r104, numbering_Var cap1 (⟨1, a_, b_⟩ : Numbering_Name) = r104 →
  Q r104


def VC42_J1 (Q : ((List (List Int))) → Prop) (out_105 : List (List Int)) : Prop :=
  Q out_105
def VC42_J2 (I1 : (List (List Int)) → Int → Prop) (μ1 : (List (List Int)) → Int → Nat) (out_111 : List (List Int)) (x_116 : Int) (out_117 : List (List Int)) : Prop :=
  I1 out_117 (IntKind.i64.wrap (x_116 + 1)) ∧ μ1 out_117 (IntKind.i64.wrap (x_116 + 1)) < μ1 out_111 x_116
def VC42_J3 (I2 : (List (List Int)) → Int → Prop) (μ2 : (List (List Int)) → Int → Nat) (out_129 : List (List Int)) (x_134 : Int) (out_135 : List (List Int)) : Prop :=
  I2 out_135 (IntKind.i64.wrap (x_134 + 1)) ∧ μ2 out_135 (IntKind.i64.wrap (x_134 + 1)) < μ2 out_129 x_134
/-- replevin/times.Clauses -/
def VC42 (s_ : Numbering_Size) (pairs : List (Int × Int)) (Q : (List (List Int)) → Prop) : Prop :=
  ∀ (_ : sm pairs),
  ∀ r104, numbering_Check s_ = r104 →
  ((r104 != 0) = true →
  Q []) ∧
  ((r104 != 0) = false →
  ∃ (I1 : (List (List Int)) → Int → Prop) (μ1 : (List (List Int)) → Int → Nat), I1 [] 0 ∧ ∀ (out_111 : List (List Int)) (x_116 : Int), I1 out_111 x_116 →
  ((decide (x_116 < ((pairs.length : Nat) : Int))) = true →
  ((0 : Int) ≤ x_116 ∧ x_116 < (pairs.length : Int)) ∧
  ∀ r128, times_proper ((gi pairs x_116).1, (gi pairs x_116).2) s_.Ops = r128 →
  ((!r128) = true →
  VC42_J2 I1 μ1 out_111 x_116 out_111) ∧
  ((!r128) = false →
  ∃ (I2 : (List (List Int)) → Int → Prop) (μ2 : (List (List Int)) → Int → Nat), I2 out_111 0 ∧ ∀ (out_129 : List (List Int)) (x_134 : Int), I2 out_129 x_134 →
  ((decide (x_134 < s_.Ops)) = true →
  ∃ (I3 : (List (List Int)) → Int → Prop) (μ3 : (List (List Int)) → Int → Nat), I3 out_129 0 ∧ ∀ (out_140 : List (List Int)) (x_145 : Int), I3 out_140 x_145 →
  ((decide (x_145 < x_134)) = true →
  ∀ r150, times_Clauses_1 ((gi pairs x_116).1) x_134 s_ = r150 →
  ∀ r155, times_Clauses_1 ((gi pairs x_116).2) x_145 s_ = r155 →
  (out_140.length + [[IntKind.i64.wrap (0 - r150), IntKind.i64.wrap (0 - r155)]].length ≤ 1099511627776) ∧
  I3 (out_140 ++ [[IntKind.i64.wrap (0 - r150), IntKind.i64.wrap (0 - r155)]]) (IntKind.i64.wrap (x_145 + 1)) ∧ μ3 (out_140 ++ [[IntKind.i64.wrap (0 - r150), IntKind.i64.wrap (0 - r155)]]) (IntKind.i64.wrap (x_145 + 1)) < μ3 out_140 x_145) ∧
  ((decide (x_145 < x_134)) = false →
  VC42_J3 I2 μ2 out_129 x_134 out_140)) ∧
  ((decide (x_134 < s_.Ops)) = false →
  VC42_J2 I1 μ1 out_111 x_116 out_129))) ∧
  ((decide (x_116 < ((pairs.length : Nat) : Int))) = false →
  VC42_J1 Q out_111))


/-- replevin/replevinref31.At -/
def VC71 (ops : Int) (states : Int) (a_ : Int) (b_ : Int) (Q : Int → Prop) : Prop :=
  Q (IntKind.i64.wrap ((IntKind.i64.wrap ((IntKind.i64.wrap (a_ * ops)) + b_)) + 1))


def VC43_J1 (Q : ((List (List Int))) → Prop) (A_101 : List (List Int)) : Prop :=
  Q A_101
def VC43_J3 (I1 : (List (List Int)) → Int → Prop) (μ1 : (List (List Int)) → Int → Nat) (A_108 : List (List Int)) (r_112 : Int) (A_120 : List (List Int)) : Prop :=
  I1 A_120 (IntKind.i64.wrap (r_112 + 1)) ∧ μ1 A_120 (IntKind.i64.wrap (r_112 + 1)) < μ1 A_108 r_112
def VC43_J4 (I2 : (List (List Int)) → Int → Prop) (μ2 : (List (List Int)) → Int → Nat) (A_136 : List (List Int)) (y_140 : Int) (A_142 : List (List Int)) : Prop :=
  I2 A_142 (IntKind.i64.wrap (y_140 + 1)) ∧ μ2 A_142 (IntKind.i64.wrap (y_140 + 1)) < μ2 A_136 y_140
def VC43_J2 (P : Int) (O : Int) (S : List (Int × Int)) (Q : ((List (List Int))) → Prop) (I1 : (List (List Int)) → Int → Prop) (μ1 : (List (List Int)) → Int → Nat) (A_108 : List (List Int)) (r_112 : Int) (A_114 : List (List Int)) (x_118 : Bool) : Prop :=
  (x_118 = true →
  ((0 : Int) ≤ r_112 ∧ r_112 < (S.length : Int)) ∧
  ((0 : Int) ≤ r_112 ∧ r_112 < (S.length : Int)) ∧
  ((((((decide (((gi S r_112).1) < 0)) || (decide (((gi S r_112).2) < 0))) || (decide (((gi S r_112).1) ≥ P))) || (decide (((gi S r_112).2) ≥ P))) || (((gi S r_112).1) == ((gi S r_112).2))) = true →
  VC43_J3 I1 μ1 A_108 r_112 A_114) ∧
  ((((((decide (((gi S r_112).1) < 0)) || (decide (((gi S r_112).2) < 0))) || (decide (((gi S r_112).1) ≥ P))) || (decide (((gi S r_112).2) ≥ P))) || (((gi S r_112).1) == ((gi S r_112).2))) = false →
  ∃ (I2 : (List (List Int)) → Int → Prop) (μ2 : (List (List Int)) → Int → Nat), I2 A_114 0 ∧ ∀ (A_136 : List (List Int)) (y_140 : Int), I2 A_136 y_140 →
  ((decide (y_140 < P)) = true →
  ∃ (I3 : (List (List Int)) → Int → Prop) (μ3 : (List (List Int)) → Int → Nat), I3 A_136 0 ∧ ∀ (A_147 : List (List Int)) (x_151 : Int), I3 A_147 x_151 →
  ((decide (x_151 < y_140)) = true →
  ∀ r155, ref31_At P O ((gi S r_112).1) y_140 = r155 →
  ∀ r159, ref31_At P O ((gi S r_112).2) x_151 = r159 →
  (A_147.length + [[IntKind.i64.wrap (0 - r155), IntKind.i64.wrap (0 - r159)]].length ≤ 1099511627776) ∧
  I3 (A_147 ++ [[IntKind.i64.wrap (0 - r155), IntKind.i64.wrap (0 - r159)]]) (IntKind.i64.wrap (x_151 + 1)) ∧ μ3 (A_147 ++ [[IntKind.i64.wrap (0 - r155), IntKind.i64.wrap (0 - r159)]]) (IntKind.i64.wrap (x_151 + 1)) < μ3 A_147 x_151) ∧
  ((decide (x_151 < y_140)) = false →
  VC43_J4 I2 μ2 A_136 y_140 A_147)) ∧
  ((decide (y_140 < P)) = false →
  VC43_J3 I1 μ1 A_108 r_112 A_136))) ∧
  (x_118 = false →
  VC43_J1 Q A_114)
/-- replevin/replevinref33.Clauses -/
def VC43 (P : Int) (O : Int) (S : List (Int × Int)) (Q : (List (List Int)) → Prop) : Prop :=
  ∀ (_ : sm S),
  ∃ (I1 : (List (List Int)) → Int → Prop) (μ1 : (List (List Int)) → Int → Nat), I1 [] 0 ∧ ∀ (A_108 : List (List Int)) (r_112 : Int), I1 A_108 r_112 →
  ((decide (r_112 < ((S.length : Nat) : Int))) = true →
  ∀ r184, ref31_Check P O = r184 →
  VC43_J2 P O S Q I1 μ1 A_108 r_112 A_108 (r184 == 0)) ∧
  ((decide (r_112 < ((S.length : Nat) : Int))) = false →
  VC43_J2 P O S Q I1 μ1 A_108 r_112 A_108 false)


def VC34_J1 (Q : Bool → Prop) : Prop :=
  Q true
/-- replevin/replevinref01.SameInts -/
def VC34 (a_ : List Int) (b_ : List Int) (Q : Bool → Prop) : Prop :=
  ∀ (_ : sm a_),
  ∀ (_ : sm b_),
  ((((a_.length : Nat) : Int) != ((b_.length : Nat) : Int)) = true →
  Q false) ∧
  ((((a_.length : Nat) : Int) != ((b_.length : Nat) : Int)) = false →
  ∃ (I1 : Int → Prop) (μ1 : Int → Nat), I1 0 ∧ ∀ (i_103 : Int), I1 i_103 →
  ((decide (i_103 < ((a_.length : Nat) : Int))) = true →
  ((0 : Int) ≤ i_103 ∧ i_103 < (a_.length : Int)) ∧
  ((0 : Int) ≤ i_103 ∧ i_103 < (b_.length : Int)) ∧
  (((gi a_ i_103) != (gi b_ i_103)) = true →
  Q false) ∧
  (((gi a_ i_103) != (gi b_ i_103)) = false →
  I1 (IntKind.i64.wrap (i_103 + 1)) ∧ μ1 (IntKind.i64.wrap (i_103 + 1)) < μ1 i_103)) ∧
  ((decide (i_103 < ((a_.length : Nat) : Int))) = false →
  VC34_J1 Q))


/-- replevin/replevinref01.Split -/
def VC79 (l_ : Int) (Q : Int × Bool → Prop) : Prop :=
  (((decide (l_ > 0)) && (decide (l_ ≤ 100000))) = true →
  Q (l_, true)) ∧
  (((decide (l_ > 0)) && (decide (l_ ≤ 100000))) = false →
  (((decide (l_ < 0)) && (decide (l_ ≥ (-100000)))) = true →
  Q (IntKind.i64.wrap (0 - l_), false)) ∧
  (((decide (l_ < 0)) && (decide (l_ ≥ (-100000)))) = false →
  Q (0, false)))


def VC62_J1 (Q : Bool → Prop) : Prop :=
  Q false
def VC62_J2 (I1 : Int → Prop) (μ1 : Int → Nat) (i_103 : Int) : Prop :=
  I1 (IntKind.i64.wrap (i_103 + 1)) ∧ μ1 (IntKind.i64.wrap (i_103 + 1)) < μ1 i_103
def VC62_J3 (Q : Bool → Prop) (I1 : Int → Prop) (μ1 : Int → Nat) (i_103 : Int) (r112 : Int × Bool) (is_115 : Bool) : Prop :=
  ((is_115 == r112.2) = true →
  Q true) ∧
  ((is_115 == r112.2) = false →
  VC62_J2 I1 μ1 i_103)
/-- replevin/replevinref02.Holds -/
def VC62 (c_ : List Int) (m_ : List Bool) (Q : Bool → Prop) : Prop :=
  ∀ (_ : sm c_),
  ∀ (_ : sm m_),
  ∃ (I1 : Int → Prop) (μ1 : Int → Nat), I1 0 ∧ ∀ (i_103 : Int), I1 i_103 →
  ((decide (i_103 < ((c_.length : Nat) : Int))) = true →
  ((0 : Int) ≤ i_103 ∧ i_103 < (c_.length : Int)) ∧
  ∀ r112, ref01_Split (gi c_ i_103) = r112 →
  ((r112.1 == 0) = true →
  VC62_J2 I1 μ1 i_103) ∧
  ((r112.1 == 0) = false →
  ((decide (r112.1 ≤ ((m_.length : Nat) : Int))) = true →
  ((0 : Int) ≤ (IntKind.i64.wrap (r112.1 - 1)) ∧ (IntKind.i64.wrap (r112.1 - 1)) < (m_.length : Int)) ∧
  VC62_J3 Q I1 μ1 i_103 r112 (gi m_ (IntKind.i64.wrap (r112.1 - 1)))) ∧
  ((decide (r112.1 ≤ ((m_.length : Nat) : Int))) = false →
  VC62_J3 Q I1 μ1 i_103 r112 false))) ∧
  ((decide (i_103 < ((c_.length : Nat) : Int))) = false →
  VC62_J1 Q)


def VC36_J1 (Q : Int → Prop) : Prop :=
  Q (-1)
/-- replevin/replevinref04.First -/
def VC36 (f_ : Api_Formula) (m_ : List Bool) (Q : Int → Prop) : Prop :=
  ∀ (_ : sm f_.Clauses),
  ∀ (_ : sm m_),
  ∃ (I1 : Int → Prop) (μ1 : Int → Nat), I1 0 ∧ ∀ (i_102 : Int), I1 i_102 →
  ((decide (i_102 < ((f_.Clauses.length : Nat) : Int))) = true →
  ((0 : Int) ≤ i_102 ∧ i_102 < (f_.Clauses.length : Int)) ∧
  ∀ (_ : sm (gi f_.Clauses i_102)),
  ∀ r113, ref02_Holds (gi f_.Clauses i_102) m_ = r113 →
  ((!r113) = true →
  Q i_102) ∧
  ((!r113) = false →
  I1 (IntKind.i64.wrap (i_102 + 1)) ∧ μ1 (IntKind.i64.wrap (i_102 + 1)) < μ1 i_102)) ∧
  ((decide (i_102 < ((f_.Clauses.length : Nat) : Int))) = false →
  VC36_J1 Q)


def VC31_J1 (Q : Bool → Prop) : Prop :=
  Q true
/-- replevin/replevinref04.SameRows -/
def VC31 (a_ : List (List Int)) (b_ : List (List Int)) (Q : Bool → Prop) : Prop :=
  ∀ (_ : sm a_),
  ∀ (_ : sm b_),
  ((((a_.length : Nat) : Int) != ((b_.length : Nat) : Int)) = true →
  Q false) ∧
  ((((a_.length : Nat) : Int) != ((b_.length : Nat) : Int)) = false →
  ∃ (I1 : Int → Prop) (μ1 : Int → Nat), I1 0 ∧ ∀ (i_103 : Int), I1 i_103 →
  ((decide (i_103 < ((a_.length : Nat) : Int))) = true →
  ((0 : Int) ≤ i_103 ∧ i_103 < (a_.length : Int)) ∧
  ∀ (_ : sm (gi a_ i_103)),
  ((0 : Int) ≤ i_103 ∧ i_103 < (b_.length : Int)) ∧
  ∀ (_ : sm (gi b_ i_103)),
  ∀ r120, ref01_SameInts (gi a_ i_103) (gi b_ i_103) = r120 →
  ((!r120) = true →
  Q false) ∧
  ((!r120) = false →
  I1 (IntKind.i64.wrap (i_103 + 1)) ∧ μ1 (IntKind.i64.wrap (i_103 + 1)) < μ1 i_103)) ∧
  ((decide (i_103 < ((a_.length : Nat) : Int))) = false →
  VC31_J1 Q))


/-- replevin/replevinlaw33.awake -/
def VC37 (Q : Bool → Prop) : Prop :=
  (preCl (⟨2, 1⟩ : Numbering_Size) [(0, 1)]) ∧
  ∀ r108, times_Clauses (⟨2, 1⟩ : Numbering_Size) [(0, 1)] = r108 →
  ∀ (_ : sm r108),
  ∀ r123, times_Against [1, 0] [(0, 1)] = r123 →
  ∀ r135, times_Against [0, 1] [(0, 1)] = r135 →
  ∀ r143, times_Sort 3 [(2, 0)] = r143 →
  ∀ (_ : sm r143.1),
  ∀ r154, times_Sort 2 [(0, 1), (1, 0)] = r154 →
  ∀ (_ : sm r154.1),
  ∀ r169, ref04_SameRows r108 [[(-2), (-3)]] = r169 →
  ((((((r169 && (r123.1 == 0)) && (!r123.2)) && (r135.1 == 1)) && r135.2) && r143.2) = true →
  ∀ r177, ref01_SameInts r143.1 [1, 2, 0] = r177 →
  Q (r177 && (!r154.2))) ∧
  ((((((r169 && (r123.1 == 0)) && (!r123.2)) && (r135.1 == 1)) && r135.2) && r143.2) = false →
  Q false)


def VC45_J1 (Q : ((List Bool) × Bool) → Prop) (m_113 : List Bool) : Prop :=
  Q (m_113, true)
def VC45_J2 (s_ : Numbering_Size) (order : List Int) (Q : ((List Bool) × Bool) → Prop) (I1 : (List Bool) → Int → Prop) (μ1 : (List Bool) → Int → Nat) (m_120 : List Bool) (x_125 : Int) (m_130 : List Bool) (x_135 : Bool) : Prop :=
  (x_135 = true →
  Q ([], false)) ∧
  (x_135 = false →
  ∀ r139, numbering_Var s_ (⟨1, gi order x_125, x_125⟩ : Numbering_Name) = r139 →
  ((0 : Int) ≤ (IntKind.i64.wrap (r139 - 1)) ∧ (IntKind.i64.wrap (r139 - 1)) < (m_130.length : Int)) ∧
  I1 (m_130.set (IntKind.i64.wrap (r139 - 1)).toNat true) (IntKind.i64.wrap (x_125 + 1)) ∧ μ1 (m_130.set (IntKind.i64.wrap (r139 - 1)).toNat true) (IntKind.i64.wrap (x_125 + 1)) < μ1 m_120 x_125)
/-- replevin/places.Truths -/
def VC45 (s_ : Numbering_Size) (order : List Int) (Q : (List Bool) × Bool → Prop) : Prop :=
  ∀ (_ : sm order),
  ∀ r104, numbering_Check s_ = r104 →
  (((r104 != 0) || (((order.length : Nat) : Int) != s_.Ops)) = true →
  Q ([], false)) ∧
  (((r104 != 0) || (((order.length : Nat) : Int) != s_.Ops)) = false →
  ∀ r108, numbering_Vars s_ = r108 →
  ((0 : Int) ≤ r108 ∧ r108 ≤ r108 ∧ r108 ≤ 1099511627776) ∧
  ∃ (I1 : (List Bool) → Int → Prop) (μ1 : (List Bool) → Int → Nat), I1 (List.replicate r108.toNat (false : Bool)) 0 ∧ ∀ (m_120 : List Bool) (x_125 : Int), I1 m_120 x_125 →
  ((decide (x_125 < ((order.length : Nat) : Int))) = true →
  ((0 : Int) ≤ x_125 ∧ x_125 < (order.length : Int)) ∧
  (((decide ((gi order x_125) < 0)) || (decide ((gi order x_125) ≥ s_.Ops))) = true →
  VC45_J2 s_ order Q I1 μ1 m_120 x_125 m_120 true) ∧
  (((decide ((gi order x_125) < 0)) || (decide ((gi order x_125) ≥ s_.Ops))) = false →
  ((0 : Int) ≤ x_125 ∧ x_125 ≤ (order.length : Int)) ∧
  ∀ r151, slices_Contains_int_int (order.take x_125.toNat) (gi order x_125) = r151 →
  VC45_J2 s_ order Q I1 μ1 m_120 x_125 m_120 r151)) ∧
  ((decide (x_125 < ((order.length : Nat) : Int))) = false →
  VC45_J1 Q m_120))


/-- replevin/replevinlaw33.TimesTells -/
def VC9 (P : Numbering_Size) (O : List (Int × Int)) (S : List Int) (Q : Bool → Prop) : Prop :=
  ∀ (_ : sm O),
  ∀ (_ : sm S),
  (((((decide (P.Ops > 12)) && (decide (P.Ops ≤ 64))) || (decide (((O.length : Nat) : Int) > 60))) || (decide (((S.length : Nat) : Int) > 60))) = true →
  ∀ r104, law33_awake = r104 →
  Q r104) ∧
  (((((decide (P.Ops > 12)) && (decide (P.Ops ≤ 64))) || (decide (((O.length : Nat) : Int) > 60))) || (decide (((S.length : Nat) : Int) > 60))) = false →
  ∀ r108, times_Against S O = r108 →
  ∀ r112, ref33_Against S O = r112 →
  ∀ r116, times_Sort P.Ops O = r116 →
  ∀ (_ : sm r116.1),
  ∀ r123, ref33_Sort P.Ops O = r123 →
  ∀ (_ : sm r123.1),
  (preCl P O) ∧
  ∀ r131, times_Clauses P O = r131 →
  ∀ (_ : sm r131),
  (preClR P.Ops P.States O) ∧
  ∀ r138, ref33_Clauses P.Ops P.States O = r138 →
  ∀ (_ : sm r138),
  ∀ r145, ref04_SameRows r131 r138 = r145 →
  (r145 = true →
  ((r108.1 == r112.1) = true →
  ((r108.2 == r112.2) = true →
  ∀ r149, ref01_SameInts r116.1 r123.1 = r149 →
  (r149 = true →
  ((r116.2 == r123.2) = true →
  ∀ r153, law33_awake = r153 →
  Q r153) ∧
  ((r116.2 == r123.2) = false →
  Q false)) ∧
  (r149 = false →
  Q false)) ∧
  ((r108.2 == r112.2) = false →
  Q false)) ∧
  ((r108.1 == r112.1) = false →
  Q false)) ∧
  (r145 = false →
  Q false))


def VC10_J3 (Q : Bool → Prop) : Prop :=
  ∀ r135, law33_awake = r135 →
  Q r135
def VC10_J2 (P : Numbering_Size) (O : List (Int × Int)) (Q : Bool → Prop) (t_108 : Int) : Prop :=
  (preCl P O) ∧
  ∀ r113, times_Clauses P O = r113 →
  ∀ (_ : sm r113),
  ((((r113.length : Nat) : Int) != (IntKind.i64.wrap (((IntKind.i64.wrap ((IntKind.i64.wrap (t_108 * P.Ops)) * (IntKind.i64.wrap (P.Ops - 1))))).tdiv 2))) = true →
  Q false) ∧
  ((((r113.length : Nat) : Int) != (IntKind.i64.wrap (((IntKind.i64.wrap ((IntKind.i64.wrap (t_108 * P.Ops)) * (IntKind.i64.wrap (P.Ops - 1))))).tdiv 2))) = false →
  ∀ r120, times_Sort P.Ops O = r120 →
  ∀ (_ : sm r120.1),
  ((!r120.2) = true →
  ((decide (t_108 > 1)) = true →
  ∀ r127, law33_awake = r127 →
  Q r127) ∧
  ((decide (t_108 > 1)) = false →
  Q false)) ∧
  ((!r120.2) = false →
  ∀ r131, times_Against r120.1 O = r131 →
  (((!r131.2) || (((r120.1.length : Nat) : Int) != P.Ops)) = true →
  Q false) ∧
  (((!r131.2) || (((r120.1.length : Nat) : Int) != P.Ops)) = false →
  ∃ (I1 : Int → Prop) (μ1 : Int → Nat), I1 0 ∧ ∀ (x_137 : Int), I1 x_137 →
  ((decide (x_137 < P.Ops)) = true →
  ∀ r141, ref33_Place r120.1 x_137 = r141 →
  ((decide (r141 < 0)) = true →
  Q false) ∧
  ((decide (r141 < 0)) = false →
  I1 (IntKind.i64.wrap (x_137 + 1)) ∧ μ1 (IntKind.i64.wrap (x_137 + 1)) < μ1 x_137)) ∧
  ((decide (x_137 < P.Ops)) = false →
  VC10_J3 Q))))
def VC10_J4 (I2 : Int → Int → Prop) (μ2 : Int → Int → Nat) (t_147 : Int) (o_148 : Int) (t_150 : Int) : Prop :=
  I2 t_150 (IntKind.i64.wrap (o_148 + 1)) ∧ μ2 t_150 (IntKind.i64.wrap (o_148 + 1)) < μ2 t_147 o_148
def VC10_J1 (P : Numbering_Size) (O : List (Int × Int)) (Q : Bool → Prop) (x_102 : Bool) : Prop :=
  (x_102 = true →
  ∀ r106, law33_awake = r106 →
  Q r106) ∧
  (x_102 = false →
  ∃ (I2 : Int → Int → Prop) (μ2 : Int → Int → Nat), I2 0 0 ∧ ∀ (t_147 : Int) (o_148 : Int), I2 t_147 o_148 →
  ((decide (o_148 < ((O.length : Nat) : Int))) = true →
  ((0 : Int) ≤ o_148 ∧ o_148 < (O.length : Int)) ∧
  ((((((((gi O o_148).1) != ((gi O o_148).2)) && (decide (((gi O o_148).1) ≥ 0))) && (decide (((gi O o_148).2) ≥ 0))) && (decide (((gi O o_148).1) < P.Ops))) && (decide (((gi O o_148).2) < P.Ops))) = true →
  VC10_J4 I2 μ2 t_147 o_148 (IntKind.i64.wrap (t_147 + 1))) ∧
  ((((((((gi O o_148).1) != ((gi O o_148).2)) && (decide (((gi O o_148).1) ≥ 0))) && (decide (((gi O o_148).2) ≥ 0))) && (decide (((gi O o_148).1) < P.Ops))) && (decide (((gi O o_148).2) < P.Ops))) = false →
  VC10_J4 I2 μ2 t_147 o_148 t_147)) ∧
  ((decide (o_148 < ((O.length : Nat) : Int))) = false →
  VC10_J2 P O Q t_147))
/-- replevin/replevinlaw33.TimesCounts -/
def VC10 (P : Numbering_Size) (O : List (Int × Int)) (Q : Bool → Prop) : Prop :=
  ∀ (_ : sm O),
  ((decide (P.Ops > 10)) = true →
  VC10_J1 P O Q true) ∧
  ((decide (P.Ops > 10)) = false →
  ∀ r165, numbering_Check P = r165 →
  VC10_J1 P O Q ((r165 != 0) || (decide (((O.length : Nat) : Int) > 40))))


def VC11_J1 (s_ : Numbering_Size) (pairs : List (Int × Int)) (order : List Int) (Q : Bool → Prop) (x_103 : Bool) : Prop :=
  (x_103 = true →
  ∀ r107, law33_awake = r107 →
  Q r107) ∧
  (x_103 = false →
  ∀ r111, places_Truths s_ order = r111 →
  ∀ (_ : sm r111.1),
  ((!r111.2) = true →
  ∀ r118, law33_awake = r118 →
  Q r118) ∧
  ((!r111.2) = false →
  ∀ r122, times_Against order pairs = r122 →
  (preCl s_ pairs) ∧
  ∀ r126, times_Clauses s_ pairs = r126 →
  ∀ (_ : sm r126),
  ∀ r133, ref04_First (⟨0, r126⟩ : Api_Formula) r111.1 = r133 →
  ((r122.2 == (decide (r133 < 0))) = true →
  ∀ r137, law33_awake = r137 →
  Q r137) ∧
  ((r122.2 == (decide (r133 < 0))) = false →
  Q false)))
/-- replevin/replevinlaw33.TimesOrders -/
def VC11 (s_ : Numbering_Size) (pairs : List (Int × Int)) (order : List Int) (Q : Bool → Prop) : Prop :=
  ∀ (_ : sm pairs),
  ∀ (_ : sm order),
  ((decide (s_.Ops > 10)) = true →
  VC11_J1 s_ pairs order Q true) ∧
  ((decide (s_.Ops > 10)) = false →
  ∀ r141, numbering_Check s_ = r141 →
  VC11_J1 s_ pairs order Q (((r141 != 0) || (decide (((pairs.length : Nat) : Int) > 40))) || (decide (((order.length : Nat) : Int) > 60))))


end Go.Proofs.Ytlpcjbjlgeaapaa
