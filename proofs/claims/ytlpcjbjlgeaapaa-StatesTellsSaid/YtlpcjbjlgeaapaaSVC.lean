/- The conditions of the functions, in terms of their callees. Definitions. -/
import Derived.Test.YtlpcjbjlgeaapaaSSpec
set_option linter.all false
namespace Go.Proofs.Ytlpcjbjlgeaapaa
open Go Go.Sv
/-- replevin/numbering.Check -/
def VC21 (s_ : Numbering_Size) (Q : Int → Prop) : Prop :=
  (((((decide (s_.Ops < 0)) || (decide (s_.Ops > 64))) || (decide (s_.States < 1))) || (decide (s_.States > 32))) = true →
  Q 2) ∧
  (((((decide (s_.Ops < 0)) || (decide (s_.Ops > 64))) || (decide (s_.States < 1))) || (decide (s_.States > 32))) = false →
  Q 0)


/-- replevin/replevinref31.Check -/
def VC22 (ops : Int) (states : Int) (Q : Int → Prop) : Prop :=
  (((((decide (ops < 0)) || (decide (ops > 64))) || (decide (states < 1))) || (decide (states > 32))) = true →
  Q 2) ∧
  (((((decide (ops < 0)) || (decide (ops > 64))) || (decide (states < 1))) || (decide (states > 32))) = false →
  Q 0)


/-- (replevin/numbering.Size).block -/
def VC56 (s_ : Numbering_Size) (kind : Int) (Q : Int × Int × Int → Prop) : Prop :=
  ((kind == 1) = true →
  Q (0, s_.Ops, s_.Ops)) ∧
  ((kind == 1) = false →
  ((kind == 2) = true →
  Q (IntKind.i64.wrap (s_.Ops * s_.Ops), 1, s_.Ops)) ∧
  ((kind == 2) = false →
  Q (IntKind.i64.wrap ((IntKind.i64.wrap (s_.Ops * s_.Ops)) + s_.Ops), s_.States, IntKind.i64.wrap (s_.Ops + 1))))


/-- replevin/numbering.Vars -/
def VC23 (s_ : Numbering_Size) (Q : Int → Prop) : Prop :=
  ∀ r104, numbering_Check s_ = r104 →
  ((r104 != 0) = true →
  Q 0) ∧
  ((r104 != 0) = false →
  ∀ r108, numbering_Size_block s_ 3 = r108 →
  Q (IntKind.i64.wrap (r108.1 + (IntKind.i64.wrap (r108.2.1 * r108.2.2)))))


/-- replevin/numbering.Var -/
def VC24 (s_ : Numbering_Size) (n_ : Numbering_Name) (Q : Int → Prop) : Prop :=
  ∀ r104, numbering_Check s_ = r104 →
  ((((r104 != 0) || (decide (n_.Kind ≤ 0))) || (decide (n_.Kind > 3))) = true →
  Q 0) ∧
  ((((r104 != 0) || (decide (n_.Kind ≤ 0))) || (decide (n_.Kind > 3))) = false →
  ∀ r108, numbering_Size_block s_ n_.Kind = r108 →
  (((((decide (n_.A < 0)) || (decide (n_.A ≥ r108.2.2))) || (decide (n_.B < 0))) || (decide (n_.B ≥ r108.2.1))) = true →
  Q 0) ∧
  (((((decide (n_.A < 0)) || (decide (n_.A ≥ r108.2.2))) || (decide (n_.B < 0))) || (decide (n_.B ≥ r108.2.1))) = false →
  Q (IntKind.i64.wrap ((IntKind.i64.wrap ((IntKind.i64.wrap (r108.1 + (IntKind.i64.wrap (n_.A * r108.2.1)))) + n_.B)) + 1))))


/-- replevin/states.at -/
def VC59 (s_ : Numbering_Size) (a_ : Int) (b_ : Int) (Q : Int → Prop) : Prop :=
  ∀ r104, numbering_Var s_ (⟨3, a_, b_⟩ : Numbering_Name) = r104 →
  Q r104


def VC58_J1 (cap3 : Bool) (Q : (Int × Bool) → Prop) (state_101 : Int) (many_102 : Int) : Prop :=
  Q (state_101, (cap3 && (many_102 == 1)))
def VC58_J2 (I1 : Int → Int → Int → Prop) (μ1 : Int → Int → Int → Nat) (state_106 : Int) (many_107 : Int) (x_108 : Int) (state_110 : Int) (many_111 : Int) : Prop :=
  I1 state_110 many_111 (IntKind.i64.wrap (x_108 + 1)) ∧ μ1 state_110 many_111 (IntKind.i64.wrap (x_108 + 1)) < μ1 state_106 many_107 x_108
/-- replevin/states.Row$1 -/
def VC58 (a_ : Int) (cap1 : Numbering_Size) (cap2 : List Bool) (cap3 : Bool) (Q : Int × Bool → Prop) : Prop :=
  ∀ (_ : sm cap2),
  ∃ (I1 : Int → Int → Int → Prop) (μ1 : Int → Int → Int → Nat), I1 0 0 0 ∧ ∀ (state_106 : Int) (many_107 : Int) (x_108 : Int), I1 state_106 many_107 x_108 →
  ((decide (x_108 < cap1.States)) = true →
  ∀ r117, states_at cap1 a_ x_108 = r117 →
  ((0 : Int) ≤ (IntKind.i64.wrap (r117 - 1)) ∧ (IntKind.i64.wrap (r117 - 1)) < (cap2.length : Int)) ∧
  ((gi cap2 (IntKind.i64.wrap (r117 - 1))) = true →
  VC58_J2 I1 μ1 state_106 many_107 x_108 x_108 (IntKind.i64.wrap (many_107 + 1))) ∧
  ((gi cap2 (IntKind.i64.wrap (r117 - 1))) = false →
  VC58_J2 I1 μ1 state_106 many_107 x_108 state_106 many_107)) ∧
  ((decide (x_108 < cap1.States)) = false →
  VC58_J1 cap3 Q state_106 many_107)


def VC57_58_J1 (Q : ((List Int) × Bool) → Prop) (out_105 : List Int) (x_110 : Bool) : Prop :=
  Q (out_105, x_110)
/-- replevin/states.each[int] -/
def VC57_58 (n_ : Int) (cap1 : Numbering_Size) (cap2 : List Bool) (cap3 : Bool) (Q : (List Int) × Bool → Prop) : Prop :=
  ∀ (_ : sm cap2),
  ((0 : Int) ≤ n_ ∧ n_ ≤ n_ ∧ n_ ≤ 1099511627776) ∧
  ∃ (I1 : (List Int) → Int → Bool → Prop) (μ1 : (List Int) → Int → Bool → Nat), I1 (List.replicate n_.toNat (0 : Int)) 0 cap3 ∧ ∀ (out_113 : List Int) (x_117 : Int) (x_119 : Bool), I1 out_113 x_117 x_119 →
  ((decide (x_117 < (((List.replicate n_.toNat (0 : Int)).length : Nat) : Int))) = true →
  (preRow1 x_117 cap1 cap2 x_119) ∧
  ∀ r123, states_Row_1 x_117 cap1 cap2 x_119 = r123 →
  ((0 : Int) ≤ x_117 ∧ x_117 < (out_113.length : Int)) ∧
  I1 (out_113.set x_117.toNat r123.1) (IntKind.i64.wrap (x_117 + 1)) r123.2 ∧ μ1 (out_113.set x_117.toNat r123.1) (IntKind.i64.wrap (x_117 + 1)) r123.2 < μ1 out_113 x_117 x_119) ∧
  ((decide (x_117 < (((List.replicate n_.toNat (0 : Int)).length : Nat) : Int))) = false →
  VC57_58_J1 Q out_113 x_119)


def VC27_J1 (s_ : Numbering_Size) (m_ : List Bool) (Q : ((List Int) × Bool) → Prop) (x_101 : Bool) : Prop :=
  (x_101 = true →
  Q ([], false)) ∧
  (x_101 = false →
  (preEach (IntKind.i64.wrap (s_.Ops + 1)) s_ m_ true) ∧
  ∀ r106, states_each_int_states_Row_1 (IntKind.i64.wrap (s_.Ops + 1)) s_ m_ true = r106 →
  ∀ (_ : sm r106.1),
  ((!r106.2) = true →
  Q ([], false)) ∧
  ((!r106.2) = false →
  Q (r106.1, true)))
/-- replevin/states.Row -/
def VC27 (s_ : Numbering_Size) (m_ : List Bool) (Q : (List Int) × Bool → Prop) : Prop :=
  ∀ (_ : sm m_),
  ∀ r119, numbering_Check s_ = r119 →
  ((r119 != 0) = true →
  VC27_J1 s_ m_ Q true) ∧
  ((r119 != 0) = false →
  ∀ r123, numbering_Vars s_ = r123 →
  VC27_J1 s_ m_ Q (((m_.length : Nat) : Int) != r123))


/-- replevin/states.Clauses$1 -/
def VC61 (b_ : Int) (cap1 : Numbering_Size) (cap2 : Int) (Q : Int → Prop) : Prop :=
  ∀ r104, states_at cap1 cap2 b_ = r104 →
  Q r104


def VC57_61_J1 (Q : ((List Int)) → Prop) (out_105 : List Int) : Prop :=
  Q out_105
/-- replevin/states.each[int] -/
def VC57_61 (n_ : Int) (cap1 : Numbering_Size) (cap2 : Int) (Q : (List Int) → Prop) : Prop :=
  ((0 : Int) ≤ n_ ∧ n_ ≤ n_ ∧ n_ ≤ 1099511627776) ∧
  ∃ (I1 : (List Int) → Int → Prop) (μ1 : (List Int) → Int → Nat), I1 (List.replicate n_.toNat (0 : Int)) 0 ∧ ∀ (out_111 : List Int) (x_115 : Int), I1 out_111 x_115 →
  ((decide (x_115 < (((List.replicate n_.toNat (0 : Int)).length : Nat) : Int))) = true →
  ∀ r119, states_Clauses_1 x_115 cap1 cap2 = r119 →
  ((0 : Int) ≤ x_115 ∧ x_115 < (out_111.length : Int)) ∧
  I1 (out_111.set x_115.toNat r119) (IntKind.i64.wrap (x_115 + 1)) ∧ μ1 (out_111.set x_115.toNat r119) (IntKind.i64.wrap (x_115 + 1)) < μ1 out_111 x_115) ∧
  ((decide (x_115 < (((List.replicate n_.toNat (0 : Int)).length : Nat) : Int))) = false →
  VC57_61_J1 Q out_111)


def VC49_J1 (Q : ((List (List Int))) → Prop) (out_101 : List (List Int)) : Prop :=
  Q out_101
def VC49_J2 (I1 : (List (List Int)) → Int → Prop) (μ1 : (List (List Int)) → Int → Nat) (out_108 : List (List Int)) (x_113 : Int) (out_115 : List (List Int)) : Prop :=
  I1 out_115 (IntKind.i64.wrap (x_113 + 1)) ∧ μ1 out_115 (IntKind.i64.wrap (x_113 + 1)) < μ1 out_108 x_113
/-- replevin/places.Most -/
def VC49 (vars : List Int) (Q : (List (List Int)) → Prop) : Prop :=
  ∀ (_ : sm vars),
  ∃ (I1 : (List (List Int)) → Int → Prop) (μ1 : (List (List Int)) → Int → Nat), I1 [] 0 ∧ ∀ (out_108 : List (List Int)) (x_113 : Int), I1 out_108 x_113 →
  ((decide (x_113 < ((vars.length : Nat) : Int))) = true →
  ((0 : Int) ≤ x_113 ∧ x_113 < (vars.length : Int)) ∧
  ((0 : Int) ≤ (IntKind.i64.wrap (x_113 + 1)) ∧ (IntKind.i64.wrap (x_113 + 1)) ≤ (vars.length : Int)) ∧
  ∃ (I2 : (List (List Int)) → Int → Prop) (μ2 : (List (List Int)) → Int → Nat), I2 out_108 0 ∧ ∀ (out_127 : List (List Int)) (x_133 : Int), I2 out_127 x_133 →
  ((decide (x_133 < (((vars.drop (IntKind.i64.wrap (x_113 + 1)).toNat).length : Nat) : Int))) = true →
  ((0 : Int) ≤ x_133 ∧ x_133 < ((vars.drop (IntKind.i64.wrap (x_113 + 1)).toNat).length : Int)) ∧
  (out_127.length + [[IntKind.i64.wrap (0 - (gi vars x_113)), IntKind.i64.wrap (0 - (gi (vars.drop (IntKind.i64.wrap (x_113 + 1)).toNat) x_133))]].length ≤ 1099511627776) ∧
  I2 (out_127 ++ [[IntKind.i64.wrap (0 - (gi vars x_113)), IntKind.i64.wrap (0 - (gi (vars.drop (IntKind.i64.wrap (x_113 + 1)).toNat) x_133))]]) (IntKind.i64.wrap (x_133 + 1)) ∧ μ2 (out_127 ++ [[IntKind.i64.wrap (0 - (gi vars x_113)), IntKind.i64.wrap (0 - (gi (vars.drop (IntKind.i64.wrap (x_113 + 1)).toNat) x_133))]]) (IntKind.i64.wrap (x_133 + 1)) < μ2 out_127 x_133) ∧
  ((decide (x_133 < (((vars.drop (IntKind.i64.wrap (x_113 + 1)).toNat).length : Nat) : Int))) = false →
  VC49_J2 I1 μ1 out_108 x_113 out_127)) ∧
  ((decide (x_113 < ((vars.length : Nat) : Int))) = false →
  VC49_J1 Q out_108)


def VC32_J1 (Q : ((List (List Int))) → Prop) (out_117 : List (List Int)) : Prop :=
  Q out_117
/-- replevin/states.Clauses -/
def VC32 (s_ : Numbering_Size) (init : Int) (Q : (List (List Int)) → Prop) : Prop :=
  ∀ r104, numbering_Check s_ = r104 →
  ((((r104 != 0) || (decide (init < 0))) || (decide (init ≥ s_.States))) = true →
  Q []) ∧
  ((((r104 != 0) || (decide (init < 0))) || (decide (init ≥ s_.States))) = false →
  ∀ r108, states_at s_ 0 init = r108 →
  ∃ (I1 : (List (List Int)) → Int → Prop) (μ1 : (List (List Int)) → Int → Nat), I1 [[r108]] 0 ∧ ∀ (out_123 : List (List Int)) (x_127 : Int), I1 out_123 x_127 →
  ((decide (x_127 < (IntKind.i64.wrap (s_.Ops + 1)))) = true →
  (preEachC s_.States s_ x_127) ∧
  ∀ r131, states_each_int_states_Clauses_1 s_.States s_ x_127 = r131 →
  ∀ (_ : sm r131),
  (out_123.length + [r131].length ≤ 1099511627776) ∧
  (preMost r131) ∧
  ∀ r149, places_Most r131 = r149 →
  ∀ (_ : sm r149),
  ((out_123 ++ [r131]).length + r149.length ≤ 1099511627776) ∧
  I1 ((out_123 ++ [r131]) ++ r149) (IntKind.i64.wrap (x_127 + 1)) ∧ μ1 ((out_123 ++ [r131]) ++ r149) (IntKind.i64.wrap (x_127 + 1)) < μ1 out_123 x_127) ∧
  ((decide (x_127 < (IntKind.i64.wrap (s_.Ops + 1)))) = false →
  VC32_J1 Q out_123))


/-- replevin/replevinref31.State -/
def VC60 (ops : Int) (states : Int) (a_ : Int) (b_ : Int) (Q : Int → Prop) : Prop :=
  Q (IntKind.i64.wrap ((IntKind.i64.wrap ((IntKind.i64.wrap ((IntKind.i64.wrap ((IntKind.i64.wrap (ops * ops)) + ops)) + (IntKind.i64.wrap (a_ * states)))) + b_)) + 1))


def VC28_J1 (Q : ((List Int) × Bool) → Prop) (out_105 : List Int) : Prop :=
  Q (out_105, true)
def VC28_J2 (Q : ((List Int) × Bool) → Prop) (I1 : (List Int) → Int → Prop) (μ1 : (List Int) → Int → Nat) (out_112 : List Int) (a_116 : Int) (out_118 : List Int) : Prop :=
  ((((out_118.length : Nat) : Int) != (IntKind.i64.wrap (((out_112.length : Nat) : Int) + 1))) = true →
  Q ([], false)) ∧
  ((((out_118.length : Nat) : Int) != (IntKind.i64.wrap (((out_112.length : Nat) : Int) + 1))) = false →
  I1 out_118 (IntKind.i64.wrap (a_116 + 1)) ∧ μ1 out_118 (IntKind.i64.wrap (a_116 + 1)) < μ1 out_112 a_116)
def VC28_J3 (I2 : (List Int) → Int → Prop) (μ2 : (List Int) → Int → Nat) (out_123 : List Int) (b_127 : Int) (out_129 : List Int) : Prop :=
  I2 out_129 (IntKind.i64.wrap (b_127 + 1)) ∧ μ2 out_129 (IntKind.i64.wrap (b_127 + 1)) < μ2 out_123 b_127
/-- replevin/replevinref34.Row -/
def VC28 (ops : Int) (states : Int) (m_ : List Bool) (Q : (List Int) × Bool → Prop) : Prop :=
  ∀ (_ : sm m_),
  ∀ r104, ref31_Check ops states = r104 →
  (((r104 != 0) || (((m_.length : Nat) : Int) != (IntKind.i64.wrap ((IntKind.i64.wrap ((IntKind.i64.wrap (ops * ops)) + ops)) + (IntKind.i64.wrap ((IntKind.i64.wrap (ops + 1)) * states)))))) = true →
  Q ([], false)) ∧
  (((r104 != 0) || (((m_.length : Nat) : Int) != (IntKind.i64.wrap ((IntKind.i64.wrap ((IntKind.i64.wrap (ops * ops)) + ops)) + (IntKind.i64.wrap ((IntKind.i64.wrap (ops + 1)) * states)))))) = false →
  ∃ (I1 : (List Int) → Int → Prop) (μ1 : (List Int) → Int → Nat), I1 [] 0 ∧ ∀ (out_112 : List Int) (a_116 : Int), I1 out_112 a_116 →
  ((decide (a_116 ≤ ops)) = true →
  ∃ (I2 : (List Int) → Int → Prop) (μ2 : (List Int) → Int → Nat), I2 out_112 0 ∧ ∀ (out_123 : List Int) (b_127 : Int), I2 out_123 b_127 →
  ((decide (b_127 < states)) = true →
  ∀ r136, ref31_State ops states a_116 b_127 = r136 →
  ((0 : Int) ≤ (IntKind.i64.wrap (r136 - 1)) ∧ (IntKind.i64.wrap (r136 - 1)) < (m_.length : Int)) ∧
  ((gi m_ (IntKind.i64.wrap (r136 - 1))) = true →
  (out_123.length + [b_127].length ≤ 1099511627776) ∧
  VC28_J3 I2 μ2 out_123 b_127 (out_123 ++ [b_127])) ∧
  ((gi m_ (IntKind.i64.wrap (r136 - 1))) = false →
  VC28_J3 I2 μ2 out_123 b_127 out_123)) ∧
  ((decide (b_127 < states)) = false →
  VC28_J2 Q I1 μ1 out_112 a_116 out_123)) ∧
  ((decide (a_116 ≤ ops)) = false →
  VC28_J1 Q out_112))


def VC29_J1 (Q : ((List Bool) × Bool) → Prop) (m_113 : List Bool) : Prop :=
  Q (m_113, true)
/-- replevin/states.Truths -/
def VC29 (s_ : Numbering_Size) (row : List Int) (Q : (List Bool) × Bool → Prop) : Prop :=
  ∀ (_ : sm row),
  ∀ r104, numbering_Check s_ = r104 →
  (((r104 != 0) || (((row.length : Nat) : Int) != (IntKind.i64.wrap (s_.Ops + 1)))) = true →
  Q ([], false)) ∧
  (((r104 != 0) || (((row.length : Nat) : Int) != (IntKind.i64.wrap (s_.Ops + 1)))) = false →
  ∀ r108, numbering_Vars s_ = r108 →
  ((0 : Int) ≤ r108 ∧ r108 ≤ r108 ∧ r108 ≤ 1099511627776) ∧
  ∃ (I1 : (List Bool) → Int → Prop) (μ1 : (List Bool) → Int → Nat), I1 (List.replicate r108.toNat (false : Bool)) 0 ∧ ∀ (m_119 : List Bool) (x_124 : Int), I1 m_119 x_124 →
  ((decide (x_124 < ((row.length : Nat) : Int))) = true →
  ((0 : Int) ≤ x_124 ∧ x_124 < (row.length : Int)) ∧
  (((decide ((gi row x_124) < 0)) || (decide ((gi row x_124) ≥ s_.States))) = true →
  Q ([], false)) ∧
  (((decide ((gi row x_124) < 0)) || (decide ((gi row x_124) ≥ s_.States))) = false →
  ∀ r131, states_at s_ x_124 (gi row x_124) = r131 →
  ((0 : Int) ≤ (IntKind.i64.wrap (r131 - 1)) ∧ (IntKind.i64.wrap (r131 - 1)) < (m_119.length : Int)) ∧
  I1 (m_119.set (IntKind.i64.wrap (r131 - 1)).toNat true) (IntKind.i64.wrap (x_124 + 1)) ∧ μ1 (m_119.set (IntKind.i64.wrap (r131 - 1)).toNat true) (IntKind.i64.wrap (x_124 + 1)) < μ1 m_119 x_124)) ∧
  ((decide (x_124 < ((row.length : Nat) : Int))) = false →
  VC29_J1 Q m_119))


def VC30_J1 (Q : ((List Bool) × Bool) → Prop) (m_109 : List Bool) : Prop :=
  Q (m_109, true)
def VC30_J2 (I1 : (List Bool) → Int → Prop) (μ1 : (List Bool) → Int → Nat) (m_116 : List Bool) (a_120 : Int) (m_122 : List Bool) : Prop :=
  I1 m_122 (IntKind.i64.wrap (a_120 + 1)) ∧ μ1 m_122 (IntKind.i64.wrap (a_120 + 1)) < μ1 m_116 a_120
def VC30_J3 (states : Int) (row : List Int) (Q : ((List Bool) × Bool) → Prop) (I1 : (List Bool) → Int → Prop) (μ1 : (List Bool) → Int → Nat) (m_116 : List Bool) (a_120 : Int) (m_127 : List Bool) (x_131 : Bool) : Prop :=
  (x_131 = true →
  Q ([], false)) ∧
  (x_131 = false →
  ∃ (I2 : (List Bool) → Int → Prop) (μ2 : (List Bool) → Int → Nat), I2 m_127 0 ∧ ∀ (m_133 : List Bool) (b_137 : Int), I2 m_133 b_137 →
  ((decide (b_137 < states)) = true →
  ((0 : Int) ≤ a_120 ∧ a_120 < (row.length : Int)) ∧
  (m_133.length + [(b_137 == (gi row a_120))].length ≤ 1099511627776) ∧
  I2 (m_133 ++ [(b_137 == (gi row a_120))]) (IntKind.i64.wrap (b_137 + 1)) ∧ μ2 (m_133 ++ [(b_137 == (gi row a_120))]) (IntKind.i64.wrap (b_137 + 1)) < μ2 m_133 b_137) ∧
  ((decide (b_137 < states)) = false →
  VC30_J2 I1 μ1 m_116 a_120 m_133))
/-- replevin/replevinref34.Truths -/
def VC30 (ops : Int) (states : Int) (row : List Int) (Q : (List Bool) × Bool → Prop) : Prop :=
  ∀ (_ : sm row),
  ∀ r104, ref31_Check ops states = r104 →
  (((r104 != 0) || (((row.length : Nat) : Int) != (IntKind.i64.wrap (ops + 1)))) = true →
  Q ([], false)) ∧
  (((r104 != 0) || (((row.length : Nat) : Int) != (IntKind.i64.wrap (ops + 1)))) = false →
  ((0 : Int) ≤ (IntKind.i64.wrap ((IntKind.i64.wrap (ops * ops)) + ops)) ∧ (IntKind.i64.wrap ((IntKind.i64.wrap (ops * ops)) + ops)) ≤ (IntKind.i64.wrap ((IntKind.i64.wrap (ops * ops)) + ops)) ∧ (IntKind.i64.wrap ((IntKind.i64.wrap (ops * ops)) + ops)) ≤ 1099511627776) ∧
  ∃ (I1 : (List Bool) → Int → Prop) (μ1 : (List Bool) → Int → Nat), I1 (List.replicate (IntKind.i64.wrap ((IntKind.i64.wrap (ops * ops)) + ops)).toNat (false : Bool)) 0 ∧ ∀ (m_116 : List Bool) (a_120 : Int), I1 m_116 a_120 →
  ((decide (a_120 ≤ ops)) = true →
  ((0 : Int) ≤ a_120 ∧ a_120 < (row.length : Int)) ∧
  ((decide ((gi row a_120) < 0)) = true →
  VC30_J3 states row Q I1 μ1 m_116 a_120 m_116 true) ∧
  ((decide ((gi row a_120) < 0)) = false →
  ((0 : Int) ≤ a_120 ∧ a_120 < (row.length : Int)) ∧
  VC30_J3 states row Q I1 μ1 m_116 a_120 m_116 (decide ((gi row a_120) ≥ states)))) ∧
  ((decide (a_120 ≤ ops)) = false →
  VC30_J1 Q m_116))


def VC34_J1 (Q : Bool → Prop) : Prop :=
  Q true
/-- replevin/replevinref01.SameInts -/
def VC34 (a_ : List Int) (b_ : List Int) (Q : Bool → Prop) : Prop :=
  ∀ (_ : sm a_),
  ∀ (_ : sm b_),
  ((((a_.length : Nat) : Int) != ((b_.length : Nat) : Int)) = true →
  Q false) ∧
  ((((a_.length : Nat) : Int) != ((b_.length : Nat) : Int)) = false →
  ∃ (I1 : Int → Prop) (μ1 : Int → Nat), I1 0 ∧ ∀ (i_103 : Int), I1 i_103 →
  ((decide (i_103 < ((a_.length : Nat) : Int))) = true →
  ((0 : Int) ≤ i_103 ∧ i_103 < (a_.length : Int)) ∧
  ((0 : Int) ≤ i_103 ∧ i_103 < (b_.length : Int)) ∧
  (((gi a_ i_103) != (gi b_ i_103)) = true →
  Q false) ∧
  (((gi a_ i_103) != (gi b_ i_103)) = false →
  I1 (IntKind.i64.wrap (i_103 + 1)) ∧ μ1 (IntKind.i64.wrap (i_103 + 1)) < μ1 i_103)) ∧
  ((decide (i_103 < ((a_.length : Nat) : Int))) = false →
  VC34_J1 Q))


def VC31_J1 (Q : Bool → Prop) : Prop :=
  Q true
/-- replevin/replevinref04.SameRows -/
def VC31 (a_ : List (List Int)) (b_ : List (List Int)) (Q : Bool → Prop) : Prop :=
  ∀ (_ : sm a_),
  ∀ (_ : sm b_),
  ((((a_.length : Nat) : Int) != ((b_.length : Nat) : Int)) = true →
  Q false) ∧
  ((((a_.length : Nat) : Int) != ((b_.length : Nat) : Int)) = false →
  ∃ (I1 : Int → Prop) (μ1 : Int → Nat), I1 0 ∧ ∀ (i_103 : Int), I1 i_103 →
  ((decide (i_103 < ((a_.length : Nat) : Int))) = true →
  ((0 : Int) ≤ i_103 ∧ i_103 < (a_.length : Int)) ∧
  ∀ (_ : sm (gi a_ i_103)),
  ((0 : Int) ≤ i_103 ∧ i_103 < (b_.length : Int)) ∧
  ∀ (_ : sm (gi b_ i_103)),
  ∀ r120, ref01_SameInts (gi a_ i_103) (gi b_ i_103) = r120 →
  ((!r120) = true →
  Q false) ∧
  ((!r120) = false →
  I1 (IntKind.i64.wrap (i_103 + 1)) ∧ μ1 (IntKind.i64.wrap (i_103 + 1)) < μ1 i_103)) ∧
  ((decide (i_103 < ((a_.length : Nat) : Int))) = false →
  VC31_J1 Q))


def VC50_J1 (Q : ((List (List Int))) → Prop) (out_101 : List (List Int)) : Prop :=
  Q out_101
def VC50_J2 (I1 : (List (List Int)) → Int → Prop) (μ1 : (List (List Int)) → Int → Nat) (out_108 : List (List Int)) (i_112 : Int) (out_114 : List (List Int)) : Prop :=
  I1 out_114 (IntKind.i64.wrap (i_112 + 1)) ∧ μ1 out_114 (IntKind.i64.wrap (i_112 + 1)) < μ1 out_108 i_112
/-- replevin/replevinref32.Most -/
def VC50 (l_ : List Int) (Q : (List (List Int)) → Prop) : Prop :=
  ∀ (_ : sm l_),
  ∃ (I1 : (List (List Int)) → Int → Prop) (μ1 : (List (List Int)) → Int → Nat), I1 [] 0 ∧ ∀ (out_108 : List (List Int)) (i_112 : Int), I1 out_108 i_112 →
  ((decide (i_112 < ((l_.length : Nat) : Int))) = true →
  ∃ (I2 : (List (List Int)) → Int → Prop) (μ2 : (List (List Int)) → Int → Nat), I2 out_108 (IntKind.i64.wrap (i_112 + 1)) ∧ ∀ (out_119 : List (List Int)) (k_123 : Int), I2 out_119 k_123 →
  ((decide (k_123 < ((l_.length : Nat) : Int))) = true →
  ((0 : Int) ≤ i_112 ∧ i_112 < (l_.length : Int)) ∧
  ((0 : Int) ≤ k_123 ∧ k_123 < (l_.length : Int)) ∧
  (out_119.length + [[IntKind.i64.wrap (0 - (gi l_ i_112)), IntKind.i64.wrap (0 - (gi l_ k_123))]].length ≤ 1099511627776) ∧
  I2 (out_119 ++ [[IntKind.i64.wrap (0 - (gi l_ i_112)), IntKind.i64.wrap (0 - (gi l_ k_123))]]) (IntKind.i64.wrap (k_123 + 1)) ∧ μ2 (out_119 ++ [[IntKind.i64.wrap (0 - (gi l_ i_112)), IntKind.i64.wrap (0 - (gi l_ k_123))]]) (IntKind.i64.wrap (k_123 + 1)) < μ2 out_119 k_123) ∧
  ((decide (k_123 < ((l_.length : Nat) : Int))) = false →
  VC50_J2 I1 μ1 out_108 i_112 out_119)) ∧
  ((decide (i_112 < ((l_.length : Nat) : Int))) = false →
  VC50_J1 Q out_108)


def VC33_J1 (Q : ((List (List Int))) → Prop) (out_122 : List (List Int)) : Prop :=
  Q out_122
def VC33_J2 (I1 : (List (List Int)) → Int → Prop) (μ1 : (List (List Int)) → Int → Nat) (out_128 : List (List Int)) (a_132 : Int) (out_133 : List (List Int)) (l_137 : List Int) : Prop :=
  (out_133.length + [l_137].length ≤ 1099511627776) ∧
  (preMost l_137) ∧
  ∀ r155, ref32_Most l_137 = r155 →
  ∀ (_ : sm r155),
  ((out_133 ++ [l_137]).length + r155.length ≤ 1099511627776) ∧
  I1 ((out_133 ++ [l_137]) ++ r155) (IntKind.i64.wrap (a_132 + 1)) ∧ μ1 ((out_133 ++ [l_137]) ++ r155) (IntKind.i64.wrap (a_132 + 1)) < μ1 out_128 a_132
/-- replevin/replevinref34.Clauses -/
def VC33 (ops : Int) (states : Int) (init : Int) (Q : (List (List Int)) → Prop) : Prop :=
  ∀ r104, ref31_Check ops states = r104 →
  ((((r104 != 0) || (decide (init < 0))) || (decide (init ≥ states))) = true →
  Q []) ∧
  ((((r104 != 0) || (decide (init < 0))) || (decide (init ≥ states))) = false →
  ∀ r108, ref31_State ops states 0 init = r108 →
  (([] : List (List Int)).length + [[r108]].length ≤ 1099511627776) ∧
  ∃ (I1 : (List (List Int)) → Int → Prop) (μ1 : (List (List Int)) → Int → Nat), I1 ([] ++ [[r108]]) 0 ∧ ∀ (out_128 : List (List Int)) (a_132 : Int), I1 out_128 a_132 →
  ((decide (a_132 ≤ ops)) = true →
  ∃ (I2 : (List (List Int)) → (List Int) → Int → Prop) (μ2 : (List (List Int)) → (List Int) → Int → Nat), I2 out_128 [] 0 ∧ ∀ (out_164 : List (List Int)) (l_168 : List Int) (b_172 : Int), I2 out_164 l_168 b_172 →
  ((decide (b_172 < states)) = true →
  ∀ r176, ref31_State ops states a_132 b_172 = r176 →
  (l_168.length + [r176].length ≤ 1099511627776) ∧
  I2 out_164 (l_168 ++ [r176]) (IntKind.i64.wrap (b_172 + 1)) ∧ μ2 out_164 (l_168 ++ [r176]) (IntKind.i64.wrap (b_172 + 1)) < μ2 out_164 l_168 b_172) ∧
  ((decide (b_172 < states)) = false →
  VC33_J2 I1 μ1 out_128 a_132 out_164 l_168)) ∧
  ((decide (a_132 ≤ ops)) = false →
  VC33_J1 Q out_128))


def VC35_J1 (Q : Bool → Prop) : Prop :=
  Q true
/-- replevin/replevinref03.SameBools -/
def VC35 (a_ : List Bool) (b_ : List Bool) (Q : Bool → Prop) : Prop :=
  ∀ (_ : sm a_),
  ∀ (_ : sm b_),
  ((((a_.length : Nat) : Int) != ((b_.length : Nat) : Int)) = true →
  Q false) ∧
  ((((a_.length : Nat) : Int) != ((b_.length : Nat) : Int)) = false →
  ∃ (I1 : Int → Prop) (μ1 : Int → Nat), I1 0 ∧ ∀ (i_103 : Int), I1 i_103 →
  ((decide (i_103 < ((a_.length : Nat) : Int))) = true →
  ((0 : Int) ≤ i_103 ∧ i_103 < (a_.length : Int)) ∧
  ((0 : Int) ≤ i_103 ∧ i_103 < (b_.length : Int)) ∧
  (((gi a_ i_103) != (gi b_ i_103)) = true →
  Q false) ∧
  (((gi a_ i_103) != (gi b_ i_103)) = false →
  I1 (IntKind.i64.wrap (i_103 + 1)) ∧ μ1 (IntKind.i64.wrap (i_103 + 1)) < μ1 i_103)) ∧
  ((decide (i_103 < ((a_.length : Nat) : Int))) = false →
  VC35_J1 Q))


/-- replevin/replevinref01.Split -/
def VC79 (l_ : Int) (Q : Int × Bool → Prop) : Prop :=
  (((decide (l_ > 0)) && (decide (l_ ≤ 100000))) = true →
  Q (l_, true)) ∧
  (((decide (l_ > 0)) && (decide (l_ ≤ 100000))) = false →
  (((decide (l_ < 0)) && (decide (l_ ≥ (-100000)))) = true →
  Q (IntKind.i64.wrap (0 - l_), false)) ∧
  (((decide (l_ < 0)) && (decide (l_ ≥ (-100000)))) = false →
  Q (0, false)))


def VC62_J1 (Q : Bool → Prop) : Prop :=
  Q false
def VC62_J2 (I1 : Int → Prop) (μ1 : Int → Nat) (i_103 : Int) : Prop :=
  I1 (IntKind.i64.wrap (i_103 + 1)) ∧ μ1 (IntKind.i64.wrap (i_103 + 1)) < μ1 i_103
def VC62_J3 (Q : Bool → Prop) (I1 : Int → Prop) (μ1 : Int → Nat) (i_103 : Int) (r112 : Int × Bool) (is_115 : Bool) : Prop :=
  ((is_115 == r112.2) = true →
  Q true) ∧
  ((is_115 == r112.2) = false →
  VC62_J2 I1 μ1 i_103)
/-- replevin/replevinref02.Holds -/
def VC62 (c_ : List Int) (m_ : List Bool) (Q : Bool → Prop) : Prop :=
  ∀ (_ : sm c_),
  ∀ (_ : sm m_),
  ∃ (I1 : Int → Prop) (μ1 : Int → Nat), I1 0 ∧ ∀ (i_103 : Int), I1 i_103 →
  ((decide (i_103 < ((c_.length : Nat) : Int))) = true →
  ((0 : Int) ≤ i_103 ∧ i_103 < (c_.length : Int)) ∧
  ∀ r112, ref01_Split (gi c_ i_103) = r112 →
  ((r112.1 == 0) = true →
  VC62_J2 I1 μ1 i_103) ∧
  ((r112.1 == 0) = false →
  ((decide (r112.1 ≤ ((m_.length : Nat) : Int))) = true →
  ((0 : Int) ≤ (IntKind.i64.wrap (r112.1 - 1)) ∧ (IntKind.i64.wrap (r112.1 - 1)) < (m_.length : Int)) ∧
  VC62_J3 Q I1 μ1 i_103 r112 (gi m_ (IntKind.i64.wrap (r112.1 - 1)))) ∧
  ((decide (r112.1 ≤ ((m_.length : Nat) : Int))) = false →
  VC62_J3 Q I1 μ1 i_103 r112 false))) ∧
  ((decide (i_103 < ((c_.length : Nat) : Int))) = false →
  VC62_J1 Q)


def VC36_J1 (Q : Int → Prop) : Prop :=
  Q (-1)
/-- replevin/replevinref04.First -/
def VC36 (f_ : Api_Formula) (m_ : List Bool) (Q : Int → Prop) : Prop :=
  ∀ (_ : sm f_.Clauses),
  ∀ (_ : sm m_),
  ∃ (I1 : Int → Prop) (μ1 : Int → Nat), I1 0 ∧ ∀ (i_102 : Int), I1 i_102 →
  ((decide (i_102 < ((f_.Clauses.length : Nat) : Int))) = true →
  ((0 : Int) ≤ i_102 ∧ i_102 < (f_.Clauses.length : Int)) ∧
  ∀ (_ : sm (gi f_.Clauses i_102)),
  ∀ r113, ref02_Holds (gi f_.Clauses i_102) m_ = r113 →
  ((!r113) = true →
  Q i_102) ∧
  ((!r113) = false →
  I1 (IntKind.i64.wrap (i_102 + 1)) ∧ μ1 (IntKind.i64.wrap (i_102 + 1)) < μ1 i_102)) ∧
  ((decide (i_102 < ((f_.Clauses.length : Nat) : Int))) = false →
  VC36_J1 Q)


/-- replevin/replevinlaw34.awake -/
def VC26 (Q : Bool → Prop) : Prop :=
  ∀ r108, states_Row (⟨0, 2⟩ : Numbering_Size) [false, true] = r108 →
  ∀ (_ : sm r108.1),
  ∀ r119, states_Row (⟨0, 2⟩ : Numbering_Size) [true, true] = r119 →
  ∀ (_ : sm r119.1),
  ∀ r130, states_Truths (⟨0, 2⟩ : Numbering_Size) [1] = r130 →
  ∀ (_ : sm r130.1),
  ∀ r141, states_Truths (⟨0, 2⟩ : Numbering_Size) [2] = r141 →
  ∀ (_ : sm r141.1),
  ∀ r148, states_Clauses (⟨0, 2⟩ : Numbering_Size) 1 = r148 →
  ∀ (_ : sm r148),
  ∀ r171, ref04_SameRows r148 [[2], [1, 2], [(-1), (-2)]] = r171 →
  ((r171 && r108.2) = true →
  ∀ r179, ref01_SameInts r108.1 [1] = r179 →
  (((r179 && (!r119.2)) && r130.2) = true →
  ∀ r187, ref03_SameBools r130.1 [false, true] = r187 →
  ((r187 && (!r141.2)) = true →
  ∀ r191, states_Clauses (⟨0, 2⟩ : Numbering_Size) 2 = r191 →
  ∀ (_ : sm r191),
  Q (((r191.length : Nat) : Int) == 0)) ∧
  ((r187 && (!r141.2)) = false →
  Q false)) ∧
  (((r179 && (!r119.2)) && r130.2) = false →
  Q false)) ∧
  ((r171 && r108.2) = false →
  Q false)


def VC6_J1 (P : Numbering_Size) (O : List Bool) (S : List Int) (Q : Bool → Prop) (A_107 : Int) : Prop :=
  ∀ r111, states_Row P O = r111 →
  ∀ (_ : sm r111.1),
  ∀ r118, ref34_Row P.Ops P.States O = r118 →
  ∀ (_ : sm r118.1),
  ∀ r125, states_Truths P S = r125 →
  ∀ (_ : sm r125.1),
  ∀ r132, ref34_Truths P.Ops P.States S = r132 →
  ∀ (_ : sm r132.1),
  ∀ r140, states_Clauses P A_107 = r140 →
  ∀ (_ : sm r140),
  ∀ r147, ref34_Clauses P.Ops P.States A_107 = r147 →
  ∀ (_ : sm r147),
  ∀ r154, ref04_SameRows r140 r147 = r154 →
  (r154 = true →
  ∀ r158, ref01_SameInts r111.1 r118.1 = r158 →
  (r158 = true →
  ((r111.2 == r118.2) = true →
  ∀ r162, ref03_SameBools r125.1 r132.1 = r162 →
  (r162 = true →
  ((r125.2 == r132.2) = true →
  ∀ r166, law34_awake = r166 →
  Q r166) ∧
  ((r125.2 == r132.2) = false →
  Q false)) ∧
  (r162 = false →
  Q false)) ∧
  ((r111.2 == r118.2) = false →
  Q false)) ∧
  (r158 = false →
  Q false)) ∧
  (r154 = false →
  Q false)
/-- replevin/replevinlaw34.StatesTells -/
def VC6 (P : Numbering_Size) (O : List Bool) (S : List Int) (Q : Bool → Prop) : Prop :=
  ∀ (_ : sm O),
  ∀ (_ : sm S),
  (((((decide (P.Ops > 12)) && (decide (P.Ops ≤ 64))) || (decide (((O.length : Nat) : Int) > 1000))) || (decide (((S.length : Nat) : Int) > 100))) = true →
  ∀ r104, law34_awake = r104 →
  Q r104) ∧
  (((((decide (P.Ops > 12)) && (decide (P.Ops ≤ 64))) || (decide (((O.length : Nat) : Int) > 1000))) || (decide (((S.length : Nat) : Int) > 100))) = false →
  ((decide (((S.length : Nat) : Int) > 0)) = true →
  ((0 : Int) ≤ 0 ∧ 0 < (S.length : Int)) ∧
  VC6_J1 P O S Q (gi S 0)) ∧
  ((decide (((S.length : Nat) : Int) > 0)) = false →
  VC6_J1 P O S Q 0))


def VC7_J1 (P : Numbering_Size) (O : Int) (S : List Bool) (Q : Bool → Prop) (x_102 : Bool) : Prop :=
  (x_102 = true →
  ∀ r106, law34_awake = r106 →
  Q r106) ∧
  (x_102 = false →
  ∀ r110, states_Row P S = r110 →
  ∀ (_ : sm r110.1),
  (((r110.2 && (((r110.1.length : Nat) : Int) != (IntKind.i64.wrap (P.Ops + 1)))) || ((!r110.2) && (((r110.1.length : Nat) : Int) != 0))) = true →
  Q false) ∧
  (((r110.2 && (((r110.1.length : Nat) : Int) != (IntKind.i64.wrap (P.Ops + 1)))) || ((!r110.2) && (((r110.1.length : Nat) : Int) != 0))) = false →
  ∀ r117, states_Clauses P O = r117 →
  ∀ (_ : sm r117),
  ∀ r124, ref04_First (⟨0, r117⟩ : Api_Formula) S = r124 →
  (r110.2 = true →
  ((0 : Int) ≤ 0 ∧ 0 < (r110.1.length : Int)) ∧
  (((decide (r124 < 0)) == ((gi r110.1 0) == O)) = true →
  ∀ r131, law34_awake = r131 →
  Q r131) ∧
  (((decide (r124 < 0)) == ((gi r110.1 0) == O)) = false →
  Q false)) ∧
  (r110.2 = false →
  (((decide (r124 < 0)) == false) = true →
  ∀ r135, law34_awake = r135 →
  Q r135) ∧
  (((decide (r124 < 0)) == false) = false →
  Q false))))
/-- replevin/replevinlaw34.StatesOne -/
def VC7 (P : Numbering_Size) (O : Int) (S : List Bool) (Q : Bool → Prop) : Prop :=
  ∀ (_ : sm S),
  ((decide (P.Ops > 10)) = true →
  VC7_J1 P O S Q true) ∧
  ((decide (P.Ops > 10)) = false →
  ∀ r139, numbering_Check P = r139 →
  ((r139 != 0) = true →
  VC7_J1 P O S Q true) ∧
  ((r139 != 0) = false →
  ∀ r143, numbering_Vars P = r143 →
  VC7_J1 P O S Q (((((S.length : Nat) : Int) != r143) || (decide (O < 0))) || (decide (O ≥ P.States)))))


def VC8_J1 (P : Numbering_Size) (O : List Int) (Q : Bool → Prop) (x_102 : Bool) : Prop :=
  (x_102 = true →
  ∀ r106, law34_awake = r106 →
  Q r106) ∧
  (x_102 = false →
  ∀ r110, states_Truths P O = r110 →
  ∀ (_ : sm r110.1),
  ((!r110.2) = true →
  ((((r110.1.length : Nat) : Int) == 0) = true →
  ∀ r117, law34_awake = r117 →
  Q r117) ∧
  ((((r110.1.length : Nat) : Int) == 0) = false →
  Q false)) ∧
  ((!r110.2) = false →
  ∀ r121, states_Row P r110.1 = r121 →
  ∀ (_ : sm r121.1),
  ((0 : Int) ≤ 0 ∧ 0 < (O.length : Int)) ∧
  ∀ r132, states_Clauses P (gi O 0) = r132 →
  ∀ (_ : sm r132),
  (r121.2 = true →
  ∀ r139, ref01_SameInts r121.1 O = r139 →
  (r139 = true →
  ((((r132.length : Nat) : Int) == (IntKind.i64.wrap (1 + (IntKind.i64.wrap ((IntKind.i64.wrap (P.Ops + 1)) * (IntKind.i64.wrap (1 + (IntKind.i64.wrap (((IntKind.i64.wrap (P.States * (IntKind.i64.wrap (P.States - 1))))).tdiv 2))))))))) = true →
  ∀ r143, ref04_First (⟨0, r132⟩ : Api_Formula) r110.1 = r143 →
  ((decide (r143 < 0)) = true →
  ∀ r147, law34_awake = r147 →
  Q r147) ∧
  ((decide (r143 < 0)) = false →
  Q false)) ∧
  ((((r132.length : Nat) : Int) == (IntKind.i64.wrap (1 + (IntKind.i64.wrap ((IntKind.i64.wrap (P.Ops + 1)) * (IntKind.i64.wrap (1 + (IntKind.i64.wrap (((IntKind.i64.wrap (P.States * (IntKind.i64.wrap (P.States - 1))))).tdiv 2))))))))) = false →
  Q false)) ∧
  (r139 = false →
  Q false)) ∧
  (r121.2 = false →
  Q false)))
/-- replevin/replevinlaw34.StatesCounts -/
def VC8 (P : Numbering_Size) (O : List Int) (Q : Bool → Prop) : Prop :=
  ∀ (_ : sm O),
  ((decide (P.Ops > 10)) = true →
  VC8_J1 P O Q true) ∧
  ((decide (P.Ops > 10)) = false →
  ∀ r151, numbering_Check P = r151 →
  VC8_J1 P O Q ((r151 != 0) || (decide (((O.length : Nat) : Int) > 100))))


end Go.Proofs.Ytlpcjbjlgeaapaa
