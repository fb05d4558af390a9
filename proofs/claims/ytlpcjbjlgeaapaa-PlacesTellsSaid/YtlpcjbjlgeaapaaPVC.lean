/- The conditions of the functions, in terms of their callees. Definitions. -/
import Derived.Test.YtlpcjbjlgeaapaaPSpec
set_option linter.all false
namespace Go.Proofs.Ytlpcjbjlgeaapaa
open Go Go.Sv
/-- replevin/numbering.Check -/
def VC21 (s_ : Numbering_Size) (Q : Int → Prop) : Prop :=
  (((((decide (s_.Ops < 0)) || (decide (s_.Ops > 64))) || (decide (s_.States < 1))) || (decide (s_.States > 32))) = true →
  Q 2) ∧
  (((((decide (s_.Ops < 0)) || (decide (s_.Ops > 64))) || (decide (s_.States < 1))) || (decide (s_.States > 32))) = false →
  Q 0)


/-- replevin/replevinref31.Check -/
def VC22 (ops : Int) (states : Int) (Q : Int → Prop) : Prop :=
  (((((decide (ops < 0)) || (decide (ops > 64))) || (decide (states < 1))) || (decide (states > 32))) = true →
  Q 2) ∧
  (((((decide (ops < 0)) || (decide (ops > 64))) || (decide (states < 1))) || (decide (states > 32))) = false →
  Q 0)


/-- (replevin/numbering.Size).block -/
def VC56 (s_ : Numbering_Size) (kind : Int) (Q : Int × Int × Int → Prop) : Prop :=
  ((kind == 1) = true →
  Q (0, s_.Ops, s_.Ops)) ∧
  ((kind == 1) = false →
  ((kind == 2) = true →
  Q (IntKind.i64.wrap (s_.Ops * s_.Ops), 1, s_.Ops)) ∧
  ((kind == 2) = false →
  Q (IntKind.i64.wrap ((IntKind.i64.wrap (s_.Ops * s_.Ops)) + s_.Ops), s_.States, IntKind.i64.wrap (s_.Ops + 1))))


/-- replevin/numbering.Vars -/
def VC23 (s_ : Numbering_Size) (Q : Int → Prop) : Prop :=
  ∀ r104, numbering_Check s_ = r104 →
  ((r104 != 0) = true →
  Q 0) ∧
  ((r104 != 0) = false →
  ∀ r108, numbering_Size_block s_ 3 = r108 →
  Q (IntKind.i64.wrap (r108.1 + (IntKind.i64.wrap (r108.2.1 * r108.2.2)))))


/-- replevin/numbering.Var -/
def VC24 (s_ : Numbering_Size) (n_ : Numbering_Name) (Q : Int → Prop) : Prop :=
  ∀ r104, numbering_Check s_ = r104 →
  ((((r104 != 0) || (decide (n_.Kind ≤ 0))) || (decide (n_.Kind > 3))) = true →
  Q 0) ∧
  ((((r104 != 0) || (decide (n_.Kind ≤ 0))) || (decide (n_.Kind > 3))) = false →
  ∀ r108, numbering_Size_block s_ n_.Kind = r108 →
  (((((decide (n_.A < 0)) || (decide (n_.A ≥ r108.2.2))) || (decide (n_.B < 0))) || (decide (n_.B ≥ r108.2.1))) = true →
  Q 0) ∧
  (((((decide (n_.A < 0)) || (decide (n_.A ≥ r108.2.2))) || (decide (n_.B < 0))) || (decide (n_.B ≥ r108.2.1))) = false →
  Q (IntKind.i64.wrap ((IntKind.i64.wrap ((IntKind.i64.wrap (r108.1 + (IntKind.i64.wrap (n_.A * r108.2.1)))) + n_.B)) + 1))))


def VC64_J1 (Q : Int → Prop) : Prop :=
  Q (-1)
/-- slices.Index[[]int,int] -/
def VC64 (s_ : List Int) (v_ : Int) (Q : Int → Prop) : Prop :=
  ∀ (_ : sm s_),
  ∃ (I1 : Int → Prop) (μ1 : Int → Nat), I1 0 ∧ ∀ (x_102 : Int), I1 x_102 →
  ((decide (x_102 < ((s_.length : Nat) : Int))) = true →
  ((0 : Int) ≤ x_102 ∧ x_102 < (s_.length : Int)) ∧
  ((v_ == (gi s_ x_102)) = true →
  Q x_102) ∧
  ((v_ == (gi s_ x_102)) = false →
  I1 (IntKind.i64.wrap (x_102 + 1)) ∧ μ1 (IntKind.i64.wrap (x_102 + 1)) < μ1 x_102)) ∧
  ((decide (x_102 < ((s_.length : Nat) : Int))) = false →
  VC64_J1 Q)


/-- slices.Contains[[]int,int] -/
def VC68 (s_ : List Int) (v_ : Int) (Q : Bool → Prop) : Prop :=
  ∀ (_ : sm s_),
  ∀ r104, slices_Index_int_int s_ v_ = r104 →
  Q (decide (r104 ≥ 0))


/-- replevin/replevinref31.At -/
def VC71 (ops : Int) (states : Int) (a_ : Int) (b_ : Int) (Q : Int → Prop) : Prop :=
  Q (IntKind.i64.wrap ((IntKind.i64.wrap ((IntKind.i64.wrap (a_ * ops)) + b_)) + 1))


def VC34_J1 (Q : Bool → Prop) : Prop :=
  Q true
/-- replevin/replevinref01.SameInts -/
def VC34 (a_ : List Int) (b_ : List Int) (Q : Bool → Prop) : Prop :=
  ∀ (_ : sm a_),
  ∀ (_ : sm b_),
  ((((a_.length : Nat) : Int) != ((b_.length : Nat) : Int)) = true →
  Q false) ∧
  ((((a_.length : Nat) : Int) != ((b_.length : Nat) : Int)) = false →
  ∃ (I1 : Int → Prop) (μ1 : Int → Nat), I1 0 ∧ ∀ (i_103 : Int), I1 i_103 →
  ((decide (i_103 < ((a_.length : Nat) : Int))) = true →
  ((0 : Int) ≤ i_103 ∧ i_103 < (a_.length : Int)) ∧
  ((0 : Int) ≤ i_103 ∧ i_103 < (b_.length : Int)) ∧
  (((gi a_ i_103) != (gi b_ i_103)) = true →
  Q false) ∧
  (((gi a_ i_103) != (gi b_ i_103)) = false →
  I1 (IntKind.i64.wrap (i_103 + 1)) ∧ μ1 (IntKind.i64.wrap (i_103 + 1)) < μ1 i_103)) ∧
  ((decide (i_103 < ((a_.length : Nat) : Int))) = false →
  VC34_J1 Q))


def VC35_J1 (Q : Bool → Prop) : Prop :=
  Q true
/-- replevin/replevinref03.SameBools -/
def VC35 (a_ : List Bool) (b_ : List Bool) (Q : Bool → Prop) : Prop :=
  ∀ (_ : sm a_),
  ∀ (_ : sm b_),
  ((((a_.length : Nat) : Int) != ((b_.length : Nat) : Int)) = true →
  Q false) ∧
  ((((a_.length : Nat) : Int) != ((b_.length : Nat) : Int)) = false →
  ∃ (I1 : Int → Prop) (μ1 : Int → Nat), I1 0 ∧ ∀ (i_103 : Int), I1 i_103 →
  ((decide (i_103 < ((a_.length : Nat) : Int))) = true →
  ((0 : Int) ≤ i_103 ∧ i_103 < (a_.length : Int)) ∧
  ((0 : Int) ≤ i_103 ∧ i_103 < (b_.length : Int)) ∧
  (((gi a_ i_103) != (gi b_ i_103)) = true →
  Q false) ∧
  (((gi a_ i_103) != (gi b_ i_103)) = false →
  I1 (IntKind.i64.wrap (i_103 + 1)) ∧ μ1 (IntKind.i64.wrap (i_103 + 1)) < μ1 i_103)) ∧
  ((decide (i_103 < ((a_.length : Nat) : Int))) = false →
  VC35_J1 Q))


def VC31_J1 (Q : Bool → Prop) : Prop :=
  Q true
/-- replevin/replevinref04.SameRows -/
def VC31 (a_ : List (List Int)) (b_ : List (List Int)) (Q : Bool → Prop) : Prop :=
  ∀ (_ : sm a_),
  ∀ (_ : sm b_),
  ((((a_.length : Nat) : Int) != ((b_.length : Nat) : Int)) = true →
  Q false) ∧
  ((((a_.length : Nat) : Int) != ((b_.length : Nat) : Int)) = false →
  ∃ (I1 : Int → Prop) (μ1 : Int → Nat), I1 0 ∧ ∀ (i_103 : Int), I1 i_103 →
  ((decide (i_103 < ((a_.length : Nat) : Int))) = true →
  ((0 : Int) ≤ i_103 ∧ i_103 < (a_.length : Int)) ∧
  ∀ (_ : sm (gi a_ i_103)),
  ((0 : Int) ≤ i_103 ∧ i_103 < (b_.length : Int)) ∧
  ∀ (_ : sm (gi b_ i_103)),
  ∀ r120, ref01_SameInts (gi a_ i_103) (gi b_ i_103) = r120 →
  ((!r120) = true →
  Q false) ∧
  ((!r120) = false →
  I1 (IntKind.i64.wrap (i_103 + 1)) ∧ μ1 (IntKind.i64.wrap (i_103 + 1)) < μ1 i_103)) ∧
  ((decide (i_103 < ((a_.length : Nat) : Int))) = false →
  VC31_J1 Q))


/-- replevin/replevinref01.Split -/
def VC79 (l_ : Int) (Q : Int × Bool → Prop) : Prop :=
  (((decide (l_ > 0)) && (decide (l_ ≤ 100000))) = true →
  Q (l_, true)) ∧
  (((decide (l_ > 0)) && (decide (l_ ≤ 100000))) = false →
  (((decide (l_ < 0)) && (decide (l_ ≥ (-100000)))) = true →
  Q (IntKind.i64.wrap (0 - l_), false)) ∧
  (((decide (l_ < 0)) && (decide (l_ ≥ (-100000)))) = false →
  Q (0, false)))


def VC62_J1 (Q : Bool → Prop) : Prop :=
  Q false
def VC62_J2 (I1 : Int → Prop) (μ1 : Int → Nat) (i_103 : Int) : Prop :=
  I1 (IntKind.i64.wrap (i_103 + 1)) ∧ μ1 (IntKind.i64.wrap (i_103 + 1)) < μ1 i_103
def VC62_J3 (Q : Bool → Prop) (I1 : Int → Prop) (μ1 : Int → Nat) (i_103 : Int) (r112 : Int × Bool) (is_115 : Bool) : Prop :=
  ((is_115 == r112.2) = true →
  Q true) ∧
  ((is_115 == r112.2) = false →
  VC62_J2 I1 μ1 i_103)
/-- replevin/replevinref02.Holds -/
def VC62 (c_ : List Int) (m_ : List Bool) (Q : Bool → Prop) : Prop :=
  ∀ (_ : sm c_),
  ∀ (_ : sm m_),
  ∃ (I1 : Int → Prop) (μ1 : Int → Nat), I1 0 ∧ ∀ (i_103 : Int), I1 i_103 →
  ((decide (i_103 < ((c_.length : Nat) : Int))) = true →
  ((0 : Int) ≤ i_103 ∧ i_103 < (c_.length : Int)) ∧
  ∀ r112, ref01_Split (gi c_ i_103) = r112 →
  ((r112.1 == 0) = true →
  VC62_J2 I1 μ1 i_103) ∧
  ((r112.1 == 0) = false →
  ((decide (r112.1 ≤ ((m_.length : Nat) : Int))) = true →
  ((0 : Int) ≤ (IntKind.i64.wrap (r112.1 - 1)) ∧ (IntKind.i64.wrap (r112.1 - 1)) < (m_.length : Int)) ∧
  VC62_J3 Q I1 μ1 i_103 r112 (gi m_ (IntKind.i64.wrap (r112.1 - 1)))) ∧
  ((decide (r112.1 ≤ ((m_.length : Nat) : Int))) = false →
  VC62_J3 Q I1 μ1 i_103 r112 false))) ∧
  ((decide (i_103 < ((c_.length : Nat) : Int))) = false →
  VC62_J1 Q)


def VC36_J1 (Q : Int → Prop) : Prop :=
  Q (-1)
/-- replevin/replevinref04.First -/
def VC36 (f_ : Api_Formula) (m_ : List Bool) (Q : Int → Prop) : Prop :=
  ∀ (_ : sm f_.Clauses),
  ∀ (_ : sm m_),
  ∃ (I1 : Int → Prop) (μ1 : Int → Nat), I1 0 ∧ ∀ (i_102 : Int), I1 i_102 →
  ((decide (i_102 < ((f_.Clauses.length : Nat) : Int))) = true →
  ((0 : Int) ≤ i_102 ∧ i_102 < (f_.Clauses.length : Int)) ∧
  ∀ (_ : sm (gi f_.Clauses i_102)),
  ∀ r113, ref02_Holds (gi f_.Clauses i_102) m_ = r113 →
  ((!r113) = true →
  Q i_102) ∧
  ((!r113) = false →
  I1 (IntKind.i64.wrap (i_102 + 1)) ∧ μ1 (IntKind.i64.wrap (i_102 + 1)) < μ1 i_102)) ∧
  ((decide (i_102 < ((f_.Clauses.length : Nat) : Int))) = false →
  VC36_J1 Q)


/-- math/bits.Mul64 -/
def VC84 (x_ : Int) (y_ : Int) (Q : Int × Int → Prop) : Prop :=
  Q (IntKind.u64.wrap ((IntKind.u64.wrap ((IntKind.u64.wrap (((x_).fdiv (2 ^ 32)) * ((y_).fdiv (2 ^ 32)))) + (((IntKind.u64.wrap ((IntKind.u64.wrap (((x_).fdiv (2 ^ 32)) * (IntKind.u64.wrap ((BitVec.ofInt IntKind.u64.bits y_ &&& BitVec.ofInt IntKind.u64.bits 4294967295).toNat : Int)))) + (((IntKind.u64.wrap ((IntKind.u64.wrap ((BitVec.ofInt IntKind.u64.bits x_ &&& BitVec.ofInt IntKind.u64.bits 4294967295).toNat : Int)) * (IntKind.u64.wrap ((BitVec.ofInt IntKind.u64.bits y_ &&& BitVec.ofInt IntKind.u64.bits 4294967295).toNat : Int))))).fdiv (2 ^ 32))))).fdiv (2 ^ 32)))) + (((IntKind.u64.wrap ((IntKind.u64.wrap ((BitVec.ofInt IntKind.u64.bits (IntKind.u64.wrap ((IntKind.u64.wrap (((x_).fdiv (2 ^ 32)) * (IntKind.u64.wrap ((BitVec.ofInt IntKind.u64.bits y_ &&& BitVec.ofInt IntKind.u64.bits 4294967295).toNat : Int)))) + (((IntKind.u64.wrap ((IntKind.u64.wrap ((BitVec.ofInt IntKind.u64.bits x_ &&& BitVec.ofInt IntKind.u64.bits 4294967295).toNat : Int)) * (IntKind.u64.wrap ((BitVec.ofInt IntKind.u64.bits y_ &&& BitVec.ofInt IntKind.u64.bits 4294967295).toNat : Int))))).fdiv (2 ^ 32)))) &&& BitVec.ofInt IntKind.u64.bits 4294967295).toNat : Int)) + (IntKind.u64.wrap ((IntKind.u64.wrap ((BitVec.ofInt IntKind.u64.bits x_ &&& BitVec.ofInt IntKind.u64.bits 4294967295).toNat : Int)) * ((y_).fdiv (2 ^ 32))))))).fdiv (2 ^ 32))), IntKind.u64.wrap (x_ * y_))


/-- math/bits.Mul -/
def VC81 (x_ : Int) (y_ : Int) (Q : Int × Int → Prop) : Prop :=
  (preMul x_ y_) ∧
  ∀ r104, math_bits_Mul64 x_ y_ = r104 →
  Q (r104.1, r104.2)


def VC76_J1 (Q : ((List Int)) → Prop) (newslice_111 : List Int) : Prop :=
  Q newslice_111
/-- slices.Repeat[[]int,int] -/
def VC76 (x_ : List Int) (count : Int) (Q : (List Int) → Prop) : Prop :=
  ∀ (_ : sm x_),
  ((decide (count < 0)) = true →
  False) ∧
  ((decide (count < 0)) = false →
  (preMul (IntKind.u64.wrap ((x_.length : Nat) : Int)) (IntKind.u64.wrap count)) ∧
  ∀ r104, math_bits_Mul (IntKind.u64.wrap ((x_.length : Nat) : Int)) (IntKind.u64.wrap count) = r104 →
  (((decide (r104.1 > 0)) || (decide (r104.2 > 9223372036854775807))) = true →
  False) ∧
  (((decide (r104.1 > 0)) || (decide (r104.2 > 9223372036854775807))) = false →
  ((0 : Int) ≤ (IntKind.i64.wrap r104.2) ∧ (IntKind.i64.wrap r104.2) ≤ (IntKind.i64.wrap r104.2) ∧ (IntKind.i64.wrap r104.2) ≤ 1099511627776) ∧
  ∃ (I1 : (List Int) → Int → Prop) (μ1 : (List Int) → Int → Nat), I1 ((List.replicate (IntKind.i64.wrap r104.2).toNat (0 : Int)).take 0 ++ x_.take ((List.replicate (IntKind.i64.wrap r104.2).toNat (0 : Int)).length - 0) ++ (List.replicate (IntKind.i64.wrap r104.2).toNat (0 : Int)).drop (0 + min x_.length ((List.replicate (IntKind.i64.wrap r104.2).toNat (0 : Int)).length - 0))) ((min x_.length ((List.replicate (IntKind.i64.wrap r104.2).toNat (0 : Int)).length - 0) : Nat) : Int) ∧ ∀ (newslice_115 : List Int) (n_119 : Int), I1 newslice_115 n_119 →
  ((decide (n_119 < ((newslice_115.length : Nat) : Int))) = true →
  ((0 : Int) ≤ n_119 ∧ n_119 ≤ (newslice_115.length : Int)) ∧
  ((0 : Int) ≤ n_119 ∧ n_119 ≤ (newslice_115.length : Int)) ∧
  I1 (newslice_115.take n_119.toNat ++ (newslice_115.take n_119.toNat).take (newslice_115.length - n_119.toNat) ++ newslice_115.drop (n_119.toNat + min (newslice_115.take n_119.toNat).length (newslice_115.length - n_119.toNat))) (IntKind.i64.wrap (n_119 + ((min (newslice_115.take n_119.toNat).length (newslice_115.length - n_119.toNat) : Nat) : Int))) ∧ μ1 (newslice_115.take n_119.toNat ++ (newslice_115.take n_119.toNat).take (newslice_115.length - n_119.toNat) ++ newslice_115.drop (n_119.toNat + min (newslice_115.take n_119.toNat).length (newslice_115.length - n_119.toNat))) (IntKind.i64.wrap (n_119 + ((min (newslice_115.take n_119.toNat).length (newslice_115.length - n_119.toNat) : Nat) : Int))) < μ1 newslice_115 n_119) ∧
  ((decide (n_119 < ((newslice_115.length : Nat) : Int))) = false →
  VC76_J1 Q newslice_115)))


def VC45_J1 (Q : ((List Bool) × Bool) → Prop) (m_113 : List Bool) : Prop :=
  Q (m_113, true)
def VC45_J2 (s_ : Numbering_Size) (order : List Int) (Q : ((List Bool) × Bool) → Prop) (I1 : (List Bool) → Int → Prop) (μ1 : (List Bool) → Int → Nat) (m_120 : List Bool) (x_125 : Int) (m_130 : List Bool) (x_135 : Bool) : Prop :=
  (x_135 = true →
  Q ([], false)) ∧
  (x_135 = false →
  ∀ r139, numbering_Var s_ (⟨1, gi order x_125, x_125⟩ : Numbering_Name) = r139 →
  ((0 : Int) ≤ (IntKind.i64.wrap (r139 - 1)) ∧ (IntKind.i64.wrap (r139 - 1)) < (m_130.length : Int)) ∧
  I1 (m_130.set (IntKind.i64.wrap (r139 - 1)).toNat true) (IntKind.i64.wrap (x_125 + 1)) ∧ μ1 (m_130.set (IntKind.i64.wrap (r139 - 1)).toNat true) (IntKind.i64.wrap (x_125 + 1)) < μ1 m_120 x_125)
/-- replevin/places.Truths -/
def VC45 (s_ : Numbering_Size) (order : List Int) (Q : (List Bool) × Bool → Prop) : Prop :=
  ∀ (_ : sm order),
  ∀ r104, numbering_Check s_ = r104 →
  (((r104 != 0) || (((order.length : Nat) : Int) != s_.Ops)) = true →
  Q ([], false)) ∧
  (((r104 != 0) || (((order.length : Nat) : Int) != s_.Ops)) = false →
  ∀ r108, numbering_Vars s_ = r108 →
  ((0 : Int) ≤ r108 ∧ r108 ≤ r108 ∧ r108 ≤ 1099511627776) ∧
  ∃ (I1 : (List Bool) → Int → Prop) (μ1 : (List Bool) → Int → Nat), I1 (List.replicate r108.toNat (false : Bool)) 0 ∧ ∀ (m_120 : List Bool) (x_125 : Int), I1 m_120 x_125 →
  ((decide (x_125 < ((order.length : Nat) : Int))) = true →
  ((0 : Int) ≤ x_125 ∧ x_125 < (order.length : Int)) ∧
  (((decide ((gi order x_125) < 0)) || (decide ((gi order x_125) ≥ s_.Ops))) = true →
  VC45_J2 s_ order Q I1 μ1 m_120 x_125 m_120 true) ∧
  (((decide ((gi order x_125) < 0)) || (decide ((gi order x_125) ≥ s_.Ops))) = false →
  ((0 : Int) ≤ x_125 ∧ x_125 ≤ (order.length : Int)) ∧
  ∀ r152, slices_Contains_int_int (order.take x_125.toNat) (gi order x_125) = r152 →
  VC45_J2 s_ order Q I1 μ1 m_120 x_125 m_120 r152)) ∧
  ((decide (x_125 < ((order.length : Nat) : Int))) = false →
  VC45_J1 Q m_120))


def VC53_J2 (Q : ((List Bool) × Bool) → Prop) (r_109 : List Bool) : Prop :=
  Q (r_109, true)
def VC53_J1 (P : Int) (O : Int) (Q : ((List Bool) × Bool) → Prop) (r_105 : List Bool) : Prop :=
  ∃ (I1 : (List Bool) → Int → Prop) (μ1 : (List Bool) → Int → Nat), I1 r_105 0 ∧ ∀ (r_115 : List Bool) (x_119 : Int), I1 r_115 x_119 →
  ((decide (x_119 < (IntKind.i64.wrap (P + (IntKind.i64.wrap ((IntKind.i64.wrap (P + 1)) * O)))))) = true →
  (r_115.length + [false].length ≤ 1099511627776) ∧
  I1 (r_115 ++ [false]) (IntKind.i64.wrap (x_119 + 1)) ∧ μ1 (r_115 ++ [false]) (IntKind.i64.wrap (x_119 + 1)) < μ1 r_115 x_119) ∧
  ((decide (x_119 < (IntKind.i64.wrap (P + (IntKind.i64.wrap ((IntKind.i64.wrap (P + 1)) * O)))))) = false →
  VC53_J2 Q r_115)
def VC53_J3 (I2 : (List Bool) → Int → Prop) (μ2 : (List Bool) → Int → Nat) (r_134 : List Bool) (r_138 : Int) (r_140 : List Bool) : Prop :=
  I2 r_140 (IntKind.i64.wrap (r_138 + 1)) ∧ μ2 r_140 (IntKind.i64.wrap (r_138 + 1)) < μ2 r_134 r_138
def VC53_J4 (P : Int) (Q : ((List Bool) × Bool) → Prop) (I2 : (List Bool) → Int → Prop) (μ2 : (List Bool) → Int → Nat) (r_134 : List Bool) (r_138 : Int) (r_145 : List Bool) (a_149 : Int) : Prop :=
  ((decide (a_149 < 0)) = true →
  Q ([], false)) ∧
  ((decide (a_149 < 0)) = false →
  ∃ (I3 : (List Bool) → Int → Prop) (μ3 : (List Bool) → Int → Nat), I3 r_145 0 ∧ ∀ (r_151 : List Bool) (x_155 : Int), I3 r_151 x_155 →
  ((decide (x_155 < P)) = true →
  (r_151.length + [(x_155 == a_149)].length ≤ 1099511627776) ∧
  I3 (r_151 ++ [(x_155 == a_149)]) (IntKind.i64.wrap (x_155 + 1)) ∧ μ3 (r_151 ++ [(x_155 == a_149)]) (IntKind.i64.wrap (x_155 + 1)) < μ3 r_151 x_155) ∧
  ((decide (x_155 < P)) = false →
  VC53_J3 I2 μ2 r_134 r_138 r_151))
def VC53_J5 (I4 : (List Bool) → Int → Int → Prop) (μ4 : (List Bool) → Int → Int → Nat) (r_168 : List Bool) (a_172 : Int) (y_173 : Int) (r_175 : List Bool) (a_179 : Int) : Prop :=
  I4 r_175 a_179 (IntKind.i64.wrap (y_173 + 1)) ∧ μ4 r_175 a_179 (IntKind.i64.wrap (y_173 + 1)) < μ4 r_168 a_172 y_173
/-- replevin/replevinref32.Truths -/
def VC53 (P : Int) (O : Int) (S : List Int) (Q : (List Bool) × Bool → Prop) : Prop :=
  ∀ (_ : sm S),
  ∀ r104, ref31_Check P O = r104 →
  (((r104 != 0) || (((S.length : Nat) : Int) != P)) = true →
  Q ([], false)) ∧
  (((r104 != 0) || (((S.length : Nat) : Int) != P)) = false →
  ∃ (I2 : (List Bool) → Int → Prop) (μ2 : (List Bool) → Int → Nat), I2 [] 0 ∧ ∀ (r_134 : List Bool) (r_138 : Int), I2 r_134 r_138 →
  ((decide (r_138 < P)) = true →
  ∃ (I4 : (List Bool) → Int → Int → Prop) (μ4 : (List Bool) → Int → Int → Nat), I4 r_134 (-1) 0 ∧ ∀ (r_168 : List Bool) (a_172 : Int) (y_173 : Int), I4 r_168 a_172 y_173 →
  ((decide (y_173 < P)) = true →
  ((0 : Int) ≤ y_173 ∧ y_173 < (S.length : Int)) ∧
  ((((gi S y_173) == r_138) && (decide (a_172 < 0))) = true →
  VC53_J5 I4 μ4 r_168 a_172 y_173 r_168 y_173) ∧
  ((((gi S y_173) == r_138) && (decide (a_172 < 0))) = false →
  VC53_J5 I4 μ4 r_168 a_172 y_173 r_168 a_172)) ∧
  ((decide (y_173 < P)) = false →
  VC53_J4 P Q I2 μ2 r_134 r_138 r_168 a_172)) ∧
  ((decide (r_138 < P)) = false →
  VC53_J1 P O Q r_134))


def VC51_J2 (Q : ((List Int) × Bool) → Prop) (out_114 : List Int) : Prop :=
  Q (out_114, true)
def VC51_J3 (Q : ((List Int) × Bool) → Prop) (I1 : (List Int) → Int → Prop) (μ1 : (List Int) → Int → Nat) (out_121 : List Int) (x_125 : Int) (out_127 : List Int) (at_131 : Int) : Prop :=
  ((decide (at_131 < 0)) = true →
  Q ([], false)) ∧
  ((decide (at_131 < 0)) = false →
  I1 out_127 (IntKind.i64.wrap (x_125 + 1)) ∧ μ1 out_127 (IntKind.i64.wrap (x_125 + 1)) < μ1 out_121 x_125)
def VC51_J4 (I2 : (List Int) → Int → Int → Prop) (μ2 : (List Int) → Int → Int → Nat) (out_133 : List Int) (at_137 : Int) (x_138 : Int) (out_140 : List Int) (at_144 : Int) : Prop :=
  I2 out_140 at_144 (IntKind.i64.wrap (x_138 + 1)) ∧ μ2 out_140 at_144 (IntKind.i64.wrap (x_138 + 1)) < μ2 out_133 at_137 x_138
def VC51_J5 (Q : ((List Int) × Bool) → Prop) (x_125 : Int) (I2 : (List Int) → Int → Int → Prop) (μ2 : (List Int) → Int → Int → Nat) (out_133 : List Int) (at_137 : Int) (x_138 : Int) (out_153 : List Int) (x_157 : Bool) : Prop :=
  (x_157 = true →
  Q ([], false)) ∧
  (x_157 = false →
  ((0 : Int) ≤ x_138 ∧ x_138 < (out_153.length : Int)) ∧
  VC51_J4 I2 μ2 out_133 at_137 x_138 (out_153.set x_138.toNat x_125) x_138)
def VC51_J1 (s_ : Numbering_Size) (m_ : List Bool) (Q : ((List Int) × Bool) → Prop) (x_102 : Bool) : Prop :=
  (x_102 = true →
  Q ([], false)) ∧
  (x_102 = false →
  (preRep [(-1)] s_.Ops) ∧
  ∀ r110, slices_Repeat_int_int [(-1)] s_.Ops = r110 →
  ∀ (_ : sm r110),
  ∃ (I1 : (List Int) → Int → Prop) (μ1 : (List Int) → Int → Nat), I1 r110 0 ∧ ∀ (out_121 : List Int) (x_125 : Int), I1 out_121 x_125 →
  ((decide (x_125 < s_.Ops)) = true →
  ∃ (I2 : (List Int) → Int → Int → Prop) (μ2 : (List Int) → Int → Int → Nat), I2 out_121 (-1) 0 ∧ ∀ (out_133 : List Int) (at_137 : Int) (x_138 : Int), I2 out_133 at_137 x_138 →
  ((decide (x_138 < s_.Ops)) = true →
  ∀ r148, numbering_Var s_ (⟨1, x_125, x_138⟩ : Numbering_Name) = r148 →
  ((0 : Int) ≤ (IntKind.i64.wrap (r148 - 1)) ∧ (IntKind.i64.wrap (r148 - 1)) < (m_.length : Int)) ∧
  ((!(gi m_ (IntKind.i64.wrap (r148 - 1)))) = true →
  VC51_J4 I2 μ2 out_133 at_137 x_138 out_133 at_137) ∧
  ((!(gi m_ (IntKind.i64.wrap (r148 - 1)))) = false →
  ((decide (at_137 ≥ 0)) = true →
  VC51_J5 Q x_125 I2 μ2 out_133 at_137 x_138 out_133 true) ∧
  ((decide (at_137 ≥ 0)) = false →
  ((0 : Int) ≤ x_138 ∧ x_138 < (out_133.length : Int)) ∧
  VC51_J5 Q x_125 I2 μ2 out_133 at_137 x_138 out_133 (decide ((gi out_133 x_138) ≥ 0))))) ∧
  ((decide (x_138 < s_.Ops)) = false →
  VC51_J3 Q I1 μ1 out_121 x_125 out_133 at_137)) ∧
  ((decide (x_125 < s_.Ops)) = false →
  VC51_J2 Q out_121))
/-- replevin/places.Order -/
def VC51 (s_ : Numbering_Size) (m_ : List Bool) (Q : (List Int) × Bool → Prop) : Prop :=
  ∀ (_ : sm m_),
  ∀ r184, numbering_Check s_ = r184 →
  ((r184 != 0) = true →
  VC51_J1 s_ m_ Q true) ∧
  ((r184 != 0) = false →
  ∀ r188, numbering_Vars s_ = r188 →
  VC51_J1 s_ m_ Q (((m_.length : Nat) : Int) != r188))


def VC52_J1 (Q : ((List Int) × Bool) → Prop) (r_105 : List Int) : Prop :=
  Q (r_105, true)
def VC52_J3 (I1 : (List Int) → Int → Prop) (μ1 : (List Int) → Int → Nat) (r_112 : List Int) (r_116 : Int) (a_122 : Int) (r_125 : List Int) : Prop :=
  (r_125.length + [a_122].length ≤ 1099511627776) ∧
  I1 (r_125 ++ [a_122]) (IntKind.i64.wrap (r_116 + 1)) ∧ μ1 (r_125 ++ [a_122]) (IntKind.i64.wrap (r_116 + 1)) < μ1 r_112 r_116
def VC52_J2 (Q : ((List Int) × Bool) → Prop) (I1 : (List Int) → Int → Prop) (μ1 : (List Int) → Int → Nat) (r_112 : List Int) (r_116 : Int) (r_118 : List Int) (a_122 : Int) (y_123 : Int) : Prop :=
  ((y_123 != 1) = true →
  Q ([], false)) ∧
  ((y_123 != 1) = false →
  ∃ (I2 : (List Int) → Int → Prop) (μ2 : (List Int) → Int → Nat), I2 r_118 0 ∧ ∀ (r_139 : List Int) (x_143 : Int), I2 r_139 x_143 →
  ((decide (x_143 < ((r_139.length : Nat) : Int))) = true →
  ((0 : Int) ≤ x_143 ∧ x_143 < (r_139.length : Int)) ∧
  (((gi r_139 x_143) == a_122) = true →
  Q ([], false)) ∧
  (((gi r_139 x_143) == a_122) = false →
  I2 r_139 (IntKind.i64.wrap (x_143 + 1)) ∧ μ2 r_139 (IntKind.i64.wrap (x_143 + 1)) < μ2 r_139 x_143)) ∧
  ((decide (x_143 < ((r_139.length : Nat) : Int))) = false →
  VC52_J3 I1 μ1 r_112 r_116 a_122 r_139))
def VC52_J4 (I3 : (List Int) → Int → Int → Int → Prop) (μ3 : (List Int) → Int → Int → Int → Nat) (r_154 : List Int) (a_158 : Int) (y_159 : Int) (x_160 : Int) (r_162 : List Int) (a_166 : Int) (y_167 : Int) : Prop :=
  I3 r_162 a_166 y_167 (IntKind.i64.wrap (x_160 + 1)) ∧ μ3 r_162 a_166 y_167 (IntKind.i64.wrap (x_160 + 1)) < μ3 r_154 a_158 y_159 x_160
/-- replevin/replevinref32.Order -/
def VC52 (P : Int) (O : Int) (S : List Bool) (Q : (List Int) × Bool → Prop) : Prop :=
  ∀ (_ : sm S),
  ∀ r104, ref31_Check P O = r104 →
  (((r104 != 0) || (((S.length : Nat) : Int) != (IntKind.i64.wrap ((IntKind.i64.wrap ((IntKind.i64.wrap (P * P)) + P)) + (IntKind.i64.wrap ((IntKind.i64.wrap (P + 1)) * O)))))) = true →
  Q ([], false)) ∧
  (((r104 != 0) || (((S.length : Nat) : Int) != (IntKind.i64.wrap ((IntKind.i64.wrap ((IntKind.i64.wrap (P * P)) + P)) + (IntKind.i64.wrap ((IntKind.i64.wrap (P + 1)) * O)))))) = false →
  ∃ (I1 : (List Int) → Int → Prop) (μ1 : (List Int) → Int → Nat), I1 [] 0 ∧ ∀ (r_112 : List Int) (r_116 : Int), I1 r_112 r_116 →
  ((decide (r_116 < P)) = true →
  ∃ (I3 : (List Int) → Int → Int → Int → Prop) (μ3 : (List Int) → Int → Int → Int → Nat), I3 r_112 (-1) 0 0 ∧ ∀ (r_154 : List Int) (a_158 : Int) (y_159 : Int) (x_160 : Int), I3 r_154 a_158 y_159 x_160 →
  ((decide (x_160 < P)) = true →
  ∀ r171, ref31_At P O x_160 r_116 = r171 →
  ((0 : Int) ≤ (IntKind.i64.wrap (r171 - 1)) ∧ (IntKind.i64.wrap (r171 - 1)) < (S.length : Int)) ∧
  ((gi S (IntKind.i64.wrap (r171 - 1))) = true →
  VC52_J4 I3 μ3 r_154 a_158 y_159 x_160 r_154 x_160 (IntKind.i64.wrap (y_159 + 1))) ∧
  ((gi S (IntKind.i64.wrap (r171 - 1))) = false →
  VC52_J4 I3 μ3 r_154 a_158 y_159 x_160 r_154 a_158 y_159)) ∧
  ((decide (x_160 < P)) = false →
  VC52_J2 Q I1 μ1 r_112 r_116 r_154 a_158 y_159)) ∧
  ((decide (r_116 < P)) = false →
  VC52_J1 Q r_112))


def VC49_J1 (Q : ((List (List Int))) → Prop) (out_101 : List (List Int)) : Prop :=
  Q out_101
def VC49_J2 (I1 : (List (List Int)) → Int → Prop) (μ1 : (List (List Int)) → Int → Nat) (out_108 : List (List Int)) (x_113 : Int) (out_115 : List (List Int)) : Prop :=
  I1 out_115 (IntKind.i64.wrap (x_113 + 1)) ∧ μ1 out_115 (IntKind.i64.wrap (x_113 + 1)) < μ1 out_108 x_113
/-- replevin/places.Most -/
def VC49 (vars : List Int) (Q : (List (List Int)) → Prop) : Prop :=
  ∀ (_ : sm vars),
  ∃ (I1 : (List (List Int)) → Int → Prop) (μ1 : (List (List Int)) → Int → Nat), I1 [] 0 ∧ ∀ (out_108 : List (List Int)) (x_113 : Int), I1 out_108 x_113 →
  ((decide (x_113 < ((vars.length : Nat) : Int))) = true →
  ((0 : Int) ≤ x_113 ∧ x_113 < (vars.length : Int)) ∧
  ((0 : Int) ≤ (IntKind.i64.wrap (x_113 + 1)) ∧ (IntKind.i64.wrap (x_113 + 1)) ≤ (vars.length : Int)) ∧
  ∃ (I2 : (List (List Int)) → Int → Prop) (μ2 : (List (List Int)) → Int → Nat), I2 out_108 0 ∧ ∀ (out_127 : List (List Int)) (x_133 : Int), I2 out_127 x_133 →
  ((decide (x_133 < (((vars.drop (IntKind.i64.wrap (x_113 + 1)).toNat).length : Nat) : Int))) = true →
  ((0 : Int) ≤ x_133 ∧ x_133 < ((vars.drop (IntKind.i64.wrap (x_113 + 1)).toNat).length : Int)) ∧
  (out_127.length + [[IntKind.i64.wrap (0 - (gi vars x_113)), IntKind.i64.wrap (0 - (gi (vars.drop (IntKind.i64.wrap (x_113 + 1)).toNat) x_133))]].length ≤ 1099511627776) ∧
  I2 (out_127 ++ [[IntKind.i64.wrap (0 - (gi vars x_113)), IntKind.i64.wrap (0 - (gi (vars.drop (IntKind.i64.wrap (x_113 + 1)).toNat) x_133))]]) (IntKind.i64.wrap (x_133 + 1)) ∧ μ2 (out_127 ++ [[IntKind.i64.wrap (0 - (gi vars x_113)), IntKind.i64.wrap (0 - (gi (vars.drop (IntKind.i64.wrap (x_113 + 1)).toNat) x_133))]]) (IntKind.i64.wrap (x_133 + 1)) < μ2 out_127 x_133) ∧
  ((decide (x_133 < (((vars.drop (IntKind.i64.wrap (x_113 + 1)).toNat).length : Nat) : Int))) = false →
  VC49_J2 I1 μ1 out_108 x_113 out_127)) ∧
  ((decide (x_113 < ((vars.length : Nat) : Int))) = false →
  VC49_J1 Q out_108)


def VC50_J1 (Q : ((List (List Int))) → Prop) (out_101 : List (List Int)) : Prop :=
  Q out_101
def VC50_J2 (I1 : (List (List Int)) → Int → Prop) (μ1 : (List (List Int)) → Int → Nat) (out_108 : List (List Int)) (i_112 : Int) (out_114 : List (List Int)) : Prop :=
  I1 out_114 (IntKind.i64.wrap (i_112 + 1)) ∧ μ1 out_114 (IntKind.i64.wrap (i_112 + 1)) < μ1 out_108 i_112
/-- replevin/replevinref32.Most -/
def VC50 (l_ : List Int) (Q : (List (List Int)) → Prop) : Prop :=
  ∀ (_ : sm l_),
  ∃ (I1 : (List (List Int)) → Int → Prop) (μ1 : (List (List Int)) → Int → Nat), I1 [] 0 ∧ ∀ (out_108 : List (List Int)) (i_112 : Int), I1 out_108 i_112 →
  ((decide (i_112 < ((l_.length : Nat) : Int))) = true →
  ∃ (I2 : (List (List Int)) → Int → Prop) (μ2 : (List (List Int)) → Int → Nat), I2 out_108 (IntKind.i64.wrap (i_112 + 1)) ∧ ∀ (out_119 : List (List Int)) (k_123 : Int), I2 out_119 k_123 →
  ((decide (k_123 < ((l_.length : Nat) : Int))) = true →
  ((0 : Int) ≤ i_112 ∧ i_112 < (l_.length : Int)) ∧
  ((0 : Int) ≤ k_123 ∧ k_123 < (l_.length : Int)) ∧
  (out_119.length + [[IntKind.i64.wrap (0 - (gi l_ i_112)), IntKind.i64.wrap (0 - (gi l_ k_123))]].length ≤ 1099511627776) ∧
  I2 (out_119 ++ [[IntKind.i64.wrap (0 - (gi l_ i_112)), IntKind.i64.wrap (0 - (gi l_ k_123))]]) (IntKind.i64.wrap (k_123 + 1)) ∧ μ2 (out_119 ++ [[IntKind.i64.wrap (0 - (gi l_ i_112)), IntKind.i64.wrap (0 - (gi l_ k_123))]]) (IntKind.i64.wrap (k_123 + 1)) < μ2 out_119 k_123) ∧
  ((decide (k_123 < ((l_.length : Nat) : Int))) = false →
  VC50_J2 I1 μ1 out_108 i_112 out_119)) ∧
  ((decide (i_112 < ((l_.length : Nat) : Int))) = false →
  VC50_J1 Q out_108)


/-- replevin/places.Clauses$1 -/
def VC74 (k_ : Int) (cap1 : Int) (Q : Numbering_Name → Prop) : Prop :=
  Q (⟨1, cap1, k_⟩ : Numbering_Name)


/-- replevin/places.Clauses$2 -/
def VC75 (a_ : Int) (cap1 : Int) (Q : Numbering_Name → Prop) : Prop :=
  Q (⟨1, a_, cap1⟩ : Numbering_Name)


def VC73_74_J1 (Q : ((List Int)) → Prop) (out_105 : List Int) : Prop :=
  Q out_105
/-- replevin/places.row -/
def VC73_74 (s_ : Numbering_Size) (cap1 : Int) (Q : (List Int) → Prop) : Prop :=
  ((0 : Int) ≤ s_.Ops ∧ s_.Ops ≤ s_.Ops ∧ s_.Ops ≤ 1099511627776) ∧
  ∃ (I1 : (List Int) → Int → Prop) (μ1 : (List Int) → Int → Nat), I1 (List.replicate s_.Ops.toNat (0 : Int)) 0 ∧ ∀ (out_111 : List Int) (x_115 : Int), I1 out_111 x_115 →
  ((decide (x_115 < (((List.replicate s_.Ops.toNat (0 : Int)).length : Nat) : Int))) = true →
  ∀ r120, places_Clauses_1 x_115 cap1 = r120 →
  ∀ r125, numbering_Var s_ r120 = r125 →
  ((0 : Int) ≤ x_115 ∧ x_115 < (out_111.length : Int)) ∧
  I1 (out_111.set x_115.toNat r125) (IntKind.i64.wrap (x_115 + 1)) ∧ μ1 (out_111.set x_115.toNat r125) (IntKind.i64.wrap (x_115 + 1)) < μ1 out_111 x_115) ∧
  ((decide (x_115 < (((List.replicate s_.Ops.toNat (0 : Int)).length : Nat) : Int))) = false →
  VC73_74_J1 Q out_111)


def VC73_75_J1 (Q : ((List Int)) → Prop) (out_105 : List Int) : Prop :=
  Q out_105
/-- replevin/places.row -/
def VC73_75 (s_ : Numbering_Size) (cap1 : Int) (Q : (List Int) → Prop) : Prop :=
  ((0 : Int) ≤ s_.Ops ∧ s_.Ops ≤ s_.Ops ∧ s_.Ops ≤ 1099511627776) ∧
  ∃ (I1 : (List Int) → Int → Prop) (μ1 : (List Int) → Int → Nat), I1 (List.replicate s_.Ops.toNat (0 : Int)) 0 ∧ ∀ (out_111 : List Int) (x_115 : Int), I1 out_111 x_115 →
  ((decide (x_115 < (((List.replicate s_.Ops.toNat (0 : Int)).length : Nat) : Int))) = true →
  ∀ r120, places_Clauses_2 x_115 cap1 = r120 →
  ∀ r125, numbering_Var s_ r120 = r125 →
  ((0 : Int) ≤ x_115 ∧ x_115 < (out_111.length : Int)) ∧
  I1 (out_111.set x_115.toNat r125) (IntKind.i64.wrap (x_115 + 1)) ∧ μ1 (out_111.set x_115.toNat r125) (IntKind.i64.wrap (x_115 + 1)) < μ1 out_111 x_115) ∧
  ((decide (x_115 < (((List.replicate s_.Ops.toNat (0 : Int)).length : Nat) : Int))) = false →
  VC73_75_J1 Q out_111)


def VC47_J2 (Q : ((List (List Int))) → Prop) (out_109 : List (List Int)) : Prop :=
  Q out_109
def VC47_J1 (s_ : Numbering_Size) (Q : ((List (List Int))) → Prop) (out_105 : List (List Int)) : Prop :=
  ∃ (I1 : (List (List Int)) → Int → Prop) (μ1 : (List (List Int)) → Int → Nat), I1 out_105 0 ∧ ∀ (out_115 : List (List Int)) (x_119 : Int), I1 out_115 x_119 →
  ((decide (x_119 < s_.Ops)) = true →
  (preRowP s_ x_119) ∧
  ∀ r123, places_row_places_Clauses_2 s_ x_119 = r123 →
  ∀ (_ : sm r123),
  (preMost r123) ∧
  ∀ r131, places_Most r123 = r131 →
  ∀ (_ : sm r131),
  (out_115.length + r131.length ≤ 1099511627776) ∧
  I1 (out_115 ++ r131) (IntKind.i64.wrap (x_119 + 1)) ∧ μ1 (out_115 ++ r131) (IntKind.i64.wrap (x_119 + 1)) < μ1 out_115 x_119) ∧
  ((decide (x_119 < s_.Ops)) = false →
  VC47_J2 Q out_115)
/-- replevin/places.Clauses -/
def VC47 (s_ : Numbering_Size) (Q : (List (List Int)) → Prop) : Prop :=
  ∀ r104, numbering_Check s_ = r104 →
  ((r104 != 0) = true →
  Q []) ∧
  ((r104 != 0) = false →
  ∃ (I2 : (List (List Int)) → Int → Prop) (μ2 : (List (List Int)) → Int → Nat), I2 [] 0 ∧ ∀ (out_146 : List (List Int)) (x_150 : Int), I2 out_146 x_150 →
  ((decide (x_150 < s_.Ops)) = true →
  (preRowP s_ x_150) ∧
  ∀ r154, places_row_places_Clauses_1 s_ x_150 = r154 →
  ∀ (_ : sm r154),
  (out_146.length + [r154].length ≤ 1099511627776) ∧
  (preMost r154) ∧
  ∀ r171, places_Most r154 = r171 →
  ∀ (_ : sm r171),
  ((out_146 ++ [r154]).length + r171.length ≤ 1099511627776) ∧
  I2 ((out_146 ++ [r154]) ++ r171) (IntKind.i64.wrap (x_150 + 1)) ∧ μ2 ((out_146 ++ [r154]) ++ r171) (IntKind.i64.wrap (x_150 + 1)) < μ2 out_146 x_150) ∧
  ((decide (x_150 < s_.Ops)) = false →
  VC47_J1 s_ Q out_146))


def VC48_J2 (Q : ((List (List Int))) → Prop) (t_109 : List (List Int)) : Prop :=
  Q t_109
def VC48_J3 (I1 : (List (List Int)) → Int → Prop) (μ1 : (List (List Int)) → Int → Nat) (t_115 : List (List Int)) (r_119 : Int) (t_120 : List (List Int)) (a_124 : List Int) : Prop :=
  (preMost a_124) ∧
  ∀ r133, ref32_Most a_124 = r133 →
  ∀ (_ : sm r133),
  (t_120.length + r133.length ≤ 1099511627776) ∧
  I1 (t_120 ++ r133) (IntKind.i64.wrap (r_119 + 1)) ∧ μ1 (t_120 ++ r133) (IntKind.i64.wrap (r_119 + 1)) < μ1 t_115 r_119
def VC48_J1 (P : Int) (O : Int) (Q : ((List (List Int))) → Prop) (t_105 : List (List Int)) : Prop :=
  ∃ (I1 : (List (List Int)) → Int → Prop) (μ1 : (List (List Int)) → Int → Nat), I1 t_105 0 ∧ ∀ (t_115 : List (List Int)) (r_119 : Int), I1 t_115 r_119 →
  ((decide (r_119 < P)) = true →
  ∃ (I2 : (List (List Int)) → (List Int) → Int → Prop) (μ2 : (List (List Int)) → (List Int) → Int → Nat), I2 t_115 [] 0 ∧ ∀ (t_142 : List (List Int)) (a_146 : List Int) (y_150 : Int), I2 t_142 a_146 y_150 →
  ((decide (y_150 < P)) = true →
  ∀ r154, ref31_At P O y_150 r_119 = r154 →
  (a_146.length + [r154].length ≤ 1099511627776) ∧
  I2 t_142 (a_146 ++ [r154]) (IntKind.i64.wrap (y_150 + 1)) ∧ μ2 t_142 (a_146 ++ [r154]) (IntKind.i64.wrap (y_150 + 1)) < μ2 t_142 a_146 y_150) ∧
  ((decide (y_150 < P)) = false →
  VC48_J3 I1 μ1 t_115 r_119 t_142 a_146)) ∧
  ((decide (r_119 < P)) = false →
  VC48_J2 Q t_115)
def VC48_J4 (I3 : (List (List Int)) → Int → Prop) (μ3 : (List (List Int)) → Int → Nat) (t_172 : List (List Int)) (o_176 : Int) (t_177 : List (List Int)) (A_181 : List Int) : Prop :=
  (t_177.length + [A_181].length ≤ 1099511627776) ∧
  (preMost A_181) ∧
  ∀ r199, ref32_Most A_181 = r199 →
  ∀ (_ : sm r199),
  ((t_177 ++ [A_181]).length + r199.length ≤ 1099511627776) ∧
  I3 ((t_177 ++ [A_181]) ++ r199) (IntKind.i64.wrap (o_176 + 1)) ∧ μ3 ((t_177 ++ [A_181]) ++ r199) (IntKind.i64.wrap (o_176 + 1)) < μ3 t_172 o_176
/-- replevin/replevinref32.Clauses -/
def VC48 (P : Int) (O : Int) (Q : (List (List Int)) → Prop) : Prop :=
  ∀ r104, ref31_Check P O = r104 →
  ((r104 != 0) = true →
  Q []) ∧
  ((r104 != 0) = false →
  ∃ (I3 : (List (List Int)) → Int → Prop) (μ3 : (List (List Int)) → Int → Nat), I3 [] 0 ∧ ∀ (t_172 : List (List Int)) (o_176 : Int), I3 t_172 o_176 →
  ((decide (o_176 < P)) = true →
  ∃ (I4 : (List (List Int)) → (List Int) → Int → Prop) (μ4 : (List (List Int)) → (List Int) → Int → Nat), I4 t_172 [] 0 ∧ ∀ (t_208 : List (List Int)) (A_212 : List Int) (r_216 : Int), I4 t_208 A_212 r_216 →
  ((decide (r_216 < P)) = true →
  ∀ r220, ref31_At P O o_176 r_216 = r220 →
  (A_212.length + [r220].length ≤ 1099511627776) ∧
  I4 t_208 (A_212 ++ [r220]) (IntKind.i64.wrap (r_216 + 1)) ∧ μ4 t_208 (A_212 ++ [r220]) (IntKind.i64.wrap (r_216 + 1)) < μ4 t_208 A_212 r_216) ∧
  ((decide (r_216 < P)) = false →
  VC48_J4 I3 μ3 t_172 o_176 t_208 A_212)) ∧
  ((decide (o_176 < P)) = false →
  VC48_J1 P O Q t_172))


/-- replevin/replevinlaw32.two -/
def VC72 (Q : Numbering_Size → Prop) : Prop :=
  Q (⟨2, 1⟩ : Numbering_Size)


/-- replevin/replevinlaw32.awake -/
def VC46 (Q : Bool → Prop) : Prop :=
  ∀ r104, law32_two = r104 →
  ∀ r112, places_Order r104 [false, true, true, false, false, false, false, false, false] = r112 →
  ∀ (_ : sm r112.1),
  ∀ r119, law32_two = r119 →
  ∀ r127, places_Order r119 [true, true, false, false, false, false, false, false, false] = r127 →
  ∀ (_ : sm r127.1),
  ∀ r134, law32_two = r134 →
  ∀ r142, places_Truths r134 [1, 0] = r142 →
  ∀ (_ : sm r142.1),
  ∀ r149, law32_two = r149 →
  ∀ r157, places_Truths r149 [1, 1] = r157 →
  ∀ (_ : sm r157.1),
  (r112.2 = true →
  ∀ r168, ref01_SameInts r112.1 [1, 0] = r168 →
  ((((r168 && (!r127.2)) && r142.2) && (((r142.1.length : Nat) : Int) == 9)) = true →
  ((0 : Int) ≤ 1 ∧ 1 < (r142.1.length : Int)) ∧
  ((gi r142.1 1) = true →
  ((0 : Int) ≤ 2 ∧ 2 < (r142.1.length : Int)) ∧
  ((gi r142.1 2) = true →
  ((0 : Int) ≤ 0 ∧ 0 < (r142.1.length : Int)) ∧
  (((!(gi r142.1 0)) && (!r157.2)) = true →
  ∀ r181, law32_two = r181 →
  ∀ r185, places_Clauses r181 = r185 →
  ∀ (_ : sm r185),
  ∀ r220, ref04_SameRows r185 [[1, 2], [(-1), (-2)], [3, 4], [(-3), (-4)], [(-1), (-3)], [(-2), (-4)]] = r220 →
  (r220 = true →
  (preMost [1, 2, 3]) ∧
  ∀ r228, places_Most [1, 2, 3] = r228 →
  ∀ (_ : sm r228),
  Q (((r228.length : Nat) : Int) == 3)) ∧
  (r220 = false →
  Q false)) ∧
  (((!(gi r142.1 0)) && (!r157.2)) = false →
  Q false)) ∧
  ((gi r142.1 2) = false →
  Q false)) ∧
  ((gi r142.1 1) = false →
  Q false)) ∧
  ((((r168 && (!r127.2)) && r142.2) && (((r142.1.length : Nat) : Int) == 9)) = false →
  Q false)) ∧
  (r112.2 = false →
  Q false)


/-- replevin/replevinlaw32.PlacesTells -/
def VC12 (s_ : Numbering_Size) (vars : List Int) (Q : Bool → Prop) : Prop :=
  ∀ (_ : sm vars),
  ((((decide (s_.Ops > 10)) && (decide (s_.Ops ≤ 64))) || (decide (((vars.length : Nat) : Int) > 40))) = true →
  ∀ r104, law32_awake = r104 →
  Q r104) ∧
  ((((decide (s_.Ops > 10)) && (decide (s_.Ops ≤ 64))) || (decide (((vars.length : Nat) : Int) > 40))) = false →
  ∀ r109, places_Clauses s_ = r109 →
  ∀ (_ : sm r109),
  ∀ r116, ref32_Clauses s_.Ops s_.States = r116 →
  ∀ (_ : sm r116),
  ∀ r123, ref04_SameRows r109 r116 = r123 →
  (r123 = true →
  (preMost vars) ∧
  ∀ r127, places_Most vars = r127 →
  ∀ (_ : sm r127),
  (preMost vars) ∧
  ∀ r134, ref32_Most vars = r134 →
  ∀ (_ : sm r134),
  ∀ r141, ref04_SameRows r127 r134 = r141 →
  (r141 = true →
  ∀ r145, law32_awake = r145 →
  Q r145) ∧
  (r141 = false →
  Q false)) ∧
  (r123 = false →
  Q false))


/-- replevin/replevinlaw32.PlacesReads -/
def VC13 (P : Numbering_Size) (O : List Bool) (S : List Int) (Q : Bool → Prop) : Prop :=
  ∀ (_ : sm O),
  ∀ (_ : sm S),
  (((decide (((O.length : Nat) : Int) > 1000)) || (decide (((S.length : Nat) : Int) > 100))) = true →
  ∀ r104, law32_awake = r104 →
  Q r104) ∧
  (((decide (((O.length : Nat) : Int) > 1000)) || (decide (((S.length : Nat) : Int) > 100))) = false →
  ∀ r108, places_Order P O = r108 →
  ∀ (_ : sm r108.1),
  ∀ r115, ref32_Order P.Ops P.States O = r115 →
  ∀ (_ : sm r115.1),
  ∀ r122, places_Truths P S = r122 →
  ∀ (_ : sm r122.1),
  ∀ r129, ref32_Truths P.Ops P.States S = r129 →
  ∀ (_ : sm r129.1),
  ∀ r136, ref01_SameInts r108.1 r115.1 = r136 →
  ((r136 && (r108.2 == r115.2)) = true →
  ∀ r140, ref03_SameBools r122.1 r129.1 = r140 →
  ((r140 && (r122.2 == r129.2)) = true →
  ∀ r144, law32_awake = r144 →
  Q r144) ∧
  ((r140 && (r122.2 == r129.2)) = false →
  Q false)) ∧
  ((r136 && (r108.2 == r115.2)) = false →
  Q false))


def VC14_J1 (s_ : Numbering_Size) (m_ : List Bool) (Q : Bool → Prop) (x_102 : Bool) : Prop :=
  (x_102 = true →
  ∀ r106, law32_awake = r106 →
  Q r106) ∧
  (x_102 = false →
  ∀ r110, places_Order s_ m_ = r110 →
  ∀ (_ : sm r110.1),
  ∀ r117, places_Clauses s_ = r117 →
  ∀ (_ : sm r117),
  ∀ r124, ref04_First (⟨0, r117⟩ : Api_Formula) m_ = r124 →
  (((r110.2 == (decide (r124 < 0))) && ((r110.2 && (((r110.1.length : Nat) : Int) == s_.Ops)) || ((!r110.2) && (((r110.1.length : Nat) : Int) == 0)))) = true →
  ∀ r128, law32_awake = r128 →
  Q r128) ∧
  (((r110.2 == (decide (r124 < 0))) && ((r110.2 && (((r110.1.length : Nat) : Int) == s_.Ops)) || ((!r110.2) && (((r110.1.length : Nat) : Int) == 0)))) = false →
  Q false))
/-- replevin/replevinlaw32.PlacesOrders -/
def VC14 (s_ : Numbering_Size) (m_ : List Bool) (Q : Bool → Prop) : Prop :=
  ∀ (_ : sm m_),
  ((decide (s_.Ops > 10)) = true →
  VC14_J1 s_ m_ Q true) ∧
  ((decide (s_.Ops > 10)) = false →
  ∀ r132, numbering_Check s_ = r132 →
  ((r132 != 0) = true →
  VC14_J1 s_ m_ Q true) ∧
  ((r132 != 0) = false →
  ∀ r136, numbering_Vars s_ = r136 →
  VC14_J1 s_ m_ Q (((m_.length : Nat) : Int) != r136)))


def VC15_J1 (P : Numbering_Size) (O : List Int) (Q : Bool → Prop) (x_102 : Bool) : Prop :=
  (x_102 = true →
  ∀ r106, law32_awake = r106 →
  Q r106) ∧
  (x_102 = false →
  ∀ r110, places_Clauses P = r110 →
  ∀ (_ : sm r110),
  ((((r110.length : Nat) : Int) != (IntKind.i64.wrap (P.Ops + (IntKind.i64.wrap ((IntKind.i64.wrap (P.Ops * P.Ops)) * (IntKind.i64.wrap (P.Ops - 1))))))) = true →
  Q false) ∧
  ((((r110.length : Nat) : Int) != (IntKind.i64.wrap (P.Ops + (IntKind.i64.wrap ((IntKind.i64.wrap (P.Ops * P.Ops)) * (IntKind.i64.wrap (P.Ops - 1))))))) = false →
  ∀ r117, places_Truths P O = r117 →
  ∀ (_ : sm r117.1),
  ((!r117.2) = true →
  ((((r117.1.length : Nat) : Int) == 0) = true →
  ∀ r124, law32_awake = r124 →
  Q r124) ∧
  ((((r117.1.length : Nat) : Int) == 0) = false →
  Q false)) ∧
  ((!r117.2) = false →
  ∀ r128, places_Order P r117.1 = r128 →
  ∀ (_ : sm r128.1),
  (r128.2 = true →
  ∀ r135, ref01_SameInts r128.1 O = r135 →
  (r135 = true →
  ∀ r139, ref04_First (⟨0, r110⟩ : Api_Formula) r117.1 = r139 →
  ((decide (r139 < 0)) = true →
  ∀ r143, law32_awake = r143 →
  Q r143) ∧
  ((decide (r139 < 0)) = false →
  Q false)) ∧
  (r135 = false →
  Q false)) ∧
  (r128.2 = false →
  Q false))))
/-- replevin/replevinlaw32.PlacesForm -/
def VC15 (P : Numbering_Size) (O : List Int) (Q : Bool → Prop) : Prop :=
  ∀ (_ : sm O),
  ((decide (P.Ops > 10)) = true →
  VC15_J1 P O Q true) ∧
  ((decide (P.Ops > 10)) = false →
  ∀ r147, numbering_Check P = r147 →
  VC15_J1 P O Q ((r147 != 0) || (decide (((O.length : Nat) : Int) > 100))))


end Go.Proofs.Ytlpcjbjlgeaapaa
