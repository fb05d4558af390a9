/- The conditions of the functions, in terms of their callees. Definitions. -/
import Derived.Test.YtnhdgebboafliaaRSpec
set_option linter.all false
namespace Go.Proofs.Ytnhdgebboafliaa
open Go Go.Sv
/-- replevin/replevinlaw23.Few -/
def VC12 (o_ : Api_Object) (Q : Bool → Prop) : Prop :=
  ∀ (_ : sm o_.Rows),
  Q (decide (((o_.Rows.length : Nat) : Int) ≤ 300))


def VC19_J1 (Q : Bool → Prop) : Prop :=
  Q true
/-- replevin/replevinref01.SameInts -/
def VC19 (a_ : List Int) (b_ : List Int) (Q : Bool → Prop) : Prop :=
  ∀ (_ : sm a_),
  ∀ (_ : sm b_),
  ((((a_.length : Nat) : Int) != ((b_.length : Nat) : Int)) = true →
  Q false) ∧
  ((((a_.length : Nat) : Int) != ((b_.length : Nat) : Int)) = false →
  ∃ (I1 : Int → Prop) (μ1 : Int → Nat), I1 0 ∧ ∀ (i_103 : Int), I1 i_103 →
  ((decide (i_103 < ((a_.length : Nat) : Int))) = true →
  ((0 : Int) ≤ i_103 ∧ i_103 < (a_.length : Int)) ∧
  ((0 : Int) ≤ i_103 ∧ i_103 < (b_.length : Int)) ∧
  (((gi a_ i_103) != (gi b_ i_103)) = true →
  Q false) ∧
  (((gi a_ i_103) != (gi b_ i_103)) = false →
  I1 (IntKind.i64.wrap (i_103 + 1)) ∧ μ1 (IntKind.i64.wrap (i_103 + 1)) < μ1 i_103)) ∧
  ((decide (i_103 < ((a_.length : Nat) : Int))) = false →
  VC19_J1 Q))


def VC43_J1 (o_ : Api_Object) (Q : (Int × Int) → Prop) : Prop :=
  Q (((o_.Rows.length : Nat) : Int), 0)
def VC43_J2 (Q : (Int × Int) → Prop) (I1 : Int → Prop) (μ1 : Int → Nat) (i_102 : Int) (x_107 : Bool) : Prop :=
  (x_107 = true →
  Q (i_102, 32)) ∧
  (x_107 = false →
  I1 (IntKind.i64.wrap (i_102 + 1)) ∧ μ1 (IntKind.i64.wrap (i_102 + 1)) < μ1 i_102)
/-- replevin/replevinref23.Check -/
def VC43 (o_ : Api_Object) (Q : Int × Int → Prop) : Prop :=
  ∀ (_ : sm o_.Rows),
  (((((((decide (o_.States < 1)) || (decide (o_.States > 32))) || (decide (o_.Kinds < 1))) || (decide (o_.Kinds > 64))) || (decide (o_.Init < 0))) || (decide (o_.Init ≥ o_.States))) = true →
  Q ((-1), 2)) ∧
  (((((((decide (o_.States < 1)) || (decide (o_.States > 32))) || (decide (o_.Kinds < 1))) || (decide (o_.Kinds > 64))) || (decide (o_.Init < 0))) || (decide (o_.Init ≥ o_.States))) = false →
  ∃ (I1 : Int → Prop) (μ1 : Int → Nat), I1 0 ∧ ∀ (i_102 : Int), I1 i_102 →
  ((decide (i_102 < ((o_.Rows.length : Nat) : Int))) = true →
  ((0 : Int) ≤ i_102 ∧ i_102 < (o_.Rows.length : Int)) ∧
  (((((decide (((gi o_.Rows i_102).State) < 0)) || (decide (((gi o_.Rows i_102).State) ≥ o_.States))) || (decide (((gi o_.Rows i_102).Next) < 0))) || (decide (((gi o_.Rows i_102).Next) ≥ o_.States))) = true →
  Q (i_102, 30)) ∧
  (((((decide (((gi o_.Rows i_102).State) < 0)) || (decide (((gi o_.Rows i_102).State) ≥ o_.States))) || (decide (((gi o_.Rows i_102).Next) < 0))) || (decide (((gi o_.Rows i_102).Next) ≥ o_.States))) = false →
  (((decide (((gi o_.Rows i_102).Kind) < 0)) || (decide (((gi o_.Rows i_102).Kind) ≥ o_.Kinds))) = true →
  Q (i_102, 31)) ∧
  (((decide (((gi o_.Rows i_102).Kind) < 0)) || (decide (((gi o_.Rows i_102).Kind) ≥ o_.Kinds))) = false →
  (((decide (((gi o_.Rows i_102).Result) < 0)) || (decide (((gi o_.Rows i_102).Result) > 1000000))) = true →
  Q (i_102, 7)) ∧
  (((decide (((gi o_.Rows i_102).Result) < 0)) || (decide (((gi o_.Rows i_102).Result) > 1000000))) = false →
  ((decide (i_102 > 0)) = true →
  ((0 : Int) ≤ (IntKind.i64.wrap (i_102 - 1)) ∧ (IntKind.i64.wrap (i_102 - 1)) < (o_.Rows.length : Int)) ∧
  ((decide (((gi o_.Rows (IntKind.i64.wrap (i_102 - 1))).State) > ((gi o_.Rows i_102).State))) = true →
  VC43_J2 Q I1 μ1 i_102 true) ∧
  ((decide (((gi o_.Rows (IntKind.i64.wrap (i_102 - 1))).State) > ((gi o_.Rows i_102).State))) = false →
  ((0 : Int) ≤ (IntKind.i64.wrap (i_102 - 1)) ∧ (IntKind.i64.wrap (i_102 - 1)) < (o_.Rows.length : Int)) ∧
  ((((gi o_.Rows (IntKind.i64.wrap (i_102 - 1))).State) == ((gi o_.Rows i_102).State)) = true →
  ((0 : Int) ≤ (IntKind.i64.wrap (i_102 - 1)) ∧ (IntKind.i64.wrap (i_102 - 1)) < (o_.Rows.length : Int)) ∧
  VC43_J2 Q I1 μ1 i_102 (decide (((gi o_.Rows (IntKind.i64.wrap (i_102 - 1))).Kind) ≥ ((gi o_.Rows i_102).Kind)))) ∧
  ((((gi o_.Rows (IntKind.i64.wrap (i_102 - 1))).State) == ((gi o_.Rows i_102).State)) = false →
  VC43_J2 Q I1 μ1 i_102 false))) ∧
  ((decide (i_102 > 0)) = false →
  VC43_J2 Q I1 μ1 i_102 false))))) ∧
  ((decide (i_102 < ((o_.Rows.length : Nat) : Int))) = false →
  VC43_J1 o_ Q))


def VC47_J1 (Q : (Int × Int × Bool) → Prop) : Prop :=
  Q (0, 0, false)
def VC47_J2 (o_ : Api_Object) (Q : (Int × Int × Bool) → Prop) (I1 : Int → Prop) (μ1 : Int → Nat) (i_101 : Int) (x_103 : Bool) : Prop :=
  (x_103 = true →
  ((0 : Int) ≤ i_101 ∧ i_101 < (o_.Rows.length : Int)) ∧
  ((0 : Int) ≤ i_101 ∧ i_101 < (o_.Rows.length : Int)) ∧
  Q ((gi o_.Rows i_101).Next, (gi o_.Rows i_101).Result, true)) ∧
  (x_103 = false →
  I1 (IntKind.i64.wrap (i_101 + 1)) ∧ μ1 (IntKind.i64.wrap (i_101 + 1)) < μ1 i_101)
/-- replevin/replevinref23.Move -/
def VC47 (o_ : Api_Object) (state : Int) (kind : Int) (Q : Int × Int × Bool → Prop) : Prop :=
  ∀ (_ : sm o_.Rows),
  ∃ (I1 : Int → Prop) (μ1 : Int → Nat), I1 0 ∧ ∀ (i_101 : Int), I1 i_101 →
  ((decide (i_101 < ((o_.Rows.length : Nat) : Int))) = true →
  ((0 : Int) ≤ i_101 ∧ i_101 < (o_.Rows.length : Int)) ∧
  ((((gi o_.Rows i_101).State) == state) = true →
  ((0 : Int) ≤ i_101 ∧ i_101 < (o_.Rows.length : Int)) ∧
  VC47_J2 o_ Q I1 μ1 i_101 (((gi o_.Rows i_101).Kind) == kind)) ∧
  ((((gi o_.Rows i_101).State) == state) = false →
  VC47_J2 o_ Q I1 μ1 i_101 false)) ∧
  ((decide (i_101 < ((o_.Rows.length : Nat) : Int))) = false →
  VC47_J1 Q)


/-- replevin/replevinref28.Step -/
def VC18 (o_ : Api_Object) (state : Int) (kind : Int) (result : Int) (Q : Int × Int → Prop) : Prop :=
  ∀ (_ : sm o_.Rows),
  (((decide (state < 0)) || (decide (state ≥ o_.States))) = true →
  Q (0, 30)) ∧
  (((decide (state < 0)) || (decide (state ≥ o_.States))) = false →
  ∀ r104, ref23_Move o_ state kind = r104 →
  (((!r104.2.2) || (r104.2.1 != result)) = true →
  Q (0, 40)) ∧
  (((!r104.2.2) || (r104.2.1 != result)) = false →
  Q (r104.1, 0)))


def VC15_J1 (picks : List Api_Pick) (Q : (Int × Int × Int) → Prop) (state_105 : Int) : Prop :=
  Q (state_105, ((picks.length : Nat) : Int), 0)
def VC15_J3 (Q : (Int × Int × Int) → Prop) (I1 : Int → Int → Prop) (μ1 : Int → Int → Nat) (state_108 : Int) (i_110 : Int) (r127 : Int × Int) (x_130 : Bool) : Prop :=
  (x_130 = true →
  Q (0, i_110, 40)) ∧
  (x_130 = false →
  I1 r127.1 (IntKind.i64.wrap (i_110 + 1)) ∧ μ1 r127.1 (IntKind.i64.wrap (i_110 + 1)) < μ1 state_108 i_110)
def VC15_J2 (o_ : Api_Object) (l_ : List Api_Oper) (picks : List Api_Pick) (Q : (Int × Int × Int) → Prop) (I1 : Int → Int → Prop) (μ1 : Int → Int → Nat) (state_108 : Int) (i_110 : Int) : Prop :=
  ((0 : Int) ≤ ((gi picks i_110).Oper) ∧ ((gi picks i_110).Oper) < (l_.length : Int)) ∧
  ∀ r127, ref28_Step o_ state_108 ((gi l_ ((gi picks i_110).Oper)).Kind) ((gi picks i_110).Result) = r127 →
  ((r127.2 != 0) = true →
  Q (0, i_110, r127.2)) ∧
  ((r127.2 != 0) = false →
  ((0 : Int) ≤ ((gi picks i_110).Oper) ∧ ((gi picks i_110).Oper) < (l_.length : Int)) ∧
  ((((gi l_ ((gi picks i_110).Oper)).End) != (-1)) = true →
  ((0 : Int) ≤ ((gi picks i_110).Oper) ∧ ((gi picks i_110).Oper) < (l_.length : Int)) ∧
  VC15_J3 Q I1 μ1 state_108 i_110 r127 (((gi l_ ((gi picks i_110).Oper)).Result) != ((gi picks i_110).Result))) ∧
  ((((gi l_ ((gi picks i_110).Oper)).End) != (-1)) = false →
  VC15_J3 Q I1 μ1 state_108 i_110 r127 false))
/-- replevin/replevinref28.From -/
def VC15 (o_ : Api_Object) (l_ : List Api_Oper) (state : Int) (picks : List Api_Pick) (Q : Int × Int × Int → Prop) : Prop :=
  ∀ (_ : sm o_.Rows),
  ∀ (_ : sm l_),
  ∀ (_ : sm picks),
  ∀ r104, ref23_Check o_ = r104 →
  ((r104.2 != 0) = true →
  Q (0, (-1), 2)) ∧
  ((r104.2 != 0) = false →
  (((decide (state < 0)) || (decide (state ≥ o_.States))) = true →
  Q (0, (-1), 30)) ∧
  (((decide (state < 0)) || (decide (state ≥ o_.States))) = false →
  ∃ (I1 : Int → Int → Prop) (μ1 : Int → Int → Nat), I1 state 0 ∧ ∀ (state_108 : Int) (i_110 : Int), I1 state_108 i_110 →
  ((decide (i_110 < ((picks.length : Nat) : Int))) = true →
  ((0 : Int) ≤ i_110 ∧ i_110 < (picks.length : Int)) ∧
  (((decide (((gi picks i_110).Oper) < 0)) || (decide (((gi picks i_110).Oper) ≥ ((l_.length : Nat) : Int)))) = true →
  Q (0, i_110, 2)) ∧
  (((decide (((gi picks i_110).Oper) < 0)) || (decide (((gi picks i_110).Oper) ≥ ((l_.length : Nat) : Int)))) = false →
  ∃ (I2 : Int → Prop) (μ2 : Int → Nat), I2 0 ∧ ∀ (k_147 : Int), I2 k_147 →
  ((decide (k_147 < i_110)) = true →
  ((0 : Int) ≤ k_147 ∧ k_147 < (picks.length : Int)) ∧
  ((((gi picks k_147).Oper) == ((gi picks i_110).Oper)) = true →
  Q (0, i_110, 21)) ∧
  ((((gi picks k_147).Oper) == ((gi picks i_110).Oper)) = false →
  I2 (IntKind.i64.wrap (k_147 + 1)) ∧ μ2 (IntKind.i64.wrap (k_147 + 1)) < μ2 k_147)) ∧
  ((decide (k_147 < i_110)) = false →
  VC15_J2 o_ l_ picks Q I1 μ1 state_108 i_110))) ∧
  ((decide (i_110 < ((picks.length : Nat) : Int))) = false →
  VC15_J1 picks Q state_108)))


/-- replevin/object.Move$1 -/
def VC69 (r_ : Api_Row) (cap1 : Int) (cap2 : Int) (Q : Bool → Prop) : Prop :=
  Q (r_.State == cap1 && (r_.Kind == cap2 && (r_.Next == r_.Next && (r_.Result == r_.Result && true))))


def VC70_69_J1 (Q : Int → Prop) : Prop :=
  Q (-1)
/-- slices.IndexFunc[[]replevin/api.Row,replevin/api.Row] -/
def VC70_69 (s_ : List Api_Row) (cap1 : Int) (cap2 : Int) (Q : Int → Prop) : Prop :=
  ∀ (_ : sm s_),
  ∃ (I1 : Int → Prop) (μ1 : Int → Nat), I1 0 ∧ ∀ (x_102 : Int), I1 x_102 →
  ((decide (x_102 < ((s_.length : Nat) : Int))) = true →
  ((0 : Int) ≤ x_102 ∧ x_102 < (s_.length : Int)) ∧
  ∀ r109, object_Move_1 (gi s_ x_102) cap1 cap2 = r109 →
  (r109 = true →
  Q x_102) ∧
  (r109 = false →
  I1 (IntKind.i64.wrap (x_102 + 1)) ∧ μ1 (IntKind.i64.wrap (x_102 + 1)) < μ1 x_102)) ∧
  ((decide (x_102 < ((s_.length : Nat) : Int))) = false →
  VC70_69_J1 Q)


/-- replevin/object.Move -/
def VC48 (o_ : Api_Object) (state : Int) (kind : Int) (Q : Int × Int × Bool → Prop) : Prop :=
  ∀ (_ : sm o_.Rows),
  ∀ r104, slices_IndexFunc_api_Row_api_Row_object_Move_1 o_.Rows state kind = r104 →
  ((decide (r104 < 0)) = true →
  Q (0, 0, false)) ∧
  ((decide (r104 < 0)) = false →
  ((0 : Int) ≤ r104 ∧ r104 < (o_.Rows.length : Int)) ∧
  ((0 : Int) ≤ r104 ∧ r104 < (o_.Rows.length : Int)) ∧
  Q ((gi o_.Rows r104).Next, (gi o_.Rows r104).Result, true))


/-- (replevin/run.table).move -/
def VC46 (t_ : Run_table) (state : Int) (kind : Int) (Q : Int × Int × Bool → Prop) : Prop :=
  ∀ (_ : sm t_.o.Rows),
  ∀ r104, object_Move t_.o state kind = r104 →
  Q (r104.1, r104.2.1, r104.2.2)


/-- replevin/run.Step -/
def VC17 (o_ : Api_Object) (state : Int) (kind : Int) (result : Int) (Q : Int × Int → Prop) : Prop :=
  ∀ (_ : sm o_.Rows),
  (((decide (state < 0)) || (decide (state ≥ o_.States))) = true →
  Q (0, 30)) ∧
  (((decide (state < 0)) || (decide (state ≥ o_.States))) = false →
  ∀ r104, run_table_move (⟨o_⟩ : Run_table) state kind = r104 →
  (((!r104.2.2) || (r104.2.1 != result)) = true →
  Q (0, 40)) ∧
  (((!r104.2.2) || (r104.2.1 != result)) = false →
  Q (r104.1, 0)))


/-- cmp.isNaN[int] -/
def VC84 (x_ : Int) (Q : Bool → Prop) : Prop :=
  Q (x_ != x_)


/-- cmp.Compare[int] -/
def VC82 (x_ : Int) (y_ : Int) (Q : Int → Prop) : Prop :=
  ∀ r104, cmp_isNaN_int x_ = r104 →
  ∀ r108, cmp_isNaN_int y_ = r108 →
  (r104 = true →
  (r108 = true →
  Q 0) ∧
  (r108 = false →
  Q (-1))) ∧
  (r104 = false →
  (r108 = true →
  Q 1) ∧
  (r108 = false →
  ((decide (x_ < y_)) = true →
  Q (-1)) ∧
  ((decide (x_ < y_)) = false →
  ((decide (x_ > y_)) = true →
  Q 1) ∧
  ((decide (x_ > y_)) = false →
  Q 0))))


def VC81_J1 (Q : Int → Prop) : Prop :=
  Q 0
/-- cmp.Or[int] -/
def VC81 (vals : List Int) (Q : Int → Prop) : Prop :=
  ∀ (_ : sm vals),
  ∃ (I1 : Int → Prop) (μ1 : Int → Nat), I1 0 ∧ ∀ (x_102 : Int), I1 x_102 →
  ((decide (x_102 < ((vals.length : Nat) : Int))) = true →
  ((0 : Int) ≤ x_102 ∧ x_102 < (vals.length : Int)) ∧
  (((gi vals x_102) != 0) = true →
  Q (gi vals x_102)) ∧
  (((gi vals x_102) != 0) = false →
  I1 (IntKind.i64.wrap (x_102 + 1)) ∧ μ1 (IntKind.i64.wrap (x_102 + 1)) < μ1 x_102)) ∧
  ((decide (x_102 < ((vals.length : Nat) : Int))) = false →
  VC81_J1 Q)


/-- replevin/object.place -/
def VC72 (a_ : Api_Row) (b_ : Api_Row) (Q : Int → Prop) : Prop :=
  ∀ r105, cmp_Compare_int a_.State b_.State = r105 →
  ∀ r109, cmp_Compare_int a_.Kind b_.Kind = r109 →
  ∀ r117, cmp_Or_int [r105, r109] = r117 →
  Q r117


/-- replevin/object.within -/
def VC54 (n_ : Int) (top : Int) (Q : Bool → Prop) : Prop :=
  Q ((decide (n_ ≥ 0)) && (decide (n_ < top)))


def VC55_J2 (Q : Int → Prop) (x_114 : Bool) : Prop :=
  (x_114 = true →
  Q 32) ∧
  (x_114 = false →
  Q 0)
def VC55_J1 (o_ : Api_Object) (i_ : Int) (Q : Int → Prop) (x_104 : Bool) : Prop :=
  (x_104 = true →
  Q 30) ∧
  (x_104 = false →
  ∀ r109, object_within ((gi o_.Rows i_).Kind) o_.Kinds = r109 →
  ((!r109) = true →
  Q 31) ∧
  ((!r109) = false →
  ∀ r113, object_within ((gi o_.Rows i_).Result) 1000001 = r113 →
  ((!r113) = true →
  Q 7) ∧
  ((!r113) = false →
  ((decide (i_ > 0)) = true →
  ((0 : Int) ≤ (IntKind.i64.wrap (i_ - 1)) ∧ (IntKind.i64.wrap (i_ - 1)) < (o_.Rows.length : Int)) ∧
  ∀ r122, object_place (gi o_.Rows (IntKind.i64.wrap (i_ - 1))) (gi o_.Rows i_) = r122 →
  VC55_J2 Q (decide (r122 ≥ 0))) ∧
  ((decide (i_ > 0)) = false →
  VC55_J2 Q false))))
/-- replevin/object.row -/
def VC55 (o_ : Api_Object) (i_ : Int) (Q : Int → Prop) : Prop :=
  ∀ (_ : sm o_.Rows),
  ((0 : Int) ≤ i_ ∧ i_ < (o_.Rows.length : Int)) ∧
  ∀ r128, object_within ((gi o_.Rows i_).State) o_.States = r128 →
  ((!r128) = true →
  VC55_J1 o_ i_ Q true) ∧
  ((!r128) = false →
  ∀ r132, object_within ((gi o_.Rows i_).Next) o_.States = r132 →
  VC55_J1 o_ i_ Q (!r132))


def VC31_J2 (o_ : Api_Object) (Q : (Int × Int) → Prop) : Prop :=
  Q (((o_.Rows.length : Nat) : Int), 0)
def VC31_J1 (o_ : Api_Object) (Q : (Int × Int) → Prop) (x_101 : Bool) : Prop :=
  (x_101 = true →
  Q ((-1), 2)) ∧
  (x_101 = false →
  ∃ (I1 : Int → Prop) (μ1 : Int → Nat), I1 0 ∧ ∀ (x_104 : Int), I1 x_104 →
  ((decide (x_104 < ((o_.Rows.length : Nat) : Int))) = true →
  (preRow o_ x_104) ∧
  ∀ r109, object_row o_ x_104 = r109 →
  ((r109 != 0) = true →
  Q (x_104, r109)) ∧
  ((r109 != 0) = false →
  I1 (IntKind.i64.wrap (x_104 + 1)) ∧ μ1 (IntKind.i64.wrap (x_104 + 1)) < μ1 x_104)) ∧
  ((decide (x_104 < ((o_.Rows.length : Nat) : Int))) = false →
  VC31_J2 o_ Q))
/-- replevin/object.Check -/
def VC31 (o_ : Api_Object) (Q : Int × Int → Prop) : Prop :=
  ∀ (_ : sm o_.Rows),
  ∀ r117, object_within (IntKind.i64.wrap (o_.States - 1)) 32 = r117 →
  ((!r117) = true →
  VC31_J1 o_ Q true) ∧
  ((!r117) = false →
  ∀ r121, object_within (IntKind.i64.wrap (o_.Kinds - 1)) 64 = r121 →
  ((!r121) = true →
  VC31_J1 o_ Q true) ∧
  ((!r121) = false →
  ∀ r125, object_within o_.Init o_.States = r125 →
  VC31_J1 o_ Q (!r125)))


/-- replevin/run.may -/
def VC44 (o_ : Api_Object) (state : Int) (Q : Int → Prop) : Prop :=
  ∀ (_ : sm o_.Rows),
  (preO o_) ∧
  ∀ r104, object_Check o_ = r104 →
  ((r104.2 != 0) = true →
  Q 2) ∧
  ((r104.2 != 0) = false →
  (((decide (state < 0)) || (decide (state ≥ o_.States))) = true →
  Q 30) ∧
  (((decide (state < 0)) || (decide (state ≥ o_.States))) = false →
  Q 0))


def VC68_J1 (p_ : Api_Pick) (cap2 : List (Int × Int)) (cap4 : Int) (Q : (Int × Int × (List (Int × Int)) × Int) → Prop) (r111 : Int × Int) (e_112 : Int) : Prop :=
  ((e_112 != 0) = true →
  Q (0, e_112, mput cap2 p_.Oper (IntKind.i64.wrap (((mget cap2 p_.Oper).getD 0) + 1)), cap4)) ∧
  ((e_112 != 0) = false →
  Q (r111.1, 0, mput cap2 p_.Oper (IntKind.i64.wrap (((mget cap2 p_.Oper).getD 0) + 1)), r111.1))
/-- replevin/run.runner$1 -/
def VC68 (p_ : Api_Pick) (cap1 : List Api_Oper) (cap2 : List (Int × Int)) (cap3 : Api_Object) (cap4 : Int) (Q : Int × Int × (List (Int × Int)) × Int → Prop) : Prop :=
  ∀ (_ : sm cap1),
  ∀ (_ : sm cap3.Rows),
  (((decide (p_.Oper < 0)) || (decide (p_.Oper ≥ ((cap1.length : Nat) : Int)))) = true →
  Q (0, 2, cap2, cap4)) ∧
  (((decide (p_.Oper < 0)) || (decide (p_.Oper ≥ ((cap1.length : Nat) : Int)))) = false →
  ((decide (((mget cap2 p_.Oper).getD 0) > 0)) = true →
  Q (0, 21, cap2, cap4)) ∧
  ((decide (((mget cap2 p_.Oper).getD 0) > 0)) = false →
  ((0 : Int) ≤ p_.Oper ∧ p_.Oper < (cap1.length : Int)) ∧
  ∀ r111, run_Step cap3 cap4 ((gi cap1 p_.Oper).Kind) p_.Result = r111 →
  ((((r111.2 == 0) && (((gi cap1 p_.Oper).End) != (-1))) && (((gi cap1 p_.Oper).Result) != p_.Result)) = true →
  VC68_J1 p_ cap2 cap4 Q r111 40) ∧
  ((((r111.2 == 0) && (((gi cap1 p_.Oper).End) != (-1))) && (((gi cap1 p_.Oper).Result) != p_.Result)) = false →
  VC68_J1 p_ cap2 cap4 Q r111 r111.2)))


/-- replevin/run.runner -/
def VC45 (o_ : Api_Object) (l_ : List Api_Oper) (state : Int) (Q : (List Api_Oper) × (List (Int × Int)) × Api_Object × Int → Prop) : Prop :=
  ∀ (_ : sm o_.Rows),
  ∀ (_ : sm l_),
  Q (l_, ([] : List (Int × Int)), o_, state)


def VC16_J1 (picks : List Api_Pick) (Q : (Int × Int × Int) → Prop) (end_126 : Int) : Prop :=
  Q (end_126, ((picks.length : Nat) : Int), 0)
/-- replevin/run.From -/
def VC16 (o_ : Api_Object) (l_ : List Api_Oper) (state : Int) (picks : List Api_Pick) (Q : Int × Int × Int → Prop) : Prop :=
  ∀ (_ : sm o_.Rows),
  ∀ (_ : sm l_),
  ∀ (_ : sm picks),
  (preO1 o_ state) ∧
  ∀ r104, run_may o_ state = r104 →
  ((r104 != 0) = true →
  Q (0, (-1), r104)) ∧
  ((r104 != 0) = false →
  ∀ r108, run_runner o_ l_ state = r108 →
  ∀ (_ : sm r108.1),
  ∀ (_ : sm r108.2.2.1.Rows),
  ∃ (I1 : Int → Int → (List (Int × Int)) → Int → Prop) (μ1 : Int → Int → (List (Int × Int)) → Int → Nat), I1 state 0 r108.2.1 r108.2.2.2 ∧ ∀ (end_128 : Int) (x_130 : Int) (x_132 : List (Int × Int)) (x_135 : Int), I1 end_128 x_130 x_132 x_135 →
  ((decide (x_130 < ((picks.length : Nat) : Int))) = true →
  ((0 : Int) ≤ x_130 ∧ x_130 < (picks.length : Int)) ∧
  ∀ r142, run_runner_1 (gi picks x_130) r108.1 x_132 r108.2.2.1 x_135 = r142 →
  ((r142.2.1 != 0) = true →
  Q (0, x_130, r142.2.1)) ∧
  ((r142.2.1 != 0) = false →
  I1 r142.1 (IntKind.i64.wrap (x_130 + 1)) r142.2.2.1 r142.2.2.2 ∧ μ1 r142.1 (IntKind.i64.wrap (x_130 + 1)) r142.2.2.1 r142.2.2.2 < μ1 end_128 x_130 x_132 x_135)) ∧
  ((decide (x_130 < ((picks.length : Nat) : Int))) = false →
  VC16_J1 picks Q end_128))


/-- replevin/run.Picks -/
def VC14 (o_ : Api_Object) (l_ : List Api_Oper) (picks : List Api_Pick) (Q : Int × Int × Int → Prop) : Prop :=
  ∀ (_ : sm o_.Rows),
  ∀ (_ : sm l_),
  ∀ (_ : sm picks),
  (preO3 o_ l_ o_.Init picks) ∧
  ∀ r104, run_From o_ l_ o_.Init picks = r104 →
  Q (r104.1, r104.2.1, r104.2.2)


def VC20_J1 (Q : ((List Int)) → Prop) (out_129 : List Int) : Prop :=
  Q out_129
/-- replevin/run.States -/
def VC20 (o_ : Api_Object) (l_ : List Api_Oper) (picks : List Api_Pick) (Q : (List Int) → Prop) : Prop :=
  ∀ (_ : sm o_.Rows),
  ∀ (_ : sm l_),
  ∀ (_ : sm picks),
  (preO1 o_ o_.Init) ∧
  ∀ r104, run_may o_ o_.Init = r104 →
  ((r104 != 0) = true →
  Q []) ∧
  ((r104 != 0) = false →
  ∀ r108, run_runner o_ l_ o_.Init = r108 →
  ∀ (_ : sm r108.1),
  ∀ (_ : sm r108.2.2.1.Rows),
  ∃ (I1 : (List Int) → Int → (List (Int × Int)) → Int → Prop) (μ1 : (List Int) → Int → (List (Int × Int)) → Int → Nat), I1 [o_.Init] 0 r108.2.1 r108.2.2.2 ∧ ∀ (out_135 : List Int) (x_140 : Int) (x_142 : List (Int × Int)) (x_145 : Int), I1 out_135 x_140 x_142 x_145 →
  ((decide (x_140 < ((picks.length : Nat) : Int))) = true →
  ((0 : Int) ≤ x_140 ∧ x_140 < (picks.length : Int)) ∧
  ∀ r152, run_runner_1 (gi picks x_140) r108.1 x_142 r108.2.2.1 x_145 = r152 →
  ((r152.2.1 != 0) = true →
  Q []) ∧
  ((r152.2.1 != 0) = false →
  (out_135.length + [r152.1].length ≤ 1099511627776) ∧
  I1 (out_135 ++ [r152.1]) (IntKind.i64.wrap (x_140 + 1)) r152.2.2.1 r152.2.2.2 ∧ μ1 (out_135 ++ [r152.1]) (IntKind.i64.wrap (x_140 + 1)) r152.2.2.1 r152.2.2.2 < μ1 out_135 x_140 x_142 x_145)) ∧
  ((decide (x_140 < ((picks.length : Nat) : Int))) = false →
  VC20_J1 Q out_135))


def VC21_J1 (Q : ((List Int)) → Prop) (out_101 : List Int) : Prop :=
  Q out_101
/-- replevin/replevinref28.States -/
def VC21 (o_ : Api_Object) (l_ : List Api_Oper) (picks : List Api_Pick) (Q : (List Int) → Prop) : Prop :=
  ∀ (_ : sm o_.Rows),
  ∀ (_ : sm l_),
  ∀ (_ : sm picks),
  ∃ (I1 : (List Int) → Int → Prop) (μ1 : (List Int) → Int → Nat), I1 [] 0 ∧ ∀ (out_109 : List Int) (i_113 : Int), I1 out_109 i_113 →
  ((decide (i_113 ≤ ((picks.length : Nat) : Int))) = true →
  ((0 : Int) ≤ i_113 ∧ i_113 ≤ (picks.length : Int)) ∧
  ∀ r122, ref28_From o_ l_ o_.Init (picks.take i_113.toNat) = r122 →
  ((r122.2.2 != 0) = true →
  Q []) ∧
  ((r122.2.2 != 0) = false →
  (out_109.length + [r122.1].length ≤ 1099511627776) ∧
  I1 (out_109 ++ [r122.1]) (IntKind.i64.wrap (i_113 + 1)) ∧ μ1 (out_109 ++ [r122.1]) (IntKind.i64.wrap (i_113 + 1)) < μ1 out_109 i_113)) ∧
  ((decide (i_113 ≤ ((picks.length : Nat) : Int))) = false →
  VC21_J1 Q out_109)


def VC22_J1 (Q : ((List Api_Pick) × Int) → Prop) (out_129 : List Api_Pick) : Prop :=
  Q (out_129, 0)
def VC22_J2 (order : List Int) (Q : ((List Api_Pick) × Int) → Prop) (r108 : (List Api_Oper) × (List (Int × Int)) × Api_Object × Int) (I1 : Int → (List Api_Pick) → Int → (List (Int × Int)) → Int → Prop) (μ1 : Int → (List Api_Pick) → Int → (List (Int × Int)) → Int → Nat) (state_136 : Int) (out_137 : List Api_Pick) (x_142 : Int) (x_145 : List (Int × Int)) (x_148 : Int) (out_153 : List Api_Pick) (x_159 : Int) : Prop :=
  ∀ r166, run_runner_1 (⟨gi order x_142, x_159⟩ : Api_Pick) r108.1 x_145 r108.2.2.1 x_148 = r166 →
  ((r166.2.1 != 0) = true →
  Q ([], r166.2.1)) ∧
  ((r166.2.1 != 0) = false →
  (out_153.length + [(⟨gi order x_142, x_159⟩ : Api_Pick)].length ≤ 1099511627776) ∧
  I1 r166.1 (out_153 ++ [(⟨gi order x_142, x_159⟩ : Api_Pick)]) (IntKind.i64.wrap (x_142 + 1)) r166.2.2.1 r166.2.2.2 ∧ μ1 r166.1 (out_153 ++ [(⟨gi order x_142, x_159⟩ : Api_Pick)]) (IntKind.i64.wrap (x_142 + 1)) r166.2.2.1 r166.2.2.2 < μ1 state_136 out_137 x_142 x_145 x_148)
/-- replevin/run.Fill -/
def VC22 (o_ : Api_Object) (l_ : List Api_Oper) (order : List Int) (Q : (List Api_Pick) × Int → Prop) : Prop :=
  ∀ (_ : sm o_.Rows),
  ∀ (_ : sm l_),
  ∀ (_ : sm order),
  (preO1 o_ o_.Init) ∧
  ∀ r104, run_may o_ o_.Init = r104 →
  ((r104 != 0) = true →
  Q ([], r104)) ∧
  ((r104 != 0) = false →
  ∀ r108, run_runner o_ l_ o_.Init = r108 →
  ∀ (_ : sm r108.1),
  ∀ (_ : sm r108.2.2.1.Rows),
  ((0 : Int) ≤ 0 ∧ 0 ≤ ((order.length : Nat) : Int) ∧ ((order.length : Nat) : Int) ≤ 1099511627776) ∧
  ∃ (I1 : Int → (List Api_Pick) → Int → (List (Int × Int)) → Int → Prop) (μ1 : Int → (List Api_Pick) → Int → (List (Int × Int)) → Int → Nat), I1 o_.Init (List.replicate (0 : Int).toNat ((⟨0, 0⟩ : Api_Pick) : Api_Pick)) 0 r108.2.1 r108.2.2.2 ∧ ∀ (state_136 : Int) (out_137 : List Api_Pick) (x_142 : Int) (x_145 : List (Int × Int)) (x_148 : Int), I1 state_136 out_137 x_142 x_145 x_148 →
  ((decide (x_142 < ((order.length : Nat) : Int))) = true →
  ((0 : Int) ≤ x_142 ∧ x_142 < (order.length : Int)) ∧
  (((decide ((gi order x_142) ≥ 0)) && (decide ((gi order x_142) < ((l_.length : Nat) : Int)))) = true →
  ((0 : Int) ≤ (gi order x_142) ∧ (gi order x_142) < (l_.length : Int)) ∧
  ∀ r190, object_Move o_ state_136 ((gi l_ (gi order x_142)).Kind) = r190 →
  VC22_J2 order Q r108 I1 μ1 state_136 out_137 x_142 x_145 x_148 out_137 r190.2.1) ∧
  (((decide ((gi order x_142) ≥ 0)) && (decide ((gi order x_142) < ((l_.length : Nat) : Int)))) = false →
  VC22_J2 order Q r108 I1 μ1 state_136 out_137 x_142 x_145 x_148 out_137 0)) ∧
  ((decide (x_142 < ((order.length : Nat) : Int))) = false →
  VC22_J1 Q out_137))


def VC23_J1 (Q : ((List Api_Pick) × Int) → Prop) (out_105 : List Api_Pick) : Prop :=
  Q (out_105, 0)
def VC23_J2 (o_ : Api_Object) (l_ : List Api_Oper) (order : List Int) (Q : ((List Api_Pick) × Int) → Prop) (I1 : (List Api_Pick) → Int → Int → Prop) (μ1 : (List Api_Pick) → Int → Int → Nat) (out_113 : List Api_Pick) (state_117 : Int) (i_118 : Int) (out_125 : List Api_Pick) (x_130 : Int) : Prop :=
  (out_125.length + [(⟨gi order i_118, x_130⟩ : Api_Pick)].length ≤ 1099511627776) ∧
  ∀ r143, ref28_From o_ l_ o_.Init (out_125 ++ [(⟨gi order i_118, x_130⟩ : Api_Pick)]) = r143 →
  ((r143.2.2 != 0) = true →
  Q ([], r143.2.2)) ∧
  ((r143.2.2 != 0) = false →
  I1 (out_125 ++ [(⟨gi order i_118, x_130⟩ : Api_Pick)]) r143.1 (IntKind.i64.wrap (i_118 + 1)) ∧ μ1 (out_125 ++ [(⟨gi order i_118, x_130⟩ : Api_Pick)]) r143.1 (IntKind.i64.wrap (i_118 + 1)) < μ1 out_113 state_117 i_118)
def VC23_J3 (o_ : Api_Object) (l_ : List Api_Oper) (order : List Int) (Q : ((List Api_Pick) × Int) → Prop) (I1 : (List Api_Pick) → Int → Int → Prop) (μ1 : (List Api_Pick) → Int → Int → Nat) (out_113 : List Api_Pick) (state_117 : Int) (i_118 : Int) (out_146 : List Api_Pick) (x_150 : Bool) : Prop :=
  (x_150 = true →
  ((0 : Int) ≤ i_118 ∧ i_118 < (order.length : Int)) ∧
  ((0 : Int) ≤ (gi order i_118) ∧ (gi order i_118) < (l_.length : Int)) ∧
  ∀ r164, ref23_Move o_ state_117 ((gi l_ (gi order i_118)).Kind) = r164 →
  VC23_J2 o_ l_ order Q I1 μ1 out_113 state_117 i_118 out_146 r164.2.1) ∧
  (x_150 = false →
  VC23_J2 o_ l_ order Q I1 μ1 out_113 state_117 i_118 out_146 0)
/-- replevin/replevinref28.Fill -/
def VC23 (o_ : Api_Object) (l_ : List Api_Oper) (order : List Int) (Q : (List Api_Pick) × Int → Prop) : Prop :=
  ∀ (_ : sm o_.Rows),
  ∀ (_ : sm l_),
  ∀ (_ : sm order),
  ∀ r104, ref28_From o_ l_ o_.Init [] = r104 →
  ((r104.2.2 != 0) = true →
  Q ([], r104.2.2)) ∧
  ((r104.2.2 != 0) = false →
  ∃ (I1 : (List Api_Pick) → Int → Int → Prop) (μ1 : (List Api_Pick) → Int → Int → Nat), I1 [] r104.1 0 ∧ ∀ (out_113 : List Api_Pick) (state_117 : Int) (i_118 : Int), I1 out_113 state_117 i_118 →
  ((decide (i_118 < ((order.length : Nat) : Int))) = true →
  ((0 : Int) ≤ i_118 ∧ i_118 < (order.length : Int)) ∧
  ((0 : Int) ≤ i_118 ∧ i_118 < (order.length : Int)) ∧
  ((decide ((gi order i_118) ≥ 0)) = true →
  ((0 : Int) ≤ i_118 ∧ i_118 < (order.length : Int)) ∧
  VC23_J3 o_ l_ order Q I1 μ1 out_113 state_117 i_118 out_113 (decide ((gi order i_118) < ((l_.length : Nat) : Int)))) ∧
  ((decide ((gi order i_118) ≥ 0)) = false →
  VC23_J3 o_ l_ order Q I1 μ1 out_113 state_117 i_118 out_113 false)) ∧
  ((decide (i_118 < ((order.length : Nat) : Int))) = false →
  VC23_J1 Q out_113))


def VC24_J1 (Q : Bool → Prop) : Prop :=
  Q true
/-- replevin/replevinref28.Same -/
def VC24 (a_ : List Api_Pick) (b_ : List Api_Pick) (Q : Bool → Prop) : Prop :=
  ∀ (_ : sm a_),
  ∀ (_ : sm b_),
  ((((a_.length : Nat) : Int) != ((b_.length : Nat) : Int)) = true →
  Q false) ∧
  ((((a_.length : Nat) : Int) != ((b_.length : Nat) : Int)) = false →
  ∃ (I1 : Int → Prop) (μ1 : Int → Nat), I1 0 ∧ ∀ (i_103 : Int), I1 i_103 →
  ((decide (i_103 < ((a_.length : Nat) : Int))) = true →
  ((0 : Int) ≤ i_103 ∧ i_103 < (a_.length : Int)) ∧
  ((0 : Int) ≤ i_103 ∧ i_103 < (b_.length : Int)) ∧
  ((!(((gi a_ i_103).Oper) == ((gi b_ i_103).Oper) && (((gi a_ i_103).Result) == ((gi b_ i_103).Result) && true))) = true →
  Q false) ∧
  ((!(((gi a_ i_103).Oper) == ((gi b_ i_103).Oper) && (((gi a_ i_103).Result) == ((gi b_ i_103).Result) && true))) = false →
  I1 (IntKind.i64.wrap (i_103 + 1)) ∧ μ1 (IntKind.i64.wrap (i_103 + 1)) < μ1 i_103)) ∧
  ((decide (i_103 < ((a_.length : Nat) : Int))) = false →
  VC24_J1 Q))


/-- replevin/replevinlaw28.flag -/
def VC41 (Q : Api_Object → Prop) : Prop :=
  Q (⟨2, 2, 0, [(⟨0, 0, 1, 0⟩ : Api_Row), (⟨0, 1, 0, 0⟩ : Api_Row), (⟨1, 1, 1, 1⟩ : Api_Row)]⟩ : Api_Object)


/-- replevin/replevinlaw28.ops -/
def VC42 (Q : (List Api_Oper) → Prop) : Prop :=
  Q [(⟨1, 0, 0, (-1), (-1)⟩ : Api_Oper), (⟨2, 1, 1, 2, 1⟩ : Api_Oper)]


/-- replevin/replevinlaw28.awake -/
def VC13 (Q : Bool → Prop) : Prop :=
  ∀ r108, law28_flag = r108 →
  ∀ (_ : sm r108.Rows),
  ∀ r115, law28_ops = r115 →
  ∀ (_ : sm r115),
  (preO2 r108 r115 [(⟨0, 0⟩ : Api_Pick), (⟨1, 1⟩ : Api_Pick)]) ∧
  ∀ r122, run_Picks r108 r115 [(⟨0, 0⟩ : Api_Pick), (⟨1, 1⟩ : Api_Pick)] = r122 →
  ((0 : Int) ≤ 1 ∧ 1 ≤ ([(⟨0, 0⟩ : Api_Pick), (⟨1, 1⟩ : Api_Pick)].length : Int)) ∧
  ∀ r130, law28_flag = r130 →
  ∀ (_ : sm r130.Rows),
  ∀ r137, law28_ops = r137 →
  ∀ (_ : sm r137),
  (preO2 r130 r137 ([(⟨0, 0⟩ : Api_Pick), (⟨1, 1⟩ : Api_Pick)].drop (1 : Int).toNat)) ∧
  ∀ r144, run_Picks r130 r137 ([(⟨0, 0⟩ : Api_Pick), (⟨1, 1⟩ : Api_Pick)].drop (1 : Int).toNat) = r144 →
  ∀ r148, law28_flag = r148 →
  ∀ (_ : sm r148.Rows),
  ∀ r155, law28_ops = r155 →
  ∀ (_ : sm r155),
  (preO2 r148 r155 [0, 1]) ∧
  ∀ r166, run_Fill r148 r155 [0, 1] = r166 →
  ∀ (_ : sm r166.1),
  ∀ r173, law28_flag = r173 →
  ∀ (_ : sm r173.Rows),
  ∀ r180, law28_ops = r180 →
  ∀ (_ : sm r180),
  (preO2 r173 r180 [1]) ∧
  ∀ r191, run_Fill r173 r180 [1] = r191 →
  ∀ (_ : sm r191.1),
  ∀ r198, law28_flag = r198 →
  ∀ (_ : sm r198.Rows),
  ∀ r205, run_Step r198 0 0 0 = r205 →
  ∀ r209, law28_flag = r209 →
  ∀ (_ : sm r209.Rows),
  ∀ r216, run_Step r209 2 0 0 = r216 →
  ((0 : Int) ≤ 1 ∧ 1 ≤ ([(⟨0, 0⟩ : Api_Pick), (⟨1, 1⟩ : Api_Pick)].length : Int)) ∧
  ∀ r224, law28_flag = r224 →
  ∀ (_ : sm r224.Rows),
  ∀ r231, law28_ops = r231 →
  ∀ (_ : sm r231),
  (preO3 r224 r231 1 ([(⟨0, 0⟩ : Api_Pick), (⟨1, 1⟩ : Api_Pick)].drop (1 : Int).toNat)) ∧
  ∀ r238, run_From r224 r231 1 ([(⟨0, 0⟩ : Api_Pick), (⟨1, 1⟩ : Api_Pick)].drop (1 : Int).toNat) = r238 →
  ∀ r242, law28_flag = r242 →
  ∀ (_ : sm r242.Rows),
  ∀ r249, law28_ops = r249 →
  ∀ (_ : sm r249),
  (preO3 r242 r249 5 []) ∧
  ∀ r256, run_From r242 r249 5 [] = r256 →
  ((((((r122.1 == 1) && (r122.2.1 == 2)) && (r122.2.2 == 0)) && (r144.2.1 == 0)) && (r144.2.2 == 40)) = true →
  ∀ r261, ref28_Same r166.1 [(⟨0, 0⟩ : Api_Pick), (⟨1, 1⟩ : Api_Pick)] = r261 →
  (((((((((r261 && (r166.2 == 0)) && (r191.2 == 40)) && (r205.1 == 1)) && (r205.2 == 0)) && (r216.2 == 30)) && (r238.1 == 1)) && (r238.2.2 == 0)) && (r256.2.2 == 30)) = true →
  ∀ r265, law28_flag = r265 →
  ∀ (_ : sm r265.Rows),
  ∀ r272, law28_ops = r272 →
  ∀ (_ : sm r272),
  (preO2 r265 r272 [(⟨0, 0⟩ : Api_Pick), (⟨1, 1⟩ : Api_Pick)]) ∧
  ∀ r279, run_States r265 r272 [(⟨0, 0⟩ : Api_Pick), (⟨1, 1⟩ : Api_Pick)] = r279 →
  ∀ (_ : sm r279),
  ∀ r290, ref01_SameInts r279 [0, 1, 1] = r290 →
  (r290 = true →
  ((0 : Int) ≤ 1 ∧ 1 ≤ ([(⟨0, 0⟩ : Api_Pick), (⟨1, 1⟩ : Api_Pick)].length : Int)) ∧
  ∀ r297, law28_flag = r297 →
  ∀ (_ : sm r297.Rows),
  ∀ r304, law28_ops = r304 →
  ∀ (_ : sm r304),
  (preO2 r297 r304 ([(⟨0, 0⟩ : Api_Pick), (⟨1, 1⟩ : Api_Pick)].drop (1 : Int).toNat)) ∧
  ∀ r311, run_States r297 r304 ([(⟨0, 0⟩ : Api_Pick), (⟨1, 1⟩ : Api_Pick)].drop (1 : Int).toNat) = r311 →
  ∀ (_ : sm r311),
  Q (((r311.length : Nat) : Int) == 0)) ∧
  (r290 = false →
  Q false)) ∧
  (((((((((r261 && (r166.2 == 0)) && (r191.2 == 40)) && (r205.1 == 1)) && (r205.2 == 0)) && (r216.2 == 30)) && (r238.1 == 1)) && (r238.2.2 == 0)) && (r256.2.2 == 30)) = false →
  Q false)) ∧
  ((((((r122.1 == 1) && (r122.2.1 == 2)) && (r122.2.2 == 0)) && (r144.2.1 == 0)) && (r144.2.2 == 40)) = false →
  Q false)


/-- replevin/replevinlaw28.RunTells -/
def VC3 (o_ : Api_Object) (l_ : List Api_Oper) (x_ : Law28_Case) (Q : Bool → Prop) : Prop :=
  ∀ (_ : sm o_.Rows),
  ∀ (_ : sm l_),
  ∀ (_ : sm x_.Picks),
  ∀ r104, law23_Few o_ = r104 →
  ((((!r104) || (decide (((l_.length : Nat) : Int) > 60))) || (decide (((x_.Picks.length : Nat) : Int) > 60))) = true →
  ∀ r108, law28_awake = r108 →
  Q r108) ∧
  ((((!r104) || (decide (((l_.length : Nat) : Int) > 60))) || (decide (((x_.Picks.length : Nat) : Int) > 60))) = false →
  (preO2 o_ l_ x_.Picks) ∧
  ∀ r112, run_Picks o_ l_ x_.Picks = r112 →
  ∀ r116, ref28_From o_ l_ o_.Init x_.Picks = r116 →
  (preO3 o_ l_ x_.State x_.Picks) ∧
  ∀ r120, run_From o_ l_ x_.State x_.Picks = r120 →
  ∀ r124, ref28_From o_ l_ x_.State x_.Picks = r124 →
  ∀ r128, run_Step o_ x_.State x_.Kind x_.Result = r128 →
  ∀ r132, ref28_Step o_ x_.State x_.Kind x_.Result = r132 →
  (((((((((r112.1 == r116.1) && (r112.2.1 == r116.2.1)) && (r112.2.2 == r116.2.2)) && (r120.1 == r124.1)) && (r120.2.1 == r124.2.1)) && (r120.2.2 == r124.2.2)) && (r128.1 == r132.1)) && (r128.2 == r132.2)) = true →
  (preO2 o_ l_ x_.Picks) ∧
  ∀ r137, run_States o_ l_ x_.Picks = r137 →
  ∀ (_ : sm r137),
  (preR2 o_ l_ x_.Picks) ∧
  ∀ r144, ref28_States o_ l_ x_.Picks = r144 →
  ∀ (_ : sm r144),
  ∀ r151, ref01_SameInts r137 r144 = r151 →
  (r151 = true →
  ∀ r155, law28_awake = r155 →
  Q r155) ∧
  (r151 = false →
  Q false)) ∧
  (((((((((r112.1 == r116.1) && (r112.2.1 == r116.2.1)) && (r112.2.2 == r116.2.2)) && (r120.1 == r124.1)) && (r120.2.1 == r124.2.1)) && (r120.2.2 == r124.2.2)) && (r128.1 == r132.1)) && (r128.2 == r132.2)) = false →
  Q false))


/-- replevin/replevinlaw28.RunFills -/
def VC4 (o_ : Api_Object) (l_ : List Api_Oper) (order : List Int) (Q : Bool → Prop) : Prop :=
  ∀ (_ : sm o_.Rows),
  ∀ (_ : sm l_),
  ∀ (_ : sm order),
  ∀ r104, law23_Few o_ = r104 →
  ((((!r104) || (decide (((l_.length : Nat) : Int) > 60))) || (decide (((order.length : Nat) : Int) > 60))) = true →
  ∀ r108, law28_awake = r108 →
  Q r108) ∧
  ((((!r104) || (decide (((l_.length : Nat) : Int) > 60))) || (decide (((order.length : Nat) : Int) > 60))) = false →
  (preO2 o_ l_ order) ∧
  ∀ r112, run_Fill o_ l_ order = r112 →
  ∀ (_ : sm r112.1),
  (preR2 o_ l_ order) ∧
  ∀ r119, ref28_Fill o_ l_ order = r119 →
  ∀ (_ : sm r119.1),
  ∀ r126, ref28_Same r112.1 r119.1 = r126 →
  ((r126 && (r112.2 == r119.2)) = true →
  ∀ r130, law28_awake = r130 →
  Q r130) ∧
  ((r126 && (r112.2 == r119.2)) = false →
  Q false))


def VC5_J2 (Q : Bool → Prop) : Prop :=
  ∀ r132, law28_awake = r132 →
  Q r132
def VC5_J3 (Q : Bool → Prop) (I1 : Int → Prop) (μ1 : Int → Nat) (i_135 : Int) (x_175 : Bool) : Prop :=
  (x_175 = true →
  Q false) ∧
  (x_175 = false →
  I1 (IntKind.i64.wrap (i_135 + 1)) ∧ μ1 (IntKind.i64.wrap (i_135 + 1)) < μ1 i_135)
def VC5_J1 (o_ : Api_Object) (l_ : List Api_Oper) (x_ : Law28_Case) (Q : Bool → Prop) (r112 : Int × Int × Int) (r116 : (List Int)) (x_126 : Bool) : Prop :=
  (x_126 = true →
  Q false) ∧
  (x_126 = false →
  ∃ (I1 : Int → Prop) (μ1 : Int → Nat), I1 0 ∧ ∀ (i_135 : Int), I1 i_135 →
  ((decide (i_135 < ((x_.Picks.length : Nat) : Int))) = true →
  ((0 : Int) ≤ i_135 ∧ i_135 < (x_.Picks.length : Int)) ∧
  (((decide (((gi x_.Picks i_135).Oper) < 0)) || (decide (((gi x_.Picks i_135).Oper) ≥ ((l_.length : Nat) : Int)))) = true →
  Q false) ∧
  (((decide (((gi x_.Picks i_135).Oper) < 0)) || (decide (((gi x_.Picks i_135).Oper) ≥ ((l_.length : Nat) : Int)))) = false →
  ((0 : Int) ≤ i_135 ∧ i_135 < (r116.length : Int)) ∧
  ((0 : Int) ≤ ((gi x_.Picks i_135).Oper) ∧ ((gi x_.Picks i_135).Oper) < (l_.length : Int)) ∧
  ∀ r153, run_Step o_ (gi r116 i_135) ((gi l_ ((gi x_.Picks i_135).Oper)).Kind) ((gi x_.Picks i_135).Result) = r153 →
  ((0 : Int) ≤ i_135 ∧ i_135 ≤ (x_.Picks.length : Int)) ∧
  (preO2 o_ l_ (x_.Picks.take i_135.toNat)) ∧
  ∀ r161, run_Picks o_ l_ (x_.Picks.take i_135.toNat) = r161 →
  ((0 : Int) ≤ i_135 ∧ i_135 < (r116.length : Int)) ∧
  ((0 : Int) ≤ i_135 ∧ i_135 ≤ (x_.Picks.length : Int)) ∧
  (preO3 o_ l_ (gi r116 i_135) (x_.Picks.drop i_135.toNat)) ∧
  ∀ r172, run_From o_ l_ (gi r116 i_135) (x_.Picks.drop i_135.toNat) = r172 →
  ((r153.2 != 0) = true →
  VC5_J3 Q I1 μ1 i_135 true) ∧
  ((r153.2 != 0) = false →
  ((0 : Int) ≤ (IntKind.i64.wrap (i_135 + 1)) ∧ (IntKind.i64.wrap (i_135 + 1)) < (r116.length : Int)) ∧
  (((r153.1 != (gi r116 (IntKind.i64.wrap (i_135 + 1)))) || (r161.2.2 != 0)) = true →
  VC5_J3 Q I1 μ1 i_135 true) ∧
  (((r153.1 != (gi r116 (IntKind.i64.wrap (i_135 + 1)))) || (r161.2.2 != 0)) = false →
  ((0 : Int) ≤ i_135 ∧ i_135 < (r116.length : Int)) ∧
  VC5_J3 Q I1 μ1 i_135 (((r161.1 != (gi r116 i_135)) || (r172.2.2 != 0)) || (r172.1 != r112.1)))))) ∧
  ((decide (i_135 < ((x_.Picks.length : Nat) : Int))) = false →
  VC5_J2 Q))
/-- replevin/replevinlaw28.RunSteps -/
def VC5 (o_ : Api_Object) (l_ : List Api_Oper) (x_ : Law28_Case) (Q : Bool → Prop) : Prop :=
  ∀ (_ : sm o_.Rows),
  ∀ (_ : sm l_),
  ∀ (_ : sm x_.Picks),
  ∀ r104, law23_Few o_ = r104 →
  ((((!r104) || (decide (((l_.length : Nat) : Int) > 60))) || (decide (((x_.Picks.length : Nat) : Int) > 60))) = true →
  ∀ r108, law28_awake = r108 →
  Q r108) ∧
  ((((!r104) || (decide (((l_.length : Nat) : Int) > 60))) || (decide (((x_.Picks.length : Nat) : Int) > 60))) = false →
  (preO2 o_ l_ x_.Picks) ∧
  ∀ r112, run_Picks o_ l_ x_.Picks = r112 →
  (preO2 o_ l_ x_.Picks) ∧
  ∀ r116, run_States o_ l_ x_.Picks = r116 →
  ∀ (_ : sm r116),
  ((r112.2.2 != 0) = true →
  ((((((r116.length : Nat) : Int) == 0) && (r112.1 == 0)) && (decide (r112.2.1 < ((x_.Picks.length : Nat) : Int)))) = true →
  ∀ r123, law28_awake = r123 →
  Q r123) ∧
  ((((((r116.length : Nat) : Int) == 0) && (r112.1 == 0)) && (decide (r112.2.1 < ((x_.Picks.length : Nat) : Int)))) = false →
  Q false)) ∧
  ((r112.2.2 != 0) = false →
  ((((r116.length : Nat) : Int) != (IntKind.i64.wrap (((x_.Picks.length : Nat) : Int) + 1))) = true →
  VC5_J1 o_ l_ x_ Q r112 r116 true) ∧
  ((((r116.length : Nat) : Int) != (IntKind.i64.wrap (((x_.Picks.length : Nat) : Int) + 1))) = false →
  ((0 : Int) ≤ 0 ∧ 0 < (r116.length : Int)) ∧
  (((gi r116 0) != o_.Init) = true →
  VC5_J1 o_ l_ x_ Q r112 r116 true) ∧
  (((gi r116 0) != o_.Init) = false →
  ((0 : Int) ≤ (IntKind.i64.wrap (((r116.length : Nat) : Int) - 1)) ∧ (IntKind.i64.wrap (((r116.length : Nat) : Int) - 1)) < (r116.length : Int)) ∧
  VC5_J1 o_ l_ x_ Q r112 r116 ((gi r116 (IntKind.i64.wrap (((r116.length : Nat) : Int) - 1))) != r112.1)))))


def VC6_J3 (Q : Bool → Prop) : Prop :=
  ∀ r145, law28_awake = r145 →
  Q r145
def VC6_J2 (o_ : Api_Object) (l_ : List Api_Oper) (Q : Bool → Prop) (order_110 : List Int) (r121 : (List Api_Pick) × Int) (x_132 : Bool) : Prop :=
  (x_132 = true →
  Q false) ∧
  (x_132 = false →
  ((r121.2 != 0) = true →
  ((((r121.1.length : Nat) : Int) == 0) = true →
  ∀ r137, law28_awake = r137 →
  Q r137) ∧
  ((((r121.1.length : Nat) : Int) == 0) = false →
  Q false)) ∧
  ((r121.2 != 0) = false →
  (preO2 o_ l_ r121.1) ∧
  ∀ r141, run_Picks o_ l_ r121.1 = r141 →
  ((((r141.2.2 != 0) || (r141.2.1 != ((order_110.length : Nat) : Int))) || (((r121.1.length : Nat) : Int) != ((order_110.length : Nat) : Int))) = true →
  Q false) ∧
  ((((r141.2.2 != 0) || (r141.2.1 != ((order_110.length : Nat) : Int))) || (((r121.1.length : Nat) : Int) != ((order_110.length : Nat) : Int))) = false →
  ∃ (I1 : Int → Prop) (μ1 : Int → Nat), I1 0 ∧ ∀ (i_148 : Int), I1 i_148 →
  ((decide (i_148 < ((r121.1.length : Nat) : Int))) = true →
  ((0 : Int) ≤ i_148 ∧ i_148 < (r121.1.length : Int)) ∧
  ((0 : Int) ≤ i_148 ∧ i_148 < (order_110.length : Int)) ∧
  ((((gi r121.1 i_148).Oper) != (gi order_110 i_148)) = true →
  Q false) ∧
  ((((gi r121.1 i_148).Oper) != (gi order_110 i_148)) = false →
  I1 (IntKind.i64.wrap (i_148 + 1)) ∧ μ1 (IntKind.i64.wrap (i_148 + 1)) < μ1 i_148)) ∧
  ((decide (i_148 < ((r121.1.length : Nat) : Int))) = false →
  VC6_J3 Q))))
def VC6_J1 (o_ : Api_Object) (l_ : List Api_Oper) (x_ : Law28_Case) (Q : Bool → Prop) (order_110 : List Int) : Prop :=
  (preO2 o_ l_ order_110) ∧
  ∀ r121, run_Fill o_ l_ order_110 = r121 →
  ∀ (_ : sm r121.1),
  (preO2 o_ l_ x_.Picks) ∧
  ∀ r128, run_Picks o_ l_ x_.Picks = r128 →
  ((r128.2.2 == 0) = true →
  ((r121.2 != 0) = true →
  VC6_J2 o_ l_ Q order_110 r121 true) ∧
  ((r121.2 != 0) = false →
  ∀ r165, ref28_Same r121.1 x_.Picks = r165 →
  VC6_J2 o_ l_ Q order_110 r121 (!r165))) ∧
  ((r128.2.2 == 0) = false →
  VC6_J2 o_ l_ Q order_110 r121 false)
/-- replevin/replevinlaw28.RunJoins -/
def VC6 (o_ : Api_Object) (l_ : List Api_Oper) (x_ : Law28_Case) (Q : Bool → Prop) : Prop :=
  ∀ (_ : sm o_.Rows),
  ∀ (_ : sm l_),
  ∀ (_ : sm x_.Picks),
  ∀ r104, law23_Few o_ = r104 →
  ((((!r104) || (decide (((l_.length : Nat) : Int) > 60))) || (decide (((x_.Picks.length : Nat) : Int) > 60))) = true →
  ∀ r108, law28_awake = r108 →
  Q r108) ∧
  ((((!r104) || (decide (((l_.length : Nat) : Int) > 60))) || (decide (((x_.Picks.length : Nat) : Int) > 60))) = false →
  ∃ (I2 : (List Int) → Int → Prop) (μ2 : (List Int) → Int → Nat), I2 [] 0 ∧ ∀ (order_169 : List Int) (i_173 : Int), I2 order_169 i_173 →
  ((decide (i_173 < ((x_.Picks.length : Nat) : Int))) = true →
  ((0 : Int) ≤ i_173 ∧ i_173 < (x_.Picks.length : Int)) ∧
  (order_169.length + [(gi x_.Picks i_173).Oper].length ≤ 1099511627776) ∧
  I2 (order_169 ++ [(gi x_.Picks i_173).Oper]) (IntKind.i64.wrap (i_173 + 1)) ∧ μ2 (order_169 ++ [(gi x_.Picks i_173).Oper]) (IntKind.i64.wrap (i_173 + 1)) < μ2 order_169 i_173) ∧
  ((decide (i_173 < ((x_.Picks.length : Nat) : Int))) = false →
  VC6_J1 o_ l_ x_ Q order_169))


end Go.Proofs.Ytnhdgebboafliaa
