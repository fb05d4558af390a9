/- The conditions of the functions, in terms of their callees. Definitions. -/
import Derived.Test.YtnhdgebboafliaaWSpec
set_option linter.all false
namespace Go.Proofs.Ytnhdgebboafliaa
open Go Go.Sv
/-- replevin/replevinlaw23.Few -/
def VC12 (o_ : Api_Object) (Q : Bool → Prop) : Prop :=
  ∀ (_ : sm o_.Rows),
  Q (decide (((o_.Rows.length : Nat) : Int) ≤ 300))


/-- replevin/object.within -/
def VC54 (n_ : Int) (top : Int) (Q : Bool → Prop) : Prop :=
  Q ((decide (n_ ≥ 0)) && (decide (n_ < top)))


def VC81_J1 (Q : Int → Prop) : Prop :=
  Q 0
/-- cmp.Or[int] -/
def VC81 (vals : List Int) (Q : Int → Prop) : Prop :=
  ∀ (_ : sm vals),
  ∃ (I1 : Int → Prop) (μ1 : Int → Nat), I1 0 ∧ ∀ (x_102 : Int), I1 x_102 →
  ((decide (x_102 < ((vals.length : Nat) : Int))) = true →
  ((0 : Int) ≤ x_102 ∧ x_102 < (vals.length : Int)) ∧
  (((gi vals x_102) != 0) = true →
  Q (gi vals x_102)) ∧
  (((gi vals x_102) != 0) = false →
  I1 (IntKind.i64.wrap (x_102 + 1)) ∧ μ1 (IntKind.i64.wrap (x_102 + 1)) < μ1 x_102)) ∧
  ((decide (x_102 < ((vals.length : Nat) : Int))) = false →
  VC81_J1 Q)


/-- cmp.isNaN[int] -/
def VC84 (x_ : Int) (Q : Bool → Prop) : Prop :=
  Q (x_ != x_)


/-- cmp.Compare[int] -/
def VC82 (x_ : Int) (y_ : Int) (Q : Int → Prop) : Prop :=
  ∀ r104, cmp_isNaN_int x_ = r104 →
  ∀ r108, cmp_isNaN_int y_ = r108 →
  (r104 = true →
  (r108 = true →
  Q 0) ∧
  (r108 = false →
  Q (-1))) ∧
  (r104 = false →
  (r108 = true →
  Q 1) ∧
  (r108 = false →
  ((decide (x_ < y_)) = true →
  Q (-1)) ∧
  ((decide (x_ < y_)) = false →
  ((decide (x_ > y_)) = true →
  Q 1) ∧
  ((decide (x_ > y_)) = false →
  Q 0))))


/-- replevin/object.place -/
def VC72 (a_ : Api_Row) (b_ : Api_Row) (Q : Int → Prop) : Prop :=
  ∀ r106, cmp_Compare_int a_.State b_.State = r106 →
  ∀ r110, cmp_Compare_int a_.Kind b_.Kind = r110 →
  ∀ r118, cmp_Or_int [r106, r110] = r118 →
  Q r118


def VC55_J2 (Q : Int → Prop) (x_114 : Bool) : Prop :=
  (x_114 = true →
  Q 32) ∧
  (x_114 = false →
  Q 0)
def VC55_J1 (o_ : Api_Object) (i_ : Int) (Q : Int → Prop) (x_104 : Bool) : Prop :=
  (x_104 = true →
  Q 30) ∧
  (x_104 = false →
  ∀ r109, object_within ((gi o_.Rows i_).Kind) o_.Kinds = r109 →
  ((!r109) = true →
  Q 31) ∧
  ((!r109) = false →
  ∀ r113, object_within ((gi o_.Rows i_).Result) 1000001 = r113 →
  ((!r113) = true →
  Q 7) ∧
  ((!r113) = false →
  ((decide (i_ > 0)) = true →
  ((0 : Int) ≤ (IntKind.i64.wrap (i_ - 1)) ∧ (IntKind.i64.wrap (i_ - 1)) < (o_.Rows.length : Int)) ∧
  ∀ r123, object_place (gi o_.Rows (IntKind.i64.wrap (i_ - 1))) (gi o_.Rows i_) = r123 →
  VC55_J2 Q (decide (r123 ≥ 0))) ∧
  ((decide (i_ > 0)) = false →
  VC55_J2 Q false))))
/-- replevin/object.row -/
def VC55 (o_ : Api_Object) (i_ : Int) (Q : Int → Prop) : Prop :=
  ∀ (_ : sm o_.Rows),
  ((0 : Int) ≤ i_ ∧ i_ < (o_.Rows.length : Int)) ∧
  ∀ r129, object_within ((gi o_.Rows i_).State) o_.States = r129 →
  ((!r129) = true →
  VC55_J1 o_ i_ Q true) ∧
  ((!r129) = false →
  ∀ r133, object_within ((gi o_.Rows i_).Next) o_.States = r133 →
  VC55_J1 o_ i_ Q (!r133))


def VC31_J2 (o_ : Api_Object) (Q : (Int × Int) → Prop) : Prop :=
  Q (((o_.Rows.length : Nat) : Int), 0)
def VC31_J1 (o_ : Api_Object) (Q : (Int × Int) → Prop) (x_101 : Bool) : Prop :=
  (x_101 = true →
  Q ((-1), 2)) ∧
  (x_101 = false →
  ∃ (I1 : Int → Prop) (μ1 : Int → Nat), I1 0 ∧ ∀ (x_104 : Int), I1 x_104 →
  ((decide (x_104 < ((o_.Rows.length : Nat) : Int))) = true →
  (preRow o_ x_104) ∧
  ∀ r109, object_row o_ x_104 = r109 →
  ((r109 != 0) = true →
  Q (x_104, r109)) ∧
  ((r109 != 0) = false →
  I1 (IntKind.i64.wrap (x_104 + 1)) ∧ μ1 (IntKind.i64.wrap (x_104 + 1)) < μ1 x_104)) ∧
  ((decide (x_104 < ((o_.Rows.length : Nat) : Int))) = false →
  VC31_J2 o_ Q))
/-- replevin/object.Check -/
def VC31 (o_ : Api_Object) (Q : Int × Int → Prop) : Prop :=
  ∀ (_ : sm o_.Rows),
  ∀ r117, object_within (IntKind.i64.wrap (o_.States - 1)) 32 = r117 →
  ((!r117) = true →
  VC31_J1 o_ Q true) ∧
  ((!r117) = false →
  ∀ r121, object_within (IntKind.i64.wrap (o_.Kinds - 1)) 64 = r121 →
  ((!r121) = true →
  VC31_J1 o_ Q true) ∧
  ((!r121) = false →
  ∀ r125, object_within o_.Init o_.States = r125 →
  VC31_J1 o_ Q (!r125)))


/-- replevin/run.may -/
def VC44 (o_ : Api_Object) (state : Int) (Q : Int → Prop) : Prop :=
  ∀ (_ : sm o_.Rows),
  (preO o_) ∧
  ∀ r104, object_Check o_ = r104 →
  ((r104.2 != 0) = true →
  Q 2) ∧
  ((r104.2 != 0) = false →
  (((decide (state < 0)) || (decide (state ≥ o_.States))) = true →
  Q 30) ∧
  (((decide (state < 0)) || (decide (state ≥ o_.States))) = false →
  Q 0))


/-- replevin/run.runner -/
def VC45 (o_ : Api_Object) (l_ : List Api_Oper) (state : Int) (Q : (List Api_Oper) × (List (Int × Int)) × Api_Object × Int → Prop) : Prop :=
  ∀ (_ : sm o_.Rows),
  ∀ (_ : sm l_),
  Q (l_, ([] : List (Int × Int)), o_, state)


/-- replevin/object.Move$1 -/
def VC69 (r_ : Api_Row) (cap1 : Int) (cap2 : Int) (Q : Bool → Prop) : Prop :=
  Q (r_.State == cap1 && (r_.Kind == cap2 && (r_.Next == r_.Next && (r_.Result == r_.Result && true))))


def VC70_69_J1 (Q : Int → Prop) : Prop :=
  Q (-1)
/-- slices.IndexFunc[[]replevin/api.Row,replevin/api.Row] -/
def VC70_69 (s_ : List Api_Row) (cap1 : Int) (cap2 : Int) (Q : Int → Prop) : Prop :=
  ∀ (_ : sm s_),
  ∃ (I1 : Int → Prop) (μ1 : Int → Nat), I1 0 ∧ ∀ (x_102 : Int), I1 x_102 →
  ((decide (x_102 < ((s_.length : Nat) : Int))) = true →
  ((0 : Int) ≤ x_102 ∧ x_102 < (s_.length : Int)) ∧
  ∀ r109, object_Move_1 (gi s_ x_102) cap1 cap2 = r109 →
  (r109 = true →
  Q x_102) ∧
  (r109 = false →
  I1 (IntKind.i64.wrap (x_102 + 1)) ∧ μ1 (IntKind.i64.wrap (x_102 + 1)) < μ1 x_102)) ∧
  ((decide (x_102 < ((s_.length : Nat) : Int))) = false →
  VC70_69_J1 Q)


/-- replevin/object.Move -/
def VC48 (o_ : Api_Object) (state : Int) (kind : Int) (Q : Int × Int × Bool → Prop) : Prop :=
  ∀ (_ : sm o_.Rows),
  ∀ r104, slices_IndexFunc_api_Row_api_Row_object_Move_1 o_.Rows state kind = r104 →
  ((decide (r104 < 0)) = true →
  Q (0, 0, false)) ∧
  ((decide (r104 < 0)) = false →
  ((0 : Int) ≤ r104 ∧ r104 < (o_.Rows.length : Int)) ∧
  ((0 : Int) ≤ r104 ∧ r104 < (o_.Rows.length : Int)) ∧
  Q ((gi o_.Rows r104).Next, (gi o_.Rows r104).Result, true))


/-- (replevin/run.table).move -/
def VC46 (t_ : Run_table) (state : Int) (kind : Int) (Q : Int × Int × Bool → Prop) : Prop :=
  ∀ (_ : sm t_.o.Rows),
  ∀ r104, object_Move t_.o state kind = r104 →
  Q (r104.1, r104.2.1, r104.2.2)


/-- replevin/run.Step -/
def VC17 (o_ : Api_Object) (state : Int) (kind : Int) (result : Int) (Q : Int × Int → Prop) : Prop :=
  ∀ (_ : sm o_.Rows),
  (((decide (state < 0)) || (decide (state ≥ o_.States))) = true →
  Q (0, 30)) ∧
  (((decide (state < 0)) || (decide (state ≥ o_.States))) = false →
  ∀ r104, run_table_move (⟨o_⟩ : Run_table) state kind = r104 →
  (((!r104.2.2) || (r104.2.1 != result)) = true →
  Q (0, 40)) ∧
  (((!r104.2.2) || (r104.2.1 != result)) = false →
  Q (r104.1, 0)))


def VC68_J1 (p_ : Api_Pick) (cap2 : List (Int × Int)) (cap4 : Int) (Q : (Int × Int × (List (Int × Int)) × Int) → Prop) (r111 : Int × Int) (e_112 : Int) : Prop :=
  ((e_112 != 0) = true →
  Q (0, e_112, mput cap2 p_.Oper (IntKind.i64.wrap (((mget cap2 p_.Oper).getD 0) + 1)), cap4)) ∧
  ((e_112 != 0) = false →
  Q (r111.1, 0, mput cap2 p_.Oper (IntKind.i64.wrap (((mget cap2 p_.Oper).getD 0) + 1)), r111.1))
/-- replevin/run.runner$1 -/
def VC68 (p_ : Api_Pick) (cap1 : List Api_Oper) (cap2 : List (Int × Int)) (cap3 : Api_Object) (cap4 : Int) (Q : Int × Int × (List (Int × Int)) × Int → Prop) : Prop :=
  ∀ (_ : sm cap1),
  ∀ (_ : sm cap3.Rows),
  (((decide (p_.Oper < 0)) || (decide (p_.Oper ≥ ((cap1.length : Nat) : Int)))) = true →
  Q (0, 2, cap2, cap4)) ∧
  (((decide (p_.Oper < 0)) || (decide (p_.Oper ≥ ((cap1.length : Nat) : Int)))) = false →
  ((decide (((mget cap2 p_.Oper).getD 0) > 0)) = true →
  Q (0, 21, cap2, cap4)) ∧
  ((decide (((mget cap2 p_.Oper).getD 0) > 0)) = false →
  ((0 : Int) ≤ p_.Oper ∧ p_.Oper < (cap1.length : Int)) ∧
  ∀ r111, run_Step cap3 cap4 ((gi cap1 p_.Oper).Kind) p_.Result = r111 →
  ((((r111.2 == 0) && (((gi cap1 p_.Oper).End) != (-1))) && (((gi cap1 p_.Oper).Result) != p_.Result)) = true →
  VC68_J1 p_ cap2 cap4 Q r111 40) ∧
  ((((r111.2 == 0) && (((gi cap1 p_.Oper).End) != (-1))) && (((gi cap1 p_.Oper).Result) != p_.Result)) = false →
  VC68_J1 p_ cap2 cap4 Q r111 r111.2)))


def VC16_J1 (picks : List Api_Pick) (Q : (Int × Int × Int) → Prop) (end_126 : Int) : Prop :=
  Q (end_126, ((picks.length : Nat) : Int), 0)
/-- replevin/run.From -/
def VC16 (o_ : Api_Object) (l_ : List Api_Oper) (state : Int) (picks : List Api_Pick) (Q : Int × Int × Int → Prop) : Prop :=
  ∀ (_ : sm o_.Rows),
  ∀ (_ : sm l_),
  ∀ (_ : sm picks),
  (preO1 o_ state) ∧
  ∀ r104, run_may o_ state = r104 →
  ((r104 != 0) = true →
  Q (0, (-1), r104)) ∧
  ((r104 != 0) = false →
  ∀ r108, run_runner o_ l_ state = r108 →
  ∀ (_ : sm r108.1),
  ∀ (_ : sm r108.2.2.1.Rows),
  ∃ (I1 : Int → Int → (List (Int × Int)) → Int → Prop) (μ1 : Int → Int → (List (Int × Int)) → Int → Nat), I1 state 0 r108.2.1 r108.2.2.2 ∧ ∀ (end_128 : Int) (x_130 : Int) (x_132 : List (Int × Int)) (x_135 : Int), I1 end_128 x_130 x_132 x_135 →
  ((decide (x_130 < ((picks.length : Nat) : Int))) = true →
  ((0 : Int) ≤ x_130 ∧ x_130 < (picks.length : Int)) ∧
  ∀ r142, run_runner_1 (gi picks x_130) r108.1 x_132 r108.2.2.1 x_135 = r142 →
  ((r142.2.1 != 0) = true →
  Q (0, x_130, r142.2.1)) ∧
  ((r142.2.1 != 0) = false →
  I1 r142.1 (IntKind.i64.wrap (x_130 + 1)) r142.2.2.1 r142.2.2.2 ∧ μ1 r142.1 (IntKind.i64.wrap (x_130 + 1)) r142.2.2.1 r142.2.2.2 < μ1 end_128 x_130 x_132 x_135)) ∧
  ((decide (x_130 < ((picks.length : Nat) : Int))) = false →
  VC16_J1 picks Q end_128))


/-- replevin/run.Picks -/
def VC14 (o_ : Api_Object) (l_ : List Api_Oper) (picks : List Api_Pick) (Q : Int × Int × Int → Prop) : Prop :=
  ∀ (_ : sm o_.Rows),
  ∀ (_ : sm l_),
  ∀ (_ : sm picks),
  (preO3 o_ l_ o_.Init picks) ∧
  ∀ r104, run_From o_ l_ o_.Init picks = r104 →
  Q (r104.1, r104.2.1, r104.2.2)


def VC71_J1 (Q : ((List (Int × Int))) → Prop) (x_105 : List (Int × Int)) : Prop :=
  Q x_105
/-- replevin/witness.absent -/
def VC71 (picks : List Api_Pick) (Q : (List (Int × Int)) → Prop) : Prop :=
  ∀ (_ : sm picks),
  ∃ (I1 : Int → (List (Int × Int)) → Prop) (μ1 : Int → (List (Int × Int)) → Nat), I1 0 ([] : List (Int × Int)) ∧ ∀ (x_108 : Int) (x_109 : List (Int × Int)), I1 x_108 x_109 →
  ((decide (x_108 < ((picks.length : Nat) : Int))) = true →
  ((0 : Int) ≤ x_108 ∧ x_108 < (picks.length : Int)) ∧
  I1 (IntKind.i64.wrap (x_108 + 1)) (mput x_109 ((gi picks x_108).Oper) (IntKind.i64.wrap (((mget x_109 ((gi picks x_108).Oper)).getD 0) + 1))) ∧ μ1 (IntKind.i64.wrap (x_108 + 1)) (mput x_109 ((gi picks x_108).Oper) (IntKind.i64.wrap (((mget x_109 ((gi picks x_108).Oper)).getD 0) + 1))) < μ1 x_108 x_109) ∧
  ((decide (x_108 < ((picks.length : Nat) : Int))) = false →
  VC71_J1 Q x_109)


/-- replevin/witness.absent$1 -/
def VC80 (i_ : Int) (cap1 : List (Int × Int)) (Q : Bool → Prop) : Prop :=
  Q (((mget cap1 i_).getD 0) == 0)


def VC52_J1 (Q : ((List Int)) → Prop) (out_109 : List Int) : Prop :=
  Q out_109
def VC52_J2 (I1 : (List Int) → Int → Prop) (μ1 : (List Int) → Int → Nat) (out_115 : List Int) (x_120 : Int) (out_122 : List Int) : Prop :=
  I1 out_122 (IntKind.i64.wrap (x_120 + 1)) ∧ μ1 out_122 (IntKind.i64.wrap (x_120 + 1)) < μ1 out_115 x_120
def VC52_J3 (I1 : (List Int) → Int → Prop) (μ1 : (List Int) → Int → Nat) (out_115 : List Int) (x_120 : Int) (out_131 : List Int) (x_136 : Bool) : Prop :=
  (x_136 = true →
  (out_131.length + [x_120].length ≤ 1099511627776) ∧
  VC52_J2 I1 μ1 out_115 x_120 (out_131 ++ [x_120])) ∧
  (x_136 = false →
  VC52_J2 I1 μ1 out_115 x_120 out_131)
/-- replevin/witness.those -/
def VC52 (l_ : List Api_Oper) (picks : List Api_Pick) (pending : Bool) (Q : (List Int) → Prop) : Prop :=
  ∀ (_ : sm l_),
  ∀ (_ : sm picks),
  ∀ r104, witness_absent picks = r104 →
  ∃ (I1 : (List Int) → Int → Prop) (μ1 : (List Int) → Int → Nat), I1 [] 0 ∧ ∀ (out_115 : List Int) (x_120 : Int), I1 out_115 x_120 →
  ((decide (x_120 < ((l_.length : Nat) : Int))) = true →
  ((0 : Int) ≤ x_120 ∧ x_120 < (l_.length : Int)) ∧
  (((((gi l_ x_120).End) == (-1)) == pending) = true →
  ∀ r150, witness_absent_1 x_120 r104 = r150 →
  VC52_J3 I1 μ1 out_115 x_120 out_115 r150) ∧
  (((((gi l_ x_120).End) == (-1)) == pending) = false →
  VC52_J3 I1 μ1 out_115 x_120 out_115 false)) ∧
  ((decide (x_120 < ((l_.length : Nat) : Int))) = false →
  VC52_J1 Q out_115)


/-- replevin/witness.Missing -/
def VC27 (l_ : List Api_Oper) (picks : List Api_Pick) (Q : (List Int) → Prop) : Prop :=
  ∀ (_ : sm l_),
  ∀ (_ : sm picks),
  (preT3 l_ picks false) ∧
  ∀ r104, witness_those l_ picks false = r104 →
  ∀ (_ : sm r104),
  Q r104


/-- replevin/oper.Ahead -/
def VC53 (a_ : Api_Oper) (b_ : Api_Oper) (Q : Bool → Prop) : Prop :=
  Q ((decide (a_.End ≥ 0)) && (decide (a_.End < b_.Start)))


def VC28_J1 (Q : Int → Prop) : Prop :=
  Q (-1)
def VC28_J2 (I1 : (List (Int × Int)) → Int → Prop) (μ1 : (List (Int × Int)) → Int → Nat) (there_106 : List (Int × Int)) (x_109 : Int) (there_111 : List (Int × Int)) : Prop :=
  I1 there_111 (IntKind.i64.wrap (x_109 + 1)) ∧ μ1 there_111 (IntKind.i64.wrap (x_109 + 1)) < μ1 there_106 x_109
def VC28_J3 (picks : List Api_Pick) (I1 : (List (Int × Int)) → Int → Prop) (μ1 : (List (Int × Int)) → Int → Nat) (there_106 : List (Int × Int)) (x_109 : Int) : Prop :=
  VC28_J2 I1 μ1 there_106 x_109 (mput there_106 ((gi picks x_109).Oper) (IntKind.i64.wrap (((mget there_106 ((gi picks x_109).Oper)).getD 0) + 1)))
def VC28_J4 (Q : Int → Prop) (x_109 : Int) (I2 : Int → Prop) (μ2 : Int → Nat) (x_127 : Int) (x_135 : Bool) : Prop :=
  (x_135 = true →
  Q x_109) ∧
  (x_135 = false →
  I2 (IntKind.i64.wrap (x_127 + 1)) ∧ μ2 (IntKind.i64.wrap (x_127 + 1)) < μ2 x_127)
/-- replevin/witness.Order -/
def VC28 (l_ : List Api_Oper) (picks : List Api_Pick) (Q : Int → Prop) : Prop :=
  ∀ (_ : sm l_),
  ∀ (_ : sm picks),
  ∃ (I1 : (List (Int × Int)) → Int → Prop) (μ1 : (List (Int × Int)) → Int → Nat), I1 ([] : List (Int × Int)) 0 ∧ ∀ (there_106 : List (Int × Int)) (x_109 : Int), I1 there_106 x_109 →
  ((decide (x_109 < ((picks.length : Nat) : Int))) = true →
  ((0 : Int) ≤ x_109 ∧ x_109 < (picks.length : Int)) ∧
  (((decide (((gi picks x_109).Oper) < 0)) || (decide (((gi picks x_109).Oper) ≥ ((l_.length : Nat) : Int)))) = true →
  VC28_J2 I1 μ1 there_106 x_109 there_106) ∧
  (((decide (((gi picks x_109).Oper) < 0)) || (decide (((gi picks x_109).Oper) ≥ ((l_.length : Nat) : Int)))) = false →
  ∃ (I2 : Int → Prop) (μ2 : Int → Nat), I2 0 ∧ ∀ (x_127 : Int), I2 x_127 →
  ((decide (x_127 < ((l_.length : Nat) : Int))) = true →
  ((0 : Int) ≤ x_127 ∧ x_127 < (l_.length : Int)) ∧
  ((0 : Int) ≤ ((gi picks x_109).Oper) ∧ ((gi picks x_109).Oper) < (l_.length : Int)) ∧
  ∀ r144, oper_Ahead (gi l_ x_127) (gi l_ ((gi picks x_109).Oper)) = r144 →
  (r144 = true →
  VC28_J4 Q x_109 I2 μ2 x_127 (((mget there_106 x_127).getD 0) == 0)) ∧
  (r144 = false →
  VC28_J4 Q x_109 I2 μ2 x_127 false)) ∧
  ((decide (x_127 < ((l_.length : Nat) : Int))) = false →
  VC28_J3 picks I1 μ1 there_106 x_109))) ∧
  ((decide (x_109 < ((picks.length : Nat) : Int))) = false →
  VC28_J1 Q)


/-- replevin/oper.ended -/
def VC73 (o_ : Api_Oper) (Q : Bool → Prop) : Prop :=
  ((o_.End == (-1)) = true →
  Q (o_.Result == (-1))) ∧
  ((o_.End == (-1)) = false →
  Q ((((decide (o_.End > o_.Start)) && (decide (o_.End ≤ 9999))) && (decide (o_.Result ≥ 0))) && (decide (o_.Result ≤ 1000000))))


/-- replevin/oper.alone -/
def VC56 (o_ : Api_Oper) (Q : Int → Prop) : Prop :=
  (((((decide (o_.Prc < 1)) || (decide (o_.Prc > 1000))) || (decide (o_.Start < 0))) || (decide (o_.Start > 9999))) = true →
  Q 2) ∧
  (((((decide (o_.Prc < 1)) || (decide (o_.Prc > 1000))) || (decide (o_.Start < 0))) || (decide (o_.Start > 9999))) = false →
  (((decide (o_.Kind < 0)) || (decide (o_.Kind ≥ 64))) = true →
  Q 31) ∧
  (((decide (o_.Kind < 0)) || (decide (o_.Kind ≥ 64))) = false →
  ∀ r104, oper_ended o_ = r104 →
  ((!r104) = true →
  Q 7) ∧
  ((!r104) = false →
  Q 0)))


def VC32_J1 (l_ : List Api_Oper) (Q : (Int × Int) → Prop) : Prop :=
  Q (((l_.length : Nat) : Int), 0)
def VC32_J2 (l_ : List Api_Oper) (I1 : (List (Int × Int)) → (List (Int × Api_Oper)) → Int → Prop) (μ1 : (List (Int × Int)) → (List (Int × Api_Oper)) → Int → Nat) (used_111 : List (Int × Int)) (latest_113 : List (Int × Api_Oper)) (x_116 : Int) (used_118 : List (Int × Int)) : Prop :=
  I1 used_118 (mput latest_113 ((gi l_ x_116).Prc) (gi l_ x_116)) (IntKind.i64.wrap (x_116 + 1)) ∧ μ1 used_118 (mput latest_113 ((gi l_ x_116).Prc) (gi l_ x_116)) (IntKind.i64.wrap (x_116 + 1)) < μ1 used_111 latest_113 x_116
def VC32_J4 (l_ : List Api_Oper) (Q : (Int × Int) → Prop) (I1 : (List (Int × Int)) → (List (Int × Api_Oper)) → Int → Prop) (μ1 : (List (Int × Int)) → (List (Int × Api_Oper)) → Int → Nat) (used_111 : List (Int × Int)) (latest_113 : List (Int × Api_Oper)) (x_116 : Int) (x_139 : Bool) : Prop :=
  (x_139 = true →
  Q (x_116, 33)) ∧
  (x_139 = false →
  ((decide (((gi l_ x_116).End) ≥ 0)) = true →
  VC32_J2 l_ I1 μ1 used_111 latest_113 x_116 (mput (mput used_111 ((gi l_ x_116).Start) (IntKind.i64.wrap (((mget used_111 ((gi l_ x_116).Start)).getD 0) + 1))) ((gi l_ x_116).End) (IntKind.i64.wrap (((mget (mput used_111 ((gi l_ x_116).Start) (IntKind.i64.wrap (((mget used_111 ((gi l_ x_116).Start)).getD 0) + 1))) ((gi l_ x_116).End)).getD 0) + 1)))) ∧
  ((decide (((gi l_ x_116).End) ≥ 0)) = false →
  VC32_J2 l_ I1 μ1 used_111 latest_113 x_116 (mput used_111 ((gi l_ x_116).Start) (IntKind.i64.wrap (((mget used_111 ((gi l_ x_116).Start)).getD 0) + 1)))))
def VC32_J3 (l_ : List Api_Oper) (Q : (Int × Int) → Prop) (I1 : (List (Int × Int)) → (List (Int × Api_Oper)) → Int → Prop) (μ1 : (List (Int × Int)) → (List (Int × Api_Oper)) → Int → Nat) (used_111 : List (Int × Int)) (latest_113 : List (Int × Api_Oper)) (x_116 : Int) (x_133 : Bool) : Prop :=
  (x_133 = true →
  Q (x_116, 32)) ∧
  (x_133 = false →
  (((mget latest_113 ((gi l_ x_116).Prc)).isSome) = true →
  ∀ r151, oper_Ahead ((mget latest_113 ((gi l_ x_116).Prc)).getD (⟨0, 0, 0, 0, 0⟩ : Api_Oper)) (gi l_ x_116) = r151 →
  VC32_J4 l_ Q I1 μ1 used_111 latest_113 x_116 (!r151)) ∧
  (((mget latest_113 ((gi l_ x_116).Prc)).isSome) = false →
  VC32_J4 l_ Q I1 μ1 used_111 latest_113 x_116 false))
/-- replevin/oper.Check -/
def VC32 (l_ : List Api_Oper) (Q : Int × Int → Prop) : Prop :=
  ∀ (_ : sm l_),
  ((decide (((l_.length : Nat) : Int) > 5000)) = true →
  Q (0, 3)) ∧
  ((decide (((l_.length : Nat) : Int) > 5000)) = false →
  ∃ (I1 : (List (Int × Int)) → (List (Int × Api_Oper)) → Int → Prop) (μ1 : (List (Int × Int)) → (List (Int × Api_Oper)) → Int → Nat), I1 ([] : List (Int × Int)) ([] : List (Int × Api_Oper)) 0 ∧ ∀ (used_111 : List (Int × Int)) (latest_113 : List (Int × Api_Oper)) (x_116 : Int), I1 used_111 latest_113 x_116 →
  ((decide (x_116 < ((l_.length : Nat) : Int))) = true →
  ((0 : Int) ≤ x_116 ∧ x_116 < (l_.length : Int)) ∧
  ∀ r128, oper_alone (gi l_ x_116) = r128 →
  ((r128 != 0) = true →
  Q (x_116, r128)) ∧
  ((r128 != 0) = false →
  ((decide (x_116 > 0)) = true →
  ((0 : Int) ≤ (IntKind.i64.wrap (x_116 - 1)) ∧ (IntKind.i64.wrap (x_116 - 1)) < (l_.length : Int)) ∧
  ((decide (((gi l_ x_116).Start) ≤ ((gi l_ (IntKind.i64.wrap (x_116 - 1))).Start))) = true →
  VC32_J3 l_ Q I1 μ1 used_111 latest_113 x_116 true) ∧
  ((decide (((gi l_ x_116).Start) ≤ ((gi l_ (IntKind.i64.wrap (x_116 - 1))).Start))) = false →
  ((decide (((mget used_111 ((gi l_ x_116).Start)).getD 0) > 0)) = true →
  VC32_J3 l_ Q I1 μ1 used_111 latest_113 x_116 true) ∧
  ((decide (((mget used_111 ((gi l_ x_116).Start)).getD 0) > 0)) = false →
  ((decide (((gi l_ x_116).End) ≥ 0)) = true →
  VC32_J3 l_ Q I1 μ1 used_111 latest_113 x_116 (decide (((mget used_111 ((gi l_ x_116).End)).getD 0) > 0))) ∧
  ((decide (((gi l_ x_116).End) ≥ 0)) = false →
  VC32_J3 l_ Q I1 μ1 used_111 latest_113 x_116 false)))) ∧
  ((decide (x_116 > 0)) = false →
  ((decide (((mget used_111 ((gi l_ x_116).Start)).getD 0) > 0)) = true →
  VC32_J3 l_ Q I1 μ1 used_111 latest_113 x_116 true) ∧
  ((decide (((mget used_111 ((gi l_ x_116).Start)).getD 0) > 0)) = false →
  ((decide (((gi l_ x_116).End) ≥ 0)) = true →
  VC32_J3 l_ Q I1 μ1 used_111 latest_113 x_116 (decide (((mget used_111 ((gi l_ x_116).End)).getD 0) > 0))) ∧
  ((decide (((gi l_ x_116).End) ≥ 0)) = false →
  VC32_J3 l_ Q I1 μ1 used_111 latest_113 x_116 false))))) ∧
  ((decide (x_116 < ((l_.length : Nat) : Int))) = false →
  VC32_J1 l_ Q))


/-- replevin/witness.Check -/
def VC49 (o_ : Api_Object) (l_ : List Api_Oper) (picks : List Api_Pick) (Q : Int × Int → Prop) : Prop :=
  ∀ (_ : sm o_.Rows),
  ∀ (_ : sm l_),
  ∀ (_ : sm picks),
  (preO o_) ∧
  ∀ r104, object_Check o_ = r104 →
  ∀ r108, oper_Check l_ = r108 →
  (((r104.2 != 0) || (r108.2 != 0)) = true →
  Q ((-1), 2)) ∧
  (((r104.2 != 0) || (r108.2 != 0)) = false →
  (preO2 o_ l_ picks) ∧
  ∀ r112, run_Picks o_ l_ picks = r112 →
  ((r112.2.2 != 0) = true →
  Q (r112.2.1, r112.2.2)) ∧
  ((r112.2.2 != 0) = false →
  ∀ r116, witness_Order l_ picks = r116 →
  ((decide (r116 ≥ 0)) = true →
  Q (r116, 42)) ∧
  ((decide (r116 ≥ 0)) = false →
  (preT2 l_ picks) ∧
  ∀ r120, witness_Missing l_ picks = r120 →
  ∀ (_ : sm r120),
  ((decide (((r120.length : Nat) : Int) > 0)) = true →
  ((0 : Int) ≤ 0 ∧ 0 < (r120.length : Int)) ∧
  Q (gi r120 0, 41)) ∧
  ((decide (((r120.length : Nat) : Int) > 0)) = false →
  Q (((picks.length : Nat) : Int), 0)))))


/-- replevin/witness.Is -/
def VC25 (o_ : Api_Object) (l_ : List Api_Oper) (picks : List Api_Pick) (Q : Bool → Prop) : Prop :=
  ∀ (_ : sm o_.Rows),
  ∀ (_ : sm l_),
  ∀ (_ : sm picks),
  (preO2 o_ l_ picks) ∧
  ∀ r104, witness_Check o_ l_ picks = r104 →
  Q (r104.2 == 0)


def VC19_J1 (Q : Bool → Prop) : Prop :=
  Q true
/-- replevin/replevinref01.SameInts -/
def VC19 (a_ : List Int) (b_ : List Int) (Q : Bool → Prop) : Prop :=
  ∀ (_ : sm a_),
  ∀ (_ : sm b_),
  ((((a_.length : Nat) : Int) != ((b_.length : Nat) : Int)) = true →
  Q false) ∧
  ((((a_.length : Nat) : Int) != ((b_.length : Nat) : Int)) = false →
  ∃ (I1 : Int → Prop) (μ1 : Int → Nat), I1 0 ∧ ∀ (i_103 : Int), I1 i_103 →
  ((decide (i_103 < ((a_.length : Nat) : Int))) = true →
  ((0 : Int) ≤ i_103 ∧ i_103 < (a_.length : Int)) ∧
  ((0 : Int) ≤ i_103 ∧ i_103 < (b_.length : Int)) ∧
  (((gi a_ i_103) != (gi b_ i_103)) = true →
  Q false) ∧
  (((gi a_ i_103) != (gi b_ i_103)) = false →
  I1 (IntKind.i64.wrap (i_103 + 1)) ∧ μ1 (IntKind.i64.wrap (i_103 + 1)) < μ1 i_103)) ∧
  ((decide (i_103 < ((a_.length : Nat) : Int))) = false →
  VC19_J1 Q))


/-- replevin/witness.Left -/
def VC29 (l_ : List Api_Oper) (picks : List Api_Pick) (Q : (List Int) → Prop) : Prop :=
  ∀ (_ : sm l_),
  ∀ (_ : sm picks),
  (preT3 l_ picks true) ∧
  ∀ r104, witness_those l_ picks true = r104 →
  ∀ (_ : sm r104),
  Q r104


/-- replevin/replevinlaw29.one -/
def VC50 (Q : Api_Object → Prop) : Prop :=
  Q (⟨1, 1, 0, [(⟨0, 0, 0, 7⟩ : Api_Row)]⟩ : Api_Object)


/-- replevin/replevinlaw29.three -/
def VC51 (Q : (List Api_Oper) → Prop) : Prop :=
  Q [(⟨1, 0, 0, 1, 7⟩ : Api_Oper), (⟨1, 0, 2, 3, 7⟩ : Api_Oper), (⟨2, 0, 4, (-1), (-1)⟩ : Api_Oper)]


/-- replevin/replevinlaw29.awake -/
def VC26 (Q : Bool → Prop) : Prop :=
  ∀ r106, law29_one = r106 →
  ∀ r113, law29_three = r113 →
  ∀ (_ : sm r106.Rows),
  ∀ (_ : sm r113),
  (preO2 r106 r113 [(⟨0, 7⟩ : Api_Pick), (⟨1, 7⟩ : Api_Pick), (⟨2, 7⟩ : Api_Pick)]) ∧
  ∀ r244, witness_Check r106 r113 [(⟨0, 7⟩ : Api_Pick), (⟨1, 7⟩ : Api_Pick), (⟨2, 7⟩ : Api_Pick)] = r244 →
  ∀ r250, law29_one = r250 →
  ∀ r257, law29_three = r257 →
  ∀ (_ : sm r250.Rows),
  ∀ (_ : sm r257),
  (preO2 r250 r257 [(⟨1, 7⟩ : Api_Pick), (⟨0, 7⟩ : Api_Pick)]) ∧
  ∀ r388, witness_Check r250 r257 [(⟨1, 7⟩ : Api_Pick), (⟨0, 7⟩ : Api_Pick)] = r388 →
  ∀ r394, law29_one = r394 →
  ∀ r401, law29_three = r401 →
  ∀ (_ : sm r394.Rows),
  ∀ (_ : sm r401),
  (preO2 r394 r401 [(⟨0, 7⟩ : Api_Pick)]) ∧
  ∀ r532, witness_Check r394 r401 [(⟨0, 7⟩ : Api_Pick)] = r532 →
  ∀ r538, law29_one = r538 →
  ∀ r545, law29_three = r545 →
  ∀ (_ : sm r538.Rows),
  ∀ (_ : sm r545),
  (preO2 r538 r545 [(⟨0, 7⟩ : Api_Pick), (⟨0, 7⟩ : Api_Pick)]) ∧
  ∀ r676, witness_Check r538 r545 [(⟨0, 7⟩ : Api_Pick), (⟨0, 7⟩ : Api_Pick)] = r676 →
  (preO2 (⟨0, 0, 0, []⟩ : Api_Object) [] []) ∧
  ∀ r680, witness_Check (⟨0, 0, 0, []⟩ : Api_Object) [] [] = r680 →
  ((((((((((r244.1 == 3) && (r244.2 == 0)) && (r388.1 == 0)) && (r388.2 == 42)) && (r532.1 == 1)) && (r532.2 == 41)) && (r676.1 == 1)) && (r676.2 == 21)) && (r680.2 == 2)) = true →
  ∀ r686, law29_one = r686 →
  ∀ r693, law29_three = r693 →
  ∀ (_ : sm r686.Rows),
  ∀ (_ : sm r693),
  (preO2 r686 r693 [(⟨0, 7⟩ : Api_Pick), (⟨1, 7⟩ : Api_Pick)]) ∧
  ∀ r824, witness_Is r686 r693 [(⟨0, 7⟩ : Api_Pick), (⟨1, 7⟩ : Api_Pick)] = r824 →
  (r824 = true →
  ∀ r828, law29_one = r828 →
  ∀ (_ : sm r828.Rows),
  ∀ r835, law29_three = r835 →
  ∀ (_ : sm r835),
  (preO2 r828 r835 []) ∧
  ∀ r842, witness_Is r828 r835 [] = r842 →
  ((!r842) = true →
  ∀ r846, law29_three = r846 →
  ∀ (_ : sm r846),
  ∀ r898, witness_Order r846 [(⟨2, 7⟩ : Api_Pick)] = r898 →
  ((r898 == 0) = true →
  ∀ r902, law29_three = r902 →
  ∀ (_ : sm r902),
  ∀ r954, witness_Order r902 [(⟨0, 7⟩ : Api_Pick), (⟨1, 7⟩ : Api_Pick), (⟨2, 7⟩ : Api_Pick)] = r954 →
  ((r954 == (-1)) = true →
  ∀ r958, law29_three = r958 →
  (preT2 r958 [(⟨1, 7⟩ : Api_Pick)]) ∧
  ∀ r969, witness_Missing r958 [(⟨1, 7⟩ : Api_Pick)] = r969 →
  ∀ (_ : sm r969),
  ∀ r1341, ref01_SameInts r969 [0] = r1341 →
  (r1341 = true →
  ∀ r1345, law29_three = r1345 →
  (preT2 r1345 []) ∧
  ∀ r1352, witness_Left r1345 [] = r1352 →
  ∀ (_ : sm r1352),
  ∀ r1480, ref01_SameInts r1352 [2] = r1480 →
  Q r1480) ∧
  (r1341 = false →
  Q false)) ∧
  ((r954 == (-1)) = false →
  Q false)) ∧
  ((r898 == 0) = false →
  Q false)) ∧
  ((!r842) = false →
  Q false)) ∧
  (r824 = false →
  Q false)) ∧
  ((((((((((r244.1 == 3) && (r244.2 == 0)) && (r388.1 == 0)) && (r388.2 == 42)) && (r532.1 == 1)) && (r532.2 == 41)) && (r676.1 == 1)) && (r676.2 == 21)) && (r680.2 == 2)) = false →
  Q false)


def VC30_J1 (Q : Int → Prop) : Prop :=
  Q (-1)
/-- replevin/replevinref29.Place -/
def VC30 (picks : List Api_Pick) (i_ : Int) (Q : Int → Prop) : Prop :=
  ∀ (_ : sm picks),
  ∃ (I1 : Int → Prop) (μ1 : Int → Nat), I1 0 ∧ ∀ (k_102 : Int), I1 k_102 →
  ((decide (k_102 < ((picks.length : Nat) : Int))) = true →
  ((0 : Int) ≤ k_102 ∧ k_102 < (picks.length : Int)) ∧
  ((((gi picks k_102).Oper) == i_) = true →
  Q k_102) ∧
  ((((gi picks k_102).Oper) == i_) = false →
  I1 (IntKind.i64.wrap (k_102 + 1)) ∧ μ1 (IntKind.i64.wrap (k_102 + 1)) < μ1 k_102)) ∧
  ((decide (k_102 < ((picks.length : Nat) : Int))) = false →
  VC30_J1 Q)


def VC47_J1 (Q : (Int × Int × Bool) → Prop) : Prop :=
  Q (0, 0, false)
def VC47_J2 (o_ : Api_Object) (Q : (Int × Int × Bool) → Prop) (I1 : Int → Prop) (μ1 : Int → Nat) (i_101 : Int) (x_103 : Bool) : Prop :=
  (x_103 = true →
  ((0 : Int) ≤ i_101 ∧ i_101 < (o_.Rows.length : Int)) ∧
  ((0 : Int) ≤ i_101 ∧ i_101 < (o_.Rows.length : Int)) ∧
  Q ((gi o_.Rows i_101).Next, (gi o_.Rows i_101).Result, true)) ∧
  (x_103 = false →
  I1 (IntKind.i64.wrap (i_101 + 1)) ∧ μ1 (IntKind.i64.wrap (i_101 + 1)) < μ1 i_101)
/-- replevin/replevinref23.Move -/
def VC47 (o_ : Api_Object) (state : Int) (kind : Int) (Q : Int × Int × Bool → Prop) : Prop :=
  ∀ (_ : sm o_.Rows),
  ∃ (I1 : Int → Prop) (μ1 : Int → Nat), I1 0 ∧ ∀ (i_101 : Int), I1 i_101 →
  ((decide (i_101 < ((o_.Rows.length : Nat) : Int))) = true →
  ((0 : Int) ≤ i_101 ∧ i_101 < (o_.Rows.length : Int)) ∧
  ((((gi o_.Rows i_101).State) == state) = true →
  ((0 : Int) ≤ i_101 ∧ i_101 < (o_.Rows.length : Int)) ∧
  VC47_J2 o_ Q I1 μ1 i_101 (((gi o_.Rows i_101).Kind) == kind)) ∧
  ((((gi o_.Rows i_101).State) == state) = false →
  VC47_J2 o_ Q I1 μ1 i_101 false)) ∧
  ((decide (i_101 < ((o_.Rows.length : Nat) : Int))) = false →
  VC47_J1 Q)


/-- replevin/replevinref28.Step -/
def VC18 (o_ : Api_Object) (state : Int) (kind : Int) (result : Int) (Q : Int × Int → Prop) : Prop :=
  ∀ (_ : sm o_.Rows),
  (((decide (state < 0)) || (decide (state ≥ o_.States))) = true →
  Q (0, 30)) ∧
  (((decide (state < 0)) || (decide (state ≥ o_.States))) = false →
  ∀ r104, ref23_Move o_ state kind = r104 →
  (((!r104.2.2) || (r104.2.1 != result)) = true →
  Q (0, 40)) ∧
  (((!r104.2.2) || (r104.2.1 != result)) = false →
  Q (r104.1, 0)))


def VC43_J1 (o_ : Api_Object) (Q : (Int × Int) → Prop) : Prop :=
  Q (((o_.Rows.length : Nat) : Int), 0)
def VC43_J2 (Q : (Int × Int) → Prop) (I1 : Int → Prop) (μ1 : Int → Nat) (i_102 : Int) (x_107 : Bool) : Prop :=
  (x_107 = true →
  Q (i_102, 32)) ∧
  (x_107 = false →
  I1 (IntKind.i64.wrap (i_102 + 1)) ∧ μ1 (IntKind.i64.wrap (i_102 + 1)) < μ1 i_102)
/-- replevin/replevinref23.Check -/
def VC43 (o_ : Api_Object) (Q : Int × Int → Prop) : Prop :=
  ∀ (_ : sm o_.Rows),
  (((((((decide (o_.States < 1)) || (decide (o_.States > 32))) || (decide (o_.Kinds < 1))) || (decide (o_.Kinds > 64))) || (decide (o_.Init < 0))) || (decide (o_.Init ≥ o_.States))) = true →
  Q ((-1), 2)) ∧
  (((((((decide (o_.States < 1)) || (decide (o_.States > 32))) || (decide (o_.Kinds < 1))) || (decide (o_.Kinds > 64))) || (decide (o_.Init < 0))) || (decide (o_.Init ≥ o_.States))) = false →
  ∃ (I1 : Int → Prop) (μ1 : Int → Nat), I1 0 ∧ ∀ (i_102 : Int), I1 i_102 →
  ((decide (i_102 < ((o_.Rows.length : Nat) : Int))) = true →
  ((0 : Int) ≤ i_102 ∧ i_102 < (o_.Rows.length : Int)) ∧
  (((((decide (((gi o_.Rows i_102).State) < 0)) || (decide (((gi o_.Rows i_102).State) ≥ o_.States))) || (decide (((gi o_.Rows i_102).Next) < 0))) || (decide (((gi o_.Rows i_102).Next) ≥ o_.States))) = true →
  Q (i_102, 30)) ∧
  (((((decide (((gi o_.Rows i_102).State) < 0)) || (decide (((gi o_.Rows i_102).State) ≥ o_.States))) || (decide (((gi o_.Rows i_102).Next) < 0))) || (decide (((gi o_.Rows i_102).Next) ≥ o_.States))) = false →
  (((decide (((gi o_.Rows i_102).Kind) < 0)) || (decide (((gi o_.Rows i_102).Kind) ≥ o_.Kinds))) = true →
  Q (i_102, 31)) ∧
  (((decide (((gi o_.Rows i_102).Kind) < 0)) || (decide (((gi o_.Rows i_102).Kind) ≥ o_.Kinds))) = false →
  (((decide (((gi o_.Rows i_102).Result) < 0)) || (decide (((gi o_.Rows i_102).Result) > 1000000))) = true →
  Q (i_102, 7)) ∧
  (((decide (((gi o_.Rows i_102).Result) < 0)) || (decide (((gi o_.Rows i_102).Result) > 1000000))) = false →
  ((decide (i_102 > 0)) = true →
  ((0 : Int) ≤ (IntKind.i64.wrap (i_102 - 1)) ∧ (IntKind.i64.wrap (i_102 - 1)) < (o_.Rows.length : Int)) ∧
  ((decide (((gi o_.Rows (IntKind.i64.wrap (i_102 - 1))).State) > ((gi o_.Rows i_102).State))) = true →
  VC43_J2 Q I1 μ1 i_102 true) ∧
  ((decide (((gi o_.Rows (IntKind.i64.wrap (i_102 - 1))).State) > ((gi o_.Rows i_102).State))) = false →
  ((0 : Int) ≤ (IntKind.i64.wrap (i_102 - 1)) ∧ (IntKind.i64.wrap (i_102 - 1)) < (o_.Rows.length : Int)) ∧
  ((((gi o_.Rows (IntKind.i64.wrap (i_102 - 1))).State) == ((gi o_.Rows i_102).State)) = true →
  ((0 : Int) ≤ (IntKind.i64.wrap (i_102 - 1)) ∧ (IntKind.i64.wrap (i_102 - 1)) < (o_.Rows.length : Int)) ∧
  VC43_J2 Q I1 μ1 i_102 (decide (((gi o_.Rows (IntKind.i64.wrap (i_102 - 1))).Kind) ≥ ((gi o_.Rows i_102).Kind)))) ∧
  ((((gi o_.Rows (IntKind.i64.wrap (i_102 - 1))).State) == ((gi o_.Rows i_102).State)) = false →
  VC43_J2 Q I1 μ1 i_102 false))) ∧
  ((decide (i_102 > 0)) = false →
  VC43_J2 Q I1 μ1 i_102 false))))) ∧
  ((decide (i_102 < ((o_.Rows.length : Nat) : Int))) = false →
  VC43_J1 o_ Q))


def VC15_J1 (picks : List Api_Pick) (Q : (Int × Int × Int) → Prop) (state_105 : Int) : Prop :=
  Q (state_105, ((picks.length : Nat) : Int), 0)
def VC15_J3 (Q : (Int × Int × Int) → Prop) (I1 : Int → Int → Prop) (μ1 : Int → Int → Nat) (state_108 : Int) (i_110 : Int) (r128 : Int × Int) (x_131 : Bool) : Prop :=
  (x_131 = true →
  Q (0, i_110, 40)) ∧
  (x_131 = false →
  I1 r128.1 (IntKind.i64.wrap (i_110 + 1)) ∧ μ1 r128.1 (IntKind.i64.wrap (i_110 + 1)) < μ1 state_108 i_110)
def VC15_J2 (o_ : Api_Object) (l_ : List Api_Oper) (picks : List Api_Pick) (Q : (Int × Int × Int) → Prop) (I1 : Int → Int → Prop) (μ1 : Int → Int → Nat) (state_108 : Int) (i_110 : Int) : Prop :=
  ((0 : Int) ≤ ((gi picks i_110).Oper) ∧ ((gi picks i_110).Oper) < (l_.length : Int)) ∧
  ∀ r128, ref28_Step o_ state_108 ((gi l_ ((gi picks i_110).Oper)).Kind) ((gi picks i_110).Result) = r128 →
  ((r128.2 != 0) = true →
  Q (0, i_110, r128.2)) ∧
  ((r128.2 != 0) = false →
  ((0 : Int) ≤ ((gi picks i_110).Oper) ∧ ((gi picks i_110).Oper) < (l_.length : Int)) ∧
  ((((gi l_ ((gi picks i_110).Oper)).End) != (-1)) = true →
  ((0 : Int) ≤ ((gi picks i_110).Oper) ∧ ((gi picks i_110).Oper) < (l_.length : Int)) ∧
  VC15_J3 Q I1 μ1 state_108 i_110 r128 (((gi l_ ((gi picks i_110).Oper)).Result) != ((gi picks i_110).Result))) ∧
  ((((gi l_ ((gi picks i_110).Oper)).End) != (-1)) = false →
  VC15_J3 Q I1 μ1 state_108 i_110 r128 false))
/-- replevin/replevinref28.From -/
def VC15 (o_ : Api_Object) (l_ : List Api_Oper) (state : Int) (picks : List Api_Pick) (Q : Int × Int × Int → Prop) : Prop :=
  ∀ (_ : sm o_.Rows),
  ∀ (_ : sm l_),
  ∀ (_ : sm picks),
  ∀ r104, ref23_Check o_ = r104 →
  ((r104.2 != 0) = true →
  Q (0, (-1), 2)) ∧
  ((r104.2 != 0) = false →
  (((decide (state < 0)) || (decide (state ≥ o_.States))) = true →
  Q (0, (-1), 30)) ∧
  (((decide (state < 0)) || (decide (state ≥ o_.States))) = false →
  ∃ (I1 : Int → Int → Prop) (μ1 : Int → Int → Nat), I1 state 0 ∧ ∀ (state_108 : Int) (i_110 : Int), I1 state_108 i_110 →
  ((decide (i_110 < ((picks.length : Nat) : Int))) = true →
  ((0 : Int) ≤ i_110 ∧ i_110 < (picks.length : Int)) ∧
  (((decide (((gi picks i_110).Oper) < 0)) || (decide (((gi picks i_110).Oper) ≥ ((l_.length : Nat) : Int)))) = true →
  Q (0, i_110, 2)) ∧
  (((decide (((gi picks i_110).Oper) < 0)) || (decide (((gi picks i_110).Oper) ≥ ((l_.length : Nat) : Int)))) = false →
  ∃ (I2 : Int → Prop) (μ2 : Int → Nat), I2 0 ∧ ∀ (k_149 : Int), I2 k_149 →
  ((decide (k_149 < i_110)) = true →
  ((0 : Int) ≤ k_149 ∧ k_149 < (picks.length : Int)) ∧
  ((((gi picks k_149).Oper) == ((gi picks i_110).Oper)) = true →
  Q (0, i_110, 21)) ∧
  ((((gi picks k_149).Oper) == ((gi picks i_110).Oper)) = false →
  I2 (IntKind.i64.wrap (k_149 + 1)) ∧ μ2 (IntKind.i64.wrap (k_149 + 1)) < μ2 k_149)) ∧
  ((decide (k_149 < i_110)) = false →
  VC15_J2 o_ l_ picks Q I1 μ1 state_108 i_110))) ∧
  ((decide (i_110 < ((picks.length : Nat) : Int))) = false →
  VC15_J1 picks Q state_108)))


/-- replevin/replevinref27.Ahead -/
def VC57 (a_ : Api_Oper) (b_ : Api_Oper) (Q : Bool → Prop) : Prop :=
  Q ((decide (a_.End ≥ 0)) && (decide (b_.Start > a_.End)))


def VC33_J1 (Q : Bool → Prop) : Prop :=
  Q true
def VC33_J2 (I1 : Int → Prop) (μ1 : Int → Nat) (i_107 : Int) : Prop :=
  I1 (IntKind.i64.wrap (i_107 + 1)) ∧ μ1 (IntKind.i64.wrap (i_107 + 1)) < μ1 i_107
def VC33_J4 (Q : Bool → Prop) (I2 : Int → Prop) (μ2 : Int → Nat) (k_115 : Int) (x_126 : Bool) : Prop :=
  (x_126 = true →
  Q false) ∧
  (x_126 = false →
  I2 (IntKind.i64.wrap (k_115 + 1)) ∧ μ2 (IntKind.i64.wrap (k_115 + 1)) < μ2 k_115)
def VC33_J3 (l_ : List Api_Oper) (picks : List Api_Pick) (Q : Bool → Prop) (I1 : Int → Prop) (μ1 : Int → Nat) (i_107 : Int) (x_112 : Bool) : Prop :=
  (x_112 = true →
  Q false) ∧
  (x_112 = false →
  ∃ (I2 : Int → Prop) (μ2 : Int → Nat), I2 0 ∧ ∀ (k_115 : Int), I2 k_115 →
  ((decide (k_115 < ((l_.length : Nat) : Int))) = true →
  ∀ r119, ref29_Place picks i_107 = r119 →
  ∀ r123, ref29_Place picks k_115 = r123 →
  ((0 : Int) ≤ i_107 ∧ i_107 < (l_.length : Int)) ∧
  ((0 : Int) ≤ k_115 ∧ k_115 < (l_.length : Int)) ∧
  ∀ r138, ref27_Ahead (gi l_ i_107) (gi l_ k_115) = r138 →
  (r138 = true →
  ((decide (r123 ≥ 0)) = true →
  ((decide (r119 < 0)) = true →
  VC33_J4 Q I2 μ2 k_115 true) ∧
  ((decide (r119 < 0)) = false →
  VC33_J4 Q I2 μ2 k_115 (decide (r119 > r123)))) ∧
  ((decide (r123 ≥ 0)) = false →
  VC33_J4 Q I2 μ2 k_115 false)) ∧
  (r138 = false →
  VC33_J4 Q I2 μ2 k_115 false)) ∧
  ((decide (k_115 < ((l_.length : Nat) : Int))) = false →
  VC33_J2 I1 μ1 i_107))
/-- replevin/replevinref29.Lin -/
def VC33 (o_ : Api_Object) (l_ : List Api_Oper) (picks : List Api_Pick) (Q : Bool → Prop) : Prop :=
  ∀ (_ : sm o_.Rows),
  ∀ (_ : sm l_),
  ∀ (_ : sm picks),
  ∀ r104, ref28_From o_ l_ o_.Init picks = r104 →
  ((r104.2.2 != 0) = true →
  Q false) ∧
  ((r104.2.2 != 0) = false →
  ∃ (I1 : Int → Prop) (μ1 : Int → Nat), I1 0 ∧ ∀ (i_107 : Int), I1 i_107 →
  ((decide (i_107 < ((l_.length : Nat) : Int))) = true →
  ((0 : Int) ≤ i_107 ∧ i_107 < (l_.length : Int)) ∧
  ((((gi l_ i_107).End) != (-1)) = true →
  ∀ r151, ref29_Place picks i_107 = r151 →
  VC33_J3 l_ picks Q I1 μ1 i_107 (decide (r151 < 0))) ∧
  ((((gi l_ i_107).End) != (-1)) = false →
  VC33_J3 l_ picks Q I1 μ1 i_107 false)) ∧
  ((decide (i_107 < ((l_.length : Nat) : Int))) = false →
  VC33_J1 Q))


def VC7_J2 (Q : Bool → Prop) : Prop :=
  ∀ r111, law29_awake = r111 →
  Q r111
def VC7_J3 (I1 : Int → Prop) (μ1 : Int → Nat) (i_114 : Int) : Prop :=
  I1 (IntKind.i64.wrap (i_114 + 1)) ∧ μ1 (IntKind.i64.wrap (i_114 + 1)) < μ1 i_114
def VC7_J4 (picks : List Api_Pick) (Q : Bool → Prop) (I1 : Int → Prop) (μ1 : Int → Nat) (i_114 : Int) (r123 : (List Int)) (x_130 : Bool) : Prop :=
  (x_130 = true →
  Q false) ∧
  (x_130 = false →
  ∃ (I2 : Int → Prop) (μ2 : Int → Nat), I2 0 ∧ ∀ (k_134 : Int), I2 k_134 →
  ((decide (k_134 < ((r123.length : Nat) : Int))) = true →
  ((0 : Int) ≤ i_114 ∧ i_114 ≤ (picks.length : Int)) ∧
  ((0 : Int) ≤ k_134 ∧ k_134 < (r123.length : Int)) ∧
  ∀ r146, ref29_Place (picks.drop i_114.toNat) (gi r123 k_134) = r146 →
  ((decide (r146 < 0)) = true →
  Q false) ∧
  ((decide (r146 < 0)) = false →
  I2 (IntKind.i64.wrap (k_134 + 1)) ∧ μ2 (IntKind.i64.wrap (k_134 + 1)) < μ2 k_134)) ∧
  ((decide (k_134 < ((r123.length : Nat) : Int))) = false →
  VC7_J3 I1 μ1 i_114))
def VC7_J1 (l_ : List Api_Oper) (picks : List Api_Pick) (Q : Bool → Prop) (x_103 : Bool) : Prop :=
  (x_103 = true →
  ∀ r107, law29_awake = r107 →
  Q r107) ∧
  (x_103 = false →
  ∃ (I1 : Int → Prop) (μ1 : Int → Nat), I1 0 ∧ ∀ (i_114 : Int), I1 i_114 →
  ((decide (i_114 ≤ ((picks.length : Nat) : Int))) = true →
  ((0 : Int) ≤ i_114 ∧ i_114 ≤ (picks.length : Int)) ∧
  (preT2 l_ (picks.take i_114.toNat)) ∧
  ∀ r123, witness_Missing l_ (picks.take i_114.toNat) = r123 →
  ∀ (_ : sm r123),
  ∀ r152, witness_Order l_ (picks.take i_114.toNat) = r152 →
  ((r152 != (-1)) = true →
  VC7_J4 picks Q I1 μ1 i_114 r123 true) ∧
  ((r152 != (-1)) = false →
  (preT2 l_ (picks.take i_114.toNat)) ∧
  ∀ r156, witness_Left l_ (picks.take i_114.toNat) = r156 →
  ∀ (_ : sm r156),
  VC7_J4 picks Q I1 μ1 i_114 r123 ((IntKind.i64.wrap ((IntKind.i64.wrap (((r123.length : Nat) : Int) + ((r156.length : Nat) : Int))) + i_114)) != ((l_.length : Nat) : Int)))) ∧
  ((decide (i_114 ≤ ((picks.length : Nat) : Int))) = false →
  VC7_J2 Q))
/-- replevin/replevinlaw29.WitnessOrder -/
def VC7 (o_ : Api_Object) (l_ : List Api_Oper) (picks : List Api_Pick) (Q : Bool → Prop) : Prop :=
  ∀ (_ : sm o_.Rows),
  ∀ (_ : sm l_),
  ∀ (_ : sm picks),
  ∀ r171, law23_Few o_ = r171 →
  ((((!r171) || (decide (((l_.length : Nat) : Int) > 40))) || (decide (((picks.length : Nat) : Int) > 40))) = true →
  VC7_J1 l_ picks Q true) ∧
  ((((!r171) || (decide (((l_.length : Nat) : Int) > 40))) || (decide (((picks.length : Nat) : Int) > 40))) = false →
  (preO2 o_ l_ picks) ∧
  ∀ r175, witness_Is o_ l_ picks = r175 →
  VC7_J1 l_ picks Q (!r175))


/-- replevin/replevinlaw29.WitnessDefines -/
def VC8 (o_ : Api_Object) (l_ : List Api_Oper) (picks : List Api_Pick) (Q : Bool → Prop) : Prop :=
  ∀ (_ : sm o_.Rows),
  ∀ (_ : sm l_),
  ∀ (_ : sm picks),
  ∀ r104, law23_Few o_ = r104 →
  ((((!r104) || (decide (((l_.length : Nat) : Int) > 40))) || (decide (((picks.length : Nat) : Int) > 40))) = true →
  ∀ r108, law29_awake = r108 →
  Q r108) ∧
  ((((!r104) || (decide (((l_.length : Nat) : Int) > 40))) || (decide (((picks.length : Nat) : Int) > 40))) = false →
  (preO o_) ∧
  ∀ r112, object_Check o_ = r112 →
  ((r112.2 != 0) = true →
  (preO2 o_ l_ picks) ∧
  ∀ r116, witness_Is o_ l_ picks = r116 →
  ((!r116) = true →
  ∀ r120, law29_awake = r120 →
  Q r120) ∧
  ((!r116) = false →
  Q false)) ∧
  ((r112.2 != 0) = false →
  ∀ r124, oper_Check l_ = r124 →
  ((r124.2 != 0) = true →
  (preO2 o_ l_ picks) ∧
  ∀ r128, witness_Is o_ l_ picks = r128 →
  ((!r128) = true →
  ∀ r132, law29_awake = r132 →
  Q r132) ∧
  ((!r128) = false →
  Q false)) ∧
  ((r124.2 != 0) = false →
  (preO2 o_ l_ picks) ∧
  ∀ r138, witness_Is o_ l_ picks = r138 →
  ∀ r142, ref29_Lin o_ l_ picks = r142 →
  ((r138 == r142) = true →
  ∀ r146, law29_awake = r146 →
  Q r146) ∧
  ((r138 == r142) = false →
  Q false))))


end Go.Proofs.Ytnhdgebboafliaa
