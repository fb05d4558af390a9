/- The conditions of the functions, in terms of their callees. Definitions. -/
import Derived.Test.YtomodhnocjmfpaaQSpec
set_option linter.all false
namespace Go.Proofs.Ytomodhnocjmfpaa
open Go Go.Sv
/-- replevin/replevinlaw23.Few -/
def VC6 (o_ : Api_Object) (Q : Bool → Prop) : Prop :=
  ∀ (_ : sm o_.Rows),
  Q (decide (((o_.Rows.length : Nat) : Int) ≤ 300))


/-- replevin/object.within -/
def VC46 (n_ : Int) (top : Int) (Q : Bool → Prop) : Prop :=
  Q ((decide (n_ ≥ 0)) && (decide (n_ < top)))


def VC61_J1 (Q : Int → Prop) : Prop :=
  Q 0
/-- cmp.Or[int] -/
def VC61 (vals : List Int) (Q : Int → Prop) : Prop :=
  ∀ (_ : sm vals),
  ∃ (I1 : Int → Prop) (μ1 : Int → Nat), I1 0 ∧ ∀ (x_102 : Int), I1 x_102 →
  ((decide (x_102 < ((vals.length : Nat) : Int))) = true →
  ((0 : Int) ≤ x_102 ∧ x_102 < (vals.length : Int)) ∧
  (((gi vals x_102) != 0) = true →
  Q (gi vals x_102)) ∧
  (((gi vals x_102) != 0) = false →
  I1 (IntKind.i64.wrap (x_102 + 1)) ∧ μ1 (IntKind.i64.wrap (x_102 + 1)) < μ1 x_102)) ∧
  ((decide (x_102 < ((vals.length : Nat) : Int))) = false →
  VC61_J1 Q)


/-- cmp.isNaN[int] -/
def VC66 (x_ : Int) (Q : Bool → Prop) : Prop :=
  Q (x_ != x_)


/-- cmp.Compare[int] -/
def VC62 (x_ : Int) (y_ : Int) (Q : Int → Prop) : Prop :=
  ∀ r104, cmp_isNaN_int x_ = r104 →
  ∀ r108, cmp_isNaN_int y_ = r108 →
  (r104 = true →
  (r108 = true →
  Q 0) ∧
  (r108 = false →
  Q (-1))) ∧
  (r104 = false →
  (r108 = true →
  Q 1) ∧
  (r108 = false →
  ((decide (x_ < y_)) = true →
  Q (-1)) ∧
  ((decide (x_ < y_)) = false →
  ((decide (x_ > y_)) = true →
  Q 1) ∧
  ((decide (x_ > y_)) = false →
  Q 0))))


/-- replevin/object.place -/
def VC56 (a_ : Api_Row) (b_ : Api_Row) (Q : Int → Prop) : Prop :=
  ∀ r106, cmp_Compare_int a_.State b_.State = r106 →
  ∀ r110, cmp_Compare_int a_.Kind b_.Kind = r110 →
  ∀ r118, cmp_Or_int [r106, r110] = r118 →
  Q r118


def VC47_J2 (Q : Int → Prop) (x_114 : Bool) : Prop :=
  (x_114 = true →
  Q 32) ∧
  (x_114 = false →
  Q 0)
def VC47_J1 (o_ : Api_Object) (i_ : Int) (Q : Int → Prop) (x_104 : Bool) : Prop :=
  (x_104 = true →
  Q 30) ∧
  (x_104 = false →
  ∀ r109, object_within ((gi o_.Rows i_).Kind) o_.Kinds = r109 →
  ((!r109) = true →
  Q 31) ∧
  ((!r109) = false →
  ∀ r113, object_within ((gi o_.Rows i_).Result) 1000001 = r113 →
  ((!r113) = true →
  Q 7) ∧
  ((!r113) = false →
  ((decide (i_ > 0)) = true →
  ((0 : Int) ≤ (IntKind.i64.wrap (i_ - 1)) ∧ (IntKind.i64.wrap (i_ - 1)) < (o_.Rows.length : Int)) ∧
  ∀ r123, object_place (gi o_.Rows (IntKind.i64.wrap (i_ - 1))) (gi o_.Rows i_) = r123 →
  VC47_J2 Q (decide (r123 ≥ 0))) ∧
  ((decide (i_ > 0)) = false →
  VC47_J2 Q false))))
/-- replevin/object.row -/
def VC47 (o_ : Api_Object) (i_ : Int) (Q : Int → Prop) : Prop :=
  ∀ (_ : sm o_.Rows),
  ((0 : Int) ≤ i_ ∧ i_ < (o_.Rows.length : Int)) ∧
  ∀ r129, object_within ((gi o_.Rows i_).State) o_.States = r129 →
  ((!r129) = true →
  VC47_J1 o_ i_ Q true) ∧
  ((!r129) = false →
  ∀ r133, object_within ((gi o_.Rows i_).Next) o_.States = r133 →
  VC47_J1 o_ i_ Q (!r133))


def VC30_J2 (o_ : Api_Object) (Q : (Int × Int) → Prop) : Prop :=
  Q (((o_.Rows.length : Nat) : Int), 0)
def VC30_J1 (o_ : Api_Object) (Q : (Int × Int) → Prop) (x_101 : Bool) : Prop :=
  (x_101 = true →
  Q ((-1), 2)) ∧
  (x_101 = false →
  ∃ (I1 : Int → Prop) (μ1 : Int → Nat), I1 0 ∧ ∀ (x_104 : Int), I1 x_104 →
  ((decide (x_104 < ((o_.Rows.length : Nat) : Int))) = true →
  (preRow o_ x_104) ∧
  ∀ r109, object_row o_ x_104 = r109 →
  ((r109 != 0) = true →
  Q (x_104, r109)) ∧
  ((r109 != 0) = false →
  I1 (IntKind.i64.wrap (x_104 + 1)) ∧ μ1 (IntKind.i64.wrap (x_104 + 1)) < μ1 x_104)) ∧
  ((decide (x_104 < ((o_.Rows.length : Nat) : Int))) = false →
  VC30_J2 o_ Q))
/-- replevin/object.Check -/
def VC30 (o_ : Api_Object) (Q : Int × Int → Prop) : Prop :=
  ∀ (_ : sm o_.Rows),
  ∀ r117, object_within (IntKind.i64.wrap (o_.States - 1)) 32 = r117 →
  ((!r117) = true →
  VC30_J1 o_ Q true) ∧
  ((!r117) = false →
  ∀ r121, object_within (IntKind.i64.wrap (o_.Kinds - 1)) 64 = r121 →
  ((!r121) = true →
  VC30_J1 o_ Q true) ∧
  ((!r121) = false →
  ∀ r125, object_within o_.Init o_.States = r125 →
  VC30_J1 o_ Q (!r125)))


/-- replevin/run.may -/
def VC58 (o_ : Api_Object) (state : Int) (Q : Int → Prop) : Prop :=
  ∀ (_ : sm o_.Rows),
  (preO o_) ∧
  ∀ r104, object_Check o_ = r104 →
  ((r104.2 != 0) = true →
  Q 2) ∧
  ((r104.2 != 0) = false →
  (((decide (state < 0)) || (decide (state ≥ o_.States))) = true →
  Q 30) ∧
  (((decide (state < 0)) || (decide (state ≥ o_.States))) = false →
  Q 0))


/-- replevin/run.runner -/
def VC59 (o_ : Api_Object) (l_ : List Api_Oper) (state : Int) (Q : (List Api_Oper) × (List (Int × Int)) × Api_Object × Int → Prop) : Prop :=
  ∀ (_ : sm o_.Rows),
  ∀ (_ : sm l_),
  Q (l_, ([] : List (Int × Int)), o_, state)


/-- replevin/object.Move$1 -/
def VC50 (r_ : Api_Row) (cap1 : Int) (cap2 : Int) (Q : Bool → Prop) : Prop :=
  Q (r_.State == cap1 && (r_.Kind == cap2 && (r_.Next == r_.Next && (r_.Result == r_.Result && true))))


def VC51_50_J1 (Q : Int → Prop) : Prop :=
  Q (-1)
/-- slices.IndexFunc[[]replevin/api.Row,replevin/api.Row] -/
def VC51_50 (s_ : List Api_Row) (cap1 : Int) (cap2 : Int) (Q : Int → Prop) : Prop :=
  ∀ (_ : sm s_),
  ∃ (I1 : Int → Prop) (μ1 : Int → Nat), I1 0 ∧ ∀ (x_102 : Int), I1 x_102 →
  ((decide (x_102 < ((s_.length : Nat) : Int))) = true →
  ((0 : Int) ≤ x_102 ∧ x_102 < (s_.length : Int)) ∧
  ∀ r109, object_Move_1 (gi s_ x_102) cap1 cap2 = r109 →
  (r109 = true →
  Q x_102) ∧
  (r109 = false →
  I1 (IntKind.i64.wrap (x_102 + 1)) ∧ μ1 (IntKind.i64.wrap (x_102 + 1)) < μ1 x_102)) ∧
  ((decide (x_102 < ((s_.length : Nat) : Int))) = false →
  VC51_50_J1 Q)


/-- replevin/object.Move -/
def VC32 (o_ : Api_Object) (state : Int) (kind : Int) (Q : Int × Int × Bool → Prop) : Prop :=
  ∀ (_ : sm o_.Rows),
  ∀ r104, slices_IndexFunc_api_Row_api_Row_object_Move_1 o_.Rows state kind = r104 →
  ((decide (r104 < 0)) = true →
  Q (0, 0, false)) ∧
  ((decide (r104 < 0)) = false →
  ((0 : Int) ≤ r104 ∧ r104 < (o_.Rows.length : Int)) ∧
  ((0 : Int) ≤ r104 ∧ r104 < (o_.Rows.length : Int)) ∧
  Q ((gi o_.Rows r104).Next, (gi o_.Rows r104).Result, true))


/-- (replevin/run.table).move -/
def VC67 (t_ : Run_table) (state : Int) (kind : Int) (Q : Int × Int × Bool → Prop) : Prop :=
  ∀ (_ : sm t_.o.Rows),
  ∀ r104, object_Move t_.o state kind = r104 →
  Q (r104.1, r104.2.1, r104.2.2)


/-- replevin/run.Step -/
def VC64 (o_ : Api_Object) (state : Int) (kind : Int) (result : Int) (Q : Int × Int → Prop) : Prop :=
  ∀ (_ : sm o_.Rows),
  (((decide (state < 0)) || (decide (state ≥ o_.States))) = true →
  Q (0, 30)) ∧
  (((decide (state < 0)) || (decide (state ≥ o_.States))) = false →
  ∀ r104, run_table_move (⟨o_⟩ : Run_table) state kind = r104 →
  (((!r104.2.2) || (r104.2.1 != result)) = true →
  Q (0, 40)) ∧
  (((!r104.2.2) || (r104.2.1 != result)) = false →
  Q (r104.1, 0)))


def VC63_J1 (p_ : Api_Pick) (cap2 : List (Int × Int)) (cap4 : Int) (Q : (Int × Int × (List (Int × Int)) × Int) → Prop) (r111 : Int × Int) (e_112 : Int) : Prop :=
  ((e_112 != 0) = true →
  Q (0, e_112, mput cap2 p_.Oper (IntKind.i64.wrap (((mget cap2 p_.Oper).getD 0) + 1)), cap4)) ∧
  ((e_112 != 0) = false →
  Q (r111.1, 0, mput cap2 p_.Oper (IntKind.i64.wrap (((mget cap2 p_.Oper).getD 0) + 1)), r111.1))
/-- replevin/run.runner$1 -/
def VC63 (p_ : Api_Pick) (cap1 : List Api_Oper) (cap2 : List (Int × Int)) (cap3 : Api_Object) (cap4 : Int) (Q : Int × Int × (List (Int × Int)) × Int → Prop) : Prop :=
  ∀ (_ : sm cap1),
  ∀ (_ : sm cap3.Rows),
  (((decide (p_.Oper < 0)) || (decide (p_.Oper ≥ ((cap1.length : Nat) : Int)))) = true →
  Q (0, 2, cap2, cap4)) ∧
  (((decide (p_.Oper < 0)) || (decide (p_.Oper ≥ ((cap1.length : Nat) : Int)))) = false →
  ((decide (((mget cap2 p_.Oper).getD 0) > 0)) = true →
  Q (0, 21, cap2, cap4)) ∧
  ((decide (((mget cap2 p_.Oper).getD 0) > 0)) = false →
  ((0 : Int) ≤ p_.Oper ∧ p_.Oper < (cap1.length : Int)) ∧
  ∀ r111, run_Step cap3 cap4 ((gi cap1 p_.Oper).Kind) p_.Result = r111 →
  ((((r111.2 == 0) && (((gi cap1 p_.Oper).End) != (-1))) && (((gi cap1 p_.Oper).Result) != p_.Result)) = true →
  VC63_J1 p_ cap2 cap4 Q r111 40) ∧
  ((((r111.2 == 0) && (((gi cap1 p_.Oper).End) != (-1))) && (((gi cap1 p_.Oper).Result) != p_.Result)) = false →
  VC63_J1 p_ cap2 cap4 Q r111 r111.2)))


def VC54_J1 (picks : List Api_Pick) (Q : (Int × Int × Int) → Prop) (end_126 : Int) : Prop :=
  Q (end_126, ((picks.length : Nat) : Int), 0)
/-- replevin/run.From -/
def VC54 (o_ : Api_Object) (l_ : List Api_Oper) (state : Int) (picks : List Api_Pick) (Q : Int × Int × Int → Prop) : Prop :=
  ∀ (_ : sm o_.Rows),
  ∀ (_ : sm l_),
  ∀ (_ : sm picks),
  (preO1 o_ state) ∧
  ∀ r104, run_may o_ state = r104 →
  ((r104 != 0) = true →
  Q (0, (-1), r104)) ∧
  ((r104 != 0) = false →
  ∀ r108, run_runner o_ l_ state = r108 →
  ∀ (_ : sm r108.1),
  ∀ (_ : sm r108.2.2.1.Rows),
  ∃ (I1 : Int → Int → (List (Int × Int)) → Int → Prop) (μ1 : Int → Int → (List (Int × Int)) → Int → Nat), I1 state 0 r108.2.1 r108.2.2.2 ∧ ∀ (end_128 : Int) (x_130 : Int) (x_132 : List (Int × Int)) (x_135 : Int), I1 end_128 x_130 x_132 x_135 →
  ((decide (x_130 < ((picks.length : Nat) : Int))) = true →
  ((0 : Int) ≤ x_130 ∧ x_130 < (picks.length : Int)) ∧
  ∀ r142, run_runner_1 (gi picks x_130) r108.1 x_132 r108.2.2.1 x_135 = r142 →
  ((r142.2.1 != 0) = true →
  Q (0, x_130, r142.2.1)) ∧
  ((r142.2.1 != 0) = false →
  I1 r142.1 (IntKind.i64.wrap (x_130 + 1)) r142.2.2.1 r142.2.2.2 ∧ μ1 r142.1 (IntKind.i64.wrap (x_130 + 1)) r142.2.2.1 r142.2.2.2 < μ1 end_128 x_130 x_132 x_135)) ∧
  ((decide (x_130 < ((picks.length : Nat) : Int))) = false →
  VC54_J1 picks Q end_128))


/-- replevin/run.Picks -/
def VC43 (o_ : Api_Object) (l_ : List Api_Oper) (picks : List Api_Pick) (Q : Int × Int × Int → Prop) : Prop :=
  ∀ (_ : sm o_.Rows),
  ∀ (_ : sm l_),
  ∀ (_ : sm picks),
  (preO3 o_ l_ o_.Init picks) ∧
  ∀ r104, run_From o_ l_ o_.Init picks = r104 →
  Q (r104.1, r104.2.1, r104.2.2)


def VC60_J1 (Q : ((List (Int × Int))) → Prop) (x_105 : List (Int × Int)) : Prop :=
  Q x_105
/-- replevin/witness.absent -/
def VC60 (picks : List Api_Pick) (Q : (List (Int × Int)) → Prop) : Prop :=
  ∀ (_ : sm picks),
  ∃ (I1 : Int → (List (Int × Int)) → Prop) (μ1 : Int → (List (Int × Int)) → Nat), I1 0 ([] : List (Int × Int)) ∧ ∀ (x_108 : Int) (x_109 : List (Int × Int)), I1 x_108 x_109 →
  ((decide (x_108 < ((picks.length : Nat) : Int))) = true →
  ((0 : Int) ≤ x_108 ∧ x_108 < (picks.length : Int)) ∧
  I1 (IntKind.i64.wrap (x_108 + 1)) (mput x_109 ((gi picks x_108).Oper) (IntKind.i64.wrap (((mget x_109 ((gi picks x_108).Oper)).getD 0) + 1))) ∧ μ1 (IntKind.i64.wrap (x_108 + 1)) (mput x_109 ((gi picks x_108).Oper) (IntKind.i64.wrap (((mget x_109 ((gi picks x_108).Oper)).getD 0) + 1))) < μ1 x_108 x_109) ∧
  ((decide (x_108 < ((picks.length : Nat) : Int))) = false →
  VC60_J1 Q x_109)


/-- replevin/witness.absent$1 -/
def VC65 (i_ : Int) (cap1 : List (Int × Int)) (Q : Bool → Prop) : Prop :=
  Q (((mget cap1 i_).getD 0) == 0)


def VC55_J1 (Q : ((List Int)) → Prop) (out_109 : List Int) : Prop :=
  Q out_109
def VC55_J2 (I1 : (List Int) → Int → Prop) (μ1 : (List Int) → Int → Nat) (out_115 : List Int) (x_120 : Int) (out_122 : List Int) : Prop :=
  I1 out_122 (IntKind.i64.wrap (x_120 + 1)) ∧ μ1 out_122 (IntKind.i64.wrap (x_120 + 1)) < μ1 out_115 x_120
def VC55_J3 (I1 : (List Int) → Int → Prop) (μ1 : (List Int) → Int → Nat) (out_115 : List Int) (x_120 : Int) (out_131 : List Int) (x_136 : Bool) : Prop :=
  (x_136 = true →
  (out_131.length + [x_120].length ≤ 1099511627776) ∧
  VC55_J2 I1 μ1 out_115 x_120 (out_131 ++ [x_120])) ∧
  (x_136 = false →
  VC55_J2 I1 μ1 out_115 x_120 out_131)
/-- replevin/witness.those -/
def VC55 (l_ : List Api_Oper) (picks : List Api_Pick) (pending : Bool) (Q : (List Int) → Prop) : Prop :=
  ∀ (_ : sm l_),
  ∀ (_ : sm picks),
  ∀ r104, witness_absent picks = r104 →
  ∃ (I1 : (List Int) → Int → Prop) (μ1 : (List Int) → Int → Nat), I1 [] 0 ∧ ∀ (out_115 : List Int) (x_120 : Int), I1 out_115 x_120 →
  ((decide (x_120 < ((l_.length : Nat) : Int))) = true →
  ((0 : Int) ≤ x_120 ∧ x_120 < (l_.length : Int)) ∧
  (((((gi l_ x_120).End) == (-1)) == pending) = true →
  ∀ r150, witness_absent_1 x_120 r104 = r150 →
  VC55_J3 I1 μ1 out_115 x_120 out_115 r150) ∧
  (((((gi l_ x_120).End) == (-1)) == pending) = false →
  VC55_J3 I1 μ1 out_115 x_120 out_115 false)) ∧
  ((decide (x_120 < ((l_.length : Nat) : Int))) = false →
  VC55_J1 Q out_115)


/-- replevin/witness.Missing -/
def VC45 (l_ : List Api_Oper) (picks : List Api_Pick) (Q : (List Int) → Prop) : Prop :=
  ∀ (_ : sm l_),
  ∀ (_ : sm picks),
  (preT3 l_ picks false) ∧
  ∀ r104, witness_those l_ picks false = r104 →
  ∀ (_ : sm r104),
  Q r104


/-- replevin/oper.Ahead -/
def VC49 (a_ : Api_Oper) (b_ : Api_Oper) (Q : Bool → Prop) : Prop :=
  Q ((decide (a_.End ≥ 0)) && (decide (a_.End < b_.Start)))


def VC44_J1 (Q : Int → Prop) : Prop :=
  Q (-1)
def VC44_J2 (I1 : (List (Int × Int)) → Int → Prop) (μ1 : (List (Int × Int)) → Int → Nat) (there_106 : List (Int × Int)) (x_109 : Int) (there_111 : List (Int × Int)) : Prop :=
  I1 there_111 (IntKind.i64.wrap (x_109 + 1)) ∧ μ1 there_111 (IntKind.i64.wrap (x_109 + 1)) < μ1 there_106 x_109
def VC44_J3 (picks : List Api_Pick) (I1 : (List (Int × Int)) → Int → Prop) (μ1 : (List (Int × Int)) → Int → Nat) (there_106 : List (Int × Int)) (x_109 : Int) : Prop :=
  VC44_J2 I1 μ1 there_106 x_109 (mput there_106 ((gi picks x_109).Oper) (IntKind.i64.wrap (((mget there_106 ((gi picks x_109).Oper)).getD 0) + 1)))
def VC44_J4 (Q : Int → Prop) (x_109 : Int) (I2 : Int → Prop) (μ2 : Int → Nat) (x_127 : Int) (x_135 : Bool) : Prop :=
  (x_135 = true →
  Q x_109) ∧
  (x_135 = false →
  I2 (IntKind.i64.wrap (x_127 + 1)) ∧ μ2 (IntKind.i64.wrap (x_127 + 1)) < μ2 x_127)
/-- replevin/witness.Order -/
def VC44 (l_ : List Api_Oper) (picks : List Api_Pick) (Q : Int → Prop) : Prop :=
  ∀ (_ : sm l_),
  ∀ (_ : sm picks),
  ∃ (I1 : (List (Int × Int)) → Int → Prop) (μ1 : (List (Int × Int)) → Int → Nat), I1 ([] : List (Int × Int)) 0 ∧ ∀ (there_106 : List (Int × Int)) (x_109 : Int), I1 there_106 x_109 →
  ((decide (x_109 < ((picks.length : Nat) : Int))) = true →
  ((0 : Int) ≤ x_109 ∧ x_109 < (picks.length : Int)) ∧
  (((decide (((gi picks x_109).Oper) < 0)) || (decide (((gi picks x_109).Oper) ≥ ((l_.length : Nat) : Int)))) = true →
  VC44_J2 I1 μ1 there_106 x_109 there_106) ∧
  (((decide (((gi picks x_109).Oper) < 0)) || (decide (((gi picks x_109).Oper) ≥ ((l_.length : Nat) : Int)))) = false →
  ∃ (I2 : Int → Prop) (μ2 : Int → Nat), I2 0 ∧ ∀ (x_127 : Int), I2 x_127 →
  ((decide (x_127 < ((l_.length : Nat) : Int))) = true →
  ((0 : Int) ≤ x_127 ∧ x_127 < (l_.length : Int)) ∧
  ((0 : Int) ≤ ((gi picks x_109).Oper) ∧ ((gi picks x_109).Oper) < (l_.length : Int)) ∧
  ∀ r144, oper_Ahead (gi l_ x_127) (gi l_ ((gi picks x_109).Oper)) = r144 →
  (r144 = true →
  VC44_J4 Q x_109 I2 μ2 x_127 (((mget there_106 x_127).getD 0) == 0)) ∧
  (r144 = false →
  VC44_J4 Q x_109 I2 μ2 x_127 false)) ∧
  ((decide (x_127 < ((l_.length : Nat) : Int))) = false →
  VC44_J3 picks I1 μ1 there_106 x_109))) ∧
  ((decide (x_109 < ((picks.length : Nat) : Int))) = false →
  VC44_J1 Q)


/-- replevin/oper.ended -/
def VC57 (o_ : Api_Oper) (Q : Bool → Prop) : Prop :=
  ((o_.End == (-1)) = true →
  Q (o_.Result == (-1))) ∧
  ((o_.End == (-1)) = false →
  Q ((((decide (o_.End > o_.Start)) && (decide (o_.End ≤ 9999))) && (decide (o_.Result ≥ 0))) && (decide (o_.Result ≤ 1000000))))


/-- replevin/oper.alone -/
def VC52 (o_ : Api_Oper) (Q : Int → Prop) : Prop :=
  (((((decide (o_.Prc < 1)) || (decide (o_.Prc > 1000))) || (decide (o_.Start < 0))) || (decide (o_.Start > 9999))) = true →
  Q 2) ∧
  (((((decide (o_.Prc < 1)) || (decide (o_.Prc > 1000))) || (decide (o_.Start < 0))) || (decide (o_.Start > 9999))) = false →
  (((decide (o_.Kind < 0)) || (decide (o_.Kind ≥ 64))) = true →
  Q 31) ∧
  (((decide (o_.Kind < 0)) || (decide (o_.Kind ≥ 64))) = false →
  ∀ r104, oper_ended o_ = r104 →
  ((!r104) = true →
  Q 7) ∧
  ((!r104) = false →
  Q 0)))


def VC33_J1 (l_ : List Api_Oper) (Q : (Int × Int) → Prop) : Prop :=
  Q (((l_.length : Nat) : Int), 0)
def VC33_J2 (l_ : List Api_Oper) (I1 : (List (Int × Int)) → (List (Int × Api_Oper)) → Int → Prop) (μ1 : (List (Int × Int)) → (List (Int × Api_Oper)) → Int → Nat) (used_111 : List (Int × Int)) (latest_113 : List (Int × Api_Oper)) (x_116 : Int) (used_118 : List (Int × Int)) : Prop :=
  I1 used_118 (mput latest_113 ((gi l_ x_116).Prc) (gi l_ x_116)) (IntKind.i64.wrap (x_116 + 1)) ∧ μ1 used_118 (mput latest_113 ((gi l_ x_116).Prc) (gi l_ x_116)) (IntKind.i64.wrap (x_116 + 1)) < μ1 used_111 latest_113 x_116
def VC33_J4 (l_ : List Api_Oper) (Q : (Int × Int) → Prop) (I1 : (List (Int × Int)) → (List (Int × Api_Oper)) → Int → Prop) (μ1 : (List (Int × Int)) → (List (Int × Api_Oper)) → Int → Nat) (used_111 : List (Int × Int)) (latest_113 : List (Int × Api_Oper)) (x_116 : Int) (x_139 : Bool) : Prop :=
  (x_139 = true →
  Q (x_116, 33)) ∧
  (x_139 = false →
  ((decide (((gi l_ x_116).End) ≥ 0)) = true →
  VC33_J2 l_ I1 μ1 used_111 latest_113 x_116 (mput (mput used_111 ((gi l_ x_116).Start) (IntKind.i64.wrap (((mget used_111 ((gi l_ x_116).Start)).getD 0) + 1))) ((gi l_ x_116).End) (IntKind.i64.wrap (((mget (mput used_111 ((gi l_ x_116).Start) (IntKind.i64.wrap (((mget used_111 ((gi l_ x_116).Start)).getD 0) + 1))) ((gi l_ x_116).End)).getD 0) + 1)))) ∧
  ((decide (((gi l_ x_116).End) ≥ 0)) = false →
  VC33_J2 l_ I1 μ1 used_111 latest_113 x_116 (mput used_111 ((gi l_ x_116).Start) (IntKind.i64.wrap (((mget used_111 ((gi l_ x_116).Start)).getD 0) + 1)))))
def VC33_J3 (l_ : List Api_Oper) (Q : (Int × Int) → Prop) (I1 : (List (Int × Int)) → (List (Int × Api_Oper)) → Int → Prop) (μ1 : (List (Int × Int)) → (List (Int × Api_Oper)) → Int → Nat) (used_111 : List (Int × Int)) (latest_113 : List (Int × Api_Oper)) (x_116 : Int) (x_133 : Bool) : Prop :=
  (x_133 = true →
  Q (x_116, 32)) ∧
  (x_133 = false →
  (((mget latest_113 ((gi l_ x_116).Prc)).isSome) = true →
  ∀ r151, oper_Ahead ((mget latest_113 ((gi l_ x_116).Prc)).getD (⟨0, 0, 0, 0, 0⟩ : Api_Oper)) (gi l_ x_116) = r151 →
  VC33_J4 l_ Q I1 μ1 used_111 latest_113 x_116 (!r151)) ∧
  (((mget latest_113 ((gi l_ x_116).Prc)).isSome) = false →
  VC33_J4 l_ Q I1 μ1 used_111 latest_113 x_116 false))
/-- replevin/oper.Check -/
def VC33 (l_ : List Api_Oper) (Q : Int × Int → Prop) : Prop :=
  ∀ (_ : sm l_),
  ((decide (((l_.length : Nat) : Int) > 5000)) = true →
  Q (0, 3)) ∧
  ((decide (((l_.length : Nat) : Int) > 5000)) = false →
  ∃ (I1 : (List (Int × Int)) → (List (Int × Api_Oper)) → Int → Prop) (μ1 : (List (Int × Int)) → (List (Int × Api_Oper)) → Int → Nat), I1 ([] : List (Int × Int)) ([] : List (Int × Api_Oper)) 0 ∧ ∀ (used_111 : List (Int × Int)) (latest_113 : List (Int × Api_Oper)) (x_116 : Int), I1 used_111 latest_113 x_116 →
  ((decide (x_116 < ((l_.length : Nat) : Int))) = true →
  ((0 : Int) ≤ x_116 ∧ x_116 < (l_.length : Int)) ∧
  ∀ r128, oper_alone (gi l_ x_116) = r128 →
  ((r128 != 0) = true →
  Q (x_116, r128)) ∧
  ((r128 != 0) = false →
  ((decide (x_116 > 0)) = true →
  ((0 : Int) ≤ (IntKind.i64.wrap (x_116 - 1)) ∧ (IntKind.i64.wrap (x_116 - 1)) < (l_.length : Int)) ∧
  ((decide (((gi l_ x_116).Start) ≤ ((gi l_ (IntKind.i64.wrap (x_116 - 1))).Start))) = true →
  VC33_J3 l_ Q I1 μ1 used_111 latest_113 x_116 true) ∧
  ((decide (((gi l_ x_116).Start) ≤ ((gi l_ (IntKind.i64.wrap (x_116 - 1))).Start))) = false →
  ((decide (((mget used_111 ((gi l_ x_116).Start)).getD 0) > 0)) = true →
  VC33_J3 l_ Q I1 μ1 used_111 latest_113 x_116 true) ∧
  ((decide (((mget used_111 ((gi l_ x_116).Start)).getD 0) > 0)) = false →
  ((decide (((gi l_ x_116).End) ≥ 0)) = true →
  VC33_J3 l_ Q I1 μ1 used_111 latest_113 x_116 (decide (((mget used_111 ((gi l_ x_116).End)).getD 0) > 0))) ∧
  ((decide (((gi l_ x_116).End) ≥ 0)) = false →
  VC33_J3 l_ Q I1 μ1 used_111 latest_113 x_116 false)))) ∧
  ((decide (x_116 > 0)) = false →
  ((decide (((mget used_111 ((gi l_ x_116).Start)).getD 0) > 0)) = true →
  VC33_J3 l_ Q I1 μ1 used_111 latest_113 x_116 true) ∧
  ((decide (((mget used_111 ((gi l_ x_116).Start)).getD 0) > 0)) = false →
  ((decide (((gi l_ x_116).End) ≥ 0)) = true →
  VC33_J3 l_ Q I1 μ1 used_111 latest_113 x_116 (decide (((mget used_111 ((gi l_ x_116).End)).getD 0) > 0))) ∧
  ((decide (((gi l_ x_116).End) ≥ 0)) = false →
  VC33_J3 l_ Q I1 μ1 used_111 latest_113 x_116 false))))) ∧
  ((decide (x_116 < ((l_.length : Nat) : Int))) = false →
  VC33_J1 l_ Q))


/-- replevin/witness.Check -/
def VC29 (o_ : Api_Object) (l_ : List Api_Oper) (picks : List Api_Pick) (Q : Int × Int → Prop) : Prop :=
  ∀ (_ : sm o_.Rows),
  ∀ (_ : sm l_),
  ∀ (_ : sm picks),
  (preO o_) ∧
  ∀ r104, object_Check o_ = r104 →
  ∀ r108, oper_Check l_ = r108 →
  (((r104.2 != 0) || (r108.2 != 0)) = true →
  Q ((-1), 2)) ∧
  (((r104.2 != 0) || (r108.2 != 0)) = false →
  (preO2 o_ l_ picks) ∧
  ∀ r112, run_Picks o_ l_ picks = r112 →
  ((r112.2.2 != 0) = true →
  Q (r112.2.1, r112.2.2)) ∧
  ((r112.2.2 != 0) = false →
  ∀ r116, witness_Order l_ picks = r116 →
  ((decide (r116 ≥ 0)) = true →
  Q (r116, 42)) ∧
  ((decide (r116 ≥ 0)) = false →
  (preT2 l_ picks) ∧
  ∀ r120, witness_Missing l_ picks = r120 →
  ∀ (_ : sm r120),
  ((decide (((r120.length : Nat) : Int) > 0)) = true →
  ((0 : Int) ≤ 0 ∧ 0 < (r120.length : Int)) ∧
  Q (gi r120 0, 41)) ∧
  ((decide (((r120.length : Nat) : Int) > 0)) = false →
  Q (((picks.length : Nat) : Int), 0)))))


/-- replevin/witness.Is -/
def VC15 (o_ : Api_Object) (l_ : List Api_Oper) (picks : List Api_Pick) (Q : Bool → Prop) : Prop :=
  ∀ (_ : sm o_.Rows),
  ∀ (_ : sm l_),
  ∀ (_ : sm picks),
  (preO2 o_ l_ picks) ∧
  ∀ r104, witness_Check o_ l_ picks = r104 →
  Q (r104.2 == 0)


def VC42_J1 (Q : Int → Prop) : Prop :=
  Q (-1)
/-- replevin/replevinref29.Place -/
def VC42 (picks : List Api_Pick) (i_ : Int) (Q : Int → Prop) : Prop :=
  ∀ (_ : sm picks),
  ∃ (I1 : Int → Prop) (μ1 : Int → Nat), I1 0 ∧ ∀ (k_102 : Int), I1 k_102 →
  ((decide (k_102 < ((picks.length : Nat) : Int))) = true →
  ((0 : Int) ≤ k_102 ∧ k_102 < (picks.length : Int)) ∧
  ((((gi picks k_102).Oper) == i_) = true →
  Q k_102) ∧
  ((((gi picks k_102).Oper) == i_) = false →
  I1 (IntKind.i64.wrap (k_102 + 1)) ∧ μ1 (IntKind.i64.wrap (k_102 + 1)) < μ1 k_102)) ∧
  ((decide (k_102 < ((picks.length : Nat) : Int))) = false →
  VC42_J1 Q)


def VC41_J1 (Q : (Int × Int × Bool) → Prop) : Prop :=
  Q (0, 0, false)
def VC41_J2 (o_ : Api_Object) (Q : (Int × Int × Bool) → Prop) (I1 : Int → Prop) (μ1 : Int → Nat) (i_101 : Int) (x_103 : Bool) : Prop :=
  (x_103 = true →
  ((0 : Int) ≤ i_101 ∧ i_101 < (o_.Rows.length : Int)) ∧
  ((0 : Int) ≤ i_101 ∧ i_101 < (o_.Rows.length : Int)) ∧
  Q ((gi o_.Rows i_101).Next, (gi o_.Rows i_101).Result, true)) ∧
  (x_103 = false →
  I1 (IntKind.i64.wrap (i_101 + 1)) ∧ μ1 (IntKind.i64.wrap (i_101 + 1)) < μ1 i_101)
/-- replevin/replevinref23.Move -/
def VC41 (o_ : Api_Object) (state : Int) (kind : Int) (Q : Int × Int × Bool → Prop) : Prop :=
  ∀ (_ : sm o_.Rows),
  ∃ (I1 : Int → Prop) (μ1 : Int → Nat), I1 0 ∧ ∀ (i_101 : Int), I1 i_101 →
  ((decide (i_101 < ((o_.Rows.length : Nat) : Int))) = true →
  ((0 : Int) ≤ i_101 ∧ i_101 < (o_.Rows.length : Int)) ∧
  ((((gi o_.Rows i_101).State) == state) = true →
  ((0 : Int) ≤ i_101 ∧ i_101 < (o_.Rows.length : Int)) ∧
  VC41_J2 o_ Q I1 μ1 i_101 (((gi o_.Rows i_101).Kind) == kind)) ∧
  ((((gi o_.Rows i_101).State) == state) = false →
  VC41_J2 o_ Q I1 μ1 i_101 false)) ∧
  ((decide (i_101 < ((o_.Rows.length : Nat) : Int))) = false →
  VC41_J1 Q)


/-- replevin/replevinref28.Step -/
def VC53 (o_ : Api_Object) (state : Int) (kind : Int) (result : Int) (Q : Int × Int → Prop) : Prop :=
  ∀ (_ : sm o_.Rows),
  (((decide (state < 0)) || (decide (state ≥ o_.States))) = true →
  Q (0, 30)) ∧
  (((decide (state < 0)) || (decide (state ≥ o_.States))) = false →
  ∀ r104, ref23_Move o_ state kind = r104 →
  (((!r104.2.2) || (r104.2.1 != result)) = true →
  Q (0, 40)) ∧
  (((!r104.2.2) || (r104.2.1 != result)) = false →
  Q (r104.1, 0)))


def VC23_J1 (o_ : Api_Object) (Q : (Int × Int) → Prop) : Prop :=
  Q (((o_.Rows.length : Nat) : Int), 0)
def VC23_J2 (Q : (Int × Int) → Prop) (I1 : Int → Prop) (μ1 : Int → Nat) (i_102 : Int) (x_107 : Bool) : Prop :=
  (x_107 = true →
  Q (i_102, 32)) ∧
  (x_107 = false →
  I1 (IntKind.i64.wrap (i_102 + 1)) ∧ μ1 (IntKind.i64.wrap (i_102 + 1)) < μ1 i_102)
/-- replevin/replevinref23.Check -/
def VC23 (o_ : Api_Object) (Q : Int × Int → Prop) : Prop :=
  ∀ (_ : sm o_.Rows),
  (((((((decide (o_.States < 1)) || (decide (o_.States > 32))) || (decide (o_.Kinds < 1))) || (decide (o_.Kinds > 64))) || (decide (o_.Init < 0))) || (decide (o_.Init ≥ o_.States))) = true →
  Q ((-1), 2)) ∧
  (((((((decide (o_.States < 1)) || (decide (o_.States > 32))) || (decide (o_.Kinds < 1))) || (decide (o_.Kinds > 64))) || (decide (o_.Init < 0))) || (decide (o_.Init ≥ o_.States))) = false →
  ∃ (I1 : Int → Prop) (μ1 : Int → Nat), I1 0 ∧ ∀ (i_102 : Int), I1 i_102 →
  ((decide (i_102 < ((o_.Rows.length : Nat) : Int))) = true →
  ((0 : Int) ≤ i_102 ∧ i_102 < (o_.Rows.length : Int)) ∧
  (((((decide (((gi o_.Rows i_102).State) < 0)) || (decide (((gi o_.Rows i_102).State) ≥ o_.States))) || (decide (((gi o_.Rows i_102).Next) < 0))) || (decide (((gi o_.Rows i_102).Next) ≥ o_.States))) = true →
  Q (i_102, 30)) ∧
  (((((decide (((gi o_.Rows i_102).State) < 0)) || (decide (((gi o_.Rows i_102).State) ≥ o_.States))) || (decide (((gi o_.Rows i_102).Next) < 0))) || (decide (((gi o_.Rows i_102).Next) ≥ o_.States))) = false →
  (((decide (((gi o_.Rows i_102).Kind) < 0)) || (decide (((gi o_.Rows i_102).Kind) ≥ o_.Kinds))) = true →
  Q (i_102, 31)) ∧
  (((decide (((gi o_.Rows i_102).Kind) < 0)) || (decide (((gi o_.Rows i_102).Kind) ≥ o_.Kinds))) = false →
  (((decide (((gi o_.Rows i_102).Result) < 0)) || (decide (((gi o_.Rows i_102).Result) > 1000000))) = true →
  Q (i_102, 7)) ∧
  (((decide (((gi o_.Rows i_102).Result) < 0)) || (decide (((gi o_.Rows i_102).Result) > 1000000))) = false →
  ((decide (i_102 > 0)) = true →
  ((0 : Int) ≤ (IntKind.i64.wrap (i_102 - 1)) ∧ (IntKind.i64.wrap (i_102 - 1)) < (o_.Rows.length : Int)) ∧
  ((decide (((gi o_.Rows (IntKind.i64.wrap (i_102 - 1))).State) > ((gi o_.Rows i_102).State))) = true →
  VC23_J2 Q I1 μ1 i_102 true) ∧
  ((decide (((gi o_.Rows (IntKind.i64.wrap (i_102 - 1))).State) > ((gi o_.Rows i_102).State))) = false →
  ((0 : Int) ≤ (IntKind.i64.wrap (i_102 - 1)) ∧ (IntKind.i64.wrap (i_102 - 1)) < (o_.Rows.length : Int)) ∧
  ((((gi o_.Rows (IntKind.i64.wrap (i_102 - 1))).State) == ((gi o_.Rows i_102).State)) = true →
  ((0 : Int) ≤ (IntKind.i64.wrap (i_102 - 1)) ∧ (IntKind.i64.wrap (i_102 - 1)) < (o_.Rows.length : Int)) ∧
  VC23_J2 Q I1 μ1 i_102 (decide (((gi o_.Rows (IntKind.i64.wrap (i_102 - 1))).Kind) ≥ ((gi o_.Rows i_102).Kind)))) ∧
  ((((gi o_.Rows (IntKind.i64.wrap (i_102 - 1))).State) == ((gi o_.Rows i_102).State)) = false →
  VC23_J2 Q I1 μ1 i_102 false))) ∧
  ((decide (i_102 > 0)) = false →
  VC23_J2 Q I1 μ1 i_102 false))))) ∧
  ((decide (i_102 < ((o_.Rows.length : Nat) : Int))) = false →
  VC23_J1 o_ Q))


def VC40_J1 (picks : List Api_Pick) (Q : (Int × Int × Int) → Prop) (state_105 : Int) : Prop :=
  Q (state_105, ((picks.length : Nat) : Int), 0)
def VC40_J3 (Q : (Int × Int × Int) → Prop) (I1 : Int → Int → Prop) (μ1 : Int → Int → Nat) (state_108 : Int) (i_110 : Int) (r128 : Int × Int) (x_131 : Bool) : Prop :=
  (x_131 = true →
  Q (0, i_110, 40)) ∧
  (x_131 = false →
  I1 r128.1 (IntKind.i64.wrap (i_110 + 1)) ∧ μ1 r128.1 (IntKind.i64.wrap (i_110 + 1)) < μ1 state_108 i_110)
def VC40_J2 (o_ : Api_Object) (l_ : List Api_Oper) (picks : List Api_Pick) (Q : (Int × Int × Int) → Prop) (I1 : Int → Int → Prop) (μ1 : Int → Int → Nat) (state_108 : Int) (i_110 : Int) : Prop :=
  ((0 : Int) ≤ ((gi picks i_110).Oper) ∧ ((gi picks i_110).Oper) < (l_.length : Int)) ∧
  ∀ r128, ref28_Step o_ state_108 ((gi l_ ((gi picks i_110).Oper)).Kind) ((gi picks i_110).Result) = r128 →
  ((r128.2 != 0) = true →
  Q (0, i_110, r128.2)) ∧
  ((r128.2 != 0) = false →
  ((0 : Int) ≤ ((gi picks i_110).Oper) ∧ ((gi picks i_110).Oper) < (l_.length : Int)) ∧
  ((((gi l_ ((gi picks i_110).Oper)).End) != (-1)) = true →
  ((0 : Int) ≤ ((gi picks i_110).Oper) ∧ ((gi picks i_110).Oper) < (l_.length : Int)) ∧
  VC40_J3 Q I1 μ1 state_108 i_110 r128 (((gi l_ ((gi picks i_110).Oper)).Result) != ((gi picks i_110).Result))) ∧
  ((((gi l_ ((gi picks i_110).Oper)).End) != (-1)) = false →
  VC40_J3 Q I1 μ1 state_108 i_110 r128 false))
/-- replevin/replevinref28.From -/
def VC40 (o_ : Api_Object) (l_ : List Api_Oper) (state : Int) (picks : List Api_Pick) (Q : Int × Int × Int → Prop) : Prop :=
  ∀ (_ : sm o_.Rows),
  ∀ (_ : sm l_),
  ∀ (_ : sm picks),
  ∀ r104, ref23_Check o_ = r104 →
  ((r104.2 != 0) = true →
  Q (0, (-1), 2)) ∧
  ((r104.2 != 0) = false →
  (((decide (state < 0)) || (decide (state ≥ o_.States))) = true →
  Q (0, (-1), 30)) ∧
  (((decide (state < 0)) || (decide (state ≥ o_.States))) = false →
  ∃ (I1 : Int → Int → Prop) (μ1 : Int → Int → Nat), I1 state 0 ∧ ∀ (state_108 : Int) (i_110 : Int), I1 state_108 i_110 →
  ((decide (i_110 < ((picks.length : Nat) : Int))) = true →
  ((0 : Int) ≤ i_110 ∧ i_110 < (picks.length : Int)) ∧
  (((decide (((gi picks i_110).Oper) < 0)) || (decide (((gi picks i_110).Oper) ≥ ((l_.length : Nat) : Int)))) = true →
  Q (0, i_110, 2)) ∧
  (((decide (((gi picks i_110).Oper) < 0)) || (decide (((gi picks i_110).Oper) ≥ ((l_.length : Nat) : Int)))) = false →
  ∃ (I2 : Int → Prop) (μ2 : Int → Nat), I2 0 ∧ ∀ (k_149 : Int), I2 k_149 →
  ((decide (k_149 < i_110)) = true →
  ((0 : Int) ≤ k_149 ∧ k_149 < (picks.length : Int)) ∧
  ((((gi picks k_149).Oper) == ((gi picks i_110).Oper)) = true →
  Q (0, i_110, 21)) ∧
  ((((gi picks k_149).Oper) == ((gi picks i_110).Oper)) = false →
  I2 (IntKind.i64.wrap (k_149 + 1)) ∧ μ2 (IntKind.i64.wrap (k_149 + 1)) < μ2 k_149)) ∧
  ((decide (k_149 < i_110)) = false →
  VC40_J2 o_ l_ picks Q I1 μ1 state_108 i_110))) ∧
  ((decide (i_110 < ((picks.length : Nat) : Int))) = false →
  VC40_J1 picks Q state_108)))


/-- replevin/replevinref27.Ahead -/
def VC39 (a_ : Api_Oper) (b_ : Api_Oper) (Q : Bool → Prop) : Prop :=
  Q ((decide (a_.End ≥ 0)) && (decide (b_.Start > a_.End)))


def VC27_J1 (Q : Bool → Prop) : Prop :=
  Q true
def VC27_J2 (I1 : Int → Prop) (μ1 : Int → Nat) (i_107 : Int) : Prop :=
  I1 (IntKind.i64.wrap (i_107 + 1)) ∧ μ1 (IntKind.i64.wrap (i_107 + 1)) < μ1 i_107
def VC27_J4 (Q : Bool → Prop) (I2 : Int → Prop) (μ2 : Int → Nat) (k_115 : Int) (x_126 : Bool) : Prop :=
  (x_126 = true →
  Q false) ∧
  (x_126 = false →
  I2 (IntKind.i64.wrap (k_115 + 1)) ∧ μ2 (IntKind.i64.wrap (k_115 + 1)) < μ2 k_115)
def VC27_J3 (l_ : List Api_Oper) (picks : List Api_Pick) (Q : Bool → Prop) (I1 : Int → Prop) (μ1 : Int → Nat) (i_107 : Int) (x_112 : Bool) : Prop :=
  (x_112 = true →
  Q false) ∧
  (x_112 = false →
  ∃ (I2 : Int → Prop) (μ2 : Int → Nat), I2 0 ∧ ∀ (k_115 : Int), I2 k_115 →
  ((decide (k_115 < ((l_.length : Nat) : Int))) = true →
  ∀ r119, ref29_Place picks i_107 = r119 →
  ∀ r123, ref29_Place picks k_115 = r123 →
  ((0 : Int) ≤ i_107 ∧ i_107 < (l_.length : Int)) ∧
  ((0 : Int) ≤ k_115 ∧ k_115 < (l_.length : Int)) ∧
  ∀ r138, ref27_Ahead (gi l_ i_107) (gi l_ k_115) = r138 →
  (r138 = true →
  ((decide (r123 ≥ 0)) = true →
  ((decide (r119 < 0)) = true →
  VC27_J4 Q I2 μ2 k_115 true) ∧
  ((decide (r119 < 0)) = false →
  VC27_J4 Q I2 μ2 k_115 (decide (r119 > r123)))) ∧
  ((decide (r123 ≥ 0)) = false →
  VC27_J4 Q I2 μ2 k_115 false)) ∧
  (r138 = false →
  VC27_J4 Q I2 μ2 k_115 false)) ∧
  ((decide (k_115 < ((l_.length : Nat) : Int))) = false →
  VC27_J2 I1 μ1 i_107))
/-- replevin/replevinref29.Lin -/
def VC27 (o_ : Api_Object) (l_ : List Api_Oper) (picks : List Api_Pick) (Q : Bool → Prop) : Prop :=
  ∀ (_ : sm o_.Rows),
  ∀ (_ : sm l_),
  ∀ (_ : sm picks),
  ∀ r104, ref28_From o_ l_ o_.Init picks = r104 →
  ((r104.2.2 != 0) = true →
  Q false) ∧
  ((r104.2.2 != 0) = false →
  ∃ (I1 : Int → Prop) (μ1 : Int → Nat), I1 0 ∧ ∀ (i_107 : Int), I1 i_107 →
  ((decide (i_107 < ((l_.length : Nat) : Int))) = true →
  ((0 : Int) ≤ i_107 ∧ i_107 < (l_.length : Int)) ∧
  ((((gi l_ i_107).End) != (-1)) = true →
  ∀ r151, ref29_Place picks i_107 = r151 →
  VC27_J3 l_ picks Q I1 μ1 i_107 (decide (r151 < 0))) ∧
  ((((gi l_ i_107).End) != (-1)) = false →
  VC27_J3 l_ picks Q I1 μ1 i_107 false)) ∧
  ((decide (i_107 < ((l_.length : Nat) : Int))) = false →
  VC27_J1 Q))


def VC14_J1 (Q : Bool → Prop) : Prop :=
  Q true
/-- replevin/replevinref28.Same -/
def VC14 (a_ : List Api_Pick) (b_ : List Api_Pick) (Q : Bool → Prop) : Prop :=
  ∀ (_ : sm a_),
  ∀ (_ : sm b_),
  ((((a_.length : Nat) : Int) != ((b_.length : Nat) : Int)) = true →
  Q false) ∧
  ((((a_.length : Nat) : Int) != ((b_.length : Nat) : Int)) = false →
  ∃ (I1 : Int → Prop) (μ1 : Int → Nat), I1 0 ∧ ∀ (i_103 : Int), I1 i_103 →
  ((decide (i_103 < ((a_.length : Nat) : Int))) = true →
  ((0 : Int) ≤ i_103 ∧ i_103 < (a_.length : Int)) ∧
  ((0 : Int) ≤ i_103 ∧ i_103 < (b_.length : Int)) ∧
  ((!(((gi a_ i_103).Oper) == ((gi b_ i_103).Oper) && (((gi a_ i_103).Result) == ((gi b_ i_103).Result) && true))) = true →
  Q false) ∧
  ((!(((gi a_ i_103).Oper) == ((gi b_ i_103).Oper) && (((gi a_ i_103).Result) == ((gi b_ i_103).Result) && true))) = false →
  I1 (IntKind.i64.wrap (i_103 + 1)) ∧ μ1 (IntKind.i64.wrap (i_103 + 1)) < μ1 i_103)) ∧
  ((decide (i_103 < ((a_.length : Nat) : Int))) = false →
  VC14_J1 Q))


def VC26_J1 (Q : ((List Api_Pick) × Int) → Prop) (out_105 : List Api_Pick) : Prop :=
  Q (out_105, 0)
def VC26_J2 (o_ : Api_Object) (l_ : List Api_Oper) (order : List Int) (Q : ((List Api_Pick) × Int) → Prop) (I1 : (List Api_Pick) → Int → Int → Prop) (μ1 : (List Api_Pick) → Int → Int → Nat) (out_113 : List Api_Pick) (state_117 : Int) (i_118 : Int) (out_125 : List Api_Pick) (x_130 : Int) : Prop :=
  (out_125.length + [(⟨gi order i_118, x_130⟩ : Api_Pick)].length ≤ 1099511627776) ∧
  ∀ r143, ref28_From o_ l_ o_.Init (out_125 ++ [(⟨gi order i_118, x_130⟩ : Api_Pick)]) = r143 →
  ((r143.2.2 != 0) = true →
  Q ([], r143.2.2)) ∧
  ((r143.2.2 != 0) = false →
  I1 (out_125 ++ [(⟨gi order i_118, x_130⟩ : Api_Pick)]) r143.1 (IntKind.i64.wrap (i_118 + 1)) ∧ μ1 (out_125 ++ [(⟨gi order i_118, x_130⟩ : Api_Pick)]) r143.1 (IntKind.i64.wrap (i_118 + 1)) < μ1 out_113 state_117 i_118)
def VC26_J3 (o_ : Api_Object) (l_ : List Api_Oper) (order : List Int) (Q : ((List Api_Pick) × Int) → Prop) (I1 : (List Api_Pick) → Int → Int → Prop) (μ1 : (List Api_Pick) → Int → Int → Nat) (out_113 : List Api_Pick) (state_117 : Int) (i_118 : Int) (out_146 : List Api_Pick) (x_150 : Bool) : Prop :=
  (x_150 = true →
  ((0 : Int) ≤ i_118 ∧ i_118 < (order.length : Int)) ∧
  ((0 : Int) ≤ (gi order i_118) ∧ (gi order i_118) < (l_.length : Int)) ∧
  ∀ r165, ref23_Move o_ state_117 ((gi l_ (gi order i_118)).Kind) = r165 →
  VC26_J2 o_ l_ order Q I1 μ1 out_113 state_117 i_118 out_146 r165.2.1) ∧
  (x_150 = false →
  VC26_J2 o_ l_ order Q I1 μ1 out_113 state_117 i_118 out_146 0)
/-- replevin/replevinref28.Fill -/
def VC26 (o_ : Api_Object) (l_ : List Api_Oper) (order : List Int) (Q : (List Api_Pick) × Int → Prop) : Prop :=
  ∀ (_ : sm o_.Rows),
  ∀ (_ : sm l_),
  ∀ (_ : sm order),
  ∀ r104, ref28_From o_ l_ o_.Init [] = r104 →
  ((r104.2.2 != 0) = true →
  Q ([], r104.2.2)) ∧
  ((r104.2.2 != 0) = false →
  ∃ (I1 : (List Api_Pick) → Int → Int → Prop) (μ1 : (List Api_Pick) → Int → Int → Nat), I1 [] r104.1 0 ∧ ∀ (out_113 : List Api_Pick) (state_117 : Int) (i_118 : Int), I1 out_113 state_117 i_118 →
  ((decide (i_118 < ((order.length : Nat) : Int))) = true →
  ((0 : Int) ≤ i_118 ∧ i_118 < (order.length : Int)) ∧
  ((0 : Int) ≤ i_118 ∧ i_118 < (order.length : Int)) ∧
  ((decide ((gi order i_118) ≥ 0)) = true →
  ((0 : Int) ≤ i_118 ∧ i_118 < (order.length : Int)) ∧
  VC26_J3 o_ l_ order Q I1 μ1 out_113 state_117 i_118 out_113 (decide ((gi order i_118) < ((l_.length : Nat) : Int)))) ∧
  ((decide ((gi order i_118) ≥ 0)) = false →
  VC26_J3 o_ l_ order Q I1 μ1 out_113 state_117 i_118 out_113 false)) ∧
  ((decide (i_118 < ((order.length : Nat) : Int))) = false →
  VC26_J1 Q out_113))


/-- replevin/replevinref27.meets -/
def VC38 (a_ : Api_Oper) (b_ : Api_Oper) (Q : Bool → Prop) : Prop :=
  Q ((((a_.Start == b_.Start) || (a_.End == b_.Start)) || (a_.Start == b_.End)) || ((a_.End == b_.End) && (a_.End != (-1))))


def VC24_J1 (l_ : List Api_Oper) (Q : (Int × Int) → Prop) : Prop :=
  Q (((l_.length : Nat) : Int), 0)
def VC24_J2 (Q : (Int × Int) → Prop) (I1 : Int → Prop) (μ1 : Int → Nat) (i_103 : Int) (open_108 : Bool) : Prop :=
  (open_108 = true →
  Q (i_103, 33)) ∧
  (open_108 = false →
  I1 (IntKind.i64.wrap (i_103 + 1)) ∧ μ1 (IntKind.i64.wrap (i_103 + 1)) < μ1 i_103)
def VC24_J3 (I2 : Bool → Int → Prop) (μ2 : Bool → Int → Nat) (open_110 : Bool) (k_111 : Int) (open_113 : Bool) : Prop :=
  I2 open_113 (IntKind.i64.wrap (k_111 + 1)) ∧ μ2 open_113 (IntKind.i64.wrap (k_111 + 1)) < μ2 open_110 k_111
def VC24_J4 (l_ : List Api_Oper) (Q : (Int × Int) → Prop) (i_103 : Int) (I2 : Bool → Int → Prop) (μ2 : Bool → Int → Nat) (open_110 : Bool) (k_111 : Int) (x_115 : Bool) : Prop :=
  (x_115 = true →
  Q (i_103, 32)) ∧
  (x_115 = false →
  (open_110 = true →
  VC24_J3 I2 μ2 open_110 k_111 true) ∧
  (open_110 = false →
  ((0 : Int) ≤ k_111 ∧ k_111 < (l_.length : Int)) ∧
  ((((gi l_ k_111).Prc) == ((gi l_ i_103).Prc)) = true →
  ((0 : Int) ≤ k_111 ∧ k_111 < (l_.length : Int)) ∧
  ∀ r129, ref27_Ahead (gi l_ k_111) (gi l_ i_103) = r129 →
  VC24_J3 I2 μ2 open_110 k_111 (!r129)) ∧
  ((((gi l_ k_111).Prc) == ((gi l_ i_103).Prc)) = false →
  VC24_J3 I2 μ2 open_110 k_111 false)))
/-- replevin/replevinref27.Check -/
def VC24 (l_ : List Api_Oper) (Q : Int × Int → Prop) : Prop :=
  ∀ (_ : sm l_),
  ((decide (((l_.length : Nat) : Int) > 5000)) = true →
  Q (0, 3)) ∧
  ((decide (((l_.length : Nat) : Int) > 5000)) = false →
  ∃ (I1 : Int → Prop) (μ1 : Int → Nat), I1 0 ∧ ∀ (i_103 : Int), I1 i_103 →
  ((decide (i_103 < ((l_.length : Nat) : Int))) = true →
  ((0 : Int) ≤ i_103 ∧ i_103 < (l_.length : Int)) ∧
  (((((decide (((gi l_ i_103).Prc) < 1)) || (decide (((gi l_ i_103).Prc) > 1000))) || (decide (((gi l_ i_103).Start) < 0))) || (decide (((gi l_ i_103).Start) > 9999))) = true →
  Q (i_103, 2)) ∧
  (((((decide (((gi l_ i_103).Prc) < 1)) || (decide (((gi l_ i_103).Prc) > 1000))) || (decide (((gi l_ i_103).Start) < 0))) || (decide (((gi l_ i_103).Start) > 9999))) = false →
  (((decide (((gi l_ i_103).Kind) < 0)) || (decide (((gi l_ i_103).Kind) > 63))) = true →
  Q (i_103, 31)) ∧
  (((decide (((gi l_ i_103).Kind) < 0)) || (decide (((gi l_ i_103).Kind) > 63))) = false →
  ((((((gi l_ i_103).End) == (-1)) && (((gi l_ i_103).Result) != (-1))) || ((((gi l_ i_103).End) != (-1)) && ((((decide (((gi l_ i_103).End) ≤ ((gi l_ i_103).Start))) || (decide (((gi l_ i_103).End) > 9999))) || (decide (((gi l_ i_103).Result) < 0))) || (decide (((gi l_ i_103).Result) > 1000000))))) = true →
  Q (i_103, 7)) ∧
  ((((((gi l_ i_103).End) == (-1)) && (((gi l_ i_103).Result) != (-1))) || ((((gi l_ i_103).End) != (-1)) && ((((decide (((gi l_ i_103).End) ≤ ((gi l_ i_103).Start))) || (decide (((gi l_ i_103).End) > 9999))) || (decide (((gi l_ i_103).Result) < 0))) || (decide (((gi l_ i_103).Result) > 1000000))))) = false →
  ∃ (I2 : Bool → Int → Prop) (μ2 : Bool → Int → Nat), I2 false 0 ∧ ∀ (open_110 : Bool) (k_111 : Int), I2 open_110 k_111 →
  ((decide (k_111 < i_103)) = true →
  ((0 : Int) ≤ k_111 ∧ k_111 < (l_.length : Int)) ∧
  ((decide (((gi l_ k_111).Start) ≥ ((gi l_ i_103).Start))) = true →
  VC24_J4 l_ Q i_103 I2 μ2 open_110 k_111 true) ∧
  ((decide (((gi l_ k_111).Start) ≥ ((gi l_ i_103).Start))) = false →
  ((0 : Int) ≤ k_111 ∧ k_111 < (l_.length : Int)) ∧
  ∀ r143, ref27_meets (gi l_ k_111) (gi l_ i_103) = r143 →
  VC24_J4 l_ Q i_103 I2 μ2 open_110 k_111 r143)) ∧
  ((decide (k_111 < i_103)) = false →
  VC24_J2 Q I1 μ1 i_103 open_110))))) ∧
  ((decide (i_103 < ((l_.length : Nat) : Int))) = false →
  VC24_J1 l_ Q))


/-- replevin/replevinref30.Check -/
def VC11 (o_ : Api_Object) (l_ : List Api_Oper) (most : Int) (Q : Int → Prop) : Prop :=
  ∀ (_ : sm o_.Rows),
  ∀ (_ : sm l_),
  ∀ r104, ref23_Check o_ = r104 →
  ∀ r108, ref27_Check l_ = r108 →
  (((r104.2 != 0) || (r108.2 != 0)) = true →
  Q 2) ∧
  (((r104.2 != 0) || (r108.2 != 0)) = false →
  ((decide (((l_.length : Nat) : Int) > most)) = true →
  Q 3) ∧
  ((decide (((l_.length : Nat) : Int) > most)) = false →
  Q 0))


def VC25_J1 (Q : ((List (List Int))) → Prop) (out_109 : List (List Int)) : Prop :=
  Q out_109
def VC25_J2 (I1 : (List (List Int)) → (List (List Int)) → Prop) (μ1 : (List (List Int)) → (List (List Int)) → Nat) (out_115 : List (List Int)) (last_119 : List (List Int)) (out_123 : List (List Int)) (next_127 : List (List Int)) : Prop :=
  (out_123.length + next_127.length ≤ 1099511627776) ∧
  I1 (out_123 ++ next_127) next_127 ∧ μ1 (out_123 ++ next_127) next_127 < μ1 out_115 last_119
def VC25_J3 (I2 : (List (List Int)) → (List (List Int)) → Int → Prop) (μ2 : (List (List Int)) → (List (List Int)) → Int → Nat) (out_138 : List (List Int)) (next_143 : List (List Int)) (i_147 : Int) (out_148 : List (List Int)) (next_153 : List (List Int)) : Prop :=
  I2 out_148 next_153 (IntKind.i64.wrap (i_147 + 1)) ∧ μ2 out_148 next_153 (IntKind.i64.wrap (i_147 + 1)) < μ2 out_138 next_143 i_147
def VC25_J4 (I3 : (List (List Int)) → (List (List Int)) → Int → Prop) (μ3 : (List (List Int)) → (List (List Int)) → Int → Nat) (out_157 : List (List Int)) (next_162 : List (List Int)) (k_166 : Int) (out_167 : List (List Int)) (next_172 : List (List Int)) : Prop :=
  I3 out_167 next_172 (IntKind.i64.wrap (k_166 + 1)) ∧ μ3 out_167 next_172 (IntKind.i64.wrap (k_166 + 1)) < μ3 out_157 next_162 k_166
def VC25_J5 (last_119 : List (List Int)) (i_147 : Int) (I3 : (List (List Int)) → (List (List Int)) → Int → Prop) (μ3 : (List (List Int)) → (List (List Int)) → Int → Nat) (out_157 : List (List Int)) (next_162 : List (List Int)) (k_166 : Int) (out_176 : List (List Int)) (next_181 : List (List Int)) (had_185 : Bool) : Prop :=
  ((!had_185) = true →
  ((0 : Int) ≤ i_147 ∧ i_147 < (last_119.length : Int)) ∧
  ∀ (_ : sm (gi last_119 i_147)),
  (([] : List Int).length + (gi last_119 i_147).length ≤ 1099511627776) ∧
  ((([] : List Int) ++ (gi last_119 i_147)).length + [k_166].length ≤ 1099511627776) ∧
  (next_181.length + [(([] : List Int) ++ (gi last_119 i_147)) ++ [k_166]].length ≤ 1099511627776) ∧
  VC25_J4 I3 μ3 out_157 next_162 k_166 out_176 (next_181 ++ [(([] : List Int) ++ (gi last_119 i_147)) ++ [k_166]])) ∧
  ((!had_185) = false →
  VC25_J4 I3 μ3 out_157 next_162 k_166 out_176 next_181)
def VC25_J6 (I4 : (List (List Int)) → (List (List Int)) → Bool → Int → Prop) (μ4 : (List (List Int)) → (List (List Int)) → Bool → Int → Nat) (out_221 : List (List Int)) (next_226 : List (List Int)) (had_230 : Bool) (j_231 : Int) (out_238 : List (List Int)) (next_243 : List (List Int)) (had_247 : Bool) : Prop :=
  I4 out_238 next_243 had_247 (IntKind.i64.wrap (j_231 + 1)) ∧ μ4 out_238 next_243 had_247 (IntKind.i64.wrap (j_231 + 1)) < μ4 out_221 next_226 had_230 j_231
/-- replevin/replevinref30.Orders -/
def VC25 (n_ : Int) (Q : (List (List Int)) → Prop) : Prop :=
  ∃ (I1 : (List (List Int)) → (List (List Int)) → Prop) (μ1 : (List (List Int)) → (List (List Int)) → Nat), I1 ([[]] : List (List Int)) ([[]] : List (List Int)) ∧ ∀ (out_115 : List (List Int)) (last_119 : List (List Int)), I1 out_115 last_119 →
  ((decide (((last_119.length : Nat) : Int) > 0)) = true →
  ∃ (I2 : (List (List Int)) → (List (List Int)) → Int → Prop) (μ2 : (List (List Int)) → (List (List Int)) → Int → Nat), I2 out_115 [] 0 ∧ ∀ (out_138 : List (List Int)) (next_143 : List (List Int)) (i_147 : Int), I2 out_138 next_143 i_147 →
  ((decide (i_147 < ((last_119.length : Nat) : Int))) = true →
  ∃ (I3 : (List (List Int)) → (List (List Int)) → Int → Prop) (μ3 : (List (List Int)) → (List (List Int)) → Int → Nat), I3 out_138 next_143 0 ∧ ∀ (out_157 : List (List Int)) (next_162 : List (List Int)) (k_166 : Int), I3 out_157 next_162 k_166 →
  ((decide (k_166 < n_)) = true →
  ∃ (I4 : (List (List Int)) → (List (List Int)) → Bool → Int → Prop) (μ4 : (List (List Int)) → (List (List Int)) → Bool → Int → Nat), I4 out_157 next_162 false 0 ∧ ∀ (out_221 : List (List Int)) (next_226 : List (List Int)) (had_230 : Bool) (j_231 : Int), I4 out_221 next_226 had_230 j_231 →
  ((0 : Int) ≤ i_147 ∧ i_147 < (last_119.length : Int)) ∧
  ∀ (_ : sm (gi last_119 i_147)),
  ((decide (j_231 < (((gi last_119 i_147).length : Nat) : Int))) = true →
  (had_230 = true →
  VC25_J6 I4 μ4 out_221 next_226 had_230 j_231 out_221 next_226 true) ∧
  (had_230 = false →
  ((0 : Int) ≤ i_147 ∧ i_147 < (last_119.length : Int)) ∧
  ∀ (_ : sm (gi last_119 i_147)),
  ((0 : Int) ≤ j_231 ∧ j_231 < ((gi last_119 i_147).length : Int)) ∧
  VC25_J6 I4 μ4 out_221 next_226 had_230 j_231 out_221 next_226 ((gi (gi last_119 i_147) j_231) == k_166))) ∧
  ((decide (j_231 < (((gi last_119 i_147).length : Nat) : Int))) = false →
  VC25_J5 last_119 i_147 I3 μ3 out_157 next_162 k_166 out_221 next_226 had_230)) ∧
  ((decide (k_166 < n_)) = false →
  VC25_J3 I2 μ2 out_138 next_143 i_147 out_157 next_162)) ∧
  ((decide (i_147 < ((last_119.length : Nat) : Int))) = false →
  VC25_J2 I1 μ1 out_115 last_119 out_138 next_143)) ∧
  ((decide (((last_119.length : Nat) : Int) > 0)) = false →
  VC25_J1 Q out_115)


def VC12_J1 (Q : ((List (List Api_Pick))) → Prop) (out_108 : List (List Api_Pick)) : Prop :=
  Q out_108
def VC12_J2 (I1 : (List (List Api_Pick)) → Int → Prop) (μ1 : (List (List Api_Pick)) → Int → Nat) (out_115 : List (List Api_Pick)) (i_120 : Int) (out_123 : List (List Api_Pick)) : Prop :=
  I1 out_123 (IntKind.i64.wrap (i_120 + 1)) ∧ μ1 out_123 (IntKind.i64.wrap (i_120 + 1)) < μ1 out_115 i_120
def VC12_J3 (I1 : (List (List Api_Pick)) → Int → Prop) (μ1 : (List (List Api_Pick)) → Int → Nat) (out_115 : List (List Api_Pick)) (i_120 : Int) (r140 : (List Api_Pick) × Int) (out_145 : List (List Api_Pick)) (x_151 : Bool) : Prop :=
  (x_151 = true →
  (out_145.length + [r140.1].length ≤ 1099511627776) ∧
  VC12_J2 I1 μ1 out_115 i_120 (out_145 ++ [r140.1])) ∧
  (x_151 = false →
  VC12_J2 I1 μ1 out_115 i_120 out_145)
/-- replevin/replevinref30.All -/
def VC12 (o_ : Api_Object) (l_ : List Api_Oper) (Q : (List (List Api_Pick)) → Prop) : Prop :=
  ∀ (_ : sm o_.Rows),
  ∀ (_ : sm l_),
  (preOr ((l_.length : Nat) : Int)) ∧
  ∀ r104, ref30_Orders ((l_.length : Nat) : Int) = r104 →
  ∀ (_ : sm r104),
  ∃ (I1 : (List (List Api_Pick)) → Int → Prop) (μ1 : (List (List Api_Pick)) → Int → Nat), I1 [] 0 ∧ ∀ (out_115 : List (List Api_Pick)) (i_120 : Int), I1 out_115 i_120 →
  ((decide (i_120 < ((r104.length : Nat) : Int))) = true →
  ((0 : Int) ≤ i_120 ∧ i_120 < (r104.length : Int)) ∧
  ∀ (_ : sm (gi r104 i_120)),
  (preR2 o_ l_ (gi r104 i_120)) ∧
  ∀ r140, ref28_Fill o_ l_ (gi r104 i_120) = r140 →
  ∀ (_ : sm r140.1),
  ((r140.2 == 0) = true →
  ∀ r165, ref29_Lin o_ l_ r140.1 = r165 →
  VC12_J3 I1 μ1 out_115 i_120 r140 out_115 r165) ∧
  ((r140.2 == 0) = false →
  VC12_J3 I1 μ1 out_115 i_120 r140 out_115 false)) ∧
  ((decide (i_120 < ((r104.length : Nat) : Int))) = false →
  VC12_J1 Q out_115)


def VC28_J1 (a_ : List Api_Pick) (b_ : List Api_Pick) (Q : Bool → Prop) : Prop :=
  Q (decide (((a_.length : Nat) : Int) < ((b_.length : Nat) : Int)))
/-- replevin/replevinref30.less -/
def VC28 (a_ : List Api_Pick) (b_ : List Api_Pick) (Q : Bool → Prop) : Prop :=
  ∀ (_ : sm a_),
  ∀ (_ : sm b_),
  ∃ (I1 : Int → Prop) (μ1 : Int → Nat), I1 0 ∧ ∀ (i_105 : Int), I1 i_105 →
  (((decide (i_105 < ((a_.length : Nat) : Int))) && (decide (i_105 < ((b_.length : Nat) : Int)))) = true →
  ((0 : Int) ≤ i_105 ∧ i_105 < (a_.length : Int)) ∧
  ((0 : Int) ≤ i_105 ∧ i_105 < (b_.length : Int)) ∧
  ((((gi a_ i_105).Oper) != ((gi b_ i_105).Oper)) = true →
  ((0 : Int) ≤ i_105 ∧ i_105 < (a_.length : Int)) ∧
  ((0 : Int) ≤ i_105 ∧ i_105 < (b_.length : Int)) ∧
  Q (decide (((gi a_ i_105).Oper) < ((gi b_ i_105).Oper)))) ∧
  ((((gi a_ i_105).Oper) != ((gi b_ i_105).Oper)) = false →
  I1 (IntKind.i64.wrap (i_105 + 1)) ∧ μ1 (IntKind.i64.wrap (i_105 + 1)) < μ1 i_105)) ∧
  (((decide (i_105 < ((a_.length : Nat) : Int))) && (decide (i_105 < ((b_.length : Nat) : Int)))) = false →
  VC28_J1 a_ b_ Q)


def VC13_J1 (Q : ((List Api_Pick) × Bool) → Prop) (best_107 : List Api_Pick) : Prop :=
  Q (best_107, true)
def VC13_J2 (I1 : (List Api_Pick) → Int → Prop) (μ1 : (List Api_Pick) → Int → Nat) (best_112 : List Api_Pick) (i_116 : Int) (best_118 : List Api_Pick) : Prop :=
  I1 best_118 (IntKind.i64.wrap (i_116 + 1)) ∧ μ1 best_118 (IntKind.i64.wrap (i_116 + 1)) < μ1 best_112 i_116
/-- replevin/replevinref30.First -/
def VC13 (l_ : List (List Api_Pick)) (Q : (List Api_Pick) × Bool → Prop) : Prop :=
  ∀ (_ : sm l_),
  ((((l_.length : Nat) : Int) == 0) = true →
  Q ([], false)) ∧
  ((((l_.length : Nat) : Int) == 0) = false →
  ((0 : Int) ≤ 0 ∧ 0 < (l_.length : Int)) ∧
  ∀ (_ : sm (gi l_ 0)),
  ∃ (I1 : (List Api_Pick) → Int → Prop) (μ1 : (List Api_Pick) → Int → Nat), I1 (gi l_ 0) 1 ∧ ∀ (best_112 : List Api_Pick) (i_116 : Int), I1 best_112 i_116 →
  ((decide (i_116 < ((l_.length : Nat) : Int))) = true →
  ((0 : Int) ≤ i_116 ∧ i_116 < (l_.length : Int)) ∧
  ∀ (_ : sm (gi l_ i_116)),
  ∀ r131, ref30_less (gi l_ i_116) best_112 = r131 →
  (r131 = true →
  ((0 : Int) ≤ i_116 ∧ i_116 < (l_.length : Int)) ∧
  ∀ (_ : sm (gi l_ i_116)),
  VC13_J2 I1 μ1 best_112 i_116 (gi l_ i_116)) ∧
  (r131 = false →
  VC13_J2 I1 μ1 best_112 i_116 best_112)) ∧
  ((decide (i_116 < ((l_.length : Nat) : Int))) = false →
  VC13_J1 Q best_112))


/-- replevin/oper.Free$1 -/
def VC48 (i_ : Int) (cap1 : List Bool) (Q : Bool → Prop) : Prop :=
  ∀ (_ : sm cap1),
  ((decide (i_ < ((cap1.length : Nat) : Int))) = true →
  ((0 : Int) ≤ i_ ∧ i_ < (cap1.length : Int)) ∧
  Q (gi cap1 i_)) ∧
  ((decide (i_ < ((cap1.length : Nat) : Int))) = false →
  Q false)


def VC31_J1 (Q : ((List Int)) → Prop) (out_101 : List Int) : Prop :=
  Q out_101
def VC31_J2 (I1 : (List Int) → Int → Prop) (μ1 : (List Int) → Int → Nat) (out_108 : List Int) (x_113 : Int) (out_116 : List Int) : Prop :=
  I1 out_116 (IntKind.i64.wrap (x_113 + 1)) ∧ μ1 out_116 (IntKind.i64.wrap (x_113 + 1)) < μ1 out_108 x_113
def VC31_J3 (I1 : (List Int) → Int → Prop) (μ1 : (List Int) → Int → Nat) (out_108 : List Int) (x_113 : Int) (out_131 : List Int) (free_135 : Bool) : Prop :=
  (free_135 = true →
  (out_131.length + [x_113].length ≤ 1099511627776) ∧
  VC31_J2 I1 μ1 out_108 x_113 (out_131 ++ [x_113])) ∧
  (free_135 = false →
  VC31_J2 I1 μ1 out_108 x_113 out_131)
def VC31_J4 (I2 : (List Int) → Bool → Int → Prop) (μ2 : (List Int) → Bool → Int → Nat) (out_148 : List Int) (free_152 : Bool) (x_155 : Int) (out_158 : List Int) (free_162 : Bool) : Prop :=
  I2 out_158 free_162 (IntKind.i64.wrap (x_155 + 1)) ∧ μ2 out_158 free_162 (IntKind.i64.wrap (x_155 + 1)) < μ2 out_148 free_152 x_155
/-- replevin/oper.Free -/
def VC31 (l_ : List Api_Oper) (done : List Bool) (Q : (List Int) → Prop) : Prop :=
  ∀ (_ : sm l_),
  ∀ (_ : sm done),
  ∃ (I1 : (List Int) → Int → Prop) (μ1 : (List Int) → Int → Nat), I1 [] 0 ∧ ∀ (out_108 : List Int) (x_113 : Int), I1 out_108 x_113 →
  ((decide (x_113 < ((l_.length : Nat) : Int))) = true →
  ((0 : Int) ≤ x_113 ∧ x_113 < (l_.length : Int)) ∧
  (preF1 x_113 done) ∧
  ∀ r128, oper_Free_1 x_113 done = r128 →
  ∃ (I2 : (List Int) → Bool → Int → Prop) (μ2 : (List Int) → Bool → Int → Nat), I2 out_108 (!r128) 0 ∧ ∀ (out_148 : List Int) (free_152 : Bool) (x_155 : Int), I2 out_148 free_152 x_155 →
  ((decide (x_155 < ((l_.length : Nat) : Int))) = true →
  ((0 : Int) ≤ x_155 ∧ x_155 < (l_.length : Int)) ∧
  (free_152 = true →
  (preF1 x_155 done) ∧
  ∀ r172, oper_Free_1 x_155 done = r172 →
  (r172 = true →
  VC31_J4 I2 μ2 out_148 free_152 x_155 out_148 true) ∧
  (r172 = false →
  ∀ r177, oper_Ahead (gi l_ x_155) (gi l_ x_113) = r177 →
  VC31_J4 I2 μ2 out_148 free_152 x_155 out_148 (!r177))) ∧
  (free_152 = false →
  VC31_J4 I2 μ2 out_148 free_152 x_155 out_148 false)) ∧
  ((decide (x_155 < ((l_.length : Nat) : Int))) = false →
  VC31_J3 I1 μ1 out_108 x_113 out_148 free_152)) ∧
  ((decide (x_113 < ((l_.length : Nat) : Int))) = false →
  VC31_J1 Q out_108)


def VC18_J1 (Q : ((List Api_Pick)) → Prop) (out_105 : List Api_Pick) : Prop :=
  Q out_105
def VC18_J2 (I1 : (List Api_Pick) → Int → Prop) (μ1 : (List Api_Pick) → Int → Nat) (out_117 : List Api_Pick) (x_122 : Int) (out_125 : List Api_Pick) : Prop :=
  I1 out_125 (IntKind.i64.wrap (x_122 + 1)) ∧ μ1 out_125 (IntKind.i64.wrap (x_122 + 1)) < μ1 out_117 x_122
def VC18_J3 (r112 : (List Int)) (I1 : (List Api_Pick) → Int → Prop) (μ1 : (List Api_Pick) → Int → Nat) (out_117 : List Api_Pick) (x_122 : Int) (r144 : Int × Int × Bool) (out_146 : List Api_Pick) (x_151 : Bool) : Prop :=
  (x_151 = true →
  (out_146.length + [(⟨gi r112 x_122, r144.2.1⟩ : Api_Pick)].length ≤ 1099511627776) ∧
  VC18_J2 I1 μ1 out_117 x_122 (out_146 ++ [(⟨gi r112 x_122, r144.2.1⟩ : Api_Pick)])) ∧
  (x_151 = false →
  VC18_J2 I1 μ1 out_117 x_122 out_146)
/-- replevin/search.Next -/
def VC18 (o_ : Api_Object) (l_ : List Api_Oper) (state : Int) (done : List Bool) (Q : (List Api_Pick) → Prop) : Prop :=
  ∀ (_ : sm o_.Rows),
  ∀ (_ : sm l_),
  ∀ (_ : sm done),
  (preO o_) ∧
  ∀ r104, object_Check o_ = r104 →
  ((r104.2 != 0) = true →
  Q []) ∧
  ((r104.2 != 0) = false →
  (preFr l_ done) ∧
  ∀ r112, oper_Free l_ done = r112 →
  ∀ (_ : sm r112),
  ∃ (I1 : (List Api_Pick) → Int → Prop) (μ1 : (List Api_Pick) → Int → Nat), I1 [] 0 ∧ ∀ (out_117 : List Api_Pick) (x_122 : Int), I1 out_117 x_122 →
  ((decide (x_122 < ((r112.length : Nat) : Int))) = true →
  ((0 : Int) ≤ x_122 ∧ x_122 < (r112.length : Int)) ∧
  ((0 : Int) ≤ (gi r112 x_122) ∧ (gi r112 x_122) < (l_.length : Int)) ∧
  ∀ r144, object_Move o_ state ((gi l_ (gi r112 x_122)).Kind) = r144 →
  (r144.2.2 = true →
  ((0 : Int) ≤ (gi r112 x_122) ∧ (gi r112 x_122) < (l_.length : Int)) ∧
  ((((gi l_ (gi r112 x_122)).End) == (-1)) = true →
  VC18_J3 r112 I1 μ1 out_117 x_122 r144 out_117 true) ∧
  ((((gi l_ (gi r112 x_122)).End) == (-1)) = false →
  ((0 : Int) ≤ (gi r112 x_122) ∧ (gi r112 x_122) < (l_.length : Int)) ∧
  VC18_J3 r112 I1 μ1 out_117 x_122 r144 out_117 (((gi l_ (gi r112 x_122)).Result) == r144.2.1))) ∧
  (r144.2.2 = false →
  VC18_J3 r112 I1 μ1 out_117 x_122 r144 out_117 false)) ∧
  ((decide (x_122 < ((r112.length : Nat) : Int))) = false →
  VC18_J1 Q out_117))


/-- replevin/search.check -/
def VC19 (o_ : Api_Object) (l_ : List Api_Oper) (most : Int) (Q : Int → Prop) : Prop :=
  ∀ (_ : sm o_.Rows),
  ∀ (_ : sm l_),
  (preO o_) ∧
  ∀ r104, object_Check o_ = r104 →
  ∀ r108, oper_Check l_ = r108 →
  (((r104.2 != 0) || (r108.2 != 0)) = true →
  Q 2) ∧
  (((r104.2 != 0) || (r108.2 != 0)) = false →
  ((decide (((l_.length : Nat) : Int) > most)) = true →
  Q 3) ∧
  ((decide (((l_.length : Nat) : Int) > most)) = false →
  Q 0))


/-- slices.Clone[[]replevin/api.Pick,replevin/api.Pick] -/
def VC37 (s_ : List Api_Pick) (Q : (List Api_Pick) → Prop) : Prop :=
  ∀ (_ : sm s_),
  ∀ (b101 : Bool), (b101 = true → s_ = []) →
  (b101 = true →
  Q []) ∧
  (b101 = false →
  (([] : List Api_Pick).length + s_.length ≤ 1099511627776) ∧
  Q (([] : List Api_Pick) ++ s_))


def VC35_J1 (Q : Search_spot → Prop) (x_101 : Int) (x_102 : Int) : Prop :=
  Q (⟨x_101, x_102⟩ : Search_spot)
def VC35_J2 (I1 : Int → Int → Int → Prop) (μ1 : Int → Int → Int → Nat) (x_110 : Int) (x_111 : Int) (x_112 : Int) (x_118 : Int) : Prop :=
  I1 (IntKind.i64.wrap (x_110 + 1)) x_118 x_112 ∧ μ1 (IntKind.i64.wrap (x_110 + 1)) x_118 x_112 < μ1 x_110 x_111 x_112
/-- (*replevin/search.seeker).here -/
def VC35 (state : Int) (cap1 : Search_seeker) (Q : Search_spot → Prop) : Prop :=
  ∀ (_ : sm cap1.o.Rows),
  ∀ (_ : sm cap1.l),
  ∀ (_ : sm cap1.done),
  ∃ (I1 : Int → Int → Int → Prop) (μ1 : Int → Int → Int → Nat), I1 0 0 state ∧ ∀ (x_110 : Int) (x_111 : Int) (x_112 : Int), I1 x_110 x_111 x_112 →
  ((decide (x_110 < ((cap1.done.length : Nat) : Int))) = true →
  ((0 : Int) ≤ x_110 ∧ x_110 < (cap1.done.length : Int)) ∧
  ((gi cap1.done x_110) = true →
  ((0 : Int) ≤ x_110) ∧
  VC35_J2 I1 μ1 x_110 x_111 x_112 (IntKind.u32.wrap ((BitVec.ofInt IntKind.u32.bits x_111 ||| BitVec.ofInt IntKind.u32.bits (IntKind.u32.wrap (1 * 2 ^ (min x_110.toNat IntKind.u32.bits)))).toNat : Int))) ∧
  ((gi cap1.done x_110) = false →
  VC35_J2 I1 μ1 x_110 x_111 x_112 x_111)) ∧
  ((decide (x_110 < ((cap1.done.length : Nat) : Int))) = false →
  VC35_J1 Q x_111 x_112)


def VC34_J1 (Q : Bool → Prop) : Prop :=
  Q true
def VC34_J2 (Q : Bool → Prop) (I1 : Int → Prop) (μ1 : Int → Nat) (x_106 : Int) (x_115 : Bool) : Prop :=
  (x_115 = true →
  Q false) ∧
  (x_115 = false →
  I1 (IntKind.i64.wrap (x_106 + 1)) ∧ μ1 (IntKind.i64.wrap (x_106 + 1)) < μ1 x_106)
/-- (*replevin/search.seeker).whole -/
def VC34 (cap1 : Search_seeker) (Q : Bool → Prop) : Prop :=
  ∀ (_ : sm cap1.o.Rows),
  ∀ (_ : sm cap1.l),
  ∀ (_ : sm cap1.done),
  ∃ (I1 : Int → Prop) (μ1 : Int → Nat), I1 0 ∧ ∀ (x_106 : Int), I1 x_106 →
  ((decide (x_106 < ((cap1.l.length : Nat) : Int))) = true →
  ((0 : Int) ≤ x_106 ∧ x_106 < (cap1.l.length : Int)) ∧
  ((((gi cap1.l x_106).End) != (-1)) = true →
  ((0 : Int) ≤ x_106 ∧ x_106 < (cap1.done.length : Int)) ∧
  VC34_J2 Q I1 μ1 x_106 (!(gi cap1.done x_106))) ∧
  ((((gi cap1.l x_106).End) != (-1)) = false →
  VC34_J2 Q I1 μ1 x_106 false)) ∧
  ((decide (x_106 < ((cap1.l.length : Nat) : Int))) = false →
  VC34_J1 Q)


/-- (*replevin/search.seeker).first$1 -/
def VC36 (N : Nat) (p_ : Api_Pick) (cap2 : Search_seeker) (cap3 : Int) (cap4 : List Api_Pick) (Q : (List Api_Pick) × Bool × Search_seeker → Prop) : Prop :=
  ∀ (_ : sm cap2.o.Rows),
  ∀ (_ : sm cap2.l),
  ∀ (_ : sm cap2.done),
  ∀ (_ : sm cap4),
  ((0 : Int) ≤ p_.Oper ∧ p_.Oper < (cap2.l.length : Int)) ∧
  ∀ r111, object_Move cap2.o cap3 ((gi cap2.l p_.Oper).Kind) = r111 →
  ((0 : Int) ≤ p_.Oper ∧ p_.Oper < (cap2.done.length : Int)) ∧
  (preCl cap4) ∧
  ∀ r126, slices_Clone_api_Pick_api_Pick cap4 = r126 →
  ∀ (_ : sm r126),
  (r126.length + [p_].length ≤ 1099511627776) ∧
  (preFi r111.1 (r126 ++ [p_]) (⟨cap2.o, cap2.l, (cap2.done.set p_.Oper.toNat true), cap2.failed⟩ : Search_seeker) ∧ mFirst r111.1 (r126 ++ [p_]) (⟨cap2.o, cap2.l, (cap2.done.set p_.Oper.toNat true), cap2.failed⟩ : Search_seeker) < N) ∧
  ∀ r190, search_seeker_first r111.1 (r126 ++ [p_]) (⟨cap2.o, cap2.l, (cap2.done.set p_.Oper.toNat true), cap2.failed⟩ : Search_seeker) = r190 →
  ∀ (_ : sm r190.1),
  ∀ (_ : sm r190.2.2.o.Rows),
  ∀ (_ : sm r190.2.2.l),
  ∀ (_ : sm r190.2.2.done),
  ((0 : Int) ≤ p_.Oper ∧ p_.Oper < (r190.2.2.done.length : Int)) ∧
  Q (r190.1, r190.2.1, (⟨r190.2.2.o, r190.2.2.l, (r190.2.2.done.set p_.Oper.toNat false), r190.2.2.failed⟩ : Search_seeker))


def VC21_J2 (N : Nat) (Q : ((List Api_Pick) × Bool × Search_seeker) → Prop) (x_120 : Int) (x_121 : Int) (x_122 : Int) (x_123 : List Api_Row) (x_127 : List Api_Oper) (x_139 : List Bool) (x_143 : List (Search_spot × Int)) : Prop :=
  Q ([], false, (⟨(⟨x_120, x_121, x_122, x_123⟩ : Api_Object), x_127, x_139, x_143⟩ : Search_seeker))
def VC21_J1 (N : Nat) (state : Int) (Q : ((List Api_Pick) × Bool × Search_seeker) → Prop) (r112 : Search_spot) (x_120 : Int) (x_121 : Int) (x_122 : Int) (x_123 : List Api_Row) (x_127 : List Api_Oper) (x_131 : List Bool) (x_135 : List (Search_spot × Int)) : Prop :=
  ((!(r112.done == 0 && (r112.state == 0 && true))) = true →
  VC21_J2 N Q x_120 x_121 x_122 x_123 x_127 x_131 (mput x_135 r112 (IntKind.i64.wrap (((mget x_135 r112).getD 0) + 1)))) ∧
  ((!(r112.done == 0 && (r112.state == 0 && true))) = false →
  VC21_J2 N Q x_120 x_121 x_122 x_123 x_127 x_131 x_135)
/-- (*replevin/search.seeker).first -/
def VC21 (N : Nat) (state : Int) (so : List Api_Pick) (cap1 : Search_seeker) (Q : (List Api_Pick) × Bool × Search_seeker → Prop) : Prop :=
  ∀ (_ : sm so),
  ∀ (_ : sm cap1.o.Rows),
  ∀ (_ : sm cap1.l),
  ∀ (_ : sm cap1.done),
  (preWh cap1) ∧
  ∀ r104, search_seeker_whole cap1 = r104 →
  (r104 = true →
  Q (so, true, cap1)) ∧
  (r104 = false →
  ∀ r112, search_seeker_here state cap1 = r112 →
  ((decide (((mget cap1.failed r112).getD 0) > 0)) = true →
  Q ([], false, cap1)) ∧
  ((decide (((mget cap1.failed r112).getD 0) > 0)) = false →
  (preNx cap1.o cap1.l state cap1.done) ∧
  ∀ r190, search_Next cap1.o cap1.l state cap1.done = r190 →
  ∀ (_ : sm r190),
  ∃ (I1 : (List Api_Pick) → Int → Int → Int → Int → (List Api_Row) → (List Api_Oper) → (List Bool) → (List (Search_spot × Int)) → Prop) (μ1 : (List Api_Pick) → Int → Int → Int → Int → (List Api_Row) → (List Api_Oper) → (List Bool) → (List (Search_spot × Int)) → Nat), I1 r190 0 cap1.o.States cap1.o.Kinds cap1.o.Init cap1.o.Rows cap1.l cap1.done cap1.failed ∧ ∀ (x_194 : List Api_Pick) (x_198 : Int) (x_200 : Int) (x_201 : Int) (x_202 : Int) (x_203 : List Api_Row) (x_207 : List Api_Oper) (x_211 : List Bool) (x_215 : List (Search_spot × Int)), I1 x_194 x_198 x_200 x_201 x_202 x_203 x_207 x_211 x_215 →
  ((decide (x_198 < ((r190.length : Nat) : Int))) = true →
  ((0 : Int) ≤ x_198 ∧ x_198 < (x_194.length : Int)) ∧
  (preTr (gi x_194 x_198) (⟨(⟨x_200, x_201, x_202, x_203⟩ : Api_Object), x_207, x_211, x_215⟩ : Search_seeker) state so ∧ mTry (gi x_194 x_198) (⟨(⟨x_200, x_201, x_202, x_203⟩ : Api_Object), x_207, x_211, x_215⟩ : Search_seeker) state so < N) ∧
  ∀ r225, search_seeker_first_1 (gi x_194 x_198) (⟨(⟨x_200, x_201, x_202, x_203⟩ : Api_Object), x_207, x_211, x_215⟩ : Search_seeker) state so = r225 →
  ∀ (_ : sm r225.1),
  ∀ (_ : sm r225.2.2.o.Rows),
  ∀ (_ : sm r225.2.2.l),
  ∀ (_ : sm r225.2.2.done),
  (r225.2.1 = true →
  Q (r225.1, true, r225.2.2)) ∧
  (r225.2.1 = false →
  I1 x_194 (IntKind.i64.wrap (x_198 + 1)) r225.2.2.o.States r225.2.2.o.Kinds r225.2.2.o.Init r225.2.2.o.Rows r225.2.2.l r225.2.2.done r225.2.2.failed ∧ μ1 x_194 (IntKind.i64.wrap (x_198 + 1)) r225.2.2.o.States r225.2.2.o.Kinds r225.2.2.o.Init r225.2.2.o.Rows r225.2.2.l r225.2.2.done r225.2.2.failed < μ1 x_194 x_198 x_200 x_201 x_202 x_203 x_207 x_211 x_215)) ∧
  ((decide (x_198 < ((r190.length : Nat) : Int))) = false →
  VC21_J1 N state Q r112 x_200 x_201 x_202 x_203 x_207 x_211 x_215)))


def VC22_J2 (N : Nat) (Q : (Int × Search_seeker) → Prop) (n_109 : Int) (x_110 : Int) (x_111 : Int) (x_112 : Int) (x_113 : List Api_Row) (x_117 : List Api_Oper) (x_121 : List Bool) (x_125 : List (Search_spot × Int)) : Prop :=
  Q (n_109, (⟨(⟨x_110, x_111, x_112, x_113⟩ : Api_Object), x_117, x_121, x_125⟩ : Search_seeker))
def VC22_J1 (N : Nat) (state : Int) (cap1 : Search_seeker) (Q : (Int × Search_seeker) → Prop) (n_101 : Int) (x_104 : List Bool) : Prop :=
  (preNx cap1.o cap1.l state x_104) ∧
  ∀ r132, search_Next cap1.o cap1.l state x_104 = r132 →
  ∀ (_ : sm r132),
  ∃ (I1 : Int → (List Api_Pick) → Int → Int → Int → Int → (List Api_Row) → (List Api_Oper) → (List Bool) → (List (Search_spot × Int)) → Prop) (μ1 : Int → (List Api_Pick) → Int → Int → Int → Int → (List Api_Row) → (List Api_Oper) → (List Bool) → (List (Search_spot × Int)) → Nat), I1 n_101 r132 0 cap1.o.States cap1.o.Kinds cap1.o.Init cap1.o.Rows cap1.l x_104 cap1.failed ∧ ∀ (n_136 : Int) (x_137 : List Api_Pick) (x_141 : Int) (x_142 : Int) (x_143 : Int) (x_144 : Int) (x_145 : List Api_Row) (x_149 : List Api_Oper) (x_153 : List Bool) (x_157 : List (Search_spot × Int)), I1 n_136 x_137 x_141 x_142 x_143 x_144 x_145 x_149 x_153 x_157 →
  ((decide (x_141 < ((r132.length : Nat) : Int))) = true →
  ((0 : Int) ≤ x_141 ∧ x_141 < (x_137.length : Int)) ∧
  ((0 : Int) ≤ ((gi x_137 x_141).Oper) ∧ ((gi x_137 x_141).Oper) < (x_149.length : Int)) ∧
  ∀ r174, object_Move (⟨x_142, x_143, x_144, x_145⟩ : Api_Object) state ((gi x_149 ((gi x_137 x_141).Oper)).Kind) = r174 →
  ((0 : Int) ≤ ((gi x_137 x_141).Oper) ∧ ((gi x_137 x_141).Oper) < (x_153.length : Int)) ∧
  (preAl r174.1 (⟨(⟨x_142, x_143, x_144, x_145⟩ : Api_Object), x_149, (x_153.set ((gi x_137 x_141).Oper).toNat true), x_157⟩ : Search_seeker) ∧ mAll r174.1 (⟨(⟨x_142, x_143, x_144, x_145⟩ : Api_Object), x_149, (x_153.set ((gi x_137 x_141).Oper).toNat true), x_157⟩ : Search_seeker) < N) ∧
  ∀ r187, search_seeker_all r174.1 (⟨(⟨x_142, x_143, x_144, x_145⟩ : Api_Object), x_149, (x_153.set ((gi x_137 x_141).Oper).toNat true), x_157⟩ : Search_seeker) = r187 →
  ∀ (_ : sm r187.2.o.Rows),
  ∀ (_ : sm r187.2.l),
  ∀ (_ : sm r187.2.done),
  ((0 : Int) ≤ ((gi x_137 x_141).Oper) ∧ ((gi x_137 x_141).Oper) < (r187.2.done.length : Int)) ∧
  I1 (IntKind.i64.wrap (n_136 + r187.1)) x_137 (IntKind.i64.wrap (x_141 + 1)) r187.2.o.States r187.2.o.Kinds r187.2.o.Init r187.2.o.Rows r187.2.l (r187.2.done.set ((gi x_137 x_141).Oper).toNat false) r187.2.failed ∧ μ1 (IntKind.i64.wrap (n_136 + r187.1)) x_137 (IntKind.i64.wrap (x_141 + 1)) r187.2.o.States r187.2.o.Kinds r187.2.o.Init r187.2.o.Rows r187.2.l (r187.2.done.set ((gi x_137 x_141).Oper).toNat false) r187.2.failed < μ1 n_136 x_137 x_141 x_142 x_143 x_144 x_145 x_149 x_153 x_157) ∧
  ((decide (x_141 < ((r132.length : Nat) : Int))) = false →
  VC22_J2 N Q n_136 x_142 x_143 x_144 x_145 x_149 x_153 x_157)
/-- (*replevin/search.seeker).all -/
def VC22 (N : Nat) (state : Int) (cap1 : Search_seeker) (Q : Int × Search_seeker → Prop) : Prop :=
  ∀ (_ : sm cap1.o.Rows),
  ∀ (_ : sm cap1.l),
  ∀ (_ : sm cap1.done),
  (preWh cap1) ∧
  ∀ r217, search_seeker_whole cap1 = r217 →
  (r217 = true →
  VC22_J1 N state cap1 Q 1 cap1.done) ∧
  (r217 = false →
  VC22_J1 N state cap1 Q 0 cap1.done)


/-- replevin/search.begin -/
def VC20 (o_ : Api_Object) (l_ : List Api_Oper) (Q : Search_seeker → Prop) : Prop :=
  ∀ (_ : sm o_.Rows),
  ∀ (_ : sm l_),
  ((0 : Int) ≤ ((l_.length : Nat) : Int) ∧ ((l_.length : Nat) : Int) ≤ ((l_.length : Nat) : Int) ∧ ((l_.length : Nat) : Int) ≤ 1099511627776) ∧
  Q (⟨o_, l_, List.replicate ((l_.length : Nat) : Int).toNat (false : Bool), ([] : List (Search_spot × Int))⟩ : Search_seeker)


def VC8_J1 (Q : ((List Api_Pick) × Int) → Prop) (r128 : (List Api_Pick) × Bool × Search_seeker) (x_144 : Bool) : Prop :=
  (x_144 = true →
  Q ([], 41)) ∧
  (x_144 = false →
  Q (r128.1, 0))
/-- replevin/search.Search -/
def VC8 (o_ : Api_Object) (l_ : List Api_Oper) (Q : (List Api_Pick) × Int → Prop) : Prop :=
  ∀ (_ : sm o_.Rows),
  ∀ (_ : sm l_),
  (preCk o_ l_ 20) ∧
  ∀ r104, search_check o_ l_ 20 = r104 →
  ((r104 != 0) = true →
  Q ([], r104)) ∧
  ((r104 != 0) = false →
  (preBg o_ l_) ∧
  ∀ r110, search_begin o_ l_ = r110 →
  ∀ (_ : sm r110.o.Rows),
  ∀ (_ : sm r110.l),
  ∀ (_ : sm r110.done),
  (preFi o_.Init [] r110) ∧
  ∀ r128, search_seeker_first o_.Init [] r110 = r128 →
  ∀ (_ : sm r128.1),
  ∀ (_ : sm r128.2.2.o.Rows),
  ∀ (_ : sm r128.2.2.l),
  ∀ (_ : sm r128.2.2.done),
  ((!r128.2.1) = true →
  VC8_J1 Q r128 true) ∧
  ((!r128.2.1) = false →
  (preO2 o_ l_ r128.1) ∧
  ∀ r148, witness_Is o_ l_ r128.1 = r148 →
  VC8_J1 Q r128 (!r148)))


/-- replevin/search.Lin -/
def VC9 (o_ : Api_Object) (l_ : List Api_Oper) (Q : Bool × Int → Prop) : Prop :=
  ∀ (_ : sm o_.Rows),
  ∀ (_ : sm l_),
  (preSe o_ l_) ∧
  ∀ r104, search_Search o_ l_ = r104 →
  ∀ (_ : sm r104.1),
  ((r104.2 == 41) = true →
  Q (false, 0)) ∧
  ((r104.2 == 41) = false →
  Q ((r104.2 == 0), r104.2))


/-- replevin/search.Count -/
def VC10 (o_ : Api_Object) (l_ : List Api_Oper) (Q : Int × Int → Prop) : Prop :=
  ∀ (_ : sm o_.Rows),
  ∀ (_ : sm l_),
  (preCk o_ l_ 6) ∧
  ∀ r104, search_check o_ l_ 6 = r104 →
  ((r104 != 0) = true →
  Q (0, r104)) ∧
  ((r104 != 0) = false →
  (preBg o_ l_) ∧
  ∀ r110, search_begin o_ l_ = r110 →
  ∀ (_ : sm r110.o.Rows),
  ∀ (_ : sm r110.l),
  ∀ (_ : sm r110.done),
  (preAl o_.Init r110) ∧
  ∀ r128, search_seeker_all o_.Init r110 = r128 →
  ∀ (_ : sm r128.2.o.Rows),
  ∀ (_ : sm r128.2.l),
  ∀ (_ : sm r128.2.done),
  Q (r128.1, 0))


/-- replevin/replevinlaw30.flag -/
def VC16 (Q : Api_Object → Prop) : Prop :=
  Q (⟨2, 2, 0, [(⟨0, 0, 1, 0⟩ : Api_Row), (⟨0, 1, 0, 0⟩ : Api_Row), (⟨1, 0, 1, 0⟩ : Api_Row), (⟨1, 1, 1, 1⟩ : Api_Row)]⟩ : Api_Object)


/-- replevin/replevinlaw30.ops -/
def VC17 (a_ : Int) (b_ : Int) (Q : (List Api_Oper) → Prop) : Prop :=
  Q [(⟨1, 0, 0, 3, 0⟩ : Api_Oper), (⟨2, 1, 1, 2, a_⟩ : Api_Oper), (⟨2, 1, 4, 5, b_⟩ : Api_Oper)]


/-- replevin/replevinlaw30.awake -/
def VC7 (Q : Bool → Prop) : Prop :=
  ∀ r104, law30_flag = r104 →
  ∀ (_ : sm r104.Rows),
  ∀ r111, law30_ops 0 1 = r111 →
  ∀ (_ : sm r111),
  (preSe r104 r111) ∧
  ∀ r118, search_Search r104 r111 = r118 →
  ∀ (_ : sm r118.1),
  ∀ r125, law30_flag = r125 →
  ∀ (_ : sm r125.Rows),
  ∀ r132, law30_ops 1 1 = r132 →
  ∀ (_ : sm r132),
  (preSe r125 r132) ∧
  ∀ r139, search_Search r125 r132 = r139 →
  ∀ (_ : sm r139.1),
  ∀ r146, law30_flag = r146 →
  ∀ (_ : sm r146.Rows),
  ∀ r153, law30_ops 1 0 = r153 →
  ∀ (_ : sm r153),
  (preSe r146 r153) ∧
  ∀ r160, search_Search r146 r153 = r160 →
  ∀ (_ : sm r160.1),
  ∀ r167, law30_flag = r167 →
  ∀ (_ : sm r167.Rows),
  ∀ r174, law30_ops 1 0 = r174 →
  ∀ (_ : sm r174),
  (preSe r167 r174) ∧
  ∀ r181, search_Lin r167 r174 = r181 →
  ∀ r185, law30_flag = r185 →
  ∀ (_ : sm r185.Rows),
  ∀ r192, law30_ops 1 1 = r192 →
  ∀ (_ : sm r192),
  (preSe r185 r192) ∧
  ∀ r199, search_Count r185 r192 = r199 →
  (preSe (⟨0, 0, 0, []⟩ : Api_Object) []) ∧
  ∀ r203, search_Lin (⟨0, 0, 0, []⟩ : Api_Object) [] = r203 →
  ∀ r207, law30_flag = r207 →
  ∀ (_ : sm r207.Rows),
  (preSe r207 []) ∧
  ∀ r214, search_Count r207 [] = r214 →
  ∀ r218, law30_flag = r218 →
  ∀ (_ : sm r218.Rows),
  ∀ r225, law30_ops 0 1 = r225 →
  ∀ (_ : sm r225),
  (preNx r218 r225 0 []) ∧
  ∀ r232, search_Next r218 r225 0 [] = r232 →
  ∀ (_ : sm r232),
  ∀ r243, ref28_Same r118.1 [(⟨1, 0⟩ : Api_Pick), (⟨0, 0⟩ : Api_Pick), (⟨2, 1⟩ : Api_Pick)] = r243 →
  ((r243 && (r118.2 == 0)) = true →
  ∀ r251, ref28_Same r139.1 [(⟨0, 0⟩ : Api_Pick), (⟨1, 1⟩ : Api_Pick), (⟨2, 1⟩ : Api_Pick)] = r251 →
  ((((((((((r251 && (r139.2 == 0)) && (r160.2 == 41)) && (!r181.1)) && (r181.2 == 0)) && (r199.1 == 1)) && (r199.2 == 0)) && (r203.2 == 2)) && (r214.1 == 1)) && (r214.2 == 0)) = true →
  ∀ r259, ref28_Same r232 [(⟨0, 0⟩ : Api_Pick), (⟨1, 0⟩ : Api_Pick)] = r259 →
  Q r259) ∧
  ((((((((((r251 && (r139.2 == 0)) && (r160.2 == 41)) && (!r181.1)) && (r181.2 == 0)) && (r199.1 == 1)) && (r199.2 == 0)) && (r203.2 == 2)) && (r214.1 == 1)) && (r214.2 == 0)) = false →
  Q false)) ∧
  ((r243 && (r118.2 == 0)) = false →
  Q false)


def VC3_J1 (Q : Bool → Prop) (r119 : Bool × Int) (r123 : Int × Int) (r143 : (List (List Api_Pick))) (r150 : (List Api_Pick) × Bool) (x_155 : Bool) : Prop :=
  (x_155 = true →
  Q false) ∧
  (x_155 = false →
  (((((r119.1 == r150.2) && (r119.2 == 0)) && (r123.1 == ((r143.length : Nat) : Int))) && (r123.2 == 0)) = true →
  ∀ r159, law30_awake = r159 →
  Q r159) ∧
  (((((r119.1 == r150.2) && (r119.2 == 0)) && (r123.1 == ((r143.length : Nat) : Int))) && (r123.2 == 0)) = false →
  Q false))
/-- replevin/replevinlaw30.SearchTells -/
def VC3 (o_ : Api_Object) (l_ : List Api_Oper) (Q : Bool → Prop) : Prop :=
  ∀ (_ : sm o_.Rows),
  ∀ (_ : sm l_),
  ∀ r104, law23_Few o_ = r104 →
  (((!r104) || (decide (((l_.length : Nat) : Int) > 30))) = true →
  ∀ r108, law30_awake = r108 →
  Q r108) ∧
  (((!r104) || (decide (((l_.length : Nat) : Int) > 30))) = false →
  (preSe o_ l_) ∧
  ∀ r112, search_Search o_ l_ = r112 →
  ∀ (_ : sm r112.1),
  (preSe o_ l_) ∧
  ∀ r119, search_Lin o_ l_ = r119 →
  (preSe o_ l_) ∧
  ∀ r123, search_Count o_ l_ = r123 →
  ∀ r127, ref30_Check o_ l_ 20 = r127 →
  ((r127 != 0) = true →
  ((((((r112.2 == r127) && (r119.2 == r127)) && (!r119.1)) && (((r112.1.length : Nat) : Int) == 0)) && (r123.2 != 0)) = true →
  ∀ r131, law30_awake = r131 →
  Q r131) ∧
  ((((((r112.2 == r127) && (r119.2 == r127)) && (!r119.1)) && (((r112.1.length : Nat) : Int) == 0)) && (r123.2 != 0)) = false →
  Q false)) ∧
  ((r127 != 0) = false →
  ∀ r135, ref30_Check o_ l_ 6 = r135 →
  (((r135 != 0) || (decide (((l_.length : Nat) : Int) > 5))) = true →
  (((r135 == 0) || ((r123.2 == r135) && (r123.1 == 0))) = true →
  ∀ r139, law30_awake = r139 →
  Q r139) ∧
  (((r135 == 0) || ((r123.2 == r135) && (r123.1 == 0))) = false →
  Q false)) ∧
  (((r135 != 0) || (decide (((l_.length : Nat) : Int) > 5))) = false →
  (preAA o_ l_) ∧
  ∀ r143, ref30_All o_ l_ = r143 →
  ∀ (_ : sm r143),
  ∀ r150, ref30_First r143 = r150 →
  ∀ (_ : sm r150.1),
  ((((r112.2 == 0) != r150.2) || ((!r150.2) && (r112.2 != 41))) = true →
  VC3_J1 Q r119 r123 r143 r150 true) ∧
  ((((r112.2 == 0) != r150.2) || ((!r150.2) && (r112.2 != 41))) = false →
  ∀ r163, ref28_Same r112.1 r150.1 = r163 →
  VC3_J1 Q r119 r123 r143 r150 (!r163)))))


def VC4_J1 (o_ : Api_Object) (l_ : List Api_Oper) (picks : List Api_Pick) (Q : Bool → Prop) (r112 : (List Api_Pick) × Int) (x_118 : Bool) : Prop :=
  (x_118 = true →
  Q false) ∧
  (x_118 = false →
  (preO2 o_ l_ picks) ∧
  ∀ r123, witness_Is o_ l_ picks = r123 →
  ((r123 && (r112.2 != 0)) = true →
  Q false) ∧
  ((r123 && (r112.2 != 0)) = false →
  (preSe o_ l_) ∧
  ∀ r127, search_Lin o_ l_ = r127 →
  (((r127.1 == (r112.2 == 0)) && ((r127.2 == 0) == ((r112.2 == 0) || (r112.2 == 41)))) = true →
  ∀ r131, law30_awake = r131 →
  Q r131) ∧
  (((r127.1 == (r112.2 == 0)) && ((r127.2 == 0) == ((r112.2 == 0) || (r112.2 == 41)))) = false →
  Q false)))
/-- replevin/replevinlaw30.SearchFinds -/
def VC4 (o_ : Api_Object) (l_ : List Api_Oper) (picks : List Api_Pick) (Q : Bool → Prop) : Prop :=
  ∀ (_ : sm o_.Rows),
  ∀ (_ : sm l_),
  ∀ (_ : sm picks),
  ∀ r104, law23_Few o_ = r104 →
  ((((!r104) || (decide (((l_.length : Nat) : Int) > 12))) || (decide (((picks.length : Nat) : Int) > 40))) = true →
  ∀ r108, law30_awake = r108 →
  Q r108) ∧
  ((((!r104) || (decide (((l_.length : Nat) : Int) > 12))) || (decide (((picks.length : Nat) : Int) > 40))) = false →
  (preSe o_ l_) ∧
  ∀ r112, search_Search o_ l_ = r112 →
  ∀ (_ : sm r112.1),
  ((r112.2 == 0) = true →
  (preO2 o_ l_ r112.1) ∧
  ∀ r135, witness_Is o_ l_ r112.1 = r135 →
  VC4_J1 o_ l_ picks Q r112 (!r135)) ∧
  ((r112.2 == 0) = false →
  VC4_J1 o_ l_ picks Q r112 false))


def VC5_J1 (Q : Bool → Prop) (r112 : Int × Int) (r116 : (List Api_Pick) × Int) : Prop :=
  (((decide (r112.1 > 0)) && (((r116.1.length : Nat) : Int) == 0)) = true →
  ∀ r150, law30_awake = r150 →
  Q r150) ∧
  (((decide (r112.1 > 0)) && (((r116.1.length : Nat) : Int) == 0)) = false →
  Q false)
/-- replevin/replevinlaw30.SearchCounts -/
def VC5 (o_ : Api_Object) (l_ : List Api_Oper) (kind : Int) (Q : Bool → Prop) : Prop :=
  ∀ (_ : sm o_.Rows),
  ∀ (_ : sm l_),
  ∀ r104, law23_Few o_ = r104 →
  (((((!r104) || (decide (((l_.length : Nat) : Int) > 5))) || (decide (kind < 0))) || (decide (kind > 63))) = true →
  ∀ r108, law30_awake = r108 →
  Q r108) ∧
  (((((!r104) || (decide (((l_.length : Nat) : Int) > 5))) || (decide (kind < 0))) || (decide (kind > 63))) = false →
  (preSe o_ l_) ∧
  ∀ r112, search_Count o_ l_ = r112 →
  (preSe o_ l_) ∧
  ∀ r116, search_Search o_ l_ = r116 →
  ∀ (_ : sm r116.1),
  ((r112.2 != 0) = true →
  (((r112.1 == 0) && (r116.2 != 0)) = true →
  ∀ r123, law30_awake = r123 →
  Q r123) ∧
  (((r112.1 == 0) && (r116.2 != 0)) = false →
  Q false)) ∧
  ((r112.2 != 0) = false →
  ((((decide (r112.1 > 0)) != (r116.2 == 0)) || (decide (r112.1 < 0))) = true →
  Q false) ∧
  ((((decide (r112.1 > 0)) != (r116.2 == 0)) || (decide (r112.1 < 0))) = false →
  (([] : List Api_Oper).length + l_.length ≤ 1099511627776) ∧
  ((([] : List Api_Oper) ++ l_).length + [(⟨1000, kind, 9999, (-1), (-1)⟩ : Api_Oper)].length ≤ 1099511627776) ∧
  (preSe o_ ((([] : List Api_Oper) ++ l_) ++ [(⟨1000, kind, 9999, (-1), (-1)⟩ : Api_Oper)])) ∧
  ∀ r145, search_Count o_ ((([] : List Api_Oper) ++ l_) ++ [(⟨1000, kind, 9999, (-1), (-1)⟩ : Api_Oper)]) = r145 →
  (((r145.2 == 0) && (decide (r145.1 < r112.1))) = true →
  Q false) ∧
  (((r145.2 == 0) && (decide (r145.1 < r112.1))) = false →
  ∃ (I1 : Int → Prop) (μ1 : Int → Nat), I1 0 ∧ ∀ (i_153 : Int), I1 i_153 →
  ((decide (i_153 < ((l_.length : Nat) : Int))) = true →
  ((0 : Int) ≤ i_153 ∧ i_153 < (l_.length : Int)) ∧
  ((((gi l_ i_153).End) != (-1)) = true →
  ∀ r162, law30_awake = r162 →
  Q r162) ∧
  ((((gi l_ i_153).End) != (-1)) = false →
  I1 (IntKind.i64.wrap (i_153 + 1)) ∧ μ1 (IntKind.i64.wrap (i_153 + 1)) < μ1 i_153)) ∧
  ((decide (i_153 < ((l_.length : Nat) : Int))) = false →
  VC5_J1 Q r112 r116)))))


end Go.Proofs.Ytomodhnocjmfpaa
