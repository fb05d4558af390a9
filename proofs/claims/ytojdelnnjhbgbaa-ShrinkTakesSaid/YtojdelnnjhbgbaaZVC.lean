/- The conditions of the functions, in terms of their callees. Definitions. -/
import Derived.Test.YtojdelnnjhbgbaaZSpec
set_option linter.all false
namespace Go.Proofs.Ytojdelnnjhbgbaa
open Go Go.Sv
/-- replevin/replevinlaw23.Few -/
def VC50 (n_ : Int) (top : Int) (Q : Bool → Prop) : Prop :=
  Q ((decide (n_ ≥ 0)) && (decide (n_ < top)))
def VC73_J1 (Q : Int → Prop) : Prop :=
  Q 0
def VC73 (vals : List Int) (Q : Int → Prop) : Prop :=
  ∀ (_ : sm vals),
  ∃ (I1 : Int → Prop) (μ1 : Int → Nat), I1 0 ∧ ∀ (x_102 : Int), I1 x_102 →
  ((decide (x_102 < ((vals.length : Nat) : Int))) = true →
  ((0 : Int) ≤ x_102 ∧ x_102 < (vals.length : Int)) ∧
  (((gi vals x_102) != 0) = true →
  Q (gi vals x_102)) ∧
  (((gi vals x_102) != 0) = false →
  I1 (IntKind.i64.wrap (x_102 + 1)) ∧ μ1 (IntKind.i64.wrap (x_102 + 1)) < μ1 x_102)) ∧
  ((decide (x_102 < ((vals.length : Nat) : Int))) = false →
  VC73_J1 Q)
def VC83 (x_ : Int) (Q : Bool → Prop) : Prop :=
  Q (x_ != x_)
def VC74 (x_ : Int) (y_ : Int) (Q : Int → Prop) : Prop :=
  ∀ r104, cmp_isNaN_int x_ = r104 →
  ∀ r108, cmp_isNaN_int y_ = r108 →
  (r104 = true →
  (r108 = true →
  Q 0) ∧
  (r108 = false →
  Q (-1))) ∧
  (r104 = false →
  (r108 = true →
  Q 1) ∧
  (r108 = false →
  ((decide (x_ < y_)) = true →
  Q (-1)) ∧
  ((decide (x_ < y_)) = false →
  ((decide (x_ > y_)) = true →
  Q 1) ∧
  ((decide (x_ > y_)) = false →
  Q 0))))
def VC62 (a_ : Api_Row) (b_ : Api_Row) (Q : Int → Prop) : Prop :=
  ∀ r106, cmp_Compare_int a_.State b_.State = r106 →
  ∀ r110, cmp_Compare_int a_.Kind b_.Kind = r110 →
  ∀ r118, cmp_Or_int [r106, r110] = r118 →
  Q r118
def VC51_J2 (Q : Int → Prop) (x_114 : Bool) : Prop :=
  (x_114 = true →
  Q 32) ∧
  (x_114 = false →
  Q 0)
def VC51_J1 (o_ : Api_Object) (i_ : Int) (Q : Int → Prop) (x_104 : Bool) : Prop :=
  (x_104 = true →
  Q 30) ∧
  (x_104 = false →
  ∀ r109, object_within ((gi o_.Rows i_).Kind) o_.Kinds = r109 →
  ((!r109) = true →
  Q 31) ∧
  ((!r109) = false →
  ∀ r113, object_within ((gi o_.Rows i_).Result) 1000001 = r113 →
  ((!r113) = true →
  Q 7) ∧
  ((!r113) = false →
  ((decide (i_ > 0)) = true →
  ((0 : Int) ≤ (IntKind.i64.wrap (i_ - 1)) ∧ (IntKind.i64.wrap (i_ - 1)) < (o_.Rows.length : Int)) ∧
  ∀ r123, object_place (gi o_.Rows (IntKind.i64.wrap (i_ - 1))) (gi o_.Rows i_) = r123 →
  VC51_J2 Q (decide (r123 ≥ 0))) ∧
  ((decide (i_ > 0)) = false →
  VC51_J2 Q false))))
def VC51 (o_ : Api_Object) (i_ : Int) (Q : Int → Prop) : Prop :=
  ∀ (_ : sm o_.Rows),
  ((0 : Int) ≤ i_ ∧ i_ < (o_.Rows.length : Int)) ∧
  ∀ r129, object_within ((gi o_.Rows i_).State) o_.States = r129 →
  ((!r129) = true →
  VC51_J1 o_ i_ Q true) ∧
  ((!r129) = false →
  ∀ r133, object_within ((gi o_.Rows i_).Next) o_.States = r133 →
  VC51_J1 o_ i_ Q (!r133))
def VC38_J2 (o_ : Api_Object) (Q : (Int × Int) → Prop) : Prop :=
  Q (((o_.Rows.length : Nat) : Int), 0)
def VC38_J1 (o_ : Api_Object) (Q : (Int × Int) → Prop) (x_101 : Bool) : Prop :=
  (x_101 = true →
  Q ((-1), 2)) ∧
  (x_101 = false →
  ∃ (I1 : Int → Prop) (μ1 : Int → Nat), I1 0 ∧ ∀ (x_104 : Int), I1 x_104 →
  ((decide (x_104 < ((o_.Rows.length : Nat) : Int))) = true →
  (preRow o_ x_104) ∧
  ∀ r109, object_row o_ x_104 = r109 →
  ((r109 != 0) = true →
  Q (x_104, r109)) ∧
  ((r109 != 0) = false →
  I1 (IntKind.i64.wrap (x_104 + 1)) ∧ μ1 (IntKind.i64.wrap (x_104 + 1)) < μ1 x_104)) ∧
  ((decide (x_104 < ((o_.Rows.length : Nat) : Int))) = false →
  VC38_J2 o_ Q))
def VC38 (o_ : Api_Object) (Q : Int × Int → Prop) : Prop :=
  ∀ (_ : sm o_.Rows),
  ∀ r117, object_within (IntKind.i64.wrap (o_.States - 1)) 32 = r117 →
  ((!r117) = true →
  VC38_J1 o_ Q true) ∧
  ((!r117) = false →
  ∀ r121, object_within (IntKind.i64.wrap (o_.Kinds - 1)) 64 = r121 →
  ((!r121) = true →
  VC38_J1 o_ Q true) ∧
  ((!r121) = false →
  ∀ r125, object_within o_.Init o_.States = r125 →
  VC38_J1 o_ Q (!r125)))
def VC88 (o_ : Api_Object) (state : Int) (Q : Int → Prop) : Prop :=
  ∀ (_ : sm o_.Rows),
  (preO o_) ∧
  ∀ r104, object_Check o_ = r104 →
  ((r104.2 != 0) = true →
  Q 2) ∧
  ((r104.2 != 0) = false →
  (((decide (state < 0)) || (decide (state ≥ o_.States))) = true →
  Q 30) ∧
  (((decide (state < 0)) || (decide (state ≥ o_.States))) = false →
  Q 0))
def VC89 (o_ : Api_Object) (l_ : List Api_Oper) (state : Int) (Q : (List Api_Oper) × (List (Int × Int)) × Api_Object × Int → Prop) : Prop :=
  ∀ (_ : sm o_.Rows),
  ∀ (_ : sm l_),
  Q (l_, ([] : List (Int × Int)), o_, state)
def VC77 (r_ : Api_Row) (cap1 : Int) (cap2 : Int) (Q : Bool → Prop) : Prop :=
  Q (r_.State == cap1 && (r_.Kind == cap2 && (r_.Next == r_.Next && (r_.Result == r_.Result && true))))
def VC78_77_J1 (Q : Int → Prop) : Prop :=
  Q (-1)
def VC78_77 (s_ : List Api_Row) (cap1 : Int) (cap2 : Int) (Q : Int → Prop) : Prop :=
  ∀ (_ : sm s_),
  ∃ (I1 : Int → Prop) (μ1 : Int → Nat), I1 0 ∧ ∀ (x_102 : Int), I1 x_102 →
  ((decide (x_102 < ((s_.length : Nat) : Int))) = true →
  ((0 : Int) ≤ x_102 ∧ x_102 < (s_.length : Int)) ∧
  ∀ r109, object_Move_1 (gi s_ x_102) cap1 cap2 = r109 →
  (r109 = true →
  Q x_102) ∧
  (r109 = false →
  I1 (IntKind.i64.wrap (x_102 + 1)) ∧ μ1 (IntKind.i64.wrap (x_102 + 1)) < μ1 x_102)) ∧
  ((decide (x_102 < ((s_.length : Nat) : Int))) = false →
  VC78_77_J1 Q)
def VC67 (o_ : Api_Object) (state : Int) (kind : Int) (Q : Int × Int × Bool → Prop) : Prop :=
  ∀ (_ : sm o_.Rows),
  ∀ r104, slices_IndexFunc_api_Row_api_Row_object_Move_1 o_.Rows state kind = r104 →
  ((decide (r104 < 0)) = true →
  Q (0, 0, false)) ∧
  ((decide (r104 < 0)) = false →
  ((0 : Int) ≤ r104 ∧ r104 < (o_.Rows.length : Int)) ∧
  ((0 : Int) ≤ r104 ∧ r104 < (o_.Rows.length : Int)) ∧
  Q ((gi o_.Rows r104).Next, (gi o_.Rows r104).Result, true))
def VC94 (t_ : Run_table) (state : Int) (kind : Int) (Q : Int × Int × Bool → Prop) : Prop :=
  ∀ (_ : sm t_.o.Rows),
  ∀ r104, object_Move t_.o state kind = r104 →
  Q (r104.1, r104.2.1, r104.2.2)
def VC92 (o_ : Api_Object) (state : Int) (kind : Int) (result : Int) (Q : Int × Int → Prop) : Prop :=
  ∀ (_ : sm o_.Rows),
  (((decide (state < 0)) || (decide (state ≥ o_.States))) = true →
  Q (0, 30)) ∧
  (((decide (state < 0)) || (decide (state ≥ o_.States))) = false →
  ∀ r104, run_table_move (⟨o_⟩ : Run_table) state kind = r104 →
  (((!r104.2.2) || (r104.2.1 != result)) = true →
  Q (0, 40)) ∧
  (((!r104.2.2) || (r104.2.1 != result)) = false →
  Q (r104.1, 0)))
def VC91_J1 (p_ : Api_Pick) (cap2 : List (Int × Int)) (cap4 : Int) (Q : (Int × Int × (List (Int × Int)) × Int) → Prop) (r111 : Int × Int) (e_112 : Int) : Prop :=
  ((e_112 != 0) = true →
  Q (0, e_112, mput cap2 p_.Oper (IntKind.i64.wrap (((mget cap2 p_.Oper).getD 0) + 1)), cap4)) ∧
  ((e_112 != 0) = false →
  Q (r111.1, 0, mput cap2 p_.Oper (IntKind.i64.wrap (((mget cap2 p_.Oper).getD 0) + 1)), r111.1))
def VC91 (p_ : Api_Pick) (cap1 : List Api_Oper) (cap2 : List (Int × Int)) (cap3 : Api_Object) (cap4 : Int) (Q : Int × Int × (List (Int × Int)) × Int → Prop) : Prop :=
  ∀ (_ : sm cap1),
  ∀ (_ : sm cap3.Rows),
  (((decide (p_.Oper < 0)) || (decide (p_.Oper ≥ ((cap1.length : Nat) : Int)))) = true →
  Q (0, 2, cap2, cap4)) ∧
  (((decide (p_.Oper < 0)) || (decide (p_.Oper ≥ ((cap1.length : Nat) : Int)))) = false →
  ((decide (((mget cap2 p_.Oper).getD 0) > 0)) = true →
  Q (0, 21, cap2, cap4)) ∧
  ((decide (((mget cap2 p_.Oper).getD 0) > 0)) = false →
  ((0 : Int) ≤ p_.Oper ∧ p_.Oper < (cap1.length : Int)) ∧
  ∀ r111, run_Step cap3 cap4 ((gi cap1 p_.Oper).Kind) p_.Result = r111 →
  ((((r111.2 == 0) && (((gi cap1 p_.Oper).End) != (-1))) && (((gi cap1 p_.Oper).Result) != p_.Result)) = true →
  VC91_J1 p_ cap2 cap4 Q r111 40) ∧
  ((((r111.2 == 0) && (((gi cap1 p_.Oper).End) != (-1))) && (((gi cap1 p_.Oper).Result) != p_.Result)) = false →
  VC91_J1 p_ cap2 cap4 Q r111 r111.2)))
def VC86_J1 (picks : List Api_Pick) (Q : (Int × Int × Int) → Prop) (end_126 : Int) : Prop :=
  Q (end_126, ((picks.length : Nat) : Int), 0)
def VC86 (o_ : Api_Object) (l_ : List Api_Oper) (state : Int) (picks : List Api_Pick) (Q : Int × Int × Int → Prop) : Prop :=
  ∀ (_ : sm o_.Rows),
  ∀ (_ : sm l_),
  ∀ (_ : sm picks),
  (preO1 o_ state) ∧
  ∀ r104, run_may o_ state = r104 →
  ((r104 != 0) = true →
  Q (0, (-1), r104)) ∧
  ((r104 != 0) = false →
  ∀ r108, run_runner o_ l_ state = r108 →
  ∀ (_ : sm r108.1),
  ∀ (_ : sm r108.2.2.1.Rows),
  ∃ (I1 : Int → Int → (List (Int × Int)) → Int → Prop) (μ1 : Int → Int → (List (Int × Int)) → Int → Nat), I1 state 0 r108.2.1 r108.2.2.2 ∧ ∀ (end_128 : Int) (x_130 : Int) (x_132 : List (Int × Int)) (x_135 : Int), I1 end_128 x_130 x_132 x_135 →
  ((decide (x_130 < ((picks.length : Nat) : Int))) = true →
  ((0 : Int) ≤ x_130 ∧ x_130 < (picks.length : Int)) ∧
  ∀ r142, run_runner_1 (gi picks x_130) r108.1 x_132 r108.2.2.1 x_135 = r142 →
  ((r142.2.1 != 0) = true →
  Q (0, x_130, r142.2.1)) ∧
  ((r142.2.1 != 0) = false →
  I1 r142.1 (IntKind.i64.wrap (x_130 + 1)) r142.2.2.1 r142.2.2.2 ∧ μ1 r142.1 (IntKind.i64.wrap (x_130 + 1)) r142.2.2.1 r142.2.2.2 < μ1 end_128 x_130 x_132 x_135)) ∧
  ((decide (x_130 < ((picks.length : Nat) : Int))) = false →
  VC86_J1 picks Q end_128))
def VC80 (o_ : Api_Object) (l_ : List Api_Oper) (picks : List Api_Pick) (Q : Int × Int × Int → Prop) : Prop :=
  ∀ (_ : sm o_.Rows),
  ∀ (_ : sm l_),
  ∀ (_ : sm picks),
  (preO3 o_ l_ o_.Init picks) ∧
  ∀ r104, run_From o_ l_ o_.Init picks = r104 →
  Q (r104.1, r104.2.1, r104.2.2)
def VC90_J1 (Q : ((List (Int × Int))) → Prop) (x_105 : List (Int × Int)) : Prop :=
  Q x_105
def VC90 (picks : List Api_Pick) (Q : (List (Int × Int)) → Prop) : Prop :=
  ∀ (_ : sm picks),
  ∃ (I1 : Int → (List (Int × Int)) → Prop) (μ1 : Int → (List (Int × Int)) → Nat), I1 0 ([] : List (Int × Int)) ∧ ∀ (x_108 : Int) (x_109 : List (Int × Int)), I1 x_108 x_109 →
  ((decide (x_108 < ((picks.length : Nat) : Int))) = true →
  ((0 : Int) ≤ x_108 ∧ x_108 < (picks.length : Int)) ∧
  I1 (IntKind.i64.wrap (x_108 + 1)) (mput x_109 ((gi picks x_108).Oper) (IntKind.i64.wrap (((mget x_109 ((gi picks x_108).Oper)).getD 0) + 1))) ∧ μ1 (IntKind.i64.wrap (x_108 + 1)) (mput x_109 ((gi picks x_108).Oper) (IntKind.i64.wrap (((mget x_109 ((gi picks x_108).Oper)).getD 0) + 1))) < μ1 x_108 x_109) ∧
  ((decide (x_108 < ((picks.length : Nat) : Int))) = false →
  VC90_J1 Q x_109)
def VC93 (i_ : Int) (cap1 : List (Int × Int)) (Q : Bool → Prop) : Prop :=
  Q (((mget cap1 i_).getD 0) == 0)
def VC87_J1 (Q : ((List Int)) → Prop) (out_109 : List Int) : Prop :=
  Q out_109
def VC87_J2 (I1 : (List Int) → Int → Prop) (μ1 : (List Int) → Int → Nat) (out_115 : List Int) (x_120 : Int) (out_122 : List Int) : Prop :=
  I1 out_122 (IntKind.i64.wrap (x_120 + 1)) ∧ μ1 out_122 (IntKind.i64.wrap (x_120 + 1)) < μ1 out_115 x_120
def VC87_J3 (I1 : (List Int) → Int → Prop) (μ1 : (List Int) → Int → Nat) (out_115 : List Int) (x_120 : Int) (out_131 : List Int) (x_136 : Bool) : Prop :=
  (x_136 = true →
  (out_131.length + [x_120].length ≤ 1099511627776) ∧
  VC87_J2 I1 μ1 out_115 x_120 (out_131 ++ [x_120])) ∧
  (x_136 = false →
  VC87_J2 I1 μ1 out_115 x_120 out_131)
def VC87 (l_ : List Api_Oper) (picks : List Api_Pick) (pending : Bool) (Q : (List Int) → Prop) : Prop :=
  ∀ (_ : sm l_),
  ∀ (_ : sm picks),
  ∀ r104, witness_absent picks = r104 →
  ∃ (I1 : (List Int) → Int → Prop) (μ1 : (List Int) → Int → Nat), I1 [] 0 ∧ ∀ (out_115 : List Int) (x_120 : Int), I1 out_115 x_120 →
  ((decide (x_120 < ((l_.length : Nat) : Int))) = true →
  ((0 : Int) ≤ x_120 ∧ x_120 < (l_.length : Int)) ∧
  (((((gi l_ x_120).End) == (-1)) == pending) = true →
  ∀ r150, witness_absent_1 x_120 r104 = r150 →
  VC87_J3 I1 μ1 out_115 x_120 out_115 r150) ∧
  (((((gi l_ x_120).End) == (-1)) == pending) = false →
  VC87_J3 I1 μ1 out_115 x_120 out_115 false)) ∧
  ((decide (x_120 < ((l_.length : Nat) : Int))) = false →
  VC87_J1 Q out_115)
def VC82 (l_ : List Api_Oper) (picks : List Api_Pick) (Q : (List Int) → Prop) : Prop :=
  ∀ (_ : sm l_),
  ∀ (_ : sm picks),
  (preT3 l_ picks false) ∧
  ∀ r104, witness_those l_ picks false = r104 →
  ∀ (_ : sm r104),
  Q r104
def VC76 (a_ : Api_Oper) (b_ : Api_Oper) (Q : Bool → Prop) : Prop :=
  Q ((decide (a_.End ≥ 0)) && (decide (a_.End < b_.Start)))
def VC81_J1 (Q : Int → Prop) : Prop :=
  Q (-1)
def VC81_J2 (I1 : (List (Int × Int)) → Int → Prop) (μ1 : (List (Int × Int)) → Int → Nat) (there_106 : List (Int × Int)) (x_109 : Int) (there_111 : List (Int × Int)) : Prop :=
  I1 there_111 (IntKind.i64.wrap (x_109 + 1)) ∧ μ1 there_111 (IntKind.i64.wrap (x_109 + 1)) < μ1 there_106 x_109
def VC81_J3 (picks : List Api_Pick) (I1 : (List (Int × Int)) → Int → Prop) (μ1 : (List (Int × Int)) → Int → Nat) (there_106 : List (Int × Int)) (x_109 : Int) : Prop :=
  VC81_J2 I1 μ1 there_106 x_109 (mput there_106 ((gi picks x_109).Oper) (IntKind.i64.wrap (((mget there_106 ((gi picks x_109).Oper)).getD 0) + 1)))
def VC81_J4 (Q : Int → Prop) (x_109 : Int) (I2 : Int → Prop) (μ2 : Int → Nat) (x_127 : Int) (x_135 : Bool) : Prop :=
  (x_135 = true →
  Q x_109) ∧
  (x_135 = false →
  I2 (IntKind.i64.wrap (x_127 + 1)) ∧ μ2 (IntKind.i64.wrap (x_127 + 1)) < μ2 x_127)
def VC81 (l_ : List Api_Oper) (picks : List Api_Pick) (Q : Int → Prop) : Prop :=
  ∀ (_ : sm l_),
  ∀ (_ : sm picks),
  ∃ (I1 : (List (Int × Int)) → Int → Prop) (μ1 : (List (Int × Int)) → Int → Nat), I1 ([] : List (Int × Int)) 0 ∧ ∀ (there_106 : List (Int × Int)) (x_109 : Int), I1 there_106 x_109 →
  ((decide (x_109 < ((picks.length : Nat) : Int))) = true →
  ((0 : Int) ≤ x_109 ∧ x_109 < (picks.length : Int)) ∧
  (((decide (((gi picks x_109).Oper) < 0)) || (decide (((gi picks x_109).Oper) ≥ ((l_.length : Nat) : Int)))) = true →
  VC81_J2 I1 μ1 there_106 x_109 there_106) ∧
  (((decide (((gi picks x_109).Oper) < 0)) || (decide (((gi picks x_109).Oper) ≥ ((l_.length : Nat) : Int)))) = false →
  ∃ (I2 : Int → Prop) (μ2 : Int → Nat), I2 0 ∧ ∀ (x_127 : Int), I2 x_127 →
  ((decide (x_127 < ((l_.length : Nat) : Int))) = true →
  ((0 : Int) ≤ x_127 ∧ x_127 < (l_.length : Int)) ∧
  ((0 : Int) ≤ ((gi picks x_109).Oper) ∧ ((gi picks x_109).Oper) < (l_.length : Int)) ∧
  ∀ r144, oper_Ahead (gi l_ x_127) (gi l_ ((gi picks x_109).Oper)) = r144 →
  (r144 = true →
  VC81_J4 Q x_109 I2 μ2 x_127 (((mget there_106 x_127).getD 0) == 0)) ∧
  (r144 = false →
  VC81_J4 Q x_109 I2 μ2 x_127 false)) ∧
  ((decide (x_127 < ((l_.length : Nat) : Int))) = false →
  VC81_J3 picks I1 μ1 there_106 x_109))) ∧
  ((decide (x_109 < ((picks.length : Nat) : Int))) = false →
  VC81_J1 Q)
def VC84 (o_ : Api_Oper) (Q : Bool → Prop) : Prop :=
  ((o_.End == (-1)) = true →
  Q (o_.Result == (-1))) ∧
  ((o_.End == (-1)) = false →
  Q ((((decide (o_.End > o_.Start)) && (decide (o_.End ≤ 9999))) && (decide (o_.Result ≥ 0))) && (decide (o_.Result ≤ 1000000))))
def VC75 (o_ : Api_Oper) (Q : Int → Prop) : Prop :=
  (((((decide (o_.Prc < 1)) || (decide (o_.Prc > 1000))) || (decide (o_.Start < 0))) || (decide (o_.Start > 9999))) = true →
  Q 2) ∧
  (((((decide (o_.Prc < 1)) || (decide (o_.Prc > 1000))) || (decide (o_.Start < 0))) || (decide (o_.Start > 9999))) = false →
  (((decide (o_.Kind < 0)) || (decide (o_.Kind ≥ 64))) = true →
  Q 31) ∧
  (((decide (o_.Kind < 0)) || (decide (o_.Kind ≥ 64))) = false →
  ∀ r104, oper_ended o_ = r104 →
  ((!r104) = true →
  Q 7) ∧
  ((!r104) = false →
  Q 0)))
def VC63_J1 (l_ : List Api_Oper) (Q : (Int × Int) → Prop) : Prop :=
  Q (((l_.length : Nat) : Int), 0)
def VC63_J2 (l_ : List Api_Oper) (I1 : (List (Int × Int)) → (List (Int × Api_Oper)) → Int → Prop) (μ1 : (List (Int × Int)) → (List (Int × Api_Oper)) → Int → Nat) (used_111 : List (Int × Int)) (latest_113 : List (Int × Api_Oper)) (x_116 : Int) (used_118 : List (Int × Int)) : Prop :=
  I1 used_118 (mput latest_113 ((gi l_ x_116).Prc) (gi l_ x_116)) (IntKind.i64.wrap (x_116 + 1)) ∧ μ1 used_118 (mput latest_113 ((gi l_ x_116).Prc) (gi l_ x_116)) (IntKind.i64.wrap (x_116 + 1)) < μ1 used_111 latest_113 x_116
def VC63_J4 (l_ : List Api_Oper) (Q : (Int × Int) → Prop) (I1 : (List (Int × Int)) → (List (Int × Api_Oper)) → Int → Prop) (μ1 : (List (Int × Int)) → (List (Int × Api_Oper)) → Int → Nat) (used_111 : List (Int × Int)) (latest_113 : List (Int × Api_Oper)) (x_116 : Int) (x_139 : Bool) : Prop :=
  (x_139 = true →
  Q (x_116, 33)) ∧
  (x_139 = false →
  ((decide (((gi l_ x_116).End) ≥ 0)) = true →
  VC63_J2 l_ I1 μ1 used_111 latest_113 x_116 (mput (mput used_111 ((gi l_ x_116).Start) (IntKind.i64.wrap (((mget used_111 ((gi l_ x_116).Start)).getD 0) + 1))) ((gi l_ x_116).End) (IntKind.i64.wrap (((mget (mput used_111 ((gi l_ x_116).Start) (IntKind.i64.wrap (((mget used_111 ((gi l_ x_116).Start)).getD 0) + 1))) ((gi l_ x_116).End)).getD 0) + 1)))) ∧
  ((decide (((gi l_ x_116).End) ≥ 0)) = false →
  VC63_J2 l_ I1 μ1 used_111 latest_113 x_116 (mput used_111 ((gi l_ x_116).Start) (IntKind.i64.wrap (((mget used_111 ((gi l_ x_116).Start)).getD 0) + 1)))))
def VC63_J3 (l_ : List Api_Oper) (Q : (Int × Int) → Prop) (I1 : (List (Int × Int)) → (List (Int × Api_Oper)) → Int → Prop) (μ1 : (List (Int × Int)) → (List (Int × Api_Oper)) → Int → Nat) (used_111 : List (Int × Int)) (latest_113 : List (Int × Api_Oper)) (x_116 : Int) (x_133 : Bool) : Prop :=
  (x_133 = true →
  Q (x_116, 32)) ∧
  (x_133 = false →
  (((mget latest_113 ((gi l_ x_116).Prc)).isSome) = true →
  ∀ r151, oper_Ahead ((mget latest_113 ((gi l_ x_116).Prc)).getD (⟨0, 0, 0, 0, 0⟩ : Api_Oper)) (gi l_ x_116) = r151 →
  VC63_J4 l_ Q I1 μ1 used_111 latest_113 x_116 (!r151)) ∧
  (((mget latest_113 ((gi l_ x_116).Prc)).isSome) = false →
  VC63_J4 l_ Q I1 μ1 used_111 latest_113 x_116 false))
def VC63 (l_ : List Api_Oper) (Q : Int × Int → Prop) : Prop :=
  ∀ (_ : sm l_),
  ((decide (((l_.length : Nat) : Int) > 5000)) = true →
  Q (0, 3)) ∧
  ((decide (((l_.length : Nat) : Int) > 5000)) = false →
  ∃ (I1 : (List (Int × Int)) → (List (Int × Api_Oper)) → Int → Prop) (μ1 : (List (Int × Int)) → (List (Int × Api_Oper)) → Int → Nat), I1 ([] : List (Int × Int)) ([] : List (Int × Api_Oper)) 0 ∧ ∀ (used_111 : List (Int × Int)) (latest_113 : List (Int × Api_Oper)) (x_116 : Int), I1 used_111 latest_113 x_116 →
  ((decide (x_116 < ((l_.length : Nat) : Int))) = true →
  ((0 : Int) ≤ x_116 ∧ x_116 < (l_.length : Int)) ∧
  ∀ r128, oper_alone (gi l_ x_116) = r128 →
  ((r128 != 0) = true →
  Q (x_116, r128)) ∧
  ((r128 != 0) = false →
  ((decide (x_116 > 0)) = true →
  ((0 : Int) ≤ (IntKind.i64.wrap (x_116 - 1)) ∧ (IntKind.i64.wrap (x_116 - 1)) < (l_.length : Int)) ∧
  ((decide (((gi l_ x_116).Start) ≤ ((gi l_ (IntKind.i64.wrap (x_116 - 1))).Start))) = true →
  VC63_J3 l_ Q I1 μ1 used_111 latest_113 x_116 true) ∧
  ((decide (((gi l_ x_116).Start) ≤ ((gi l_ (IntKind.i64.wrap (x_116 - 1))).Start))) = false →
  ((decide (((mget used_111 ((gi l_ x_116).Start)).getD 0) > 0)) = true →
  VC63_J3 l_ Q I1 μ1 used_111 latest_113 x_116 true) ∧
  ((decide (((mget used_111 ((gi l_ x_116).Start)).getD 0) > 0)) = false →
  ((decide (((gi l_ x_116).End) ≥ 0)) = true →
  VC63_J3 l_ Q I1 μ1 used_111 latest_113 x_116 (decide (((mget used_111 ((gi l_ x_116).End)).getD 0) > 0))) ∧
  ((decide (((gi l_ x_116).End) ≥ 0)) = false →
  VC63_J3 l_ Q I1 μ1 used_111 latest_113 x_116 false)))) ∧
  ((decide (x_116 > 0)) = false →
  ((decide (((mget used_111 ((gi l_ x_116).Start)).getD 0) > 0)) = true →
  VC63_J3 l_ Q I1 μ1 used_111 latest_113 x_116 true) ∧
  ((decide (((mget used_111 ((gi l_ x_116).Start)).getD 0) > 0)) = false →
  ((decide (((gi l_ x_116).End) ≥ 0)) = true →
  VC63_J3 l_ Q I1 μ1 used_111 latest_113 x_116 (decide (((mget used_111 ((gi l_ x_116).End)).getD 0) > 0))) ∧
  ((decide (((gi l_ x_116).End) ≥ 0)) = false →
  VC63_J3 l_ Q I1 μ1 used_111 latest_113 x_116 false))))) ∧
  ((decide (x_116 < ((l_.length : Nat) : Int))) = false →
  VC63_J1 l_ Q))
def VC70 (o_ : Api_Object) (l_ : List Api_Oper) (picks : List Api_Pick) (Q : Int × Int → Prop) : Prop :=
  ∀ (_ : sm o_.Rows),
  ∀ (_ : sm l_),
  ∀ (_ : sm picks),
  (preO o_) ∧
  ∀ r104, object_Check o_ = r104 →
  ∀ r108, oper_Check l_ = r108 →
  (((r104.2 != 0) || (r108.2 != 0)) = true →
  Q ((-1), 2)) ∧
  (((r104.2 != 0) || (r108.2 != 0)) = false →
  (preO2 o_ l_ picks) ∧
  ∀ r112, run_Picks o_ l_ picks = r112 →
  ((r112.2.2 != 0) = true →
  Q (r112.2.1, r112.2.2)) ∧
  ((r112.2.2 != 0) = false →
  ∀ r116, witness_Order l_ picks = r116 →
  ((decide (r116 ≥ 0)) = true →
  Q (r116, 42)) ∧
  ((decide (r116 ≥ 0)) = false →
  (preT2 l_ picks) ∧
  ∀ r120, witness_Missing l_ picks = r120 →
  ∀ (_ : sm r120),
  ((decide (((r120.length : Nat) : Int) > 0)) = true →
  ((0 : Int) ≤ 0 ∧ 0 < (r120.length : Int)) ∧
  Q (gi r120 0, 41)) ∧
  ((decide (((r120.length : Nat) : Int) > 0)) = false →
  Q (((picks.length : Nat) : Int), 0)))))
def VC55 (o_ : Api_Object) (l_ : List Api_Oper) (picks : List Api_Pick) (Q : Bool → Prop) : Prop :=
  ∀ (_ : sm o_.Rows),
  ∀ (_ : sm l_),
  ∀ (_ : sm picks),
  (preO2 o_ l_ picks) ∧
  ∀ r104, witness_Check o_ l_ picks = r104 →
  Q (r104.2 == 0)
def VC85 (i_ : Int) (cap1 : List Bool) (Q : Bool → Prop) : Prop :=
  ∀ (_ : sm cap1),
  ((decide (i_ < ((cap1.length : Nat) : Int))) = true →
  ((0 : Int) ≤ i_ ∧ i_ < (cap1.length : Int)) ∧
  Q (gi cap1 i_)) ∧
  ((decide (i_ < ((cap1.length : Nat) : Int))) = false →
  Q false)
def VC79_J1 (Q : ((List Int)) → Prop) (out_101 : List Int) : Prop :=
  Q out_101
def VC79_J2 (I1 : (List Int) → Int → Prop) (μ1 : (List Int) → Int → Nat) (out_108 : List Int) (x_113 : Int) (out_116 : List Int) : Prop :=
  I1 out_116 (IntKind.i64.wrap (x_113 + 1)) ∧ μ1 out_116 (IntKind.i64.wrap (x_113 + 1)) < μ1 out_108 x_113
def VC79_J3 (I1 : (List Int) → Int → Prop) (μ1 : (List Int) → Int → Nat) (out_108 : List Int) (x_113 : Int) (out_131 : List Int) (free_135 : Bool) : Prop :=
  (free_135 = true →
  (out_131.length + [x_113].length ≤ 1099511627776) ∧
  VC79_J2 I1 μ1 out_108 x_113 (out_131 ++ [x_113])) ∧
  (free_135 = false →
  VC79_J2 I1 μ1 out_108 x_113 out_131)
def VC79_J4 (I2 : (List Int) → Bool → Int → Prop) (μ2 : (List Int) → Bool → Int → Nat) (out_148 : List Int) (free_152 : Bool) (x_155 : Int) (out_158 : List Int) (free_162 : Bool) : Prop :=
  I2 out_158 free_162 (IntKind.i64.wrap (x_155 + 1)) ∧ μ2 out_158 free_162 (IntKind.i64.wrap (x_155 + 1)) < μ2 out_148 free_152 x_155
def VC79 (l_ : List Api_Oper) (done : List Bool) (Q : (List Int) → Prop) : Prop :=
  ∀ (_ : sm l_),
  ∀ (_ : sm done),
  ∃ (I1 : (List Int) → Int → Prop) (μ1 : (List Int) → Int → Nat), I1 [] 0 ∧ ∀ (out_108 : List Int) (x_113 : Int), I1 out_108 x_113 →
  ((decide (x_113 < ((l_.length : Nat) : Int))) = true →
  ((0 : Int) ≤ x_113 ∧ x_113 < (l_.length : Int)) ∧
  (preF1 x_113 done) ∧
  ∀ r128, oper_Free_1 x_113 done = r128 →
  ∃ (I2 : (List Int) → Bool → Int → Prop) (μ2 : (List Int) → Bool → Int → Nat), I2 out_108 (!r128) 0 ∧ ∀ (out_148 : List Int) (free_152 : Bool) (x_155 : Int), I2 out_148 free_152 x_155 →
  ((decide (x_155 < ((l_.length : Nat) : Int))) = true →
  ((0 : Int) ≤ x_155 ∧ x_155 < (l_.length : Int)) ∧
  (free_152 = true →
  (preF1 x_155 done) ∧
  ∀ r172, oper_Free_1 x_155 done = r172 →
  (r172 = true →
  VC79_J4 I2 μ2 out_148 free_152 x_155 out_148 true) ∧
  (r172 = false →
  ∀ r177, oper_Ahead (gi l_ x_155) (gi l_ x_113) = r177 →
  VC79_J4 I2 μ2 out_148 free_152 x_155 out_148 (!r177))) ∧
  (free_152 = false →
  VC79_J4 I2 μ2 out_148 free_152 x_155 out_148 false)) ∧
  ((decide (x_155 < ((l_.length : Nat) : Int))) = false →
  VC79_J3 I1 μ1 out_108 x_113 out_148 free_152)) ∧
  ((decide (x_113 < ((l_.length : Nat) : Int))) = false →
  VC79_J1 Q out_108)
def VC69_J1 (Q : ((List Api_Pick)) → Prop) (out_105 : List Api_Pick) : Prop :=
  Q out_105
def VC69_J2 (I1 : (List Api_Pick) → Int → Prop) (μ1 : (List Api_Pick) → Int → Nat) (out_117 : List Api_Pick) (x_122 : Int) (out_125 : List Api_Pick) : Prop :=
  I1 out_125 (IntKind.i64.wrap (x_122 + 1)) ∧ μ1 out_125 (IntKind.i64.wrap (x_122 + 1)) < μ1 out_117 x_122
def VC69_J3 (r112 : (List Int)) (I1 : (List Api_Pick) → Int → Prop) (μ1 : (List Api_Pick) → Int → Nat) (out_117 : List Api_Pick) (x_122 : Int) (r144 : Int × Int × Bool) (out_146 : List Api_Pick) (x_151 : Bool) : Prop :=
  (x_151 = true →
  (out_146.length + [(⟨gi r112 x_122, r144.2.1⟩ : Api_Pick)].length ≤ 1099511627776) ∧
  VC69_J2 I1 μ1 out_117 x_122 (out_146 ++ [(⟨gi r112 x_122, r144.2.1⟩ : Api_Pick)])) ∧
  (x_151 = false →
  VC69_J2 I1 μ1 out_117 x_122 out_146)
def VC69 (o_ : Api_Object) (l_ : List Api_Oper) (state : Int) (done : List Bool) (Q : (List Api_Pick) → Prop) : Prop :=
  ∀ (_ : sm o_.Rows),
  ∀ (_ : sm l_),
  ∀ (_ : sm done),
  (preO o_) ∧
  ∀ r104, object_Check o_ = r104 →
  ((r104.2 != 0) = true →
  Q []) ∧
  ((r104.2 != 0) = false →
  (preFr l_ done) ∧
  ∀ r112, oper_Free l_ done = r112 →
  ∀ (_ : sm r112),
  ∃ (I1 : (List Api_Pick) → Int → Prop) (μ1 : (List Api_Pick) → Int → Nat), I1 [] 0 ∧ ∀ (out_117 : List Api_Pick) (x_122 : Int), I1 out_117 x_122 →
  ((decide (x_122 < ((r112.length : Nat) : Int))) = true →
  ((0 : Int) ≤ x_122 ∧ x_122 < (r112.length : Int)) ∧
  ((0 : Int) ≤ (gi r112 x_122) ∧ (gi r112 x_122) < (l_.length : Int)) ∧
  ∀ r144, object_Move o_ state ((gi l_ (gi r112 x_122)).Kind) = r144 →
  (r144.2.2 = true →
  ((0 : Int) ≤ (gi r112 x_122) ∧ (gi r112 x_122) < (l_.length : Int)) ∧
  ((((gi l_ (gi r112 x_122)).End) == (-1)) = true →
  VC69_J3 r112 I1 μ1 out_117 x_122 r144 out_117 true) ∧
  ((((gi l_ (gi r112 x_122)).End) == (-1)) = false →
  ((0 : Int) ≤ (gi r112 x_122) ∧ (gi r112 x_122) < (l_.length : Int)) ∧
  VC69_J3 r112 I1 μ1 out_117 x_122 r144 out_117 (((gi l_ (gi r112 x_122)).Result) == r144.2.1))) ∧
  (r144.2.2 = false →
  VC69_J3 r112 I1 μ1 out_117 x_122 r144 out_117 false)) ∧
  ((decide (x_122 < ((r112.length : Nat) : Int))) = false →
  VC69_J1 Q out_117))
def VC52 (o_ : Api_Object) (l_ : List Api_Oper) (most : Int) (Q : Int → Prop) : Prop :=
  ∀ (_ : sm o_.Rows),
  ∀ (_ : sm l_),
  (preO o_) ∧
  ∀ r104, object_Check o_ = r104 →
  ∀ r108, oper_Check l_ = r108 →
  (((r104.2 != 0) || (r108.2 != 0)) = true →
  Q 2) ∧
  (((r104.2 != 0) || (r108.2 != 0)) = false →
  ((decide (((l_.length : Nat) : Int) > most)) = true →
  Q 3) ∧
  ((decide (((l_.length : Nat) : Int) > most)) = false →
  Q 0))
def VC68 (s_ : List Api_Pick) (Q : (List Api_Pick) → Prop) : Prop :=
  ∀ (_ : sm s_),
  ∀ (b101 : Bool), (b101 = true → s_ = []) →
  (b101 = true →
  Q []) ∧
  (b101 = false →
  (([] : List Api_Pick).length + s_.length ≤ 1099511627776) ∧
  Q (([] : List Api_Pick) ++ s_))
def VC65_J1 (Q : Search_spot → Prop) (x_101 : Int) (x_102 : Int) : Prop :=
  Q (⟨x_101, x_102⟩ : Search_spot)
def VC65_J2 (I1 : Int → Int → Int → Prop) (μ1 : Int → Int → Int → Nat) (x_110 : Int) (x_111 : Int) (x_112 : Int) (x_118 : Int) : Prop :=
  I1 (IntKind.i64.wrap (x_110 + 1)) x_118 x_112 ∧ μ1 (IntKind.i64.wrap (x_110 + 1)) x_118 x_112 < μ1 x_110 x_111 x_112
def VC65 (state : Int) (cap1 : Search_seeker) (Q : Search_spot → Prop) : Prop :=
  ∀ (_ : sm cap1.o.Rows),
  ∀ (_ : sm cap1.l),
  ∀ (_ : sm cap1.done),
  ∃ (I1 : Int → Int → Int → Prop) (μ1 : Int → Int → Int → Nat), I1 0 0 state ∧ ∀ (x_110 : Int) (x_111 : Int) (x_112 : Int), I1 x_110 x_111 x_112 →
  ((decide (x_110 < ((cap1.done.length : Nat) : Int))) = true →
  ((0 : Int) ≤ x_110 ∧ x_110 < (cap1.done.length : Int)) ∧
  ((gi cap1.done x_110) = true →
  ((0 : Int) ≤ x_110) ∧
  VC65_J2 I1 μ1 x_110 x_111 x_112 (IntKind.u32.wrap ((BitVec.ofInt IntKind.u32.bits x_111 ||| BitVec.ofInt IntKind.u32.bits (IntKind.u32.wrap (1 * 2 ^ (min x_110.toNat IntKind.u32.bits)))).toNat : Int))) ∧
  ((gi cap1.done x_110) = false →
  VC65_J2 I1 μ1 x_110 x_111 x_112 x_111)) ∧
  ((decide (x_110 < ((cap1.done.length : Nat) : Int))) = false →
  VC65_J1 Q x_111 x_112)
def VC64_J1 (Q : Bool → Prop) : Prop :=
  Q true
def VC64_J2 (Q : Bool → Prop) (I1 : Int → Prop) (μ1 : Int → Nat) (x_106 : Int) (x_115 : Bool) : Prop :=
  (x_115 = true →
  Q false) ∧
  (x_115 = false →
  I1 (IntKind.i64.wrap (x_106 + 1)) ∧ μ1 (IntKind.i64.wrap (x_106 + 1)) < μ1 x_106)
def VC64 (cap1 : Search_seeker) (Q : Bool → Prop) : Prop :=
  ∀ (_ : sm cap1.o.Rows),
  ∀ (_ : sm cap1.l),
  ∀ (_ : sm cap1.done),
  ∃ (I1 : Int → Prop) (μ1 : Int → Nat), I1 0 ∧ ∀ (x_106 : Int), I1 x_106 →
  ((decide (x_106 < ((cap1.l.length : Nat) : Int))) = true →
  ((0 : Int) ≤ x_106 ∧ x_106 < (cap1.l.length : Int)) ∧
  ((((gi cap1.l x_106).End) != (-1)) = true →
  ((0 : Int) ≤ x_106 ∧ x_106 < (cap1.done.length : Int)) ∧
  VC64_J2 Q I1 μ1 x_106 (!(gi cap1.done x_106))) ∧
  ((((gi cap1.l x_106).End) != (-1)) = false →
  VC64_J2 Q I1 μ1 x_106 false)) ∧
  ((decide (x_106 < ((cap1.l.length : Nat) : Int))) = false →
  VC64_J1 Q)
def VC66 (N : Nat) (p_ : Api_Pick) (cap2 : Search_seeker) (cap3 : Int) (cap4 : List Api_Pick) (Q : (List Api_Pick) × Bool × Search_seeker → Prop) : Prop :=
  ∀ (_ : sm cap2.o.Rows),
  ∀ (_ : sm cap2.l),
  ∀ (_ : sm cap2.done),
  ∀ (_ : sm cap4),
  ((0 : Int) ≤ p_.Oper ∧ p_.Oper < (cap2.l.length : Int)) ∧
  ∀ r111, object_Move cap2.o cap3 ((gi cap2.l p_.Oper).Kind) = r111 →
  ((0 : Int) ≤ p_.Oper ∧ p_.Oper < (cap2.done.length : Int)) ∧
  (preCl cap4) ∧
  ∀ r126, slices_Clone_api_Pick_api_Pick cap4 = r126 →
  ∀ (_ : sm r126),
  (r126.length + [p_].length ≤ 1099511627776) ∧
  (preFi r111.1 (r126 ++ [p_]) (⟨cap2.o, cap2.l, (cap2.done.set p_.Oper.toNat true), cap2.failed⟩ : Search_seeker) ∧ mFirst r111.1 (r126 ++ [p_]) (⟨cap2.o, cap2.l, (cap2.done.set p_.Oper.toNat true), cap2.failed⟩ : Search_seeker) < N) ∧
  ∀ r190, search_seeker_first r111.1 (r126 ++ [p_]) (⟨cap2.o, cap2.l, (cap2.done.set p_.Oper.toNat true), cap2.failed⟩ : Search_seeker) = r190 →
  ∀ (_ : sm r190.1),
  ∀ (_ : sm r190.2.2.o.Rows),
  ∀ (_ : sm r190.2.2.l),
  ∀ (_ : sm r190.2.2.done),
  ((0 : Int) ≤ p_.Oper ∧ p_.Oper < (r190.2.2.done.length : Int)) ∧
  Q (r190.1, r190.2.1, (⟨r190.2.2.o, r190.2.2.l, (r190.2.2.done.set p_.Oper.toNat false), r190.2.2.failed⟩ : Search_seeker))
def VC54_J2 (N : Nat) (Q : ((List Api_Pick) × Bool × Search_seeker) → Prop) (x_120 : Int) (x_121 : Int) (x_122 : Int) (x_123 : List Api_Row) (x_127 : List Api_Oper) (x_139 : List Bool) (x_143 : List (Search_spot × Int)) : Prop :=
  Q ([], false, (⟨(⟨x_120, x_121, x_122, x_123⟩ : Api_Object), x_127, x_139, x_143⟩ : Search_seeker))
def VC54_J1 (N : Nat) (state : Int) (Q : ((List Api_Pick) × Bool × Search_seeker) → Prop) (r112 : Search_spot) (x_120 : Int) (x_121 : Int) (x_122 : Int) (x_123 : List Api_Row) (x_127 : List Api_Oper) (x_131 : List Bool) (x_135 : List (Search_spot × Int)) : Prop :=
  ((!(r112.done == 0 && (r112.state == 0 && true))) = true →
  VC54_J2 N Q x_120 x_121 x_122 x_123 x_127 x_131 (mput x_135 r112 (IntKind.i64.wrap (((mget x_135 r112).getD 0) + 1)))) ∧
  ((!(r112.done == 0 && (r112.state == 0 && true))) = false →
  VC54_J2 N Q x_120 x_121 x_122 x_123 x_127 x_131 x_135)
def VC54 (N : Nat) (state : Int) (so : List Api_Pick) (cap1 : Search_seeker) (Q : (List Api_Pick) × Bool × Search_seeker → Prop) : Prop :=
  ∀ (_ : sm so),
  ∀ (_ : sm cap1.o.Rows),
  ∀ (_ : sm cap1.l),
  ∀ (_ : sm cap1.done),
  (preWh cap1) ∧
  ∀ r104, search_seeker_whole cap1 = r104 →
  (r104 = true →
  Q (so, true, cap1)) ∧
  (r104 = false →
  ∀ r112, search_seeker_here state cap1 = r112 →
  ((decide (((mget cap1.failed r112).getD 0) > 0)) = true →
  Q ([], false, cap1)) ∧
  ((decide (((mget cap1.failed r112).getD 0) > 0)) = false →
  (preNx cap1.o cap1.l state cap1.done) ∧
  ∀ r190, search_Next cap1.o cap1.l state cap1.done = r190 →
  ∀ (_ : sm r190),
  ∃ (I1 : (List Api_Pick) → Int → Int → Int → Int → (List Api_Row) → (List Api_Oper) → (List Bool) → (List (Search_spot × Int)) → Prop) (μ1 : (List Api_Pick) → Int → Int → Int → Int → (List Api_Row) → (List Api_Oper) → (List Bool) → (List (Search_spot × Int)) → Nat), I1 r190 0 cap1.o.States cap1.o.Kinds cap1.o.Init cap1.o.Rows cap1.l cap1.done cap1.failed ∧ ∀ (x_194 : List Api_Pick) (x_198 : Int) (x_200 : Int) (x_201 : Int) (x_202 : Int) (x_203 : List Api_Row) (x_207 : List Api_Oper) (x_211 : List Bool) (x_215 : List (Search_spot × Int)), I1 x_194 x_198 x_200 x_201 x_202 x_203 x_207 x_211 x_215 →
  ((decide (x_198 < ((r190.length : Nat) : Int))) = true →
  ((0 : Int) ≤ x_198 ∧ x_198 < (x_194.length : Int)) ∧
  (preTr (gi x_194 x_198) (⟨(⟨x_200, x_201, x_202, x_203⟩ : Api_Object), x_207, x_211, x_215⟩ : Search_seeker) state so ∧ mTry (gi x_194 x_198) (⟨(⟨x_200, x_201, x_202, x_203⟩ : Api_Object), x_207, x_211, x_215⟩ : Search_seeker) state so < N) ∧
  ∀ r225, search_seeker_first_1 (gi x_194 x_198) (⟨(⟨x_200, x_201, x_202, x_203⟩ : Api_Object), x_207, x_211, x_215⟩ : Search_seeker) state so = r225 →
  ∀ (_ : sm r225.1),
  ∀ (_ : sm r225.2.2.o.Rows),
  ∀ (_ : sm r225.2.2.l),
  ∀ (_ : sm r225.2.2.done),
  (r225.2.1 = true →
  Q (r225.1, true, r225.2.2)) ∧
  (r225.2.1 = false →
  I1 x_194 (IntKind.i64.wrap (x_198 + 1)) r225.2.2.o.States r225.2.2.o.Kinds r225.2.2.o.Init r225.2.2.o.Rows r225.2.2.l r225.2.2.done r225.2.2.failed ∧ μ1 x_194 (IntKind.i64.wrap (x_198 + 1)) r225.2.2.o.States r225.2.2.o.Kinds r225.2.2.o.Init r225.2.2.o.Rows r225.2.2.l r225.2.2.done r225.2.2.failed < μ1 x_194 x_198 x_200 x_201 x_202 x_203 x_207 x_211 x_215)) ∧
  ((decide (x_198 < ((r190.length : Nat) : Int))) = false →
  VC54_J1 N state Q r112 x_200 x_201 x_202 x_203 x_207 x_211 x_215)))
def VC53 (o_ : Api_Object) (l_ : List Api_Oper) (Q : Search_seeker → Prop) : Prop :=
  ∀ (_ : sm o_.Rows),
  ∀ (_ : sm l_),
  ((0 : Int) ≤ ((l_.length : Nat) : Int) ∧ ((l_.length : Nat) : Int) ≤ ((l_.length : Nat) : Int) ∧ ((l_.length : Nat) : Int) ≤ 1099511627776) ∧
  Q (⟨o_, l_, List.replicate ((l_.length : Nat) : Int).toNat (false : Bool), ([] : List (Search_spot × Int))⟩ : Search_seeker)
def VC40_J1 (Q : ((List Api_Pick) × Int) → Prop) (r128 : (List Api_Pick) × Bool × Search_seeker) (x_144 : Bool) : Prop :=
  (x_144 = true →
  Q ([], 41)) ∧
  (x_144 = false →
  Q (r128.1, 0))
def VC40 (o_ : Api_Object) (l_ : List Api_Oper) (Q : (List Api_Pick) × Int → Prop) : Prop :=
  ∀ (_ : sm o_.Rows),
  ∀ (_ : sm l_),
  (preCk o_ l_ 20) ∧
  ∀ r104, search_check o_ l_ 20 = r104 →
  ((r104 != 0) = true →
  Q ([], r104)) ∧
  ((r104 != 0) = false →
  (preBg o_ l_) ∧
  ∀ r110, search_begin o_ l_ = r110 →
  ∀ (_ : sm r110.o.Rows),
  ∀ (_ : sm r110.l),
  ∀ (_ : sm r110.done),
  (preFi o_.Init [] r110) ∧
  ∀ r128, search_seeker_first o_.Init [] r110 = r128 →
  ∀ (_ : sm r128.1),
  ∀ (_ : sm r128.2.2.o.Rows),
  ∀ (_ : sm r128.2.2.l),
  ∀ (_ : sm r128.2.2.done),
  ((!r128.2.1) = true →
  VC40_J1 Q r128 true) ∧
  ((!r128.2.1) = false →
  (preO2 o_ l_ r128.1) ∧
  ∀ r148, witness_Is o_ l_ r128.1 = r148 →
  VC40_J1 Q r128 (!r148)))
def VC25 (o_ : Api_Object) (l_ : List Api_Oper) (Q : Bool × Int → Prop) : Prop :=
  ∀ (_ : sm o_.Rows),
  ∀ (_ : sm l_),
  (preSe o_ l_) ∧
  ∀ r104, search_Search o_ l_ = r104 →
  ∀ (_ : sm r104.1),
  ((r104.2 == 41) = true →
  Q (false, 0)) ∧
  ((r104.2 == 41) = false →
  Q ((r104.2 == 0), r104.2))
def VC37 (x_ : Api_Event) (Q : Int → Prop) : Prop :=
  (((x_.What != 1) && (x_.What != 2)) = true →
  Q 8) ∧
  (((x_.What != 1) && (x_.What != 2)) = false →
  (((decide (x_.Prc < 1)) || (decide (x_.Prc > 1000))) = true →
  Q 2) ∧
  (((decide (x_.Prc < 1)) || (decide (x_.Prc > 1000))) = false →
  (((x_.What == 1) && ((decide (x_.N < 0)) || (decide (x_.N ≥ 64)))) = true →
  Q 31) ∧
  (((x_.What == 1) && ((decide (x_.N < 0)) || (decide (x_.N ≥ 64)))) = false →
  (((x_.What == 2) && ((decide (x_.N < 0)) || (decide (x_.N > 1000000)))) = true →
  Q 7) ∧
  (((x_.What == 2) && ((decide (x_.N < 0)) || (decide (x_.N > 1000000)))) = false →
  Q 0))))
def VC23_J1 (l_ : List Api_Event) (Q : (Int × Int) → Prop) : Prop :=
  Q (((l_.length : Nat) : Int), 0)
def VC23 (l_ : List Api_Event) (Q : Int × Int → Prop) : Prop :=
  ∀ (_ : sm l_),
  ((decide (((l_.length : Nat) : Int) > 10000)) = true →
  Q (0, 3)) ∧
  ((decide (((l_.length : Nat) : Int) > 10000)) = false →
  ∃ (I1 : (List (Int × Int)) → Int → Prop) (μ1 : (List (Int × Int)) → Int → Nat), I1 ([] : List (Int × Int)) 0 ∧ ∀ (open_107 : List (Int × Int)) (x_110 : Int), I1 open_107 x_110 →
  ((decide (x_110 < ((l_.length : Nat) : Int))) = true →
  ((0 : Int) ≤ x_110 ∧ x_110 < (l_.length : Int)) ∧
  ∀ r117, event_alone (gi l_ x_110) = r117 →
  ((r117 != 0) = true →
  Q (x_110, r117)) ∧
  ((r117 != 0) = false →
  (((((mget open_107 ((gi l_ x_110).Prc)).getD 0) == 1) == (((gi l_ x_110).What) == 1)) = true →
  Q (x_110, 33)) ∧
  (((((mget open_107 ((gi l_ x_110).Prc)).getD 0) == 1) == (((gi l_ x_110).What) == 1)) = false →
  I1 (mput open_107 ((gi l_ x_110).Prc) ((gi l_ x_110).What)) (IntKind.i64.wrap (x_110 + 1)) ∧ μ1 (mput open_107 ((gi l_ x_110).Prc) ((gi l_ x_110).What)) (IntKind.i64.wrap (x_110 + 1)) < μ1 open_107 x_110))) ∧
  ((decide (x_110 < ((l_.length : Nat) : Int))) = false →
  VC23_J1 l_ Q))
def VC39_J1 (Q : Int → Prop) (most_101 : Int) : Prop :=
  Q (IntKind.i64.wrap (most_101 + 1))
def VC39_J2 (I1 : Int → Int → Prop) (μ1 : Int → Int → Nat) (most_102 : Int) (x_104 : Int) (most_105 : Int) : Prop :=
  I1 most_105 (IntKind.i64.wrap (x_104 + 1)) ∧ μ1 most_105 (IntKind.i64.wrap (x_104 + 1)) < μ1 most_102 x_104
def VC39 (l_ : List Api_Event) (Q : Int → Prop) : Prop :=
  ∀ (_ : sm l_),
  ∃ (I1 : Int → Int → Prop) (μ1 : Int → Int → Nat), I1 (-1) 0 ∧ ∀ (most_102 : Int) (x_104 : Int), I1 most_102 x_104 →
  ((decide (x_104 < ((l_.length : Nat) : Int))) = true →
  ((0 : Int) ≤ x_104 ∧ x_104 < (l_.length : Int)) ∧
  ((((gi l_ x_104).What) == 1) = true →
  VC39_J2 I1 μ1 most_102 x_104 (if (if 63 < ((gi l_ x_104).N) then 63 else ((gi l_ x_104).N)) > most_102 then (if 63 < ((gi l_ x_104).N) then 63 else ((gi l_ x_104).N)) else most_102)) ∧
  ((((gi l_ x_104).What) == 1) = false →
  VC39_J2 I1 μ1 most_102 x_104 most_102)) ∧
  ((decide (x_104 < ((l_.length : Nat) : Int))) = false →
  VC39_J1 Q most_102)
def VC16_J1 (Q : Bool → Prop) : Prop :=
  Q true
def VC16 (a_ : List Api_Event) (b_ : List Api_Event) (Q : Bool → Prop) : Prop :=
  ∀ (_ : sm a_),
  ∀ (_ : sm b_),
  ((((a_.length : Nat) : Int) != ((b_.length : Nat) : Int)) = true →
  Q false) ∧
  ((((a_.length : Nat) : Int) != ((b_.length : Nat) : Int)) = false →
  ∃ (I1 : Int → Prop) (μ1 : Int → Nat), I1 0 ∧ ∀ (i_103 : Int), I1 i_103 →
  ((decide (i_103 < ((a_.length : Nat) : Int))) = true →
  ((0 : Int) ≤ i_103 ∧ i_103 < (a_.length : Int)) ∧
  ((0 : Int) ≤ i_103 ∧ i_103 < (b_.length : Int)) ∧
  ((!(((gi a_ i_103).What) == ((gi b_ i_103).What) && (((gi a_ i_103).Prc) == ((gi b_ i_103).Prc) && (((gi a_ i_103).N) == ((gi b_ i_103).N) && true)))) = true →
  Q false) ∧
  ((!(((gi a_ i_103).What) == ((gi b_ i_103).What) && (((gi a_ i_103).Prc) == ((gi b_ i_103).Prc) && (((gi a_ i_103).N) == ((gi b_ i_103).N) && true)))) = false →
  I1 (IntKind.i64.wrap (i_103 + 1)) ∧ μ1 (IntKind.i64.wrap (i_103 + 1)) < μ1 i_103)) ∧
  ((decide (i_103 < ((a_.length : Nat) : Int))) = false →
  VC16_J1 Q))
def VC24 (c_ : Histtext_Case) (Q : Int → Prop) : Prop :=
  ∀ (_ : sm c_.Object.Rows),
  ∀ (_ : sm c_.Events),
  (preO c_.Object) ∧
  ∀ r104, object_Check c_.Object = r104 →
  ((r104.2 != 0) = true →
  Q r104.2) ∧
  ((r104.2 != 0) = false →
  ∀ r108, event_Check c_.Events = r108 →
  ((r108.2 != 0) = true →
  Q r108.2) ∧
  ((r108.2 != 0) = false →
  ∀ r114, event_Kinds c_.Events = r114 →
  ((decide (r114 > c_.Object.Kinds)) = true →
  Q 31) ∧
  ((decide (r114 > c_.Object.Kinds)) = false →
  Q 0)))
def VC9_J1 (Q : ((List Api_Oper) × Int) → Prop) (out_109 : List Api_Oper) : Prop :=
  Q (out_109, 0)
def VC9_J2 (I1 : (List Api_Oper) → (List (Int × Int)) → Int → Prop) (μ1 : (List Api_Oper) → (List (Int × Int)) → Int → Nat) (out_115 : List Api_Oper) (open_119 : List (Int × Int)) (x_122 : Int) (out_123 : List Api_Oper) (open_127 : List (Int × Int)) : Prop :=
  I1 out_123 open_127 (IntKind.i64.wrap (x_122 + 1)) ∧ μ1 out_123 open_127 (IntKind.i64.wrap (x_122 + 1)) < μ1 out_115 open_119 x_122
def VC9 (l_ : List Api_Event) (Q : (List Api_Oper) × Int → Prop) : Prop :=
  ∀ (_ : sm l_),
  ∀ r104, event_Check l_ = r104 →
  ((r104.2 != 0) = true →
  Q ([], r104.2)) ∧
  ((r104.2 != 0) = false →
  ∃ (I1 : (List Api_Oper) → (List (Int × Int)) → Int → Prop) (μ1 : (List Api_Oper) → (List (Int × Int)) → Int → Nat), I1 [] ([] : List (Int × Int)) 0 ∧ ∀ (out_115 : List Api_Oper) (open_119 : List (Int × Int)) (x_122 : Int), I1 out_115 open_119 x_122 →
  ((decide (x_122 < ((l_.length : Nat) : Int))) = true →
  ((0 : Int) ≤ x_122 ∧ x_122 < (l_.length : Int)) ∧
  ((((gi l_ x_122).What) == 1) = true →
  (out_115.length + [(⟨(gi l_ x_122).Prc, (gi l_ x_122).N, x_122, (-1), (-1)⟩ : Api_Oper)].length ≤ 1099511627776) ∧
  VC9_J2 I1 μ1 out_115 open_119 x_122 (out_115 ++ [(⟨(gi l_ x_122).Prc, (gi l_ x_122).N, x_122, (-1), (-1)⟩ : Api_Oper)]) (mput open_119 ((gi l_ x_122).Prc) ((out_115.length : Nat) : Int))) ∧
  ((((gi l_ x_122).What) == 1) = false →
  ((0 : Int) ≤ ((mget open_119 ((gi l_ x_122).Prc)).getD 0) ∧ ((mget open_119 ((gi l_ x_122).Prc)).getD 0) < (out_115.length : Int)) ∧
  VC9_J2 I1 μ1 out_115 open_119 x_122 ((out_115.set ((mget open_119 ((gi l_ x_122).Prc)).getD 0).toNat (⟨(gi out_115 ((mget open_119 ((gi l_ x_122).Prc)).getD 0)).Prc, (gi out_115 ((mget open_119 ((gi l_ x_122).Prc)).getD 0)).Kind, (gi out_115 ((mget open_119 ((gi l_ x_122).Prc)).getD 0)).Start, x_122, (gi out_115 ((mget open_119 ((gi l_ x_122).Prc)).getD 0)).Result⟩ : Api_Oper)).set ((mget open_119 ((gi l_ x_122).Prc)).getD 0).toNat (⟨(gi (out_115.set ((mget open_119 ((gi l_ x_122).Prc)).getD 0).toNat (⟨(gi out_115 ((mget open_119 ((gi l_ x_122).Prc)).getD 0)).Prc, (gi out_115 ((mget open_119 ((gi l_ x_122).Prc)).getD 0)).Kind, (gi out_115 ((mget open_119 ((gi l_ x_122).Prc)).getD 0)).Start, x_122, (gi out_115 ((mget open_119 ((gi l_ x_122).Prc)).getD 0)).Result⟩ : Api_Oper)) ((mget open_119 ((gi l_ x_122).Prc)).getD 0)).Prc, (gi (out_115.set ((mget open_119 ((gi l_ x_122).Prc)).getD 0).toNat (⟨(gi out_115 ((mget open_119 ((gi l_ x_122).Prc)).getD 0)).Prc, (gi out_115 ((mget open_119 ((gi l_ x_122).Prc)).getD 0)).Kind, (gi out_115 ((mget open_119 ((gi l_ x_122).Prc)).getD 0)).Start, x_122, (gi out_115 ((mget open_119 ((gi l_ x_122).Prc)).getD 0)).Result⟩ : Api_Oper)) ((mget open_119 ((gi l_ x_122).Prc)).getD 0)).Kind, (gi (out_115.set ((mget open_119 ((gi l_ x_122).Prc)).getD 0).toNat (⟨(gi out_115 ((mget open_119 ((gi l_ x_122).Prc)).getD 0)).Prc, (gi out_115 ((mget open_119 ((gi l_ x_122).Prc)).getD 0)).Kind, (gi out_115 ((mget open_119 ((gi l_ x_122).Prc)).getD 0)).Start, x_122, (gi out_115 ((mget open_119 ((gi l_ x_122).Prc)).getD 0)).Result⟩ : Api_Oper)) ((mget open_119 ((gi l_ x_122).Prc)).getD 0)).Start, (gi (out_115.set ((mget open_119 ((gi l_ x_122).Prc)).getD 0).toNat (⟨(gi out_115 ((mget open_119 ((gi l_ x_122).Prc)).getD 0)).Prc, (gi out_115 ((mget open_119 ((gi l_ x_122).Prc)).getD 0)).Kind, (gi out_115 ((mget open_119 ((gi l_ x_122).Prc)).getD 0)).Start, x_122, (gi out_115 ((mget open_119 ((gi l_ x_122).Prc)).getD 0)).Result⟩ : Api_Oper)) ((mget open_119 ((gi l_ x_122).Prc)).getD 0)).End, (gi l_ x_122).N⟩ : Api_Oper)) open_119)) ∧
  ((decide (x_122 < ((l_.length : Nat) : Int))) = false →
  VC9_J1 Q out_115))
def VC10 (c_ : Histtext_Case) (Q : Bool × Int → Prop) : Prop :=
  ∀ (_ : sm c_.Object.Rows),
  ∀ (_ : sm c_.Events),
  (preCa c_) ∧
  ∀ r104, histtext_Check c_ = r104 →
  ((r104 != 0) = true →
  Q (false, r104)) ∧
  ((r104 != 0) = false →
  ∀ r108, oper_Of c_.Events = r108 →
  ∀ (_ : sm r108.1),
  ((r108.2 != 0) = true →
  Q (false, r108.2)) ∧
  ((r108.2 != 0) = false →
  (preSe c_.Object r108.1) ∧
  ∀ r115, search_Lin c_.Object r108.1 = r115 →
  Q (r115.1, r115.2)))
def VC31 (c_ : Histtext_Case) (Q : Histtext_Case → Prop) : Prop :=
  ∀ (_ : sm c_.Object.Rows),
  ∀ (_ : sm c_.Events),
  Q c_
def VC48 (n_ : Int) (cap1 : Histtext_Case) (Q : Bool → Prop) : Prop :=
  ∀ (_ : sm cap1.Object.Rows),
  ∀ (_ : sm cap1.Events),
  ((0 : Int) ≤ n_ ∧ n_ ≤ (cap1.Events.length : Int)) ∧
  (preCa (⟨cap1.Object, cap1.Events.take n_.toNat⟩ : Histtext_Case)) ∧
  ∀ r109, shrink_Lin (⟨cap1.Object, cap1.Events.take n_.toNat⟩ : Histtext_Case) = r109 →
  Q ((r109.2 == 0) && (!r109.1))
def VC30_48_J1 (Q : Int → Prop) (i_101 : Int) : Prop :=
  Q i_101
def VC30_48 (n_ : Int) (cap1 : Histtext_Case) (Q : Int → Prop) : Prop :=
  ∀ (_ : sm cap1.Object.Rows),
  ∀ (_ : sm cap1.Events),
  ∃ (I1 : Int → Int → Prop) (μ1 : Int → Int → Nat), I1 0 n_ ∧ ∀ (i_104 : Int) (j_105 : Int), I1 i_104 j_105 →
  ((decide (i_104 < j_105)) = true →
  (preAs (IntKind.i64.wrap (((IntKind.u64.wrap (IntKind.i64.wrap (i_104 + j_105)))).fdiv (2 ^ 1))) cap1) ∧
  ∀ r111, shrink_asker_1 (IntKind.i64.wrap (((IntKind.u64.wrap (IntKind.i64.wrap (i_104 + j_105)))).fdiv (2 ^ 1))) cap1 = r111 →
  ((!r111) = true →
  I1 (IntKind.i64.wrap ((IntKind.i64.wrap (((IntKind.u64.wrap (IntKind.i64.wrap (i_104 + j_105)))).fdiv (2 ^ 1))) + 1)) j_105 ∧ μ1 (IntKind.i64.wrap ((IntKind.i64.wrap (((IntKind.u64.wrap (IntKind.i64.wrap (i_104 + j_105)))).fdiv (2 ^ 1))) + 1)) j_105 < μ1 i_104 j_105) ∧
  ((!r111) = false →
  I1 i_104 (IntKind.i64.wrap (((IntKind.u64.wrap (IntKind.i64.wrap (i_104 + j_105)))).fdiv (2 ^ 1))) ∧ μ1 i_104 (IntKind.i64.wrap (((IntKind.u64.wrap (IntKind.i64.wrap (i_104 + j_105)))).fdiv (2 ^ 1))) < μ1 i_104 j_105)) ∧
  ((decide (i_104 < j_105)) = false →
  VC30_48_J1 Q i_104)
def VC12 (c_ : Histtext_Case) (Q : Int × Int → Prop) : Prop :=
  ∀ (_ : sm c_.Object.Rows),
  ∀ (_ : sm c_.Events),
  (preCa c_) ∧
  ∀ r104, shrink_Lin c_ = r104 →
  ((r104.2 != 0) = true →
  Q (0, r104.2)) ∧
  ((r104.2 != 0) = false →
  (r104.1 = true →
  Q (0, 41)) ∧
  (r104.1 = false →
  ∀ r110, shrink_asker c_ = r110 →
  ∀ (_ : sm r110.Object.Rows),
  ∀ (_ : sm r110.Events),
  (preBs ((c_.Events.length : Nat) : Int) r110) ∧
  ∀ r123, sort_Search_shrink_asker_1 ((c_.Events.length : Nat) : Int) r110 = r123 →
  Q (r123, 0)))
def VC49_J1 (Q : Int → Prop) : Prop :=
  Q (-1)
def VC49 (s_ : List Int) (v_ : Int) (Q : Int → Prop) : Prop :=
  ∀ (_ : sm s_),
  ∃ (I1 : Int → Prop) (μ1 : Int → Nat), I1 0 ∧ ∀ (x_102 : Int), I1 x_102 →
  ((decide (x_102 < ((s_.length : Nat) : Int))) = true →
  ((0 : Int) ≤ x_102 ∧ x_102 < (s_.length : Int)) ∧
  ((v_ == (gi s_ x_102)) = true →
  Q x_102) ∧
  ((v_ == (gi s_ x_102)) = false →
  I1 (IntKind.i64.wrap (x_102 + 1)) ∧ μ1 (IntKind.i64.wrap (x_102 + 1)) < μ1 x_102)) ∧
  ((decide (x_102 < ((s_.length : Nat) : Int))) = false →
  VC49_J1 Q)
def VC35 (s_ : List Int) (v_ : Int) (Q : Bool → Prop) : Prop :=
  ∀ (_ : sm s_),
  ∀ r104, slices_Index_int_int s_ v_ = r104 →
  Q (decide (r104 ≥ 0))
def VC18_J1 (Q : ((List Api_Event)) → Prop) (out_105 : List Api_Event) : Prop :=
  Q out_105
def VC18_J2 (I1 : (List Api_Event) → Int → (List (Int × Int)) → Int → Prop) (μ1 : (List Api_Event) → Int → (List (Int × Int)) → Int → Nat) (out_112 : List Api_Event) (n_116 : Int) (gone_117 : List (Int × Int)) (x_120 : Int) (out_122 : List Api_Event) (n_126 : Int) (gone_127 : List (Int × Int)) : Prop :=
  I1 out_122 n_126 gone_127 (IntKind.i64.wrap (x_120 + 1)) ∧ μ1 out_122 n_126 gone_127 (IntKind.i64.wrap (x_120 + 1)) < μ1 out_112 n_116 gone_117 x_120
def VC18_J3 (I1 : (List Api_Event) → Int → (List (Int × Int)) → Int → Prop) (μ1 : (List Api_Event) → Int → (List (Int × Int)) → Int → Nat) (out_112 : List Api_Event) (n_116 : Int) (gone_117 : List (Int × Int)) (x_120 : Int) (out_136 : List Api_Event) (gone_140 : List (Int × Int)) : Prop :=
  VC18_J2 I1 μ1 out_112 n_116 gone_117 x_120 out_136 (IntKind.i64.wrap (n_116 + 1)) gone_140
def VC18_J4 (l_ : List Api_Event) (I1 : (List Api_Event) → Int → (List (Int × Int)) → Int → Prop) (μ1 : (List Api_Event) → Int → (List (Int × Int)) → Int → Nat) (out_112 : List Api_Event) (n_116 : Int) (gone_117 : List (Int × Int)) (x_120 : Int) (out_161 : List Api_Event) : Prop :=
  VC18_J2 I1 μ1 out_112 n_116 gone_117 x_120 out_161 n_116 (mput gone_117 ((gi l_ x_120).Prc) 0)
def VC18 (l_ : List Api_Event) (ops : List Int) (Q : (List Api_Event) → Prop) : Prop :=
  ∀ (_ : sm l_),
  ∀ (_ : sm ops),
  ∃ (I1 : (List Api_Event) → Int → (List (Int × Int)) → Int → Prop) (μ1 : (List Api_Event) → Int → (List (Int × Int)) → Int → Nat), I1 [] 0 ([] : List (Int × Int)) 0 ∧ ∀ (out_112 : List Api_Event) (n_116 : Int) (gone_117 : List (Int × Int)) (x_120 : Int), I1 out_112 n_116 gone_117 x_120 →
  ((decide (x_120 < ((l_.length : Nat) : Int))) = true →
  ((0 : Int) ≤ x_120 ∧ x_120 < (l_.length : Int)) ∧
  ((((gi l_ x_120).What) == 1) = true →
  ∀ r146, slices_Contains_int_int ops n_116 = r146 →
  (r146 = true →
  VC18_J3 I1 μ1 out_112 n_116 gone_117 x_120 out_112 (mput (mput gone_117 ((gi l_ x_120).Prc) 0) ((gi l_ x_120).Prc) 1)) ∧
  (r146 = false →
  (out_112.length + [(gi l_ x_120)].length ≤ 1099511627776) ∧
  VC18_J3 I1 μ1 out_112 n_116 gone_117 x_120 (out_112 ++ [(gi l_ x_120)]) (mput gone_117 ((gi l_ x_120).Prc) 0))) ∧
  ((((gi l_ x_120).What) == 1) = false →
  (((((mget gone_117 ((gi l_ x_120).Prc)).getD 0) == 0) || (((gi l_ x_120).What) != 2)) = true →
  (out_112.length + [(gi l_ x_120)].length ≤ 1099511627776) ∧
  VC18_J4 l_ I1 μ1 out_112 n_116 gone_117 x_120 (out_112 ++ [(gi l_ x_120)])) ∧
  (((((mget gone_117 ((gi l_ x_120).Prc)).getD 0) == 0) || (((gi l_ x_120).What) != 2)) = false →
  VC18_J4 l_ I1 μ1 out_112 n_116 gone_117 x_120 out_112))) ∧
  ((decide (x_120 < ((l_.length : Nat) : Int))) = false →
  VC18_J1 Q out_112)
def VC32 (s_ : List Api_Row) (Q : (List Api_Row) → Prop) : Prop :=
  ∀ (_ : sm s_),
  ∀ (b101 : Bool), (b101 = true → s_ = []) →
  (b101 = true →
  Q []) ∧
  (b101 = false →
  (([] : List Api_Row).length + s_.length ≤ 1099511627776) ∧
  Q (([] : List Api_Row) ++ s_))
def VC33 (s_ : List Api_Event) (Q : (List Api_Event) → Prop) : Prop :=
  ∀ (_ : sm s_),
  ∀ (b101 : Bool), (b101 = true → s_ = []) →
  (b101 = true →
  Q []) ∧
  (b101 = false →
  (([] : List Api_Event).length + s_.length ≤ 1099511627776) ∧
  Q (([] : List Api_Event) ++ s_))
def VC14_J1 (Q : (Histtext_Case × Int) → Prop) (x_135 : Int) (x_136 : Int) (x_137 : Int) (x_138 : List Api_Row) (x_142 : List Api_Event) : Prop :=
  Q ((⟨(⟨x_135, x_136, x_137, x_138⟩ : Api_Object), x_142⟩ : Histtext_Case), 0)
def VC14_J2 (I1 : Int → Int → Int → Int → (List Api_Row) → (List Api_Event) → Prop) (μ1 : Int → Int → Int → Int → (List Api_Row) → (List Api_Event) → Nat) (i_148 : Int) (x_151 : Int) (x_152 : Int) (x_153 : Int) (x_154 : List Api_Row) (x_158 : List Api_Event) (x_165 : List Api_Event) : Prop :=
  I1 (IntKind.i64.wrap (i_148 - 1)) x_151 x_152 x_153 x_154 x_165 ∧ μ1 (IntKind.i64.wrap (i_148 - 1)) x_151 x_152 x_153 x_154 x_165 < μ1 i_148 x_151 x_152 x_153 x_154 x_158
def VC14 (c_ : Histtext_Case) (Q : Histtext_Case × Int → Prop) : Prop :=
  ∀ (_ : sm c_.Object.Rows),
  ∀ (_ : sm c_.Events),
  (preCa c_) ∧
  ∀ r104, shrink_Head c_ = r104 →
  ((r104.2 != 0) = true →
  Q ((⟨(⟨0, 0, 0, []⟩ : Api_Object), []⟩ : Histtext_Case), r104.2)) ∧
  ((r104.2 != 0) = false →
  (preC2 c_.Object.Rows) ∧
  ∀ r110, slices_Clone_api_Row_api_Row c_.Object.Rows = r110 →
  ∀ (_ : sm r110),
  ((0 : Int) ≤ r104.1 ∧ r104.1 ≤ (c_.Events.length : Int)) ∧
  (preC3 (c_.Events.take r104.1.toNat)) ∧
  ∀ r122, slices_Clone_api_Event_api_Event (c_.Events.take r104.1.toNat) = r122 →
  ∀ (_ : sm r122),
  ∀ r131, oper_Of r122 = r131 →
  ∀ (_ : sm r131.1),
  ∃ (I1 : Int → Int → Int → Int → (List Api_Row) → (List Api_Event) → Prop) (μ1 : Int → Int → Int → Int → (List Api_Row) → (List Api_Event) → Nat), I1 (IntKind.i64.wrap (((r131.1.length : Nat) : Int) - 1)) c_.Object.States c_.Object.Kinds c_.Object.Init r110 r122 ∧ ∀ (i_148 : Int) (x_151 : Int) (x_152 : Int) (x_153 : Int) (x_154 : List Api_Row) (x_158 : List Api_Event), I1 i_148 x_151 x_152 x_153 x_154 x_158 →
  ((decide (i_148 ≥ 0)) = true →
  (preWo x_158 [i_148]) ∧
  ∀ r178, shrink_Without x_158 [i_148] = r178 →
  ∀ (_ : sm r178),
  (preCa (⟨c_.Object, r178⟩ : Histtext_Case)) ∧
  ∀ r287, shrink_Head (⟨c_.Object, r178⟩ : Histtext_Case) = r287 →
  ((r287.2 == 0) = true →
  ((0 : Int) ≤ r287.1 ∧ r287.1 ≤ (r178.length : Int)) ∧
  VC14_J2 I1 μ1 i_148 x_151 x_152 x_153 x_154 x_158 (r178.take r287.1.toNat)) ∧
  ((r287.2 == 0) = false →
  VC14_J2 I1 μ1 i_148 x_151 x_152 x_153 x_154 x_158 x_158)) ∧
  ((decide (i_148 ≥ 0)) = false →
  VC14_J1 Q x_151 x_152 x_153 x_154 x_158))
def VC36_J2 (Q : Int → Prop) (begun_102 : Int) (x_103 : Bool) : Prop :=
  (x_103 = true →
  Q (-1)) ∧
  (x_103 = false →
  Q begun_102)
def VC36_J1 (l_ : List Api_Event) (at_ : Int) (Q : Int → Prop) (begun_102 : Int) : Prop :=
  ((0 : Int) ≤ at_ ∧ at_ < (l_.length : Int)) ∧
  ((((gi l_ at_).What) != 1) = true →
  ((0 : Int) ≤ at_ ∧ at_ < (l_.length : Int)) ∧
  VC36_J2 Q begun_102 (((gi l_ at_).What) != 2)) ∧
  ((((gi l_ at_).What) != 1) = false →
  VC36_J2 Q begun_102 false)
def VC36_J3 (I1 : Int → Int → Int → Prop) (μ1 : Int → Int → Int → Nat) (n_117 : Int) (begun_118 : Int) (i_119 : Int) (n_121 : Int) (begun_122 : Int) : Prop :=
  I1 n_121 begun_122 (IntKind.i64.wrap (i_119 + 1)) ∧ μ1 n_121 begun_122 (IntKind.i64.wrap (i_119 + 1)) < μ1 n_117 begun_118 i_119
def VC36_J4 (l_ : List Api_Event) (at_ : Int) (I1 : Int → Int → Int → Prop) (μ1 : Int → Int → Int → Nat) (n_117 : Int) (begun_118 : Int) (i_119 : Int) (n_124 : Int) : Prop :=
  ((0 : Int) ≤ i_119 ∧ i_119 < (l_.length : Int)) ∧
  ((0 : Int) ≤ at_ ∧ at_ < (l_.length : Int)) ∧
  ((((gi l_ i_119).Prc) == ((gi l_ at_).Prc)) = true →
  ((0 : Int) ≤ i_119 ∧ i_119 < (l_.length : Int)) ∧
  ((((gi l_ i_119).What) == 1) = true →
  VC36_J3 I1 μ1 n_117 begun_118 i_119 n_124 n_124) ∧
  ((((gi l_ i_119).What) == 1) = false →
  ((decide (i_119 < at_)) = true →
  VC36_J3 I1 μ1 n_117 begun_118 i_119 n_124 (-1)) ∧
  ((decide (i_119 < at_)) = false →
  VC36_J3 I1 μ1 n_117 begun_118 i_119 n_124 begun_118))) ∧
  ((((gi l_ i_119).Prc) == ((gi l_ at_).Prc)) = false →
  VC36_J3 I1 μ1 n_117 begun_118 i_119 n_124 begun_118)
def VC36 (l_ : List Api_Event) (at_ : Int) (Q : Int → Prop) : Prop :=
  ∀ (_ : sm l_),
  ∃ (I1 : Int → Int → Int → Prop) (μ1 : Int → Int → Int → Nat), I1 (-1) (-1) 0 ∧ ∀ (n_117 : Int) (begun_118 : Int) (i_119 : Int), I1 n_117 begun_118 i_119 →
  ((decide (i_119 ≤ at_)) = true →
  ((0 : Int) ≤ i_119 ∧ i_119 < (l_.length : Int)) ∧
  ((((gi l_ i_119).What) == 1) = true →
  VC36_J4 l_ at_ I1 μ1 n_117 begun_118 i_119 (IntKind.i64.wrap (n_117 + 1))) ∧
  ((((gi l_ i_119).What) == 1) = false →
  VC36_J4 l_ at_ I1 μ1 n_117 begun_118 i_119 n_117)) ∧
  ((decide (i_119 ≤ at_)) = false →
  VC36_J1 l_ at_ Q begun_118)
def VC19_J1 (Q : ((List Api_Event)) → Prop) (out_101 : List Api_Event) : Prop :=
  Q out_101
def VC19_J2 (I1 : (List Api_Event) → Int → Prop) (μ1 : (List Api_Event) → Int → Nat) (out_109 : List Api_Event) (i_113 : Int) (out_116 : List Api_Event) : Prop :=
  I1 out_116 (IntKind.i64.wrap (i_113 + 1)) ∧ μ1 out_116 (IntKind.i64.wrap (i_113 + 1)) < μ1 out_109 i_113
def VC19_J3 (l_ : List Api_Event) (I1 : (List Api_Event) → Int → Prop) (μ1 : (List Api_Event) → Int → Nat) (out_109 : List Api_Event) (i_113 : Int) (out_126 : List Api_Event) (gone_130 : Bool) : Prop :=
  ((!gone_130) = true →
  ((0 : Int) ≤ i_113 ∧ i_113 < (l_.length : Int)) ∧
  (out_126.length + [gi l_ i_113].length ≤ 1099511627776) ∧
  VC19_J2 I1 μ1 out_109 i_113 (out_126 ++ [gi l_ i_113])) ∧
  ((!gone_130) = false →
  VC19_J2 I1 μ1 out_109 i_113 out_126)
def VC19_J4 (I2 : (List Api_Event) → Bool → Int → Prop) (μ2 : (List Api_Event) → Bool → Int → Nat) (out_145 : List Api_Event) (gone_149 : Bool) (k_150 : Int) (out_153 : List Api_Event) (gone_157 : Bool) : Prop :=
  I2 out_153 gone_157 (IntKind.i64.wrap (k_150 + 1)) ∧ μ2 out_153 gone_157 (IntKind.i64.wrap (k_150 + 1)) < μ2 out_145 gone_149 k_150
def VC19 (l_ : List Api_Event) (ops : List Int) (Q : (List Api_Event) → Prop) : Prop :=
  ∀ (_ : sm l_),
  ∀ (_ : sm ops),
  ∃ (I1 : (List Api_Event) → Int → Prop) (μ1 : (List Api_Event) → Int → Nat), I1 [] 0 ∧ ∀ (out_109 : List Api_Event) (i_113 : Int), I1 out_109 i_113 →
  ((decide (i_113 < ((l_.length : Nat) : Int))) = true →
  (preOw l_ i_113) ∧
  ∀ r123, ref41_Owner l_ i_113 = r123 →
  ∃ (I2 : (List Api_Event) → Bool → Int → Prop) (μ2 : (List Api_Event) → Bool → Int → Nat), I2 out_109 false 0 ∧ ∀ (out_145 : List Api_Event) (gone_149 : Bool) (k_150 : Int), I2 out_145 gone_149 k_150 →
  ((decide (k_150 < ((ops.length : Nat) : Int))) = true →
  (gone_149 = true →
  VC19_J4 I2 μ2 out_145 gone_149 k_150 out_145 true) ∧
  (gone_149 = false →
  ((decide (r123 ≥ 0)) = true →
  ((0 : Int) ≤ k_150 ∧ k_150 < (ops.length : Int)) ∧
  VC19_J4 I2 μ2 out_145 gone_149 k_150 out_145 ((gi ops k_150) == r123)) ∧
  ((decide (r123 ≥ 0)) = false →
  VC19_J4 I2 μ2 out_145 gone_149 k_150 out_145 false))) ∧
  ((decide (k_150 < ((ops.length : Nat) : Int))) = false →
  VC19_J3 l_ I1 μ1 out_109 i_113 out_145 gone_149)) ∧
  ((decide (i_113 < ((l_.length : Nat) : Int))) = false →
  VC19_J1 Q out_109)
def VC21 (Q : Api_Object → Prop) : Prop :=
  Q (⟨2, 2, 0, [(⟨0, 0, 1, 0⟩ : Api_Row), (⟨0, 1, 0, 0⟩ : Api_Row), (⟨1, 0, 1, 0⟩ : Api_Row), (⟨1, 1, 1, 1⟩ : Api_Row)]⟩ : Api_Object)
def VC22 (Q : (List Api_Event) → Prop) : Prop :=
  Q [(⟨1, 3, 1⟩ : Api_Event), (⟨1, 1, 1⟩ : Api_Event), (⟨2, 1, 1⟩ : Api_Event), (⟨1, 2, 0⟩ : Api_Event), (⟨2, 2, 0⟩ : Api_Event)]
def VC8 (Q : Bool → Prop) : Prop :=
  ∀ r104, law41_flag = r104 →
  ∀ (_ : sm r104.Rows),
  ∀ r111, law41_bad = r111 →
  ∀ (_ : sm r111),
  (preCa (⟨r104, r111⟩ : Histtext_Case)) ∧
  ∀ r118, shrink_Lin (⟨r104, r111⟩ : Histtext_Case) = r118 →
  (preCa (⟨r104, r111⟩ : Histtext_Case)) ∧
  ∀ r122, shrink_Head (⟨r104, r111⟩ : Histtext_Case) = r122 →
  (prePa (⟨r104, r111⟩ : Histtext_Case)) ∧
  ∀ r126, shrink_Part (⟨r104, r111⟩ : Histtext_Case) = r126 →
  ∀ (_ : sm r126.1.Object.Rows),
  ∀ (_ : sm r126.1.Events),
  ∀ r136, law41_flag = r136 →
  ∀ (_ : sm r136.Rows),
  (preCa (⟨r136, []⟩ : Histtext_Case)) ∧
  ∀ r143, shrink_Head (⟨r136, []⟩ : Histtext_Case) = r143 →
  ∀ r147, law41_bad = r147 →
  ∀ (_ : sm r147),
  (preWo r147 [1, 2]) ∧
  ∀ r158, shrink_Without r147 [1, 2] = r158 →
  ∀ (_ : sm r158),
  (preCa (⟨(⟨0, 0, 0, []⟩ : Api_Object), []⟩ : Histtext_Case)) ∧
  ∀ r165, shrink_Lin (⟨(⟨0, 0, 0, []⟩ : Api_Object), []⟩ : Histtext_Case) = r165 →
  ((((((!r118.1) && (r118.2 == 0)) && (r122.1 == 3)) && (r122.2 == 0)) && (r126.2 == 0)) = true →
  ∀ r171, law41_bad = r171 →
  ∀ (_ : sm r171),
  ((0 : Int) ≤ 1 ∧ (1 : Int) ≤ 3 ∧ 3 ≤ (r171.length : Int)) ∧
  ∀ r181, ref25_Same r126.1.Events ((r171.take (3 : Int).toNat).drop (1 : Int).toNat) = r181 →
  ((r181 && (r143.2 == 41)) = true →
  ∀ r185, law41_bad = r185 →
  ∀ (_ : sm r185),
  ((0 : Int) ≤ 1 ∧ 1 ≤ (r185.length : Int)) ∧
  ∀ r195, ref25_Same r158 (r185.take (1 : Int).toNat) = r195 →
  Q (r195 && (r165.2 == 2))) ∧
  ((r181 && (r143.2 == 41)) = false →
  Q false)) ∧
  ((((((!r118.1) && (r118.2 == 0)) && (r122.1 == 3)) && (r122.2 == 0)) && (r126.2 == 0)) = false →
  Q false)
def VC4 (l_ : List Api_Event) (ops : List Int) (Q : Bool → Prop) : Prop :=
  ∀ (_ : sm l_),
  ∀ (_ : sm ops),
  (((decide (((l_.length : Nat) : Int) > 60)) || (decide (((ops.length : Nat) : Int) > 60))) = true →
  ∀ r104, law41_awake = r104 →
  Q r104) ∧
  (((decide (((l_.length : Nat) : Int) > 60)) || (decide (((ops.length : Nat) : Int) > 60))) = false →
  (preWo l_ ops) ∧
  ∀ r108, shrink_Without l_ ops = r108 →
  ∀ (_ : sm r108),
  (preWo l_ ops) ∧
  ∀ r115, ref41_Without l_ ops = r115 →
  ∀ (_ : sm r115),
  ∀ r122, ref25_Same r108 r115 = r122 →
  (r122 = true →
  ∀ r126, law41_awake = r126 →
  Q r126) ∧
  (r122 = false →
  Q false))
end Go.Proofs.Ytojdelnnjhbgbaa
