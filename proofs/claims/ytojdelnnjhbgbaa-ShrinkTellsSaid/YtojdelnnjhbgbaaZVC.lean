/- The conditions of the functions, in terms of their callees. Definitions. -/
import Derived.Test.YtojdelnnjhbgbaaZSpec
set_option linter.all false
namespace Go.Proofs.Ytojdelnnjhbgbaa
open Go Go.Sv
/-- replevin/replevinlaw23.Few -/
def VC20 (o_ : Api_Object) (Q : Bool -> Prop) : Prop :=
 sm o_.Rows ->
 Q (decide ((o_.Rows.length : Int) ≤ 300))
def VC50 (n_ : Int) (top : Int) (Q : Bool -> Prop) : Prop :=
 Q ((decide (n_ ≥ 0)) && (decide (n_ < top)))
def VC73_J1 (Q : Int -> Prop) : Prop :=
 Q 0
def VC73 (vals : List Int) (Q : Int -> Prop) : Prop :=
 sm vals ->
 ∃ (I1 : Int -> Prop) (μ1 : Int -> Nat), I1 0 /\ ∀ (v102 : Int), I1 v102 ->
 ((decide (v102 < (vals.length : Int))) = true ->
 ((0 : Int) ≤ v102 /\ v102 < (vals.length : Int)) /\
 (((gi vals v102) != 0) = true ->
 Q (gi vals v102)) /\
 (((gi vals v102) != 0) = false ->
 I1 (IntKind.i64.wrap (v102 + 1)) /\ μ1 (IntKind.i64.wrap (v102 + 1)) < μ1 v102)) /\
 ((decide (v102 < (vals.length : Int))) = false ->
 VC73_J1 Q)
def VC83 (x_ : Int) (Q : Bool -> Prop) : Prop :=
 Q (x_ != x_)
def VC74 (x_ : Int) (y_ : Int) (Q : Int -> Prop) : Prop :=
 ∀ r104, cmp_isNaN_int x_ = r104 ->
 ∀ r108, cmp_isNaN_int y_ = r108 ->
 (r104 = true ->
 (r108 = true ->
 Q 0) /\
 (r108 = false ->
 Q (-1))) /\
 (r104 = false ->
 (r108 = true ->
 Q 1) /\
 (r108 = false ->
 ((decide (x_ < y_)) = true ->
 Q (-1)) /\
 ((decide (x_ < y_)) = false ->
 ((decide (x_ > y_)) = true ->
 Q 1) /\
 ((decide (x_ > y_)) = false ->
 Q 0))))
def VC62 (a_ : Api_Row) (b_ : Api_Row) (Q : Int -> Prop) : Prop :=
 ∀ r106, cmp_Compare_int a_.State b_.State = r106 ->
 ∀ r110, cmp_Compare_int a_.Kind b_.Kind = r110 ->
 ∀ r118, cmp_Or_int [r106, r110] = r118 ->
 Q r118
def VC51_J2 (Q : Int -> Prop) (v114 : Bool) : Prop :=
 (v114 = true ->
 Q 32) /\
 (v114 = false ->
 Q 0)
def VC51_J1 (o_ : Api_Object) (i_ : Int) (Q : Int -> Prop) (v104 : Bool) : Prop :=
 (v104 = true ->
 Q 30) /\
 (v104 = false ->
 ∀ r109, object_within ((gi o_.Rows i_).Kind) o_.Kinds = r109 ->
 ((!r109) = true ->
 Q 31) /\
 ((!r109) = false ->
 ∀ r113, object_within ((gi o_.Rows i_).Result) 1000001 = r113 ->
 ((!r113) = true ->
 Q 7) /\
 ((!r113) = false ->
 ((decide (i_ > 0)) = true ->
 ((0 : Int) ≤ (IntKind.i64.wrap (i_ - 1)) /\ (IntKind.i64.wrap (i_ - 1)) < (o_.Rows.length : Int)) /\
 ∀ r123, object_place (gi o_.Rows (IntKind.i64.wrap (i_ - 1))) (gi o_.Rows i_) = r123 ->
 VC51_J2 Q (decide (r123 ≥ 0))) /\
 ((decide (i_ > 0)) = false ->
 VC51_J2 Q false))))
def VC51 (o_ : Api_Object) (i_ : Int) (Q : Int -> Prop) : Prop :=
 sm o_.Rows ->
 ((0 : Int) ≤ i_ /\ i_ < (o_.Rows.length : Int)) /\
 ∀ r129, object_within ((gi o_.Rows i_).State) o_.States = r129 ->
 ((!r129) = true ->
 VC51_J1 o_ i_ Q true) /\
 ((!r129) = false ->
 ∀ r133, object_within ((gi o_.Rows i_).Next) o_.States = r133 ->
 VC51_J1 o_ i_ Q (!r133))
def VC38_J2 (o_ : Api_Object) (Q : (Int × Int) -> Prop) : Prop :=
 Q ((o_.Rows.length : Int), 0)
def VC38_J1 (o_ : Api_Object) (Q : (Int × Int) -> Prop) (v101 : Bool) : Prop :=
 (v101 = true ->
 Q ((-1), 2)) /\
 (v101 = false ->
 ∃ (I1 : Int -> Prop) (μ1 : Int -> Nat), I1 0 /\ ∀ (v104 : Int), I1 v104 ->
 ((decide (v104 < (o_.Rows.length : Int))) = true ->
 (preRow o_ v104) /\
 ∀ r109, object_row o_ v104 = r109 ->
 ((r109 != 0) = true ->
 Q (v104, r109)) /\
 ((r109 != 0) = false ->
 I1 (IntKind.i64.wrap (v104 + 1)) /\ μ1 (IntKind.i64.wrap (v104 + 1)) < μ1 v104)) /\
 ((decide (v104 < (o_.Rows.length : Int))) = false ->
 VC38_J2 o_ Q))
def VC38 (o_ : Api_Object) (Q : Int × Int -> Prop) : Prop :=
 sm o_.Rows ->
 ∀ r117, object_within (IntKind.i64.wrap (o_.States - 1)) 32 = r117 ->
 ((!r117) = true ->
 VC38_J1 o_ Q true) /\
 ((!r117) = false ->
 ∀ r121, object_within (IntKind.i64.wrap (o_.Kinds - 1)) 64 = r121 ->
 ((!r121) = true ->
 VC38_J1 o_ Q true) /\
 ((!r121) = false ->
 ∀ r125, object_within o_.Init o_.States = r125 ->
 VC38_J1 o_ Q (!r125)))
def VC88 (o_ : Api_Object) (state : Int) (Q : Int -> Prop) : Prop :=
 sm o_.Rows ->
 (preO o_) /\
 ∀ r104, object_Check o_ = r104 ->
 ((r104.2 != 0) = true ->
 Q 2) /\
 ((r104.2 != 0) = false ->
 (((decide (state < 0)) || (decide (state ≥ o_.States))) = true ->
 Q 30) /\
 (((decide (state < 0)) || (decide (state ≥ o_.States))) = false ->
 Q 0))
def VC89 (o_ : Api_Object) (l_ : List Api_Oper) (state : Int) (Q : (List Api_Oper) × (List (Int × Int)) × Api_Object × Int -> Prop) : Prop :=
 sm o_.Rows ->
 ∀ (_ : sm l_),
 Q (l_, ([] : List (Int × Int)), o_, state)
def VC77 (r_ : Api_Row) (cap1 : Int) (cap2 : Int) (Q : Bool -> Prop) : Prop :=
 Q (r_.State == cap1 && (r_.Kind == cap2 && (r_.Next == r_.Next && (r_.Result == r_.Result && true))))
def VC78_77_J1 (Q : Int -> Prop) : Prop :=
 Q (-1)
def VC78_77 (s_ : List Api_Row) (cap1 : Int) (cap2 : Int) (Q : Int -> Prop) : Prop :=
 sm s_ ->
 ∃ (I1 : Int -> Prop) (μ1 : Int -> Nat), I1 0 /\ ∀ (v102 : Int), I1 v102 ->
 ((decide (v102 < (s_.length : Int))) = true ->
 ((0 : Int) ≤ v102 /\ v102 < (s_.length : Int)) /\
 ∀ r109, object_Move_1 (gi s_ v102) cap1 cap2 = r109 ->
 (r109 = true ->
 Q v102) /\
 (r109 = false ->
 I1 (IntKind.i64.wrap (v102 + 1)) /\ μ1 (IntKind.i64.wrap (v102 + 1)) < μ1 v102)) /\
 ((decide (v102 < (s_.length : Int))) = false ->
 VC78_77_J1 Q)
def VC67 (o_ : Api_Object) (state : Int) (kind : Int) (Q : Int × Int × Bool -> Prop) : Prop :=
 sm o_.Rows ->
 ∀ r104, slices_IndexFunc_api_Row_api_Row_object_Move_1 o_.Rows state kind = r104 ->
 ((decide (r104 < 0)) = true ->
 Q (0, 0, false)) /\
 ((decide (r104 < 0)) = false ->
 ((0 : Int) ≤ r104 /\ r104 < (o_.Rows.length : Int)) /\
 ((0 : Int) ≤ r104 /\ r104 < (o_.Rows.length : Int)) /\
 Q ((gi o_.Rows r104).Next, (gi o_.Rows r104).Result, true))
def VC94 (t_ : Run_table) (state : Int) (kind : Int) (Q : Int × Int × Bool -> Prop) : Prop :=
 sm t_.o.Rows ->
 ∀ r104, object_Move t_.o state kind = r104 ->
 Q (r104.1, r104.2.1, r104.2.2)
def VC92 (o_ : Api_Object) (state : Int) (kind : Int) (result : Int) (Q : Int × Int -> Prop) : Prop :=
 sm o_.Rows ->
 (((decide (state < 0)) || (decide (state ≥ o_.States))) = true ->
 Q (0, 30)) /\
 (((decide (state < 0)) || (decide (state ≥ o_.States))) = false ->
 ∀ r104, run_table_move (⟨o_⟩ : Run_table) state kind = r104 ->
 (((!r104.2.2) || (r104.2.1 != result)) = true ->
 Q (0, 40)) /\
 (((!r104.2.2) || (r104.2.1 != result)) = false ->
 Q (r104.1, 0)))
def VC91_J1 (p_ : Api_Pick) (cap2 : List (Int × Int)) (cap4 : Int) (Q : (Int × Int × (List (Int × Int)) × Int) -> Prop) (r111 : Int × Int) (v112 : Int) : Prop :=
 ((v112 != 0) = true ->
 Q (0, v112, mput cap2 p_.Oper (IntKind.i64.wrap (((mget cap2 p_.Oper).getD 0) + 1)), cap4)) /\
 ((v112 != 0) = false ->
 Q (r111.1, 0, mput cap2 p_.Oper (IntKind.i64.wrap (((mget cap2 p_.Oper).getD 0) + 1)), r111.1))
def VC91 (p_ : Api_Pick) (cap1 : List Api_Oper) (cap2 : List (Int × Int)) (cap3 : Api_Object) (cap4 : Int) (Q : Int × Int × (List (Int × Int)) × Int -> Prop) : Prop :=
 sm cap1 ->
 ∀ (_ : sm cap3.Rows),
 (((decide (p_.Oper < 0)) || (decide (p_.Oper ≥ (cap1.length : Int)))) = true ->
 Q (0, 2, cap2, cap4)) /\
 (((decide (p_.Oper < 0)) || (decide (p_.Oper ≥ (cap1.length : Int)))) = false ->
 ((decide (((mget cap2 p_.Oper).getD 0) > 0)) = true ->
 Q (0, 21, cap2, cap4)) /\
 ((decide (((mget cap2 p_.Oper).getD 0) > 0)) = false ->
 ((0 : Int) ≤ p_.Oper /\ p_.Oper < (cap1.length : Int)) /\
 ∀ r111, run_Step cap3 cap4 ((gi cap1 p_.Oper).Kind) p_.Result = r111 ->
 ((((r111.2 == 0) && (((gi cap1 p_.Oper).End) != (-1))) && (((gi cap1 p_.Oper).Result) != p_.Result)) = true ->
 VC91_J1 p_ cap2 cap4 Q r111 40) /\
 ((((r111.2 == 0) && (((gi cap1 p_.Oper).End) != (-1))) && (((gi cap1 p_.Oper).Result) != p_.Result)) = false ->
 VC91_J1 p_ cap2 cap4 Q r111 r111.2)))
def VC86_J1 (picks : List Api_Pick) (Q : (Int × Int × Int) -> Prop) (v126 : Int) : Prop :=
 Q (v126, (picks.length : Int), 0)
def VC86 (o_ : Api_Object) (l_ : List Api_Oper) (state : Int) (picks : List Api_Pick) (Q : Int × Int × Int -> Prop) : Prop :=
 sm o_.Rows ->
 ∀ (_ : sm l_),
 sm picks ->
 (preO1 o_ state) /\
 ∀ r104, run_may o_ state = r104 ->
 ((r104 != 0) = true ->
 Q (0, (-1), r104)) /\
 ((r104 != 0) = false ->
 ∀ r108, run_runner o_ l_ state = r108 ->
 sm r108.1 ->
 ∀ (_ : sm r108.2.2.1.Rows),
 ∃ (I1 : Int -> Int -> (List (Int × Int)) -> Int -> Prop) (μ1 : Int -> Int -> (List (Int × Int)) -> Int -> Nat), I1 state 0 r108.2.1 r108.2.2.2 /\ ∀ (v128 : Int) (v130 : Int) (v132 : List (Int × Int)) (v135 : Int), I1 v128 v130 v132 v135 ->
 ((decide (v130 < (picks.length : Int))) = true ->
 ((0 : Int) ≤ v130 /\ v130 < (picks.length : Int)) /\
 ∀ r142, run_runner_1 (gi picks v130) r108.1 v132 r108.2.2.1 v135 = r142 ->
 ((r142.2.1 != 0) = true ->
 Q (0, v130, r142.2.1)) /\
 ((r142.2.1 != 0) = false ->
 I1 r142.1 (IntKind.i64.wrap (v130 + 1)) r142.2.2.1 r142.2.2.2 /\ μ1 r142.1 (IntKind.i64.wrap (v130 + 1)) r142.2.2.1 r142.2.2.2 < μ1 v128 v130 v132 v135)) /\
 ((decide (v130 < (picks.length : Int))) = false ->
 VC86_J1 picks Q v128))
def VC80 (o_ : Api_Object) (l_ : List Api_Oper) (picks : List Api_Pick) (Q : Int × Int × Int -> Prop) : Prop :=
 sm o_.Rows ->
 ∀ (_ : sm l_),
 sm picks ->
 (preO3 o_ l_ o_.Init picks) /\
 ∀ r104, run_From o_ l_ o_.Init picks = r104 ->
 Q (r104.1, r104.2.1, r104.2.2)
def VC90_J1 (Q : ((List (Int × Int))) -> Prop) (v105 : List (Int × Int)) : Prop :=
 Q v105
def VC90 (picks : List Api_Pick) (Q : (List (Int × Int)) -> Prop) : Prop :=
 sm picks ->
 ∃ (I1 : Int -> (List (Int × Int)) -> Prop) (μ1 : Int -> (List (Int × Int)) -> Nat), I1 0 ([] : List (Int × Int)) /\ ∀ (v108 : Int) (v109 : List (Int × Int)), I1 v108 v109 ->
 ((decide (v108 < (picks.length : Int))) = true ->
 ((0 : Int) ≤ v108 /\ v108 < (picks.length : Int)) /\
 I1 (IntKind.i64.wrap (v108 + 1)) (mput v109 ((gi picks v108).Oper) (IntKind.i64.wrap (((mget v109 ((gi picks v108).Oper)).getD 0) + 1))) /\ μ1 (IntKind.i64.wrap (v108 + 1)) (mput v109 ((gi picks v108).Oper) (IntKind.i64.wrap (((mget v109 ((gi picks v108).Oper)).getD 0) + 1))) < μ1 v108 v109) /\
 ((decide (v108 < (picks.length : Int))) = false ->
 VC90_J1 Q v109)
def VC93 (i_ : Int) (cap1 : List (Int × Int)) (Q : Bool -> Prop) : Prop :=
 Q (((mget cap1 i_).getD 0) == 0)
def VC87_J1 (Q : ((List Int)) -> Prop) (v109 : List Int) : Prop :=
 Q v109
def VC87_J2 (I1 : (List Int) -> Int -> Prop) (μ1 : (List Int) -> Int -> Nat) (v115 : List Int) (v120 : Int) (v122 : List Int) : Prop :=
 I1 v122 (IntKind.i64.wrap (v120 + 1)) /\ μ1 v122 (IntKind.i64.wrap (v120 + 1)) < μ1 v115 v120
def VC87_J3 (I1 : (List Int) -> Int -> Prop) (μ1 : (List Int) -> Int -> Nat) (v115 : List Int) (v120 : Int) (v131 : List Int) (v136 : Bool) : Prop :=
 (v136 = true ->
 (v131.length + [v120].length ≤ 1099511627776) /\
 VC87_J2 I1 μ1 v115 v120 (v131 ++ [v120])) /\
 (v136 = false ->
 VC87_J2 I1 μ1 v115 v120 v131)
def VC87 (l_ : List Api_Oper) (picks : List Api_Pick) (pending : Bool) (Q : (List Int) -> Prop) : Prop :=
 sm l_ ->
 ∀ (_ : sm picks),
 ∀ r104, witness_absent picks = r104 ->
 ∃ (I1 : (List Int) -> Int -> Prop) (μ1 : (List Int) -> Int -> Nat), I1 [] 0 /\ ∀ (v115 : List Int) (v120 : Int), I1 v115 v120 ->
 ((decide (v120 < (l_.length : Int))) = true ->
 ((0 : Int) ≤ v120 /\ v120 < (l_.length : Int)) /\
 (((((gi l_ v120).End) == (-1)) == pending) = true ->
 ∀ r150, witness_absent_1 v120 r104 = r150 ->
 VC87_J3 I1 μ1 v115 v120 v115 r150) /\
 (((((gi l_ v120).End) == (-1)) == pending) = false ->
 VC87_J3 I1 μ1 v115 v120 v115 false)) /\
 ((decide (v120 < (l_.length : Int))) = false ->
 VC87_J1 Q v115)
def VC82 (l_ : List Api_Oper) (picks : List Api_Pick) (Q : (List Int) -> Prop) : Prop :=
 sm l_ ->
 ∀ (_ : sm picks),
 (preT3 l_ picks false) /\
 ∀ r104, witness_those l_ picks false = r104 ->
 sm r104 ->
 Q r104
def VC76 (a_ : Api_Oper) (b_ : Api_Oper) (Q : Bool -> Prop) : Prop :=
 Q ((decide (a_.End ≥ 0)) && (decide (a_.End < b_.Start)))
def VC81_J1 (Q : Int -> Prop) : Prop :=
 Q (-1)
def VC81_J2 (I1 : (List (Int × Int)) -> Int -> Prop) (μ1 : (List (Int × Int)) -> Int -> Nat) (v106 : List (Int × Int)) (v109 : Int) (v111 : List (Int × Int)) : Prop :=
 I1 v111 (IntKind.i64.wrap (v109 + 1)) /\ μ1 v111 (IntKind.i64.wrap (v109 + 1)) < μ1 v106 v109
def VC81_J3 (picks : List Api_Pick) (I1 : (List (Int × Int)) -> Int -> Prop) (μ1 : (List (Int × Int)) -> Int -> Nat) (v106 : List (Int × Int)) (v109 : Int) : Prop :=
 VC81_J2 I1 μ1 v106 v109 (mput v106 ((gi picks v109).Oper) (IntKind.i64.wrap (((mget v106 ((gi picks v109).Oper)).getD 0) + 1)))
def VC81_J4 (Q : Int -> Prop) (v109 : Int) (I2 : Int -> Prop) (μ2 : Int -> Nat) (v127 : Int) (v135 : Bool) : Prop :=
 (v135 = true ->
 Q v109) /\
 (v135 = false ->
 I2 (IntKind.i64.wrap (v127 + 1)) /\ μ2 (IntKind.i64.wrap (v127 + 1)) < μ2 v127)
def VC81 (l_ : List Api_Oper) (picks : List Api_Pick) (Q : Int -> Prop) : Prop :=
 sm l_ ->
 ∀ (_ : sm picks),
 ∃ (I1 : (List (Int × Int)) -> Int -> Prop) (μ1 : (List (Int × Int)) -> Int -> Nat), I1 ([] : List (Int × Int)) 0 /\ ∀ (v106 : List (Int × Int)) (v109 : Int), I1 v106 v109 ->
 ((decide (v109 < (picks.length : Int))) = true ->
 ((0 : Int) ≤ v109 /\ v109 < (picks.length : Int)) /\
 (((decide (((gi picks v109).Oper) < 0)) || (decide (((gi picks v109).Oper) ≥ (l_.length : Int)))) = true ->
 VC81_J2 I1 μ1 v106 v109 v106) /\
 (((decide (((gi picks v109).Oper) < 0)) || (decide (((gi picks v109).Oper) ≥ (l_.length : Int)))) = false ->
 ∃ (I2 : Int -> Prop) (μ2 : Int -> Nat), I2 0 /\ ∀ (v127 : Int), I2 v127 ->
 ((decide (v127 < (l_.length : Int))) = true ->
 ((0 : Int) ≤ v127 /\ v127 < (l_.length : Int)) /\
 ((0 : Int) ≤ ((gi picks v109).Oper) /\ ((gi picks v109).Oper) < (l_.length : Int)) /\
 ∀ r144, oper_Ahead (gi l_ v127) (gi l_ ((gi picks v109).Oper)) = r144 ->
 (r144 = true ->
 VC81_J4 Q v109 I2 μ2 v127 (((mget v106 v127).getD 0) == 0)) /\
 (r144 = false ->
 VC81_J4 Q v109 I2 μ2 v127 false)) /\
 ((decide (v127 < (l_.length : Int))) = false ->
 VC81_J3 picks I1 μ1 v106 v109))) /\
 ((decide (v109 < (picks.length : Int))) = false ->
 VC81_J1 Q)
def VC84 (o_ : Api_Oper) (Q : Bool -> Prop) : Prop :=
 ((o_.End == (-1)) = true ->
 Q (o_.Result == (-1))) /\
 ((o_.End == (-1)) = false ->
 Q ((((decide (o_.End > o_.Start)) && (decide (o_.End ≤ 9999))) && (decide (o_.Result ≥ 0))) && (decide (o_.Result ≤ 1000000))))
def VC75 (o_ : Api_Oper) (Q : Int -> Prop) : Prop :=
 (((((decide (o_.Prc < 1)) || (decide (o_.Prc > 1000))) || (decide (o_.Start < 0))) || (decide (o_.Start > 9999))) = true ->
 Q 2) /\
 (((((decide (o_.Prc < 1)) || (decide (o_.Prc > 1000))) || (decide (o_.Start < 0))) || (decide (o_.Start > 9999))) = false ->
 (((decide (o_.Kind < 0)) || (decide (o_.Kind ≥ 64))) = true ->
 Q 31) /\
 (((decide (o_.Kind < 0)) || (decide (o_.Kind ≥ 64))) = false ->
 ∀ r104, oper_ended o_ = r104 ->
 ((!r104) = true ->
 Q 7) /\
 ((!r104) = false ->
 Q 0)))
def VC63_J1 (l_ : List Api_Oper) (Q : (Int × Int) -> Prop) : Prop :=
 Q ((l_.length : Int), 0)
def VC63_J2 (l_ : List Api_Oper) (I1 : (List (Int × Int)) -> (List (Int × Api_Oper)) -> Int -> Prop) (μ1 : (List (Int × Int)) -> (List (Int × Api_Oper)) -> Int -> Nat) (v111 : List (Int × Int)) (v113 : List (Int × Api_Oper)) (v116 : Int) (v118 : List (Int × Int)) : Prop :=
 I1 v118 (mput v113 ((gi l_ v116).Prc) (gi l_ v116)) (IntKind.i64.wrap (v116 + 1)) /\ μ1 v118 (mput v113 ((gi l_ v116).Prc) (gi l_ v116)) (IntKind.i64.wrap (v116 + 1)) < μ1 v111 v113 v116
def VC63_J4 (l_ : List Api_Oper) (Q : (Int × Int) -> Prop) (I1 : (List (Int × Int)) -> (List (Int × Api_Oper)) -> Int -> Prop) (μ1 : (List (Int × Int)) -> (List (Int × Api_Oper)) -> Int -> Nat) (v111 : List (Int × Int)) (v113 : List (Int × Api_Oper)) (v116 : Int) (v139 : Bool) : Prop :=
 (v139 = true ->
 Q (v116, 33)) /\
 (v139 = false ->
 ((decide (((gi l_ v116).End) ≥ 0)) = true ->
 VC63_J2 l_ I1 μ1 v111 v113 v116 (mput (mput v111 ((gi l_ v116).Start) (IntKind.i64.wrap (((mget v111 ((gi l_ v116).Start)).getD 0) + 1))) ((gi l_ v116).End) (IntKind.i64.wrap (((mget (mput v111 ((gi l_ v116).Start) (IntKind.i64.wrap (((mget v111 ((gi l_ v116).Start)).getD 0) + 1))) ((gi l_ v116).End)).getD 0) + 1)))) /\
 ((decide (((gi l_ v116).End) ≥ 0)) = false ->
 VC63_J2 l_ I1 μ1 v111 v113 v116 (mput v111 ((gi l_ v116).Start) (IntKind.i64.wrap (((mget v111 ((gi l_ v116).Start)).getD 0) + 1)))))
def VC63_J3 (l_ : List Api_Oper) (Q : (Int × Int) -> Prop) (I1 : (List (Int × Int)) -> (List (Int × Api_Oper)) -> Int -> Prop) (μ1 : (List (Int × Int)) -> (List (Int × Api_Oper)) -> Int -> Nat) (v111 : List (Int × Int)) (v113 : List (Int × Api_Oper)) (v116 : Int) (v133 : Bool) : Prop :=
 (v133 = true ->
 Q (v116, 32)) /\
 (v133 = false ->
 (((mget v113 ((gi l_ v116).Prc)).isSome) = true ->
 ∀ r151, oper_Ahead ((mget v113 ((gi l_ v116).Prc)).getD (⟨0, 0, 0, 0, 0⟩ : Api_Oper)) (gi l_ v116) = r151 ->
 VC63_J4 l_ Q I1 μ1 v111 v113 v116 (!r151)) /\
 (((mget v113 ((gi l_ v116).Prc)).isSome) = false ->
 VC63_J4 l_ Q I1 μ1 v111 v113 v116 false))
def VC63 (l_ : List Api_Oper) (Q : Int × Int -> Prop) : Prop :=
 sm l_ ->
 ((decide ((l_.length : Int) > 5000)) = true ->
 Q (0, 3)) /\
 ((decide ((l_.length : Int) > 5000)) = false ->
 ∃ (I1 : (List (Int × Int)) -> (List (Int × Api_Oper)) -> Int -> Prop) (μ1 : (List (Int × Int)) -> (List (Int × Api_Oper)) -> Int -> Nat), I1 ([] : List (Int × Int)) ([] : List (Int × Api_Oper)) 0 /\ ∀ (v111 : List (Int × Int)) (v113 : List (Int × Api_Oper)) (v116 : Int), I1 v111 v113 v116 ->
 ((decide (v116 < (l_.length : Int))) = true ->
 ((0 : Int) ≤ v116 /\ v116 < (l_.length : Int)) /\
 ∀ r128, oper_alone (gi l_ v116) = r128 ->
 ((r128 != 0) = true ->
 Q (v116, r128)) /\
 ((r128 != 0) = false ->
 ((decide (v116 > 0)) = true ->
 ((0 : Int) ≤ (IntKind.i64.wrap (v116 - 1)) /\ (IntKind.i64.wrap (v116 - 1)) < (l_.length : Int)) /\
 ((decide (((gi l_ v116).Start) ≤ ((gi l_ (IntKind.i64.wrap (v116 - 1))).Start))) = true ->
 VC63_J3 l_ Q I1 μ1 v111 v113 v116 true) /\
 ((decide (((gi l_ v116).Start) ≤ ((gi l_ (IntKind.i64.wrap (v116 - 1))).Start))) = false ->
 ((decide (((mget v111 ((gi l_ v116).Start)).getD 0) > 0)) = true ->
 VC63_J3 l_ Q I1 μ1 v111 v113 v116 true) /\
 ((decide (((mget v111 ((gi l_ v116).Start)).getD 0) > 0)) = false ->
 ((decide (((gi l_ v116).End) ≥ 0)) = true ->
 VC63_J3 l_ Q I1 μ1 v111 v113 v116 (decide (((mget v111 ((gi l_ v116).End)).getD 0) > 0))) /\
 ((decide (((gi l_ v116).End) ≥ 0)) = false ->
 VC63_J3 l_ Q I1 μ1 v111 v113 v116 false)))) /\
 ((decide (v116 > 0)) = false ->
 ((decide (((mget v111 ((gi l_ v116).Start)).getD 0) > 0)) = true ->
 VC63_J3 l_ Q I1 μ1 v111 v113 v116 true) /\
 ((decide (((mget v111 ((gi l_ v116).Start)).getD 0) > 0)) = false ->
 ((decide (((gi l_ v116).End) ≥ 0)) = true ->
 VC63_J3 l_ Q I1 μ1 v111 v113 v116 (decide (((mget v111 ((gi l_ v116).End)).getD 0) > 0))) /\
 ((decide (((gi l_ v116).End) ≥ 0)) = false ->
 VC63_J3 l_ Q I1 μ1 v111 v113 v116 false))))) /\
 ((decide (v116 < (l_.length : Int))) = false ->
 VC63_J1 l_ Q))
def VC70 (o_ : Api_Object) (l_ : List Api_Oper) (picks : List Api_Pick) (Q : Int × Int -> Prop) : Prop :=
 sm o_.Rows ->
 ∀ (_ : sm l_),
 sm picks ->
 (preO o_) /\
 ∀ r104, object_Check o_ = r104 ->
 ∀ r108, oper_Check l_ = r108 ->
 (((r104.2 != 0) || (r108.2 != 0)) = true ->
 Q ((-1), 2)) /\
 (((r104.2 != 0) || (r108.2 != 0)) = false ->
 (preO2 o_ l_ picks) /\
 ∀ r112, run_Picks o_ l_ picks = r112 ->
 ((r112.2.2 != 0) = true ->
 Q (r112.2.1, r112.2.2)) /\
 ((r112.2.2 != 0) = false ->
 ∀ r116, witness_Order l_ picks = r116 ->
 ((decide (r116 ≥ 0)) = true ->
 Q (r116, 42)) /\
 ((decide (r116 ≥ 0)) = false ->
 (preT2 l_ picks) /\
 ∀ r120, witness_Missing l_ picks = r120 ->
 sm r120 ->
 ((decide ((r120.length : Int) > 0)) = true ->
 ((0 : Int) ≤ 0 /\ 0 < (r120.length : Int)) /\
 Q (gi r120 0, 41)) /\
 ((decide ((r120.length : Int) > 0)) = false ->
 Q ((picks.length : Int), 0)))))
def VC55 (o_ : Api_Object) (l_ : List Api_Oper) (picks : List Api_Pick) (Q : Bool -> Prop) : Prop :=
 sm o_.Rows ->
 ∀ (_ : sm l_),
 sm picks ->
 (preO2 o_ l_ picks) /\
 ∀ r104, witness_Check o_ l_ picks = r104 ->
 Q (r104.2 == 0)
def VC61_J1 (Q : Int -> Prop) : Prop :=
 Q (-1)
def VC61 (picks : List Api_Pick) (i_ : Int) (Q : Int -> Prop) : Prop :=
 sm picks ->
 ∃ (I1 : Int -> Prop) (μ1 : Int -> Nat), I1 0 /\ ∀ (v102 : Int), I1 v102 ->
 ((decide (v102 < (picks.length : Int))) = true ->
 ((0 : Int) ≤ v102 /\ v102 < (picks.length : Int)) /\
 ((((gi picks v102).Oper) == i_) = true ->
 Q v102) /\
 ((((gi picks v102).Oper) == i_) = false ->
 I1 (IntKind.i64.wrap (v102 + 1)) /\ μ1 (IntKind.i64.wrap (v102 + 1)) < μ1 v102)) /\
 ((decide (v102 < (picks.length : Int))) = false ->
 VC61_J1 Q)
def VC60_J1 (Q : (Int × Int × Bool) -> Prop) : Prop :=
 Q (0, 0, false)
def VC60_J2 (o_ : Api_Object) (Q : (Int × Int × Bool) -> Prop) (I1 : Int -> Prop) (μ1 : Int -> Nat) (v101 : Int) (v103 : Bool) : Prop :=
 (v103 = true ->
 ((0 : Int) ≤ v101 /\ v101 < (o_.Rows.length : Int)) /\
 ((0 : Int) ≤ v101 /\ v101 < (o_.Rows.length : Int)) /\
 Q ((gi o_.Rows v101).Next, (gi o_.Rows v101).Result, true)) /\
 (v103 = false ->
 I1 (IntKind.i64.wrap (v101 + 1)) /\ μ1 (IntKind.i64.wrap (v101 + 1)) < μ1 v101)
def VC60 (o_ : Api_Object) (state : Int) (kind : Int) (Q : Int × Int × Bool -> Prop) : Prop :=
 sm o_.Rows ->
 ∃ (I1 : Int -> Prop) (μ1 : Int -> Nat), I1 0 /\ ∀ (v101 : Int), I1 v101 ->
 ((decide (v101 < (o_.Rows.length : Int))) = true ->
 ((0 : Int) ≤ v101 /\ v101 < (o_.Rows.length : Int)) /\
 ((((gi o_.Rows v101).State) == state) = true ->
 ((0 : Int) ≤ v101 /\ v101 < (o_.Rows.length : Int)) /\
 VC60_J2 o_ Q I1 μ1 v101 (((gi o_.Rows v101).Kind) == kind)) /\
 ((((gi o_.Rows v101).State) == state) = false ->
 VC60_J2 o_ Q I1 μ1 v101 false)) /\
 ((decide (v101 < (o_.Rows.length : Int))) = false ->
 VC60_J1 Q)
def VC72 (o_ : Api_Object) (state : Int) (kind : Int) (result : Int) (Q : Int × Int -> Prop) : Prop :=
 sm o_.Rows ->
 (((decide (state < 0)) || (decide (state ≥ o_.States))) = true ->
 Q (0, 30)) /\
 (((decide (state < 0)) || (decide (state ≥ o_.States))) = false ->
 ∀ r104, ref23_Move o_ state kind = r104 ->
 (((!r104.2.2) || (r104.2.1 != result)) = true ->
 Q (0, 40)) /\
 (((!r104.2.2) || (r104.2.1 != result)) = false ->
 Q (r104.1, 0)))
def VC41_J1 (o_ : Api_Object) (Q : (Int × Int) -> Prop) : Prop :=
 Q ((o_.Rows.length : Int), 0)
def VC41_J2 (Q : (Int × Int) -> Prop) (I1 : Int -> Prop) (μ1 : Int -> Nat) (v102 : Int) (v107 : Bool) : Prop :=
 (v107 = true ->
 Q (v102, 32)) /\
 (v107 = false ->
 I1 (IntKind.i64.wrap (v102 + 1)) /\ μ1 (IntKind.i64.wrap (v102 + 1)) < μ1 v102)
def VC41 (o_ : Api_Object) (Q : Int × Int -> Prop) : Prop :=
 sm o_.Rows ->
 (((((((decide (o_.States < 1)) || (decide (o_.States > 32))) || (decide (o_.Kinds < 1))) || (decide (o_.Kinds > 64))) || (decide (o_.Init < 0))) || (decide (o_.Init ≥ o_.States))) = true ->
 Q ((-1), 2)) /\
 (((((((decide (o_.States < 1)) || (decide (o_.States > 32))) || (decide (o_.Kinds < 1))) || (decide (o_.Kinds > 64))) || (decide (o_.Init < 0))) || (decide (o_.Init ≥ o_.States))) = false ->
 ∃ (I1 : Int -> Prop) (μ1 : Int -> Nat), I1 0 /\ ∀ (v102 : Int), I1 v102 ->
 ((decide (v102 < (o_.Rows.length : Int))) = true ->
 ((0 : Int) ≤ v102 /\ v102 < (o_.Rows.length : Int)) /\
 (((((decide (((gi o_.Rows v102).State) < 0)) || (decide (((gi o_.Rows v102).State) ≥ o_.States))) || (decide (((gi o_.Rows v102).Next) < 0))) || (decide (((gi o_.Rows v102).Next) ≥ o_.States))) = true ->
 Q (v102, 30)) /\
 (((((decide (((gi o_.Rows v102).State) < 0)) || (decide (((gi o_.Rows v102).State) ≥ o_.States))) || (decide (((gi o_.Rows v102).Next) < 0))) || (decide (((gi o_.Rows v102).Next) ≥ o_.States))) = false ->
 (((decide (((gi o_.Rows v102).Kind) < 0)) || (decide (((gi o_.Rows v102).Kind) ≥ o_.Kinds))) = true ->
 Q (v102, 31)) /\
 (((decide (((gi o_.Rows v102).Kind) < 0)) || (decide (((gi o_.Rows v102).Kind) ≥ o_.Kinds))) = false ->
 (((decide (((gi o_.Rows v102).Result) < 0)) || (decide (((gi o_.Rows v102).Result) > 1000000))) = true ->
 Q (v102, 7)) /\
 (((decide (((gi o_.Rows v102).Result) < 0)) || (decide (((gi o_.Rows v102).Result) > 1000000))) = false ->
 ((decide (v102 > 0)) = true ->
 ((0 : Int) ≤ (IntKind.i64.wrap (v102 - 1)) /\ (IntKind.i64.wrap (v102 - 1)) < (o_.Rows.length : Int)) /\
 ((decide (((gi o_.Rows (IntKind.i64.wrap (v102 - 1))).State) > ((gi o_.Rows v102).State))) = true ->
 VC41_J2 Q I1 μ1 v102 true) /\
 ((decide (((gi o_.Rows (IntKind.i64.wrap (v102 - 1))).State) > ((gi o_.Rows v102).State))) = false ->
 ((0 : Int) ≤ (IntKind.i64.wrap (v102 - 1)) /\ (IntKind.i64.wrap (v102 - 1)) < (o_.Rows.length : Int)) /\
 ((((gi o_.Rows (IntKind.i64.wrap (v102 - 1))).State) == ((gi o_.Rows v102).State)) = true ->
 ((0 : Int) ≤ (IntKind.i64.wrap (v102 - 1)) /\ (IntKind.i64.wrap (v102 - 1)) < (o_.Rows.length : Int)) /\
 VC41_J2 Q I1 μ1 v102 (decide (((gi o_.Rows (IntKind.i64.wrap (v102 - 1))).Kind) ≥ ((gi o_.Rows v102).Kind)))) /\
 ((((gi o_.Rows (IntKind.i64.wrap (v102 - 1))).State) == ((gi o_.Rows v102).State)) = false ->
 VC41_J2 Q I1 μ1 v102 false))) /\
 ((decide (v102 > 0)) = false ->
 VC41_J2 Q I1 μ1 v102 false))))) /\
 ((decide (v102 < (o_.Rows.length : Int))) = false ->
 VC41_J1 o_ Q))
def VC59_J1 (picks : List Api_Pick) (Q : (Int × Int × Int) -> Prop) (v105 : Int) : Prop :=
 Q (v105, (picks.length : Int), 0)
def VC59_J3 (Q : (Int × Int × Int) -> Prop) (I1 : Int -> Int -> Prop) (μ1 : Int -> Int -> Nat) (v108 : Int) (v110 : Int) (r128 : Int × Int) (v131 : Bool) : Prop :=
 (v131 = true ->
 Q (0, v110, 40)) /\
 (v131 = false ->
 I1 r128.1 (IntKind.i64.wrap (v110 + 1)) /\ μ1 r128.1 (IntKind.i64.wrap (v110 + 1)) < μ1 v108 v110)
def VC59_J2 (o_ : Api_Object) (l_ : List Api_Oper) (picks : List Api_Pick) (Q : (Int × Int × Int) -> Prop) (I1 : Int -> Int -> Prop) (μ1 : Int -> Int -> Nat) (v108 : Int) (v110 : Int) : Prop :=
 ((0 : Int) ≤ ((gi picks v110).Oper) /\ ((gi picks v110).Oper) < (l_.length : Int)) /\
 ∀ r128, ref28_Step o_ v108 ((gi l_ ((gi picks v110).Oper)).Kind) ((gi picks v110).Result) = r128 ->
 ((r128.2 != 0) = true ->
 Q (0, v110, r128.2)) /\
 ((r128.2 != 0) = false ->
 ((0 : Int) ≤ ((gi picks v110).Oper) /\ ((gi picks v110).Oper) < (l_.length : Int)) /\
 ((((gi l_ ((gi picks v110).Oper)).End) != (-1)) = true ->
 ((0 : Int) ≤ ((gi picks v110).Oper) /\ ((gi picks v110).Oper) < (l_.length : Int)) /\
 VC59_J3 Q I1 μ1 v108 v110 r128 (((gi l_ ((gi picks v110).Oper)).Result) != ((gi picks v110).Result))) /\
 ((((gi l_ ((gi picks v110).Oper)).End) != (-1)) = false ->
 VC59_J3 Q I1 μ1 v108 v110 r128 false))
def VC59 (o_ : Api_Object) (l_ : List Api_Oper) (state : Int) (picks : List Api_Pick) (Q : Int × Int × Int -> Prop) : Prop :=
 sm o_.Rows ->
 ∀ (_ : sm l_),
 sm picks ->
 ∀ r104, ref23_Check o_ = r104 ->
 ((r104.2 != 0) = true ->
 Q (0, (-1), 2)) /\
 ((r104.2 != 0) = false ->
 (((decide (state < 0)) || (decide (state ≥ o_.States))) = true ->
 Q (0, (-1), 30)) /\
 (((decide (state < 0)) || (decide (state ≥ o_.States))) = false ->
 ∃ (I1 : Int -> Int -> Prop) (μ1 : Int -> Int -> Nat), I1 state 0 /\ ∀ (v108 : Int) (v110 : Int), I1 v108 v110 ->
 ((decide (v110 < (picks.length : Int))) = true ->
 ((0 : Int) ≤ v110 /\ v110 < (picks.length : Int)) /\
 (((decide (((gi picks v110).Oper) < 0)) || (decide (((gi picks v110).Oper) ≥ (l_.length : Int)))) = true ->
 Q (0, v110, 2)) /\
 (((decide (((gi picks v110).Oper) < 0)) || (decide (((gi picks v110).Oper) ≥ (l_.length : Int)))) = false ->
 ∃ (I2 : Int -> Prop) (μ2 : Int -> Nat), I2 0 /\ ∀ (v149 : Int), I2 v149 ->
 ((decide (v149 < v110)) = true ->
 ((0 : Int) ≤ v149 /\ v149 < (picks.length : Int)) /\
 ((((gi picks v149).Oper) == ((gi picks v110).Oper)) = true ->
 Q (0, v110, 21)) /\
 ((((gi picks v149).Oper) == ((gi picks v110).Oper)) = false ->
 I2 (IntKind.i64.wrap (v149 + 1)) /\ μ2 (IntKind.i64.wrap (v149 + 1)) < μ2 v149)) /\
 ((decide (v149 < v110)) = false ->
 VC59_J2 o_ l_ picks Q I1 μ1 v108 v110))) /\
 ((decide (v110 < (picks.length : Int))) = false ->
 VC59_J1 picks Q v108)))
def VC58 (a_ : Api_Oper) (b_ : Api_Oper) (Q : Bool -> Prop) : Prop :=
 Q ((decide (a_.End ≥ 0)) && (decide (b_.Start > a_.End)))
def VC47_J1 (Q : Bool -> Prop) : Prop :=
 Q true
def VC47_J2 (I1 : Int -> Prop) (μ1 : Int -> Nat) (v107 : Int) : Prop :=
 I1 (IntKind.i64.wrap (v107 + 1)) /\ μ1 (IntKind.i64.wrap (v107 + 1)) < μ1 v107
def VC47_J4 (Q : Bool -> Prop) (I2 : Int -> Prop) (μ2 : Int -> Nat) (v115 : Int) (v126 : Bool) : Prop :=
 (v126 = true ->
 Q false) /\
 (v126 = false ->
 I2 (IntKind.i64.wrap (v115 + 1)) /\ μ2 (IntKind.i64.wrap (v115 + 1)) < μ2 v115)
def VC47_J3 (l_ : List Api_Oper) (picks : List Api_Pick) (Q : Bool -> Prop) (I1 : Int -> Prop) (μ1 : Int -> Nat) (v107 : Int) (v112 : Bool) : Prop :=
 (v112 = true ->
 Q false) /\
 (v112 = false ->
 ∃ (I2 : Int -> Prop) (μ2 : Int -> Nat), I2 0 /\ ∀ (v115 : Int), I2 v115 ->
 ((decide (v115 < (l_.length : Int))) = true ->
 ∀ r119, ref29_Place picks v107 = r119 ->
 ∀ r123, ref29_Place picks v115 = r123 ->
 ((0 : Int) ≤ v107 /\ v107 < (l_.length : Int)) /\
 ((0 : Int) ≤ v115 /\ v115 < (l_.length : Int)) /\
 ∀ r138, ref27_Ahead (gi l_ v107) (gi l_ v115) = r138 ->
 ((r138 && (decide (r123 ≥ 0))) = true ->
 VC47_J4 Q I2 μ2 v115 ((decide (r119 < 0)) || (decide (r119 > r123)))) /\
 ((r138 && (decide (r123 ≥ 0))) = false ->
 VC47_J4 Q I2 μ2 v115 false)) /\
 ((decide (v115 < (l_.length : Int))) = false ->
 VC47_J2 I1 μ1 v107))
def VC47 (o_ : Api_Object) (l_ : List Api_Oper) (picks : List Api_Pick) (Q : Bool -> Prop) : Prop :=
 sm o_.Rows ->
 ∀ (_ : sm l_),
 sm picks ->
 ∀ r104, ref28_From o_ l_ o_.Init picks = r104 ->
 ((r104.2.2 != 0) = true ->
 Q false) /\
 ((r104.2.2 != 0) = false ->
 ∃ (I1 : Int -> Prop) (μ1 : Int -> Nat), I1 0 /\ ∀ (v107 : Int), I1 v107 ->
 ((decide (v107 < (l_.length : Int))) = true ->
 ((0 : Int) ≤ v107 /\ v107 < (l_.length : Int)) /\
 ((((gi l_ v107).End) != (-1)) = true ->
 ∀ r151, ref29_Place picks v107 = r151 ->
 VC47_J3 l_ picks Q I1 μ1 v107 (decide (r151 < 0))) /\
 ((((gi l_ v107).End) != (-1)) = false ->
 VC47_J3 l_ picks Q I1 μ1 v107 false)) /\
 ((decide (v107 < (l_.length : Int))) = false ->
 VC47_J1 Q))
def VC46_J1 (Q : ((List Api_Pick) × Int) -> Prop) (v105 : List Api_Pick) : Prop :=
 Q (v105, 0)
def VC46_J2 (o_ : Api_Object) (l_ : List Api_Oper) (order : List Int) (Q : ((List Api_Pick) × Int) -> Prop) (I1 : (List Api_Pick) -> Int -> Int -> Prop) (μ1 : (List Api_Pick) -> Int -> Int -> Nat) (v113 : List Api_Pick) (v117 : Int) (v118 : Int) (v125 : List Api_Pick) (v130 : Int) : Prop :=
 (v125.length + [(⟨gi order v118, v130⟩ : Api_Pick)].length ≤ 1099511627776) /\
 ∀ r143, ref28_From o_ l_ o_.Init (v125 ++ [(⟨gi order v118, v130⟩ : Api_Pick)]) = r143 ->
 ((r143.2.2 != 0) = true ->
 Q ([], r143.2.2)) /\
 ((r143.2.2 != 0) = false ->
 I1 (v125 ++ [(⟨gi order v118, v130⟩ : Api_Pick)]) r143.1 (IntKind.i64.wrap (v118 + 1)) /\ μ1 (v125 ++ [(⟨gi order v118, v130⟩ : Api_Pick)]) r143.1 (IntKind.i64.wrap (v118 + 1)) < μ1 v113 v117 v118)
def VC46_J3 (o_ : Api_Object) (l_ : List Api_Oper) (order : List Int) (Q : ((List Api_Pick) × Int) -> Prop) (I1 : (List Api_Pick) -> Int -> Int -> Prop) (μ1 : (List Api_Pick) -> Int -> Int -> Nat) (v113 : List Api_Pick) (v117 : Int) (v118 : Int) (v146 : List Api_Pick) (v150 : Bool) : Prop :=
 (v150 = true ->
 ((0 : Int) ≤ v118 /\ v118 < (order.length : Int)) /\
 ((0 : Int) ≤ (gi order v118) /\ (gi order v118) < (l_.length : Int)) /\
 ∀ r165, ref23_Move o_ v117 ((gi l_ (gi order v118)).Kind) = r165 ->
 VC46_J2 o_ l_ order Q I1 μ1 v113 v117 v118 v146 r165.2.1) /\
 (v150 = false ->
 VC46_J2 o_ l_ order Q I1 μ1 v113 v117 v118 v146 0)
def VC46 (o_ : Api_Object) (l_ : List Api_Oper) (order : List Int) (Q : (List Api_Pick) × Int -> Prop) : Prop :=
 sm o_.Rows ->
 ∀ (_ : sm l_),
 sm order ->
 ∀ r104, ref28_From o_ l_ o_.Init [] = r104 ->
 ((r104.2.2 != 0) = true ->
 Q ([], r104.2.2)) /\
 ((r104.2.2 != 0) = false ->
 ∃ (I1 : (List Api_Pick) -> Int -> Int -> Prop) (μ1 : (List Api_Pick) -> Int -> Int -> Nat), I1 [] r104.1 0 /\ ∀ (v113 : List Api_Pick) (v117 : Int) (v118 : Int), I1 v113 v117 v118 ->
 ((decide (v118 < (order.length : Int))) = true ->
 ((0 : Int) ≤ v118 /\ v118 < (order.length : Int)) /\
 ((0 : Int) ≤ v118 /\ v118 < (order.length : Int)) /\
 ((decide ((gi order v118) ≥ 0)) = true ->
 ((0 : Int) ≤ v118 /\ v118 < (order.length : Int)) /\
 VC46_J3 o_ l_ order Q I1 μ1 v113 v117 v118 v113 (decide ((gi order v118) < (l_.length : Int)))) /\
 ((decide ((gi order v118) ≥ 0)) = false ->
 VC46_J3 o_ l_ order Q I1 μ1 v113 v117 v118 v113 false)) /\
 ((decide (v118 < (order.length : Int))) = false ->
 VC46_J1 Q v113))
def VC57 (a_ : Api_Oper) (b_ : Api_Oper) (Q : Bool -> Prop) : Prop :=
 Q ((((a_.Start == b_.Start) || (a_.End == b_.Start)) || (a_.Start == b_.End)) || ((a_.End == b_.End) && (a_.End != (-1))))
def VC44_J1 (l_ : List Api_Oper) (Q : (Int × Int) -> Prop) : Prop :=
 Q ((l_.length : Int), 0)
def VC44_J2 (Q : (Int × Int) -> Prop) (I1 : Int -> Prop) (μ1 : Int -> Nat) (v103 : Int) (v108 : Bool) : Prop :=
 (v108 = true ->
 Q (v103, 33)) /\
 (v108 = false ->
 I1 (IntKind.i64.wrap (v103 + 1)) /\ μ1 (IntKind.i64.wrap (v103 + 1)) < μ1 v103)
def VC44_J3 (I2 : Bool -> Int -> Prop) (μ2 : Bool -> Int -> Nat) (v110 : Bool) (v111 : Int) (v113 : Bool) : Prop :=
 I2 v113 (IntKind.i64.wrap (v111 + 1)) /\ μ2 v113 (IntKind.i64.wrap (v111 + 1)) < μ2 v110 v111
def VC44_J4 (l_ : List Api_Oper) (Q : (Int × Int) -> Prop) (v103 : Int) (I2 : Bool -> Int -> Prop) (μ2 : Bool -> Int -> Nat) (v110 : Bool) (v111 : Int) (v115 : Bool) : Prop :=
 (v115 = true ->
 Q (v103, 32)) /\
 (v115 = false ->
 (v110 = true ->
 VC44_J3 I2 μ2 v110 v111 true) /\
 (v110 = false ->
 ((0 : Int) ≤ v111 /\ v111 < (l_.length : Int)) /\
 ((((gi l_ v111).Prc) == ((gi l_ v103).Prc)) = true ->
 ((0 : Int) ≤ v111 /\ v111 < (l_.length : Int)) /\
 ∀ r129, ref27_Ahead (gi l_ v111) (gi l_ v103) = r129 ->
 VC44_J3 I2 μ2 v110 v111 (!r129)) /\
 ((((gi l_ v111).Prc) == ((gi l_ v103).Prc)) = false ->
 VC44_J3 I2 μ2 v110 v111 false)))
def VC44 (l_ : List Api_Oper) (Q : Int × Int -> Prop) : Prop :=
 sm l_ ->
 ((decide ((l_.length : Int) > 5000)) = true ->
 Q (0, 3)) /\
 ((decide ((l_.length : Int) > 5000)) = false ->
 ∃ (I1 : Int -> Prop) (μ1 : Int -> Nat), I1 0 /\ ∀ (v103 : Int), I1 v103 ->
 ((decide (v103 < (l_.length : Int))) = true ->
 ((0 : Int) ≤ v103 /\ v103 < (l_.length : Int)) /\
 (((((decide (((gi l_ v103).Prc) < 1)) || (decide (((gi l_ v103).Prc) > 1000))) || (decide (((gi l_ v103).Start) < 0))) || (decide (((gi l_ v103).Start) > 9999))) = true ->
 Q (v103, 2)) /\
 (((((decide (((gi l_ v103).Prc) < 1)) || (decide (((gi l_ v103).Prc) > 1000))) || (decide (((gi l_ v103).Start) < 0))) || (decide (((gi l_ v103).Start) > 9999))) = false ->
 (((decide (((gi l_ v103).Kind) < 0)) || (decide (((gi l_ v103).Kind) > 63))) = true ->
 Q (v103, 31)) /\
 (((decide (((gi l_ v103).Kind) < 0)) || (decide (((gi l_ v103).Kind) > 63))) = false ->
 ((((((gi l_ v103).End) == (-1)) && (((gi l_ v103).Result) != (-1))) || ((((gi l_ v103).End) != (-1)) && ((((decide (((gi l_ v103).End) ≤ ((gi l_ v103).Start))) || (decide (((gi l_ v103).End) > 9999))) || (decide (((gi l_ v103).Result) < 0))) || (decide (((gi l_ v103).Result) > 1000000))))) = true ->
 Q (v103, 7)) /\
 ((((((gi l_ v103).End) == (-1)) && (((gi l_ v103).Result) != (-1))) || ((((gi l_ v103).End) != (-1)) && ((((decide (((gi l_ v103).End) ≤ ((gi l_ v103).Start))) || (decide (((gi l_ v103).End) > 9999))) || (decide (((gi l_ v103).Result) < 0))) || (decide (((gi l_ v103).Result) > 1000000))))) = false ->
 ∃ (I2 : Bool -> Int -> Prop) (μ2 : Bool -> Int -> Nat), I2 false 0 /\ ∀ (v110 : Bool) (v111 : Int), I2 v110 v111 ->
 ((decide (v111 < v103)) = true ->
 ((0 : Int) ≤ v111 /\ v111 < (l_.length : Int)) /\
 ((decide (((gi l_ v111).Start) ≥ ((gi l_ v103).Start))) = true ->
 VC44_J4 l_ Q v103 I2 μ2 v110 v111 true) /\
 ((decide (((gi l_ v111).Start) ≥ ((gi l_ v103).Start))) = false ->
 ((0 : Int) ≤ v111 /\ v111 < (l_.length : Int)) /\
 ∀ r143, ref27_meets (gi l_ v111) (gi l_ v103) = r143 ->
 VC44_J4 l_ Q v103 I2 μ2 v110 v111 r143)) /\
 ((decide (v111 < v103)) = false ->
 VC44_J2 Q I1 μ1 v103 v110))))) /\
 ((decide (v103 < (l_.length : Int))) = false ->
 VC44_J1 l_ Q))
def VC28 (o_ : Api_Object) (l_ : List Api_Oper) (most : Int) (Q : Int -> Prop) : Prop :=
 sm o_.Rows ->
 ∀ (_ : sm l_),
 ∀ r104, ref23_Check o_ = r104 ->
 ∀ r108, ref27_Check l_ = r108 ->
 (((r104.2 != 0) || (r108.2 != 0)) = true ->
 Q 2) /\
 (((r104.2 != 0) || (r108.2 != 0)) = false ->
 ((decide ((l_.length : Int) > most)) = true ->
 Q 3) /\
 ((decide ((l_.length : Int) > most)) = false ->
 Q 0))
def VC45_J1 (Q : ((List (List Int))) -> Prop) (v109 : List (List Int)) : Prop :=
 Q v109
def VC45_J2 (I1 : (List (List Int)) -> (List (List Int)) -> Prop) (μ1 : (List (List Int)) -> (List (List Int)) -> Nat) (v115 : List (List Int)) (v119 : List (List Int)) (v123 : List (List Int)) (v127 : List (List Int)) : Prop :=
 (v123.length + v127.length ≤ 1099511627776) /\
 I1 (v123 ++ v127) v127 /\ μ1 (v123 ++ v127) v127 < μ1 v115 v119
def VC45_J3 (I2 : (List (List Int)) -> (List (List Int)) -> Int -> Prop) (μ2 : (List (List Int)) -> (List (List Int)) -> Int -> Nat) (v138 : List (List Int)) (v143 : List (List Int)) (v147 : Int) (v148 : List (List Int)) (v153 : List (List Int)) : Prop :=
 I2 v148 v153 (IntKind.i64.wrap (v147 + 1)) /\ μ2 v148 v153 (IntKind.i64.wrap (v147 + 1)) < μ2 v138 v143 v147
def VC45_J4 (I3 : (List (List Int)) -> (List (List Int)) -> Int -> Prop) (μ3 : (List (List Int)) -> (List (List Int)) -> Int -> Nat) (v157 : List (List Int)) (v162 : List (List Int)) (v166 : Int) (v167 : List (List Int)) (v172 : List (List Int)) : Prop :=
 I3 v167 v172 (IntKind.i64.wrap (v166 + 1)) /\ μ3 v167 v172 (IntKind.i64.wrap (v166 + 1)) < μ3 v157 v162 v166
def VC45_J5 (v119 : List (List Int)) (v147 : Int) (I3 : (List (List Int)) -> (List (List Int)) -> Int -> Prop) (μ3 : (List (List Int)) -> (List (List Int)) -> Int -> Nat) (v157 : List (List Int)) (v162 : List (List Int)) (v166 : Int) (v176 : List (List Int)) (v181 : List (List Int)) (v185 : Bool) : Prop :=
 ((!v185) = true ->
 ((0 : Int) ≤ v147 /\ v147 < (v119.length : Int)) /\
 ∀ (_ : sm (gi v119 v147)),
 (([] : List Int).length + (gi v119 v147).length ≤ 1099511627776) /\
 ((([] : List Int) ++ (gi v119 v147)).length + [v166].length ≤ 1099511627776) /\
 (v181.length + [(([] : List Int) ++ (gi v119 v147)) ++ [v166]].length ≤ 1099511627776) /\
 VC45_J4 I3 μ3 v157 v162 v166 v176 (v181 ++ [(([] : List Int) ++ (gi v119 v147)) ++ [v166]])) /\
 ((!v185) = false ->
 VC45_J4 I3 μ3 v157 v162 v166 v176 v181)
def VC45_J6 (I4 : (List (List Int)) -> (List (List Int)) -> Bool -> Int -> Prop) (μ4 : (List (List Int)) -> (List (List Int)) -> Bool -> Int -> Nat) (v221 : List (List Int)) (v226 : List (List Int)) (v230 : Bool) (v231 : Int) (v238 : List (List Int)) (v243 : List (List Int)) (v247 : Bool) : Prop :=
 I4 v238 v243 v247 (IntKind.i64.wrap (v231 + 1)) /\ μ4 v238 v243 v247 (IntKind.i64.wrap (v231 + 1)) < μ4 v221 v226 v230 v231
def VC45 (n_ : Int) (Q : (List (List Int)) -> Prop) : Prop :=
 ∃ (I1 : (List (List Int)) -> (List (List Int)) -> Prop) (μ1 : (List (List Int)) -> (List (List Int)) -> Nat), I1 ([[]] : List (List Int)) ([[]] : List (List Int)) /\ ∀ (v115 : List (List Int)) (v119 : List (List Int)), I1 v115 v119 ->
 ((decide ((v119.length : Int) > 0)) = true ->
 ∃ (I2 : (List (List Int)) -> (List (List Int)) -> Int -> Prop) (μ2 : (List (List Int)) -> (List (List Int)) -> Int -> Nat), I2 v115 [] 0 /\ ∀ (v138 : List (List Int)) (v143 : List (List Int)) (v147 : Int), I2 v138 v143 v147 ->
 ((decide (v147 < (v119.length : Int))) = true ->
 ∃ (I3 : (List (List Int)) -> (List (List Int)) -> Int -> Prop) (μ3 : (List (List Int)) -> (List (List Int)) -> Int -> Nat), I3 v138 v143 0 /\ ∀ (v157 : List (List Int)) (v162 : List (List Int)) (v166 : Int), I3 v157 v162 v166 ->
 ((decide (v166 < n_)) = true ->
 ∃ (I4 : (List (List Int)) -> (List (List Int)) -> Bool -> Int -> Prop) (μ4 : (List (List Int)) -> (List (List Int)) -> Bool -> Int -> Nat), I4 v157 v162 false 0 /\ ∀ (v221 : List (List Int)) (v226 : List (List Int)) (v230 : Bool) (v231 : Int), I4 v221 v226 v230 v231 ->
 ((0 : Int) ≤ v147 /\ v147 < (v119.length : Int)) /\
 ∀ (_ : sm (gi v119 v147)),
 ((decide (v231 < ((gi v119 v147).length : Int))) = true ->
 (v230 = true ->
 VC45_J6 I4 μ4 v221 v226 v230 v231 v221 v226 true) /\
 (v230 = false ->
 ((0 : Int) ≤ v147 /\ v147 < (v119.length : Int)) /\
 ∀ (_ : sm (gi v119 v147)),
 ((0 : Int) ≤ v231 /\ v231 < ((gi v119 v147).length : Int)) /\
 VC45_J6 I4 μ4 v221 v226 v230 v231 v221 v226 ((gi (gi v119 v147) v231) == v166))) /\
 ((decide (v231 < ((gi v119 v147).length : Int))) = false ->
 VC45_J5 v119 v147 I3 μ3 v157 v162 v166 v221 v226 v230)) /\
 ((decide (v166 < n_)) = false ->
 VC45_J3 I2 μ2 v138 v143 v147 v157 v162)) /\
 ((decide (v147 < (v119.length : Int))) = false ->
 VC45_J2 I1 μ1 v115 v119 v138 v143)) /\
 ((decide ((v119.length : Int) > 0)) = false ->
 VC45_J1 Q v115)
def VC29_J1 (Q : ((List (List Api_Pick))) -> Prop) (v108 : List (List Api_Pick)) : Prop :=
 Q v108
def VC29_J2 (I1 : (List (List Api_Pick)) -> Int -> Prop) (μ1 : (List (List Api_Pick)) -> Int -> Nat) (v115 : List (List Api_Pick)) (v120 : Int) (v123 : List (List Api_Pick)) : Prop :=
 I1 v123 (IntKind.i64.wrap (v120 + 1)) /\ μ1 v123 (IntKind.i64.wrap (v120 + 1)) < μ1 v115 v120
def VC29_J3 (I1 : (List (List Api_Pick)) -> Int -> Prop) (μ1 : (List (List Api_Pick)) -> Int -> Nat) (v115 : List (List Api_Pick)) (v120 : Int) (r140 : (List Api_Pick) × Int) (v145 : List (List Api_Pick)) (v151 : Bool) : Prop :=
 (v151 = true ->
 (v145.length + [r140.1].length ≤ 1099511627776) /\
 VC29_J2 I1 μ1 v115 v120 (v145 ++ [r140.1])) /\
 (v151 = false ->
 VC29_J2 I1 μ1 v115 v120 v145)
def VC29 (o_ : Api_Object) (l_ : List Api_Oper) (Q : (List (List Api_Pick)) -> Prop) : Prop :=
 sm o_.Rows ->
 ∀ (_ : sm l_),
 (preOr (l_.length : Int)) /\
 ∀ r104, ref30_Orders (l_.length : Int) = r104 ->
 sm r104 ->
 ∃ (I1 : (List (List Api_Pick)) -> Int -> Prop) (μ1 : (List (List Api_Pick)) -> Int -> Nat), I1 [] 0 /\ ∀ (v115 : List (List Api_Pick)) (v120 : Int), I1 v115 v120 ->
 ((decide (v120 < (r104.length : Int))) = true ->
 ((0 : Int) ≤ v120 /\ v120 < (r104.length : Int)) /\
 ∀ (_ : sm (gi r104 v120)),
 (preR2 o_ l_ (gi r104 v120)) /\
 ∀ r140, ref28_Fill o_ l_ (gi r104 v120) = r140 ->
 sm r140.1 ->
 ((r140.2 == 0) = true ->
 ∀ r165, ref29_Lin o_ l_ r140.1 = r165 ->
 VC29_J3 I1 μ1 v115 v120 r140 v115 r165) /\
 ((r140.2 == 0) = false ->
 VC29_J3 I1 μ1 v115 v120 r140 v115 false)) /\
 ((decide (v120 < (r104.length : Int))) = false ->
 VC29_J1 Q v115)
def VC85 (i_ : Int) (cap1 : List Bool) (Q : Bool -> Prop) : Prop :=
 sm cap1 ->
 ((decide (i_ < (cap1.length : Int))) = true ->
 ((0 : Int) ≤ i_ /\ i_ < (cap1.length : Int)) /\
 Q (gi cap1 i_)) /\
 ((decide (i_ < (cap1.length : Int))) = false ->
 Q false)
def VC79_J1 (Q : ((List Int)) -> Prop) (v101 : List Int) : Prop :=
 Q v101
def VC79_J2 (I1 : (List Int) -> Int -> Prop) (μ1 : (List Int) -> Int -> Nat) (v108 : List Int) (v113 : Int) (v116 : List Int) : Prop :=
 I1 v116 (IntKind.i64.wrap (v113 + 1)) /\ μ1 v116 (IntKind.i64.wrap (v113 + 1)) < μ1 v108 v113
def VC79_J3 (I1 : (List Int) -> Int -> Prop) (μ1 : (List Int) -> Int -> Nat) (v108 : List Int) (v113 : Int) (v131 : List Int) (v135 : Bool) : Prop :=
 (v135 = true ->
 (v131.length + [v113].length ≤ 1099511627776) /\
 VC79_J2 I1 μ1 v108 v113 (v131 ++ [v113])) /\
 (v135 = false ->
 VC79_J2 I1 μ1 v108 v113 v131)
def VC79_J4 (I2 : (List Int) -> Bool -> Int -> Prop) (μ2 : (List Int) -> Bool -> Int -> Nat) (v148 : List Int) (v152 : Bool) (v155 : Int) (v158 : List Int) (v162 : Bool) : Prop :=
 I2 v158 v162 (IntKind.i64.wrap (v155 + 1)) /\ μ2 v158 v162 (IntKind.i64.wrap (v155 + 1)) < μ2 v148 v152 v155
def VC79 (l_ : List Api_Oper) (done : List Bool) (Q : (List Int) -> Prop) : Prop :=
 sm l_ ->
 ∀ (_ : sm done),
 ∃ (I1 : (List Int) -> Int -> Prop) (μ1 : (List Int) -> Int -> Nat), I1 [] 0 /\ ∀ (v108 : List Int) (v113 : Int), I1 v108 v113 ->
 ((decide (v113 < (l_.length : Int))) = true ->
 ((0 : Int) ≤ v113 /\ v113 < (l_.length : Int)) /\
 (preF1 v113 done) /\
 ∀ r128, oper_Free_1 v113 done = r128 ->
 ∃ (I2 : (List Int) -> Bool -> Int -> Prop) (μ2 : (List Int) -> Bool -> Int -> Nat), I2 v108 (!r128) 0 /\ ∀ (v148 : List Int) (v152 : Bool) (v155 : Int), I2 v148 v152 v155 ->
 ((decide (v155 < (l_.length : Int))) = true ->
 ((0 : Int) ≤ v155 /\ v155 < (l_.length : Int)) /\
 (v152 = true ->
 (preF1 v155 done) /\
 ∀ r172, oper_Free_1 v155 done = r172 ->
 (r172 = true ->
 VC79_J4 I2 μ2 v148 v152 v155 v148 true) /\
 (r172 = false ->
 ∀ r177, oper_Ahead (gi l_ v155) (gi l_ v113) = r177 ->
 VC79_J4 I2 μ2 v148 v152 v155 v148 (!r177))) /\
 (v152 = false ->
 VC79_J4 I2 μ2 v148 v152 v155 v148 false)) /\
 ((decide (v155 < (l_.length : Int))) = false ->
 VC79_J3 I1 μ1 v108 v113 v148 v152)) /\
 ((decide (v113 < (l_.length : Int))) = false ->
 VC79_J1 Q v108)
def VC69_J1 (Q : ((List Api_Pick)) -> Prop) (v105 : List Api_Pick) : Prop :=
 Q v105
def VC69_J2 (I1 : (List Api_Pick) -> Int -> Prop) (μ1 : (List Api_Pick) -> Int -> Nat) (v117 : List Api_Pick) (v122 : Int) (v125 : List Api_Pick) : Prop :=
 I1 v125 (IntKind.i64.wrap (v122 + 1)) /\ μ1 v125 (IntKind.i64.wrap (v122 + 1)) < μ1 v117 v122
def VC69_J3 (r112 : (List Int)) (I1 : (List Api_Pick) -> Int -> Prop) (μ1 : (List Api_Pick) -> Int -> Nat) (v117 : List Api_Pick) (v122 : Int) (r144 : Int × Int × Bool) (v146 : List Api_Pick) (v151 : Bool) : Prop :=
 (v151 = true ->
 (v146.length + [(⟨gi r112 v122, r144.2.1⟩ : Api_Pick)].length ≤ 1099511627776) /\
 VC69_J2 I1 μ1 v117 v122 (v146 ++ [(⟨gi r112 v122, r144.2.1⟩ : Api_Pick)])) /\
 (v151 = false ->
 VC69_J2 I1 μ1 v117 v122 v146)
def VC69 (o_ : Api_Object) (l_ : List Api_Oper) (state : Int) (done : List Bool) (Q : (List Api_Pick) -> Prop) : Prop :=
 sm o_.Rows ->
 ∀ (_ : sm l_),
 sm done ->
 (preO o_) /\
 ∀ r104, object_Check o_ = r104 ->
 ((r104.2 != 0) = true ->
 Q []) /\
 ((r104.2 != 0) = false ->
 (preFr l_ done) /\
 ∀ r112, oper_Free l_ done = r112 ->
 sm r112 ->
 ∃ (I1 : (List Api_Pick) -> Int -> Prop) (μ1 : (List Api_Pick) -> Int -> Nat), I1 [] 0 /\ ∀ (v117 : List Api_Pick) (v122 : Int), I1 v117 v122 ->
 ((decide (v122 < (r112.length : Int))) = true ->
 ((0 : Int) ≤ v122 /\ v122 < (r112.length : Int)) /\
 ((0 : Int) ≤ (gi r112 v122) /\ (gi r112 v122) < (l_.length : Int)) /\
 ∀ r144, object_Move o_ state ((gi l_ (gi r112 v122)).Kind) = r144 ->
 (r144.2.2 = true ->
 ((0 : Int) ≤ (gi r112 v122) /\ (gi r112 v122) < (l_.length : Int)) /\
 ((((gi l_ (gi r112 v122)).End) == (-1)) = true ->
 VC69_J3 r112 I1 μ1 v117 v122 r144 v117 true) /\
 ((((gi l_ (gi r112 v122)).End) == (-1)) = false ->
 ((0 : Int) ≤ (gi r112 v122) /\ (gi r112 v122) < (l_.length : Int)) /\
 VC69_J3 r112 I1 μ1 v117 v122 r144 v117 (((gi l_ (gi r112 v122)).Result) == r144.2.1))) /\
 (r144.2.2 = false ->
 VC69_J3 r112 I1 μ1 v117 v122 r144 v117 false)) /\
 ((decide (v122 < (r112.length : Int))) = false ->
 VC69_J1 Q v117))
def VC52 (o_ : Api_Object) (l_ : List Api_Oper) (most : Int) (Q : Int -> Prop) : Prop :=
 sm o_.Rows ->
 ∀ (_ : sm l_),
 (preO o_) /\
 ∀ r104, object_Check o_ = r104 ->
 ∀ r108, oper_Check l_ = r108 ->
 (((r104.2 != 0) || (r108.2 != 0)) = true ->
 Q 2) /\
 (((r104.2 != 0) || (r108.2 != 0)) = false ->
 ((decide ((l_.length : Int) > most)) = true ->
 Q 3) /\
 ((decide ((l_.length : Int) > most)) = false ->
 Q 0))
def VC68 (s_ : List Api_Pick) (Q : (List Api_Pick) -> Prop) : Prop :=
 sm s_ ->
 ∀ (b101 : Bool), (b101 = true -> s_ = []) ->
 (b101 = true ->
 Q []) /\
 (b101 = false ->
 (([] : List Api_Pick).length + s_.length ≤ 1099511627776) /\
 Q (([] : List Api_Pick) ++ s_))
def VC65_J1 (Q : Search_spot -> Prop) (v101 : Int) (v102 : Int) : Prop :=
 Q (⟨v101, v102⟩ : Search_spot)
def VC65_J2 (I1 : Int -> Int -> Int -> Prop) (μ1 : Int -> Int -> Int -> Nat) (v110 : Int) (v111 : Int) (v112 : Int) (v118 : Int) : Prop :=
 I1 (IntKind.i64.wrap (v110 + 1)) v118 v112 /\ μ1 (IntKind.i64.wrap (v110 + 1)) v118 v112 < μ1 v110 v111 v112
def VC65 (state : Int) (cap1 : Search_seeker) (Q : Search_spot -> Prop) : Prop :=
 sm cap1.o.Rows ->
 ∀ (_ : sm cap1.l),
 sm cap1.done ->
 ∃ (I1 : Int -> Int -> Int -> Prop) (μ1 : Int -> Int -> Int -> Nat), I1 0 0 state /\ ∀ (v110 : Int) (v111 : Int) (v112 : Int), I1 v110 v111 v112 ->
 ((decide (v110 < (cap1.done.length : Int))) = true ->
 ((0 : Int) ≤ v110 /\ v110 < (cap1.done.length : Int)) /\
 ((gi cap1.done v110) = true ->
 ((0 : Int) ≤ v110) /\
 VC65_J2 I1 μ1 v110 v111 v112 (IntKind.u32.wrap ((BitVec.ofInt IntKind.u32.bits v111 ||| BitVec.ofInt IntKind.u32.bits (IntKind.u32.wrap (1 * 2 ^ (min v110.toNat IntKind.u32.bits)))).toNat : Int))) /\
 ((gi cap1.done v110) = false ->
 VC65_J2 I1 μ1 v110 v111 v112 v111)) /\
 ((decide (v110 < (cap1.done.length : Int))) = false ->
 VC65_J1 Q v111 v112)
def VC64_J1 (Q : Bool -> Prop) : Prop :=
 Q true
def VC64_J2 (Q : Bool -> Prop) (I1 : Int -> Prop) (μ1 : Int -> Nat) (v106 : Int) (v115 : Bool) : Prop :=
 (v115 = true ->
 Q false) /\
 (v115 = false ->
 I1 (IntKind.i64.wrap (v106 + 1)) /\ μ1 (IntKind.i64.wrap (v106 + 1)) < μ1 v106)
def VC64 (cap1 : Search_seeker) (Q : Bool -> Prop) : Prop :=
 sm cap1.o.Rows ->
 ∀ (_ : sm cap1.l),
 sm cap1.done ->
 ∃ (I1 : Int -> Prop) (μ1 : Int -> Nat), I1 0 /\ ∀ (v106 : Int), I1 v106 ->
 ((decide (v106 < (cap1.l.length : Int))) = true ->
 ((0 : Int) ≤ v106 /\ v106 < (cap1.l.length : Int)) /\
 ((((gi cap1.l v106).End) != (-1)) = true ->
 ((0 : Int) ≤ v106 /\ v106 < (cap1.done.length : Int)) /\
 VC64_J2 Q I1 μ1 v106 (!(gi cap1.done v106))) /\
 ((((gi cap1.l v106).End) != (-1)) = false ->
 VC64_J2 Q I1 μ1 v106 false)) /\
 ((decide (v106 < (cap1.l.length : Int))) = false ->
 VC64_J1 Q)
def VC66 (N : Nat) (p_ : Api_Pick) (cap2 : Search_seeker) (cap3 : Int) (cap4 : List Api_Pick) (Q : (List Api_Pick) × Bool × Search_seeker -> Prop) : Prop :=
 sm cap2.o.Rows ->
 ∀ (_ : sm cap2.l),
 sm cap2.done ->
 ∀ (_ : sm cap4),
 ((0 : Int) ≤ p_.Oper /\ p_.Oper < (cap2.l.length : Int)) /\
 ∀ r111, object_Move cap2.o cap3 ((gi cap2.l p_.Oper).Kind) = r111 ->
 ((0 : Int) ≤ p_.Oper /\ p_.Oper < (cap2.done.length : Int)) /\
 (preCl cap4) /\
 ∀ r126, slices_Clone_api_Pick_api_Pick cap4 = r126 ->
 sm r126 ->
 (r126.length + [p_].length ≤ 1099511627776) /\
 (preFi r111.1 (r126 ++ [p_]) (⟨cap2.o, cap2.l, (cap2.done.set p_.Oper.toNat true), cap2.failed⟩ : Search_seeker) /\ mFirst r111.1 (r126 ++ [p_]) (⟨cap2.o, cap2.l, (cap2.done.set p_.Oper.toNat true), cap2.failed⟩ : Search_seeker) < N) /\
 ∀ r190, search_seeker_first r111.1 (r126 ++ [p_]) (⟨cap2.o, cap2.l, (cap2.done.set p_.Oper.toNat true), cap2.failed⟩ : Search_seeker) = r190 ->
 sm r190.1 ->
 ∀ (_ : sm r190.2.2.o.Rows),
 sm r190.2.2.l ->
 ∀ (_ : sm r190.2.2.done),
 ((0 : Int) ≤ p_.Oper /\ p_.Oper < (r190.2.2.done.length : Int)) /\
 Q (r190.1, r190.2.1, (⟨r190.2.2.o, r190.2.2.l, (r190.2.2.done.set p_.Oper.toNat false), r190.2.2.failed⟩ : Search_seeker))
def VC54_J2 (N : Nat) (Q : ((List Api_Pick) × Bool × Search_seeker) -> Prop) (v120 : Int) (v121 : Int) (v122 : Int) (v123 : List Api_Row) (v127 : List Api_Oper) (v139 : List Bool) (v143 : List (Search_spot × Int)) : Prop :=
 Q ([], false, (⟨(⟨v120, v121, v122, v123⟩ : Api_Object), v127, v139, v143⟩ : Search_seeker))
def VC54_J1 (N : Nat) (state : Int) (Q : ((List Api_Pick) × Bool × Search_seeker) -> Prop) (r112 : Search_spot) (v120 : Int) (v121 : Int) (v122 : Int) (v123 : List Api_Row) (v127 : List Api_Oper) (v131 : List Bool) (v135 : List (Search_spot × Int)) : Prop :=
 ((!(r112.done == 0 && (r112.state == 0 && true))) = true ->
 VC54_J2 N Q v120 v121 v122 v123 v127 v131 (mput v135 r112 (IntKind.i64.wrap (((mget v135 r112).getD 0) + 1)))) /\
 ((!(r112.done == 0 && (r112.state == 0 && true))) = false ->
 VC54_J2 N Q v120 v121 v122 v123 v127 v131 v135)
def VC54 (N : Nat) (state : Int) (so : List Api_Pick) (cap1 : Search_seeker) (Q : (List Api_Pick) × Bool × Search_seeker -> Prop) : Prop :=
 sm so ->
 ∀ (_ : sm cap1.o.Rows),
 sm cap1.l ->
 ∀ (_ : sm cap1.done),
 (preWh cap1) /\
 ∀ r104, search_seeker_whole cap1 = r104 ->
 (r104 = true ->
 Q (so, true, cap1)) /\
 (r104 = false ->
 ∀ r112, search_seeker_here state cap1 = r112 ->
 ((decide (((mget cap1.failed r112).getD 0) > 0)) = true ->
 Q ([], false, cap1)) /\
 ((decide (((mget cap1.failed r112).getD 0) > 0)) = false ->
 (preNx cap1.o cap1.l state cap1.done) /\
 ∀ r190, search_Next cap1.o cap1.l state cap1.done = r190 ->
 sm r190 ->
 ∃ (I1 : (List Api_Pick) -> Int -> Int -> Int -> Int -> (List Api_Row) -> (List Api_Oper) -> (List Bool) -> (List (Search_spot × Int)) -> Prop) (μ1 : (List Api_Pick) -> Int -> Int -> Int -> Int -> (List Api_Row) -> (List Api_Oper) -> (List Bool) -> (List (Search_spot × Int)) -> Nat), I1 r190 0 cap1.o.States cap1.o.Kinds cap1.o.Init cap1.o.Rows cap1.l cap1.done cap1.failed /\ ∀ (v194 : List Api_Pick) (v198 : Int) (v200 : Int) (v201 : Int) (v202 : Int) (v203 : List Api_Row) (v207 : List Api_Oper) (v211 : List Bool) (v215 : List (Search_spot × Int)), I1 v194 v198 v200 v201 v202 v203 v207 v211 v215 ->
 ((decide (v198 < (r190.length : Int))) = true ->
 ((0 : Int) ≤ v198 /\ v198 < (v194.length : Int)) /\
 (preTr (gi v194 v198) (⟨(⟨v200, v201, v202, v203⟩ : Api_Object), v207, v211, v215⟩ : Search_seeker) state so /\ mTry (gi v194 v198) (⟨(⟨v200, v201, v202, v203⟩ : Api_Object), v207, v211, v215⟩ : Search_seeker) state so < N) /\
 ∀ r225, search_seeker_first_1 (gi v194 v198) (⟨(⟨v200, v201, v202, v203⟩ : Api_Object), v207, v211, v215⟩ : Search_seeker) state so = r225 ->
 sm r225.1 ->
 ∀ (_ : sm r225.2.2.o.Rows),
 sm r225.2.2.l ->
 ∀ (_ : sm r225.2.2.done),
 (r225.2.1 = true ->
 Q (r225.1, true, r225.2.2)) /\
 (r225.2.1 = false ->
 I1 v194 (IntKind.i64.wrap (v198 + 1)) r225.2.2.o.States r225.2.2.o.Kinds r225.2.2.o.Init r225.2.2.o.Rows r225.2.2.l r225.2.2.done r225.2.2.failed /\ μ1 v194 (IntKind.i64.wrap (v198 + 1)) r225.2.2.o.States r225.2.2.o.Kinds r225.2.2.o.Init r225.2.2.o.Rows r225.2.2.l r225.2.2.done r225.2.2.failed < μ1 v194 v198 v200 v201 v202 v203 v207 v211 v215)) /\
 ((decide (v198 < (r190.length : Int))) = false ->
 VC54_J1 N state Q r112 v200 v201 v202 v203 v207 v211 v215)))
def VC53 (o_ : Api_Object) (l_ : List Api_Oper) (Q : Search_seeker -> Prop) : Prop :=
 sm o_.Rows ->
 ∀ (_ : sm l_),
 ((0 : Int) ≤ (l_.length : Int) /\ (l_.length : Int) ≤ (l_.length : Int) /\ (l_.length : Int) ≤ 1099511627776) /\
 Q (⟨o_, l_, List.replicate (l_.length : Int).toNat (false : Bool), ([] : List (Search_spot × Int))⟩ : Search_seeker)
def VC40_J1 (Q : ((List Api_Pick) × Int) -> Prop) (r128 : (List Api_Pick) × Bool × Search_seeker) (v144 : Bool) : Prop :=
 (v144 = true ->
 Q ([], 41)) /\
 (v144 = false ->
 Q (r128.1, 0))
def VC40 (o_ : Api_Object) (l_ : List Api_Oper) (Q : (List Api_Pick) × Int -> Prop) : Prop :=
 sm o_.Rows ->
 ∀ (_ : sm l_),
 (preCk o_ l_ 20) /\
 ∀ r104, search_check o_ l_ 20 = r104 ->
 ((r104 != 0) = true ->
 Q ([], r104)) /\
 ((r104 != 0) = false ->
 (preBg o_ l_) /\
 ∀ r110, search_begin o_ l_ = r110 ->
 sm r110.o.Rows ->
 ∀ (_ : sm r110.l),
 sm r110.done ->
 (preFi o_.Init [] r110) /\
 ∀ r128, search_seeker_first o_.Init [] r110 = r128 ->
 sm r128.1 ->
 ∀ (_ : sm r128.2.2.o.Rows),
 sm r128.2.2.l ->
 ∀ (_ : sm r128.2.2.done),
 ((!r128.2.1) = true ->
 VC40_J1 Q r128 true) /\
 ((!r128.2.1) = false ->
 (preO2 o_ l_ r128.1) /\
 ∀ r148, witness_Is o_ l_ r128.1 = r148 ->
 VC40_J1 Q r128 (!r148)))
def VC25 (o_ : Api_Object) (l_ : List Api_Oper) (Q : Bool × Int -> Prop) : Prop :=
 sm o_.Rows ->
 ∀ (_ : sm l_),
 (preSe o_ l_) /\
 ∀ r104, search_Search o_ l_ = r104 ->
 sm r104.1 ->
 ((r104.2 == 41) = true ->
 Q (false, 0)) /\
 ((r104.2 == 41) = false ->
 Q ((r104.2 == 0), r104.2))
def VC37 (x_ : Api_Event) (Q : Int -> Prop) : Prop :=
 (((x_.What != 1) && (x_.What != 2)) = true ->
 Q 8) /\
 (((x_.What != 1) && (x_.What != 2)) = false ->
 (((decide (x_.Prc < 1)) || (decide (x_.Prc > 1000))) = true ->
 Q 2) /\
 (((decide (x_.Prc < 1)) || (decide (x_.Prc > 1000))) = false ->
 (((x_.What == 1) && ((decide (x_.N < 0)) || (decide (x_.N ≥ 64)))) = true ->
 Q 31) /\
 (((x_.What == 1) && ((decide (x_.N < 0)) || (decide (x_.N ≥ 64)))) = false ->
 (((x_.What == 2) && ((decide (x_.N < 0)) || (decide (x_.N > 1000000)))) = true ->
 Q 7) /\
 (((x_.What == 2) && ((decide (x_.N < 0)) || (decide (x_.N > 1000000)))) = false ->
 Q 0))))
def VC23_J1 (l_ : List Api_Event) (Q : (Int × Int) -> Prop) : Prop :=
 Q ((l_.length : Int), 0)
def VC23 (l_ : List Api_Event) (Q : Int × Int -> Prop) : Prop :=
 sm l_ ->
 ((decide ((l_.length : Int) > 10000)) = true ->
 Q (0, 3)) /\
 ((decide ((l_.length : Int) > 10000)) = false ->
 ∃ (I1 : (List (Int × Int)) -> Int -> Prop) (μ1 : (List (Int × Int)) -> Int -> Nat), I1 ([] : List (Int × Int)) 0 /\ ∀ (v107 : List (Int × Int)) (v110 : Int), I1 v107 v110 ->
 ((decide (v110 < (l_.length : Int))) = true ->
 ((0 : Int) ≤ v110 /\ v110 < (l_.length : Int)) /\
 ∀ r117, event_alone (gi l_ v110) = r117 ->
 ((r117 != 0) = true ->
 Q (v110, r117)) /\
 ((r117 != 0) = false ->
 (((((mget v107 ((gi l_ v110).Prc)).getD 0) == 1) == (((gi l_ v110).What) == 1)) = true ->
 Q (v110, 33)) /\
 (((((mget v107 ((gi l_ v110).Prc)).getD 0) == 1) == (((gi l_ v110).What) == 1)) = false ->
 I1 (mput v107 ((gi l_ v110).Prc) ((gi l_ v110).What)) (IntKind.i64.wrap (v110 + 1)) /\ μ1 (mput v107 ((gi l_ v110).Prc) ((gi l_ v110).What)) (IntKind.i64.wrap (v110 + 1)) < μ1 v107 v110))) /\
 ((decide (v110 < (l_.length : Int))) = false ->
 VC23_J1 l_ Q))
def VC39_J1 (Q : Int -> Prop) (v101 : Int) : Prop :=
 Q (IntKind.i64.wrap (v101 + 1))
def VC39_J2 (I1 : Int -> Int -> Prop) (μ1 : Int -> Int -> Nat) (v102 : Int) (v104 : Int) (v105 : Int) : Prop :=
 I1 v105 (IntKind.i64.wrap (v104 + 1)) /\ μ1 v105 (IntKind.i64.wrap (v104 + 1)) < μ1 v102 v104
def VC39 (l_ : List Api_Event) (Q : Int -> Prop) : Prop :=
 sm l_ ->
 ∃ (I1 : Int -> Int -> Prop) (μ1 : Int -> Int -> Nat), I1 (-1) 0 /\ ∀ (v102 : Int) (v104 : Int), I1 v102 v104 ->
 ((decide (v104 < (l_.length : Int))) = true ->
 ((0 : Int) ≤ v104 /\ v104 < (l_.length : Int)) /\
 ((((gi l_ v104).What) == 1) = true ->
 VC39_J2 I1 μ1 v102 v104 (if (if 63 < ((gi l_ v104).N) then 63 else ((gi l_ v104).N)) > v102 then (if 63 < ((gi l_ v104).N) then 63 else ((gi l_ v104).N)) else v102)) /\
 ((((gi l_ v104).What) == 1) = false ->
 VC39_J2 I1 μ1 v102 v104 v102)) /\
 ((decide (v104 < (l_.length : Int))) = false ->
 VC39_J1 Q v102)
def VC71_J1 (Q : Int -> Prop) (v101 : Int) : Prop :=
 Q v101
def VC71_J2 (I1 : Int -> Int -> Prop) (μ1 : Int -> Int -> Nat) (v103 : Int) (v104 : Int) (v106 : Int) : Prop :=
 I1 v106 (IntKind.i64.wrap (v104 + 1)) /\ μ1 v106 (IntKind.i64.wrap (v104 + 1)) < μ1 v103 v104
def VC71 (l_ : List Api_Event) (process : Int) (Q : Int -> Prop) : Prop :=
 sm l_ ->
 ∃ (I1 : Int -> Int -> Prop) (μ1 : Int -> Int -> Nat), I1 (-1) 0 /\ ∀ (v103 : Int) (v104 : Int), I1 v103 v104 ->
 ((decide (v104 < (l_.length : Int))) = true ->
 ((0 : Int) ≤ v104 /\ v104 < (l_.length : Int)) /\
 ((((gi l_ v104).Prc) == process) = true ->
 VC71_J2 I1 μ1 v103 v104 v104) /\
 ((((gi l_ v104).Prc) == process) = false ->
 VC71_J2 I1 μ1 v103 v104 v103)) /\
 ((decide (v104 < (l_.length : Int))) = false ->
 VC71_J1 Q v103)
def VC56 (l_ : List Api_Event) (process : Int) (Q : Bool -> Prop) : Prop :=
 sm l_ ->
 ∀ r104, ref25_last l_ process = r104 ->
 ((decide (r104 ≥ 0)) = true ->
 ((0 : Int) ≤ r104 /\ r104 < (l_.length : Int)) /\
 Q (((gi l_ r104).What) == 1)) /\
 ((decide (r104 ≥ 0)) = false ->
 Q false)
def VC42_J1 (l_ : List Api_Event) (Q : (Int × Int) -> Prop) : Prop :=
 Q ((l_.length : Int), 0)
def VC42_J2 (Q : (Int × Int) -> Prop) (I1 : Int -> Prop) (μ1 : Int -> Nat) (v103 : Int) (v108 : Bool) : Prop :=
 (v108 = true ->
 Q (v103, 33)) /\
 (v108 = false ->
 I1 (IntKind.i64.wrap (v103 + 1)) /\ μ1 (IntKind.i64.wrap (v103 + 1)) < μ1 v103)
def VC42 (l_ : List Api_Event) (Q : Int × Int -> Prop) : Prop :=
 sm l_ ->
 ((decide ((l_.length : Int) > 10000)) = true ->
 Q (0, 3)) /\
 ((decide ((l_.length : Int) > 10000)) = false ->
 ∃ (I1 : Int -> Prop) (μ1 : Int -> Nat), I1 0 /\ ∀ (v103 : Int), I1 v103 ->
 ((decide (v103 < (l_.length : Int))) = true ->
 ((0 : Int) ≤ v103 /\ v103 < (l_.length : Int)) /\
 (((((gi l_ v103).What) != 1) && (((gi l_ v103).What) != 2)) = true ->
 Q (v103, 8)) /\
 (((((gi l_ v103).What) != 1) && (((gi l_ v103).What) != 2)) = false ->
 (((decide (((gi l_ v103).Prc) < 1)) || (decide (((gi l_ v103).Prc) > 1000))) = true ->
 Q (v103, 2)) /\
 (((decide (((gi l_ v103).Prc) < 1)) || (decide (((gi l_ v103).Prc) > 1000))) = false ->
 (((((gi l_ v103).What) == 1) && ((decide (((gi l_ v103).N) < 0)) || (decide (((gi l_ v103).N) > 63)))) = true ->
 Q (v103, 31)) /\
 (((((gi l_ v103).What) == 1) && ((decide (((gi l_ v103).N) < 0)) || (decide (((gi l_ v103).N) > 63)))) = false ->
 (((((gi l_ v103).What) == 2) && ((decide (((gi l_ v103).N) < 0)) || (decide (((gi l_ v103).N) > 1000000)))) = true ->
 Q (v103, 7)) /\
 (((((gi l_ v103).What) == 2) && ((decide (((gi l_ v103).N) < 0)) || (decide (((gi l_ v103).N) > 1000000)))) = false ->
 ((((gi l_ v103).What) == 1) = true ->
 ((0 : Int) ≤ v103 /\ v103 ≤ (l_.length : Int)) /\
 ∀ r117, ref25_open (l_.take v103.toNat) ((gi l_ v103).Prc) = r117 ->
 (r117 = true ->
 VC42_J2 Q I1 μ1 v103 true) /\
 (r117 = false ->
 ((((gi l_ v103).What) == 2) = true ->
 ((0 : Int) ≤ v103 /\ v103 ≤ (l_.length : Int)) /\
 ∀ r124, ref25_open (l_.take v103.toNat) ((gi l_ v103).Prc) = r124 ->
 VC42_J2 Q I1 μ1 v103 (!r124)) /\
 ((((gi l_ v103).What) == 2) = false ->
 VC42_J2 Q I1 μ1 v103 false))) /\
 ((((gi l_ v103).What) == 1) = false ->
 ((((gi l_ v103).What) == 2) = true ->
 ((0 : Int) ≤ v103 /\ v103 ≤ (l_.length : Int)) /\
 ∀ r131, ref25_open (l_.take v103.toNat) ((gi l_ v103).Prc) = r131 ->
 VC42_J2 Q I1 μ1 v103 (!r131)) /\
 ((((gi l_ v103).What) == 2) = false ->
 VC42_J2 Q I1 μ1 v103 false))))))) /\
 ((decide (v103 < (l_.length : Int))) = false ->
 VC42_J1 l_ Q))
def VC43_J1 (Q : Int -> Prop) (v101 : Int) : Prop :=
 Q v101
def VC43_J2 (I1 : Int -> Int -> Prop) (μ1 : Int -> Int -> Nat) (v103 : Int) (v104 : Int) (v106 : Int) : Prop :=
 I1 v106 (IntKind.i64.wrap (v104 + 1)) /\ μ1 v106 (IntKind.i64.wrap (v104 + 1)) < μ1 v103 v104
def VC43_J4 (l_ : List Api_Event) (I1 : Int -> Int -> Prop) (μ1 : Int -> Int -> Nat) (v103 : Int) (v104 : Int) (v110 : Bool) : Prop :=
 (v110 = true ->
 ((0 : Int) ≤ v104 /\ v104 < (l_.length : Int)) /\
 VC43_J2 I1 μ1 v103 v104 (IntKind.i64.wrap (((gi l_ v104).N) + 1))) /\
 (v110 = false ->
 VC43_J2 I1 μ1 v103 v104 v103)
def VC43_J3 (l_ : List Api_Event) (I1 : Int -> Int -> Prop) (μ1 : Int -> Int -> Nat) (v103 : Int) (v104 : Int) (v108 : Bool) : Prop :=
 (v108 = true ->
 VC43_J2 I1 μ1 v103 v104 64) /\
 (v108 = false ->
 ((0 : Int) ≤ v104 /\ v104 < (l_.length : Int)) /\
 ((((gi l_ v104).What) == 1) = true ->
 ((0 : Int) ≤ v104 /\ v104 < (l_.length : Int)) /\
 VC43_J4 l_ I1 μ1 v103 v104 (decide (((gi l_ v104).N) ≥ v103))) /\
 ((((gi l_ v104).What) == 1) = false ->
 VC43_J4 l_ I1 μ1 v103 v104 false))
def VC43 (l_ : List Api_Event) (Q : Int -> Prop) : Prop :=
 sm l_ ->
 ∃ (I1 : Int -> Int -> Prop) (μ1 : Int -> Int -> Nat), I1 0 0 /\ ∀ (v103 : Int) (v104 : Int), I1 v103 v104 ->
 ((decide (v104 < (l_.length : Int))) = true ->
 ((0 : Int) ≤ v104 /\ v104 < (l_.length : Int)) /\
 ((((gi l_ v104).What) == 1) = true ->
 ((0 : Int) ≤ v104 /\ v104 < (l_.length : Int)) /\
 VC43_J3 l_ I1 μ1 v103 v104 (decide (((gi l_ v104).N) > 63))) /\
 ((((gi l_ v104).What) == 1) = false ->
 VC43_J3 l_ I1 μ1 v103 v104 false)) /\
 ((decide (v104 < (l_.length : Int))) = false ->
 VC43_J1 Q v103)
def VC16_J1 (Q : Bool -> Prop) : Prop :=
 Q true
def VC16 (a_ : List Api_Event) (b_ : List Api_Event) (Q : Bool -> Prop) : Prop :=
 sm a_ ->
 ∀ (_ : sm b_),
 (((a_.length : Int) != (b_.length : Int)) = true ->
 Q false) /\
 (((a_.length : Int) != (b_.length : Int)) = false ->
 ∃ (I1 : Int -> Prop) (μ1 : Int -> Nat), I1 0 /\ ∀ (v103 : Int), I1 v103 ->
 ((decide (v103 < (a_.length : Int))) = true ->
 ((0 : Int) ≤ v103 /\ v103 < (a_.length : Int)) /\
 ((0 : Int) ≤ v103 /\ v103 < (b_.length : Int)) /\
 ((!(((gi a_ v103).What) == ((gi b_ v103).What) && (((gi a_ v103).Prc) == ((gi b_ v103).Prc) && (((gi a_ v103).N) == ((gi b_ v103).N) && true)))) = true ->
 Q false) /\
 ((!(((gi a_ v103).What) == ((gi b_ v103).What) && (((gi a_ v103).Prc) == ((gi b_ v103).Prc) && (((gi a_ v103).N) == ((gi b_ v103).N) && true)))) = false ->
 I1 (IntKind.i64.wrap (v103 + 1)) /\ μ1 (IntKind.i64.wrap (v103 + 1)) < μ1 v103)) /\
 ((decide (v103 < (a_.length : Int))) = false ->
 VC16_J1 Q))
def VC24 (c_ : Histtext_Case) (Q : Int -> Prop) : Prop :=
 sm c_.Object.Rows ->
 ∀ (_ : sm c_.Events),
 (preO c_.Object) /\
 ∀ r104, object_Check c_.Object = r104 ->
 ((r104.2 != 0) = true ->
 Q r104.2) /\
 ((r104.2 != 0) = false ->
 ∀ r108, event_Check c_.Events = r108 ->
 ((r108.2 != 0) = true ->
 Q r108.2) /\
 ((r108.2 != 0) = false ->
 ∀ r114, event_Kinds c_.Events = r114 ->
 ((decide (r114 > c_.Object.Kinds)) = true ->
 Q 31) /\
 ((decide (r114 > c_.Object.Kinds)) = false ->
 Q 0)))
def VC26_J1 (Q : Int -> Prop) (r108 : Int × Int) (v109 : Bool) : Prop :=
 (v109 = true ->
 Q 31) /\
 (v109 = false ->
 Q r108.2)
def VC26 (o_ : Api_Object) (l_ : List Api_Event) (Q : Int -> Prop) : Prop :=
 sm o_.Rows ->
 ∀ (_ : sm l_),
 ∀ r104, ref23_Check o_ = r104 ->
 ((r104.2 != 0) = true ->
 Q r104.2) /\
 ((r104.2 != 0) = false ->
 ∀ r108, ref25_Check l_ = r108 ->
 ((r108.2 == 0) = true ->
 ∀ r115, ref25_Kinds l_ = r115 ->
 VC26_J1 Q r108 (decide (r115 > o_.Kinds))) /\
 ((r108.2 == 0) = false ->
 VC26_J1 Q r108 false))
def VC34_J1 (Q : Bool -> Prop) : Prop :=
 Q true
def VC34 (a_ : List Api_Row) (b_ : List Api_Row) (Q : Bool -> Prop) : Prop :=
 sm a_ ->
 ∀ (_ : sm b_),
 (((a_.length : Int) != (b_.length : Int)) = true ->
 Q false) /\
 (((a_.length : Int) != (b_.length : Int)) = false ->
 ∃ (I1 : Int -> Prop) (μ1 : Int -> Nat), I1 0 /\ ∀ (v103 : Int), I1 v103 ->
 ((decide (v103 < (a_.length : Int))) = true ->
 ((0 : Int) ≤ v103 /\ v103 < (a_.length : Int)) /\
 ((0 : Int) ≤ v103 /\ v103 < (b_.length : Int)) /\
 ((!(((gi a_ v103).State) == ((gi b_ v103).State) && (((gi a_ v103).Kind) == ((gi b_ v103).Kind) && (((gi a_ v103).Next) == ((gi b_ v103).Next) && (((gi a_ v103).Result) == ((gi b_ v103).Result) && true))))) = true ->
 Q false) /\
 ((!(((gi a_ v103).State) == ((gi b_ v103).State) && (((gi a_ v103).Kind) == ((gi b_ v103).Kind) && (((gi a_ v103).Next) == ((gi b_ v103).Next) && (((gi a_ v103).Result) == ((gi b_ v103).Result) && true))))) = false ->
 I1 (IntKind.i64.wrap (v103 + 1)) /\ μ1 (IntKind.i64.wrap (v103 + 1)) < μ1 v103)) /\
 ((decide (v103 < (a_.length : Int))) = false ->
 VC34_J1 Q))
def VC17 (a_ : Api_Object) (b_ : Api_Object) (Q : Bool -> Prop) : Prop :=
 sm a_.Rows ->
 ∀ (_ : sm b_.Rows),
 ((((a_.States == b_.States) && (a_.Kinds == b_.Kinds)) && (a_.Init == b_.Init)) = true ->
 ∀ r104, ref23_SameRows a_.Rows b_.Rows = r104 ->
 Q r104) /\
 ((((a_.States == b_.States) && (a_.Kinds == b_.Kinds)) && (a_.Init == b_.Init)) = false ->
 Q false)
def VC9_J1 (Q : ((List Api_Oper) × Int) -> Prop) (v109 : List Api_Oper) : Prop :=
 Q (v109, 0)
def VC9_J2 (I1 : (List Api_Oper) -> (List (Int × Int)) -> Int -> Prop) (μ1 : (List Api_Oper) -> (List (Int × Int)) -> Int -> Nat) (v115 : List Api_Oper) (v119 : List (Int × Int)) (v122 : Int) (v123 : List Api_Oper) (v127 : List (Int × Int)) : Prop :=
 I1 v123 v127 (IntKind.i64.wrap (v122 + 1)) /\ μ1 v123 v127 (IntKind.i64.wrap (v122 + 1)) < μ1 v115 v119 v122
def VC9 (l_ : List Api_Event) (Q : (List Api_Oper) × Int -> Prop) : Prop :=
 sm l_ ->
 ∀ r104, event_Check l_ = r104 ->
 ((r104.2 != 0) = true ->
 Q ([], r104.2)) /\
 ((r104.2 != 0) = false ->
 ∃ (I1 : (List Api_Oper) -> (List (Int × Int)) -> Int -> Prop) (μ1 : (List Api_Oper) -> (List (Int × Int)) -> Int -> Nat), I1 [] ([] : List (Int × Int)) 0 /\ ∀ (v115 : List Api_Oper) (v119 : List (Int × Int)) (v122 : Int), I1 v115 v119 v122 ->
 ((decide (v122 < (l_.length : Int))) = true ->
 ((0 : Int) ≤ v122 /\ v122 < (l_.length : Int)) /\
 ((((gi l_ v122).What) == 1) = true ->
 (v115.length + [(⟨(gi l_ v122).Prc, (gi l_ v122).N, v122, (-1), (-1)⟩ : Api_Oper)].length ≤ 1099511627776) /\
 VC9_J2 I1 μ1 v115 v119 v122 (v115 ++ [(⟨(gi l_ v122).Prc, (gi l_ v122).N, v122, (-1), (-1)⟩ : Api_Oper)]) (mput v119 ((gi l_ v122).Prc) (v115.length : Int))) /\
 ((((gi l_ v122).What) == 1) = false ->
 ((0 : Int) ≤ ((mget v119 ((gi l_ v122).Prc)).getD 0) /\ ((mget v119 ((gi l_ v122).Prc)).getD 0) < (v115.length : Int)) /\
 VC9_J2 I1 μ1 v115 v119 v122 ((v115.set ((mget v119 ((gi l_ v122).Prc)).getD 0).toNat (⟨(gi v115 ((mget v119 ((gi l_ v122).Prc)).getD 0)).Prc, (gi v115 ((mget v119 ((gi l_ v122).Prc)).getD 0)).Kind, (gi v115 ((mget v119 ((gi l_ v122).Prc)).getD 0)).Start, v122, (gi v115 ((mget v119 ((gi l_ v122).Prc)).getD 0)).Result⟩ : Api_Oper)).set ((mget v119 ((gi l_ v122).Prc)).getD 0).toNat (⟨(gi (v115.set ((mget v119 ((gi l_ v122).Prc)).getD 0).toNat (⟨(gi v115 ((mget v119 ((gi l_ v122).Prc)).getD 0)).Prc, (gi v115 ((mget v119 ((gi l_ v122).Prc)).getD 0)).Kind, (gi v115 ((mget v119 ((gi l_ v122).Prc)).getD 0)).Start, v122, (gi v115 ((mget v119 ((gi l_ v122).Prc)).getD 0)).Result⟩ : Api_Oper)) ((mget v119 ((gi l_ v122).Prc)).getD 0)).Prc, (gi (v115.set ((mget v119 ((gi l_ v122).Prc)).getD 0).toNat (⟨(gi v115 ((mget v119 ((gi l_ v122).Prc)).getD 0)).Prc, (gi v115 ((mget v119 ((gi l_ v122).Prc)).getD 0)).Kind, (gi v115 ((mget v119 ((gi l_ v122).Prc)).getD 0)).Start, v122, (gi v115 ((mget v119 ((gi l_ v122).Prc)).getD 0)).Result⟩ : Api_Oper)) ((mget v119 ((gi l_ v122).Prc)).getD 0)).Kind, (gi (v115.set ((mget v119 ((gi l_ v122).Prc)).getD 0).toNat (⟨(gi v115 ((mget v119 ((gi l_ v122).Prc)).getD 0)).Prc, (gi v115 ((mget v119 ((gi l_ v122).Prc)).getD 0)).Kind, (gi v115 ((mget v119 ((gi l_ v122).Prc)).getD 0)).Start, v122, (gi v115 ((mget v119 ((gi l_ v122).Prc)).getD 0)).Result⟩ : Api_Oper)) ((mget v119 ((gi l_ v122).Prc)).getD 0)).Start, (gi (v115.set ((mget v119 ((gi l_ v122).Prc)).getD 0).toNat (⟨(gi v115 ((mget v119 ((gi l_ v122).Prc)).getD 0)).Prc, (gi v115 ((mget v119 ((gi l_ v122).Prc)).getD 0)).Kind, (gi v115 ((mget v119 ((gi l_ v122).Prc)).getD 0)).Start, v122, (gi v115 ((mget v119 ((gi l_ v122).Prc)).getD 0)).Result⟩ : Api_Oper)) ((mget v119 ((gi l_ v122).Prc)).getD 0)).End, (gi l_ v122).N⟩ : Api_Oper)) v119)) /\
 ((decide (v122 < (l_.length : Int))) = false ->
 VC9_J1 Q v115))
def VC27_J1 (Q : ((List Api_Oper) × Int) -> Prop) (v105 : List Api_Oper) : Prop :=
 Q (v105, 0)
def VC27_J2 (I1 : (List Api_Oper) -> Int -> Prop) (μ1 : (List Api_Oper) -> Int -> Nat) (v112 : List Api_Oper) (v116 : Int) (v118 : List Api_Oper) : Prop :=
 I1 v118 (IntKind.i64.wrap (v116 + 1)) /\ μ1 v118 (IntKind.i64.wrap (v116 + 1)) < μ1 v112 v116
def VC27_J3 (I1 : (List Api_Oper) -> Int -> Prop) (μ1 : (List Api_Oper) -> Int -> Nat) (v112 : List Api_Oper) (v116 : Int) (v145 : List Api_Oper) (v149 : Int) (v150 : Int) (v151 : Int) (v152 : Int) (v153 : Int) : Prop :=
 (v145.length + [(⟨v149, v150, v151, v152, v153⟩ : Api_Oper)].length ≤ 1099511627776) /\
 VC27_J2 I1 μ1 v112 v116 (v145 ++ [(⟨v149, v150, v151, v152, v153⟩ : Api_Oper)])
def VC27_J4 (I2 : (List Api_Oper) -> Int -> Int -> Int -> Int -> Int -> Int -> Prop) (μ2 : (List Api_Oper) -> Int -> Int -> Int -> Int -> Int -> Int -> Nat) (v164 : List Api_Oper) (v168 : Int) (v169 : Int) (v170 : Int) (v171 : Int) (v172 : Int) (v173 : Int) (v175 : List Api_Oper) (v179 : Int) (v180 : Int) : Prop :=
 I2 v175 (IntKind.i64.wrap (v168 + 1)) v169 v170 v171 v179 v180 /\ μ2 v175 (IntKind.i64.wrap (v168 + 1)) v169 v170 v171 v179 v180 < μ2 v164 v168 v169 v170 v171 v172 v173
def VC27 (l_ : List Api_Event) (Q : (List Api_Oper) × Int -> Prop) : Prop :=
 sm l_ ->
 ∀ r104, ref25_Check l_ = r104 ->
 ((r104.2 != 0) = true ->
 Q ([], r104.2)) /\
 ((r104.2 != 0) = false ->
 ∃ (I1 : (List Api_Oper) -> Int -> Prop) (μ1 : (List Api_Oper) -> Int -> Nat), I1 [] 0 /\ ∀ (v112 : List Api_Oper) (v116 : Int), I1 v112 v116 ->
 ((decide (v116 < (l_.length : Int))) = true ->
 ((0 : Int) ≤ v116 /\ v116 < (l_.length : Int)) /\
 ((((gi l_ v116).What) != 1) = true ->
 VC27_J2 I1 μ1 v112 v116 v112) /\
 ((((gi l_ v116).What) != 1) = false ->
 ((0 : Int) ≤ v116 /\ v116 < (l_.length : Int)) /\
 ((0 : Int) ≤ v116 /\ v116 < (l_.length : Int)) /\
 ∃ (I2 : (List Api_Oper) -> Int -> Int -> Int -> Int -> Int -> Int -> Prop) (μ2 : (List Api_Oper) -> Int -> Int -> Int -> Int -> Int -> Int -> Nat), I2 v112 (IntKind.i64.wrap (v116 + 1)) ((gi l_ v116).Prc) ((gi l_ v116).N) v116 (-1) (-1) /\ ∀ (v164 : List Api_Oper) (v168 : Int) (v169 : Int) (v170 : Int) (v171 : Int) (v172 : Int) (v173 : Int), I2 v164 v168 v169 v170 v171 v172 v173 ->
 (((decide (v168 < (l_.length : Int))) && (decide (v172 < 0))) = true ->
 ((0 : Int) ≤ v168 /\ v168 < (l_.length : Int)) /\
 ((0 : Int) ≤ v116 /\ v116 < (l_.length : Int)) /\
 ((((gi l_ v168).Prc) == ((gi l_ v116).Prc)) = true ->
 ((0 : Int) ≤ v168 /\ v168 < (l_.length : Int)) /\
 VC27_J4 I2 μ2 v164 v168 v169 v170 v171 v172 v173 v164 v168 ((gi l_ v168).N)) /\
 ((((gi l_ v168).Prc) == ((gi l_ v116).Prc)) = false ->
 VC27_J4 I2 μ2 v164 v168 v169 v170 v171 v172 v173 v164 v172 v173)) /\
 (((decide (v168 < (l_.length : Int))) && (decide (v172 < 0))) = false ->
 VC27_J3 I1 μ1 v112 v116 v164 v169 v170 v171 v172 v173))) /\
 ((decide (v116 < (l_.length : Int))) = false ->
 VC27_J1 Q v112))
def VC10 (c_ : Histtext_Case) (Q : Bool × Int -> Prop) : Prop :=
 sm c_.Object.Rows ->
 ∀ (_ : sm c_.Events),
 (preCa c_) /\
 ∀ r104, histtext_Check c_ = r104 ->
 ((r104 != 0) = true ->
 Q (false, r104)) /\
 ((r104 != 0) = false ->
 ∀ r108, oper_Of c_.Events = r108 ->
 sm r108.1 ->
 ((r108.2 != 0) = true ->
 Q (false, r108.2)) /\
 ((r108.2 != 0) = false ->
 (preSe c_.Object r108.1) /\
 ∀ r115, search_Lin c_.Object r108.1 = r115 ->
 Q (r115.1, r115.2)))
def VC31 (c_ : Histtext_Case) (Q : Histtext_Case -> Prop) : Prop :=
 sm c_.Object.Rows ->
 ∀ (_ : sm c_.Events),
 Q c_
def VC48 (n_ : Int) (cap1 : Histtext_Case) (Q : Bool -> Prop) : Prop :=
 sm cap1.Object.Rows ->
 ∀ (_ : sm cap1.Events),
 ((0 : Int) ≤ n_ /\ n_ ≤ (cap1.Events.length : Int)) /\
 (preCa (⟨cap1.Object, cap1.Events.take n_.toNat⟩ : Histtext_Case)) /\
 ∀ r109, shrink_Lin (⟨cap1.Object, cap1.Events.take n_.toNat⟩ : Histtext_Case) = r109 ->
 Q ((r109.2 == 0) && (!r109.1))
def VC30_48_J1 (Q : Int -> Prop) (v101 : Int) : Prop :=
 Q v101
def VC30_48 (n_ : Int) (cap1 : Histtext_Case) (Q : Int -> Prop) : Prop :=
 sm cap1.Object.Rows ->
 ∀ (_ : sm cap1.Events),
 ∃ (I1 : Int -> Int -> Prop) (μ1 : Int -> Int -> Nat), I1 0 n_ /\ ∀ (v104 : Int) (v105 : Int), I1 v104 v105 ->
 ((decide (v104 < v105)) = true ->
 (preAs (IntKind.i64.wrap (((IntKind.u64.wrap (IntKind.i64.wrap (v104 + v105)))).fdiv (2 ^ 1))) cap1) /\
 ∀ r111, shrink_asker_1 (IntKind.i64.wrap (((IntKind.u64.wrap (IntKind.i64.wrap (v104 + v105)))).fdiv (2 ^ 1))) cap1 = r111 ->
 ((!r111) = true ->
 I1 (IntKind.i64.wrap ((IntKind.i64.wrap (((IntKind.u64.wrap (IntKind.i64.wrap (v104 + v105)))).fdiv (2 ^ 1))) + 1)) v105 /\ μ1 (IntKind.i64.wrap ((IntKind.i64.wrap (((IntKind.u64.wrap (IntKind.i64.wrap (v104 + v105)))).fdiv (2 ^ 1))) + 1)) v105 < μ1 v104 v105) /\
 ((!r111) = false ->
 I1 v104 (IntKind.i64.wrap (((IntKind.u64.wrap (IntKind.i64.wrap (v104 + v105)))).fdiv (2 ^ 1))) /\ μ1 v104 (IntKind.i64.wrap (((IntKind.u64.wrap (IntKind.i64.wrap (v104 + v105)))).fdiv (2 ^ 1))) < μ1 v104 v105)) /\
 ((decide (v104 < v105)) = false ->
 VC30_48_J1 Q v104)
def VC12 (c_ : Histtext_Case) (Q : Int × Int -> Prop) : Prop :=
 sm c_.Object.Rows ->
 ∀ (_ : sm c_.Events),
 (preCa c_) /\
 ∀ r104, shrink_Lin c_ = r104 ->
 ((r104.2 != 0) = true ->
 Q (0, r104.2)) /\
 ((r104.2 != 0) = false ->
 (r104.1 = true ->
 Q (0, 41)) /\
 (r104.1 = false ->
 ∀ r110, shrink_asker c_ = r110 ->
 sm r110.Object.Rows ->
 ∀ (_ : sm r110.Events),
 (preBs (c_.Events.length : Int) r110) /\
 ∀ r123, sort_Search_shrink_asker_1 (c_.Events.length : Int) r110 = r123 ->
 Q (r123, 0)))
def VC49_J1 (Q : Int -> Prop) : Prop :=
 Q (-1)
def VC49 (s_ : List Int) (v_ : Int) (Q : Int -> Prop) : Prop :=
 sm s_ ->
 ∃ (I1 : Int -> Prop) (μ1 : Int -> Nat), I1 0 /\ ∀ (v102 : Int), I1 v102 ->
 ((decide (v102 < (s_.length : Int))) = true ->
 ((0 : Int) ≤ v102 /\ v102 < (s_.length : Int)) /\
 ((v_ == (gi s_ v102)) = true ->
 Q v102) /\
 ((v_ == (gi s_ v102)) = false ->
 I1 (IntKind.i64.wrap (v102 + 1)) /\ μ1 (IntKind.i64.wrap (v102 + 1)) < μ1 v102)) /\
 ((decide (v102 < (s_.length : Int))) = false ->
 VC49_J1 Q)
def VC35 (s_ : List Int) (v_ : Int) (Q : Bool -> Prop) : Prop :=
 sm s_ ->
 ∀ r104, slices_Index_int_int s_ v_ = r104 ->
 Q (decide (r104 ≥ 0))
def VC18_J1 (Q : ((List Api_Event)) -> Prop) (v105 : List Api_Event) : Prop :=
 Q v105
def VC18_J2 (I1 : (List Api_Event) -> Int -> (List (Int × Int)) -> Int -> Prop) (μ1 : (List Api_Event) -> Int -> (List (Int × Int)) -> Int -> Nat) (v112 : List Api_Event) (v116 : Int) (v117 : List (Int × Int)) (v120 : Int) (v122 : List Api_Event) (v126 : Int) (v127 : List (Int × Int)) : Prop :=
 I1 v122 v126 v127 (IntKind.i64.wrap (v120 + 1)) /\ μ1 v122 v126 v127 (IntKind.i64.wrap (v120 + 1)) < μ1 v112 v116 v117 v120
def VC18_J3 (I1 : (List Api_Event) -> Int -> (List (Int × Int)) -> Int -> Prop) (μ1 : (List Api_Event) -> Int -> (List (Int × Int)) -> Int -> Nat) (v112 : List Api_Event) (v116 : Int) (v117 : List (Int × Int)) (v120 : Int) (v136 : List Api_Event) (v140 : List (Int × Int)) : Prop :=
 VC18_J2 I1 μ1 v112 v116 v117 v120 v136 (IntKind.i64.wrap (v116 + 1)) v140
def VC18_J4 (l_ : List Api_Event) (I1 : (List Api_Event) -> Int -> (List (Int × Int)) -> Int -> Prop) (μ1 : (List Api_Event) -> Int -> (List (Int × Int)) -> Int -> Nat) (v112 : List Api_Event) (v116 : Int) (v117 : List (Int × Int)) (v120 : Int) (v161 : List Api_Event) : Prop :=
 VC18_J2 I1 μ1 v112 v116 v117 v120 v161 v116 (mput v117 ((gi l_ v120).Prc) 0)
def VC18 (l_ : List Api_Event) (ops : List Int) (Q : (List Api_Event) -> Prop) : Prop :=
 sm l_ ->
 ∀ (_ : sm ops),
 ∃ (I1 : (List Api_Event) -> Int -> (List (Int × Int)) -> Int -> Prop) (μ1 : (List Api_Event) -> Int -> (List (Int × Int)) -> Int -> Nat), I1 [] 0 ([] : List (Int × Int)) 0 /\ ∀ (v112 : List Api_Event) (v116 : Int) (v117 : List (Int × Int)) (v120 : Int), I1 v112 v116 v117 v120 ->
 ((decide (v120 < (l_.length : Int))) = true ->
 ((0 : Int) ≤ v120 /\ v120 < (l_.length : Int)) /\
 ((((gi l_ v120).What) == 1) = true ->
 ∀ r146, slices_Contains_int_int ops v116 = r146 ->
 (r146 = true ->
 VC18_J3 I1 μ1 v112 v116 v117 v120 v112 (mput (mput v117 ((gi l_ v120).Prc) 0) ((gi l_ v120).Prc) 1)) /\
 (r146 = false ->
 (v112.length + [(gi l_ v120)].length ≤ 1099511627776) /\
 VC18_J3 I1 μ1 v112 v116 v117 v120 (v112 ++ [(gi l_ v120)]) (mput v117 ((gi l_ v120).Prc) 0))) /\
 ((((gi l_ v120).What) == 1) = false ->
 (((((mget v117 ((gi l_ v120).Prc)).getD 0) == 0) || (((gi l_ v120).What) != 2)) = true ->
 (v112.length + [(gi l_ v120)].length ≤ 1099511627776) /\
 VC18_J4 l_ I1 μ1 v112 v116 v117 v120 (v112 ++ [(gi l_ v120)])) /\
 (((((mget v117 ((gi l_ v120).Prc)).getD 0) == 0) || (((gi l_ v120).What) != 2)) = false ->
 VC18_J4 l_ I1 μ1 v112 v116 v117 v120 v112))) /\
 ((decide (v120 < (l_.length : Int))) = false ->
 VC18_J1 Q v112)
def VC32 (s_ : List Api_Row) (Q : (List Api_Row) -> Prop) : Prop :=
 sm s_ ->
 ∀ (b101 : Bool), (b101 = true -> s_ = []) ->
 (b101 = true ->
 Q []) /\
 (b101 = false ->
 (([] : List Api_Row).length + s_.length ≤ 1099511627776) /\
 Q (([] : List Api_Row) ++ s_))
def VC33 (s_ : List Api_Event) (Q : (List Api_Event) -> Prop) : Prop :=
 sm s_ ->
 ∀ (b101 : Bool), (b101 = true -> s_ = []) ->
 (b101 = true ->
 Q []) /\
 (b101 = false ->
 (([] : List Api_Event).length + s_.length ≤ 1099511627776) /\
 Q (([] : List Api_Event) ++ s_))
def VC14_J1 (Q : (Histtext_Case × Int) -> Prop) (v135 : Int) (v136 : Int) (v137 : Int) (v138 : List Api_Row) (v142 : List Api_Event) : Prop :=
 Q ((⟨(⟨v135, v136, v137, v138⟩ : Api_Object), v142⟩ : Histtext_Case), 0)
def VC14_J2 (I1 : Int -> Int -> Int -> Int -> (List Api_Row) -> (List Api_Event) -> Prop) (μ1 : Int -> Int -> Int -> Int -> (List Api_Row) -> (List Api_Event) -> Nat) (v148 : Int) (v151 : Int) (v152 : Int) (v153 : Int) (v154 : List Api_Row) (v158 : List Api_Event) (v165 : List Api_Event) : Prop :=
 I1 (IntKind.i64.wrap (v148 - 1)) v151 v152 v153 v154 v165 /\ μ1 (IntKind.i64.wrap (v148 - 1)) v151 v152 v153 v154 v165 < μ1 v148 v151 v152 v153 v154 v158
def VC14 (c_ : Histtext_Case) (Q : Histtext_Case × Int -> Prop) : Prop :=
 sm c_.Object.Rows ->
 ∀ (_ : sm c_.Events),
 (preCa c_) /\
 ∀ r104, shrink_Head c_ = r104 ->
 ((r104.2 != 0) = true ->
 Q ((⟨(⟨0, 0, 0, []⟩ : Api_Object), []⟩ : Histtext_Case), r104.2)) /\
 ((r104.2 != 0) = false ->
 (preC2 c_.Object.Rows) /\
 ∀ r110, slices_Clone_api_Row_api_Row c_.Object.Rows = r110 ->
 sm r110 ->
 ((0 : Int) ≤ r104.1 /\ r104.1 ≤ (c_.Events.length : Int)) /\
 (preC3 (c_.Events.take r104.1.toNat)) /\
 ∀ r122, slices_Clone_api_Event_api_Event (c_.Events.take r104.1.toNat) = r122 ->
 sm r122 ->
 ∀ r131, oper_Of r122 = r131 ->
 sm r131.1 ->
 ∃ (I1 : Int -> Int -> Int -> Int -> (List Api_Row) -> (List Api_Event) -> Prop) (μ1 : Int -> Int -> Int -> Int -> (List Api_Row) -> (List Api_Event) -> Nat), I1 (IntKind.i64.wrap ((r131.1.length : Int) - 1)) c_.Object.States c_.Object.Kinds c_.Object.Init r110 r122 /\ ∀ (v148 : Int) (v151 : Int) (v152 : Int) (v153 : Int) (v154 : List Api_Row) (v158 : List Api_Event), I1 v148 v151 v152 v153 v154 v158 ->
 ((decide (v148 ≥ 0)) = true ->
 (preWo v158 [v148]) /\
 ∀ r178, shrink_Without v158 [v148] = r178 ->
 sm r178 ->
 (preCa (⟨c_.Object, r178⟩ : Histtext_Case)) /\
 ∀ r287, shrink_Head (⟨c_.Object, r178⟩ : Histtext_Case) = r287 ->
 ((r287.2 == 0) = true ->
 ((0 : Int) ≤ r287.1 /\ r287.1 ≤ (r178.length : Int)) /\
 VC14_J2 I1 μ1 v148 v151 v152 v153 v154 v158 (r178.take r287.1.toNat)) /\
 ((r287.2 == 0) = false ->
 VC14_J2 I1 μ1 v148 v151 v152 v153 v154 v158 v158)) /\
 ((decide (v148 ≥ 0)) = false ->
 VC14_J1 Q v151 v152 v153 v154 v158))
def VC11 (o_ : Api_Object) (l_ : List Api_Event) (Q : Bool × Int -> Prop) : Prop :=
 sm o_.Rows ->
 ∀ (_ : sm l_),
 ∀ r104, ref26_Check o_ l_ = r104 ->
 ((r104 != 0) = true ->
 Q (false, r104)) /\
 ((r104 != 0) = false ->
 ∀ r108, ref27_Of l_ = r108 ->
 sm r108.1 ->
 ∀ r115, ref30_Check o_ r108.1 20 = r115 ->
 ((r115 != 0) = true ->
 Q (false, r115)) /\
 ((r115 != 0) = false ->
 (preAA o_ r108.1) /\
 ∀ r119, ref30_All o_ r108.1 = r119 ->
 sm r119 ->
 Q (decide ((r119.length : Int) > 0), 0)))
def VC13_J1 (l_ : List Api_Event) (Q : (Int × Int) -> Prop) : Prop :=
 Q ((l_.length : Int), 0)
def VC13 (o_ : Api_Object) (l_ : List Api_Event) (Q : Int × Int -> Prop) : Prop :=
 sm o_.Rows ->
 ∀ (_ : sm l_),
 (preRL o_ l_) /\
 ∀ r104, ref41_Lin o_ l_ = r104 ->
 ((r104.2 != 0) = true ->
 Q (0, r104.2)) /\
 ((r104.2 != 0) = false ->
 (r104.1 = true ->
 Q (0, 41)) /\
 (r104.1 = false ->
 ∃ (I1 : Int -> Prop) (μ1 : Int -> Nat), I1 0 /\ ∀ (v107 : Int), I1 v107 ->
 ((decide (v107 < (l_.length : Int))) = true ->
 ((0 : Int) ≤ v107 /\ v107 ≤ (l_.length : Int)) /\
 (preRL o_ (l_.take v107.toNat)) /\
 ∀ r117, ref41_Lin o_ (l_.take v107.toNat) = r117 ->
 ((!r117.1) = true ->
 Q (v107, 0)) /\
 ((!r117.1) = false ->
 I1 (IntKind.i64.wrap (v107 + 1)) /\ μ1 (IntKind.i64.wrap (v107 + 1)) < μ1 v107)) /\
 ((decide (v107 < (l_.length : Int))) = false ->
 VC13_J1 l_ Q)))
def VC36_J2 (Q : Int -> Prop) (v102 : Int) (v103 : Bool) : Prop :=
 (v103 = true ->
 Q (-1)) /\
 (v103 = false ->
 Q v102)
def VC36_J1 (l_ : List Api_Event) (at_ : Int) (Q : Int -> Prop) (v102 : Int) : Prop :=
 ((0 : Int) ≤ at_ /\ at_ < (l_.length : Int)) /\
 ((((gi l_ at_).What) != 1) = true ->
 ((0 : Int) ≤ at_ /\ at_ < (l_.length : Int)) /\
 VC36_J2 Q v102 (((gi l_ at_).What) != 2)) /\
 ((((gi l_ at_).What) != 1) = false ->
 VC36_J2 Q v102 false)
def VC36_J3 (I1 : Int -> Int -> Int -> Prop) (μ1 : Int -> Int -> Int -> Nat) (v117 : Int) (v118 : Int) (v119 : Int) (v121 : Int) (v122 : Int) : Prop :=
 I1 v121 v122 (IntKind.i64.wrap (v119 + 1)) /\ μ1 v121 v122 (IntKind.i64.wrap (v119 + 1)) < μ1 v117 v118 v119
def VC36_J4 (l_ : List Api_Event) (at_ : Int) (I1 : Int -> Int -> Int -> Prop) (μ1 : Int -> Int -> Int -> Nat) (v117 : Int) (v118 : Int) (v119 : Int) (v124 : Int) : Prop :=
 ((0 : Int) ≤ v119 /\ v119 < (l_.length : Int)) /\
 ((0 : Int) ≤ at_ /\ at_ < (l_.length : Int)) /\
 ((((gi l_ v119).Prc) == ((gi l_ at_).Prc)) = true ->
 ((0 : Int) ≤ v119 /\ v119 < (l_.length : Int)) /\
 ((((gi l_ v119).What) == 1) = true ->
 VC36_J3 I1 μ1 v117 v118 v119 v124 v124) /\
 ((((gi l_ v119).What) == 1) = false ->
 ((decide (v119 < at_)) = true ->
 VC36_J3 I1 μ1 v117 v118 v119 v124 (-1)) /\
 ((decide (v119 < at_)) = false ->
 VC36_J3 I1 μ1 v117 v118 v119 v124 v118))) /\
 ((((gi l_ v119).Prc) == ((gi l_ at_).Prc)) = false ->
 VC36_J3 I1 μ1 v117 v118 v119 v124 v118)
def VC36 (l_ : List Api_Event) (at_ : Int) (Q : Int -> Prop) : Prop :=
 sm l_ ->
 ∃ (I1 : Int -> Int -> Int -> Prop) (μ1 : Int -> Int -> Int -> Nat), I1 (-1) (-1) 0 /\ ∀ (v117 : Int) (v118 : Int) (v119 : Int), I1 v117 v118 v119 ->
 ((decide (v119 ≤ at_)) = true ->
 ((0 : Int) ≤ v119 /\ v119 < (l_.length : Int)) /\
 ((((gi l_ v119).What) == 1) = true ->
 VC36_J4 l_ at_ I1 μ1 v117 v118 v119 (IntKind.i64.wrap (v117 + 1))) /\
 ((((gi l_ v119).What) == 1) = false ->
 VC36_J4 l_ at_ I1 μ1 v117 v118 v119 v117)) /\
 ((decide (v119 ≤ at_)) = false ->
 VC36_J1 l_ at_ Q v118)
def VC19_J1 (Q : ((List Api_Event)) -> Prop) (v101 : List Api_Event) : Prop :=
 Q v101
def VC19_J2 (I1 : (List Api_Event) -> Int -> Prop) (μ1 : (List Api_Event) -> Int -> Nat) (v109 : List Api_Event) (v113 : Int) (v116 : List Api_Event) : Prop :=
 I1 v116 (IntKind.i64.wrap (v113 + 1)) /\ μ1 v116 (IntKind.i64.wrap (v113 + 1)) < μ1 v109 v113
def VC19_J3 (l_ : List Api_Event) (I1 : (List Api_Event) -> Int -> Prop) (μ1 : (List Api_Event) -> Int -> Nat) (v109 : List Api_Event) (v113 : Int) (v126 : List Api_Event) (v130 : Bool) : Prop :=
 ((!v130) = true ->
 ((0 : Int) ≤ v113 /\ v113 < (l_.length : Int)) /\
 (v126.length + [gi l_ v113].length ≤ 1099511627776) /\
 VC19_J2 I1 μ1 v109 v113 (v126 ++ [gi l_ v113])) /\
 ((!v130) = false ->
 VC19_J2 I1 μ1 v109 v113 v126)
def VC19_J4 (I2 : (List Api_Event) -> Bool -> Int -> Prop) (μ2 : (List Api_Event) -> Bool -> Int -> Nat) (v145 : List Api_Event) (v149 : Bool) (v150 : Int) (v153 : List Api_Event) (v157 : Bool) : Prop :=
 I2 v153 v157 (IntKind.i64.wrap (v150 + 1)) /\ μ2 v153 v157 (IntKind.i64.wrap (v150 + 1)) < μ2 v145 v149 v150
def VC19 (l_ : List Api_Event) (ops : List Int) (Q : (List Api_Event) -> Prop) : Prop :=
 sm l_ ->
 ∀ (_ : sm ops),
 ∃ (I1 : (List Api_Event) -> Int -> Prop) (μ1 : (List Api_Event) -> Int -> Nat), I1 [] 0 /\ ∀ (v109 : List Api_Event) (v113 : Int), I1 v109 v113 ->
 ((decide (v113 < (l_.length : Int))) = true ->
 (preOw l_ v113) /\
 ∀ r123, ref41_Owner l_ v113 = r123 ->
 ∃ (I2 : (List Api_Event) -> Bool -> Int -> Prop) (μ2 : (List Api_Event) -> Bool -> Int -> Nat), I2 v109 false 0 /\ ∀ (v145 : List Api_Event) (v149 : Bool) (v150 : Int), I2 v145 v149 v150 ->
 ((decide (v150 < (ops.length : Int))) = true ->
 (v149 = true ->
 VC19_J4 I2 μ2 v145 v149 v150 v145 true) /\
 (v149 = false ->
 ((decide (r123 ≥ 0)) = true ->
 ((0 : Int) ≤ v150 /\ v150 < (ops.length : Int)) /\
 VC19_J4 I2 μ2 v145 v149 v150 v145 ((gi ops v150) == r123)) /\
 ((decide (r123 ≥ 0)) = false ->
 VC19_J4 I2 μ2 v145 v149 v150 v145 false))) /\
 ((decide (v150 < (ops.length : Int))) = false ->
 VC19_J3 l_ I1 μ1 v109 v113 v145 v149)) /\
 ((decide (v113 < (l_.length : Int))) = false ->
 VC19_J1 Q v109)
def VC15_J1 (Q : ((List Api_Event) × Int) -> Prop) (v115 : List Api_Event) : Prop :=
 Q (v115, 0)
def VC15_J2 (I1 : (List Api_Event) -> Int -> Prop) (μ1 : (List Api_Event) -> Int -> Nat) (v119 : List Api_Event) (v123 : Int) (v125 : List Api_Event) : Prop :=
 I1 v125 (IntKind.i64.wrap (v123 - 1)) /\ μ1 v125 (IntKind.i64.wrap (v123 - 1)) < μ1 v119 v123
def VC15 (o_ : Api_Object) (l_ : List Api_Event) (Q : (List Api_Event) × Int -> Prop) : Prop :=
 sm o_.Rows ->
 ∀ (_ : sm l_),
 (preRL o_ l_) /\
 ∀ r104, ref41_Head o_ l_ = r104 ->
 ((r104.2 != 0) = true ->
 Q ([], r104.2)) /\
 ((r104.2 != 0) = false ->
 ((0 : Int) ≤ r104.1 /\ r104.1 ≤ (l_.length : Int)) /\
 ∀ r111, ref27_Of (l_.take r104.1.toNat) = r111 ->
 sm r111.1 ->
 ∃ (I1 : (List Api_Event) -> Int -> Prop) (μ1 : (List Api_Event) -> Int -> Nat), I1 (l_.take r104.1.toNat) (IntKind.i64.wrap ((r111.1.length : Int) - 1)) /\ ∀ (v119 : List Api_Event) (v123 : Int), I1 v119 v123 ->
 ((decide (v123 ≥ 0)) = true ->
 (preWo v119 [v123]) /\
 ∀ r137, ref41_Without v119 [v123] = r137 ->
 sm r137 ->
 (preRL o_ r137) /\
 ∀ r144, ref41_Head o_ r137 = r144 ->
 ((r144.2 == 0) = true ->
 ((0 : Int) ≤ r144.1 /\ r144.1 ≤ (r137.length : Int)) /\
 VC15_J2 I1 μ1 v119 v123 (r137.take r144.1.toNat)) /\
 ((r144.2 == 0) = false ->
 VC15_J2 I1 μ1 v119 v123 v119)) /\
 ((decide (v123 ≥ 0)) = false ->
 VC15_J1 Q v119))
def VC7 (o_ : Api_Object) (l_ : List Api_Event) (Q : Bool -> Prop) : Prop :=
 sm o_.Rows ->
 ∀ (_ : sm l_),
 ∀ r104, law23_Few o_ = r104 ->
 Q (r104 && (decide ((l_.length : Int) ≤ 10)))
def VC21 (Q : Api_Object -> Prop) : Prop :=
 Q (⟨2, 2, 0, [(⟨0, 0, 1, 0⟩ : Api_Row), (⟨0, 1, 0, 0⟩ : Api_Row), (⟨1, 0, 1, 0⟩ : Api_Row), (⟨1, 1, 1, 1⟩ : Api_Row)]⟩ : Api_Object)
def VC22 (Q : (List Api_Event) -> Prop) : Prop :=
 Q [(⟨1, 3, 1⟩ : Api_Event), (⟨1, 1, 1⟩ : Api_Event), (⟨2, 1, 1⟩ : Api_Event), (⟨1, 2, 0⟩ : Api_Event), (⟨2, 2, 0⟩ : Api_Event)]
def VC8 (Q : Bool -> Prop) : Prop :=
 ∀ r104, law41_flag = r104 ->
 sm r104.Rows ->
 ∀ r111, law41_bad = r111 ->
 sm r111 ->
 (preCa (⟨r104, r111⟩ : Histtext_Case)) /\
 ∀ r118, shrink_Lin (⟨r104, r111⟩ : Histtext_Case) = r118 ->
 (preCa (⟨r104, r111⟩ : Histtext_Case)) /\
 ∀ r122, shrink_Head (⟨r104, r111⟩ : Histtext_Case) = r122 ->
 (prePa (⟨r104, r111⟩ : Histtext_Case)) /\
 ∀ r126, shrink_Part (⟨r104, r111⟩ : Histtext_Case) = r126 ->
 sm r126.1.Object.Rows ->
 ∀ (_ : sm r126.1.Events),
 ∀ r136, law41_flag = r136 ->
 sm r136.Rows ->
 (preCa (⟨r136, []⟩ : Histtext_Case)) /\
 ∀ r143, shrink_Head (⟨r136, []⟩ : Histtext_Case) = r143 ->
 ∀ r147, law41_bad = r147 ->
 sm r147 ->
 (preWo r147 [1, 2]) /\
 ∀ r158, shrink_Without r147 [1, 2] = r158 ->
 sm r158 ->
 (preCa (⟨(⟨0, 0, 0, []⟩ : Api_Object), []⟩ : Histtext_Case)) /\
 ∀ r165, shrink_Lin (⟨(⟨0, 0, 0, []⟩ : Api_Object), []⟩ : Histtext_Case) = r165 ->
 ((((((!r118.1) && (r118.2 == 0)) && (r122.1 == 3)) && (r122.2 == 0)) && (r126.2 == 0)) = true ->
 ∀ r171, law41_bad = r171 ->
 sm r171 ->
 ((0 : Int) ≤ 1 /\ (1 : Int) ≤ 3 /\ 3 ≤ (r171.length : Int)) /\
 ∀ r181, ref25_Same r126.1.Events ((r171.take (3 : Int).toNat).drop (1 : Int).toNat) = r181 ->
 ((r181 && (r143.2 == 41)) = true ->
 ∀ r185, law41_bad = r185 ->
 sm r185 ->
 ((0 : Int) ≤ 1 /\ 1 ≤ (r185.length : Int)) /\
 ∀ r195, ref25_Same r158 (r185.take (1 : Int).toNat) = r195 ->
 Q (r195 && (r165.2 == 2))) /\
 ((r181 && (r143.2 == 41)) = false ->
 Q false)) /\
 ((((((!r118.1) && (r118.2 == 0)) && (r122.1 == 3)) && (r122.2 == 0)) && (r126.2 == 0)) = false ->
 Q false)
def VC3 (o_ : Api_Object) (l_ : List Api_Event) (Q : Bool -> Prop) : Prop :=
 sm o_.Rows ->
 ∀ (_ : sm l_),
 ∀ r104, law41_few o_ l_ = r104 ->
 ((!r104) = true ->
 ∀ r108, law41_awake = r108 ->
 Q r108) /\
 ((!r104) = false ->
 ∀ r112, oper_Of l_ = r112 ->
 sm r112.1 ->
 ((decide ((r112.1.length : Int) > 5)) = true ->
 ∀ r119, law41_awake = r119 ->
 Q r119) /\
 ((decide ((r112.1.length : Int) > 5)) = false ->
 (preCa (⟨o_, l_⟩ : Histtext_Case)) /\
 ∀ r123, shrink_Lin (⟨o_, l_⟩ : Histtext_Case) = r123 ->
 (preRL o_ l_) /\
 ∀ r127, ref41_Lin o_ l_ = r127 ->
 (preCa (⟨o_, l_⟩ : Histtext_Case)) /\
 ∀ r131, shrink_Head (⟨o_, l_⟩ : Histtext_Case) = r131 ->
 (preRL o_ l_) /\
 ∀ r135, ref41_Head o_ l_ = r135 ->
 (prePa (⟨o_, l_⟩ : Histtext_Case)) /\
 ∀ r139, shrink_Part (⟨o_, l_⟩ : Histtext_Case) = r139 ->
 sm r139.1.Object.Rows ->
 ∀ (_ : sm r139.1.Events),
 (preRL o_ l_) /\
 ∀ r149, ref41_Part o_ l_ = r149 ->
 sm r149.1 ->
 (((((r123.1 == r127.1) && (r123.2 == r127.2)) && (r131.1 == r135.1)) && (r131.2 == r135.2)) = true ->
 ∀ r156, ref25_Same r139.1.Events r149.1 = r156 ->
 ((r156 && (r139.2 == r149.2)) = true ->
 ((r149.2 != 0) = true ->
 ∀ r160, law41_awake = r160 ->
 Q r160) /\
 ((r149.2 != 0) = false ->
 ∀ r164, ref23_Same r139.1.Object o_ = r164 ->
 (r164 = true ->
 ∀ r168, law41_awake = r168 ->
 Q r168) /\
 (r164 = false ->
 Q false))) /\
 ((r156 && (r139.2 == r149.2)) = false ->
 Q false)) /\
 (((((r123.1 == r127.1) && (r123.2 == r127.2)) && (r131.1 == r135.1)) && (r131.2 == r135.2)) = false ->
 Q false)))
end Go.Proofs.Ytojdelnnjhbgbaa
