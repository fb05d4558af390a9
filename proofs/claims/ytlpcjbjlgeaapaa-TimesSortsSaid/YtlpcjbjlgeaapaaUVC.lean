/- The conditions of the functions, in terms of their callees. Definitions. -/
import Derived.Test.YtlpcjbjlgeaapaaUSpec
set_option linter.all false
namespace Go.Proofs.Ytlpcjbjlgeaapaa
open Go Go.Sv
/-- replevin/numbering.Check -/
def VC21 (s_ : Numbering_Size) (Q : Int → Prop) : Prop :=
  (((((decide (s_.Ops < 0)) || (decide (s_.Ops > 64))) || (decide (s_.States < 1))) || (decide (s_.States > 32))) = true →
  Q 2) ∧
  (((((decide (s_.Ops < 0)) || (decide (s_.Ops > 64))) || (decide (s_.States < 1))) || (decide (s_.States > 32))) = false →
  Q 0)


/-- replevin/replevinref31.Check -/
def VC22 (ops : Int) (states : Int) (Q : Int → Prop) : Prop :=
  (((((decide (ops < 0)) || (decide (ops > 64))) || (decide (states < 1))) || (decide (states > 32))) = true →
  Q 2) ∧
  (((((decide (ops < 0)) || (decide (ops > 64))) || (decide (states < 1))) || (decide (states > 32))) = false →
  Q 0)


/-- (replevin/numbering.Size).block -/
def VC56 (s_ : Numbering_Size) (kind : Int) (Q : Int × Int × Int → Prop) : Prop :=
  ((kind == 1) = true →
  Q (0, s_.Ops, s_.Ops)) ∧
  ((kind == 1) = false →
  ((kind == 2) = true →
  Q (IntKind.i64.wrap (s_.Ops * s_.Ops), 1, s_.Ops)) ∧
  ((kind == 2) = false →
  Q (IntKind.i64.wrap ((IntKind.i64.wrap (s_.Ops * s_.Ops)) + s_.Ops), s_.States, IntKind.i64.wrap (s_.Ops + 1))))


/-- replevin/numbering.Vars -/
def VC23 (s_ : Numbering_Size) (Q : Int → Prop) : Prop :=
  ∀ r104, numbering_Check s_ = r104 →
  ((r104 != 0) = true →
  Q 0) ∧
  ((r104 != 0) = false →
  ∀ r108, numbering_Size_block s_ 3 = r108 →
  Q (IntKind.i64.wrap (r108.1 + (IntKind.i64.wrap (r108.2.1 * r108.2.2)))))


/-- replevin/numbering.Var -/
def VC24 (s_ : Numbering_Size) (n_ : Numbering_Name) (Q : Int → Prop) : Prop :=
  ∀ r104, numbering_Check s_ = r104 →
  ((((r104 != 0) || (decide (n_.Kind ≤ 0))) || (decide (n_.Kind > 3))) = true →
  Q 0) ∧
  ((((r104 != 0) || (decide (n_.Kind ≤ 0))) || (decide (n_.Kind > 3))) = false →
  ∀ r108, numbering_Size_block s_ n_.Kind = r108 →
  (((((decide (n_.A < 0)) || (decide (n_.A ≥ r108.2.2))) || (decide (n_.B < 0))) || (decide (n_.B ≥ r108.2.1))) = true →
  Q 0) ∧
  (((((decide (n_.A < 0)) || (decide (n_.A ≥ r108.2.2))) || (decide (n_.B < 0))) || (decide (n_.B ≥ r108.2.1))) = false →
  Q (IntKind.i64.wrap ((IntKind.i64.wrap ((IntKind.i64.wrap (r108.1 + (IntKind.i64.wrap (n_.A * r108.2.1)))) + n_.B)) + 1))))


def VC64_J1 (Q : Int → Prop) : Prop :=
  Q (-1)
/-- slices.Index[[]int,int] -/
def VC64 (s_ : List Int) (v_ : Int) (Q : Int → Prop) : Prop :=
  ∀ (_ : sm s_),
  ∃ (I1 : Int → Prop) (μ1 : Int → Nat), I1 0 ∧ ∀ (x_102 : Int), I1 x_102 →
  ((decide (x_102 < ((s_.length : Nat) : Int))) = true →
  ((0 : Int) ≤ x_102 ∧ x_102 < (s_.length : Int)) ∧
  ((v_ == (gi s_ x_102)) = true →
  Q x_102) ∧
  ((v_ == (gi s_ x_102)) = false →
  I1 (IntKind.i64.wrap (x_102 + 1)) ∧ μ1 (IntKind.i64.wrap (x_102 + 1)) < μ1 x_102)) ∧
  ((decide (x_102 < ((s_.length : Nat) : Int))) = false →
  VC64_J1 Q)


/-- slices.Contains[[]int,int] -/
def VC68 (s_ : List Int) (v_ : Int) (Q : Bool → Prop) : Prop :=
  ∀ (_ : sm s_),
  ∀ r104, slices_Index_int_int s_ v_ = r104 →
  Q (decide (r104 ≥ 0))


/-- replevin/times.proper -/
def VC67 (p_ : Int × Int) (n_ : Int) (Q : Bool → Prop) : Prop :=
  Q (((decide ((if p_.2 < p_.1 then p_.2 else p_.1) ≥ 0)) && (decide ((if p_.2 > p_.1 then p_.2 else p_.1) < n_))) && (p_.1 != p_.2))


/-- replevin/times.Sort$1$1 -/
def VC66 (p_ : Int × Int) (cap1 : Int) (cap2 : Int) (cap3 : List Int) (Q : Bool → Prop) : Prop :=
  ∀ (_ : sm cap3),
  ∀ r104, times_proper (p_.1, p_.2) cap1 = r104 →
  ((r104 && (p_.2 == cap2)) = true →
  ∀ r108, slices_Contains_int_int cap3 p_.1 = r108 →
  Q (!r108)) ∧
  ((r104 && (p_.2 == cap2)) = false →
  Q false)


def VC80_66_J1 (Q : Int → Prop) : Prop :=
  Q (-1)
/-- slices.IndexFunc[[][2]int,[2]int] -/
def VC80_66 (s_ : List (Int × Int)) (cap1 : Int) (cap2 : Int) (cap3 : List Int) (Q : Int → Prop) : Prop :=
  ∀ (_ : sm s_),
  ∀ (_ : sm cap3),
  ∃ (I1 : Int → Prop) (μ1 : Int → Nat), I1 0 ∧ ∀ (x_103 : Int), I1 x_103 →
  ((decide (x_103 < ((s_.length : Nat) : Int))) = true →
  ((0 : Int) ≤ x_103 ∧ x_103 < (s_.length : Int)) ∧
  ∀ r111, times_Sort_1_1 (gi s_ x_103) cap1 cap2 cap3 = r111 →
  (r111 = true →
  Q x_103) ∧
  (r111 = false →
  I1 (IntKind.i64.wrap (x_103 + 1)) ∧ μ1 (IntKind.i64.wrap (x_103 + 1)) < μ1 x_103)) ∧
  ((decide (x_103 < ((s_.length : Nat) : Int))) = false →
  VC80_66_J1 Q)


/-- slices.ContainsFunc[[][2]int,[2]int] -/
def VC69_66 (s_ : List (Int × Int)) (cap1 : Int) (cap2 : Int) (cap3 : List Int) (Q : Bool → Prop) : Prop :=
  ∀ (_ : sm s_),
  ∀ (_ : sm cap3),
  ∀ r104, slices_IndexFunc_2_int_2_int_times_Sort_1_1 s_ cap1 cap2 cap3 = r104 →
  Q (decide (r104 ≥ 0))


/-- replevin/times.Sort$1 -/
def VC65 (x_ : Int) (cap1 : Int) (cap2 : List Int) (cap3 : List (Int × Int)) (Q : Bool → Prop) : Prop :=
  ∀ (_ : sm cap2),
  ∀ (_ : sm cap3),
  ∀ r104, slices_Contains_int_int cap2 x_ = r104 →
  (r104 = true →
  Q true) ∧
  (r104 = false →
  ∀ r108, slices_ContainsFunc_2_int_2_int_times_Sort_1_1 cap3 cap1 x_ cap2 = r108 →
  Q r108)


def VC40_J1 (Q : ((List Int) × Bool) → Prop) (x_105 : List Int) : Prop :=
  Q (x_105, true)
def VC40_J2 (n_ : Int) (Q : ((List Int) × Bool) → Prop) (I1 : (List Int) → Prop) (μ1 : (List Int) → Nat) (x_112 : List Int) (x_116 : Int) (x_118 : List Int) : Prop :=
  ((x_116 == n_) = true →
  Q ([], false)) ∧
  ((x_116 == n_) = false →
  (x_118.length + [x_116].length ≤ 1099511627776) ∧
  I1 (x_118 ++ [x_116]) ∧ μ1 (x_118 ++ [x_116]) < μ1 x_112)
def VC40_J3 (n_ : Int) (Q : ((List Int) × Bool) → Prop) (I1 : (List Int) → Prop) (μ1 : (List Int) → Nat) (x_112 : List Int) (I2 : Int → (List Int) → Prop) (μ2 : Int → (List Int) → Nat) (x_133 : Int) (x_135 : List Int) (x_139 : Bool) (x_141 : List Int) : Prop :=
  (x_139 = true →
  I2 (IntKind.i64.wrap (x_133 + 1)) x_141 ∧ μ2 (IntKind.i64.wrap (x_133 + 1)) x_141 < μ2 x_133 x_135) ∧
  (x_139 = false →
  VC40_J2 n_ Q I1 μ1 x_112 x_133 x_141)
/-- replevin/times.Sort -/
def VC40 (n_ : Int) (pairs : List (Int × Int)) (Q : (List Int) × Bool → Prop) : Prop :=
  ∀ (_ : sm pairs),
  (((decide (n_ < 0)) || (decide (n_ > 64))) = true →
  Q ([], false)) ∧
  (((decide (n_ < 0)) || (decide (n_ > 64))) = false →
  ((0 : Int) ≤ 0 ∧ 0 ≤ n_ ∧ n_ ≤ 1099511627776) ∧
  ∃ (I1 : (List Int) → Prop) (μ1 : (List Int) → Nat), I1 (List.replicate (0 : Int).toNat (0 : Int)) ∧ ∀ (x_112 : List Int), I1 x_112 →
  ((decide (((x_112.length : Nat) : Int) < n_)) = true →
  ∃ (I2 : Int → (List Int) → Prop) (μ2 : Int → (List Int) → Nat), I2 0 x_112 ∧ ∀ (x_133 : Int) (x_135 : List Int), I2 x_133 x_135 →
  ((decide (x_133 < n_)) = true →
  ∀ r148, times_Sort_1 x_133 n_ x_135 pairs = r148 →
  VC40_J3 n_ Q I1 μ1 x_112 I2 μ2 x_133 x_135 r148 x_135) ∧
  ((decide (x_133 < n_)) = false →
  VC40_J3 n_ Q I1 μ1 x_112 I2 μ2 x_133 x_135 false x_135)) ∧
  ((decide (((x_112.length : Nat) : Int) < n_)) = false →
  VC40_J1 Q x_112))


/-- replevin/times.Against$1 -/
def VC63 (x_ : Int) (cap1 : List Int) (Q : Int → Prop) : Prop :=
  ∀ (_ : sm cap1),
  ∀ r104, slices_Index_int_int cap1 x_ = r104 →
  Q r104


def VC38_J1 (pairs : List (Int × Int)) (Q : (Int × Bool) → Prop) : Prop :=
  Q (((pairs.length : Nat) : Int), true)
/-- replevin/times.Against -/
def VC38 (order : List Int) (pairs : List (Int × Int)) (Q : Int × Bool → Prop) : Prop :=
  ∀ (_ : sm order),
  ∀ (_ : sm pairs),
  ∃ (I1 : Int → Prop) (μ1 : Int → Nat), I1 0 ∧ ∀ (x_104 : Int), I1 x_104 →
  ((decide (x_104 < ((pairs.length : Nat) : Int))) = true →
  ((0 : Int) ≤ x_104 ∧ x_104 < (pairs.length : Int)) ∧
  ∀ r113, times_Against_1 ((gi pairs x_104).1) order = r113 →
  ∀ r118, times_Against_1 ((gi pairs x_104).2) order = r118 →
  ((((decide (r113 ≥ 0)) && (decide (r118 ≥ 0))) && (decide (r118 < r113))) = true →
  Q (x_104, false)) ∧
  ((((decide (r113 ≥ 0)) && (decide (r118 ≥ 0))) && (decide (r118 < r113))) = false →
  I1 (IntKind.i64.wrap (x_104 + 1)) ∧ μ1 (IntKind.i64.wrap (x_104 + 1)) < μ1 x_104)) ∧
  ((decide (x_104 < ((pairs.length : Nat) : Int))) = false →
  VC38_J1 pairs Q)


/-- replevin/times.Clauses$1 -/
def VC70 (a_ : Int) (b_ : Int) (cap1 : Numbering_Size) (Q : Int → Prop) : Prop :=
  ∀ r104, numbering_Var cap1 (⟨1, a_, b_⟩ : Numbering_Name) = r104 →
  Q r104


def VC42_J1 (Q : ((List (List Int))) → Prop) (out_105 : List (List Int)) : Prop :=
  Q out_105
def VC42_J2 (I1 : (List (List Int)) → Int → Prop) (μ1 : (List (List Int)) → Int → Nat) (out_111 : List (List Int)) (x_116 : Int) (out_117 : List (List Int)) : Prop :=
  I1 out_117 (IntKind.i64.wrap (x_116 + 1)) ∧ μ1 out_117 (IntKind.i64.wrap (x_116 + 1)) < μ1 out_111 x_116
def VC42_J3 (I2 : (List (List Int)) → Int → Prop) (μ2 : (List (List Int)) → Int → Nat) (out_129 : List (List Int)) (x_134 : Int) (out_135 : List (List Int)) : Prop :=
  I2 out_135 (IntKind.i64.wrap (x_134 + 1)) ∧ μ2 out_135 (IntKind.i64.wrap (x_134 + 1)) < μ2 out_129 x_134
/-- replevin/times.Clauses -/
def VC42 (s_ : Numbering_Size) (pairs : List (Int × Int)) (Q : (List (List Int)) → Prop) : Prop :=
  ∀ (_ : sm pairs),
  ∀ r104, numbering_Check s_ = r104 →
  ((r104 != 0) = true →
  Q []) ∧
  ((r104 != 0) = false →
  ∃ (I1 : (List (List Int)) → Int → Prop) (μ1 : (List (List Int)) → Int → Nat), I1 [] 0 ∧ ∀ (out_111 : List (List Int)) (x_116 : Int), I1 out_111 x_116 →
  ((decide (x_116 < ((pairs.length : Nat) : Int))) = true →
  ((0 : Int) ≤ x_116 ∧ x_116 < (pairs.length : Int)) ∧
  ∀ r128, times_proper ((gi pairs x_116).1, (gi pairs x_116).2) s_.Ops = r128 →
  ((!r128) = true →
  VC42_J2 I1 μ1 out_111 x_116 out_111) ∧
  ((!r128) = false →
  ∃ (I2 : (List (List Int)) → Int → Prop) (μ2 : (List (List Int)) → Int → Nat), I2 out_111 0 ∧ ∀ (out_129 : List (List Int)) (x_134 : Int), I2 out_129 x_134 →
  ((decide (x_134 < s_.Ops)) = true →
  ∃ (I3 : (List (List Int)) → Int → Prop) (μ3 : (List (List Int)) → Int → Nat), I3 out_129 0 ∧ ∀ (out_140 : List (List Int)) (x_145 : Int), I3 out_140 x_145 →
  ((decide (x_145 < x_134)) = true →
  ∀ r150, times_Clauses_1 ((gi pairs x_116).1) x_134 s_ = r150 →
  ∀ r155, times_Clauses_1 ((gi pairs x_116).2) x_145 s_ = r155 →
  (out_140.length + [[IntKind.i64.wrap (0 - r150), IntKind.i64.wrap (0 - r155)]].length ≤ 1099511627776) ∧
  I3 (out_140 ++ [[IntKind.i64.wrap (0 - r150), IntKind.i64.wrap (0 - r155)]]) (IntKind.i64.wrap (x_145 + 1)) ∧ μ3 (out_140 ++ [[IntKind.i64.wrap (0 - r150), IntKind.i64.wrap (0 - r155)]]) (IntKind.i64.wrap (x_145 + 1)) < μ3 out_140 x_145) ∧
  ((decide (x_145 < x_134)) = false →
  VC42_J3 I2 μ2 out_129 x_134 out_140)) ∧
  ((decide (x_134 < s_.Ops)) = false →
  VC42_J2 I1 μ1 out_111 x_116 out_129))) ∧
  ((decide (x_116 < ((pairs.length : Nat) : Int))) = false →
  VC42_J1 Q out_111))


def VC34_J1 (Q : Bool → Prop) : Prop :=
  Q true
/-- replevin/replevinref01.SameInts -/
def VC34 (a_ : List Int) (b_ : List Int) (Q : Bool → Prop) : Prop :=
  ∀ (_ : sm a_),
  ∀ (_ : sm b_),
  ((((a_.length : Nat) : Int) != ((b_.length : Nat) : Int)) = true →
  Q false) ∧
  ((((a_.length : Nat) : Int) != ((b_.length : Nat) : Int)) = false →
  ∃ (I1 : Int → Prop) (μ1 : Int → Nat), I1 0 ∧ ∀ (i_103 : Int), I1 i_103 →
  ((decide (i_103 < ((a_.length : Nat) : Int))) = true →
  ((0 : Int) ≤ i_103 ∧ i_103 < (a_.length : Int)) ∧
  ((0 : Int) ≤ i_103 ∧ i_103 < (b_.length : Int)) ∧
  (((gi a_ i_103) != (gi b_ i_103)) = true →
  Q false) ∧
  (((gi a_ i_103) != (gi b_ i_103)) = false →
  I1 (IntKind.i64.wrap (i_103 + 1)) ∧ μ1 (IntKind.i64.wrap (i_103 + 1)) < μ1 i_103)) ∧
  ((decide (i_103 < ((a_.length : Nat) : Int))) = false →
  VC34_J1 Q))


def VC31_J1 (Q : Bool → Prop) : Prop :=
  Q true
/-- replevin/replevinref04.SameRows -/
def VC31 (a_ : List (List Int)) (b_ : List (List Int)) (Q : Bool → Prop) : Prop :=
  ∀ (_ : sm a_),
  ∀ (_ : sm b_),
  ((((a_.length : Nat) : Int) != ((b_.length : Nat) : Int)) = true →
  Q false) ∧
  ((((a_.length : Nat) : Int) != ((b_.length : Nat) : Int)) = false →
  ∃ (I1 : Int → Prop) (μ1 : Int → Nat), I1 0 ∧ ∀ (i_103 : Int), I1 i_103 →
  ((decide (i_103 < ((a_.length : Nat) : Int))) = true →
  ((0 : Int) ≤ i_103 ∧ i_103 < (a_.length : Int)) ∧
  ∀ (_ : sm (gi a_ i_103)),
  ((0 : Int) ≤ i_103 ∧ i_103 < (b_.length : Int)) ∧
  ∀ (_ : sm (gi b_ i_103)),
  ∀ r120, ref01_SameInts (gi a_ i_103) (gi b_ i_103) = r120 →
  ((!r120) = true →
  Q false) ∧
  ((!r120) = false →
  I1 (IntKind.i64.wrap (i_103 + 1)) ∧ μ1 (IntKind.i64.wrap (i_103 + 1)) < μ1 i_103)) ∧
  ((decide (i_103 < ((a_.length : Nat) : Int))) = false →
  VC31_J1 Q))


/-- replevin/replevinlaw33.awake -/
def VC37 (Q : Bool → Prop) : Prop :=
  (preCl (⟨2, 1⟩ : Numbering_Size) [(0, 1)]) ∧
  ∀ r108, times_Clauses (⟨2, 1⟩ : Numbering_Size) [(0, 1)] = r108 →
  ∀ (_ : sm r108),
  ∀ r123, times_Against [1, 0] [(0, 1)] = r123 →
  ∀ r135, times_Against [0, 1] [(0, 1)] = r135 →
  ∀ r143, times_Sort 3 [(2, 0)] = r143 →
  ∀ (_ : sm r143.1),
  ∀ r154, times_Sort 2 [(0, 1), (1, 0)] = r154 →
  ∀ (_ : sm r154.1),
  ∀ r169, ref04_SameRows r108 [[(-2), (-3)]] = r169 →
  ((((((r169 && (r123.1 == 0)) && (!r123.2)) && (r135.1 == 1)) && r135.2) && r143.2) = true →
  ∀ r177, ref01_SameInts r143.1 [1, 2, 0] = r177 →
  Q (r177 && (!r154.2))) ∧
  ((((((r169 && (r123.1 == 0)) && (!r123.2)) && (r135.1 == 1)) && r135.2) && r143.2) = false →
  Q false)


/-- replevin/oper.ended -/
def VC82 (o_ : Api_Oper) (Q : Bool → Prop) : Prop :=
  ((o_.End == (-1)) = true →
  Q (o_.Result == (-1))) ∧
  ((o_.End == (-1)) = false →
  Q ((((decide (o_.End > o_.Start)) && (decide (o_.End ≤ 9999))) && (decide (o_.Result ≥ 0))) && (decide (o_.Result ≤ 1000000))))


/-- replevin/oper.alone -/
def VC77 (o_ : Api_Oper) (Q : Int → Prop) : Prop :=
  (((((decide (o_.Prc < 1)) || (decide (o_.Prc > 1000))) || (decide (o_.Start < 0))) || (decide (o_.Start > 9999))) = true →
  Q 2) ∧
  (((((decide (o_.Prc < 1)) || (decide (o_.Prc > 1000))) || (decide (o_.Start < 0))) || (decide (o_.Start > 9999))) = false →
  (((decide (o_.Kind < 0)) || (decide (o_.Kind ≥ 64))) = true →
  Q 31) ∧
  (((decide (o_.Kind < 0)) || (decide (o_.Kind ≥ 64))) = false →
  ∀ r104, oper_ended o_ = r104 →
  ((!r104) = true →
  Q 7) ∧
  ((!r104) = false →
  Q 0)))


/-- replevin/oper.Ahead -/
def VC78 (a_ : Api_Oper) (b_ : Api_Oper) (Q : Bool → Prop) : Prop :=
  Q ((decide (a_.End ≥ 0)) && (decide (a_.End < b_.Start)))


def VC54_J1 (l_ : List Api_Oper) (Q : (Int × Int) → Prop) : Prop :=
  Q (((l_.length : Nat) : Int), 0)
def VC54_J2 (l_ : List Api_Oper) (I1 : (List (Int × Int)) → (List (Int × Api_Oper)) → Int → Prop) (μ1 : (List (Int × Int)) → (List (Int × Api_Oper)) → Int → Nat) (used_111 : List (Int × Int)) (latest_113 : List (Int × Api_Oper)) (x_116 : Int) (used_118 : List (Int × Int)) : Prop :=
  I1 used_118 (mput latest_113 ((gi l_ x_116).Prc) (gi l_ x_116)) (IntKind.i64.wrap (x_116 + 1)) ∧ μ1 used_118 (mput latest_113 ((gi l_ x_116).Prc) (gi l_ x_116)) (IntKind.i64.wrap (x_116 + 1)) < μ1 used_111 latest_113 x_116
def VC54_J4 (l_ : List Api_Oper) (Q : (Int × Int) → Prop) (I1 : (List (Int × Int)) → (List (Int × Api_Oper)) → Int → Prop) (μ1 : (List (Int × Int)) → (List (Int × Api_Oper)) → Int → Nat) (used_111 : List (Int × Int)) (latest_113 : List (Int × Api_Oper)) (x_116 : Int) (x_139 : Bool) : Prop :=
  (x_139 = true →
  Q (x_116, 33)) ∧
  (x_139 = false →
  ((decide (((gi l_ x_116).End) ≥ 0)) = true →
  VC54_J2 l_ I1 μ1 used_111 latest_113 x_116 (mput (mput used_111 ((gi l_ x_116).Start) (IntKind.i64.wrap (((mget used_111 ((gi l_ x_116).Start)).getD 0) + 1))) ((gi l_ x_116).End) (IntKind.i64.wrap (((mget (mput used_111 ((gi l_ x_116).Start) (IntKind.i64.wrap (((mget used_111 ((gi l_ x_116).Start)).getD 0) + 1))) ((gi l_ x_116).End)).getD 0) + 1)))) ∧
  ((decide (((gi l_ x_116).End) ≥ 0)) = false →
  VC54_J2 l_ I1 μ1 used_111 latest_113 x_116 (mput used_111 ((gi l_ x_116).Start) (IntKind.i64.wrap (((mget used_111 ((gi l_ x_116).Start)).getD 0) + 1)))))
def VC54_J3 (l_ : List Api_Oper) (Q : (Int × Int) → Prop) (I1 : (List (Int × Int)) → (List (Int × Api_Oper)) → Int → Prop) (μ1 : (List (Int × Int)) → (List (Int × Api_Oper)) → Int → Nat) (used_111 : List (Int × Int)) (latest_113 : List (Int × Api_Oper)) (x_116 : Int) (x_133 : Bool) : Prop :=
  (x_133 = true →
  Q (x_116, 32)) ∧
  (x_133 = false →
  (((mget latest_113 ((gi l_ x_116).Prc)).isSome) = true →
  ∀ r151, oper_Ahead ((mget latest_113 ((gi l_ x_116).Prc)).getD (⟨0, 0, 0, 0, 0⟩ : Api_Oper)) (gi l_ x_116) = r151 →
  VC54_J4 l_ Q I1 μ1 used_111 latest_113 x_116 (!r151)) ∧
  (((mget latest_113 ((gi l_ x_116).Prc)).isSome) = false →
  VC54_J4 l_ Q I1 μ1 used_111 latest_113 x_116 false))
/-- replevin/oper.Check -/
def VC54 (l_ : List Api_Oper) (Q : Int × Int → Prop) : Prop :=
  ∀ (_ : sm l_),
  ((decide (((l_.length : Nat) : Int) > 5000)) = true →
  Q (0, 3)) ∧
  ((decide (((l_.length : Nat) : Int) > 5000)) = false →
  ∃ (I1 : (List (Int × Int)) → (List (Int × Api_Oper)) → Int → Prop) (μ1 : (List (Int × Int)) → (List (Int × Api_Oper)) → Int → Nat), I1 ([] : List (Int × Int)) ([] : List (Int × Api_Oper)) 0 ∧ ∀ (used_111 : List (Int × Int)) (latest_113 : List (Int × Api_Oper)) (x_116 : Int), I1 used_111 latest_113 x_116 →
  ((decide (x_116 < ((l_.length : Nat) : Int))) = true →
  ((0 : Int) ≤ x_116 ∧ x_116 < (l_.length : Int)) ∧
  ∀ r128, oper_alone (gi l_ x_116) = r128 →
  ((r128 != 0) = true →
  Q (x_116, r128)) ∧
  ((r128 != 0) = false →
  ((decide (x_116 > 0)) = true →
  ((0 : Int) ≤ (IntKind.i64.wrap (x_116 - 1)) ∧ (IntKind.i64.wrap (x_116 - 1)) < (l_.length : Int)) ∧
  ((decide (((gi l_ x_116).Start) ≤ ((gi l_ (IntKind.i64.wrap (x_116 - 1))).Start))) = true →
  VC54_J3 l_ Q I1 μ1 used_111 latest_113 x_116 true) ∧
  ((decide (((gi l_ x_116).Start) ≤ ((gi l_ (IntKind.i64.wrap (x_116 - 1))).Start))) = false →
  ((decide (((mget used_111 ((gi l_ x_116).Start)).getD 0) > 0)) = true →
  VC54_J3 l_ Q I1 μ1 used_111 latest_113 x_116 true) ∧
  ((decide (((mget used_111 ((gi l_ x_116).Start)).getD 0) > 0)) = false →
  ((decide (((gi l_ x_116).End) ≥ 0)) = true →
  VC54_J3 l_ Q I1 μ1 used_111 latest_113 x_116 (decide (((mget used_111 ((gi l_ x_116).End)).getD 0) > 0))) ∧
  ((decide (((gi l_ x_116).End) ≥ 0)) = false →
  VC54_J3 l_ Q I1 μ1 used_111 latest_113 x_116 false)))) ∧
  ((decide (x_116 > 0)) = false →
  ((decide (((mget used_111 ((gi l_ x_116).Start)).getD 0) > 0)) = true →
  VC54_J3 l_ Q I1 μ1 used_111 latest_113 x_116 true) ∧
  ((decide (((mget used_111 ((gi l_ x_116).Start)).getD 0) > 0)) = false →
  ((decide (((gi l_ x_116).End) ≥ 0)) = true →
  VC54_J3 l_ Q I1 μ1 used_111 latest_113 x_116 (decide (((mget used_111 ((gi l_ x_116).End)).getD 0) > 0))) ∧
  ((decide (((gi l_ x_116).End) ≥ 0)) = false →
  VC54_J3 l_ Q I1 μ1 used_111 latest_113 x_116 false))))) ∧
  ((decide (x_116 < ((l_.length : Nat) : Int))) = false →
  VC54_J1 l_ Q))


def VC55_J1 (Q : ((List (Int × Int))) → Prop) (out_101 : List (Int × Int)) : Prop :=
  Q out_101
def VC55_J2 (I1 : (List (Int × Int)) → Int → Prop) (μ1 : (List (Int × Int)) → Int → Nat) (out_108 : List (Int × Int)) (x_113 : Int) (out_115 : List (Int × Int)) : Prop :=
  I1 out_115 (IntKind.i64.wrap (x_113 + 1)) ∧ μ1 out_115 (IntKind.i64.wrap (x_113 + 1)) < μ1 out_108 x_113
def VC55_J3 (I2 : (List (Int × Int)) → Int → Prop) (μ2 : (List (Int × Int)) → Int → Nat) (out_124 : List (Int × Int)) (x_130 : Int) (out_132 : List (Int × Int)) : Prop :=
  I2 out_132 (IntKind.i64.wrap (x_130 + 1)) ∧ μ2 out_132 (IntKind.i64.wrap (x_130 + 1)) < μ2 out_124 x_130
/-- replevin/oper.Pairs -/
def VC55 (l_ : List Api_Oper) (Q : (List (Int × Int)) → Prop) : Prop :=
  ∀ (_ : sm l_),
  ∃ (I1 : (List (Int × Int)) → Int → Prop) (μ1 : (List (Int × Int)) → Int → Nat), I1 [] 0 ∧ ∀ (out_108 : List (Int × Int)) (x_113 : Int), I1 out_108 x_113 →
  ((decide (x_113 < ((l_.length : Nat) : Int))) = true →
  ((0 : Int) ≤ x_113 ∧ x_113 < (l_.length : Int)) ∧
  ∃ (I2 : (List (Int × Int)) → Int → Prop) (μ2 : (List (Int × Int)) → Int → Nat), I2 out_108 0 ∧ ∀ (out_124 : List (Int × Int)) (x_130 : Int), I2 out_124 x_130 →
  ((decide (x_130 < ((l_.length : Nat) : Int))) = true →
  ((0 : Int) ≤ x_130 ∧ x_130 < (l_.length : Int)) ∧
  ∀ r144, oper_Ahead (gi l_ x_113) (gi l_ x_130) = r144 →
  (r144 = true →
  (out_124.length + [(x_113, x_130)].length ≤ 1099511627776) ∧
  VC55_J3 I2 μ2 out_124 x_130 (out_124 ++ [(x_113, x_130)])) ∧
  (r144 = false →
  VC55_J3 I2 μ2 out_124 x_130 out_124)) ∧
  ((decide (x_130 < ((l_.length : Nat) : Int))) = false →
  VC55_J2 I1 μ1 out_108 x_113 out_124)) ∧
  ((decide (x_113 < ((l_.length : Nat) : Int))) = false →
  VC55_J1 Q out_108)


def VC16_J1 (Q : Bool → Prop) : Prop :=
  ∀ r130, law33_awake = r130 →
  Q r130
/-- replevin/replevinlaw33.TimesSorts -/
def VC16 (l_ : List Api_Oper) (Q : Bool → Prop) : Prop :=
  ∀ (_ : sm l_),
  ((decide (((l_.length : Nat) : Int) > 40)) = true →
  ∀ r104, law33_awake = r104 →
  Q r104) ∧
  ((decide (((l_.length : Nat) : Int) > 40)) = false →
  ∀ r108, oper_Check l_ = r108 →
  ((r108.2 != 0) = true →
  ∀ r112, law33_awake = r112 →
  Q r112) ∧
  ((r108.2 != 0) = false →
  (prePairs l_) ∧
  ∀ r116, oper_Pairs l_ = r116 →
  ∀ (_ : sm r116),
  ∀ r123, times_Sort ((l_.length : Nat) : Int) r116 = r123 →
  ∀ (_ : sm r123.1),
  (((!r123.2) || (((r123.1.length : Nat) : Int) != ((l_.length : Nat) : Int))) = true →
  Q false) ∧
  (((!r123.2) || (((r123.1.length : Nat) : Int) != ((l_.length : Nat) : Int))) = false →
  ∃ (I1 : Int → Prop) (μ1 : Int → Nat), I1 0 ∧ ∀ (i_132 : Int), I1 i_132 →
  ((decide (i_132 < ((r123.1.length : Nat) : Int))) = true →
  ((0 : Int) ≤ i_132 ∧ i_132 < (r123.1.length : Int)) ∧
  (((gi r123.1 i_132) != i_132) = true →
  Q false) ∧
  (((gi r123.1 i_132) != i_132) = false →
  I1 (IntKind.i64.wrap (i_132 + 1)) ∧ μ1 (IntKind.i64.wrap (i_132 + 1)) < μ1 i_132)) ∧
  ((decide (i_132 < ((r123.1.length : Nat) : Int))) = false →
  VC16_J1 Q))))


end Go.Proofs.Ytlpcjbjlgeaapaa
