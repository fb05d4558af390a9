/- The conditions of the functions, in terms of their callees. -/
import Derived.Test.YteahldlmkheleaaLSpec
set_option linter.all false
namespace Go.Proofs.Yteahldlmkheleaa
open Go Go.Sv
def VC17 (o_ : ai) (Q : Bool -> Prop) : Prop :=
 sm o_.Rows ->
 Q (decide ((o_.Rows.length : Int) ≤ 300))
def VC47 (n_ : Int) (top : Int) (Q : Bool -> Prop) : Prop :=
 Q ((decide (n_ ≥ 0)) && (decide (n_ < top)))
def VC77_J1 (Q : Int -> Prop) : Prop :=
 Q 0
def VC77 (vals : List Int) (Q : Int -> Prop) : Prop :=
 sm vals ->
 ∃ (I1 : Int -> Prop) (μ1 : Int -> Nat), I1 0 /\ ∀ (v102 : Int), I1 v102 ->
 ((decide (v102 < (vals.length : Int))) = true ->
 ((0 : Int) ≤ v102 /\ v102 < (vals.length : Int)) /\
 (((gi vals v102) != 0) = true ->
 Q (gi vals v102)) /\
 (((gi vals v102) != 0) = false ->
 I1 (IntKind.i64.wrap (v102 + 1)) /\ μ1 (IntKind.i64.wrap (v102 + 1)) < μ1 v102)) /\
 ((decide (v102 < (vals.length : Int))) = false ->
 VC77_J1 Q)
def VC90 (x_ : Int) (Q : Bool -> Prop) : Prop :=
 Q (x_ != x_)
def VC78 (x_ : Int) (y_ : Int) (Q : Int -> Prop) : Prop :=
 ∀ r104, dc x_ = r104 ->
 ∀ r108, dc y_ = r108 ->
 (r104 = true ->
 (r108 = true ->
 Q 0) /\
 (r108 = false ->
 Q (-1))) /\
 (r104 = false ->
 (r108 = true ->
 Q 1) /\
 (r108 = false ->
 ((decide (x_ < y_)) = true ->
 Q (-1)) /\
 ((decide (x_ < y_)) = false ->
 ((decide (x_ > y_)) = true ->
 Q 1) /\
 ((decide (x_ > y_)) = false ->
 Q 0))))
def VC65 (a_ : aS) (b_ : aS) (Q : Int -> Prop) : Prop :=
 ∀ r106, cj a_.State b_.State = r106 ->
 ∀ r110, cj a_.Kind b_.Kind = r110 ->
 ∀ r118, eb [r106, r110] = r118 ->
 Q r118
def VC48_J2 (Q : Int -> Prop) (v114 : Bool) : Prop :=
 (v114 = true ->
 Q 32) /\
 (v114 = false ->
 Q 0)
def VC48_J1 (o_ : ai) (i_ : Int) (Q : Int -> Prop) (v104 : Bool) : Prop :=
 (v104 = true ->
 Q 30) /\
 (v104 = false ->
 ∀ r109, bz ((gi o_.Rows i_).Kind) o_.av = r109 ->
 ((!r109) = true ->
 Q 31) /\
 ((!r109) = false ->
 ∀ r113, bz ((gi o_.Rows i_).Result) 1000001 = r113 ->
 ((!r113) = true ->
 Q 7) /\
 ((!r113) = false ->
 ((decide (i_ > 0)) = true ->
 ((0 : Int) ≤ (IntKind.i64.wrap (i_ - 1)) /\ (IntKind.i64.wrap (i_ - 1)) < (o_.Rows.length : Int)) /\
 ∀ r123, dX (gi o_.Rows (IntKind.i64.wrap (i_ - 1))) (gi o_.Rows i_) = r123 ->
 VC48_J2 Q (decide (r123 ≥ 0))) /\
 ((decide (i_ > 0)) = false ->
 VC48_J2 Q false))))
def VC48 (o_ : ai) (i_ : Int) (Q : Int -> Prop) : Prop :=
 sm o_.Rows ->
 ((0 : Int) ≤ i_ /\ i_ < (o_.Rows.length : Int)) /\
 ∀ r129, bz ((gi o_.Rows i_).State) o_.ao = r129 ->
 ((!r129) = true ->
 VC48_J1 o_ i_ Q true) /\
 ((!r129) = false ->
 ∀ r133, bz ((gi o_.Rows i_).Next) o_.ao = r133 ->
 VC48_J1 o_ i_ Q (!r133))
def VC24_J2 (o_ : ai) (Q : (Int × Int) -> Prop) : Prop :=
 Q ((o_.Rows.length : Int), 0)
def VC24_J1 (o_ : ai) (Q : (Int × Int) -> Prop) (v101 : Bool) : Prop :=
 (v101 = true ->
 Q ((-1), 2)) /\
 (v101 = false ->
 ∃ (I1 : Int -> Prop) (μ1 : Int -> Nat), I1 0 /\ ∀ (v104 : Int), I1 v104 ->
 ((decide (v104 < (o_.Rows.length : Int))) = true ->
 (lq o_ v104) /\
 ∀ r109, eU o_ v104 = r109 ->
 ((r109 != 0) = true ->
 Q (v104, r109)) /\
 ((r109 != 0) = false ->
 I1 (IntKind.i64.wrap (v104 + 1)) /\ μ1 (IntKind.i64.wrap (v104 + 1)) < μ1 v104)) /\
 ((decide (v104 < (o_.Rows.length : Int))) = false ->
 VC24_J2 o_ Q))
def VC24 (o_ : ai) (Q : Int × Int -> Prop) : Prop :=
 sm o_.Rows ->
 ∀ r117, bz (IntKind.i64.wrap (o_.ao - 1)) 32 = r117 ->
 ((!r117) = true ->
 VC24_J1 o_ Q true) /\
 ((!r117) = false ->
 ∀ r121, bz (IntKind.i64.wrap (o_.av - 1)) 64 = r121 ->
 ((!r121) = true ->
 VC24_J1 o_ Q true) /\
 ((!r121) = false ->
 ∀ r125, bz o_.aC o_.ao = r125 ->
 VC24_J1 o_ Q (!r125)))
def VC74 (o_ : ai) (state : Int) (Q : Int -> Prop) : Prop :=
 sm o_.Rows ->
 (fV o_) /\
 ∀ r104, bd o_ = r104 ->
 ((r104.2 != 0) = true ->
 Q 2) /\
 ((r104.2 != 0) = false ->
 (((decide (state < 0)) || (decide (state ≥ o_.ao))) = true ->
 Q 30) /\
 (((decide (state < 0)) || (decide (state ≥ o_.ao))) = false ->
 Q 0))
def VC75 (o_ : ai) (l_ : List aa) (state : Int) (Q : (List aa) × (List (Int × Int)) × ai × Int -> Prop) : Prop :=
 sm o_.Rows ->
 ∀ (_ : sm l_),
 Q (l_, ([] : List (Int × Int)), o_, state)
def VC92 (r_ : aS) (cap1 : Int) (cap2 : Int) (Q : Bool -> Prop) : Prop :=
 Q (r_.State == cap1 && (r_.Kind == cap2 && (r_.Next == r_.Next && (r_.Result == r_.Result && true))))
def VC93_92_J1 (Q : Int -> Prop) : Prop :=
 Q (-1)
def VC93_92 (s_ : List aS) (cap1 : Int) (cap2 : Int) (Q : Int -> Prop) : Prop :=
 sm s_ ->
 ∃ (I1 : Int -> Prop) (μ1 : Int -> Nat), I1 0 /\ ∀ (v102 : Int), I1 v102 ->
 ((decide (v102 < (s_.length : Int))) = true ->
 ((0 : Int) ≤ v102 /\ v102 < (s_.length : Int)) /\
 ∀ r109, ek (gi s_ v102) cap1 cap2 = r109 ->
 (r109 = true ->
 Q v102) /\
 (r109 = false ->
 I1 (IntKind.i64.wrap (v102 + 1)) /\ μ1 (IntKind.i64.wrap (v102 + 1)) < μ1 v102)) /\
 ((decide (v102 < (s_.length : Int))) = false ->
 VC93_92_J1 Q)
def VC83 (o_ : ai) (state : Int) (kind : Int) (Q : Int × Int × Bool -> Prop) : Prop :=
 sm o_.Rows ->
 ∀ r104, aX o_.Rows state kind = r104 ->
 ((decide (r104 < 0)) = true ->
 Q (0, 0, false)) /\
 ((decide (r104 < 0)) = false ->
 ((0 : Int) ≤ r104 /\ r104 < (o_.Rows.length : Int)) /\
 ((0 : Int) ≤ r104 /\ r104 < (o_.Rows.length : Int)) /\
 Q ((gi o_.Rows r104).Next, (gi o_.Rows r104).Result, true))
def VC95 (t_ : eH) (state : Int) (kind : Int) (Q : Int × Int × Bool -> Prop) : Prop :=
 sm t_.o.Rows ->
 ∀ r104, bJ t_.o state kind = r104 ->
 Q (r104.1, r104.2.1, r104.2.2)
def VC88 (o_ : ai) (state : Int) (kind : Int) (result : Int) (Q : Int × Int -> Prop) : Prop :=
 sm o_.Rows ->
 (((decide (state < 0)) || (decide (state ≥ o_.ao))) = true ->
 Q (0, 30)) /\
 (((decide (state < 0)) || (decide (state ≥ o_.ao))) = false ->
 ∀ r104, de (⟨o_⟩ : eH) state kind = r104 ->
 (((!r104.2.2) || (r104.2.1 != result)) = true ->
 Q (0, 40)) /\
 (((!r104.2.2) || (r104.2.1 != result)) = false ->
 Q (r104.1, 0)))
def VC87_J1 (p_ : ah) (cap2 : List (Int × Int)) (cap4 : Int) (Q : (Int × Int × (List (Int × Int)) × Int) -> Prop) (r111 : Int × Int) (v112 : Int) : Prop :=
 ((v112 != 0) = true ->
 Q (0, v112, cg cap2 p_.Oper (IntKind.i64.wrap (((ay cap2 p_.Oper).getD 0) + 1)), cap4)) /\
 ((v112 != 0) = false ->
 Q (r111.1, 0, cg cap2 p_.Oper (IntKind.i64.wrap (((ay cap2 p_.Oper).getD 0) + 1)), r111.1))
def VC87 (p_ : ah) (cap1 : List aa) (cap2 : List (Int × Int)) (cap3 : ai) (cap4 : Int) (Q : Int × Int × (List (Int × Int)) × Int -> Prop) : Prop :=
 sm cap1 ->
 ∀ (_ : sm cap3.Rows),
 (((decide (p_.Oper < 0)) || (decide (p_.Oper ≥ (cap1.length : Int)))) = true ->
 Q (0, 2, cap2, cap4)) /\
 (((decide (p_.Oper < 0)) || (decide (p_.Oper ≥ (cap1.length : Int)))) = false ->
 ((decide (((ay cap2 p_.Oper).getD 0) > 0)) = true ->
 Q (0, 21, cap2, cap4)) /\
 ((decide (((ay cap2 p_.Oper).getD 0) > 0)) = false ->
 ((0 : Int) ≤ p_.Oper /\ p_.Oper < (cap1.length : Int)) /\
 ∀ r111, eZ cap3 cap4 ((gi cap1 p_.Oper).Kind) p_.Result = r111 ->
 ((((r111.2 == 0) && (((gi cap1 p_.Oper).End) != (-1))) && (((gi cap1 p_.Oper).Result) != p_.Result)) = true ->
 VC87_J1 p_ cap2 cap4 Q r111 40) /\
 ((((r111.2 == 0) && (((gi cap1 p_.Oper).End) != (-1))) && (((gi cap1 p_.Oper).Result) != p_.Result)) = false ->
 VC87_J1 p_ cap2 cap4 Q r111 r111.2)))
def VC63_J1 (picks : List ah) (Q : (Int × Int × Int) -> Prop) (v126 : Int) : Prop :=
 Q (v126, (picks.length : Int), 0)
def VC63 (o_ : ai) (l_ : List aa) (state : Int) (picks : List ah) (Q : Int × Int × Int -> Prop) : Prop :=
 sm o_.Rows ->
 ∀ (_ : sm l_),
 sm picks ->
 (nq o_ state) /\
 ∀ r104, fo o_ state = r104 ->
 ((r104 != 0) = true ->
 Q (0, (-1), r104)) /\
 ((r104 != 0) = false ->
 ∀ r108, cS o_ l_ state = r108 ->
 sm r108.1 ->
 ∀ (_ : sm r108.2.2.1.Rows),
 ∃ (I1 : Int -> Int -> (List (Int × Int)) -> Int -> Prop) (μ1 : Int -> Int -> (List (Int × Int)) -> Int -> Nat), I1 state 0 r108.2.1 r108.2.2.2 /\ ∀ (v128 : Int) (v130 : Int) (v132 : List (Int × Int)) (v135 : Int), I1 v128 v130 v132 v135 ->
 ((decide (v130 < (picks.length : Int))) = true ->
 ((0 : Int) ≤ v130 /\ v130 < (picks.length : Int)) /\
 ∀ r142, b9 (gi picks v130) r108.1 v132 r108.2.2.1 v135 = r142 ->
 ((r142.2.1 != 0) = true ->
 Q (0, v130, r142.2.1)) /\
 ((r142.2.1 != 0) = false ->
 I1 r142.1 (IntKind.i64.wrap (v130 + 1)) r142.2.2.1 r142.2.2.2 /\ μ1 r142.1 (IntKind.i64.wrap (v130 + 1)) r142.2.2.1 r142.2.2.2 < μ1 v128 v130 v132 v135)) /\
 ((decide (v130 < (picks.length : Int))) = false ->
 VC63_J1 picks Q v128))
def VC44 (o_ : ai) (l_ : List aa) (picks : List ah) (Q : Int × Int × Int -> Prop) : Prop :=
 sm o_.Rows ->
 ∀ (_ : sm l_),
 sm picks ->
 (np o_ l_ o_.aC picks) /\
 ∀ r104, fu o_ l_ o_.aC picks = r104 ->
 Q (r104.1, r104.2.1, r104.2.2)
def VC76_J1 (Q : ((List (Int × Int))) -> Prop) (v105 : List (Int × Int)) : Prop :=
 Q v105
def VC76 (picks : List ah) (Q : (List (Int × Int)) -> Prop) : Prop :=
 sm picks ->
 ∃ (I1 : Int -> (List (Int × Int)) -> Prop) (μ1 : Int -> (List (Int × Int)) -> Nat), I1 0 ([] : List (Int × Int)) /\ ∀ (v108 : Int) (v109 : List (Int × Int)), I1 v108 v109 ->
 ((decide (v108 < (picks.length : Int))) = true ->
 ((0 : Int) ≤ v108 /\ v108 < (picks.length : Int)) /\
 I1 (IntKind.i64.wrap (v108 + 1)) (cg v109 ((gi picks v108).Oper) (IntKind.i64.wrap (((ay v109 ((gi picks v108).Oper)).getD 0) + 1))) /\ μ1 (IntKind.i64.wrap (v108 + 1)) (cg v109 ((gi picks v108).Oper) (IntKind.i64.wrap (((ay v109 ((gi picks v108).Oper)).getD 0) + 1))) < μ1 v108 v109) /\
 ((decide (v108 < (picks.length : Int))) = false ->
 VC76_J1 Q v109)
def VC89 (i_ : Int) (cap1 : List (Int × Int)) (Q : Bool -> Prop) : Prop :=
 Q (((ay cap1 i_).getD 0) == 0)
def VC64_J1 (Q : ((List Int)) -> Prop) (v109 : List Int) : Prop :=
 Q v109
def VC64_J2 (I1 : (List Int) -> Int -> Prop) (μ1 : (List Int) -> Int -> Nat) (v115 : List Int) (v120 : Int) (v122 : List Int) : Prop :=
 I1 v122 (IntKind.i64.wrap (v120 + 1)) /\ μ1 v122 (IntKind.i64.wrap (v120 + 1)) < μ1 v115 v120
def VC64_J3 (I1 : (List Int) -> Int -> Prop) (μ1 : (List Int) -> Int -> Nat) (v115 : List Int) (v120 : Int) (v131 : List Int) (v136 : Bool) : Prop :=
 (v136 = true ->
 (v131.length + [v120].length ≤ 1099511627776) /\
 VC64_J2 I1 μ1 v115 v120 (v131 ++ [v120])) /\
 (v136 = false ->
 VC64_J2 I1 μ1 v115 v120 v131)
def VC64 (l_ : List aa) (picks : List ah) (pending : Bool) (Q : (List Int) -> Prop) : Prop :=
 sm l_ ->
 ∀ (_ : sm picks),
 ∀ r104, du picks = r104 ->
 ∃ (I1 : (List Int) -> Int -> Prop) (μ1 : (List Int) -> Int -> Nat), I1 [] 0 /\ ∀ (v115 : List Int) (v120 : Int), I1 v115 v120 ->
 ((decide (v120 < (l_.length : Int))) = true ->
 ((0 : Int) ≤ v120 /\ v120 < (l_.length : Int)) /\
 (((((gi l_ v120).End) == (-1)) == pending) = true ->
 ∀ r150, dr v120 r104 = r150 ->
 VC64_J3 I1 μ1 v115 v120 v115 r150) /\
 (((((gi l_ v120).End) == (-1)) == pending) = false ->
 VC64_J3 I1 μ1 v115 v120 v115 false)) /\
 ((decide (v120 < (l_.length : Int))) = false ->
 VC64_J1 Q v115)
def VC46 (l_ : List aa) (picks : List ah) (Q : (List Int) -> Prop) : Prop :=
 sm l_ ->
 ∀ (_ : sm picks),
 (lV l_ picks false) /\
 ∀ r104, c7 l_ picks false = r104 ->
 sm r104 ->
 Q r104
def VC57 (a_ : aa) (b_ : aa) (Q : Bool -> Prop) : Prop :=
 Q ((decide (a_.End ≥ 0)) && (decide (a_.End < b_.aA)))
def VC45_J1 (Q : Int -> Prop) : Prop :=
 Q (-1)
def VC45_J2 (I1 : (List (Int × Int)) -> Int -> Prop) (μ1 : (List (Int × Int)) -> Int -> Nat) (v106 : List (Int × Int)) (v109 : Int) (v111 : List (Int × Int)) : Prop :=
 I1 v111 (IntKind.i64.wrap (v109 + 1)) /\ μ1 v111 (IntKind.i64.wrap (v109 + 1)) < μ1 v106 v109
def VC45_J3 (picks : List ah) (I1 : (List (Int × Int)) -> Int -> Prop) (μ1 : (List (Int × Int)) -> Int -> Nat) (v106 : List (Int × Int)) (v109 : Int) : Prop :=
 VC45_J2 I1 μ1 v106 v109 (cg v106 ((gi picks v109).Oper) (IntKind.i64.wrap (((ay v106 ((gi picks v109).Oper)).getD 0) + 1)))
def VC45_J4 (Q : Int -> Prop) (v109 : Int) (I2 : Int -> Prop) (μ2 : Int -> Nat) (v127 : Int) (v135 : Bool) : Prop :=
 (v135 = true ->
 Q v109) /\
 (v135 = false ->
 I2 (IntKind.i64.wrap (v127 + 1)) /\ μ2 (IntKind.i64.wrap (v127 + 1)) < μ2 v127)
def VC45 (l_ : List aa) (picks : List ah) (Q : Int -> Prop) : Prop :=
 sm l_ ->
 ∀ (_ : sm picks),
 ∃ (I1 : (List (Int × Int)) -> Int -> Prop) (μ1 : (List (Int × Int)) -> Int -> Nat), I1 ([] : List (Int × Int)) 0 /\ ∀ (v106 : List (Int × Int)) (v109 : Int), I1 v106 v109 ->
 ((decide (v109 < (picks.length : Int))) = true ->
 ((0 : Int) ≤ v109 /\ v109 < (picks.length : Int)) /\
 (((decide (((gi picks v109).Oper) < 0)) || (decide (((gi picks v109).Oper) ≥ (l_.length : Int)))) = true ->
 VC45_J2 I1 μ1 v106 v109 v106) /\
 (((decide (((gi picks v109).Oper) < 0)) || (decide (((gi picks v109).Oper) ≥ (l_.length : Int)))) = false ->
 ∃ (I2 : Int -> Prop) (μ2 : Int -> Nat), I2 0 /\ ∀ (v127 : Int), I2 v127 ->
 ((decide (v127 < (l_.length : Int))) = true ->
 ((0 : Int) ≤ v127 /\ v127 < (l_.length : Int)) /\
 ((0 : Int) ≤ ((gi picks v109).Oper) /\ ((gi picks v109).Oper) < (l_.length : Int)) /\
 ∀ r144, bF (gi l_ v127) (gi l_ ((gi picks v109).Oper)) = r144 ->
 (r144 = true ->
 VC45_J4 Q v109 I2 μ2 v127 (((ay v106 v127).getD 0) == 0)) /\
 (r144 = false ->
 VC45_J4 Q v109 I2 μ2 v127 false)) /\
 ((decide (v127 < (l_.length : Int))) = false ->
 VC45_J3 picks I1 μ1 v106 v109))) /\
 ((decide (v109 < (picks.length : Int))) = false ->
 VC45_J1 Q)
def VC96 (o_ : aa) (Q : Bool -> Prop) : Prop :=
 ((o_.End == (-1)) = true ->
 Q (o_.Result == (-1))) /\
 ((o_.End == (-1)) = false ->
 Q ((((decide (o_.End > o_.aA)) && (decide (o_.End ≤ 9999))) && (decide (o_.Result ≥ 0))) && (decide (o_.Result ≤ 1000000))))
def VC91 (o_ : aa) (Q : Int -> Prop) : Prop :=
 (((((decide (o_.ab < 1)) || (decide (o_.ab > 1000))) || (decide (o_.aA < 0))) || (decide (o_.aA > 9999))) = true ->
 Q 2) /\
 (((((decide (o_.ab < 1)) || (decide (o_.ab > 1000))) || (decide (o_.aA < 0))) || (decide (o_.aA > 9999))) = false ->
 (((decide (o_.Kind < 0)) || (decide (o_.Kind ≥ 64))) = true ->
 Q 31) /\
 (((decide (o_.Kind < 0)) || (decide (o_.Kind ≥ 64))) = false ->
 ∀ r104, cW o_ = r104 ->
 ((!r104) = true ->
 Q 7) /\
 ((!r104) = false ->
 Q 0)))
def VC79_J1 (l_ : List aa) (Q : (Int × Int) -> Prop) : Prop :=
 Q ((l_.length : Int), 0)
def VC79_J2 (l_ : List aa) (I1 : (List (Int × Int)) -> (List (Int × aa)) -> Int -> Prop) (μ1 : (List (Int × Int)) -> (List (Int × aa)) -> Int -> Nat) (v111 : List (Int × Int)) (v113 : List (Int × aa)) (v116 : Int) (v118 : List (Int × Int)) : Prop :=
 I1 v118 (cg v113 ((gi l_ v116).ab) (gi l_ v116)) (IntKind.i64.wrap (v116 + 1)) /\ μ1 v118 (cg v113 ((gi l_ v116).ab) (gi l_ v116)) (IntKind.i64.wrap (v116 + 1)) < μ1 v111 v113 v116
def VC79_J4 (l_ : List aa) (Q : (Int × Int) -> Prop) (I1 : (List (Int × Int)) -> (List (Int × aa)) -> Int -> Prop) (μ1 : (List (Int × Int)) -> (List (Int × aa)) -> Int -> Nat) (v111 : List (Int × Int)) (v113 : List (Int × aa)) (v116 : Int) (v139 : Bool) : Prop :=
 (v139 = true ->
 Q (v116, 33)) /\
 (v139 = false ->
 ((decide (((gi l_ v116).End) ≥ 0)) = true ->
 VC79_J2 l_ I1 μ1 v111 v113 v116 (cg (cg v111 ((gi l_ v116).aA) (IntKind.i64.wrap (((ay v111 ((gi l_ v116).aA)).getD 0) + 1))) ((gi l_ v116).End) (IntKind.i64.wrap (((ay (cg v111 ((gi l_ v116).aA) (IntKind.i64.wrap (((ay v111 ((gi l_ v116).aA)).getD 0) + 1))) ((gi l_ v116).End)).getD 0) + 1)))) /\
 ((decide (((gi l_ v116).End) ≥ 0)) = false ->
 VC79_J2 l_ I1 μ1 v111 v113 v116 (cg v111 ((gi l_ v116).aA) (IntKind.i64.wrap (((ay v111 ((gi l_ v116).aA)).getD 0) + 1)))))
def VC79_J3 (l_ : List aa) (Q : (Int × Int) -> Prop) (I1 : (List (Int × Int)) -> (List (Int × aa)) -> Int -> Prop) (μ1 : (List (Int × Int)) -> (List (Int × aa)) -> Int -> Nat) (v111 : List (Int × Int)) (v113 : List (Int × aa)) (v116 : Int) (v133 : Bool) : Prop :=
 (v133 = true ->
 Q (v116, 32)) /\
 (v133 = false ->
 (((ay v113 ((gi l_ v116).ab)).isSome) = true ->
 ∀ r151, bF ((ay v113 ((gi l_ v116).ab)).getD (⟨0, 0, 0, 0, 0⟩ : aa)) (gi l_ v116) = r151 ->
 VC79_J4 l_ Q I1 μ1 v111 v113 v116 (!r151)) /\
 (((ay v113 ((gi l_ v116).ab)).isSome) = false ->
 VC79_J4 l_ Q I1 μ1 v111 v113 v116 false))
def VC79 (l_ : List aa) (Q : Int × Int -> Prop) : Prop :=
 sm l_ ->
 ((decide ((l_.length : Int) > 5000)) = true ->
 Q (0, 3)) /\
 ((decide ((l_.length : Int) > 5000)) = false ->
 ∃ (I1 : (List (Int × Int)) -> (List (Int × aa)) -> Int -> Prop) (μ1 : (List (Int × Int)) -> (List (Int × aa)) -> Int -> Nat), I1 ([] : List (Int × Int)) ([] : List (Int × aa)) 0 /\ ∀ (v111 : List (Int × Int)) (v113 : List (Int × aa)) (v116 : Int), I1 v111 v113 v116 ->
 ((decide (v116 < (l_.length : Int))) = true ->
 ((0 : Int) ≤ v116 /\ v116 < (l_.length : Int)) /\
 ∀ r128, cX (gi l_ v116) = r128 ->
 ((r128 != 0) = true ->
 Q (v116, r128)) /\
 ((r128 != 0) = false ->
 ((decide (v116 > 0)) = true ->
 ((0 : Int) ≤ (IntKind.i64.wrap (v116 - 1)) /\ (IntKind.i64.wrap (v116 - 1)) < (l_.length : Int)) /\
 ((decide (((gi l_ v116).aA) ≤ ((gi l_ (IntKind.i64.wrap (v116 - 1))).aA))) = true ->
 VC79_J3 l_ Q I1 μ1 v111 v113 v116 true) /\
 ((decide (((gi l_ v116).aA) ≤ ((gi l_ (IntKind.i64.wrap (v116 - 1))).aA))) = false ->
 ((decide (((ay v111 ((gi l_ v116).aA)).getD 0) > 0)) = true ->
 VC79_J3 l_ Q I1 μ1 v111 v113 v116 true) /\
 ((decide (((ay v111 ((gi l_ v116).aA)).getD 0) > 0)) = false ->
 ((decide (((gi l_ v116).End) ≥ 0)) = true ->
 VC79_J3 l_ Q I1 μ1 v111 v113 v116 (decide (((ay v111 ((gi l_ v116).End)).getD 0) > 0))) /\
 ((decide (((gi l_ v116).End) ≥ 0)) = false ->
 VC79_J3 l_ Q I1 μ1 v111 v113 v116 false)))) /\
 ((decide (v116 > 0)) = false ->
 ((decide (((ay v111 ((gi l_ v116).aA)).getD 0) > 0)) = true ->
 VC79_J3 l_ Q I1 μ1 v111 v113 v116 true) /\
 ((decide (((ay v111 ((gi l_ v116).aA)).getD 0) > 0)) = false ->
 ((decide (((gi l_ v116).End) ≥ 0)) = true ->
 VC79_J3 l_ Q I1 μ1 v111 v113 v116 (decide (((ay v111 ((gi l_ v116).End)).getD 0) > 0))) /\
 ((decide (((gi l_ v116).End) ≥ 0)) = false ->
 VC79_J3 l_ Q I1 μ1 v111 v113 v116 false))))) /\
 ((decide (v116 < (l_.length : Int))) = false ->
 VC79_J1 l_ Q))
def VC86 (o_ : ai) (l_ : List aa) (picks : List ah) (Q : Int × Int -> Prop) : Prop :=
 sm o_.Rows ->
 ∀ (_ : sm l_),
 sm picks ->
 (fV o_) /\
 ∀ r104, bd o_ = r104 ->
 ∀ r108, b6 l_ = r108 ->
 (((r104.2 != 0) || (r108.2 != 0)) = true ->
 Q ((-1), 2)) /\
 (((r104.2 != 0) || (r108.2 != 0)) = false ->
 (gj o_ l_ picks) /\
 ∀ r112, cr o_ l_ picks = r112 ->
 ((r112.2.2 != 0) = true ->
 Q (r112.2.1, r112.2.2)) /\
 ((r112.2.2 != 0) = false ->
 ∀ r116, bR l_ picks = r116 ->
 ((decide (r116 ≥ 0)) = true ->
 Q (r116, 42)) /\
 ((decide (r116 ≥ 0)) = false ->
 (jR l_ picks) /\
 ∀ r120, bO l_ picks = r120 ->
 sm r120 ->
 ((decide ((r120.length : Int) > 0)) = true ->
 ((0 : Int) ≤ 0 /\ 0 < (r120.length : Int)) /\
 Q (gi r120 0, 41)) /\
 ((decide ((r120.length : Int) > 0)) = false ->
 Q ((picks.length : Int), 0)))))
def VC70 (o_ : ai) (l_ : List aa) (picks : List ah) (Q : Bool -> Prop) : Prop :=
 sm o_.Rows ->
 ∀ (_ : sm l_),
 sm picks ->
 (gj o_ l_ picks) /\
 ∀ r104, c8 o_ l_ picks = r104 ->
 Q (r104.2 == 0)
def VC28_J1 (o_ : ai) (Q : (Int × Int) -> Prop) : Prop :=
 Q ((o_.Rows.length : Int), 0)
def VC28_J2 (Q : (Int × Int) -> Prop) (I1 : Int -> Prop) (μ1 : Int -> Nat) (v102 : Int) (v107 : Bool) : Prop :=
 (v107 = true ->
 Q (v102, 32)) /\
 (v107 = false ->
 I1 (IntKind.i64.wrap (v102 + 1)) /\ μ1 (IntKind.i64.wrap (v102 + 1)) < μ1 v102)
def VC28 (o_ : ai) (Q : Int × Int -> Prop) : Prop :=
 sm o_.Rows ->
 (((((((decide (o_.ao < 1)) || (decide (o_.ao > 32))) || (decide (o_.av < 1))) || (decide (o_.av > 64))) || (decide (o_.aC < 0))) || (decide (o_.aC ≥ o_.ao))) = true ->
 Q ((-1), 2)) /\
 (((((((decide (o_.ao < 1)) || (decide (o_.ao > 32))) || (decide (o_.av < 1))) || (decide (o_.av > 64))) || (decide (o_.aC < 0))) || (decide (o_.aC ≥ o_.ao))) = false ->
 ∃ (I1 : Int -> Prop) (μ1 : Int -> Nat), I1 0 /\ ∀ (v102 : Int), I1 v102 ->
 ((decide (v102 < (o_.Rows.length : Int))) = true ->
 ((0 : Int) ≤ v102 /\ v102 < (o_.Rows.length : Int)) /\
 (((((decide (((gi o_.Rows v102).State) < 0)) || (decide (((gi o_.Rows v102).State) ≥ o_.ao))) || (decide (((gi o_.Rows v102).Next) < 0))) || (decide (((gi o_.Rows v102).Next) ≥ o_.ao))) = true ->
 Q (v102, 30)) /\
 (((((decide (((gi o_.Rows v102).State) < 0)) || (decide (((gi o_.Rows v102).State) ≥ o_.ao))) || (decide (((gi o_.Rows v102).Next) < 0))) || (decide (((gi o_.Rows v102).Next) ≥ o_.ao))) = false ->
 (((decide (((gi o_.Rows v102).Kind) < 0)) || (decide (((gi o_.Rows v102).Kind) ≥ o_.av))) = true ->
 Q (v102, 31)) /\
 (((decide (((gi o_.Rows v102).Kind) < 0)) || (decide (((gi o_.Rows v102).Kind) ≥ o_.av))) = false ->
 (((decide (((gi o_.Rows v102).Result) < 0)) || (decide (((gi o_.Rows v102).Result) > 1000000))) = true ->
 Q (v102, 7)) /\
 (((decide (((gi o_.Rows v102).Result) < 0)) || (decide (((gi o_.Rows v102).Result) > 1000000))) = false ->
 ((decide (v102 > 0)) = true ->
 ((0 : Int) ≤ (IntKind.i64.wrap (v102 - 1)) /\ (IntKind.i64.wrap (v102 - 1)) < (o_.Rows.length : Int)) /\
 ((decide (((gi o_.Rows (IntKind.i64.wrap (v102 - 1))).State) > ((gi o_.Rows v102).State))) = true ->
 VC28_J2 Q I1 μ1 v102 true) /\
 ((decide (((gi o_.Rows (IntKind.i64.wrap (v102 - 1))).State) > ((gi o_.Rows v102).State))) = false ->
 ((0 : Int) ≤ (IntKind.i64.wrap (v102 - 1)) /\ (IntKind.i64.wrap (v102 - 1)) < (o_.Rows.length : Int)) /\
 ((((gi o_.Rows (IntKind.i64.wrap (v102 - 1))).State) == ((gi o_.Rows v102).State)) = true ->
 ((0 : Int) ≤ (IntKind.i64.wrap (v102 - 1)) /\ (IntKind.i64.wrap (v102 - 1)) < (o_.Rows.length : Int)) /\
 VC28_J2 Q I1 μ1 v102 (decide (((gi o_.Rows (IntKind.i64.wrap (v102 - 1))).Kind) ≥ ((gi o_.Rows v102).Kind)))) /\
 ((((gi o_.Rows (IntKind.i64.wrap (v102 - 1))).State) == ((gi o_.Rows v102).State)) = false ->
 VC28_J2 Q I1 μ1 v102 false))) /\
 ((decide (v102 > 0)) = false ->
 VC28_J2 Q I1 μ1 v102 false))))) /\
 ((decide (v102 < (o_.Rows.length : Int))) = false ->
 VC28_J1 o_ Q))
def VC97 (i_ : Int) (cap1 : List Bool) (Q : Bool -> Prop) : Prop :=
 sm cap1 ->
 ((decide (i_ < (cap1.length : Int))) = true ->
 ((0 : Int) ≤ i_ /\ i_ < (cap1.length : Int)) /\
 Q (gi cap1 i_)) /\
 ((decide (i_ < (cap1.length : Int))) = false ->
 Q false)
def VC94_J1 (Q : ((List Int)) -> Prop) (v101 : List Int) : Prop :=
 Q v101
def VC94_J2 (I1 : (List Int) -> Int -> Prop) (μ1 : (List Int) -> Int -> Nat) (v108 : List Int) (v113 : Int) (v116 : List Int) : Prop :=
 I1 v116 (IntKind.i64.wrap (v113 + 1)) /\ μ1 v116 (IntKind.i64.wrap (v113 + 1)) < μ1 v108 v113
def VC94_J3 (I1 : (List Int) -> Int -> Prop) (μ1 : (List Int) -> Int -> Nat) (v108 : List Int) (v113 : Int) (v131 : List Int) (v135 : Bool) : Prop :=
 (v135 = true ->
 (v131.length + [v113].length ≤ 1099511627776) /\
 VC94_J2 I1 μ1 v108 v113 (v131 ++ [v113])) /\
 (v135 = false ->
 VC94_J2 I1 μ1 v108 v113 v131)
def VC94_J4 (I2 : (List Int) -> Bool -> Int -> Prop) (μ2 : (List Int) -> Bool -> Int -> Nat) (v148 : List Int) (v152 : Bool) (v155 : Int) (v158 : List Int) (v162 : Bool) : Prop :=
 I2 v158 v162 (IntKind.i64.wrap (v155 + 1)) /\ μ2 v158 v162 (IntKind.i64.wrap (v155 + 1)) < μ2 v148 v152 v155
def VC94 (l_ : List aa) (done : List Bool) (Q : (List Int) -> Prop) : Prop :=
 sm l_ ->
 ∀ (_ : sm done),
 ∃ (I1 : (List Int) -> Int -> Prop) (μ1 : (List Int) -> Int -> Nat), I1 [] 0 /\ ∀ (v108 : List Int) (v113 : Int), I1 v108 v113 ->
 ((decide (v113 < (l_.length : Int))) = true ->
 ((0 : Int) ≤ v113 /\ v113 < (l_.length : Int)) /\
 (lY v113 done) /\
 ∀ r128, dp v113 done = r128 ->
 ∃ (I2 : (List Int) -> Bool -> Int -> Prop) (μ2 : (List Int) -> Bool -> Int -> Nat), I2 v108 (!r128) 0 /\ ∀ (v148 : List Int) (v152 : Bool) (v155 : Int), I2 v148 v152 v155 ->
 ((decide (v155 < (l_.length : Int))) = true ->
 ((0 : Int) ≤ v155 /\ v155 < (l_.length : Int)) /\
 (v152 = true ->
 (lY v155 done) /\
 ∀ r172, dp v155 done = r172 ->
 (r172 = true ->
 VC94_J4 I2 μ2 v148 v152 v155 v148 true) /\
 (r172 = false ->
 ∀ r177, bF (gi l_ v155) (gi l_ v113) = r177 ->
 VC94_J4 I2 μ2 v148 v152 v155 v148 (!r177))) /\
 (v152 = false ->
 VC94_J4 I2 μ2 v148 v152 v155 v148 false)) /\
 ((decide (v155 < (l_.length : Int))) = false ->
 VC94_J3 I1 μ1 v108 v113 v148 v152)) /\
 ((decide (v113 < (l_.length : Int))) = false ->
 VC94_J1 Q v108)
def VC85_J1 (Q : ((List ah)) -> Prop) (v105 : List ah) : Prop :=
 Q v105
def VC85_J2 (I1 : (List ah) -> Int -> Prop) (μ1 : (List ah) -> Int -> Nat) (v117 : List ah) (v122 : Int) (v125 : List ah) : Prop :=
 I1 v125 (IntKind.i64.wrap (v122 + 1)) /\ μ1 v125 (IntKind.i64.wrap (v122 + 1)) < μ1 v117 v122
def VC85_J3 (r112 : (List Int)) (I1 : (List ah) -> Int -> Prop) (μ1 : (List ah) -> Int -> Nat) (v117 : List ah) (v122 : Int) (r144 : Int × Int × Bool) (v146 : List ah) (v151 : Bool) : Prop :=
 (v151 = true ->
 (v146.length + [(⟨gi r112 v122, r144.2.1⟩ : ah)].length ≤ 1099511627776) /\
 VC85_J2 I1 μ1 v117 v122 (v146 ++ [(⟨gi r112 v122, r144.2.1⟩ : ah)])) /\
 (v151 = false ->
 VC85_J2 I1 μ1 v117 v122 v146)
def VC85 (o_ : ai) (l_ : List aa) (state : Int) (done : List Bool) (Q : (List ah) -> Prop) : Prop :=
 sm o_.Rows ->
 ∀ (_ : sm l_),
 sm done ->
 (fV o_) /\
 ∀ r104, bd o_ = r104 ->
 ((r104.2 != 0) = true ->
 Q []) /\
 ((r104.2 != 0) = false ->
 (nv l_ done) /\
 ∀ r112, dk l_ done = r112 ->
 sm r112 ->
 ∃ (I1 : (List ah) -> Int -> Prop) (μ1 : (List ah) -> Int -> Nat), I1 [] 0 /\ ∀ (v117 : List ah) (v122 : Int), I1 v117 v122 ->
 ((decide (v122 < (r112.length : Int))) = true ->
 ((0 : Int) ≤ v122 /\ v122 < (r112.length : Int)) /\
 ((0 : Int) ≤ (gi r112 v122) /\ (gi r112 v122) < (l_.length : Int)) /\
 ∀ r144, bJ o_ state ((gi l_ (gi r112 v122)).Kind) = r144 ->
 (r144.2.2 = true ->
 ((0 : Int) ≤ (gi r112 v122) /\ (gi r112 v122) < (l_.length : Int)) /\
 ((((gi l_ (gi r112 v122)).End) == (-1)) = true ->
 VC85_J3 r112 I1 μ1 v117 v122 r144 v117 true) /\
 ((((gi l_ (gi r112 v122)).End) == (-1)) = false ->
 ((0 : Int) ≤ (gi r112 v122) /\ (gi r112 v122) < (l_.length : Int)) /\
 VC85_J3 r112 I1 μ1 v117 v122 r144 v117 (((gi l_ (gi r112 v122)).Result) == r144.2.1))) /\
 (r144.2.2 = false ->
 VC85_J3 r112 I1 μ1 v117 v122 r144 v117 false)) /\
 ((decide (v122 < (r112.length : Int))) = false ->
 VC85_J1 Q v117))
def VC67 (o_ : ai) (l_ : List aa) (most : Int) (Q : Int -> Prop) : Prop :=
 sm o_.Rows ->
 ∀ (_ : sm l_),
 (fV o_) /\
 ∀ r104, bd o_ = r104 ->
 ∀ r108, b6 l_ = r108 ->
 (((r104.2 != 0) || (r108.2 != 0)) = true ->
 Q 2) /\
 (((r104.2 != 0) || (r108.2 != 0)) = false ->
 ((decide ((l_.length : Int) > most)) = true ->
 Q 3) /\
 ((decide ((l_.length : Int) > most)) = false ->
 Q 0))
def VC84 (s_ : List ah) (Q : (List ah) -> Prop) : Prop :=
 sm s_ ->
 ∀ (b101 : Bool), (b101 = true -> s_ = []) ->
 (b101 = true ->
 Q []) /\
 (b101 = false ->
 (([] : List ah).length + s_.length ≤ 1099511627776) /\
 Q (([] : List ah) ++ s_))
def VC81_J1 (Q : bC -> Prop) (v101 : Int) (v102 : Int) : Prop :=
 Q (⟨v101, v102⟩ : bC)
def VC81_J2 (I1 : Int -> Int -> Int -> Prop) (μ1 : Int -> Int -> Int -> Nat) (v110 : Int) (v111 : Int) (v112 : Int) (v118 : Int) : Prop :=
 I1 (IntKind.i64.wrap (v110 + 1)) v118 v112 /\ μ1 (IntKind.i64.wrap (v110 + 1)) v118 v112 < μ1 v110 v111 v112
def VC81 (state : Int) (cap1 : aP) (Q : bC -> Prop) : Prop :=
 sm cap1.o.Rows ->
 ∀ (_ : sm cap1.l),
 sm cap1.done ->
 ∃ (I1 : Int -> Int -> Int -> Prop) (μ1 : Int -> Int -> Int -> Nat), I1 0 0 state /\ ∀ (v110 : Int) (v111 : Int) (v112 : Int), I1 v110 v111 v112 ->
 ((decide (v110 < (cap1.done.length : Int))) = true ->
 ((0 : Int) ≤ v110 /\ v110 < (cap1.done.length : Int)) /\
 ((gi cap1.done v110) = true ->
 ((0 : Int) ≤ v110) /\
 VC81_J2 I1 μ1 v110 v111 v112 (IntKind.u32.wrap ((BitVec.ofInt IntKind.u32.bits v111 ||| BitVec.ofInt IntKind.u32.bits (IntKind.u32.wrap (1 * 2 ^ (min v110.toNat IntKind.u32.bits)))).toNat : Int))) /\
 ((gi cap1.done v110) = false ->
 VC81_J2 I1 μ1 v110 v111 v112 v111)) /\
 ((decide (v110 < (cap1.done.length : Int))) = false ->
 VC81_J1 Q v111 v112)
def VC80_J1 (Q : Bool -> Prop) : Prop :=
 Q true
def VC80_J2 (Q : Bool -> Prop) (I1 : Int -> Prop) (μ1 : Int -> Nat) (v106 : Int) (v115 : Bool) : Prop :=
 (v115 = true ->
 Q false) /\
 (v115 = false ->
 I1 (IntKind.i64.wrap (v106 + 1)) /\ μ1 (IntKind.i64.wrap (v106 + 1)) < μ1 v106)
def VC80 (cap1 : aP) (Q : Bool -> Prop) : Prop :=
 sm cap1.o.Rows ->
 ∀ (_ : sm cap1.l),
 sm cap1.done ->
 ∃ (I1 : Int -> Prop) (μ1 : Int -> Nat), I1 0 /\ ∀ (v106 : Int), I1 v106 ->
 ((decide (v106 < (cap1.l.length : Int))) = true ->
 ((0 : Int) ≤ v106 /\ v106 < (cap1.l.length : Int)) /\
 ((((gi cap1.l v106).End) != (-1)) = true ->
 ((0 : Int) ≤ v106 /\ v106 < (cap1.done.length : Int)) /\
 VC80_J2 Q I1 μ1 v106 (!(gi cap1.done v106))) /\
 ((((gi cap1.l v106).End) != (-1)) = false ->
 VC80_J2 Q I1 μ1 v106 false)) /\
 ((decide (v106 < (cap1.l.length : Int))) = false ->
 VC80_J1 Q)
def VC82 (N : Nat) (p_ : ah) (cap2 : aP) (cap3 : Int) (cap4 : List ah) (Q : (List ah) × Bool × aP -> Prop) : Prop :=
 sm cap2.o.Rows ->
 ∀ (_ : sm cap2.l),
 sm cap2.done ->
 ∀ (_ : sm cap4),
 ((0 : Int) ≤ p_.Oper /\ p_.Oper < (cap2.l.length : Int)) /\
 ∀ r111, bJ cap2.o cap3 ((gi cap2.l p_.Oper).Kind) = r111 ->
 ((0 : Int) ≤ p_.Oper /\ p_.Oper < (cap2.done.length : Int)) /\
 (nw cap4) /\
 ∀ r126, bA cap4 = r126 ->
 sm r126 ->
 (r126.length + [p_].length ≤ 1099511627776) /\
 (kL r111.1 (r126 ++ [p_]) (⟨cap2.o, cap2.l, (cap2.done.set p_.Oper.toNat true), cap2.failed⟩ : aP) /\ iY r111.1 (r126 ++ [p_]) (⟨cap2.o, cap2.l, (cap2.done.set p_.Oper.toNat true), cap2.failed⟩ : aP) < N) /\
 ∀ r188, aB r111.1 (r126 ++ [p_]) (⟨cap2.o, cap2.l, (cap2.done.set p_.Oper.toNat true), cap2.failed⟩ : aP) = r188 ->
 sm r188.1 ->
 ∀ (_ : sm r188.2.2.o.Rows),
 sm r188.2.2.l ->
 ∀ (_ : sm r188.2.2.done),
 ((0 : Int) ≤ p_.Oper /\ p_.Oper < (r188.2.2.done.length : Int)) /\
 Q (r188.1, r188.2.1, (⟨r188.2.2.o, r188.2.2.l, (r188.2.2.done.set p_.Oper.toNat false), r188.2.2.failed⟩ : aP))
def VC69_J2 (N : Nat) (Q : ((List ah) × Bool × aP) -> Prop) (v120 : Int) (v121 : Int) (v122 : Int) (v123 : List aS) (v127 : List aa) (v139 : List Bool) (v143 : List (bC × Int)) : Prop :=
 Q ([], false, (⟨(⟨v120, v121, v122, v123⟩ : ai), v127, v139, v143⟩ : aP))
def VC69_J1 (N : Nat) (state : Int) (Q : ((List ah) × Bool × aP) -> Prop) (r112 : bC) (v120 : Int) (v121 : Int) (v122 : Int) (v123 : List aS) (v127 : List aa) (v131 : List Bool) (v135 : List (bC × Int)) : Prop :=
 ((!(r112.done == 0 && (r112.state == 0 && true))) = true ->
 VC69_J2 N Q v120 v121 v122 v123 v127 v131 (cg v135 r112 (IntKind.i64.wrap (((ay v135 r112).getD 0) + 1)))) /\
 ((!(r112.done == 0 && (r112.state == 0 && true))) = false ->
 VC69_J2 N Q v120 v121 v122 v123 v127 v131 v135)
def VC69 (N : Nat) (state : Int) (so : List ah) (cap1 : aP) (Q : (List ah) × Bool × aP -> Prop) : Prop :=
 sm so ->
 ∀ (_ : sm cap1.o.Rows),
 sm cap1.l ->
 ∀ (_ : sm cap1.done),
 (nb cap1) /\
 ∀ r104, cG cap1 = r104 ->
 (r104 = true ->
 Q (so, true, cap1)) /\
 (r104 = false ->
 ∀ r112, cv state cap1 = r112 ->
 ((decide (((ay cap1.failed r112).getD 0) > 0)) = true ->
 Q ([], false, cap1)) /\
 ((decide (((ay cap1.failed r112).getD 0) > 0)) = false ->
 (nr cap1.o cap1.l state cap1.done) /\
 ∀ r190, bm cap1.o cap1.l state cap1.done = r190 ->
 sm r190 ->
 ∃ (I1 : (List ah) -> Int -> Int -> Int -> Int -> (List aS) -> (List aa) -> (List Bool) -> (List (bC × Int)) -> Prop) (μ1 : (List ah) -> Int -> Int -> Int -> Int -> (List aS) -> (List aa) -> (List Bool) -> (List (bC × Int)) -> Nat), I1 r190 0 cap1.o.ao cap1.o.av cap1.o.aC cap1.o.Rows cap1.l cap1.done cap1.failed /\ ∀ (v196 : List ah) (v200 : Int) (v202 : Int) (v203 : Int) (v204 : Int) (v205 : List aS) (v209 : List aa) (v213 : List Bool) (v217 : List (bC × Int)), I1 v196 v200 v202 v203 v204 v205 v209 v213 v217 ->
 ((decide (v200 < (r190.length : Int))) = true ->
 ((0 : Int) ≤ v200 /\ v200 < (v196.length : Int)) /\
 (nc (gi v196 v200) (⟨(⟨v202, v203, v204, v205⟩ : ai), v209, v213, v217⟩ : aP) state so /\ oT (gi v196 v200) (⟨(⟨v202, v203, v204, v205⟩ : ai), v209, v213, v217⟩ : aP) state so < N) /\
 ∀ r227, aW (gi v196 v200) (⟨(⟨v202, v203, v204, v205⟩ : ai), v209, v213, v217⟩ : aP) state so = r227 ->
 sm r227.1 ->
 ∀ (_ : sm r227.2.2.o.Rows),
 sm r227.2.2.l ->
 ∀ (_ : sm r227.2.2.done),
 (r227.2.1 = true ->
 Q (r227.1, true, r227.2.2)) /\
 (r227.2.1 = false ->
 I1 v196 (IntKind.i64.wrap (v200 + 1)) r227.2.2.o.ao r227.2.2.o.av r227.2.2.o.aC r227.2.2.o.Rows r227.2.2.l r227.2.2.done r227.2.2.failed /\ μ1 v196 (IntKind.i64.wrap (v200 + 1)) r227.2.2.o.ao r227.2.2.o.av r227.2.2.o.aC r227.2.2.o.Rows r227.2.2.l r227.2.2.done r227.2.2.failed < μ1 v196 v200 v202 v203 v204 v205 v209 v213 v217)) /\
 ((decide (v200 < (r190.length : Int))) = false ->
 VC69_J1 N state Q r112 v202 v203 v204 v205 v209 v213 v217)))
def VC68 (o_ : ai) (l_ : List aa) (Q : aP -> Prop) : Prop :=
 sm o_.Rows ->
 ∀ (_ : sm l_),
 ((0 : Int) ≤ (l_.length : Int) /\ (l_.length : Int) ≤ (l_.length : Int) /\ (l_.length : Int) ≤ 1099511627776) /\
 Q (⟨o_, l_, List.replicate (l_.length : Int).toNat (false : Bool), ([] : List (bC × Int))⟩ : aP)
def VC53_J1 (Q : ((List ah) × Int) -> Prop) (v143 : List ah) (v147 : Bool) : Prop :=
 (v147 = true ->
 Q ([], 41)) /\
 (v147 = false ->
 Q (v143, 0))
def VC53 (o_ : ai) (l_ : List aa) (Q : (List ah) × Int -> Prop) : Prop :=
 sm o_.Rows ->
 ∀ (_ : sm l_),
 (nx o_ l_ 20) /\
 ∀ r104, bV o_ l_ 20 = r104 ->
 ((r104 != 0) = true ->
 Q ([], r104)) /\
 ((r104 != 0) = false ->
 (nz o_ l_) /\
 ∀ r110, bf o_ l_ = r110 ->
 sm r110.o.Rows ->
 ∀ (_ : sm r110.l),
 sm r110.done ->
 (kL o_.aC [] r110) /\
 ∀ r128, aB o_.aC [] r110 = r128 ->
 sm r128.1 ->
 ∀ (_ : sm r128.2.2.o.Rows),
 sm r128.2.2.l ->
 ∀ (_ : sm r128.2.2.done),
 ((!r128.2.1) = true ->
 VC53_J1 Q r128.1 true) /\
 ((!r128.2.1) = false ->
 (gj o_ l_ r128.1) /\
 ∀ r151, c6 o_ l_ r128.1 = r151 ->
 VC53_J1 Q r128.1 (!r151)))
def VC50 (x_ : al) (Q : Int -> Prop) : Prop :=
 (((x_.aY != 1) && (x_.aY != 2)) = true ->
 Q 8) /\
 (((x_.aY != 1) && (x_.aY != 2)) = false ->
 (((decide (x_.ab < 1)) || (decide (x_.ab > 1000))) = true ->
 Q 2) /\
 (((decide (x_.ab < 1)) || (decide (x_.ab > 1000))) = false ->
 (((x_.aY == 1) && ((decide (x_.N < 0)) || (decide (x_.N ≥ 64)))) = true ->
 Q 31) /\
 (((x_.aY == 1) && ((decide (x_.N < 0)) || (decide (x_.N ≥ 64)))) = false ->
 (((x_.aY == 2) && ((decide (x_.N < 0)) || (decide (x_.N > 1000000)))) = true ->
 Q 7) /\
 (((x_.aY == 2) && ((decide (x_.N < 0)) || (decide (x_.N > 1000000)))) = false ->
 Q 0))))
def VC26_J1 (l_ : List al) (Q : (Int × Int) -> Prop) : Prop :=
 Q ((l_.length : Int), 0)
def VC26 (l_ : List al) (Q : Int × Int -> Prop) : Prop :=
 sm l_ ->
 ((decide ((l_.length : Int) > 10000)) = true ->
 Q (0, 3)) /\
 ((decide ((l_.length : Int) > 10000)) = false ->
 ∃ (I1 : (List (Int × Int)) -> Int -> Prop) (μ1 : (List (Int × Int)) -> Int -> Nat), I1 ([] : List (Int × Int)) 0 /\ ∀ (v107 : List (Int × Int)) (v110 : Int), I1 v107 v110 ->
 ((decide (v110 < (l_.length : Int))) = true ->
 ((0 : Int) ≤ v110 /\ v110 < (l_.length : Int)) /\
 ∀ r117, dU (gi l_ v110) = r117 ->
 ((r117 != 0) = true ->
 Q (v110, r117)) /\
 ((r117 != 0) = false ->
 (((((ay v107 ((gi l_ v110).ab)).getD 0) == 1) == (((gi l_ v110).aY) == 1)) = true ->
 Q (v110, 33)) /\
 (((((ay v107 ((gi l_ v110).ab)).getD 0) == 1) == (((gi l_ v110).aY) == 1)) = false ->
 I1 (cg v107 ((gi l_ v110).ab) ((gi l_ v110).aY)) (IntKind.i64.wrap (v110 + 1)) /\ μ1 (cg v107 ((gi l_ v110).ab) ((gi l_ v110).aY)) (IntKind.i64.wrap (v110 + 1)) < μ1 v107 v110))) /\
 ((decide (v110 < (l_.length : Int))) = false ->
 VC26_J1 l_ Q))
def VC66_J1 (Q : Int -> Prop) (v101 : Int) : Prop :=
 Q v101
def VC66_J2 (I1 : Int -> Int -> Prop) (μ1 : Int -> Int -> Nat) (v103 : Int) (v104 : Int) (v106 : Int) : Prop :=
 I1 v106 (IntKind.i64.wrap (v104 + 1)) /\ μ1 v106 (IntKind.i64.wrap (v104 + 1)) < μ1 v103 v104
def VC66 (l_ : List al) (process : Int) (Q : Int -> Prop) : Prop :=
 sm l_ ->
 ∃ (I1 : Int -> Int -> Prop) (μ1 : Int -> Int -> Nat), I1 (-1) 0 /\ ∀ (v103 : Int) (v104 : Int), I1 v103 v104 ->
 ((decide (v104 < (l_.length : Int))) = true ->
 ((0 : Int) ≤ v104 /\ v104 < (l_.length : Int)) /\
 ((((gi l_ v104).ab) == process) = true ->
 VC66_J2 I1 μ1 v103 v104 v104) /\
 ((((gi l_ v104).ab) == process) = false ->
 VC66_J2 I1 μ1 v103 v104 v103)) /\
 ((decide (v104 < (l_.length : Int))) = false ->
 VC66_J1 Q v103)
def VC51 (l_ : List al) (process : Int) (Q : Bool -> Prop) : Prop :=
 sm l_ ->
 ∀ r104, eT l_ process = r104 ->
 ((decide (r104 ≥ 0)) = true ->
 ((0 : Int) ≤ r104 /\ r104 < (l_.length : Int)) /\
 Q (((gi l_ r104).aY) == 1)) /\
 ((decide (r104 ≥ 0)) = false ->
 Q false)
def VC29_J1 (l_ : List al) (Q : (Int × Int) -> Prop) : Prop :=
 Q ((l_.length : Int), 0)
def VC29_J2 (Q : (Int × Int) -> Prop) (I1 : Int -> Prop) (μ1 : Int -> Nat) (v103 : Int) (v108 : Bool) : Prop :=
 (v108 = true ->
 Q (v103, 33)) /\
 (v108 = false ->
 I1 (IntKind.i64.wrap (v103 + 1)) /\ μ1 (IntKind.i64.wrap (v103 + 1)) < μ1 v103)
def VC29 (l_ : List al) (Q : Int × Int -> Prop) : Prop :=
 sm l_ ->
 ((decide ((l_.length : Int) > 10000)) = true ->
 Q (0, 3)) /\
 ((decide ((l_.length : Int) > 10000)) = false ->
 ∃ (I1 : Int -> Prop) (μ1 : Int -> Nat), I1 0 /\ ∀ (v103 : Int), I1 v103 ->
 ((decide (v103 < (l_.length : Int))) = true ->
 ((0 : Int) ≤ v103 /\ v103 < (l_.length : Int)) /\
 (((((gi l_ v103).aY) != 1) && (((gi l_ v103).aY) != 2)) = true ->
 Q (v103, 8)) /\
 (((((gi l_ v103).aY) != 1) && (((gi l_ v103).aY) != 2)) = false ->
 (((decide (((gi l_ v103).ab) < 1)) || (decide (((gi l_ v103).ab) > 1000))) = true ->
 Q (v103, 2)) /\
 (((decide (((gi l_ v103).ab) < 1)) || (decide (((gi l_ v103).ab) > 1000))) = false ->
 (((((gi l_ v103).aY) == 1) && ((decide (((gi l_ v103).N) < 0)) || (decide (((gi l_ v103).N) > 63)))) = true ->
 Q (v103, 31)) /\
 (((((gi l_ v103).aY) == 1) && ((decide (((gi l_ v103).N) < 0)) || (decide (((gi l_ v103).N) > 63)))) = false ->
 (((((gi l_ v103).aY) == 2) && ((decide (((gi l_ v103).N) < 0)) || (decide (((gi l_ v103).N) > 1000000)))) = true ->
 Q (v103, 7)) /\
 (((((gi l_ v103).aY) == 2) && ((decide (((gi l_ v103).N) < 0)) || (decide (((gi l_ v103).N) > 1000000)))) = false ->
 ((((gi l_ v103).aY) == 1) = true ->
 ((0 : Int) ≤ v103 /\ v103 ≤ (l_.length : Int)) /\
 ∀ r117, dw (l_.take v103.toNat) ((gi l_ v103).ab) = r117 ->
 (r117 = true ->
 VC29_J2 Q I1 μ1 v103 true) /\
 (r117 = false ->
 ((((gi l_ v103).aY) == 2) = true ->
 ((0 : Int) ≤ v103 /\ v103 ≤ (l_.length : Int)) /\
 ∀ r124, dw (l_.take v103.toNat) ((gi l_ v103).ab) = r124 ->
 VC29_J2 Q I1 μ1 v103 (!r124)) /\
 ((((gi l_ v103).aY) == 2) = false ->
 VC29_J2 Q I1 μ1 v103 false))) /\
 ((((gi l_ v103).aY) == 1) = false ->
 ((((gi l_ v103).aY) == 2) = true ->
 ((0 : Int) ≤ v103 /\ v103 ≤ (l_.length : Int)) /\
 ∀ r131, dw (l_.take v103.toNat) ((gi l_ v103).ab) = r131 ->
 VC29_J2 Q I1 μ1 v103 (!r131)) /\
 ((((gi l_ v103).aY) == 2) = false ->
 VC29_J2 Q I1 μ1 v103 false))))))) /\
 ((decide (v103 < (l_.length : Int))) = false ->
 VC29_J1 l_ Q))
def VC15_J1 (Q : Bool -> Prop) : Prop :=
 Q true
def VC15 (a_ : List al) (b_ : List al) (Q : Bool -> Prop) : Prop :=
 sm a_ ->
 ∀ (_ : sm b_),
 (((a_.length : Int) != (b_.length : Int)) = true ->
 Q false) /\
 (((a_.length : Int) != (b_.length : Int)) = false ->
 ∃ (I1 : Int -> Prop) (μ1 : Int -> Nat), I1 0 /\ ∀ (v103 : Int), I1 v103 ->
 ((decide (v103 < (a_.length : Int))) = true ->
 ((0 : Int) ≤ v103 /\ v103 < (a_.length : Int)) /\
 ((0 : Int) ≤ v103 /\ v103 < (b_.length : Int)) /\
 ((!(((gi a_ v103).aY) == ((gi b_ v103).aY) && (((gi a_ v103).ab) == ((gi b_ v103).ab) && (((gi a_ v103).N) == ((gi b_ v103).N) && true)))) = true ->
 Q false) /\
 ((!(((gi a_ v103).aY) == ((gi b_ v103).aY) && (((gi a_ v103).ab) == ((gi b_ v103).ab) && (((gi a_ v103).N) == ((gi b_ v103).N) && true)))) = false ->
 I1 (IntKind.i64.wrap (v103 + 1)) /\ μ1 (IntKind.i64.wrap (v103 + 1)) < μ1 v103)) /\
 ((decide (v103 < (a_.length : Int))) = false ->
 VC15_J1 Q))
def VC37_J1 (Q : Bool -> Prop) : Prop :=
 Q true
def VC37 (a_ : List aS) (b_ : List aS) (Q : Bool -> Prop) : Prop :=
 sm a_ ->
 ∀ (_ : sm b_),
 (((a_.length : Int) != (b_.length : Int)) = true ->
 Q false) /\
 (((a_.length : Int) != (b_.length : Int)) = false ->
 ∃ (I1 : Int -> Prop) (μ1 : Int -> Nat), I1 0 /\ ∀ (v103 : Int), I1 v103 ->
 ((decide (v103 < (a_.length : Int))) = true ->
 ((0 : Int) ≤ v103 /\ v103 < (a_.length : Int)) /\
 ((0 : Int) ≤ v103 /\ v103 < (b_.length : Int)) /\
 ((!(((gi a_ v103).State) == ((gi b_ v103).State) && (((gi a_ v103).Kind) == ((gi b_ v103).Kind) && (((gi a_ v103).Next) == ((gi b_ v103).Next) && (((gi a_ v103).Result) == ((gi b_ v103).Result) && true))))) = true ->
 Q false) /\
 ((!(((gi a_ v103).State) == ((gi b_ v103).State) && (((gi a_ v103).Kind) == ((gi b_ v103).Kind) && (((gi a_ v103).Next) == ((gi b_ v103).Next) && (((gi a_ v103).Result) == ((gi b_ v103).Result) && true))))) = false ->
 I1 (IntKind.i64.wrap (v103 + 1)) /\ μ1 (IntKind.i64.wrap (v103 + 1)) < μ1 v103)) /\
 ((decide (v103 < (a_.length : Int))) = false ->
 VC37_J1 Q))
def VC16 (a_ : ai) (b_ : ai) (Q : Bool -> Prop) : Prop :=
 sm a_.Rows ->
 ∀ (_ : sm b_.Rows),
 ((((a_.ao == b_.ao) && (a_.av == b_.av)) && (a_.aC == b_.aC)) = true ->
 ∀ r104, cU a_.Rows b_.Rows = r104 ->
 Q r104) /\
 ((((a_.ao == b_.ao) && (a_.av == b_.av)) && (a_.aC == b_.aC)) = false ->
 Q false)
def VC32_J1 (Q : ((List aa) × Int) -> Prop) (v109 : List aa) : Prop :=
 Q (v109, 0)
def VC32_J2 (I1 : (List aa) -> (List (Int × Int)) -> Int -> Prop) (μ1 : (List aa) -> (List (Int × Int)) -> Int -> Nat) (v115 : List aa) (v119 : List (Int × Int)) (v122 : Int) (v123 : List aa) (v127 : List (Int × Int)) : Prop :=
 I1 v123 v127 (IntKind.i64.wrap (v122 + 1)) /\ μ1 v123 v127 (IntKind.i64.wrap (v122 + 1)) < μ1 v115 v119 v122
def VC32 (l_ : List al) (Q : (List aa) × Int -> Prop) : Prop :=
 sm l_ ->
 ∀ r104, bB l_ = r104 ->
 ((r104.2 != 0) = true ->
 Q ([], r104.2)) /\
 ((r104.2 != 0) = false ->
 ∃ (I1 : (List aa) -> (List (Int × Int)) -> Int -> Prop) (μ1 : (List aa) -> (List (Int × Int)) -> Int -> Nat), I1 [] ([] : List (Int × Int)) 0 /\ ∀ (v115 : List aa) (v119 : List (Int × Int)) (v122 : Int), I1 v115 v119 v122 ->
 ((decide (v122 < (l_.length : Int))) = true ->
 ((0 : Int) ≤ v122 /\ v122 < (l_.length : Int)) /\
 ((((gi l_ v122).aY) == 1) = true ->
 (v115.length + [(⟨(gi l_ v122).ab, (gi l_ v122).N, v122, (-1), (-1)⟩ : aa)].length ≤ 1099511627776) /\
 VC32_J2 I1 μ1 v115 v119 v122 (v115 ++ [(⟨(gi l_ v122).ab, (gi l_ v122).N, v122, (-1), (-1)⟩ : aa)]) (cg v119 ((gi l_ v122).ab) (v115.length : Int))) /\
 ((((gi l_ v122).aY) == 1) = false ->
 ((0 : Int) ≤ ((ay v119 ((gi l_ v122).ab)).getD 0) /\ ((ay v119 ((gi l_ v122).ab)).getD 0) < (v115.length : Int)) /\
 VC32_J2 I1 μ1 v115 v119 v122 ((v115.set ((ay v119 ((gi l_ v122).ab)).getD 0).toNat (⟨(gi v115 ((ay v119 ((gi l_ v122).ab)).getD 0)).ab, (gi v115 ((ay v119 ((gi l_ v122).ab)).getD 0)).Kind, (gi v115 ((ay v119 ((gi l_ v122).ab)).getD 0)).aA, v122, (gi v115 ((ay v119 ((gi l_ v122).ab)).getD 0)).Result⟩ : aa)).set ((ay v119 ((gi l_ v122).ab)).getD 0).toNat (⟨(gi (v115.set ((ay v119 ((gi l_ v122).ab)).getD 0).toNat (⟨(gi v115 ((ay v119 ((gi l_ v122).ab)).getD 0)).ab, (gi v115 ((ay v119 ((gi l_ v122).ab)).getD 0)).Kind, (gi v115 ((ay v119 ((gi l_ v122).ab)).getD 0)).aA, v122, (gi v115 ((ay v119 ((gi l_ v122).ab)).getD 0)).Result⟩ : aa)) ((ay v119 ((gi l_ v122).ab)).getD 0)).ab, (gi (v115.set ((ay v119 ((gi l_ v122).ab)).getD 0).toNat (⟨(gi v115 ((ay v119 ((gi l_ v122).ab)).getD 0)).ab, (gi v115 ((ay v119 ((gi l_ v122).ab)).getD 0)).Kind, (gi v115 ((ay v119 ((gi l_ v122).ab)).getD 0)).aA, v122, (gi v115 ((ay v119 ((gi l_ v122).ab)).getD 0)).Result⟩ : aa)) ((ay v119 ((gi l_ v122).ab)).getD 0)).Kind, (gi (v115.set ((ay v119 ((gi l_ v122).ab)).getD 0).toNat (⟨(gi v115 ((ay v119 ((gi l_ v122).ab)).getD 0)).ab, (gi v115 ((ay v119 ((gi l_ v122).ab)).getD 0)).Kind, (gi v115 ((ay v119 ((gi l_ v122).ab)).getD 0)).aA, v122, (gi v115 ((ay v119 ((gi l_ v122).ab)).getD 0)).Result⟩ : aa)) ((ay v119 ((gi l_ v122).ab)).getD 0)).aA, (gi (v115.set ((ay v119 ((gi l_ v122).ab)).getD 0).toNat (⟨(gi v115 ((ay v119 ((gi l_ v122).ab)).getD 0)).ab, (gi v115 ((ay v119 ((gi l_ v122).ab)).getD 0)).Kind, (gi v115 ((ay v119 ((gi l_ v122).ab)).getD 0)).aA, v122, (gi v115 ((ay v119 ((gi l_ v122).ab)).getD 0)).Result⟩ : aa)) ((ay v119 ((gi l_ v122).ab)).getD 0)).End, (gi l_ v122).N⟩ : aa)) v119)) /\
 ((decide (v122 < (l_.length : Int))) = false ->
 VC32_J1 Q v115))
def VC33_J1 (Q : ((List aa) × Int) -> Prop) (v105 : List aa) : Prop :=
 Q (v105, 0)
def VC33_J2 (I1 : (List aa) -> Int -> Prop) (μ1 : (List aa) -> Int -> Nat) (v112 : List aa) (v116 : Int) (v118 : List aa) : Prop :=
 I1 v118 (IntKind.i64.wrap (v116 + 1)) /\ μ1 v118 (IntKind.i64.wrap (v116 + 1)) < μ1 v112 v116
def VC33_J3 (I1 : (List aa) -> Int -> Prop) (μ1 : (List aa) -> Int -> Nat) (v112 : List aa) (v116 : Int) (v145 : List aa) (v149 : Int) (v150 : Int) (v151 : Int) (v152 : Int) (v153 : Int) : Prop :=
 (v145.length + [(⟨v149, v150, v151, v152, v153⟩ : aa)].length ≤ 1099511627776) /\
 VC33_J2 I1 μ1 v112 v116 (v145 ++ [(⟨v149, v150, v151, v152, v153⟩ : aa)])
def VC33_J4 (I2 : (List aa) -> Int -> Int -> Int -> Int -> Int -> Int -> Prop) (μ2 : (List aa) -> Int -> Int -> Int -> Int -> Int -> Int -> Nat) (v164 : List aa) (v168 : Int) (v169 : Int) (v170 : Int) (v171 : Int) (v172 : Int) (v173 : Int) (v175 : List aa) (v179 : Int) (v180 : Int) : Prop :=
 I2 v175 (IntKind.i64.wrap (v168 + 1)) v169 v170 v171 v179 v180 /\ μ2 v175 (IntKind.i64.wrap (v168 + 1)) v169 v170 v171 v179 v180 < μ2 v164 v168 v169 v170 v171 v172 v173
def VC33 (l_ : List al) (Q : (List aa) × Int -> Prop) : Prop :=
 sm l_ ->
 ∀ r104, dg l_ = r104 ->
 ((r104.2 != 0) = true ->
 Q ([], r104.2)) /\
 ((r104.2 != 0) = false ->
 ∃ (I1 : (List aa) -> Int -> Prop) (μ1 : (List aa) -> Int -> Nat), I1 [] 0 /\ ∀ (v112 : List aa) (v116 : Int), I1 v112 v116 ->
 ((decide (v116 < (l_.length : Int))) = true ->
 ((0 : Int) ≤ v116 /\ v116 < (l_.length : Int)) /\
 ((((gi l_ v116).aY) != 1) = true ->
 VC33_J2 I1 μ1 v112 v116 v112) /\
 ((((gi l_ v116).aY) != 1) = false ->
 ((0 : Int) ≤ v116 /\ v116 < (l_.length : Int)) /\
 ((0 : Int) ≤ v116 /\ v116 < (l_.length : Int)) /\
 ∃ (I2 : (List aa) -> Int -> Int -> Int -> Int -> Int -> Int -> Prop) (μ2 : (List aa) -> Int -> Int -> Int -> Int -> Int -> Int -> Nat), I2 v112 (IntKind.i64.wrap (v116 + 1)) ((gi l_ v116).ab) ((gi l_ v116).N) v116 (-1) (-1) /\ ∀ (v164 : List aa) (v168 : Int) (v169 : Int) (v170 : Int) (v171 : Int) (v172 : Int) (v173 : Int), I2 v164 v168 v169 v170 v171 v172 v173 ->
 (((decide (v168 < (l_.length : Int))) && (decide (v172 < 0))) = true ->
 ((0 : Int) ≤ v168 /\ v168 < (l_.length : Int)) /\
 ((0 : Int) ≤ v116 /\ v116 < (l_.length : Int)) /\
 ((((gi l_ v168).ab) == ((gi l_ v116).ab)) = true ->
 ((0 : Int) ≤ v168 /\ v168 < (l_.length : Int)) /\
 VC33_J4 I2 μ2 v164 v168 v169 v170 v171 v172 v173 v164 v168 ((gi l_ v168).N)) /\
 ((((gi l_ v168).ab) == ((gi l_ v116).ab)) = false ->
 VC33_J4 I2 μ2 v164 v168 v169 v170 v171 v172 v173 v164 v172 v173)) /\
 (((decide (v168 < (l_.length : Int))) && (decide (v172 < 0))) = false ->
 VC33_J3 I1 μ1 v112 v116 v164 v169 v170 v171 v172 v173))) /\
 ((decide (v116 < (l_.length : Int))) = false ->
 VC33_J1 Q v112))
def VC13_J1 (Q : Bool -> Prop) : Prop :=
 Q true
def VC13 (a_ : List aa) (b_ : List aa) (Q : Bool -> Prop) : Prop :=
 sm a_ ->
 ∀ (_ : sm b_),
 (((a_.length : Int) != (b_.length : Int)) = true ->
 Q false) /\
 (((a_.length : Int) != (b_.length : Int)) = false ->
 ∃ (I1 : Int -> Prop) (μ1 : Int -> Nat), I1 0 /\ ∀ (v103 : Int), I1 v103 ->
 ((decide (v103 < (a_.length : Int))) = true ->
 ((0 : Int) ≤ v103 /\ v103 < (a_.length : Int)) /\
 ((0 : Int) ≤ v103 /\ v103 < (b_.length : Int)) /\
 ((!(((gi a_ v103).ab) == ((gi b_ v103).ab) && (((gi a_ v103).Kind) == ((gi b_ v103).Kind) && (((gi a_ v103).aA) == ((gi b_ v103).aA) && (((gi a_ v103).End) == ((gi b_ v103).End) && (((gi a_ v103).Result) == ((gi b_ v103).Result) && true)))))) = true ->
 Q false) /\
 ((!(((gi a_ v103).ab) == ((gi b_ v103).ab) && (((gi a_ v103).Kind) == ((gi b_ v103).Kind) && (((gi a_ v103).aA) == ((gi b_ v103).aA) && (((gi a_ v103).End) == ((gi b_ v103).End) && (((gi a_ v103).Result) == ((gi b_ v103).Result) && true)))))) = false ->
 I1 (IntKind.i64.wrap (v103 + 1)) /\ μ1 (IntKind.i64.wrap (v103 + 1)) < μ1 v103)) /\
 ((decide (v103 < (a_.length : Int))) = false ->
 VC13_J1 Q))
def VC14_J1 (Q : Bool -> Prop) : Prop :=
 Q true
def VC14 (a_ : List Int) (b_ : List Int) (Q : Bool -> Prop) : Prop :=
 sm a_ ->
 ∀ (_ : sm b_),
 (((a_.length : Int) != (b_.length : Int)) = true ->
 Q false) /\
 (((a_.length : Int) != (b_.length : Int)) = false ->
 ∃ (I1 : Int -> Prop) (μ1 : Int -> Nat), I1 0 /\ ∀ (v103 : Int), I1 v103 ->
 ((decide (v103 < (a_.length : Int))) = true ->
 ((0 : Int) ≤ v103 /\ v103 < (a_.length : Int)) /\
 ((0 : Int) ≤ v103 /\ v103 < (b_.length : Int)) /\
 (((gi a_ v103) != (gi b_ v103)) = true ->
 Q false) /\
 (((gi a_ v103) != (gi b_ v103)) = false ->
 I1 (IntKind.i64.wrap (v103 + 1)) /\ μ1 (IntKind.i64.wrap (v103 + 1)) < μ1 v103)) /\
 ((decide (v103 < (a_.length : Int))) = false ->
 VC14_J1 Q))
def VC72_J1 (Q : Int -> Prop) : Prop :=
 Q (-1)
def VC72 (s_ : List Int) (v_ : Int) (Q : Int -> Prop) : Prop :=
 sm s_ ->
 ∃ (I1 : Int -> Prop) (μ1 : Int -> Nat), I1 0 /\ ∀ (v102 : Int), I1 v102 ->
 ((decide (v102 < (s_.length : Int))) = true ->
 ((0 : Int) ≤ v102 /\ v102 < (s_.length : Int)) /\
 ((v_ == (gi s_ v102)) = true ->
 Q v102) /\
 ((v_ == (gi s_ v102)) = false ->
 I1 (IntKind.i64.wrap (v102 + 1)) /\ μ1 (IntKind.i64.wrap (v102 + 1)) < μ1 v102)) /\
 ((decide (v102 < (s_.length : Int))) = false ->
 VC72_J1 Q)
def VC61 (s_ : List Int) (v_ : Int) (Q : Bool -> Prop) : Prop :=
 sm s_ ->
 ∀ r104, cM s_ v_ = r104 ->
 Q (decide (r104 ≥ 0))
def VC36 (s_ : List aS) (Q : (List aS) -> Prop) : Prop :=
 sm s_ ->
 ∀ (b101 : Bool), (b101 = true -> s_ = []) ->
 (b101 = true ->
 Q []) /\
 (b101 = false ->
 (([] : List aS).length + s_.length ≤ 1099511627776) /\
 Q (([] : List aS) ++ s_))
def VC60 (p_ : Int × Int) (n_ : Int) (Q : Bool -> Prop) : Prop :=
 Q (((decide ((if p_.2 < p_.1 then p_.2 else p_.1) ≥ 0)) && (decide ((if p_.2 > p_.1 then p_.2 else p_.1) < n_))) && (p_.1 != p_.2))
def VC59 (p_ : Int × Int) (cap1 : Int) (cap2 : Int) (cap3 : List Int) (Q : Bool -> Prop) : Prop :=
 sm cap3 ->
 ∀ r104, c9 (p_.1, p_.2) cap1 = r104 ->
 ((r104 && (p_.2 == cap2)) = true ->
 ∀ r108, bM cap3 p_.1 = r108 ->
 Q (!r108)) /\
 ((r104 && (p_.2 == cap2)) = false ->
 Q false)
def VC73_59_J1 (Q : Int -> Prop) : Prop :=
 Q (-1)
def VC73_59 (s_ : List (Int × Int)) (cap1 : Int) (cap2 : Int) (cap3 : List Int) (Q : Int -> Prop) : Prop :=
 sm s_ ->
 ∀ (_ : sm cap3),
 ∃ (I1 : Int -> Prop) (μ1 : Int -> Nat), I1 0 /\ ∀ (v103 : Int), I1 v103 ->
 ((decide (v103 < (s_.length : Int))) = true ->
 ((0 : Int) ≤ v103 /\ v103 < (s_.length : Int)) /\
 ∀ r111, bH (gi s_ v103) cap1 cap2 cap3 = r111 ->
 (r111 = true ->
 Q v103) /\
 (r111 = false ->
 I1 (IntKind.i64.wrap (v103 + 1)) /\ μ1 (IntKind.i64.wrap (v103 + 1)) < μ1 v103)) /\
 ((decide (v103 < (s_.length : Int))) = false ->
 VC73_59_J1 Q)
def VC62_59 (s_ : List (Int × Int)) (cap1 : Int) (cap2 : Int) (cap3 : List Int) (Q : Bool -> Prop) : Prop :=
 sm s_ ->
 ∀ (_ : sm cap3),
 ∀ r104, aZ s_ cap1 cap2 cap3 = r104 ->
 Q (decide (r104 ≥ 0))
def VC58 (x_ : Int) (cap1 : Int) (cap2 : List Int) (cap3 : List (Int × Int)) (Q : Bool -> Prop) : Prop :=
 sm cap2 ->
 ∀ (_ : sm cap3),
 ∀ r104, bM cap2 x_ = r104 ->
 (r104 = true ->
 Q true) /\
 (r104 = false ->
 ∀ r108, bh cap3 cap1 x_ cap2 = r108 ->
 Q r108)
def VC41_J1 (Q : ((List Int) × Bool) -> Prop) (v105 : List Int) : Prop :=
 Q (v105, true)
def VC41_J2 (n_ : Int) (Q : ((List Int) × Bool) -> Prop) (I1 : (List Int) -> Prop) (μ1 : (List Int) -> Nat) (v112 : List Int) (v116 : Int) (v118 : List Int) : Prop :=
 ((v116 == n_) = true ->
 Q ([], false)) /\
 ((v116 == n_) = false ->
 (v118.length + [v116].length ≤ 1099511627776) /\
 I1 (v118 ++ [v116]) /\ μ1 (v118 ++ [v116]) < μ1 v112)
def VC41_J3 (n_ : Int) (Q : ((List Int) × Bool) -> Prop) (I1 : (List Int) -> Prop) (μ1 : (List Int) -> Nat) (v112 : List Int) (I2 : Int -> (List Int) -> Prop) (μ2 : Int -> (List Int) -> Nat) (v133 : Int) (v135 : List Int) (v139 : Bool) (v141 : List Int) : Prop :=
 (v139 = true ->
 I2 (IntKind.i64.wrap (v133 + 1)) v141 /\ μ2 (IntKind.i64.wrap (v133 + 1)) v141 < μ2 v133 v135) /\
 (v139 = false ->
 VC41_J2 n_ Q I1 μ1 v112 v133 v141)
def VC41 (n_ : Int) (pairs : List (Int × Int)) (Q : (List Int) × Bool -> Prop) : Prop :=
 sm pairs ->
 (((decide (n_ < 0)) || (decide (n_ > 64))) = true ->
 Q ([], false)) /\
 (((decide (n_ < 0)) || (decide (n_ > 64))) = false ->
 ((0 : Int) ≤ 0 /\ 0 ≤ n_ /\ n_ ≤ 1099511627776) /\
 ∃ (I1 : (List Int) -> Prop) (μ1 : (List Int) -> Nat), I1 (List.replicate (0 : Int).toNat (0 : Int)) /\ ∀ (v112 : List Int), I1 v112 ->
 ((decide ((v112.length : Int) < n_)) = true ->
 ∃ (I2 : Int -> (List Int) -> Prop) (μ2 : Int -> (List Int) -> Nat), I2 0 v112 /\ ∀ (v133 : Int) (v135 : List Int), I2 v133 v135 ->
 ((decide (v133 < n_)) = true ->
 ∀ r148, cb v133 n_ v135 pairs = r148 ->
 VC41_J3 n_ Q I1 μ1 v112 I2 μ2 v133 v135 r148 v135) /\
 ((decide (v133 < n_)) = false ->
 VC41_J3 n_ Q I1 μ1 v112 I2 μ2 v133 v135 false v135)) /\
 ((decide ((v112.length : Int) < n_)) = false ->
 VC41_J1 Q v112))
def VC27_J1 (Q : ((List al)) -> Prop) (v101 : List al) : Prop :=
 Q v101
def VC27 (h_ : ak) (Q : (List al) -> Prop) : Prop :=
 sm h_.ae ->
 ∀ (_ : sm h_.aj),
 ∃ (I1 : (List al) -> Int -> Prop) (μ1 : (List al) -> Int -> Nat), I1 [] 0 /\ ∀ (v107 : List al) (v112 : Int), I1 v107 v112 ->
 ((decide (v112 < (h_.aj.length : Int))) = true ->
 ((0 : Int) ≤ v112 /\ v112 < (h_.aj.length : Int)) /\
 (v107.length + [((gi h_.aj v112).aH)].length ≤ 1099511627776) /\
 I1 (v107 ++ [((gi h_.aj v112).aH)]) (IntKind.i64.wrap (v112 + 1)) /\ μ1 (v107 ++ [((gi h_.aj v112).aH)]) (IntKind.i64.wrap (v112 + 1)) < μ1 v107 v112) /\
 ((decide (v112 < (h_.aj.length : Int))) = false ->
 VC27_J1 Q v107)
def VC23 (o_ : ai) (Q : Bool -> Prop) : Prop :=
 sm o_.Rows ->
 (fV o_) /\
 ∀ r104, bd o_ = r104 ->
 Q (r104.2 != 0)
def VC49_23_J1 (Q : Int -> Prop) : Prop :=
 Q (-1)
def VC49_23 (s_ : List ai) (Q : Int -> Prop) : Prop :=
 sm s_ ->
 ∃ (I1 : Int -> Prop) (μ1 : Int -> Nat), I1 0 /\ ∀ (v102 : Int), I1 v102 ->
 ((decide (v102 < (s_.length : Int))) = true ->
 ((0 : Int) ≤ v102 /\ v102 < (s_.length : Int)) /\
 ∀ (_ : sm ((gi s_ v102).Rows)),
 (fV (gi s_ v102)) /\
 ∀ r112, b7 (gi s_ v102) = r112 ->
 (r112 = true ->
 Q v102) /\
 (r112 = false ->
 I1 (IntKind.i64.wrap (v102 + 1)) /\ μ1 (IntKind.i64.wrap (v102 + 1)) < μ1 v102)) /\
 ((decide (v102 < (s_.length : Int))) = false ->
 VC49_23_J1 Q)
def VC25_23 (s_ : List ai) (Q : Bool -> Prop) : Prop :=
 sm s_ ->
 (gS s_) /\
 ∀ r104, aQ s_ = r104 ->
 Q (decide (r104 ≥ 0))
def VC6_J2 (h_ : ak) (Q : (Int × Int) -> Prop) : Prop :=
 Q ((h_.aj.length : Int), 0)
def VC6_J4 (h_ : ak) (Q : (Int × Int) -> Prop) (I1 : (List (Int × Int)) -> Int -> Prop) (μ1 : (List (Int × Int)) -> Int -> Nat) (v121 : List (Int × Int)) (v124 : Int) (v137 : Bool) : Prop :=
 (v137 = true ->
 Q (v124, 31)) /\
 (v137 = false ->
 I1 (cg v121 (((gi h_.aj v124).aH).ab) ((gi h_.aj v124).ar)) (IntKind.i64.wrap (v124 + 1)) /\ μ1 (cg v121 (((gi h_.aj v124).aH).ab) ((gi h_.aj v124).ar)) (IntKind.i64.wrap (v124 + 1)) < μ1 v121 v124)
def VC6_J3 (h_ : ak) (Q : (Int × Int) -> Prop) (I1 : (List (Int × Int)) -> Int -> Prop) (μ1 : (List (Int × Int)) -> Int -> Nat) (v121 : List (Int × Int)) (v124 : Int) (v132 : Bool) : Prop :=
 (v132 = true ->
 Q (v124, 32)) /\
 (v132 = false ->
 (((((gi h_.aj v124).aH).aY) == 1) = true ->
 ((0 : Int) ≤ ((gi h_.aj v124).ar) /\ ((gi h_.aj v124).ar) < (h_.ae.length : Int)) /\
 VC6_J4 h_ Q I1 μ1 v121 v124 (decide ((((gi h_.aj v124).aH).N) ≥ ((gi h_.ae ((gi h_.aj v124).ar)).av)))) /\
 (((((gi h_.aj v124).aH).aY) == 1) = false ->
 VC6_J4 h_ Q I1 μ1 v121 v124 false))
def VC6_J1 (h_ : ak) (Q : (Int × Int) -> Prop) (v101 : Bool) : Prop :=
 (v101 = true ->
 Q ((-1), 2)) /\
 (v101 = false ->
 (fZ (⟨h_.ae, h_.aj⟩ : ak)) /\
 ∀ r107, bK (⟨h_.ae, h_.aj⟩ : ak) = r107 ->
 sm r107 ->
 ∀ r114, bB r107 = r114 ->
 ((r114.2 != 0) = true ->
 Q (r114.1, r114.2)) /\
 ((r114.2 != 0) = false ->
 ∃ (I1 : (List (Int × Int)) -> Int -> Prop) (μ1 : (List (Int × Int)) -> Int -> Nat), I1 ([] : List (Int × Int)) 0 /\ ∀ (v121 : List (Int × Int)) (v124 : Int), I1 v121 v124 ->
 ((decide (v124 < (h_.aj.length : Int))) = true ->
 ((0 : Int) ≤ v124 /\ v124 < (h_.aj.length : Int)) /\
 (((decide (((gi h_.aj v124).ar) < 0)) || (decide (((gi h_.aj v124).ar) ≥ (h_.ae.length : Int)))) = true ->
 Q (v124, 2)) /\
 (((decide (((gi h_.aj v124).ar) < 0)) || (decide (((gi h_.aj v124).ar) ≥ (h_.ae.length : Int)))) = false ->
 (((((gi h_.aj v124).aH).aY) == 2) = true ->
 VC6_J3 h_ Q I1 μ1 v121 v124 (((ay v121 (((gi h_.aj v124).aH).ab)).getD 0) != ((gi h_.aj v124).ar))) /\
 (((((gi h_.aj v124).aH).aY) == 2) = false ->
 VC6_J3 h_ Q I1 μ1 v121 v124 false))) /\
 ((decide (v124 < (h_.aj.length : Int))) = false ->
 VC6_J2 h_ Q)))
def VC6 (h_ : ak) (Q : Int × Int -> Prop) : Prop :=
 sm h_.ae ->
 ∀ (_ : sm h_.aj),
 (((decide ((h_.ae.length : Int) < 1)) || (decide ((h_.ae.length : Int) > 8))) = true ->
 VC6_J1 h_ Q true) /\
 (((decide ((h_.ae.length : Int) < 1)) || (decide ((h_.ae.length : Int) > 8))) = false ->
 (gS h_.ae) /\
 ∀ r163, aN h_.ae = r163 ->
 VC6_J1 h_ Q r163)
def VC30_J1 (Q : ((List al)) -> Prop) (v101 : List al) : Prop :=
 Q v101
def VC30 (l_ : List aD) (Q : (List al) -> Prop) : Prop :=
 sm l_ ->
 ∃ (I1 : (List al) -> Int -> Prop) (μ1 : (List al) -> Int -> Nat), I1 [] 0 /\ ∀ (v108 : List al) (v112 : Int), I1 v108 v112 ->
 ((decide (v112 < (l_.length : Int))) = true ->
 ((0 : Int) ≤ v112 /\ v112 < (l_.length : Int)) /\
 (v108.length + [(gi l_ v112).aH].length ≤ 1099511627776) /\
 I1 (v108 ++ [(gi l_ v112).aH]) (IntKind.i64.wrap (v112 + 1)) /\ μ1 (v108 ++ [(gi l_ v112).aH]) (IntKind.i64.wrap (v112 + 1)) < μ1 v108 v112) /\
 ((decide (v112 < (l_.length : Int))) = false ->
 VC30_J1 Q v108)
def VC31_J1 (Q : Int -> Prop) : Prop :=
 Q (-1)
def VC31 (l_ : List aD) (at_ : Int) (Q : Int -> Prop) : Prop :=
 sm l_ ->
 ∃ (I1 : Int -> Prop) (μ1 : Int -> Nat), I1 (IntKind.i64.wrap (at_ - 1)) /\ ∀ (v102 : Int), I1 v102 ->
 ((decide (v102 ≥ 0)) = true ->
 ((0 : Int) ≤ v102 /\ v102 < (l_.length : Int)) /\
 ((0 : Int) ≤ at_ /\ at_ < (l_.length : Int)) /\
 (((((gi l_ v102).aH).ab) == (((gi l_ at_).aH).ab)) = true ->
 ((0 : Int) ≤ v102 /\ v102 < (l_.length : Int)) /\
 Q ((gi l_ v102).ar)) /\
 (((((gi l_ v102).aH).ab) == (((gi l_ at_).aH).ab)) = false ->
 I1 (IntKind.i64.wrap (v102 - 1)) /\ μ1 (IntKind.i64.wrap (v102 - 1)) < μ1 v102)) /\
 ((decide (v102 ≥ 0)) = false ->
 VC31_J1 Q)
def VC7_J2 (l_ : List aD) (Q : (Int × Int) -> Prop) : Prop :=
 Q ((l_.length : Int), 0)
def VC7_J4 (Q : (Int × Int) -> Prop) (I1 : Int -> Prop) (μ1 : Int -> Nat) (v117 : Int) (v126 : Bool) : Prop :=
 (v126 = true ->
 Q (v117, 31)) /\
 (v126 = false ->
 I1 (IntKind.i64.wrap (v117 + 1)) /\ μ1 (IntKind.i64.wrap (v117 + 1)) < μ1 v117)
def VC7_J3 (objects : List ai) (l_ : List aD) (Q : (Int × Int) -> Prop) (I1 : Int -> Prop) (μ1 : Int -> Nat) (v117 : Int) (v123 : Bool) : Prop :=
 (v123 = true ->
 Q (v117, 32)) /\
 (v123 = false ->
 (((((gi l_ v117).aH).aY) == 1) = true ->
 ((0 : Int) ≤ ((gi l_ v117).ar) /\ ((gi l_ v117).ar) < (objects.length : Int)) /\
 VC7_J4 Q I1 μ1 v117 (decide ((((gi l_ v117).aH).N) ≥ ((gi objects ((gi l_ v117).ar)).av)))) /\
 (((((gi l_ v117).aH).aY) == 1) = false ->
 VC7_J4 Q I1 μ1 v117 false))
def VC7_J1 (objects : List ai) (l_ : List aD) (Q : (Int × Int) -> Prop) : Prop :=
 (kJ l_) /\
 ∀ r106, bS l_ = r106 ->
 sm r106 ->
 ∀ r113, dg r106 = r113 ->
 ((r113.2 != 0) = true ->
 Q (r113.1, r113.2)) /\
 ((r113.2 != 0) = false ->
 ∃ (I1 : Int -> Prop) (μ1 : Int -> Nat), I1 0 /\ ∀ (v117 : Int), I1 v117 ->
 ((decide (v117 < (l_.length : Int))) = true ->
 ((0 : Int) ≤ v117 /\ v117 < (l_.length : Int)) /\
 (((decide (((gi l_ v117).ar) < 0)) || (decide (((gi l_ v117).ar) ≥ (objects.length : Int)))) = true ->
 Q (v117, 2)) /\
 (((decide (((gi l_ v117).ar) < 0)) || (decide (((gi l_ v117).ar) ≥ (objects.length : Int)))) = false ->
 (((((gi l_ v117).aH).aY) == 2) = true ->
 (lu l_ v117) /\
 ∀ r141, dD l_ v117 = r141 ->
 VC7_J3 objects l_ Q I1 μ1 v117 (r141 != ((gi l_ v117).ar))) /\
 (((((gi l_ v117).aH).aY) == 2) = false ->
 VC7_J3 objects l_ Q I1 μ1 v117 false))) /\
 ((decide (v117 < (l_.length : Int))) = false ->
 VC7_J2 l_ Q))
def VC7 (objects : List ai) (l_ : List aD) (Q : Int × Int -> Prop) : Prop :=
 sm objects ->
 ∀ (_ : sm l_),
 (((decide ((objects.length : Int) < 1)) || (decide ((objects.length : Int) > 8))) = true ->
 Q ((-1), 2)) /\
 (((decide ((objects.length : Int) < 1)) || (decide ((objects.length : Int) > 8))) = false ->
 ∃ (I2 : Int -> Prop) (μ2 : Int -> Nat), I2 0 /\ ∀ (v152 : Int), I2 v152 ->
 ((decide (v152 < (objects.length : Int))) = true ->
 ((0 : Int) ≤ v152 /\ v152 < (objects.length : Int)) /\
 ∀ (_ : sm ((gi objects v152).Rows)),
 ∀ r162, b5 (gi objects v152) = r162 ->
 ((r162.2 != 0) = true ->
 Q ((-1), 2)) /\
 ((r162.2 != 0) = false ->
 I2 (IntKind.i64.wrap (v152 + 1)) /\ μ2 (IntKind.i64.wrap (v152 + 1)) < μ2 v152)) /\
 ((decide (v152 < (objects.length : Int))) = false ->
 VC7_J1 objects l_ Q))
def VC35 (i_ : Int) (cap1 : ak) (cap2 : Int) (Q : Bool -> Prop) : Prop :=
 sm cap1.ae ->
 ∀ (_ : sm cap1.aj),
 ((0 : Int) ≤ i_ /\ i_ < (cap1.aj.length : Int)) /\
 Q (((gi cap1.aj i_).ar) == cap2)
def VC34_35_J1 (Q : ((List al)) -> Prop) (v101 : List al) : Prop :=
 Q v101
def VC34_35_J2 (I1 : (List al) -> Int -> Prop) (μ1 : (List al) -> Int -> Nat) (v109 : List al) (v114 : Int) (v117 : List al) : Prop :=
 I1 v117 (IntKind.i64.wrap (v114 + 1)) /\ μ1 v117 (IntKind.i64.wrap (v114 + 1)) < μ1 v109 v114
def VC34_35 (l_ : List al) (cap1 : ak) (cap2 : Int) (Q : (List al) -> Prop) : Prop :=
 sm l_ ->
 ∀ (_ : sm cap1.ae),
 sm cap1.aj ->
 ∃ (I1 : (List al) -> Int -> Prop) (μ1 : (List al) -> Int -> Nat), I1 [] 0 /\ ∀ (v109 : List al) (v114 : Int), I1 v109 v114 ->
 ((decide (v114 < (l_.length : Int))) = true ->
 ((0 : Int) ≤ v114 /\ v114 < (l_.length : Int)) /\
 (nj v114 (⟨cap1.ae, cap1.aj⟩ : ak) cap2) /\
 ∀ r130, da v114 (⟨cap1.ae, cap1.aj⟩ : ak) cap2 = r130 ->
 (r130 = true ->
 (v109.length + [(gi l_ v114)].length ≤ 1099511627776) /\
 VC34_35_J2 I1 μ1 v109 v114 (v109 ++ [(gi l_ v114)])) /\
 (r130 = false ->
 VC34_35_J2 I1 μ1 v109 v114 v109)) /\
 ((decide (v114 < (l_.length : Int))) = false ->
 VC34_35_J1 Q v109)
def VC11 (h_ : ak) (k_ : Int) (Q : dq -> Prop) : Prop :=
 sm h_.ae ->
 ∀ (_ : sm h_.aj),
 (dS h_) /\
 ∀ r104, aV h_ = r104 ->
 ((((r104.2 != 0) || (decide (k_ < 0))) || (decide (k_ ≥ (h_.ae.length : Int)))) = true ->
 Q (⟨(⟨0, 0, 0, []⟩ : ai), []⟩ : dq)) /\
 ((((r104.2 != 0) || (decide (k_ < 0))) || (decide (k_ ≥ (h_.ae.length : Int)))) = false ->
 (fZ h_) /\
 ∀ r110, bK h_ = r110 ->
 sm r110 ->
 (nm r110 h_ k_) /\
 ∀ r117, bp r110 h_ k_ = r117 ->
 sm r117 ->
 ((0 : Int) ≤ k_ /\ k_ < (h_.ae.length : Int)) /\
 ∀ (_ : sm ((gi h_.ae k_).Rows)),
 (ny ((gi h_.ae k_).Rows)) /\
 ∀ r132, bZ ((gi h_.ae k_).Rows) = r132 ->
 sm r132 ->
 Q (⟨(⟨(gi h_.ae k_).ao, (gi h_.ae k_).av, (gi h_.ae k_).aC, r132⟩ : ai), r117⟩ : dq))
def VC12_J1 (Q : ((List al) × Bool) -> Prop) (v105 : List al) : Prop :=
 Q (v105, true)
def VC12_J2 (I1 : (List al) -> Int -> Prop) (μ1 : (List al) -> Int -> Nat) (v112 : List al) (v116 : Int) (v118 : List al) : Prop :=
 I1 v118 (IntKind.i64.wrap (v116 + 1)) /\ μ1 v118 (IntKind.i64.wrap (v116 + 1)) < μ1 v112 v116
def VC12 (objects : List ai) (l_ : List aD) (k_ : Int) (Q : (List al) × Bool -> Prop) : Prop :=
 sm objects ->
 ∀ (_ : sm l_),
 (fJ objects l_) /\
 ∀ r104, cl objects l_ = r104 ->
 ((((r104.2 != 0) || (decide (k_ < 0))) || (decide (k_ ≥ (objects.length : Int)))) = true ->
 Q ([], false)) /\
 ((((r104.2 != 0) || (decide (k_ < 0))) || (decide (k_ ≥ (objects.length : Int)))) = false ->
 ∃ (I1 : (List al) -> Int -> Prop) (μ1 : (List al) -> Int -> Nat), I1 [] 0 /\ ∀ (v112 : List al) (v116 : Int), I1 v112 v116 ->
 ((decide (v116 < (l_.length : Int))) = true ->
 ((0 : Int) ≤ v116 /\ v116 < (l_.length : Int)) /\
 ((((gi l_ v116).ar) == k_) = true ->
 ((0 : Int) ≤ v116 /\ v116 < (l_.length : Int)) /\
 (v112.length + [(gi l_ v116).aH].length ≤ 1099511627776) /\
 VC12_J2 I1 μ1 v112 v116 (v112 ++ [(gi l_ v116).aH])) /\
 ((((gi l_ v116).ar) == k_) = false ->
 VC12_J2 I1 μ1 v112 v116 v112)) /\
 ((decide (v116 < (l_.length : Int))) = false ->
 VC12_J1 Q v112))
def VC9_J1 (Q : ((List aa) × (List Int)) -> Prop) (r115 : (List aa) × Int) (v120 : List Int) : Prop :=
 Q (r115.1, v120)
def VC9 (h_ : ak) (Q : (List aa) × (List Int) -> Prop) : Prop :=
 sm h_.ae ->
 ∀ (_ : sm h_.aj),
 (dS h_) /\
 ∀ r104, aV h_ = r104 ->
 ((r104.2 != 0) = true ->
 Q ([], [])) /\
 ((r104.2 != 0) = false ->
 (fZ h_) /\
 ∀ r108, bK h_ = r108 ->
 sm r108 ->
 ∀ r115, eu r108 = r115 ->
 sm r115.1 ->
 ∃ (I1 : (List Int) -> Int -> Prop) (μ1 : (List Int) -> Int -> Nat), I1 [] 0 /\ ∀ (v127 : List Int) (v132 : Int), I1 v127 v132 ->
 ((decide (v132 < (r115.1.length : Int))) = true ->
 ((0 : Int) ≤ v132 /\ v132 < (r115.1.length : Int)) /\
 ((0 : Int) ≤ ((gi r115.1 v132).aA) /\ ((gi r115.1 v132).aA) < (h_.aj.length : Int)) /\
 (v127.length + [(gi h_.aj ((gi r115.1 v132).aA)).ar].length ≤ 1099511627776) /\
 I1 (v127 ++ [(gi h_.aj ((gi r115.1 v132).aA)).ar]) (IntKind.i64.wrap (v132 + 1)) /\ μ1 (v127 ++ [(gi h_.aj ((gi r115.1 v132).aA)).ar]) (IntKind.i64.wrap (v132 + 1)) < μ1 v127 v132) /\
 ((decide (v132 < (r115.1.length : Int))) = false ->
 VC9_J1 Q r115 v127))
def VC10_J1 (Q : ((List aa) × (List Int)) -> Prop) (r115 : (List aa) × Int) (v120 : List Int) : Prop :=
 Q (r115.1, v120)
def VC10 (objects : List ai) (l_ : List aD) (Q : (List aa) × (List Int) -> Prop) : Prop :=
 sm objects ->
 ∀ (_ : sm l_),
 (fJ objects l_) /\
 ∀ r104, cl objects l_ = r104 ->
 ((r104.2 != 0) = true ->
 Q ([], [])) /\
 ((r104.2 != 0) = false ->
 (kJ l_) /\
 ∀ r108, bS l_ = r108 ->
 sm r108 ->
 ∀ r115, e6 r108 = r115 ->
 sm r115.1 ->
 ∃ (I1 : (List Int) -> Int -> Prop) (μ1 : (List Int) -> Int -> Nat), I1 [] 0 /\ ∀ (v128 : List Int) (v132 : Int), I1 v128 v132 ->
 ((decide (v132 < (r115.1.length : Int))) = true ->
 ((0 : Int) ≤ v132 /\ v132 < (r115.1.length : Int)) /\
 ((0 : Int) ≤ ((gi r115.1 v132).aA) /\ ((gi r115.1 v132).aA) < (l_.length : Int)) /\
 (v128.length + [(gi l_ ((gi r115.1 v132).aA)).ar].length ≤ 1099511627776) /\
 I1 (v128 ++ [(gi l_ ((gi r115.1 v132).aA)).ar]) (IntKind.i64.wrap (v132 + 1)) /\ μ1 (v128 ++ [(gi l_ ((gi r115.1 v132).aA)).ar]) (IntKind.i64.wrap (v132 + 1)) < μ1 v128 v132) /\
 ((decide (v132 < (r115.1.length : Int))) = false ->
 VC10_J1 Q r115 v128))
def VC38 (h_ : ak) (Q : (List aa) × (List Int) × Int -> Prop) : Prop :=
 sm h_.ae ->
 ∀ (_ : sm h_.aj),
 (dS h_) /\
 ∀ r104, aV h_ = r104 ->
 ((r104.2 != 0) = true ->
 Q ([], [], r104.2)) /\
 ((r104.2 != 0) = false ->
 (dS h_) /\
 ∀ r108, bP h_ = r108 ->
 sm r108.1 ->
 ∀ (_ : sm r108.2),
 ((decide ((r108.1.length : Int) > 20)) = true ->
 Q ([], [], 3)) /\
 ((decide ((r108.1.length : Int) > 20)) = false ->
 Q (r108.1, r108.2, 0)))
def VC52_J1 (Q : ((List Int)) -> Prop) (v101 : List Int) : Prop :=
 Q v101
def VC52_J2 (I1 : (List Int) -> Int -> Prop) (μ1 : (List Int) -> Int -> Nat) (v107 : List Int) (v112 : Int) (v113 : List Int) : Prop :=
 I1 v113 (IntKind.i64.wrap (v112 + 1)) /\ μ1 v113 (IntKind.i64.wrap (v112 + 1)) < μ1 v107 v112
def VC52 (of : List Int) (k_ : Int) (Q : (List Int) -> Prop) : Prop :=
 sm of ->
 ∃ (I1 : (List Int) -> Int -> Prop) (μ1 : (List Int) -> Int -> Nat), I1 [] 0 /\ ∀ (v107 : List Int) (v112 : Int), I1 v107 v112 ->
 ((decide (v112 < (of.length : Int))) = true ->
 ((0 : Int) ≤ v112 /\ v112 < (of.length : Int)) /\
 (((gi of v112) == k_) = true ->
 (v107.length + [v112].length ≤ 1099511627776) /\
 VC52_J2 I1 μ1 v107 v112 (v107 ++ [v112])) /\
 (((gi of v112) == k_) = false ->
 VC52_J2 I1 μ1 v107 v112 v107)) /\
 ((decide (v112 < (of.length : Int))) = false ->
 VC52_J1 Q v107)
def VC55 (i_ : Int) (cap1 : List Int) (cap2 : Int) (Q : Bool -> Prop) : Prop :=
 sm cap1 ->
 ((0 : Int) ≤ i_ /\ i_ < (cap1.length : Int)) /\
 Q ((gi cap1 i_) == cap2)
def VC54_55_J1 (Q : ((List aa)) -> Prop) (v101 : List aa) : Prop :=
 Q v101
def VC54_55_J2 (I1 : (List aa) -> Int -> Prop) (μ1 : (List aa) -> Int -> Nat) (v108 : List aa) (v113 : Int) (v115 : List aa) : Prop :=
 I1 v115 (IntKind.i64.wrap (v113 + 1)) /\ μ1 v115 (IntKind.i64.wrap (v113 + 1)) < μ1 v108 v113
def VC54_55 (l_ : List aa) (cap1 : List Int) (cap2 : Int) (Q : (List aa) -> Prop) : Prop :=
 sm l_ ->
 ∀ (_ : sm cap1),
 ∃ (I1 : (List aa) -> Int -> Prop) (μ1 : (List aa) -> Int -> Nat), I1 [] 0 /\ ∀ (v108 : List aa) (v113 : Int), I1 v108 v113 ->
 ((decide (v113 < (l_.length : Int))) = true ->
 ((0 : Int) ≤ v113 /\ v113 < (l_.length : Int)) /\
 (lr v113 cap1 cap2) /\
 ∀ r127, cz v113 cap1 cap2 = r127 ->
 (r127 = true ->
 (v108.length + [(gi l_ v113)].length ≤ 1099511627776) /\
 VC54_55_J2 I1 μ1 v108 v113 (v108 ++ [(gi l_ v113)])) /\
 (r127 = false ->
 VC54_55_J2 I1 μ1 v108 v113 v108)) /\
 ((decide (v113 < (l_.length : Int))) = false ->
 VC54_55_J1 Q v108)
def VC39_J1 (Q : ((List (List ah)) × Int) -> Prop) (v101 : List (List ah)) : Prop :=
 Q (v101, 0)
def VC39_J2 (I1 : (List (List ah)) -> Int -> Prop) (μ1 : (List (List ah)) -> Int -> Nat) (v108 : List (List ah)) (v113 : Int) (v147 : List (List ah)) (v151 : List ah) : Prop :=
 (v147.length + [v151].length ≤ 1099511627776) /\
 I1 (v147 ++ [v151]) (IntKind.i64.wrap (v113 + 1)) /\ μ1 (v147 ++ [v151]) (IntKind.i64.wrap (v113 + 1)) < μ1 v108 v113
def VC39 (h_ : ak) (l_ : List aa) (of : List Int) (Q : (List (List ah)) × Int -> Prop) : Prop :=
 sm h_.ae ->
 ∀ (_ : sm h_.aj),
 sm l_ ->
 ∀ (_ : sm of),
 ∃ (I1 : (List (List ah)) -> Int -> Prop) (μ1 : (List (List ah)) -> Int -> Nat), I1 [] 0 /\ ∀ (v108 : List (List ah)) (v113 : Int), I1 v108 v113 ->
 ((decide (v113 < (h_.ae.length : Int))) = true ->
 ((0 : Int) ≤ v113 /\ v113 < (h_.ae.length : Int)) /\
 ∀ (_ : sm ((gi h_.ae v113).Rows)),
 (kK of v113) /\
 ∀ r124, bG of v113 = r124 ->
 sm r124 ->
 (nk l_ of v113) /\
 ∀ r133, bg l_ of v113 = r133 ->
 sm r133 ->
 (nh (gi h_.ae v113) r133) /\
 ∀ r142, a9 (gi h_.ae v113) r133 = r142 ->
 sm r142.1 ->
 ((r142.2 != 0) = true ->
 Q ([], r142.2)) /\
 ((r142.2 != 0) = false ->
 ∃ (I2 : (List (List ah)) -> (List ah) -> Int -> Prop) (μ2 : (List (List ah)) -> (List ah) -> Int -> Nat), I2 v108 r142.1 0 /\ ∀ (v169 : List (List ah)) (v174 : List ah) (v179 : Int), I2 v169 v174 v179 ->
 ((decide (v179 < (r142.1.length : Int))) = true ->
 ((0 : Int) ≤ v179 /\ v179 < (v174.length : Int)) /\
 ((0 : Int) ≤ ((gi v174 v179).Oper) /\ ((gi v174 v179).Oper) < (r124.length : Int)) /\
 ((0 : Int) ≤ v179 /\ v179 < (v174.length : Int)) /\
 I2 v169 (v174.set v179.toNat (⟨gi r124 ((gi v174 v179).Oper), (gi v174 v179).Result⟩ : ah)) (IntKind.i64.wrap (v179 + 1)) /\ μ2 v169 (v174.set v179.toNat (⟨gi r124 ((gi v174 v179).Oper), (gi v174 v179).Result⟩ : ah)) (IntKind.i64.wrap (v179 + 1)) < μ2 v169 v174 v179) /\
 ((decide (v179 < (r142.1.length : Int))) = false ->
 VC39_J2 I1 μ1 v108 v113 v169 v174))) /\
 ((decide (v113 < (h_.ae.length : Int))) = false ->
 VC39_J1 Q v108)
def VC71_J1 (Q : ((List ah)) -> Prop) (v101 : List ah) : Prop :=
 Q v101
def VC71 (n_ : Int) (Q : (List ah) -> Prop) : Prop :=
 ((decide (n_ < 0)) = true ->
 False) /\
 ((decide (n_ < 0)) = false ->
 ((decide ((IntKind.i64.wrap (n_ - (IntKind.i64.wrap (0 - 0)))) > 0)) = true ->
 ((0 : Int) ≤ 0 /\ 0 ≤ (([] : List ah).length : Int)) /\
 ((0 : Int) < (IntKind.i64.wrap (n_ - (IntKind.i64.wrap (0 - 0)))) /\ (IntKind.i64.wrap (n_ - (IntKind.i64.wrap (0 - 0)))) ≤ 1099511627776) /\
 ((0 : Int) ≤ 0 /\ 0 ≤ ((List.replicate (IntKind.i64.wrap (n_ - (IntKind.i64.wrap (0 - 0)))).toNat (⟨0, 0⟩ : ah)).length : Int)) /\
 VC71_J1 Q ((List.replicate (IntKind.i64.wrap (n_ - (IntKind.i64.wrap (0 - 0)))).toNat (⟨0, 0⟩ : ah)).take (0 : Int).toNat)) /\
 ((decide ((IntKind.i64.wrap (n_ - (IntKind.i64.wrap (0 - 0)))) > 0)) = false ->
 VC71_J1 Q []))
def VC56_J2 (Q : ((List ah)) -> Prop) (v110 : List ah) : Prop :=
 Q v110
def VC56_J1 (slices : List (List ah)) (Q : ((List ah)) -> Prop) (v102 : Int) : Prop :=
 (nu v102) /\
 ∀ r106, bI v102 = r106 ->
 sm r106 ->
 ∃ (I1 : (List ah) -> Int -> Prop) (μ1 : (List ah) -> Int -> Nat), I1 r106 0 /\ ∀ (v116 : List ah) (v121 : Int), I1 v116 v121 ->
 ((decide (v121 < (slices.length : Int))) = true ->
 ((0 : Int) ≤ v121 /\ v121 < (slices.length : Int)) /\
 ∀ (_ : sm (gi slices v121)),
 (v116.length + (gi slices v121).length ≤ 1099511627776) /\
 I1 (v116 ++ (gi slices v121)) (IntKind.i64.wrap (v121 + 1)) /\ μ1 (v116 ++ (gi slices v121)) (IntKind.i64.wrap (v121 + 1)) < μ1 v116 v121) /\
 ((decide (v121 < (slices.length : Int))) = false ->
 VC56_J2 Q v116)
def VC56 (slices : List (List ah)) (Q : (List ah) -> Prop) : Prop :=
 sm slices ->
 ∃ (I2 : Int -> Int -> Prop) (μ2 : Int -> Int -> Nat), I2 0 0 /\ ∀ (v138 : Int) (v140 : Int), I2 v138 v140 ->
 ((decide (v140 < (slices.length : Int))) = true ->
 ((0 : Int) ≤ v140 /\ v140 < (slices.length : Int)) /\
 ∀ (_ : sm (gi slices v140)),
 ((decide ((IntKind.i64.wrap (v138 + ((gi slices v140).length : Int))) < 0)) = true ->
 False) /\
 ((decide ((IntKind.i64.wrap (v138 + ((gi slices v140).length : Int))) < 0)) = false ->
 I2 (IntKind.i64.wrap (v138 + ((gi slices v140).length : Int))) (IntKind.i64.wrap (v140 + 1)) /\ μ2 (IntKind.i64.wrap (v138 + ((gi slices v140).length : Int))) (IntKind.i64.wrap (v140 + 1)) < μ2 v138 v140)) /\
 ((decide (v140 < (slices.length : Int))) = false ->
 VC56_J1 slices Q v138)
def VC40_J2 (Q : ((List ah) × (List (Int × Int))) -> Prop) (r104 : (List ah)) (v115 : List (Int × Int)) : Prop :=
 Q (r104, v115)
def VC40_J3 (I1 : (List (Int × Int)) -> Int -> Prop) (μ1 : (List (Int × Int)) -> Int -> Nat) (v123 : List (Int × Int)) (v128 : Int) (v131 : List (Int × Int)) : Prop :=
 I1 v131 (IntKind.i64.wrap (v128 + 1)) /\ μ1 v131 (IntKind.i64.wrap (v128 + 1)) < μ1 v123 v128
def VC40_J4 (I2 : (List (Int × Int)) -> Int -> Prop) (μ2 : (List (Int × Int)) -> Int -> Nat) (v141 : List (Int × Int)) (v147 : Int) (v150 : List (Int × Int)) : Prop :=
 I2 v150 (IntKind.i64.wrap (v147 + 1)) /\ μ2 v150 (IntKind.i64.wrap (v147 + 1)) < μ2 v141 v147
def VC40_J1 (l_ : List aa) (Q : ((List ah) × (List (Int × Int))) -> Prop) (r104 : (List ah)) (v110 : List (Int × Int)) : Prop :=
 ∃ (I1 : (List (Int × Int)) -> Int -> Prop) (μ1 : (List (Int × Int)) -> Int -> Nat), I1 v110 0 /\ ∀ (v123 : List (Int × Int)) (v128 : Int), I1 v123 v128 ->
 ((decide (v128 < (r104.length : Int))) = true ->
 ((0 : Int) ≤ v128 /\ v128 < (r104.length : Int)) /\
 ∃ (I2 : (List (Int × Int)) -> Int -> Prop) (μ2 : (List (Int × Int)) -> Int -> Nat), I2 v123 0 /\ ∀ (v141 : List (Int × Int)) (v147 : Int), I2 v141 v147 ->
 ((decide (v147 < (r104.length : Int))) = true ->
 ((0 : Int) ≤ v147 /\ v147 < (r104.length : Int)) /\
 ((0 : Int) ≤ ((gi r104 v128).Oper) /\ ((gi r104 v128).Oper) < (l_.length : Int)) /\
 ((0 : Int) ≤ ((gi r104 v147).Oper) /\ ((gi r104 v147).Oper) < (l_.length : Int)) /\
 ∀ r170, bF (gi l_ ((gi r104 v128).Oper)) (gi l_ ((gi r104 v147).Oper)) = r170 ->
 (r170 = true ->
 (v141.length + [(v128, v147)].length ≤ 1099511627776) /\
 VC40_J4 I2 μ2 v141 v147 (v141 ++ [(v128, v147)])) /\
 (r170 = false ->
 VC40_J4 I2 μ2 v141 v147 v141)) /\
 ((decide (v147 < (r104.length : Int))) = false ->
 VC40_J3 I1 μ1 v123 v128 v141)) /\
 ((decide (v128 < (r104.length : Int))) = false ->
 VC40_J2 Q r104 v123)
def VC40_J5 (rows : List (List ah)) (I3 : (List (Int × Int)) -> Int -> Int -> Prop) (μ3 : (List (Int × Int)) -> Int -> Int -> Nat) (v196 : List (Int × Int)) (v200 : Int) (v202 : Int) (v211 : List (Int × Int)) : Prop :=
 I3 v211 (IntKind.i64.wrap (v200 + ((gi rows v202).length : Int))) (IntKind.i64.wrap (v202 + 1)) /\ μ3 v211 (IntKind.i64.wrap (v200 + ((gi rows v202).length : Int))) (IntKind.i64.wrap (v202 + 1)) < μ3 v196 v200 v202
def VC40 (l_ : List aa) (rows : List (List ah)) (Q : (List ah) × (List (Int × Int)) -> Prop) : Prop :=
 sm l_ ->
 ∀ (_ : sm rows),
 (kM rows) /\
 ∀ r104, bE rows = r104 ->
 sm r104 ->
 ∃ (I3 : (List (Int × Int)) -> Int -> Int -> Prop) (μ3 : (List (Int × Int)) -> Int -> Int -> Nat), I3 [] 0 0 /\ ∀ (v196 : List (Int × Int)) (v200 : Int) (v202 : Int), I3 v196 v200 v202 ->
 ((decide (v202 < (rows.length : Int))) = true ->
 ((0 : Int) ≤ v202 /\ v202 < (rows.length : Int)) /\
 ∀ (_ : sm (gi rows v202)),
 ∃ (I4 : (List (Int × Int)) -> Int -> Prop) (μ4 : (List (Int × Int)) -> Int -> Nat), I4 v196 1 /\ ∀ (v219 : List (Int × Int)) (v224 : Int), I4 v219 v224 ->
 ((decide (v224 < ((gi rows v202).length : Int))) = true ->
 (v219.length + [(IntKind.i64.wrap ((IntKind.i64.wrap (v200 + v224)) - 1), IntKind.i64.wrap (v200 + v224))].length ≤ 1099511627776) /\
 I4 (v219 ++ [(IntKind.i64.wrap ((IntKind.i64.wrap (v200 + v224)) - 1), IntKind.i64.wrap (v200 + v224))]) (IntKind.i64.wrap (v224 + 1)) /\ μ4 (v219 ++ [(IntKind.i64.wrap ((IntKind.i64.wrap (v200 + v224)) - 1), IntKind.i64.wrap (v200 + v224))]) (IntKind.i64.wrap (v224 + 1)) < μ4 v219 v224) /\
 ((decide (v224 < ((gi rows v202).length : Int))) = false ->
 VC40_J5 rows I3 μ3 v196 v200 v202 v219)) /\
 ((decide (v202 < (rows.length : Int))) = false ->
 VC40_J1 l_ Q r104 v196)
def VC20_J1 (Q : ((List ah) × Int) -> Prop) (v139 : List ah) : Prop :=
 Q (v139, 0)
def VC20 (h_ : ak) (Q : (List ah) × Int -> Prop) : Prop :=
 sm h_.ae ->
 ∀ (_ : sm h_.aj),
 (dS h_) /\
 ∀ r104, cm h_ = r104 ->
 sm r104.1 ->
 ∀ (_ : sm r104.2.1),
 ((r104.2.2 != 0) = true ->
 Q ([], r104.2.2)) /\
 ((r104.2.2 != 0) = false ->
 (ni h_ r104.1 r104.2.1) /\
 ∀ r114, bT h_ r104.1 r104.2.1 = r114 ->
 sm r114.1 ->
 ((r114.2 != 0) = true ->
 Q ([], r114.2)) /\
 ((r114.2 != 0) = false ->
 (lZ r104.1 r114.1) /\
 ∀ r121, cq r104.1 r114.1 = r121 ->
 sm r121.1 ->
 ∀ (_ : sm r121.2),
 ∀ r131, cc (r121.1.length : Int) r121.2 = r131 ->
 sm r131.1 ->
 ((!r131.2) = true ->
 Q ([], 41)) /\
 ((!r131.2) = false ->
 ∃ (I1 : (List ah) -> Int -> Prop) (μ1 : (List ah) -> Int -> Nat), I1 ([] : List ah) 0 /\ ∀ (v146 : List ah) (v151 : Int), I1 v146 v151 ->
 ((decide (v151 < (r131.1.length : Int))) = true ->
 ((0 : Int) ≤ v151 /\ v151 < (r131.1.length : Int)) /\
 ((0 : Int) ≤ (gi r131.1 v151) /\ (gi r131.1 v151) < (r121.1.length : Int)) /\
 (v146.length + [gi r121.1 (gi r131.1 v151)].length ≤ 1099511627776) /\
 I1 (v146 ++ [gi r121.1 (gi r131.1 v151)]) (IntKind.i64.wrap (v151 + 1)) /\ μ1 (v146 ++ [gi r121.1 (gi r131.1 v151)]) (IntKind.i64.wrap (v151 + 1)) < μ1 v146 v151) /\
 ((decide (v151 < (r131.1.length : Int))) = false ->
 VC20_J1 Q v146))))
def VC18 (h_ : ak) (Q : Bool × Int -> Prop) : Prop :=
 sm h_.ae ->
 ∀ (_ : sm h_.aj),
 (dS h_) /\
 ∀ r104, cJ h_ = r104 ->
 sm r104.1 ->
 ((r104.2 == 41) = true ->
 Q (false, 0)) /\
 ((r104.2 == 41) = false ->
 Q ((r104.2 == 0), r104.2))
def VC43 (i_ : Int) (cap1 : List ah) (cap2 : List aa) (cap3 : List Int) (cap4 : Int) (Q : Bool -> Prop) : Prop :=
 sm cap1 ->
 ∀ (_ : sm cap2),
 sm cap3 ->
 ((0 : Int) ≤ i_ /\ i_ < (cap1.length : Int)) /\
 (((decide (((gi cap1 i_).Oper) < 0)) || (decide (((gi cap1 i_).Oper) ≥ (cap2.length : Int)))) = true ->
 Q true) /\
 (((decide (((gi cap1 i_).Oper) < 0)) || (decide (((gi cap1 i_).Oper) ≥ (cap2.length : Int)))) = false ->
 ((0 : Int) ≤ ((gi cap1 i_).Oper) /\ ((gi cap1 i_).Oper) < (cap3.length : Int)) /\
 Q ((gi cap3 ((gi cap1 i_).Oper)) == cap4))
def VC42_43_J1 (Q : ((List ah)) -> Prop) (v101 : List ah) : Prop :=
 Q v101
def VC42_43_J2 (I1 : (List ah) -> Int -> Prop) (μ1 : (List ah) -> Int -> Nat) (v110 : List ah) (v115 : Int) (v119 : List ah) : Prop :=
 I1 v119 (IntKind.i64.wrap (v115 + 1)) /\ μ1 v119 (IntKind.i64.wrap (v115 + 1)) < μ1 v110 v115
def VC42_43 (l_ : List ah) (cap1 : List ah) (cap2 : List aa) (cap3 : List Int) (cap4 : Int) (Q : (List ah) -> Prop) : Prop :=
 sm l_ ->
 ∀ (_ : sm cap1),
 sm cap2 ->
 ∀ (_ : sm cap3),
 ∃ (I1 : (List ah) -> Int -> Prop) (μ1 : (List ah) -> Int -> Nat), I1 [] 0 /\ ∀ (v110 : List ah) (v115 : Int), I1 v110 v115 ->
 ((decide (v115 < (l_.length : Int))) = true ->
 ((0 : Int) ≤ v115 /\ v115 < (l_.length : Int)) /\
 (nt v115 cap1 cap2 cap3 cap4) /\
 ∀ r133, cA v115 cap1 cap2 cap3 cap4 = r133 ->
 (r133 = true ->
 (v110.length + [(gi l_ v115)].length ≤ 1099511627776) /\
 VC42_43_J2 I1 μ1 v110 v115 (v110 ++ [(gi l_ v115)])) /\
 (r133 = false ->
 VC42_43_J2 I1 μ1 v110 v115 v110)) /\
 ((decide (v115 < (l_.length : Int))) = false ->
 VC42_43_J1 Q v110)
def VC21_J1 (picks : List ah) (Q : Bool -> Prop) (r108 : (List aa) × (List Int)) : Prop :=
 ∀ r120, bR r108.1 picks = r120 ->
 ((decide (r120 < 0)) = true ->
 (jR r108.1 picks) /\
 ∀ r124, bO r108.1 picks = r124 ->
 sm r124 ->
 Q ((r124.length : Int) == 0)) /\
 ((decide (r120 < 0)) = false ->
 Q false)
def VC21 (h_ : ak) (picks : List ah) (Q : Bool -> Prop) : Prop :=
 sm h_.ae ->
 ∀ (_ : sm h_.aj),
 sm picks ->
 (dS h_) /\
 ∀ r104, aV h_ = r104 ->
 ((r104.2 != 0) = true ->
 Q false) /\
 ((r104.2 != 0) = false ->
 (dS h_) /\
 ∀ r108, bP h_ = r108 ->
 sm r108.1 ->
 ∀ (_ : sm r108.2),
 ∃ (I1 : Int -> Prop) (μ1 : Int -> Nat), I1 0 /\ ∀ (v129 : Int), I1 v129 ->
 ((decide (v129 < (h_.ae.length : Int))) = true ->
 ((0 : Int) ≤ v129 /\ v129 < (h_.ae.length : Int)) /\
 ∀ (_ : sm ((gi h_.ae v129).Rows)),
 (ns picks picks r108.1 r108.2 v129) /\
 ∀ r142, bo picks picks r108.1 r108.2 v129 = r142 ->
 sm r142 ->
 (gj (gi h_.ae v129) r108.1 r142) /\
 ∀ r153, cr (gi h_.ae v129) r108.1 r142 = r153 ->
 ((r153.2.2 != 0) = true ->
 Q false) /\
 ((r153.2.2 != 0) = false ->
 I1 (IntKind.i64.wrap (v129 + 1)) /\ μ1 (IntKind.i64.wrap (v129 + 1)) < μ1 v129)) /\
 ((decide (v129 < (h_.ae.length : Int))) = false ->
 VC21_J1 picks Q r108))
def VC22 (Q : ai -> Prop) : Prop :=
 Q (⟨2, 2, 0, [(⟨0, 0, 1, 0⟩ : aS), (⟨0, 1, 0, 0⟩ : aS), (⟨1, 0, 1, 0⟩ : aS), (⟨1, 1, 1, 1⟩ : aS)]⟩ : ai)
def VC19 (object : Int) (Q : ak -> Prop) : Prop :=
 ∀ r104, cn = r104 ->
 sm r104.Rows ->
 ∀ r111, cn = r111 ->
 sm r111.Rows ->
 Q (⟨[r104, r111], [(⟨0, (⟨1, 1, 0⟩ : al)⟩ : aR), (⟨object, (⟨1, 2, 1⟩ : al)⟩ : aR), (⟨0, (⟨2, 1, 0⟩ : al)⟩ : aR), (⟨object, (⟨2, 2, 1⟩ : al)⟩ : aR)]⟩ : ak)
def VC8_J1 (Q : ((List aD)) -> Prop) (v101 : List aD) : Prop :=
 Q v101
def VC8 (h_ : ak) (Q : (List aD) -> Prop) : Prop :=
 sm h_.ae ->
 ∀ (_ : sm h_.aj),
 ∃ (I1 : (List aD) -> Int -> Prop) (μ1 : (List aD) -> Int -> Nat), I1 [] 0 /\ ∀ (v107 : List aD) (v111 : Int), I1 v107 v111 ->
 ((decide (v111 < (h_.aj.length : Int))) = true ->
 ((0 : Int) ≤ v111 /\ v111 < (h_.aj.length : Int)) /\
 ((0 : Int) ≤ v111 /\ v111 < (h_.aj.length : Int)) /\
 (v107.length + [(⟨(gi h_.aj v111).ar, ((gi h_.aj v111).aH)⟩ : aD)].length ≤ 1099511627776) /\
 I1 (v107 ++ [(⟨(gi h_.aj v111).ar, ((gi h_.aj v111).aH)⟩ : aD)]) (IntKind.i64.wrap (v111 + 1)) /\ μ1 (v107 ++ [(⟨(gi h_.aj v111).ar, ((gi h_.aj v111).aH)⟩ : aD)]) (IntKind.i64.wrap (v111 + 1)) < μ1 v107 v111) /\
 ((decide (v111 < (h_.aj.length : Int))) = false ->
 VC8_J1 Q v107)
def VC4_J1 (Q : Bool -> Prop) : Prop :=
 Q true
def VC4 (h_ : ak) (Q : Bool -> Prop) : Prop :=
 sm h_.ae ->
 ∀ (_ : sm h_.aj),
 (((decide ((h_.ae.length : Int) > 10)) || (decide ((h_.aj.length : Int) > 20))) = true ->
 Q false) /\
 (((decide ((h_.ae.length : Int) > 10)) || (decide ((h_.aj.length : Int) > 20))) = false ->
 ∃ (I1 : Int -> Prop) (μ1 : Int -> Nat), I1 0 /\ ∀ (v101 : Int), I1 v101 ->
 ((decide (v101 < (h_.ae.length : Int))) = true ->
 ((0 : Int) ≤ v101 /\ v101 < (h_.ae.length : Int)) /\
 ∀ (_ : sm ((gi h_.ae v101).Rows)),
 ∀ r113, eG (gi h_.ae v101) = r113 ->
 ((!r113) = true ->
 Q false) /\
 ((!r113) = false ->
 I1 (IntKind.i64.wrap (v101 + 1)) /\ μ1 (IntKind.i64.wrap (v101 + 1)) < μ1 v101)) /\
 ((decide (v101 < (h_.ae.length : Int))) = false ->
 VC4_J1 Q))
def VC5 (Q : Bool -> Prop) : Prop :=
 ∀ r104, bN 0 = r104 ->
 sm r104.ae ->
 ∀ (_ : sm r104.aj),
 (dS r104) /\
 ∀ r114, eE r104 = r114 ->
 ∀ r118, bN 1 = r118 ->
 sm r118.ae ->
 ∀ (_ : sm r118.aj),
 (dS r118) /\
 ∀ r128, eE r118 = r128 ->
 ∀ r132, bN 0 = r132 ->
 sm r132.ae ->
 ∀ (_ : sm r132.aj),
 (dS r132) /\
 ∀ r142, cJ r132 = r142 ->
 sm r142.1 ->
 ∀ r149, bN 1 = r149 ->
 sm r149.ae ->
 ∀ (_ : sm r149.aj),
 (dS r149) /\
 ∀ r159, cJ r149 = r159 ->
 sm r159.1 ->
 ∀ r166, bN 0 = r166 ->
 sm r166.ae ->
 ∀ (_ : sm r166.aj),
 (dS r166) /\
 ∀ r176, aV r166 = r176 ->
 (dS (⟨[], []⟩ : ak)) /\
 ∀ r180, aV (⟨[], []⟩ : ak) = r180 ->
 ∀ r184, bN 0 = r184 ->
 sm r184.ae ->
 ∀ (_ : sm r184.aj),
 ((0 : Int) ≤ 3 /\ 3 < (r184.aj.length : Int)) /\
 (dS (⟨r184.ae, (r184.aj.set (3 : Int).toNat (⟨1, (gi r184.aj 3).aH⟩ : aR))⟩ : ak)) /\
 ∀ r204, aV (⟨r184.ae, (r184.aj.set (3 : Int).toNat (⟨1, (gi r184.aj 3).aH⟩ : aR))⟩ : ak) = r204 ->
 ∀ r208, bN 1 = r208 ->
 sm r208.ae ->
 ∀ (_ : sm r208.aj),
 (dS r208) /\
 ∀ r218, bP r208 = r218 ->
 sm r218.1 ->
 ∀ (_ : sm r218.2),
 ∀ r228, bN 1 = r228 ->
 sm r228.ae ->
 ∀ (_ : sm r228.aj),
 (lX r228 1) /\
 ∀ r238, cd r228 1 = r238 ->
 sm r238.ar.Rows ->
 ∀ (_ : sm r238.aj),
 (((((r114.1 && (r114.2 == 0)) && (!r128.1)) && (r128.2 == 0)) && (r142.2 == 0)) = true ->
 ∀ r250, bN 0 = r250 ->
 sm r250.ae ->
 ∀ (_ : sm r250.aj),
 (lW r250 r142.1) /\
 ∀ r260, dT r250 r142.1 = r260 ->
 (((((((((r260 && ((r142.1.length : Int) == 2)) && (r159.2 == 41)) && (r176.1 == 4)) && (r176.2 == 0)) && (r180.2 == 2)) && (r204.1 == 3)) && (r204.2 == 32)) && ((r218.1.length : Int) == 2)) = true ->
 ∀ r268, cw r218.2 [0, 1] = r268 ->
 ((r268 && ((r238.aj.length : Int) == 2)) = true ->
 ∀ r272, cn = r272 ->
 sm r272.Rows ->
 ∀ r279, cV r238.ar r272 = r279 ->
 (r279 = true ->
 ∀ r283, bN 0 = r283 ->
 sm r283.ae ->
 ∀ (_ : sm r283.aj),
 (lW r283 []) /\
 ∀ r293, dT r283 [] = r293 ->
 Q (!r293)) /\
 (r279 = false ->
 Q false)) /\
 ((r268 && ((r238.aj.length : Int) == 2)) = false ->
 Q false)) /\
 (((((((((r260 && ((r142.1.length : Int) == 2)) && (r159.2 == 41)) && (r176.1 == 4)) && (r176.2 == 0)) && (r180.2 == 2)) && (r204.1 == 3)) && (r204.2 == 32)) && ((r218.1.length : Int) == 2)) = false ->
 Q false)) /\
 (((((r114.1 && (r114.2 == 0)) && (!r128.1)) && (r128.2 == 0)) && (r142.2 == 0)) = false ->
 Q false)
def VC3_J1 (h_ : ak) (k_ : Int) (Q : Bool -> Prop) (r158 : dq) (r177 : (List al) × Bool) (v181 : Bool) : Prop :=
 (v181 = true ->
 Q false) /\
 (v181 = false ->
 (r177.2 = true ->
 ((0 : Int) ≤ k_ /\ k_ < (h_.ae.length : Int)) /\
 ∀ (_ : sm ((gi h_.ae k_).Rows)),
 ∀ r197, cV r158.ar (gi h_.ae k_) = r197 ->
 (r197 = true ->
 ∀ r201, dj = r201 ->
 Q r201) /\
 (r197 = false ->
 ((!r177.2) = true ->
 ∀ r205, cV r158.ar (⟨0, 0, 0, []⟩ : ai) = r205 ->
 (r205 = true ->
 ∀ r209, dj = r209 ->
 Q r209) /\
 (r205 = false ->
 Q false)) /\
 ((!r177.2) = false ->
 Q false))) /\
 (r177.2 = false ->
 ((!r177.2) = true ->
 ∀ r213, cV r158.ar (⟨0, 0, 0, []⟩ : ai) = r213 ->
 (r213 = true ->
 ∀ r217, dj = r217 ->
 Q r217) /\
 (r213 = false ->
 Q false)) /\
 ((!r177.2) = false ->
 Q false)))
def VC3 (h_ : ak) (k_ : Int) (Q : Bool -> Prop) : Prop :=
 sm h_.ae ->
 ∀ (_ : sm h_.aj),
 ∀ r104, eF h_ = r104 ->
 ((!r104) = true ->
 ∀ r108, dj = r108 ->
 Q r108) /\
 ((!r104) = false ->
 (dS h_) /\
 ∀ r112, aV h_ = r112 ->
 (fZ h_) /\
 ∀ r118, cN h_ = r118 ->
 sm r118 ->
 (fJ h_.ae r118) /\
 ∀ r125, cl h_.ae r118 = r125 ->
 (dS h_) /\
 ∀ r129, bP h_ = r129 ->
 sm r129.1 ->
 ∀ (_ : sm r129.2),
 (fZ h_) /\
 ∀ r141, cN h_ = r141 ->
 sm r141 ->
 (fJ h_.ae r141) /\
 ∀ r148, df h_.ae r141 = r148 ->
 sm r148.1 ->
 ∀ (_ : sm r148.2),
 (lX h_ k_) /\
 ∀ r158, cd h_ k_ = r158 ->
 sm r158.ar.Rows ->
 ∀ (_ : sm r158.aj),
 (fZ h_) /\
 ∀ r170, cN h_ = r170 ->
 sm r170 ->
 (jD h_.ae r170 k_) /\
 ∀ r177, dv h_.ae r170 k_ = r177 ->
 sm r177.1 ->
 (((r112.1 != r125.1) || (r112.2 != r125.2)) = true ->
 VC3_J1 h_ k_ Q r158 r177 true) /\
 (((r112.1 != r125.1) || (r112.2 != r125.2)) = false ->
 ∀ r221, eS r129.1 r148.1 = r221 ->
 ((!r221) = true ->
 VC3_J1 h_ k_ Q r158 r177 true) /\
 ((!r221) = false ->
 ∀ r225, cw r129.2 r148.2 = r225 ->
 ((!r225) = true ->
 VC3_J1 h_ k_ Q r158 r177 true) /\
 ((!r225) = false ->
 ∀ r229, dG r158.aj r177.1 = r229 ->
 VC3_J1 h_ k_ Q r158 r177 (!r229)))))
end Go.Proofs.Yteahldlmkheleaa
