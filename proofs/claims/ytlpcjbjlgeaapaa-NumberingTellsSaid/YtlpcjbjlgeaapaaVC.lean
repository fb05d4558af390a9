/- The conditions of the functions, in terms of their callees. Definitions. -/
import Derived.Test.YtlpcjbjlgeaapaaSpec
set_option linter.all false
namespace Go.Proofs.Ytlpcjbjlgeaapaa
open Go Go.Sv
/-- replevin/numbering.Check -/
def VC21 (s_ : Numbering_Size) (Q : Int → Prop) : Prop :=
  (((((decide (s_.Ops < 0)) || (decide (s_.Ops > 64))) || (decide (s_.States < 1))) || (decide (s_.States > 32))) = true →
  Q 2) ∧
  (((((decide (s_.Ops < 0)) || (decide (s_.Ops > 64))) || (decide (s_.States < 1))) || (decide (s_.States > 32))) = false →
  Q 0)

/-- replevin/replevinref31.Check -/
def VC22 (ops : Int) (states : Int) (Q : Int → Prop) : Prop :=
  (((((decide (ops < 0)) || (decide (ops > 64))) || (decide (states < 1))) || (decide (states > 32))) = true →
  Q 2) ∧
  (((((decide (ops < 0)) || (decide (ops > 64))) || (decide (states < 1))) || (decide (states > 32))) = false →
  Q 0)

/-- (replevin/numbering.Size).block -/
def VC56 (s_ : Numbering_Size) (kind : Int) (Q : Int × Int × Int → Prop) : Prop :=
  ((kind == 1) = true →
  Q (0, s_.Ops, s_.Ops)) ∧
  ((kind == 1) = false →
  ((kind == 2) = true →
  Q (IntKind.i64.wrap (s_.Ops * s_.Ops), 1, s_.Ops)) ∧
  ((kind == 2) = false →
  Q (IntKind.i64.wrap ((IntKind.i64.wrap (s_.Ops * s_.Ops)) + s_.Ops), s_.States, IntKind.i64.wrap (s_.Ops + 1))))

/-- replevin/numbering.Vars -/
def VC23 (s_ : Numbering_Size) (Q : Int → Prop) : Prop :=
  ∀ r104, numbering_Check s_ = r104 →
  ((r104 != 0) = true →
  Q 0) ∧
  ((r104 != 0) = false →
  ∀ r108, numbering_Size_block s_ 3 = r108 →
  Q (IntKind.i64.wrap (r108.1 + (IntKind.i64.wrap (r108.2.1 * r108.2.2)))))

/-- replevin/numbering.Var -/
def VC24 (s_ : Numbering_Size) (n_ : Numbering_Name) (Q : Int → Prop) : Prop :=
  ∀ r104, numbering_Check s_ = r104 →
  ((((r104 != 0) || (decide (n_.Kind ≤ 0))) || (decide (n_.Kind > 3))) = true →
  Q 0) ∧
  ((((r104 != 0) || (decide (n_.Kind ≤ 0))) || (decide (n_.Kind > 3))) = false →
  ∀ r108, numbering_Size_block s_ n_.Kind = r108 →
  (((((decide (n_.A < 0)) || (decide (n_.A ≥ r108.2.2))) || (decide (n_.B < 0))) || (decide (n_.B ≥ r108.2.1))) = true →
  Q 0) ∧
  (((((decide (n_.A < 0)) || (decide (n_.A ≥ r108.2.2))) || (decide (n_.B < 0))) || (decide (n_.B ≥ r108.2.1))) = false →
  Q (IntKind.i64.wrap ((IntKind.i64.wrap ((IntKind.i64.wrap (r108.1 + (IntKind.i64.wrap (n_.A * r108.2.1)))) + n_.B)) + 1))))

def VC19_J3 (Q : ((List Ref31_Name)) → Prop) (out_113 : List Ref31_Name) : Prop :=
  Q out_113
def VC19_J4 (I1 : (List Ref31_Name) → Int → Prop) (μ1 : (List Ref31_Name) → Int → Nat) (out_117 : List Ref31_Name) (a_121 : Int) (out_122 : List Ref31_Name) : Prop :=
  I1 out_122 (IntKind.i64.wrap (a_121 + 1)) ∧ μ1 out_122 (IntKind.i64.wrap (a_121 + 1)) < μ1 out_117 a_121
def VC19_J2 (ops : Int) (states : Int) (Q : ((List Ref31_Name)) → Prop) (out_109 : List Ref31_Name) : Prop :=
  ∃ (I1 : (List Ref31_Name) → Int → Prop) (μ1 : (List Ref31_Name) → Int → Nat), I1 out_109 0 ∧ ∀ (out_117 : List Ref31_Name) (a_121 : Int), I1 out_117 a_121 →
  ((decide (a_121 ≤ ops)) = true →
  ∃ (I2 : (List Ref31_Name) → Int → Prop) (μ2 : (List Ref31_Name) → Int → Nat), I2 out_117 0 ∧ ∀ (out_126 : List Ref31_Name) (b_130 : Int), I2 out_126 b_130 →
  ((decide (b_130 < states)) = true →
  (out_126.length + [(⟨3, a_121, b_130⟩ : Ref31_Name)].length ≤ 1099511627776) ∧
  I2 (out_126 ++ [(⟨3, a_121, b_130⟩ : Ref31_Name)]) (IntKind.i64.wrap (b_130 + 1)) ∧ μ2 (out_126 ++ [(⟨3, a_121, b_130⟩ : Ref31_Name)]) (IntKind.i64.wrap (b_130 + 1)) < μ2 out_126 b_130) ∧
  ((decide (b_130 < states)) = false →
  VC19_J4 I1 μ1 out_117 a_121 out_126)) ∧
  ((decide (a_121 ≤ ops)) = false →
  VC19_J3 Q out_117)
def VC19_J1 (ops : Int) (states : Int) (Q : ((List Ref31_Name)) → Prop) (out_105 : List Ref31_Name) : Prop :=
  ∃ (I3 : (List Ref31_Name) → Int → Prop) (μ3 : (List Ref31_Name) → Int → Nat), I3 out_105 0 ∧ ∀ (out_148 : List Ref31_Name) (a_152 : Int), I3 out_148 a_152 →
  ((decide (a_152 < ops)) = true →
  (out_148.length + [(⟨2, a_152, 0⟩ : Ref31_Name)].length ≤ 1099511627776) ∧
  I3 (out_148 ++ [(⟨2, a_152, 0⟩ : Ref31_Name)]) (IntKind.i64.wrap (a_152 + 1)) ∧ μ3 (out_148 ++ [(⟨2, a_152, 0⟩ : Ref31_Name)]) (IntKind.i64.wrap (a_152 + 1)) < μ3 out_148 a_152) ∧
  ((decide (a_152 < ops)) = false →
  VC19_J2 ops states Q out_148)
def VC19_J5 (I4 : (List Ref31_Name) → Int → Prop) (μ4 : (List Ref31_Name) → Int → Nat) (out_166 : List Ref31_Name) (a_170 : Int) (out_171 : List Ref31_Name) : Prop :=
  I4 out_171 (IntKind.i64.wrap (a_170 + 1)) ∧ μ4 out_171 (IntKind.i64.wrap (a_170 + 1)) < μ4 out_166 a_170
/-- replevin/replevinref31.Names -/
def VC19 (ops : Int) (states : Int) (Q : (List Ref31_Name) → Prop) : Prop :=
  ∀ r104, ref31_Check ops states = r104 →
  ((r104 != 0) = true →
  Q []) ∧
  ((r104 != 0) = false →
  ∃ (I4 : (List Ref31_Name) → Int → Prop) (μ4 : (List Ref31_Name) → Int → Nat), I4 [] 0 ∧ ∀ (out_166 : List Ref31_Name) (a_170 : Int), I4 out_166 a_170 →
  ((decide (a_170 < ops)) = true →
  ∃ (I5 : (List Ref31_Name) → Int → Prop) (μ5 : (List Ref31_Name) → Int → Nat), I5 out_166 0 ∧ ∀ (out_175 : List Ref31_Name) (b_179 : Int), I5 out_175 b_179 →
  ((decide (b_179 < ops)) = true →
  (out_175.length + [(⟨1, a_170, b_179⟩ : Ref31_Name)].length ≤ 1099511627776) ∧
  I5 (out_175 ++ [(⟨1, a_170, b_179⟩ : Ref31_Name)]) (IntKind.i64.wrap (b_179 + 1)) ∧ μ5 (out_175 ++ [(⟨1, a_170, b_179⟩ : Ref31_Name)]) (IntKind.i64.wrap (b_179 + 1)) < μ5 out_175 b_179) ∧
  ((decide (b_179 < ops)) = false →
  VC19_J5 I4 μ4 out_166 a_170 out_175)) ∧
  ((decide (a_170 < ops)) = false →
  VC19_J1 ops states Q out_166))

def VC25_J1 (Q : Int → Prop) : Prop :=
  Q 0
/-- replevin/replevinref31.Var -/
def VC25 (ops : Int) (states : Int) (n_ : Ref31_Name) (Q : Int → Prop) : Prop :=
  ∀ r104, ref31_Names ops states = r104 →
  sm r104 →
  ∃ (I1 : (List Ref31_Name) → Int → Prop) (μ1 : (List Ref31_Name) → Int → Nat), I1 r104 0 ∧ ∀ (l_108 : List Ref31_Name) (i_112 : Int), I1 l_108 i_112 →
  ((decide (i_112 < ((l_108.length : Nat) : Int))) = true →
  (0 ≤ i_112 ∧ i_112 < (l_108.length : Int)) ∧
  ((((gi l_108 i_112).Kind) == n_.Kind && (((gi l_108 i_112).A) == n_.A && (((gi l_108 i_112).B) == n_.B && true))) = true →
  Q (IntKind.i64.wrap (i_112 + 1))) ∧
  ((((gi l_108 i_112).Kind) == n_.Kind && (((gi l_108 i_112).A) == n_.A && (((gi l_108 i_112).B) == n_.B && true))) = false →
  I1 l_108 (IntKind.i64.wrap (i_112 + 1)) ∧ μ1 l_108 (IntKind.i64.wrap (i_112 + 1)) < μ1 l_108 i_112)) ∧
  ((decide (i_112 < ((l_108.length : Nat) : Int))) = false →
  VC25_J1 Q)

def VC20_J2 (Q : (Numbering_Name × Bool) → Prop) : Prop :=
  Q ((⟨0, 0, 0⟩ : Numbering_Name), false)
def VC20_J1 (s_ : Numbering_Size) (v_ : Int) (Q : (Numbering_Name × Bool) → Prop) (x_101 : Bool) : Prop :=
  (x_101 = true →
  Q ((⟨0, 0, 0⟩ : Numbering_Name), false)) ∧
  (x_101 = false →
  ∃ (I1 : Int → Prop) (μ1 : Int → Nat), I1 0 ∧ ∀ (x_106 : Int), I1 x_106 →
  ((decide (x_106 < 3)) = true →
  (0 ≤ x_106 ∧ x_106 < 3) ∧
  ∀ r110, numbering_Size_block s_ (gi ([3, 2, 1] : List Int) x_106) = r110 →
  (((decide ((IntKind.i64.wrap ((IntKind.i64.wrap (v_ - 1)) - r110.1)) ≥ 0)) && (decide (r110.2.1 > 0))) = true →
  (r110.2.1 ≠ 0) ∧
  (r110.2.1 ≠ 0) ∧
  Q ((⟨(gi ([3, 2, 1] : List Int) x_106), IntKind.i64.wrap (((IntKind.i64.wrap ((IntKind.i64.wrap (v_ - 1)) - r110.1))).tdiv r110.2.1), (((IntKind.i64.wrap ((IntKind.i64.wrap (v_ - 1)) - r110.1))).tmod r110.2.1)⟩ : Numbering_Name), (!((gi ([3, 2, 1] : List Int) x_106) == 0 && ((IntKind.i64.wrap (((IntKind.i64.wrap ((IntKind.i64.wrap (v_ - 1)) - r110.1))).tdiv r110.2.1)) == 0 && ((((IntKind.i64.wrap ((IntKind.i64.wrap (v_ - 1)) - r110.1))).tmod r110.2.1) == 0 && true)))))) ∧
  (((decide ((IntKind.i64.wrap ((IntKind.i64.wrap (v_ - 1)) - r110.1)) ≥ 0)) && (decide (r110.2.1 > 0))) = false →
  I1 (IntKind.i64.wrap (x_106 + 1)) ∧ μ1 (IntKind.i64.wrap (x_106 + 1)) < μ1 x_106)) ∧
  ((decide (x_106 < 3)) = false →
  VC20_J2 Q))
/-- replevin/numbering.Of -/
def VC20 (s_ : Numbering_Size) (v_ : Int) (Q : Numbering_Name × Bool → Prop) : Prop :=
  ((decide (v_ < 1)) = true →
  VC20_J1 s_ v_ Q true) ∧
  ((decide (v_ < 1)) = false →
  ∀ r127, numbering_Vars s_ = r127 →
  VC20_J1 s_ v_ Q (decide (v_ > r127)))

/-- replevin/replevinlaw31.awake -/
def VC18 (Q : Bool → Prop) : Prop :=
  ∀ r104, numbering_Of (⟨2, 3⟩ : Numbering_Size) 15 = r104 →
  ∀ r108, numbering_Of (⟨2, 3⟩ : Numbering_Size) 16 = r108 →
  ∀ r112, numbering_Vars (⟨2, 3⟩ : Numbering_Size) = r112 →
  ((r112 == 15) = true →
  ∀ r116, numbering_Var (⟨2, 3⟩ : Numbering_Size) (⟨1, 1, 0⟩ : Numbering_Name) = r116 →
  ((r116 == 3) = true →
  ∀ r120, numbering_Var (⟨2, 3⟩ : Numbering_Size) (⟨2, 0, 0⟩ : Numbering_Name) = r120 →
  ((r120 == 5) = true →
  ∀ r124, numbering_Var (⟨2, 3⟩ : Numbering_Size) (⟨3, 0, 0⟩ : Numbering_Name) = r124 →
  ((r124 == 7) = true →
  ((((r104.1.Kind == 3 && (r104.1.A == 2 && (r104.1.B == 2 && true))) && r104.2) && (!r108.2)) = true →
  ∀ r128, numbering_Var (⟨2, 3⟩ : Numbering_Size) (⟨1, 2, 0⟩ : Numbering_Name) = r128 →
  ((r128 == 0) = true →
  ∀ r132, numbering_Check (⟨2, 3⟩ : Numbering_Size) = r132 →
  ((r132 == 0) = true →
  ∀ r136, numbering_Check (⟨65, 1⟩ : Numbering_Size) = r136 →
  Q (r136 == 2)) ∧
  ((r132 == 0) = false →
  Q false)) ∧
  ((r128 == 0) = false →
  Q false)) ∧
  ((((r104.1.Kind == 3 && (r104.1.A == 2 && (r104.1.B == 2 && true))) && r104.2) && (!r108.2)) = false →
  Q false)) ∧
  ((r124 == 7) = false →
  Q false)) ∧
  ((r120 == 5) = false →
  Q false)) ∧
  ((r116 == 3) = false →
  Q false)) ∧
  ((r112 == 15) = false →
  Q false)

/-- replevin/replevinlaw31.small -/
def VC17 (s_ : Numbering_Size) (Q : Bool → Prop) : Prop :=
  Q ((decide (s_.Ops ≤ 12)) || (decide (s_.Ops > 64)))

def VC3_J1 (P : Numbering_Size) (O : Numbering_Name) (Q : Bool → Prop) (A_120 : List Ref31_Name) (x_124 : Bool) : Prop :=
  (x_124 = true →
  Q false) ∧
  (x_124 = false →
  ∀ r129, numbering_Check P = r129 →
  ∀ r133, ref31_Check P.Ops P.States = r133 →
  ((r129 == r133) = true →
  ∀ r137, numbering_Vars P = r137 →
  ((r137 == ((A_120.length : Nat) : Int)) = true →
  ∀ r141, numbering_Var P O = r141 →
  ∀ r145, ref31_Var P.Ops P.States (⟨O.Kind, O.A, O.B⟩ : Ref31_Name) = r145 →
  ((r141 == r145) = true →
  ∀ r149, law31_awake = r149 →
  Q r149) ∧
  ((r141 == r145) = false →
  Q false)) ∧
  ((r137 == ((A_120.length : Nat) : Int)) = false →
  Q false)) ∧
  ((r129 == r133) = false →
  Q false))
/-- replevin/replevinlaw31.NumberingTells -/
def VC3 (P : Numbering_Size) (O : Numbering_Name) (S : Int) (Q : Bool → Prop) : Prop :=
  ∀ r104, law31_small P = r104 →
  ((!r104) = true →
  ∀ r108, law31_awake = r108 →
  Q r108) ∧
  ((!r104) = false →
  ∀ r112, ref31_Names P.Ops P.States = r112 →
  sm r112 →
  ∀ r119, numbering_Of P S = r119 →
  ((decide (S ≥ 1)) = true →
  ((r119.2 != (decide (S ≤ ((r112.length : Nat) : Int)))) = true →
  VC3_J1 P O Q r112 true) ∧
  ((r119.2 != (decide (S ≤ ((r112.length : Nat) : Int)))) = false →
  (r119.2 = true →
  (0 ≤ (IntKind.i64.wrap (S - 1)) ∧ (IntKind.i64.wrap (S - 1)) < (r112.length : Int)) ∧
  ((r119.1.Kind != ((gi r112 (IntKind.i64.wrap (S - 1))).Kind)) = true →
  VC3_J1 P O Q r112 true) ∧
  ((r119.1.Kind != ((gi r112 (IntKind.i64.wrap (S - 1))).Kind)) = false →
  (0 ≤ (IntKind.i64.wrap (S - 1)) ∧ (IntKind.i64.wrap (S - 1)) < (r112.length : Int)) ∧
  ((r119.1.A != ((gi r112 (IntKind.i64.wrap (S - 1))).A)) = true →
  VC3_J1 P O Q r112 true) ∧
  ((r119.1.A != ((gi r112 (IntKind.i64.wrap (S - 1))).A)) = false →
  (0 ≤ (IntKind.i64.wrap (S - 1)) ∧ (IntKind.i64.wrap (S - 1)) < (r112.length : Int)) ∧
  ((r119.1.B != ((gi r112 (IntKind.i64.wrap (S - 1))).B)) = true →
  VC3_J1 P O Q r112 true) ∧
  ((r119.1.B != ((gi r112 (IntKind.i64.wrap (S - 1))).B)) = false →
  ((!r119.2) = true →
  VC3_J1 P O Q r112 (!(r119.1.Kind == 0 && (r119.1.A == 0 && (r119.1.B == 0 && true))))) ∧
  ((!r119.2) = false →
  VC3_J1 P O Q r112 false))))) ∧
  (r119.2 = false →
  ((!r119.2) = true →
  VC3_J1 P O Q r112 (!(r119.1.Kind == 0 && (r119.1.A == 0 && (r119.1.B == 0 && true))))) ∧
  ((!r119.2) = false →
  VC3_J1 P O Q r112 false)))) ∧
  ((decide (S ≥ 1)) = false →
  ((r119.2 != false) = true →
  VC3_J1 P O Q r112 true) ∧
  ((r119.2 != false) = false →
  (r119.2 = true →
  (0 ≤ (IntKind.i64.wrap (S - 1)) ∧ (IntKind.i64.wrap (S - 1)) < (r112.length : Int)) ∧
  ((r119.1.Kind != ((gi r112 (IntKind.i64.wrap (S - 1))).Kind)) = true →
  VC3_J1 P O Q r112 true) ∧
  ((r119.1.Kind != ((gi r112 (IntKind.i64.wrap (S - 1))).Kind)) = false →
  (0 ≤ (IntKind.i64.wrap (S - 1)) ∧ (IntKind.i64.wrap (S - 1)) < (r112.length : Int)) ∧
  ((r119.1.A != ((gi r112 (IntKind.i64.wrap (S - 1))).A)) = true →
  VC3_J1 P O Q r112 true) ∧
  ((r119.1.A != ((gi r112 (IntKind.i64.wrap (S - 1))).A)) = false →
  (0 ≤ (IntKind.i64.wrap (S - 1)) ∧ (IntKind.i64.wrap (S - 1)) < (r112.length : Int)) ∧
  ((r119.1.B != ((gi r112 (IntKind.i64.wrap (S - 1))).B)) = true →
  VC3_J1 P O Q r112 true) ∧
  ((r119.1.B != ((gi r112 (IntKind.i64.wrap (S - 1))).B)) = false →
  ((!r119.2) = true →
  VC3_J1 P O Q r112 (!(r119.1.Kind == 0 && (r119.1.A == 0 && (r119.1.B == 0 && true))))) ∧
  ((!r119.2) = false →
  VC3_J1 P O Q r112 false))))) ∧
  (r119.2 = false →
  ((!r119.2) = true →
  VC3_J1 P O Q r112 (!(r119.1.Kind == 0 && (r119.1.A == 0 && (r119.1.B == 0 && true))))) ∧
  ((!r119.2) = false →
  VC3_J1 P O Q r112 false)))))

def VC4_J2 (Q : Bool → Prop) (x_105 : Bool) : Prop :=
  (x_105 = true →
  Q false) ∧
  (x_105 = false →
  ∀ r109, law31_awake = r109 →
  Q r109)
def VC4_J1 (P : Numbering_Size) (S : Int) (Q : Bool → Prop) : Prop :=
  ∀ r104, numbering_Of P S = r104 →
  ((decide (S ≥ 1)) = true →
  ∀ r113, numbering_Vars P = r113 →
  ((r104.2 != (decide (S ≤ r113))) = true →
  VC4_J2 Q true) ∧
  ((r104.2 != (decide (S ≤ r113))) = false →
  (r104.2 = true →
  ∀ r117, numbering_Var P r104.1 = r117 →
  VC4_J2 Q (r117 != S)) ∧
  (r104.2 = false →
  VC4_J2 Q false))) ∧
  ((decide (S ≥ 1)) = false →
  ((r104.2 != false) = true →
  VC4_J2 Q true) ∧
  ((r104.2 != false) = false →
  (r104.2 = true →
  ∀ r121, numbering_Var P r104.1 = r121 →
  VC4_J2 Q (r121 != S)) ∧
  (r104.2 = false →
  VC4_J2 Q false)))
def VC4_J3 (P : Numbering_Size) (S : Int) (Q : Bool → Prop) (x_134 : Bool) : Prop :=
  (x_134 = true →
  Q false) ∧
  (x_134 = false →
  VC4_J1 P S Q)
/-- replevin/replevinlaw31.NumberingBack -/
def VC4 (P : Numbering_Size) (O : Numbering_Name) (S : Int) (Q : Bool → Prop) : Prop :=
  ∀ r129, numbering_Var P O = r129 →
  ((r129 != 0) = true →
  ∀ r133, numbering_Of P r129 = r133 →
  ((!r133.2) = true →
  VC4_J3 P S Q true) ∧
  ((!r133.2) = false →
  (((!(r133.1.Kind == O.Kind && (r133.1.A == O.A && (r133.1.B == O.B && true)))) || (decide (r129 < 1))) = true →
  VC4_J3 P S Q true) ∧
  (((!(r133.1.Kind == O.Kind && (r133.1.A == O.A && (r133.1.B == O.B && true)))) || (decide (r129 < 1))) = false →
  ∀ r138, numbering_Vars P = r138 →
  VC4_J3 P S Q (decide (r129 > r138))))) ∧
  ((r129 != 0) = false →
  VC4_J1 P S Q)

def VC5_J1 (P : Numbering_Size) (O : Numbering_Name) (S : Numbering_Name) (Q : Bool → Prop) (r105 : Int) (r109 : Int) (x_110 : Bool) : Prop :=
  (x_110 = true →
  Q false) ∧
  (x_110 = false →
  (((r105 == 0) || (r109 == 0)) = true →
  ∀ r114, law31_awake = r114 →
  Q r114) ∧
  (((r105 == 0) || (r109 == 0)) = false →
  (((decide (r105 < r109)) == ((decide (O.Kind < S.Kind)) || ((O.Kind == S.Kind) && ((decide (O.A < S.A)) || ((O.A == S.A) && (decide (O.B < S.B))))))) = true →
  ∀ r118, numbering_Check P = r118 →
  ((r118 == 0) = true →
  ∀ r122, law31_awake = r122 →
  Q r122) ∧
  ((r118 == 0) = false →
  Q false)) ∧
  (((decide (r105 < r109)) == ((decide (O.Kind < S.Kind)) || ((O.Kind == S.Kind) && ((decide (O.A < S.A)) || ((O.A == S.A) && (decide (O.B < S.B))))))) = false →
  Q false)))
/-- replevin/replevinlaw31.NumberingAll -/
def VC5 (P : Numbering_Size) (O : Numbering_Name) (S : Numbering_Name) (Q : Bool → Prop) : Prop :=
  ∀ r105, numbering_Var P O = r105 →
  ∀ r109, numbering_Var P S = r109 →
  ((r105 != 0) = true →
  VC5_J1 P O S Q r105 r109 ((r105 == r109) != (O.Kind == S.Kind && (O.A == S.A && (O.B == S.B && true))))) ∧
  ((r105 != 0) = false →
  VC5_J1 P O S Q r105 r109 false)

end Go.Proofs.Ytlpcjbjlgeaapaa
