/- Walks: each function returns what its condition asks. Condition: the contracts of its callees, handed in. -/
import Derived.Test.YtancoeikfkebfaaDoorMVC
import Derived.Test.YtancoeikfkebfaaDoorMReps
import Derived.Test.YtancoeikfkebfaaDoorKA
set_option linter.all false
namespace Go.Proofs.YtancoeikfkebfaaDoor
open Go Go.Sv
def S49 : Prop := ∀ (w : World) (χ : Nat → Nat) (s_ : List UInt8) (c_ : Int), Ret Tryd.prog 49 #[.string (bs s_), .int .u8 c_] xnone w χ (fun w χ' v => v = .int .i64 (strings_IndexByte s_ c_))
theorem hb49 : hasBody Tryd.prog 49 = true := by kernel_rfl
def S61 : Prop := ∀ (w : World) (χ : Nat → Nat) (s_ : List UInt8) (substr : List UInt8), preOne s_ substr → Ret Tryd.prog 61 #[.string (bs s_), .string (bs substr)] xnone w χ (fun w χ' v => v = .int .i64 (internal_stringslite_Index s_ substr))
theorem hb61 : hasBody Tryd.prog 61 = true := by kernel_rfl
def S44 : Prop := ∀ (w : World) (χ : Nat → Nat) (i_ : Int), preI i_ → Amb w χ → Ret Tryd.prog 44 #[.int .i64 i_] xnone w χ (fun w χ' v => v = .string (bs (strconv_Itoa i_)))
theorem hb44 : hasBody Tryd.prog 44 = true := by kernel_rfl
def S56 : Prop := ∀ (w : World) (χ : Nat → Nat) (b_ : Int), Ret Tryd.prog 56 #[.int .u8 b_] xnone w χ (fun w χ' v => v = .bool (ref05_gap b_))
theorem hb56 : hasBody Tryd.prog 56 = true := by kernel_rfl
def S62 : Prop := ∀ (w : World) (χ : Nat → Nat) (s_ : List UInt8) (prefix_ : List UInt8), preTwo s_ prefix_ → Ret Tryd.prog 62 #[.string (bs s_), .string (bs prefix_)] xnone w χ (fun w χ' v => v = .bool (internal_stringslite_HasPrefix s_ prefix_))
theorem hb62 : hasBody Tryd.prog 62 = true := by kernel_rfl
def S48 : Prop := ∀ (w : World) (χ : Nat → Nat) (s_ : List UInt8) (prefix_ : List UInt8), preTwo s_ prefix_ → Ret Tryd.prog 48 #[.string (bs s_), .string (bs prefix_)] xnone w χ (fun w χ' v => v = .bool (strings_HasPrefix s_ prefix_))
theorem hb48 : hasBody Tryd.prog 48 = true := by kernel_rfl
def S77 : Prop := ∀ (w : World) (χ : Nat → Nat) (s_ : List UInt8) (prefix_ : List UInt8), preTwo s_ prefix_ → Ret Tryd.prog 77 #[.string (bs s_), .string (bs prefix_)] xnone w χ (fun w χ' v => v = .tuple #[.string (bs ((internal_stringslite_CutPrefix s_ prefix_).1)), .bool ((internal_stringslite_CutPrefix s_ prefix_).2)])
theorem hb77 : hasBody Tryd.prog 77 = true := by kernel_rfl
def S67 : Prop := ∀ (w : World) (χ : Nat → Nat) (s_ : List UInt8) (prefix_ : List UInt8), preTwo s_ prefix_ → Ret Tryd.prog 67 #[.string (bs s_), .string (bs prefix_)] xnone w χ (fun w χ' v => v = .tuple #[.string (bs ((strings_CutPrefix s_ prefix_).1)), .bool ((strings_CutPrefix s_ prefix_).2)])
theorem hb67 : hasBody Tryd.prog 67 = true := by kernel_rfl
def S47 : Prop := ∀ (w : World) (χ : Nat → Nat) (s_ : List UInt8) (sep : List UInt8), preOne s_ sep → Ret Tryd.prog 47 #[.string (bs s_), .string (bs sep)] xnone w χ (fun w χ' v => v = .tuple #[.string (bs ((internal_stringslite_Cut s_ sep).1)), .string (bs ((internal_stringslite_Cut s_ sep).2.1)), .bool ((internal_stringslite_Cut s_ sep).2.2)])
theorem hb47 : hasBody Tryd.prog 47 = true := by kernel_rfl
def S31 : Prop := ∀ (w : World) (χ : Nat → Nat) (s_ : List UInt8) (sep : List UInt8), preOne s_ sep → Ret Tryd.prog 31 #[.string (bs s_), .string (bs sep)] xnone w χ (fun w χ' v => v = .tuple #[.string (bs ((strings_Cut s_ sep).1)), .string (bs ((strings_Cut s_ sep).2.1)), .bool ((strings_Cut s_ sep).2.2)])
theorem hb31 : hasBody Tryd.prog 31 = true := by kernel_rfl
def S32 : Prop := ∀ (w : World) (χ : Nat → Nat) (s_ : List UInt8) (line : Int) (at_ : Int), preTok s_ line at_ → Ret Tryd.prog 32 #[.string (bs s_), .int .i64 line, .int .i64 at_] xnone w χ (fun w χ' v => ∃ (ra1 : Option Addr) (rc1 : Nat), v = .slice ra1 (token_tokens s_ line at_).length rc1 ∧ RS tToken_Token w χ' ra1 (token_tokens s_ line at_) rc1)
theorem hb32 : hasBody Tryd.prog 32 = true := by kernel_rfl
def S16 : Prop := ∀ (w : World) (χ : Nat → Nat) (s_ : List UInt8), len1 s_ → Ret Tryd.prog 16 #[.string (bs s_)] xnone w χ (fun w χ' v => ∃ (ra1 : Option Addr) (rc1 : Nat), v = .slice ra1 (token_Lines s_).length rc1 ∧ RS (tSlice tToken_Token) w χ' ra1 (token_Lines s_) rc1)
theorem hb16 : hasBody Tryd.prog 16 = true := by kernel_rfl
def S42 : Prop := ∀ (w : World) (χ : Nat → Nat) (s_ : List UInt8), len1 s_ → Ret Tryd.prog 42 #[.string (bs s_)] xnone w χ (fun w χ' v => ∃ (ra1 : Option Addr) (rc1 : Nat), v = .slice ra1 (ref05_Lines s_).length rc1 ∧ RS (tSlice tRef05_Token) w χ' ra1 (ref05_Lines s_) rc1)
theorem hb42 : hasBody Tryd.prog 42 = true := by kernel_rfl
def S55 : Prop := ∀ (w : World) (χ : Nat → Nat) (s_ : List UInt8), len1 s_ → Ret Tryd.prog 55 #[.string (bs s_)] xnone w χ (fun w χ' v => v = .tuple #[.string (bs ((token_numeral s_).1)), .bool ((token_numeral s_).2.1), .bool ((token_numeral s_).2.2)])
theorem hb55 : hasBody Tryd.prog 55 = true := by kernel_rfl
def S40 : Prop := ∀ (w : World) (χ : Nat → Nat) (s_ : List UInt8) (lo : Int) (hi : Int), preNum s_ lo hi → Ret Tryd.prog 40 #[.string (bs s_), .int .i64 lo, .int .i64 hi] xnone w χ (fun w χ' v => v = .tuple #[.int .i64 ((token_Number s_ lo hi).1), .int .i64 ((token_Number s_ lo hi).2)])
theorem hb40 : hasBody Tryd.prog 40 = true := by kernel_rfl
def S30 : Prop := ∀ (w : World) (χ : Nat → Nat) (n_ : Int), preI n_ → Ret Tryd.prog 30 #[.int .i64 n_] xnone w χ (fun w χ' v => v = .string (bs (ref05_Digits n_)))
theorem hb30 : hasBody Tryd.prog 30 = true := by kernel_rfl
def S28 : Prop := ∀ (w : World) (χ : Nat → Nat) (n_ : Int), preI n_ → Amb w χ → Ret Tryd.prog 28 #[.int .i64 n_] xnone w χ (fun w χ' v => v = .string (bs (token_Digits n_)))
theorem hb28 : hasBody Tryd.prog 28 = true := by kernel_rfl
def S25 : Prop := ∀ (w : World) (χ : Nat → Nat) (s_ : List UInt8) (lo : Int) (hi : Int), preNum s_ lo hi → Ret Tryd.prog 25 #[.string (bs s_), .int .i64 lo, .int .i64 hi] xnone w χ (fun w χ' v => v = .tuple #[.int .i64 ((ref05_Number s_ lo hi).1), .int .i64 ((ref05_Number s_ lo hi).2)])
theorem hb25 : hasBody Tryd.prog 25 = true := by kernel_rfl
def S64 : Prop := ∀ (w : World) (χ : Nat → Nat) (n_ : Int) (vars : Int), preIn n_ vars → Ret Tryd.prog 64 #[.int .i64 n_, .int .i64 vars] xnone w χ (fun w χ' v => v = .bool (lit_number_in n_ vars))
theorem hb64 : hasBody Tryd.prog 64 = true := by kernel_rfl
def S76 : Prop := ∀ (w : World) (χ : Nat → Nat) (lit : Int), Ret Tryd.prog 76 #[.int .i64 lit] xnone w χ (fun w χ' v => v = .bool (lit_is lit))
theorem hb76 : hasBody Tryd.prog 76 = true := by kernel_rfl
def S65 : Prop := ∀ (w : World) (χ : Nat → Nat) (lit : Int), Ret Tryd.prog 65 #[.int .i64 lit] xnone w χ (fun w χ' v => v = .int .i64 (lit_Var lit))
theorem hb65 : hasBody Tryd.prog 65 = true := by kernel_rfl
def S50 : Prop := ∀ (w : World) (χ : Nat → Nat) (lit : Int) (vars : Int), Ret Tryd.prog 50 #[.int .i64 lit, .int .i64 vars] xnone w χ (fun w χ' v => v = .int .i64 (lit_Check lit vars))
theorem hb50 : hasBody Tryd.prog 50 = true := by kernel_rfl
def S69 : Prop := ∀ (w : World) (χ : Nat → Nat) (l_ : Int), Ret Tryd.prog 69 #[.int .i64 l_] xnone w χ (fun w χ' v => v = .tuple #[.int .i64 ((ref01_Split l_).1), .bool ((ref01_Split l_).2)])
theorem hb69 : hasBody Tryd.prog 69 = true := by kernel_rfl
def S70 : Prop := ∀ (w : World) (χ : Nat → Nat) (l_ : Int), Ret Tryd.prog 70 #[.int .i64 l_] xnone w χ (fun w χ' v => v = .int .i64 (ref01_Index l_))
theorem hb70 : hasBody Tryd.prog 70 = true := by kernel_rfl
def S71 : Prop := ∀ (w : World) (χ : Nat → Nat) (v_ : Int) (truth : Bool), Ret Tryd.prog 71 #[.int .i64 v_, .bool truth] xnone w χ (fun w χ' v => v = .int .i64 (ref01_Join v_ truth))
theorem hb71 : hasBody Tryd.prog 71 = true := by kernel_rfl
def S60 : Prop := ∀ (w : World) (χ : Nat → Nat) (l_ : Int), Ret Tryd.prog 60 #[.int .i64 l_] xnone w χ (fun w χ' v => v = .int .i64 (ref01_Neg l_))
theorem hb60 : hasBody Tryd.prog 60 = true := by kernel_rfl
def S58 : Prop := ∀ (w : World) (χ : Nat → Nat) (l_ : Int) (vars : Int), Ret Tryd.prog 58 #[.int .i64 l_, .int .i64 vars] xnone w χ (fun w χ' v => v = .int .i64 (ref01_Check l_ vars))
theorem hb58 : hasBody Tryd.prog 58 = true := by kernel_rfl
def S26 : Prop := ∀ (w : World) (χ : Nat → Nat) (l_ : List Int) (n_ : Int) (a1 : Option Addr) (c1 : Nat), RS tI w χ a1 l_ c1 → Ret Tryd.prog 26 #[.slice a1 l_.length c1, .int .i64 n_] xnone w χ (fun w χ' v => v = .bool (ref01_Has l_ n_))
theorem hb26 : hasBody Tryd.prog 26 = true := by kernel_rfl
def S43 : Prop := ∀ (w : World) (χ : Nat → Nat) (a_ : List Int) (b_ : List Int) (a1 : Option Addr) (c1 : Nat) (a2 : Option Addr) (c2 : Nat), RS tI w χ a1 a_ c1 → RS tI w χ a2 b_ c2 → Ret Tryd.prog 43 #[.slice a1 a_.length c1, .slice a2 b_.length c2] xnone w χ (fun w χ' v => v = .bool (ref01_SameInts a_ b_))
theorem hb43 : hasBody Tryd.prog 43 = true := by kernel_rfl
def S59 : Prop := ∀ (w : World) (χ : Nat → Nat) (c_ : List Int) (l_ : Int) (a1 : Option Addr) (c1 : Nat), RS tI w χ a1 c_ c1 → Ret Tryd.prog 59 #[.slice a1 c_.length c1, .int .i64 l_] xnone w χ (fun w χ' v => v = .bool (ref02_Has c_ l_))
theorem hb59 : hasBody Tryd.prog 59 = true := by kernel_rfl
def S45 : Prop := ∀ (w : World) (χ : Nat → Nat) (c_ : List Int) (vars : Int) (a1 : Option Addr) (c1 : Nat), RS tI w χ a1 c_ c1 → Ret Tryd.prog 45 #[.slice a1 c_.length c1, .int .i64 vars] xnone w χ (fun w χ' v => v = .int .i64 (ref02_Check c_ vars))
theorem hb45 : hasBody Tryd.prog 45 = true := by kernel_rfl
def S46 : Prop := ∀ (w : World) (χ : Nat → Nat) (c_ : List Int) (a1 : Option Addr) (c1 : Nat), RS tI w χ a1 c_ c1 → Ret Tryd.prog 46 #[.slice a1 c_.length c1] xnone w χ (fun w χ' v => v = .bool (ref02_Taut c_))
theorem hb46 : hasBody Tryd.prog 46 = true := by kernel_rfl
def S51 : Prop := ∀ (w : World) (χ : Nat → Nat) (c_ : List Int) (a1 : Option Addr) (c1 : Nat) (col1 : Nat), preSeen c_ → RS tI w χ a1 c_ c1 → Ret Tryd.prog 51 #[.slice a1 c_.length c1] xnone w χ (fun w χ' v => ∃ (rr1 : Nat), v = .map (some rr1) ∧ OM kI tI false w χ' col1 rr1 (clause_seen c_))
theorem hb51 : hasBody Tryd.prog 51 = true := by kernel_rfl
def S53 : Prop := ∀ (w : World) (χ : Nat → Nat) (l_ : Int) (cap1 : List (Int × Int)) (r1 : Nat) (m1 : Nat) (b1 : Nat) (i1 : Nat), preT1 l_ cap1 → OM kI tI false w χ m1 r1 cap1 → Cell w χ b1 i1 83 [.map (some r1)] → Apart [i1, m1] → Ret Tryd.prog 53 #[.int .i64 l_, .pointer (some ⟨b1, 0, none⟩)] (pR [i1, m1]) w χ (fun w χ' v => v = .bool (clause_Taut_1 l_ cap1) ∧ Cell w χ' b1 i1 83 [.map (some r1)] ∧ OM kI tI false w χ' m1 r1 cap1)
theorem hb53 : hasBody Tryd.prog 53 = true := by kernel_rfl
def S66_53 : Prop := ∀ (w : World) (χ : Nat → Nat) (s_ : List Int) (cap1 : List (Int × Int)) (a1 : Option Addr) (c1 : Nat) (r2 : Nat) (m2 : Nat) (b1 : Nat) (i1 : Nat), preTI s_ cap1 → RS tI w χ a1 s_ c1 → OM kI tI false w χ m2 r2 cap1 → Cell w χ b1 i1 83 [.map (some r2)] → Apart [i1, m2] → Ret Tryd.prog 66 #[.slice a1 s_.length c1, .func (.func 53) #[] #[.pointer (some ⟨b1, 0, none⟩)]] (pR [i1, m2]) w χ (fun w χ' v => v = .int .i64 (slices_IndexFunc_int_int_clause_Taut_1 s_ cap1) ∧ Cell w χ' b1 i1 83 [.map (some r2)] ∧ OM kI tI false w χ' m2 r2 cap1)
theorem hb66 : hasBody Tryd.prog 66 = true := by kernel_rfl
def S52_53 : Prop := ∀ (w : World) (χ : Nat → Nat) (s_ : List Int) (cap1 : List (Int × Int)) (a1 : Option Addr) (c1 : Nat) (r2 : Nat) (m2 : Nat) (b1 : Nat) (i1 : Nat), preTI s_ cap1 → RS tI w χ a1 s_ c1 → OM kI tI false w χ m2 r2 cap1 → Cell w χ b1 i1 83 [.map (some r2)] → Apart [i1, m2] → Ret Tryd.prog 52 #[.slice a1 s_.length c1, .func (.func 53) #[] #[.pointer (some ⟨b1, 0, none⟩)]] (pR [i1, m2]) w χ (fun w χ' v => v = .bool (slices_ContainsFunc_int_int_clause_Taut_1 s_ cap1) ∧ Cell w χ' b1 i1 83 [.map (some r2)] ∧ OM kI tI false w χ' m2 r2 cap1)
theorem hb52 : hasBody Tryd.prog 52 = true := by kernel_rfl
def S34 : Prop := ∀ (w : World) (χ : Nat → Nat) (c_ : List Int) (a1 : Option Addr) (c1 : Nat), preTt c_ → RS tI w χ a1 c_ c1 → Ret Tryd.prog 34 #[.slice a1 c_.length c1] xnone w χ (fun w χ' v => v = .bool (clause_Taut c_))
theorem hb34 : hasBody Tryd.prog 34 = true := by kernel_rfl
def S33 : Prop := ∀ (w : World) (χ : Nat → Nat) (c_ : List Int) (vars : Int) (a1 : Option Addr) (c1 : Nat), RS tI w χ a1 c_ c1 → Ret Tryd.prog 33 #[.slice a1 c_.length c1, .int .i64 vars] xnone w χ (fun w χ' v => v = .int .i64 (clause_Check c_ vars))
theorem hb33 : hasBody Tryd.prog 33 = true := by kernel_rfl
def S17 : Prop := ∀ (w : World) (χ : Nat → Nat) (f_ : Api_Formula) (a1 : Option Addr) (c1 : Nat), RS (tSlice tI) w χ a1 f_.Clauses c1 → Ret Tryd.prog 17 #[.agg #[.int .i64 f_.Vars, .slice a1 f_.Clauses.length c1]] xnone w χ (fun w χ' v => v = .tuple #[.int .i64 ((cnf_Check f_).1), .int .i64 ((cnf_Check f_).2)])
theorem hb17 : hasBody Tryd.prog 17 = true := by kernel_rfl
def S29 : Prop := ∀ (w : World) (χ : Nat → Nat) (f_ : Api_Formula) (a1 : Option Addr) (c1 : Nat), RS (tSlice tI) w χ a1 f_.Clauses c1 → Ret Tryd.prog 29 #[.agg #[.int .i64 f_.Vars, .slice a1 f_.Clauses.length c1]] xnone w χ (fun w χ' v => v = .tuple #[.int .i64 ((ref04_Check f_).1), .int .i64 ((ref04_Check f_).2)])
theorem hb29 : hasBody Tryd.prog 29 = true := by kernel_rfl
def S37 : Prop := ∀ (w : World) (χ : Nat → Nat) (s1 : List Int) (s2 : List Int) (a1 : Option Addr) (c1 : Nat) (a2 : Option Addr) (c2 : Nat), RS tI w χ a1 s1 c1 → RS tI w χ a2 s2 c2 → Ret Tryd.prog 37 #[.slice a1 s1.length c1, .slice a2 s2.length c2] xnone w χ (fun w χ' v => v = .bool (slices_Equal_int_int s1 s2))
theorem hb37 : hasBody Tryd.prog 37 = true := by kernel_rfl
def S36 : Prop := ∀ (w : World) (χ : Nat → Nat) (x_ : List Int) (y_ : List Int) (a1 : Option Addr) (c1 : Nat) (a2 : Option Addr) (c2 : Nat), RS tI w χ a1 x_ c1 → RS tI w χ a2 y_ c2 → Ret Tryd.prog 36 #[.slice a1 x_.length c1, .slice a2 y_.length c2] xnone w χ (fun w χ' v => v = .bool (cnf_Same_1 x_ y_))
theorem hb36 : hasBody Tryd.prog 36 = true := by kernel_rfl
def S35_36 : Prop := ∀ (w : World) (χ : Nat → Nat) (s1 : List (List Int)) (s2 : List (List Int)) (a1 : Option Addr) (c1 : Nat) (a2 : Option Addr) (c2 : Nat), RS (tSlice tI) w χ a1 s1 c1 → RS (tSlice tI) w χ a2 s2 c2 → Apart [] → Ret Tryd.prog 35 #[.slice a1 s1.length c1, .slice a2 s2.length c2, .func (.func 36) #[] #[]] (pR []) w χ (fun w χ' v => v = .bool (slices_EqualFunc_int_int_int_int_cnf_Same_1 s1 s2))
theorem hb35 : hasBody Tryd.prog 35 = true := by kernel_rfl
def S18 : Prop := ∀ (w : World) (χ : Nat → Nat) (a_ : Api_Formula) (b_ : Api_Formula) (a1 : Option Addr) (c1 : Nat) (a2 : Option Addr) (c2 : Nat), RS (tSlice tI) w χ a1 a_.Clauses c1 → RS (tSlice tI) w χ a2 b_.Clauses c2 → Ret Tryd.prog 18 #[.agg #[.int .i64 a_.Vars, .slice a1 a_.Clauses.length c1], .agg #[.int .i64 b_.Vars, .slice a2 b_.Clauses.length c2]] xnone w χ (fun w χ' v => v = .bool (cnf_Same a_ b_))
theorem hb18 : hasBody Tryd.prog 18 = true := by kernel_rfl
def S27 : Prop := ∀ (w : World) (χ : Nat → Nat) (a_ : List (List Int)) (b_ : List (List Int)) (a1 : Option Addr) (c1 : Nat) (a2 : Option Addr) (c2 : Nat), RS (tSlice tI) w χ a1 a_ c1 → RS (tSlice tI) w χ a2 b_ c2 → Ret Tryd.prog 27 #[.slice a1 a_.length c1, .slice a2 b_.length c2] xnone w χ (fun w χ' v => v = .bool (ref04_SameRows a_ b_))
theorem hb27 : hasBody Tryd.prog 27 = true := by kernel_rfl
def S10 : Prop := ∀ (w : World) (χ : Nat → Nat) (a_ : Api_Formula) (b_ : Api_Formula) (a1 : Option Addr) (c1 : Nat) (a2 : Option Addr) (c2 : Nat), RS (tSlice tI) w χ a1 a_.Clauses c1 → RS (tSlice tI) w χ a2 b_.Clauses c2 → Ret Tryd.prog 10 #[.agg #[.int .i64 a_.Vars, .slice a1 a_.Clauses.length c1], .agg #[.int .i64 b_.Vars, .slice a2 b_.Clauses.length c2]] xnone w χ (fun w χ' v => v = .bool (ref04_Same a_ b_))
theorem hb10 : hasBody Tryd.prog 10 = true := by kernel_rfl
def S11 : Prop := ∀ (w : World) (χ : Nat → Nat) (f_ : Api_Formula) (a1 : Option Addr) (c1 : Nat), RS (tSlice tI) w χ a1 f_.Clauses c1 → Ret Tryd.prog 11 #[.agg #[.int .i64 f_.Vars, .slice a1 f_.Clauses.length c1]] xnone w χ (fun w χ' v => v = .bool (law04_Few f_))
theorem hb11 : hasBody Tryd.prog 11 = true := by kernel_rfl
def S23 : Prop := ∀ (w : World) (χ : Nat → Nat) (t_ : Token_Token) (e_ : Int) (cap1 : Dimacs_reader) (a1 : Option Addr) (c1 : Nat) (b1 : Nat) (i1 : Nat), RS tToken_Token w χ a1 cap1.rest c1 → Cell w χ b1 i1 58 [.int .i64 cap1.fault.at_, .int .i64 cap1.fault.e, .slice a1 cap1.rest.length c1, .int .i64 cap1.end_] → Apart [i1] → Ret Tryd.prog 23 #[.pointer (some ⟨b1, 0, none⟩), .agg #[.int .i64 t_.Line, .int .i64 t_.At, .string (bs t_.Text)], .int .i64 e_] (pR [i1]) w χ (fun w χ' v => ∃ (ra1 : Option Addr) (rc1 : Nat), v = .tuple #[] ∧ RS tToken_Token w χ' ra1 ((dimacs_reader_wrong t_ e_ cap1).rest) rc1 ∧ Cell w χ' b1 i1 58 [.int .i64 (((dimacs_reader_wrong t_ e_ cap1).fault).at_), .int .i64 (((dimacs_reader_wrong t_ e_ cap1).fault).e), .slice ra1 ((dimacs_reader_wrong t_ e_ cap1).rest).length rc1, .int .i64 ((dimacs_reader_wrong t_ e_ cap1).end_)])
theorem hb23 : hasBody Tryd.prog 23 = true := by kernel_rfl
def S39 : Prop := ∀ (w : World) (χ : Nat → Nat) (cap1 : Dimacs_reader) (a1 : Option Addr) (c1 : Nat) (b1 : Nat) (i1 : Nat), RS tToken_Token w χ a1 cap1.rest c1 → Cell w χ b1 i1 58 [.int .i64 cap1.fault.at_, .int .i64 cap1.fault.e, .slice a1 cap1.rest.length c1, .int .i64 cap1.end_] → Apart [i1] → Ret Tryd.prog 39 #[.pointer (some ⟨b1, 0, none⟩)] (pR [i1]) w χ (fun w χ' v => ∃ (ra1 : Option Addr) (rc1 : Nat), v = .tuple #[.agg #[.int .i64 (((dimacs_reader_next cap1).1).Line), .int .i64 (((dimacs_reader_next cap1).1).At), .string (bs (((dimacs_reader_next cap1).1).Text))], .bool ((dimacs_reader_next cap1).2.1)] ∧ RS tToken_Token w χ' ra1 (((dimacs_reader_next cap1).2.2).rest) rc1 ∧ Cell w χ' b1 i1 58 [.int .i64 ((((dimacs_reader_next cap1).2.2).fault).at_), .int .i64 ((((dimacs_reader_next cap1).2.2).fault).e), .slice ra1 (((dimacs_reader_next cap1).2.2).rest).length rc1, .int .i64 (((dimacs_reader_next cap1).2.2).end_)])
theorem hb39 : hasBody Tryd.prog 39 = true := by kernel_rfl
def S20 : Prop := ∀ (w : World) (χ : Nat → Nat) (want : List UInt8) (cap1 : Dimacs_reader) (a1 : Option Addr) (c1 : Nat) (b1 : Nat) (i1 : Nat), RS tToken_Token w χ a1 cap1.rest c1 → Cell w χ b1 i1 58 [.int .i64 cap1.fault.at_, .int .i64 cap1.fault.e, .slice a1 cap1.rest.length c1, .int .i64 cap1.end_] → Apart [i1] → Ret Tryd.prog 20 #[.pointer (some ⟨b1, 0, none⟩), .string (bs want)] (pR [i1]) w χ (fun w χ' v => ∃ (ra1 : Option Addr) (rc1 : Nat), v = .tuple #[] ∧ RS tToken_Token w χ' ra1 ((dimacs_reader_word want cap1).rest) rc1 ∧ Cell w χ' b1 i1 58 [.int .i64 (((dimacs_reader_word want cap1).fault).at_), .int .i64 (((dimacs_reader_word want cap1).fault).e), .slice ra1 ((dimacs_reader_word want cap1).rest).length rc1, .int .i64 ((dimacs_reader_word want cap1).end_)])
theorem hb20 : hasBody Tryd.prog 20 = true := by kernel_rfl
def S21 : Prop := ∀ (w : World) (χ : Nat → Nat) (lo : Int) (hi : Int) (cap1 : Dimacs_reader) (a1 : Option Addr) (c1 : Nat) (b1 : Nat) (i1 : Nat), preNb lo hi cap1 → RS tToken_Token w χ a1 cap1.rest c1 → Cell w χ b1 i1 58 [.int .i64 cap1.fault.at_, .int .i64 cap1.fault.e, .slice a1 cap1.rest.length c1, .int .i64 cap1.end_] → Apart [i1] → Ret Tryd.prog 21 #[.pointer (some ⟨b1, 0, none⟩), .int .i64 lo, .int .i64 hi] (pR [i1]) w χ (fun w χ' v => ∃ (ra1 : Option Addr) (rc1 : Nat), v = .tuple #[.int .i64 ((dimacs_reader_number lo hi cap1).1), .agg #[.int .i64 (((dimacs_reader_number lo hi cap1).2.1).Line), .int .i64 (((dimacs_reader_number lo hi cap1).2.1).At), .string (bs (((dimacs_reader_number lo hi cap1).2.1).Text))]] ∧ RS tToken_Token w χ' ra1 (((dimacs_reader_number lo hi cap1).2.2).rest) rc1 ∧ Cell w χ' b1 i1 58 [.int .i64 ((((dimacs_reader_number lo hi cap1).2.2).fault).at_), .int .i64 ((((dimacs_reader_number lo hi cap1).2.2).fault).e), .slice ra1 (((dimacs_reader_number lo hi cap1).2.2).rest).length rc1, .int .i64 (((dimacs_reader_number lo hi cap1).2.2).end_)])
theorem hb21 : hasBody Tryd.prog 21 = true := by kernel_rfl
def S41 : Prop := ∀ (w : World) (χ : Nat → Nat) (l_ : Int) (t_ : Token_Token) (cap1 : List Int) (cap3 : Dimacs_reader) (cap4 : List (Int × Int)) (a1 : Option Addr) (c1 : Nat) (m1 : Nat) (a2 : Option Addr) (c2 : Nat) (r3 : Nat) (m3 : Nat) (b1 : Nat) (i1 : Nat) (b2 : Nat) (i2 : Nat) (b3 : Nat) (i3 : Nat) (b4 : Nat) (i4 : Nat), preCl1 l_ t_ cap1 cap3 cap4 → OS tI 3 w χ m1 a1 cap1 c1 → RS tToken_Token w χ a2 cap3.rest c2 → OM kI tI false w χ m3 r3 cap4 → Cell w χ b1 i1 49 [.slice a1 cap1.length c1] → Cell w χ b2 i2 50 [.pointer (some ⟨b3, 0, none⟩)] → Cell w χ b3 i3 58 [.int .i64 cap3.fault.at_, .int .i64 cap3.fault.e, .slice a2 cap3.rest.length c2, .int .i64 cap3.end_] → Cell w χ b4 i4 83 [.map (some r3)] → Apart [i1, i2, i3, i4, m1, m3] → Ret Tryd.prog 41 #[.int .i64 l_, .agg #[.int .i64 t_.Line, .int .i64 t_.At, .string (bs t_.Text)], .pointer (some ⟨b1, 0, none⟩), .pointer (some ⟨b2, 0, none⟩), .pointer (some ⟨b4, 0, none⟩)] (pR [i1, i2, i3, i4, m1, m3]) w χ (fun w χ' v => ∃ (ra1 : Option Addr) (rc1 : Nat) (ra2 : Option Addr) (rc2 : Nat), v = .tuple #[] ∧ OS tI 3 w χ' m1 ra1 ((dimacs_reader_clause_1 l_ t_ cap1 cap3 cap4).1) rc1 ∧ RS tToken_Token w χ' ra2 (((dimacs_reader_clause_1 l_ t_ cap1 cap3 cap4).2.1).rest) rc2 ∧ Cell w χ' b1 i1 49 [.slice ra1 ((dimacs_reader_clause_1 l_ t_ cap1 cap3 cap4).1).length rc1] ∧ Cell w χ' b2 i2 50 [.pointer (some ⟨b3, 0, none⟩)] ∧ Cell w χ' b3 i3 58 [.int .i64 ((((dimacs_reader_clause_1 l_ t_ cap1 cap3 cap4).2.1).fault).at_), .int .i64 ((((dimacs_reader_clause_1 l_ t_ cap1 cap3 cap4).2.1).fault).e), .slice ra2 (((dimacs_reader_clause_1 l_ t_ cap1 cap3 cap4).2.1).rest).length rc2, .int .i64 (((dimacs_reader_clause_1 l_ t_ cap1 cap3 cap4).2.1).end_)] ∧ Cell w χ' b4 i4 83 [.map (some r3)] ∧ OM kI tI false w χ' m3 r3 ((dimacs_reader_clause_1 l_ t_ cap1 cap3 cap4).2.2))
theorem hb41 : hasBody Tryd.prog 41 = true := by kernel_rfl
def S22 : Prop := ∀ (w : World) (χ : Nat → Nat) (vars : Int) (cap1 : Dimacs_reader) (a1 : Option Addr) (c1 : Nat) (b1 : Nat) (i1 : Nat), preCl vars cap1 → RS tToken_Token w χ a1 cap1.rest c1 → Cell w χ b1 i1 58 [.int .i64 cap1.fault.at_, .int .i64 cap1.fault.e, .slice a1 cap1.rest.length c1, .int .i64 cap1.end_] → Apart [i1] → Ret Tryd.prog 22 #[.pointer (some ⟨b1, 0, none⟩), .int .i64 vars] (pR [i1]) w χ (fun w χ' v => ∃ (ra1 : Option Addr) (rc1 : Nat) (ra2 : Option Addr) (rc2 : Nat), v = .slice ra1 ((dimacs_reader_clause vars cap1).1).length rc1 ∧ RS tI w χ' ra1 ((dimacs_reader_clause vars cap1).1) rc1 ∧ RS tToken_Token w χ' ra2 (((dimacs_reader_clause vars cap1).2).rest) rc2 ∧ Cell w χ' b1 i1 58 [.int .i64 ((((dimacs_reader_clause vars cap1).2).fault).at_), .int .i64 ((((dimacs_reader_clause vars cap1).2).fault).e), .slice ra2 (((dimacs_reader_clause vars cap1).2).rest).length rc2, .int .i64 (((dimacs_reader_clause vars cap1).2).end_)])
theorem hb22 : hasBody Tryd.prog 22 = true := by kernel_rfl
def S54 : Prop := ∀ (w : World) (χ : Nat → Nat) (n_ : Int) (col1 : Nat), preGrow n_ → Ret Tryd.prog 54 #[.slice none 0 0, .int .i64 n_] xnone w χ (fun w χ' v => ∃ (ra1 : Option Addr) (rc1 : Nat), v = .slice ra1 (slices_Grow_token_Token_token_Token n_).length rc1 ∧ OS tToken_Token 44 w χ' col1 ra1 (slices_Grow_token_Token_token_Token n_) rc1)
theorem hb54 : hasBody Tryd.prog 54 = true := by kernel_rfl
def S38 : Prop := ∀ (w : World) (χ : Nat → Nat) (slices : List (List Token_Token)) (a1 : Option Addr) (c1 : Nat), preCat slices → RS (tSlice tToken_Token) w χ a1 slices c1 → Ret Tryd.prog 38 #[.slice a1 slices.length c1] xnone w χ (fun w χ' v => ∃ (ra1 : Option Addr) (rc1 : Nat), v = .slice ra1 (slices_Concat_token_Token_token_Token slices).length rc1 ∧ RS tToken_Token w χ' ra1 (slices_Concat_token_Token_token_Token slices) rc1)
theorem hb38 : hasBody Tryd.prog 38 = true := by kernel_rfl
def S19 : Prop := ∀ (w : World) (χ : Nat → Nat) (s_ : List UInt8) (col1 : Nat), len1 s_ → Ret Tryd.prog 19 #[.string (bs s_)] xnone w χ (fun w χ' v => ∃ (ra1 : Option Addr) (rc1 : Nat) (rb1 : Nat), v = .pointer (some ⟨rb1, 0, none⟩) ∧ RS tToken_Token w χ' ra1 ((dimacs_open s_).rest) rc1 ∧ Cell w χ' rb1 col1 58 [.int .i64 (((dimacs_open s_).fault).at_), .int .i64 (((dimacs_open s_).fault).e), .slice ra1 ((dimacs_open s_).rest).length rc1, .int .i64 ((dimacs_open s_).end_)])
theorem hb19 : hasBody Tryd.prog 19 = true := by kernel_rfl
def S8 : Prop := ∀ (w : World) (χ : Nat → Nat) (s_ : List UInt8), Ret Tryd.prog 8 #[.string (bs s_)] xnone w χ (fun w χ' v => ∃ (ra1 : Option Addr) (rc1 : Nat), v = .tuple #[.agg #[.int .i64 (((dimacs_Parse s_).1).Vars), .slice ra1 (((dimacs_Parse s_).1).Clauses).length rc1], .int .i64 ((dimacs_Parse s_).2.1), .int .i64 ((dimacs_Parse s_).2.2)] ∧ RS (tSlice tI) w χ' ra1 (((dimacs_Parse s_).1).Clauses) rc1)
theorem hb8 : hasBody Tryd.prog 8 = true := by kernel_rfl
def S24 : Prop := ∀ (w : World) (χ : Nat → Nat) (s_ : List UInt8), len1 s_ → Ret Tryd.prog 24 #[.string (bs s_)] xnone w χ (fun w χ' v => ∃ (ra1 : Option Addr) (rc1 : Nat), v = .slice ra1 (ref06_All s_).length rc1 ∧ RS tRef05_Token w χ' ra1 (ref06_All s_) rc1)
theorem hb24 : hasBody Tryd.prog 24 = true := by kernel_rfl
def S9 : Prop := ∀ (w : World) (χ : Nat → Nat) (s_ : List UInt8), Ret Tryd.prog 9 #[.string (bs s_)] xnone w χ (fun w χ' v => ∃ (ra1 : Option Addr) (rc1 : Nat), v = .tuple #[.agg #[.int .i64 (((ref06_Parse s_).1).Vars), .slice ra1 (((ref06_Parse s_).1).Clauses).length rc1], .int .i64 ((ref06_Parse s_).2.1), .int .i64 ((ref06_Parse s_).2.2)] ∧ RS (tSlice tI) w χ' ra1 (((ref06_Parse s_).1).Clauses) rc1)
theorem hb9 : hasBody Tryd.prog 9 = true := by kernel_rfl
def S14 : Prop := ∀ (w : World) (χ : Nat → Nat) (vars : Int) (clauses : Int), preHd vars clauses → Amb w χ → Ret Tryd.prog 14 #[.int .i64 vars, .int .i64 clauses] xnone w χ (fun w χ' v => v = .string (bs (dimacs_Head vars clauses)))
theorem hb14 : hasBody Tryd.prog 14 = true := by kernel_rfl
def S15 : Prop := ∀ (w : World) (χ : Nat → Nat) (vars : Int) (clauses : Int), preHd vars clauses → Ret Tryd.prog 15 #[.int .i64 vars, .int .i64 clauses] xnone w χ (fun w χ' v => v = .string (bs (ref06_Head vars clauses)))
theorem hb15 : hasBody Tryd.prog 15 = true := by kernel_rfl
def S12 : Prop := ∀ (w : World) (χ : Nat → Nat) (f_ : Api_Formula) (a1 : Option Addr) (c1 : Nat), RS (tSlice tI) w χ a1 f_.Clauses c1 → Amb w χ → Ret Tryd.prog 12 #[.agg #[.int .i64 f_.Vars, .slice a1 f_.Clauses.length c1]] xnone w χ (fun w χ' v => v = .tuple #[.string (bs ((dimacs_Print f_).1)), .int .i64 ((dimacs_Print f_).2)])
theorem hb12 : hasBody Tryd.prog 12 = true := by kernel_rfl
def S13 : Prop := ∀ (w : World) (χ : Nat → Nat) (f_ : Api_Formula) (a1 : Option Addr) (c1 : Nat), RS (tSlice tI) w χ a1 f_.Clauses c1 → Ret Tryd.prog 13 #[.agg #[.int .i64 f_.Vars, .slice a1 f_.Clauses.length c1]] xnone w χ (fun w χ' v => v = .tuple #[.string (bs ((ref06_Print f_).1)), .int .i64 ((ref06_Print f_).2)])
theorem hb13 : hasBody Tryd.prog 13 = true := by kernel_rfl
def S7 : Prop := ∀ (w : World) (χ : Nat → Nat), Amb w χ → Ret Tryd.prog 7 #[] xnone w χ (fun w χ' v => v = .bool law06_awake)
theorem hb7 : hasBody Tryd.prog 7 = true := by kernel_rfl
end Go.Proofs.YtancoeikfkebfaaDoor
