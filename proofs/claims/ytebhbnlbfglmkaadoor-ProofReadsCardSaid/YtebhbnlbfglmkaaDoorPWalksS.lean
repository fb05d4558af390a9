/- Walks: each function returns what its condition asks. Condition: the contracts of its callees, handed in. -/
import Derived.Test.YtebhbnlbfglmkaaDoorPVC
import Derived.Test.YtebhbnlbfglmkaaDoorPReps
import Derived.Test.YtebhbnlbfglmkaaDoorKA
set_option linter.all false
namespace Go.Proofs.YtebhbnlbfglmkaaDoor
open Go Go.Sv
def S53 : Prop := ∀ (w : World) (χ : Nat → Nat) (s_ : List UInt8) (c_ : Int), Ret Tryd.prog 53 #[.string (bs s_), .int .u8 c_] xnone w χ (fun w χ' v => v = .int .i64 (strings_IndexByte s_ c_))
theorem hb53 : hasBody Tryd.prog 53 = true := by kernel_rfl
def S63 : Prop := ∀ (w : World) (χ : Nat → Nat) (s_ : List UInt8) (substr : List UInt8), preOne s_ substr → Ret Tryd.prog 63 #[.string (bs s_), .string (bs substr)] xnone w χ (fun w χ' v => v = .int .i64 (internal_stringslite_Index s_ substr))
theorem hb63 : hasBody Tryd.prog 63 = true := by kernel_rfl
def S62 : Prop := ∀ (w : World) (χ : Nat → Nat) (i_ : Int), preI i_ → Amb w χ → Ret Tryd.prog 62 #[.int .i64 i_] xnone w χ (fun w χ' v => v = .string (bs (strconv_Itoa i_)))
theorem hb62 : hasBody Tryd.prog 62 = true := by kernel_rfl
def S41 : Prop := ∀ (w : World) (χ : Nat → Nat) (b_ : Int), Ret Tryd.prog 41 #[.int .u8 b_] xnone w χ (fun w χ' v => v = .bool (ref05_gap b_))
theorem hb41 : hasBody Tryd.prog 41 = true := by kernel_rfl
def S64 : Prop := ∀ (w : World) (χ : Nat → Nat) (s_ : List UInt8) (prefix_ : List UInt8), preTwo s_ prefix_ → Ret Tryd.prog 64 #[.string (bs s_), .string (bs prefix_)] xnone w χ (fun w χ' v => v = .bool (internal_stringslite_HasPrefix s_ prefix_))
theorem hb64 : hasBody Tryd.prog 64 = true := by kernel_rfl
def S52 : Prop := ∀ (w : World) (χ : Nat → Nat) (s_ : List UInt8) (prefix_ : List UInt8), preTwo s_ prefix_ → Ret Tryd.prog 52 #[.string (bs s_), .string (bs prefix_)] xnone w χ (fun w χ' v => v = .bool (strings_HasPrefix s_ prefix_))
theorem hb52 : hasBody Tryd.prog 52 = true := by kernel_rfl
def S80 : Prop := ∀ (w : World) (χ : Nat → Nat) (s_ : List UInt8) (prefix_ : List UInt8), preTwo s_ prefix_ → Ret Tryd.prog 80 #[.string (bs s_), .string (bs prefix_)] xnone w χ (fun w χ' v => v = .tuple #[.string (bs ((internal_stringslite_CutPrefix s_ prefix_).1)), .bool ((internal_stringslite_CutPrefix s_ prefix_).2)])
theorem hb80 : hasBody Tryd.prog 80 = true := by kernel_rfl
def S76 : Prop := ∀ (w : World) (χ : Nat → Nat) (s_ : List UInt8) (prefix_ : List UInt8), preTwo s_ prefix_ → Ret Tryd.prog 76 #[.string (bs s_), .string (bs prefix_)] xnone w χ (fun w χ' v => v = .tuple #[.string (bs ((strings_CutPrefix s_ prefix_).1)), .bool ((strings_CutPrefix s_ prefix_).2)])
theorem hb76 : hasBody Tryd.prog 76 = true := by kernel_rfl
def S51 : Prop := ∀ (w : World) (χ : Nat → Nat) (s_ : List UInt8) (sep : List UInt8), preOne s_ sep → Ret Tryd.prog 51 #[.string (bs s_), .string (bs sep)] xnone w χ (fun w χ' v => v = .tuple #[.string (bs ((internal_stringslite_Cut s_ sep).1)), .string (bs ((internal_stringslite_Cut s_ sep).2.1)), .bool ((internal_stringslite_Cut s_ sep).2.2)])
theorem hb51 : hasBody Tryd.prog 51 = true := by kernel_rfl
def S36 : Prop := ∀ (w : World) (χ : Nat → Nat) (s_ : List UInt8) (sep : List UInt8), preOne s_ sep → Ret Tryd.prog 36 #[.string (bs s_), .string (bs sep)] xnone w χ (fun w χ' v => v = .tuple #[.string (bs ((strings_Cut s_ sep).1)), .string (bs ((strings_Cut s_ sep).2.1)), .bool ((strings_Cut s_ sep).2.2)])
theorem hb36 : hasBody Tryd.prog 36 = true := by kernel_rfl
def S37 : Prop := ∀ (w : World) (χ : Nat → Nat) (s_ : List UInt8) (line : Int) (at_ : Int), preTok s_ line at_ → Ret Tryd.prog 37 #[.string (bs s_), .int .i64 line, .int .i64 at_] xnone w χ (fun w χ' v => ∃ (ra1 : Option Addr) (rc1 : Nat), v = .slice ra1 (token_tokens s_ line at_).length rc1 ∧ RS tToken_Token w χ' ra1 (token_tokens s_ line at_) rc1)
theorem hb37 : hasBody Tryd.prog 37 = true := by kernel_rfl
def S21 : Prop := ∀ (w : World) (χ : Nat → Nat) (s_ : List UInt8), len1 s_ → Ret Tryd.prog 21 #[.string (bs s_)] xnone w χ (fun w χ' v => ∃ (ra1 : Option Addr) (rc1 : Nat), v = .slice ra1 (token_Lines s_).length rc1 ∧ RS (tSlice tToken_Token) w χ' ra1 (token_Lines s_) rc1)
theorem hb21 : hasBody Tryd.prog 21 = true := by kernel_rfl
def S23 : Prop := ∀ (w : World) (χ : Nat → Nat) (s_ : List UInt8), len1 s_ → Ret Tryd.prog 23 #[.string (bs s_)] xnone w χ (fun w χ' v => ∃ (ra1 : Option Addr) (rc1 : Nat), v = .slice ra1 (ref05_Lines s_).length rc1 ∧ RS (tSlice tRef05_Token) w χ' ra1 (ref05_Lines s_) rc1)
theorem hb23 : hasBody Tryd.prog 23 = true := by kernel_rfl
def S66 : Prop := ∀ (w : World) (χ : Nat → Nat) (s_ : List UInt8), len1 s_ → Ret Tryd.prog 66 #[.string (bs s_)] xnone w χ (fun w χ' v => v = .tuple #[.string (bs ((token_numeral s_).1)), .bool ((token_numeral s_).2.1), .bool ((token_numeral s_).2.2)])
theorem hb66 : hasBody Tryd.prog 66 = true := by kernel_rfl
def S54 : Prop := ∀ (w : World) (χ : Nat → Nat) (s_ : List UInt8) (lo : Int) (hi : Int), preNum s_ lo hi → Ret Tryd.prog 54 #[.string (bs s_), .int .i64 lo, .int .i64 hi] xnone w χ (fun w χ' v => v = .tuple #[.int .i64 ((token_Number s_ lo hi).1), .int .i64 ((token_Number s_ lo hi).2)])
theorem hb54 : hasBody Tryd.prog 54 = true := by kernel_rfl
def S31 : Prop := ∀ (w : World) (χ : Nat → Nat) (n_ : Int), preI n_ → Ret Tryd.prog 31 #[.int .i64 n_] xnone w χ (fun w χ' v => v = .string (bs (ref05_Digits n_)))
theorem hb31 : hasBody Tryd.prog 31 = true := by kernel_rfl
def S50 : Prop := ∀ (w : World) (χ : Nat → Nat) (n_ : Int), preI n_ → Amb w χ → Ret Tryd.prog 50 #[.int .i64 n_] xnone w χ (fun w χ' v => v = .string (bs (token_Digits n_)))
theorem hb50 : hasBody Tryd.prog 50 = true := by kernel_rfl
def S42 : Prop := ∀ (w : World) (χ : Nat → Nat) (s_ : List UInt8) (lo : Int) (hi : Int), preNum s_ lo hi → Ret Tryd.prog 42 #[.string (bs s_), .int .i64 lo, .int .i64 hi] xnone w χ (fun w χ' v => v = .tuple #[.int .i64 ((ref05_Number s_ lo hi).1), .int .i64 ((ref05_Number s_ lo hi).2)])
theorem hb42 : hasBody Tryd.prog 42 = true := by kernel_rfl
def S68 : Prop := ∀ (w : World) (χ : Nat → Nat) (n_ : Int) (vars : Int), preIn n_ vars → Ret Tryd.prog 68 #[.int .i64 n_, .int .i64 vars] xnone w χ (fun w χ' v => v = .bool (lit_number_in n_ vars))
theorem hb68 : hasBody Tryd.prog 68 = true := by kernel_rfl
def S77 : Prop := ∀ (w : World) (χ : Nat → Nat) (lit : Int), Ret Tryd.prog 77 #[.int .i64 lit] xnone w χ (fun w χ' v => v = .bool (lit_is lit))
theorem hb77 : hasBody Tryd.prog 77 = true := by kernel_rfl
def S69 : Prop := ∀ (w : World) (χ : Nat → Nat) (lit : Int), Ret Tryd.prog 69 #[.int .i64 lit] xnone w χ (fun w χ' v => v = .int .i64 (lit_Var lit))
theorem hb69 : hasBody Tryd.prog 69 = true := by kernel_rfl
def S57 : Prop := ∀ (w : World) (χ : Nat → Nat) (lit : Int) (vars : Int), Ret Tryd.prog 57 #[.int .i64 lit, .int .i64 vars] xnone w χ (fun w χ' v => v = .int .i64 (lit_Check lit vars))
theorem hb57 : hasBody Tryd.prog 57 = true := by kernel_rfl
def S61 : Prop := ∀ (w : World) (χ : Nat → Nat) (l_ : Int), Ret Tryd.prog 61 #[.int .i64 l_] xnone w χ (fun w χ' v => v = .tuple #[.int .i64 ((ref01_Split l_).1), .bool ((ref01_Split l_).2)])
theorem hb61 : hasBody Tryd.prog 61 = true := by kernel_rfl
def S47 : Prop := ∀ (w : World) (χ : Nat → Nat) (l_ : Int) (vars : Int), Ret Tryd.prog 47 #[.int .i64 l_, .int .i64 vars] xnone w χ (fun w χ' v => v = .int .i64 (ref01_Check l_ vars))
theorem hb47 : hasBody Tryd.prog 47 = true := by kernel_rfl
def S48 : Prop := ∀ (w : World) (χ : Nat → Nat) (l_ : List Int) (n_ : Int) (a1 : Option Addr) (c1 : Nat), RS tI w χ a1 l_ c1 → Ret Tryd.prog 48 #[.slice a1 l_.length c1, .int .i64 n_] xnone w χ (fun w χ' v => v = .bool (ref01_Has l_ n_))
theorem hb48 : hasBody Tryd.prog 48 = true := by kernel_rfl
def S19 : Prop := ∀ (w : World) (χ : Nat → Nat) (a_ : List Int) (b_ : List Int) (a1 : Option Addr) (c1 : Nat) (a2 : Option Addr) (c2 : Nat), RS tI w χ a1 a_ c1 → RS tI w χ a2 b_ c2 → Ret Tryd.prog 19 #[.slice a1 a_.length c1, .slice a2 b_.length c2] xnone w χ (fun w χ' v => v = .bool (ref01_SameInts a_ b_))
theorem hb19 : hasBody Tryd.prog 19 = true := by kernel_rfl
def S28 : Prop := ∀ (w : World) (χ : Nat → Nat) (c_ : List Int) (vars : Int) (a1 : Option Addr) (c1 : Nat), RS tI w χ a1 c_ c1 → Ret Tryd.prog 28 #[.slice a1 c_.length c1, .int .i64 vars] xnone w χ (fun w χ' v => v = .int .i64 (ref02_Check c_ vars))
theorem hb28 : hasBody Tryd.prog 28 = true := by kernel_rfl
def S58 : Prop := ∀ (w : World) (χ : Nat → Nat) (c_ : List Int) (a1 : Option Addr) (c1 : Nat) (col1 : Nat), preSeen c_ → RS tI w χ a1 c_ c1 → Ret Tryd.prog 58 #[.slice a1 c_.length c1] xnone w χ (fun w χ' v => ∃ (rr1 : Nat), v = .map (some rr1) ∧ OM kI tI false w χ' col1 rr1 (clause_seen c_))
theorem hb58 : hasBody Tryd.prog 58 = true := by kernel_rfl
def S45 : Prop := ∀ (w : World) (χ : Nat → Nat) (c_ : List Int) (vars : Int) (a1 : Option Addr) (c1 : Nat), RS tI w χ a1 c_ c1 → Ret Tryd.prog 45 #[.slice a1 c_.length c1, .int .i64 vars] xnone w χ (fun w χ' v => v = .int .i64 (clause_Check c_ vars))
theorem hb45 : hasBody Tryd.prog 45 = true := by kernel_rfl
def S35 : Prop := ∀ (w : World) (χ : Nat → Nat) (s1 : List Int) (s2 : List Int) (a1 : Option Addr) (c1 : Nat) (a2 : Option Addr) (c2 : Nat), RS tI w χ a1 s1 c1 → RS tI w χ a2 s2 c2 → Ret Tryd.prog 35 #[.slice a1 s1.length c1, .slice a2 s2.length c2] xnone w χ (fun w χ' v => v = .bool (slices_Equal_int_int s1 s2))
theorem hb35 : hasBody Tryd.prog 35 = true := by kernel_rfl
def S20 : Prop := ∀ (w : World) (χ : Nat → Nat) (a_ : List (List Int)) (b_ : List (List Int)) (a1 : Option Addr) (c1 : Nat) (a2 : Option Addr) (c2 : Nat), RS (tSlice tI) w χ a1 a_ c1 → RS (tSlice tI) w χ a2 b_ c2 → Ret Tryd.prog 20 #[.slice a1 a_.length c1, .slice a2 b_.length c2] xnone w χ (fun w χ' v => v = .bool (ref04_SameRows a_ b_))
theorem hb20 : hasBody Tryd.prog 20 = true := by kernel_rfl
def S59 : Prop := ∀ (w : World) (χ : Nat → Nat) (n_ : Int) (cap1 : Int) (b1 : Nat) (i1 : Nat), Cell w χ b1 i1 3 [.int .i64 cap1] → Apart [i1] → Ret Tryd.prog 59 #[.int .i64 n_, .pointer (some ⟨b1, 0, none⟩)] (pR [i1]) w χ (fun w χ' v => v = .bool (proof_within_1 n_ cap1) ∧ Cell w χ' b1 i1 3 [.int .i64 cap1])
theorem hb59 : hasBody Tryd.prog 59 = true := by kernel_rfl
def S70_59 : Prop := ∀ (w : World) (χ : Nat → Nat) (s_ : List Int) (cap1 : Int) (a1 : Option Addr) (c1 : Nat) (b1 : Nat) (i1 : Nat), RS tI w χ a1 s_ c1 → Cell w χ b1 i1 3 [.int .i64 cap1] → Apart [i1] → Ret Tryd.prog 70 #[.slice a1 s_.length c1, .func (.func 59) #[] #[.pointer (some ⟨b1, 0, none⟩)]] (pR [i1]) w χ (fun w χ' v => v = .int .i64 (slices_IndexFunc_int_int_proof_within_1 s_ cap1) ∧ Cell w χ' b1 i1 3 [.int .i64 cap1])
theorem hb70 : hasBody Tryd.prog 70 = true := by kernel_rfl
def S60_59 : Prop := ∀ (w : World) (χ : Nat → Nat) (s_ : List Int) (cap1 : Int) (a1 : Option Addr) (c1 : Nat) (b1 : Nat) (i1 : Nat), RS tI w χ a1 s_ c1 → Cell w χ b1 i1 3 [.int .i64 cap1] → Apart [i1] → Ret Tryd.prog 60 #[.slice a1 s_.length c1, .func (.func 59) #[] #[.pointer (some ⟨b1, 0, none⟩)]] (pR [i1]) w χ (fun w χ' v => v = .bool (slices_ContainsFunc_int_int_proof_within_1 s_ cap1) ∧ Cell w χ' b1 i1 3 [.int .i64 cap1])
theorem hb60 : hasBody Tryd.prog 60 = true := by kernel_rfl
def S46 : Prop := ∀ (w : World) (χ : Nat → Nat) (l_ : List Int) (lo : Int) (a1 : Option Addr) (c1 : Nat), RS tI w χ a1 l_ c1 → Ret Tryd.prog 46 #[.slice a1 l_.length c1, .int .i64 lo] xnone w χ (fun w χ' v => v = .bool (proof_within l_ lo))
theorem hb46 : hasBody Tryd.prog 46 = true := by kernel_rfl
def S29 : Prop := ∀ (w : World) (χ : Nat → Nat) (l_ : List Int) (lo : Int) (a1 : Option Addr) (c1 : Nat), RS tI w χ a1 l_ c1 → Ret Tryd.prog 29 #[.slice a1 l_.length c1, .int .i64 lo] xnone w χ (fun w χ' v => v = .bool (ref10_within l_ lo))
theorem hb29 : hasBody Tryd.prog 29 = true := by kernel_rfl
def S27 : Prop := ∀ (w : World) (χ : Nat → Nat) (s_ : Api_Step) (a1 : Option Addr) (c1 : Nat) (a2 : Option Addr) (c2 : Nat), RS tI w χ a1 s_.Lits c1 → RS tI w χ a2 s_.Hints c2 → Ret Tryd.prog 27 #[.agg #[.int .i64 s_.Kind, .int .i64 s_.Id, .slice a1 s_.Lits.length c1, .slice a2 s_.Hints.length c2]] xnone w χ (fun w χ' v => v = .bool (proof_may s_))
theorem hb27 : hasBody Tryd.prog 27 = true := by kernel_rfl
def S26 : Prop := ∀ (w : World) (χ : Nat → Nat) (s_ : Api_Step) (a1 : Option Addr) (c1 : Nat) (a2 : Option Addr) (c2 : Nat), RS tI w χ a1 s_.Lits c1 → RS tI w χ a2 s_.Hints c2 → Ret Tryd.prog 26 #[.agg #[.int .i64 s_.Kind, .int .i64 s_.Id, .slice a1 s_.Lits.length c1, .slice a2 s_.Hints.length c2]] xnone w χ (fun w χ' v => v = .bool (proof_Check_1 s_))
theorem hb26 : hasBody Tryd.prog 26 = true := by kernel_rfl
def S25_26 : Prop := ∀ (w : World) (χ : Nat → Nat) (s_ : List Api_Step) (a1 : Option Addr) (c1 : Nat), RS tApi_Step w χ a1 s_ c1 → Apart [] → Ret Tryd.prog 25 #[.slice a1 s_.length c1, .func (.func 26) #[] #[]] (pR []) w χ (fun w χ' v => v = .int .i64 (slices_IndexFunc_api_Step_api_Step_proof_Check_1 s_))
theorem hb25 : hasBody Tryd.prog 25 = true := by kernel_rfl
def S12 : Prop := ∀ (w : World) (χ : Nat → Nat) (l_ : List Api_Step) (a1 : Option Addr) (c1 : Nat), RS tApi_Step w χ a1 l_ c1 → Ret Tryd.prog 12 #[.slice a1 l_.length c1] xnone w χ (fun w χ' v => v = .tuple #[.int .i64 ((proof_Check l_).1), .int .i64 ((proof_Check l_).2)])
theorem hb12 : hasBody Tryd.prog 12 = true := by kernel_rfl
def S13 : Prop := ∀ (w : World) (χ : Nat → Nat) (l_ : List Api_Step) (a1 : Option Addr) (c1 : Nat), RS tApi_Step w χ a1 l_ c1 → Ret Tryd.prog 13 #[.slice a1 l_.length c1] xnone w χ (fun w χ' v => v = .tuple #[.int .i64 ((ref10_Check l_).1), .int .i64 ((ref10_Check l_).2)])
theorem hb13 : hasBody Tryd.prog 13 = true := by kernel_rfl
def S40 : Prop := ∀ (w : World) (χ : Nat → Nat) (at_ : Int) (e_ : Int) (cap1 : Proof_line) (a1 : Option Addr) (c1 : Nat) (b1 : Nat) (i1 : Nat), RS tToken_Token w χ a1 cap1.rest c1 → Cell w χ b1 i1 58 [.slice a1 cap1.rest.length c1, .int .i64 cap1.at_, .int .i64 cap1.e] → Apart [i1] → Ret Tryd.prog 40 #[.pointer (some ⟨b1, 0, none⟩), .int .i64 at_, .int .i64 e_] (pR [i1]) w χ (fun w χ' v => ∃ (ra1 : Option Addr) (rc1 : Nat), v = .tuple #[] ∧ RS tToken_Token w χ' ra1 ((proof_line_wrong at_ e_ cap1).rest) rc1 ∧ Cell w χ' b1 i1 58 [.slice ra1 ((proof_line_wrong at_ e_ cap1).rest).length rc1, .int .i64 ((proof_line_wrong at_ e_ cap1).at_), .int .i64 ((proof_line_wrong at_ e_ cap1).e)])
theorem hb40 : hasBody Tryd.prog 40 = true := by kernel_rfl
def S38 : Prop := ∀ (w : World) (χ : Nat → Nat) (lo : Int) (hi : Int) (cap1 : Proof_line) (a1 : Option Addr) (c1 : Nat) (b1 : Nat) (i1 : Nat), preNu lo hi cap1 → RS tToken_Token w χ a1 cap1.rest c1 → Cell w χ b1 i1 58 [.slice a1 cap1.rest.length c1, .int .i64 cap1.at_, .int .i64 cap1.e] → Apart [i1] → Ret Tryd.prog 38 #[.pointer (some ⟨b1, 0, none⟩), .int .i64 lo, .int .i64 hi] (pR [i1]) w χ (fun w χ' v => ∃ (ra1 : Option Addr) (rc1 : Nat), v = .tuple #[.int .i64 ((proof_line_number lo hi cap1).1), .int .i64 ((proof_line_number lo hi cap1).2.1), .bool ((proof_line_number lo hi cap1).2.2.1)] ∧ RS tToken_Token w χ' ra1 (((proof_line_number lo hi cap1).2.2.2).rest) rc1 ∧ Cell w χ' b1 i1 58 [.slice ra1 (((proof_line_number lo hi cap1).2.2.2).rest).length rc1, .int .i64 (((proof_line_number lo hi cap1).2.2.2).at_), .int .i64 (((proof_line_number lo hi cap1).2.2.2).e)])
theorem hb38 : hasBody Tryd.prog 38 = true := by kernel_rfl
def S67 : Prop := ∀ (w : World) (χ : Nat → Nat) (s_ : List Int) (v_ : Int) (a1 : Option Addr) (c1 : Nat), RS tI w χ a1 s_ c1 → Ret Tryd.prog 67 #[.slice a1 s_.length c1, .int .i64 v_] xnone w χ (fun w χ' v => v = .int .i64 (slices_Index_int_int s_ v_))
theorem hb67 : hasBody Tryd.prog 67 = true := by kernel_rfl
def S56 : Prop := ∀ (w : World) (χ : Nat → Nat) (s_ : List Int) (v_ : Int) (a1 : Option Addr) (c1 : Nat), RS tI w χ a1 s_ c1 → Ret Tryd.prog 56 #[.slice a1 s_.length c1, .int .i64 v_] xnone w χ (fun w χ' v => v = .bool (slices_Contains_int_int s_ v_))
theorem hb56 : hasBody Tryd.prog 56 = true := by kernel_rfl
def S55 : Prop := ∀ (w : World) (χ : Nat → Nat) (n_ : Int) (at_ : Int) (cap1 : List Int) (cap3 : Proof_line) (cap4 : Bool) (a1 : Option Addr) (c1 : Nat) (m1 : Nat) (a2 : Option Addr) (c2 : Nat) (b1 : Nat) (i1 : Nat) (b2 : Nat) (i2 : Nat) (b3 : Nat) (i3 : Nat) (b4 : Nat) (i4 : Nat), preRw1 n_ at_ cap1 cap3 cap4 → OS tI 3 w χ m1 a1 cap1 c1 → RS tToken_Token w χ a2 cap3.rest c2 → Cell w χ b1 i1 31 [.slice a1 cap1.length c1] → Cell w χ b2 i2 56 [.pointer (some ⟨b3, 0, none⟩)] → Cell w χ b3 i3 58 [.slice a2 cap3.rest.length c2, .int .i64 cap3.at_, .int .i64 cap3.e] → Cell w χ b4 i4 4 [.bool cap4] → Apart [i1, i2, i3, i4, m1] → Ret Tryd.prog 55 #[.int .i64 n_, .int .i64 at_, .pointer (some ⟨b1, 0, none⟩), .pointer (some ⟨b2, 0, none⟩), .pointer (some ⟨b4, 0, none⟩)] (pR [i1, i2, i3, i4, m1]) w χ (fun w χ' v => ∃ (ra1 : Option Addr) (rc1 : Nat) (ra2 : Option Addr) (rc2 : Nat), v = .tuple #[] ∧ OS tI 3 w χ' m1 ra1 ((proof_line_row_1 n_ at_ cap1 cap3 cap4).1) rc1 ∧ RS tToken_Token w χ' ra2 (((proof_line_row_1 n_ at_ cap1 cap3 cap4).2).rest) rc2 ∧ Cell w χ' b1 i1 31 [.slice ra1 ((proof_line_row_1 n_ at_ cap1 cap3 cap4).1).length rc1] ∧ Cell w χ' b2 i2 56 [.pointer (some ⟨b3, 0, none⟩)] ∧ Cell w χ' b3 i3 58 [.slice ra2 (((proof_line_row_1 n_ at_ cap1 cap3 cap4).2).rest).length rc2, .int .i64 (((proof_line_row_1 n_ at_ cap1 cap3 cap4).2).at_), .int .i64 (((proof_line_row_1 n_ at_ cap1 cap3 cap4).2).e)] ∧ Cell w χ' b4 i4 4 [.bool cap4])
theorem hb55 : hasBody Tryd.prog 55 = true := by kernel_rfl
def S39 : Prop := ∀ (w : World) (χ : Nat → Nat) (lo : Int) (hi : Int) (twice : Bool) (cap1 : Proof_line) (a1 : Option Addr) (c1 : Nat) (b1 : Nat) (i1 : Nat), preRow lo hi twice cap1 → RS tToken_Token w χ a1 cap1.rest c1 → Cell w χ b1 i1 58 [.slice a1 cap1.rest.length c1, .int .i64 cap1.at_, .int .i64 cap1.e] → Apart [i1] → Ret Tryd.prog 39 #[.pointer (some ⟨b1, 0, none⟩), .int .i64 lo, .int .i64 hi, .bool twice] (pR [i1]) w χ (fun w χ' v => ∃ (ra1 : Option Addr) (rc1 : Nat) (ra2 : Option Addr) (rc2 : Nat), v = .slice ra1 ((proof_line_row lo hi twice cap1).1).length rc1 ∧ RS tI w χ' ra1 ((proof_line_row lo hi twice cap1).1) rc1 ∧ RS tToken_Token w χ' ra2 (((proof_line_row lo hi twice cap1).2).rest) rc2 ∧ Cell w χ' b1 i1 58 [.slice ra2 (((proof_line_row lo hi twice cap1).2).rest).length rc2, .int .i64 (((proof_line_row lo hi twice cap1).2).at_), .int .i64 (((proof_line_row lo hi twice cap1).2).e)])
theorem hb39 : hasBody Tryd.prog 39 = true := by kernel_rfl
def S22 : Prop := ∀ (w : World) (χ : Nat → Nat) (cap1 : Proof_line) (a1 : Option Addr) (c1 : Nat) (b1 : Nat) (i1 : Nat), preStep cap1 → RS tToken_Token w χ a1 cap1.rest c1 → Cell w χ b1 i1 58 [.slice a1 cap1.rest.length c1, .int .i64 cap1.at_, .int .i64 cap1.e] → Apart [i1] → Ret Tryd.prog 22 #[.pointer (some ⟨b1, 0, none⟩)] (pR [i1]) w χ (fun w χ' v => ∃ (ra1 : Option Addr) (rc1 : Nat) (ra2 : Option Addr) (rc2 : Nat) (ra3 : Option Addr) (rc3 : Nat), v = .agg #[.int .i64 (((proof_line_step cap1).1).Kind), .int .i64 (((proof_line_step cap1).1).Id), .slice ra1 (((proof_line_step cap1).1).Lits).length rc1, .slice ra2 (((proof_line_step cap1).1).Hints).length rc2] ∧ RS tI w χ' ra1 (((proof_line_step cap1).1).Lits) rc1 ∧ RS tI w χ' ra2 (((proof_line_step cap1).1).Hints) rc2 ∧ RS tToken_Token w χ' ra3 (((proof_line_step cap1).2).rest) rc3 ∧ Cell w χ' b1 i1 58 [.slice ra3 (((proof_line_step cap1).2).rest).length rc3, .int .i64 (((proof_line_step cap1).2).at_), .int .i64 (((proof_line_step cap1).2).e)])
theorem hb22 : hasBody Tryd.prog 22 = true := by kernel_rfl
def S8 : Prop := ∀ (w : World) (χ : Nat → Nat) (s_ : List UInt8), Ret Tryd.prog 8 #[.string (bs s_)] xnone w χ (fun w χ' v => ∃ (ra1 : Option Addr) (rc1 : Nat), v = .tuple #[.slice ra1 ((proof_Parse s_).1).length rc1, .int .i64 ((proof_Parse s_).2.1), .int .i64 ((proof_Parse s_).2.2)] ∧ RS tApi_Step w χ' ra1 ((proof_Parse s_).1) rc1)
theorem hb8 : hasBody Tryd.prog 8 = true := by kernel_rfl
def S44 : Prop := ∀ (w : World) (χ : Nat → Nat) (t_ : Ref05_Token), preBh t_ → Ret Tryd.prog 44 #[.agg #[.int .i64 t_.Line, .int .i64 t_.At, .string (bs t_.Text)]] xnone w χ (fun w χ' v => v = .int .i64 (ref10_behind t_))
theorem hb44 : hasBody Tryd.prog 44 = true := by kernel_rfl
def S43 : Prop := ∀ (w : World) (χ : Nat → Nat) (t_ : List Ref05_Token) (k_ : Int) (end_ : Int) (lo : Int) (hi : Int) (twice : Bool) (a1 : Option Addr) (c1 : Nat), preRr t_ k_ end_ lo hi twice → RS tRef05_Token w χ a1 t_ c1 → Ret Tryd.prog 43 #[.slice a1 t_.length c1, .int .i64 k_, .int .i64 end_, .int .i64 lo, .int .i64 hi, .bool twice] xnone w χ (fun w χ' v => ∃ (ra1 : Option Addr) (rc1 : Nat), v = .agg #[.slice ra1 ((ref10_row t_ k_ end_ lo hi twice).L).length rc1, .int .i64 ((ref10_row t_ k_ end_ lo hi twice).Taken), .int .i64 ((ref10_row t_ k_ end_ lo hi twice).At), .int .i64 ((ref10_row t_ k_ end_ lo hi twice).E)] ∧ RS tI w χ' ra1 ((ref10_row t_ k_ end_ lo hi twice).L) rc1)
theorem hb43 : hasBody Tryd.prog 43 = true := by kernel_rfl
def S24 : Prop := ∀ (w : World) (χ : Nat → Nat) (t_ : List Ref05_Token) (a1 : Option Addr) (c1 : Nat), preRs t_ → RS tRef05_Token w χ a1 t_ c1 → Ret Tryd.prog 24 #[.slice a1 t_.length c1] xnone w χ (fun w χ' v => ∃ (ra1 : Option Addr) (rc1 : Nat) (ra2 : Option Addr) (rc2 : Nat), v = .tuple #[.agg #[.int .i64 (((ref10_step t_).1).Kind), .int .i64 (((ref10_step t_).1).Id), .slice ra1 (((ref10_step t_).1).Lits).length rc1, .slice ra2 (((ref10_step t_).1).Hints).length rc2], .int .i64 ((ref10_step t_).2.1), .int .i64 ((ref10_step t_).2.2)] ∧ RS tI w χ' ra1 (((ref10_step t_).1).Lits) rc1 ∧ RS tI w χ' ra2 (((ref10_step t_).1).Hints) rc2)
theorem hb24 : hasBody Tryd.prog 24 = true := by kernel_rfl
def S9 : Prop := ∀ (w : World) (χ : Nat → Nat) (s_ : List UInt8), Ret Tryd.prog 9 #[.string (bs s_)] xnone w χ (fun w χ' v => ∃ (ra1 : Option Addr) (rc1 : Nat), v = .tuple #[.slice ra1 ((ref10_Parse s_).1).length rc1, .int .i64 ((ref10_Parse s_).2.1), .int .i64 ((ref10_Parse s_).2.2)] ∧ RS tApi_Step w χ' ra1 ((ref10_Parse s_).1) rc1)
theorem hb9 : hasBody Tryd.prog 9 = true := by kernel_rfl
def S49 : Prop := ∀ (w : World) (χ : Nat → Nat) (p_ : Api_Step) (out : List Int) (l_ : List Int) (a1 : Option Addr) (c1 : Nat) (a2 : Option Addr) (c2 : Nat) (a3 : Option Addr) (c3 : Nat) (m3 : Nat) (a4 : Option Addr) (c4 : Nat), preNums p_ out l_ → RS tI w χ a1 p_.Lits c1 → RS tI w χ a2 p_.Hints c2 → OS (tInt .u8 1) 5 w χ m3 a3 out c3 → RS tI w χ a4 l_ c4 → Apart [m3] → Amb w χ → Ret Tryd.prog 49 #[.agg #[.int .i64 p_.Kind, .int .i64 p_.Id, .slice a1 p_.Lits.length c1, .slice a2 p_.Hints.length c2], .slice a3 out.length c3, .slice a4 l_.length c4] (pR [m3]) w χ (fun w χ' v => ∃ (ra1 : Option Addr) (rc1 : Nat), v = .slice ra1 (proof_printed_numbers p_ out l_).length rc1 ∧ OS (tInt .u8 1) 5 w χ' m3 ra1 (proof_printed_numbers p_ out l_) rc1)
theorem hb49 : hasBody Tryd.prog 49 = true := by kernel_rfl
def S30 : Prop := ∀ (w : World) (χ : Nat → Nat) (p_ : Api_Step) (out : List Int) (a1 : Option Addr) (c1 : Nat) (a2 : Option Addr) (c2 : Nat) (a3 : Option Addr) (c3 : Nat) (m3 : Nat), preLine p_ out → RS tI w χ a1 p_.Lits c1 → RS tI w χ a2 p_.Hints c2 → OS (tInt .u8 1) 5 w χ m3 a3 out c3 → Apart [m3] → Amb w χ → Ret Tryd.prog 30 #[.agg #[.int .i64 p_.Kind, .int .i64 p_.Id, .slice a1 p_.Lits.length c1, .slice a2 p_.Hints.length c2], .slice a3 out.length c3] (pR [m3]) w χ (fun w χ' v => ∃ (ra1 : Option Addr) (rc1 : Nat), v = .slice ra1 (proof_printed_line p_ out).length rc1 ∧ OS (tInt .u8 1) 5 w χ' m3 ra1 (proof_printed_line p_ out) rc1)
theorem hb30 : hasBody Tryd.prog 30 = true := by kernel_rfl
def S14 : Prop := ∀ (w : World) (χ : Nat → Nat) (l_ : List Api_Step) (a1 : Option Addr) (c1 : Nat), RS tApi_Step w χ a1 l_ c1 → Amb w χ → Ret Tryd.prog 14 #[.slice a1 l_.length c1] xnone w χ (fun w χ' v => v = .tuple #[.string (bs ((proof_Print l_).1)), .int .i64 ((proof_Print l_).2)])
theorem hb14 : hasBody Tryd.prog 14 = true := by kernel_rfl
def S32 : Prop := ∀ (w : World) (χ : Nat → Nat) (l_ : List Int) (a1 : Option Addr) (c1 : Nat), preRn l_ → RS tI w χ a1 l_ c1 → Ret Tryd.prog 32 #[.slice a1 l_.length c1] xnone w χ (fun w χ' v => v = .string (bs (ref10_numbers l_)))
theorem hb32 : hasBody Tryd.prog 32 = true := by kernel_rfl
def S15 : Prop := ∀ (w : World) (χ : Nat → Nat) (l_ : List Api_Step) (a1 : Option Addr) (c1 : Nat), RS tApi_Step w χ a1 l_ c1 → Ret Tryd.prog 15 #[.slice a1 l_.length c1] xnone w χ (fun w χ' v => v = .tuple #[.string (bs ((ref10_Print l_).1)), .int .i64 ((ref10_Print l_).2)])
theorem hb15 : hasBody Tryd.prog 15 = true := by kernel_rfl
def S34 : Prop := ∀ (w : World) (χ : Nat → Nat) (x_ : Api_Step) (y_ : Api_Step) (a1 : Option Addr) (c1 : Nat) (a2 : Option Addr) (c2 : Nat) (a3 : Option Addr) (c3 : Nat) (a4 : Option Addr) (c4 : Nat), RS tI w χ a1 x_.Lits c1 → RS tI w χ a2 x_.Hints c2 → RS tI w χ a3 y_.Lits c3 → RS tI w χ a4 y_.Hints c4 → Ret Tryd.prog 34 #[.agg #[.int .i64 x_.Kind, .int .i64 x_.Id, .slice a1 x_.Lits.length c1, .slice a2 x_.Hints.length c2], .agg #[.int .i64 y_.Kind, .int .i64 y_.Id, .slice a3 y_.Lits.length c3, .slice a4 y_.Hints.length c4]] xnone w χ (fun w χ' v => v = .bool (proof_Same_1 x_ y_))
theorem hb34 : hasBody Tryd.prog 34 = true := by kernel_rfl
def S33_34 : Prop := ∀ (w : World) (χ : Nat → Nat) (s1 : List Api_Step) (s2 : List Api_Step) (a1 : Option Addr) (c1 : Nat) (a2 : Option Addr) (c2 : Nat), RS tApi_Step w χ a1 s1 c1 → RS tApi_Step w χ a2 s2 c2 → Apart [] → Ret Tryd.prog 33 #[.slice a1 s1.length c1, .slice a2 s2.length c2, .func (.func 34) #[] #[]] (pR []) w χ (fun w χ' v => v = .bool (slices_EqualFunc_api_Step_api_Step_api_Step_api_Step_proof_Same_1 s1 s2))
theorem hb33 : hasBody Tryd.prog 33 = true := by kernel_rfl
def S18 : Prop := ∀ (w : World) (χ : Nat → Nat) (a_ : List Api_Step) (b_ : List Api_Step) (a1 : Option Addr) (c1 : Nat) (a2 : Option Addr) (c2 : Nat), RS tApi_Step w χ a1 a_ c1 → RS tApi_Step w χ a2 b_ c2 → Ret Tryd.prog 18 #[.slice a1 a_.length c1, .slice a2 b_.length c2] xnone w χ (fun w χ' v => v = .bool (proof_Same a_ b_))
theorem hb18 : hasBody Tryd.prog 18 = true := by kernel_rfl
def S10 : Prop := ∀ (w : World) (χ : Nat → Nat) (a_ : List Api_Step) (b_ : List Api_Step) (a1 : Option Addr) (c1 : Nat) (a2 : Option Addr) (c2 : Nat), RS tApi_Step w χ a1 a_ c1 → RS tApi_Step w χ a2 b_ c2 → Ret Tryd.prog 10 #[.slice a1 a_.length c1, .slice a2 b_.length c2] xnone w χ (fun w χ' v => v = .bool (ref10_Same a_ b_))
theorem hb10 : hasBody Tryd.prog 10 = true := by kernel_rfl
def S16 : Prop := ∀ (w : World) (χ : Nat → Nat) (hints : List Int) (a1 : Option Addr) (c1 : Nat), preSp hints → RS tI w χ a1 hints c1 → Ret Tryd.prog 16 #[.slice a1 hints.length c1] xnone w χ (fun w χ' v => ∃ (ra1 : Option Addr) (rc1 : Nat) (ra2 : Option Addr) (rc2 : Nat), v = .tuple #[.slice ra1 ((proof_Split hints).1).length rc1, .slice ra2 ((proof_Split hints).2).length rc2] ∧ RS tI w χ' ra1 ((proof_Split hints).1) rc1 ∧ RS (tSlice tI) w χ' ra2 ((proof_Split hints).2) rc2)
theorem hb16 : hasBody Tryd.prog 16 = true := by kernel_rfl
def S17 : Prop := ∀ (w : World) (χ : Nat → Nat) (h_ : List Int) (a1 : Option Addr) (c1 : Nat), preSp h_ → RS tI w χ a1 h_ c1 → Ret Tryd.prog 17 #[.slice a1 h_.length c1] xnone w χ (fun w χ' v => ∃ (ra1 : Option Addr) (rc1 : Nat) (ra2 : Option Addr) (rc2 : Nat), v = .tuple #[.slice ra1 ((ref10_Split h_).1).length rc1, .slice ra2 ((ref10_Split h_).2).length rc2] ∧ RS tI w χ' ra1 ((ref10_Split h_).1) rc1 ∧ RS (tSlice tI) w χ' ra2 ((ref10_Split h_).2) rc2)
theorem hb17 : hasBody Tryd.prog 17 = true := by kernel_rfl
def S11 : Prop := ∀ (w : World) (χ : Nat → Nat) (l_ : List Api_Step) (a1 : Option Addr) (c1 : Nat), RS tApi_Step w χ a1 l_ c1 → Ret Tryd.prog 11 #[.slice a1 l_.length c1] xnone w χ (fun w χ' v => v = .bool (law10_Few l_))
theorem hb11 : hasBody Tryd.prog 11 = true := by kernel_rfl
def S7 : Prop := ∀ (w : World) (χ : Nat → Nat), Amb w χ → Ret Tryd.prog 7 #[] xnone w χ (fun w χ' v => v = .bool law10_awake)
theorem hb7 : hasBody Tryd.prog 7 = true := by kernel_rfl
end Go.Proofs.YtebhbnlbfglmkaaDoor
