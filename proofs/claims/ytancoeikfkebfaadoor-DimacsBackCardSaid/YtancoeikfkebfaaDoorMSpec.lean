/- The specification functions of the token laws, in plain Lean: what each Go function of the layer answers. -/
import Derived.Test.YtancoeikfkebfaaDoorMTypes
import Derived.Lib.Strings
import Derived.Lib.Bytealg
import Derived.Lib.ItoaNum
set_option linter.all false
namespace Go.Proofs.YtancoeikfkebfaaDoor
open Go Go.Sv
abbrev Bs := List UInt8
def ref05_gap (b : Int) : Bool := b == 32 || (b == 9 || b == 13)
def gapB (b : UInt8) : Bool := ref05_gap (b.toNat : Int)
def inB (b : UInt8) : Bool := !gapB b && b.toNat != 10
/-- the words of a line, byte by byte: what is left, the place of what is left, the word that has begun -/
def wgo : Bs → Int → Bs → List (Int × Bs)
  | [], i, cur => if cur.isEmpty then [] else [(i - cur.length, cur)]
  | b :: r, i, cur => if gapB b then (if cur.isEmpty then wgo r (i + 1) [] else (i - cur.length, cur) :: wgo r (i + 1) []) else wgo r (i + 1) (cur ++ [b])
def remark (l : Bs) : Bool := l == [99] || Lib.hasPrefix l [99, 32]
def rowOf (l : Bs) (k a : Int) : List Token_Token := if remark l then [] else (wgo l a []).map fun p => ⟨k, p.1, p.2⟩
def linesGo : Nat → Bs → Int → Int → List (List Token_Token)
  | 0, _, _, _ => []
  | f + 1, l, k, a => if l.isEmpty then [] else
      rowOf (l.takeWhile (fun b => b != 10)) k a :: linesGo f (l.drop ((l.takeWhile (fun b => b != 10)).length + 1)) (k + 1) (a + (l.takeWhile (fun b => b != 10)).length + 1)
def toRef (t : Token_Token) : Ref05_Token := ⟨t.Line, t.At, t.Text⟩
def token_tokens (s : Bs) (k a : Int) : List Token_Token := rowOf s k a
def token_Lines (s : Bs) : List (List Token_Token) := linesGo s.length s 1 0
def ref05_Lines (s : Bs) : List (List Ref05_Token) := (token_Lines s).map fun l => l.map toRef
def law05_Of (l : List (List Token_Token)) : List (List Ref05_Token) := l.map fun l => l.map toRef
def ref05_Same (a b : List (List Ref05_Token)) : Bool := decide (a = b)
def token_Word (s : Bs) : Bool := !s.isEmpty && s.all inB
def ref05_Word (s : Bs) : Bool := !s.isEmpty && s.all inB
def joinRow : List Bs → Bs
  | [] => []
  | t :: r => t ++ r.flatMap fun t => 32 :: t
def joinAll (l : List (List Bs)) : Bs := l.flatMap fun r => joinRow r ++ [10]
def token_Join (l : List (List Token_Token)) : Bs := joinAll (l.map fun r => r.map Token_Token.Text)
def ref05_Join (l : List (List Ref05_Token)) : Bs := joinAll (l.map fun r => r.map Ref05_Token.Text)
/-- numerals -/
def digB (b : UInt8) : Bool := 48 ≤ b.toNat && b.toNat ≤ 57
def minusOf (s : Bs) : Bool := Lib.hasPrefix s [45]
def digsOf (s : Bs) : Bs := Lib.trimPrefix s [45]
def numOK (s : Bs) : Bool := !(digsOf s).isEmpty && !((digsOf s).head? == some 48 && (decide (1 < (digsOf s).length) || minusOf s)) && (digsOf s).all digB
def decVal (l : Bs) : Nat := l.foldl (fun n b => 10 * n + (b.toNat - 48)) 0
def sval (s : Bs) : Int := if minusOf s then -(decVal (digsOf s) : Int) else decVal (digsOf s)
def token_numeral (s : Bs) : Bs × Bool × Bool := if numOK s then (digsOf s, minusOf s, true) else ([], false, false)
def numOf (s : Bs) (lo hi : Int) : Int × Int := if numOK s then (if lo ≤ sval s ∧ sval s ≤ hi then (sval s, 0) else (0, 7)) else (0, 5)
def token_Number (s : Bs) (lo hi : Int) : Int × Int := numOf s lo hi
def ref05_Number (s : Bs) (lo hi : Int) : Int × Int := numOf s lo hi
def ref05_Digits (n : Int) : Bs := Lib.itoa n
def token_Digits (n : Int) : Bs := Lib.itoa n
def strconv_Itoa (n : Int) : Bs := Lib.itoa n
/-- the library's -/
def strings_HasPrefix (s p : Bs) : Bool := Lib.hasPrefix s p
def internal_stringslite_HasPrefix (s p : Bs) : Bool := Lib.hasPrefix s p
def internal_stringslite_CutPrefix (s p : Bs) : Bs × Bool := if Lib.hasPrefix s p then (s.drop p.length, true) else (s, false)
def strings_CutPrefix (s p : Bs) : Bs × Bool := internal_stringslite_CutPrefix s p
def strings_IndexByte (s : Bs) (c : Int) : Int := Lib.indexByte s (UInt8.ofNat c.toNat)
def internal_stringslite_IndexByte (s : Bs) (c : Int) : Int := Lib.indexByte s (UInt8.ofNat c.toNat)
def internal_stringslite_Index (s p : Bs) : Int := Lib.indexByte s (p.headD 0)
def internal_stringslite_Cut (s p : Bs) : Bs × Bs × Bool :=
  if 0 ≤ internal_stringslite_Index s p then (s.take (internal_stringslite_Index s p).toNat, s.drop ((internal_stringslite_Index s p).toNat + p.length), true) else (s, [], false)
def strings_Cut (s p : Bs) : Bs × Bs × Bool := internal_stringslite_Cut s p
def law05_awake : Bool := true
def len1 (s : Bs) : Prop := s.length ≤ 1000000
def preOne (s p : Bs) : Prop := p.length = 1 ∧ s.length ≤ 1000000
def preTwo (s p : Bs) : Prop := p.length ≤ 1000000 ∧ s.length ≤ 1000000
def preB (s : Bs) (c : Int) : Prop := s.length ≤ 1000000 ∧ 0 ≤ c ∧ c < 256
def preTok (s : Bs) (k a : Int) : Prop := s.length ≤ 1000000 ∧ 0 ≤ k ∧ k ≤ 10000000 ∧ 0 ≤ a ∧ a ≤ 10000000
def preNum (s : Bs) (lo hi : Int) : Prop := s.length ≤ 1000000 ∧ inR .i64 lo ∧ inR .i64 hi
def preI (n : Int) : Prop := inR .i64 n
def preOf (l : List (List Token_Token)) : Prop := l.length ≤ 10000000 ∧ ∀ r ∈ l, r.length ≤ 10000000
def preJ (l : List (List Token_Token)) : Prop := (token_Join l).length ≤ 10000000
def preRJ (l : List (List Ref05_Token)) : Prop := (ref05_Join l).length ≤ 10000000
/-- the place of the first that keeps to it, or -1 -/
def idxGo (f : Int → Bool) : List Int → Int → Int
  | [], _ => -1
  | l :: r, i => if f l then i else idxGo f r (i + 1)
def idxOf (f : Int → Bool) (c : List Int) : Int := idxGo f c 0
/-! formulas as text -/
def ref01_Has (l : List Int) (n : Int) : Bool := decide (n ∈ l)
def ref01_SameInts (a b : List Int) : Bool := decide (a = b)
def ref01_Split (l : Int) : Int × Bool := if l > 0 ∧ l ≤ 100000 then (l, true) else if l < 0 ∧ l ≥ -100000 then (-l, false) else (0, false)
def varOf (l : Int) : Int := if l > 0 ∧ l ≤ 100000 then l else if l < 0 ∧ l ≥ -100000 then -l else 0
def ref01_Join (v : Int) (b : Bool) : Int := if v < 1 ∨ v > 100000 then 0 else if b then v else -v
def negOf (l : Int) : Int := if varOf l = 0 then 0 else -l
def ref01_Neg (l : Int) : Int := negOf l
def ref01_Index (l : Int) : Int := if varOf l = 0 then -1 else if l > 0 then 2 * l - 2 else -2 * l - 1
def litE (l vars : Int) : Int := if vars < 0 ∨ vars > 100000 then 2 else if l = 0 ∨ l < -vars ∨ l > vars then 10 else 0
def lit_number_in (l vars : Int) : Bool := l != 0 && decide (l ≥ -vars) && decide (l ≤ vars)
def lit_is (l : Int) : Bool := varOf l != 0
def lit_Check (l vars : Int) : Int := litE l vars
def ref01_Check (l vars : Int) : Int := litE l vars
def lit_Var (l : Int) : Int := varOf l
def litsE (vars : Int) : List Int → Int
  | [] => 0
  | l :: r => if litE l vars ≠ 0 then litE l vars else litsE vars r
def clauseE (c : List Int) (vars : Int) : Int :=
  if vars < 0 ∨ vars > 100000 then 2 else if c.length > 1000 then 3 else if litsE vars c ≠ 0 then litsE vars c else if c.Nodup then 0 else 21
/-- how often each literal stands in a clause -/
def seenGo : List Int → List (Int × Int) → List (Int × Int)
  | [], m => m
  | l :: r, m => seenGo r (if varOf l > 0 then mput m l ((mget m l).getD 0 + 1) else m)
def clause_seen (c : List Int) : List (Int × Int) := seenGo c []
def clause_Check (c : List Int) (vars : Int) : Int := clauseE c vars
def ref02_Check (c : List Int) (vars : Int) : Int := clauseE c vars
def tautOf (c : List Int) : Bool := c.any fun l => varOf l != 0 && c.contains (-l)
def ref02_Has (c : List Int) (l : Int) : Bool := varOf l != 0 && decide (l ∈ c)
def clause_Taut_1 (l : Int) (m : List (Int × Int)) : Bool := decide ((mget m l).getD 0 > 0) && decide ((mget m (-l)).getD 0 > 0)
def slices_IndexFunc_int_int_clause_Taut_1 (c : List Int) (m : List (Int × Int)) : Int := idxOf (fun l => clause_Taut_1 l m) c
def slices_ContainsFunc_int_int_clause_Taut_1 (c : List Int) (m : List (Int × Int)) : Bool := c.any fun l => clause_Taut_1 l m
def clause_Taut (c : List Int) : Bool := tautOf c
def ref02_Taut (c : List Int) : Bool := tautOf c
def cnfGo (vars : Int) : List (List Int) → Int → Int × Int
  | [], i => (i, 0)
  | c :: r, i => if clauseE c vars ≠ 0 then (i, clauseE c vars) else if tautOf c then (i, 11) else cnfGo vars r (i + 1)
def cnfE (f : Api_Formula) : Int × Int := if f.Vars < 0 ∨ f.Vars > 100000 then (0, 2) else if f.Clauses.length > 1000000 then (0, 3) else cnfGo f.Vars f.Clauses 0
def cnf_Check (f : Api_Formula) : Int × Int := cnfE f
def ref04_Check (f : Api_Formula) : Int × Int := cnfE f
def slices_Equal_int_int (a b : List Int) : Bool := decide (a = b)
def cnf_Same_1 (a b : List Int) : Bool := decide (a = b)
def slices_EqualFunc_int_int_int_int_cnf_Same_1 (a b : List (List Int)) : Bool := decide (a = b)
def cnf_Same (a b : Api_Formula) : Bool := decide (a = b)
def ref04_SameRows (a b : List (List Int)) : Bool := decide (a = b)
def ref04_Same (a b : Api_Formula) : Bool := decide (a = b)
def law04_Few (f : Api_Formula) : Bool := decide (f.Clauses.length ≤ 200) && f.Clauses.all fun c => decide (c.length ≤ 50)
abbrev Rd := Dimacs_reader
def tok0 : Token_Token := ⟨0, 0, []⟩
def dimacs_open (s : Bs) : Rd := ⟨⟨0, 0⟩, (token_Lines s).flatten, s.length⟩
def dimacs_reader_wrong (t : Token_Token) (e : Int) (r : Rd) : Rd := if r.fault.e = 0 then ⟨⟨t.At, e⟩, r.rest, r.end_⟩ else r
def dimacs_reader_next (r : Rd) : Token_Token × Bool × Rd :=
  if r.fault.e ≠ 0 then (tok0, false, r) else match r.rest with
    | [] => (tok0, false, ⟨⟨r.end_, 4⟩, [], r.end_⟩)
    | t :: l => (t, true, ⟨r.fault, l, r.end_⟩)
def dimacs_reader_word (w : Bs) (r : Rd) : Rd :=
  if (dimacs_reader_next r).2.1 && !((dimacs_reader_next r).1.Text == w) then dimacs_reader_wrong (dimacs_reader_next r).1 8 (dimacs_reader_next r).2.2 else (dimacs_reader_next r).2.2
def dimacs_reader_number (lo hi : Int) (r : Rd) : Int × Token_Token × Rd :=
  if (dimacs_reader_next r).2.1 then
    ((numOf (dimacs_reader_next r).1.Text lo hi).1, (dimacs_reader_next r).1,
      if (numOf (dimacs_reader_next r).1.Text lo hi).2 ≠ 0 then dimacs_reader_wrong (dimacs_reader_next r).1 (numOf (dimacs_reader_next r).1.Text lo hi).2 (dimacs_reader_next r).2.2 else (dimacs_reader_next r).2.2)
  else (0, (dimacs_reader_next r).1, (dimacs_reader_next r).2.2)
def addE (c : List Int) (l : Int) : Int := if c.length ≥ 1000 then 3 else if l ∈ c then 21 else if -l ∈ c then 11 else 0
def clGo (vars : Int) (fl : Dimacs_fault) (end_ : Int) : List Token_Token → List Int → List Int × Rd
  | [], c => (c, ⟨⟨end_, 4⟩, [], end_⟩)
  | t :: r, c => if (numOf t.Text (-vars) vars).2 ≠ 0 then (c, ⟨⟨t.At, (numOf t.Text (-vars) vars).2⟩, r, end_⟩)
      else if (numOf t.Text (-vars) vars).1 = 0 then (c, ⟨fl, r, end_⟩)
      else if addE c (numOf t.Text (-vars) vars).1 ≠ 0 then (c ++ [(numOf t.Text (-vars) vars).1], ⟨⟨t.At, addE c (numOf t.Text (-vars) vars).1⟩, r, end_⟩)
      else clGo vars fl end_ r (c ++ [(numOf t.Text (-vars) vars).1])
def dimacs_reader_clause (vars : Int) (r : Rd) : List Int × Rd := if r.fault.e ≠ 0 then ([], r) else clGo vars r.fault r.end_ r.rest []
def clsGo (vars : Int) : Nat → Rd → List (List Int) → List (List Int) × Rd
  | 0, r, cl => (cl, r)
  | n + 1, r, cl => if r.fault.e ≠ 0 then (cl, r) else clsGo vars n (dimacs_reader_clause vars r).2 (cl ++ [(dimacs_reader_clause vars r).1])
def f0 : Api_Formula := ⟨0, []⟩
def wP : Bs := [112]
def wCnf : Bs := [99, 110, 102]
def endR (vars len : Int) (q : List (List Int) × Rd) : Api_Formula × Int × Int :=
  if q.2.fault.e ≠ 0 then (f0, q.2.fault.at_, q.2.fault.e) else match q.2.rest with
    | [] => (⟨vars, q.1⟩, len, 0)
    | t :: _ => (f0, t.At, 6)
def headR (s : Bs) : Int × Int × Rd :=
  ((dimacs_reader_number 0 100000 (dimacs_reader_word wCnf (dimacs_reader_word wP (dimacs_open s)))).1,
   (dimacs_reader_number 0 1000000 (dimacs_reader_number 0 100000 (dimacs_reader_word wCnf (dimacs_reader_word wP (dimacs_open s)))).2.2).1,
   (dimacs_reader_number 0 1000000 (dimacs_reader_number 0 100000 (dimacs_reader_word wCnf (dimacs_reader_word wP (dimacs_open s)))).2.2).2.2)
def dimacs_Parse (s : Bs) : Api_Formula × Int × Int :=
  if s.length > 1000000 then (f0, 0, 3) else endR (headR s).1 s.length (clsGo (headR s).1 (headR s).2.1.toNat (headR s).2.2 [])
def ref06_All (s : Bs) : List Ref05_Token := (ref05_Lines s).flatten
def ref06_Parse (s : Bs) : Api_Formula × Int × Int := dimacs_Parse s
def headB (vars clauses : Int) : Bs := [112, 32, 99, 110, 102, 32] ++ Lib.itoa vars ++ [32] ++ Lib.itoa clauses ++ [10]
def dimacs_Head (vars clauses : Int) : Bs := headB vars clauses
def ref06_Head (vars clauses : Int) : Bs := headB vars clauses
def litsB (c : List Int) : Bs := c.flatMap fun l => Lib.itoa l ++ [32]
def clsB (cl : List (List Int)) : Bs := cl.flatMap fun c => litsB c ++ [48, 10]
def dimacs_Print (f : Api_Formula) : Bs × Int :=
  if (cnfE f).2 ≠ 0 then ([], (cnfE f).2) else if (headB f.Vars f.Clauses.length ++ clsB f.Clauses).length > 1000000 ∧ f.Clauses ≠ [] then ([], 3) else (headB f.Vars f.Clauses.length ++ clsB f.Clauses, 0)
def ref06_Print (f : Api_Formula) : Bs × Int :=
  if (cnfE f).2 ≠ 0 then ([], (cnfE f).2) else if (headB f.Vars f.Clauses.length ++ clsB f.Clauses).length > 1000000 then ([], 3) else (headB f.Vars f.Clauses.length ++ clsB f.Clauses, 0)
def law06_awake : Bool := true
def slices_Grow_token_Token_token_Token (n : Int) : List Token_Token := []
def slices_Concat_token_Token_token_Token (l : List (List Token_Token)) : List Token_Token := l.flatten
def dimacs_reader_clause_1 (l : Int) (t : Token_Token) (c : List Int) (r : Rd) (m : List (Int × Int)) : List Int × Rd × List (Int × Int) :=
  (c ++ [l], if addE c l ≠ 0 then dimacs_reader_wrong t (addE c l) r else r, mput m l ((mget m l).getD 0 + 1))
/-- conditions -/
def preGrow (n : Int) : Prop := 0 ≤ n ∧ n ≤ 10000000
def preCat (l : List (List Token_Token)) : Prop := l.length ≤ 10000000 ∧ l.flatten.length ≤ 10000000
def shortT (l : List Token_Token) : Prop := ∀ t ∈ l, t.Text.length ≤ 1000000
def preNb (lo hi : Int) (r : Rd) : Prop := inR .i64 lo ∧ inR .i64 hi ∧ shortT r.rest
def cntM (c : List Int) (m : List (Int × Int)) : Prop := ∀ x : Int, (mget m x).getD 0 = (c.count x : Int)
def preCl1 (l : Int) (t : Token_Token) (c : List Int) (r : Rd) (m : List (Int × Int)) : Prop := -100000 ≤ l ∧ l ≤ 100000 ∧ c.length ≤ 1000 ∧ cntM c m
def preCl (vars : Int) (r : Rd) : Prop := 0 ≤ vars ∧ vars ≤ 100000 ∧ shortT r.rest
def preHd (v n : Int) : Prop := inR .i64 v ∧ inR .i64 n
def preIn (l vars : Int) : Prop := 0 ≤ vars ∧ vars ≤ 100000
def preSeen (c : List Int) : Prop := c.length ≤ 1000000
def preT1 (l : Int) (m : List (Int × Int)) : Prop := -100000 ≤ l ∧ l ≤ 100000
def preTI (c : List Int) (m : List (Int × Int)) : Prop := ∀ l ∈ c, -100000 ≤ l ∧ l ≤ 100000
def preTt (c : List Int) : Prop := c.length ≤ 1000000 ∧ ∀ l ∈ c, -100000 ≤ l ∧ l ≤ 100000
def preRow6 (s : Bs) : Prop := True
end Go.Proofs.YtancoeikfkebfaaDoor
