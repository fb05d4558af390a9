/- The specification functions of the token laws, in plain Lean: what each Go function of the layer answers. -/
import Derived.Test.YtebhbnlbfglmkaaDoorPTypes
import Derived.Lib.Strings
import Derived.Lib.Bytealg
import Derived.Lib.ItoaNum
set_option linter.all false
namespace Go.Proofs.YtebhbnlbfglmkaaDoor
open Go Go.Sv
abbrev Bs := List UInt8
def ref05_gap (b : Int) : Bool := b == 32 || (b == 9 || b == 13)
def gapB (b : UInt8) : Bool := ref05_gap (b.toNat : Int)
def inB (b : UInt8) : Bool := !gapB b && b.toNat != 10
/-- the words of a line, byte by byte: what is left, the place of what is left, the word that has begun -/
def wgo : Bs → Int → Bs → List (Int × Bs)
  | [], i, cur => if cur.isEmpty then [] else [(i - cur.length, cur)]
  | b :: r, i, cur => if gapB b then (if cur.isEmpty then wgo r (i + 1) [] else (i - cur.length, cur) :: wgo r (i + 1) []) else wgo r (i + 1) (cur ++ [b])
def remark (l : Bs) : Bool := l == [99] || Lib.hasPrefix l [99, 32]
def rowOf (l : Bs) (k a : Int) : List Token_Token := if remark l then [] else (wgo l a []).map fun p => ⟨k, p.1, p.2⟩
def linesGo : Nat → Bs → Int → Int → List (List Token_Token)
  | 0, _, _, _ => []
  | f + 1, l, k, a => if l.isEmpty then [] else
      rowOf (l.takeWhile (fun b => b != 10)) k a :: linesGo f (l.drop ((l.takeWhile (fun b => b != 10)).length + 1)) (k + 1) (a + (l.takeWhile (fun b => b != 10)).length + 1)
def toRef (t : Token_Token) : Ref05_Token := ⟨t.Line, t.At, t.Text⟩
def token_tokens (s : Bs) (k a : Int) : List Token_Token := rowOf s k a
def token_Lines (s : Bs) : List (List Token_Token) := linesGo s.length s 1 0
def ref05_Lines (s : Bs) : List (List Ref05_Token) := (token_Lines s).map fun l => l.map toRef
def law05_Of (l : List (List Token_Token)) : List (List Ref05_Token) := l.map fun l => l.map toRef
def ref05_Same (a b : List (List Ref05_Token)) : Bool := decide (a = b)
def token_Word (s : Bs) : Bool := !s.isEmpty && s.all inB
def ref05_Word (s : Bs) : Bool := !s.isEmpty && s.all inB
def joinRow : List Bs → Bs
  | [] => []
  | t :: r => t ++ r.flatMap fun t => 32 :: t
def joinAll (l : List (List Bs)) : Bs := l.flatMap fun r => joinRow r ++ [10]
def token_Join (l : List (List Token_Token)) : Bs := joinAll (l.map fun r => r.map Token_Token.Text)
def ref05_Join (l : List (List Ref05_Token)) : Bs := joinAll (l.map fun r => r.map Ref05_Token.Text)
/-- numerals -/
def digB (b : UInt8) : Bool := 48 ≤ b.toNat && b.toNat ≤ 57
def minusOf (s : Bs) : Bool := Lib.hasPrefix s [45]
def digsOf (s : Bs) : Bs := Lib.trimPrefix s [45]
def numOK (s : Bs) : Bool := !(digsOf s).isEmpty && !((digsOf s).head? == some 48 && (decide (1 < (digsOf s).length) || minusOf s)) && (digsOf s).all digB
def decVal (l : Bs) : Nat := l.foldl (fun n b => 10 * n + (b.toNat - 48)) 0
def sval (s : Bs) : Int := if minusOf s then -(decVal (digsOf s) : Int) else decVal (digsOf s)
def token_numeral (s : Bs) : Bs × Bool × Bool := if numOK s then (digsOf s, minusOf s, true) else ([], false, false)
def numOf (s : Bs) (lo hi : Int) : Int × Int := if numOK s then (if lo ≤ sval s ∧ sval s ≤ hi then (sval s, 0) else (0, 7)) else (0, 5)
def token_Number (s : Bs) (lo hi : Int) : Int × Int := numOf s lo hi
def ref05_Number (s : Bs) (lo hi : Int) : Int × Int := numOf s lo hi
def ref05_Digits (n : Int) : Bs := Lib.itoa n
def token_Digits (n : Int) : Bs := Lib.itoa n
def strconv_Itoa (n : Int) : Bs := Lib.itoa n
/-- the library's -/
def strings_HasPrefix (s p : Bs) : Bool := Lib.hasPrefix s p
def internal_stringslite_HasPrefix (s p : Bs) : Bool := Lib.hasPrefix s p
def internal_stringslite_CutPrefix (s p : Bs) : Bs × Bool := if Lib.hasPrefix s p then (s.drop p.length, true) else (s, false)
def strings_CutPrefix (s p : Bs) : Bs × Bool := internal_stringslite_CutPrefix s p
def strings_IndexByte (s : Bs) (c : Int) : Int := Lib.indexByte s (UInt8.ofNat c.toNat)
def internal_stringslite_IndexByte (s : Bs) (c : Int) : Int := Lib.indexByte s (UInt8.ofNat c.toNat)
def internal_stringslite_Index (s p : Bs) : Int := Lib.indexByte s (p.headD 0)
def internal_stringslite_Cut (s p : Bs) : Bs × Bs × Bool :=
  if 0 ≤ internal_stringslite_Index s p then (s.take (internal_stringslite_Index s p).toNat, s.drop ((internal_stringslite_Index s p).toNat + p.length), true) else (s, [], false)
def strings_Cut (s p : Bs) : Bs × Bs × Bool := internal_stringslite_Cut s p
def law05_awake : Bool := true
def len1 (s : Bs) : Prop := s.length ≤ 1000000
def preOne (s p : Bs) : Prop := p.length = 1 ∧ s.length ≤ 1000000
def preTwo (s p : Bs) : Prop := p.length ≤ 1000000 ∧ s.length ≤ 1000000
def preB (s : Bs) (c : Int) : Prop := s.length ≤ 1000000 ∧ 0 ≤ c ∧ c < 256
def preTok (s : Bs) (k a : Int) : Prop := s.length ≤ 1000000 ∧ 0 ≤ k ∧ k ≤ 10000000 ∧ 0 ≤ a ∧ a ≤ 10000000
def preNum (s : Bs) (lo hi : Int) : Prop := s.length ≤ 1000000 ∧ inR .i64 lo ∧ inR .i64 hi
def preI (n : Int) : Prop := inR .i64 n
def preOf (l : List (List Token_Token)) : Prop := l.length ≤ 10000000 ∧ ∀ r ∈ l, r.length ≤ 10000000
def preJ (l : List (List Token_Token)) : Prop := (token_Join l).length ≤ 10000000
def preRJ (l : List (List Ref05_Token)) : Prop := (ref05_Join l).length ≤ 10000000
/-- the place of the first that keeps to it, or -1 -/
def idxGo (f : Int → Bool) : List Int → Int → Int
  | [], _ => -1
  | l :: r, i => if f l then i else idxGo f r (i + 1)
def idxOf (f : Int → Bool) (c : List Int) : Int := idxGo f c 0
def ref01_Has (l : List Int) (n : Int) : Bool := decide (n ∈ l)
def ref01_Split (l : Int) : Int × Bool := if l > 0 ∧ l ≤ 100000 then (l, true) else if l < 0 ∧ l ≥ -100000 then (-l, false) else (0, false)
def varOf (l : Int) : Int := if l > 0 ∧ l ≤ 100000 then l else if l < 0 ∧ l ≥ -100000 then -l else 0
def ref01_Join (v : Int) (b : Bool) : Int := if v < 1 ∨ v > 100000 then 0 else if b then v else -v
def negOf (l : Int) : Int := if varOf l = 0 then 0 else -l
def ref01_Neg (l : Int) : Int := negOf l
def ref01_Index (l : Int) : Int := if varOf l = 0 then -1 else if l > 0 then 2 * l - 2 else -2 * l - 1
def litE (l vars : Int) : Int := if vars < 0 ∨ vars > 100000 then 2 else if l = 0 ∨ l < -vars ∨ l > vars then 10 else 0
def lit_number_in (l vars : Int) : Bool := l != 0 && decide (l ≥ -vars) && decide (l ≤ vars)
def lit_is (l : Int) : Bool := varOf l != 0
def lit_Check (l vars : Int) : Int := litE l vars
def ref01_Check (l vars : Int) : Int := litE l vars
def lit_Var (l : Int) : Int := varOf l
def litsE (vars : Int) : List Int → Int
  | [] => 0
  | l :: r => if litE l vars ≠ 0 then litE l vars else litsE vars r
def clauseE (c : List Int) (vars : Int) : Int :=
  if vars < 0 ∨ vars > 100000 then 2 else if c.length > 1000 then 3 else if litsE vars c ≠ 0 then litsE vars c else if c.Nodup then 0 else 21
/-- how often each literal stands in a clause -/
def seenGo : List Int → List (Int × Int) → List (Int × Int)
  | [], m => m
  | l :: r, m => seenGo r (if varOf l > 0 then mput m l ((mget m l).getD 0 + 1) else m)
def clause_seen (c : List Int) : List (Int × Int) := seenGo c []
def clause_Check (c : List Int) (vars : Int) : Int := clauseE c vars
def ref02_Check (c : List Int) (vars : Int) : Int := clauseE c vars
/-! proofs as text -/
def inH (lo n : Int) : Bool := !(decide (n < lo) || decide (n > 10000000) || n == 0)
def withinB (l : List Int) (lo : Int) : Bool := decide (l.length ≤ 1000) && l.all (inH lo)
def proof_within (l : List Int) (lo : Int) : Bool := withinB l lo
def ref10_within (l : List Int) (lo : Int) : Bool := withinB l lo
def mayS (s : Api_Step) : Bool :=
  if s.Kind = 1 then decide (s.Id ≥ 1) && decide (s.Id ≤ 10000000) && clauseE s.Lits 100000 == 0 && withinB s.Hints (-10000000)
  else if s.Kind = 2 then decide (s.Id ≥ 0) && decide (s.Id ≤ 10000000) && s.Lits.isEmpty && withinB s.Hints 1 else false
def proof_may (s : Api_Step) : Bool := mayS s
def proof_Check_1 (s : Api_Step) : Bool := !mayS s
def badGo : List Api_Step → Int → Int
  | [], _ => -1
  | s :: l, i => if mayS s then badGo l (i + 1) else i
def chkS (l : List Api_Step) : Int × Int := if l.length > 1000000 then (0, 3) else if badGo l 0 ≥ 0 then (badGo l 0, 2) else ((l.length : Int), 0)
def proof_Check (l : List Api_Step) : Int × Int := chkS l
def ref10_Check (l : List Api_Step) : Int × Int := chkS l
abbrev Ln := Proof_line
def proof_line_wrong (at_ e : Int) (r : Ln) : Ln := if r.e = 0 then ⟨r.rest, at_, e⟩ else r
def proof_line_number (lo hi : Int) (r : Ln) : Int × Int × Bool × Ln :=
  if r.e ≠ 0 then (0, 0, false, r) else match r.rest with
    | [] => (0, 0, false, ⟨[], r.at_, 4⟩)
    | t :: T => if (numOf t.Text lo hi).2 ≠ 0 then (0, 0, false, ⟨T, t.At, (numOf t.Text lo hi).2⟩)
        else ((numOf t.Text lo hi).1, t.At, true, ⟨T, t.At + t.Text.length, 0⟩)
def addR (out : List Int) (tw : Bool) (n : Int) : Int := if out.length ≥ 1000 then 3 else if tw && decide (n ∈ out) then 21 else 0
def rowGo (lo hi : Int) (tw : Bool) : List Token_Token → Int → List Int → List Int × Ln
  | [], a, out => (out, ⟨[], a, 4⟩)
  | t :: T, _, out => if (numOf t.Text lo hi).2 ≠ 0 then (out, ⟨T, t.At, (numOf t.Text lo hi).2⟩)
      else if (numOf t.Text lo hi).1 = 0 then (out, ⟨T, t.At + t.Text.length, 0⟩)
      else if addR out tw (numOf t.Text lo hi).1 ≠ 0 then (out ++ [(numOf t.Text lo hi).1], ⟨T, t.At, addR out tw (numOf t.Text lo hi).1⟩)
      else rowGo lo hi tw T (t.At + t.Text.length) (out ++ [(numOf t.Text lo hi).1])
def proof_line_row (lo hi : Int) (tw : Bool) (r : Ln) : List Int × Ln := if r.e ≠ 0 then ([], r) else rowGo lo hi tw r.rest r.at_ []
def wD : Bs := [100]
/-- behind the id -/
def stepB (first : Int) (id : Int) (r : Ln) : Api_Step × Ln :=
  if r.e = 0 ∧ (r.rest.head?.map Token_Token.Text) = some wD then
    (⟨2, id, [], (proof_line_row 0 10000000 false ⟨r.rest.tail, (gi r.rest 0).At + 1, r.e⟩).1⟩, (proof_line_row 0 10000000 false ⟨r.rest.tail, (gi r.rest 0).At + 1, r.e⟩).2)
  else
    (⟨1, id, (proof_line_row (-100000) 100000 true r).1, (proof_line_row (-10000000) 10000000 false (proof_line_row (-100000) 100000 true r).2).1⟩,
      if id = 0 then proof_line_wrong first 7 (proof_line_row (-10000000) 10000000 false (proof_line_row (-100000) 100000 true r).2).2 else (proof_line_row (-10000000) 10000000 false (proof_line_row (-100000) 100000 true r).2).2)
def endS (r : Ln) : Ln := match r.rest with
  | [] => r
  | t :: _ => proof_line_wrong t.At 6 r
def proof_line_step (r : Ln) : Api_Step × Ln :=
  ((stepB (gi r.rest 0).At (proof_line_number 0 10000000 r).1 (proof_line_number 0 10000000 r).2.2.2).1, endS (stepB (gi r.rest 0).At (proof_line_number 0 10000000 r).1 (proof_line_number 0 10000000 r).2.2.2).2)
def stepOf (t : List Token_Token) : Api_Step × Ln := proof_line_step ⟨t, 0, 0⟩
def stepsGo (end_ : Int) : List (List Token_Token) → List Api_Step → List Api_Step × Int × Int
  | [], l => (l, end_, 0)
  | t :: L, l => if t = [] then stepsGo end_ L l else if (l.length : Int) ≥ 1000000 then ([], (gi t 0).At, 3)
      else if (stepOf t).2.e ≠ 0 then ([], (stepOf t).2.at_, (stepOf t).2.e) else stepsGo end_ L (l ++ [(stepOf t).1])
def proof_Parse (s : Bs) : List Api_Step × Int × Int := if s.length > 1000000 then ([], 0, 3) else stepsGo s.length (token_Lines s) []
def ref10_Parse (s : Bs) : List Api_Step × Int × Int := proof_Parse s
def ref10_behind (t : Ref05_Token) : Int := t.At + t.Text.length
/-- the document's row: numbers from token k on -/
def rrGo (lo hi : Int) (tw : Bool) : List Token_Token → Int → Int → List Int → Ref10_Row
  | [], e, _, _ => ⟨[], 0, e, 4⟩
  | t :: T, _, k, out => if (numOf t.Text lo hi).2 ≠ 0 then ⟨[], 0, t.At, (numOf t.Text lo hi).2⟩
      else if (numOf t.Text lo hi).1 = 0 then ⟨out, k + 1, 0, 0⟩
      else if addR out tw (numOf t.Text lo hi).1 ≠ 0 then ⟨[], 0, t.At, addR out tw (numOf t.Text lo hi).1⟩
      else rrGo lo hi tw T (t.At + t.Text.length) (k + 1) (out ++ [(numOf t.Text lo hi).1])
def fromR (t : Ref05_Token) : Token_Token := ⟨t.Line, t.At, t.Text⟩
def ref10_row (t : List Ref05_Token) (k end_ lo hi : Int) (tw : Bool) : Ref10_Row := rrGo lo hi tw ((t.drop k.toNat).map fromR) end_ 0 []
def st0 : Api_Step := ⟨0, 0, [], []⟩
def ref10_step (t : List Ref05_Token) : Api_Step × Int × Int :=
  if (numOf (gi t 0).Text 0 10000000).2 ≠ 0 then (st0, (gi t 0).At, (numOf (gi t 0).Text 0 10000000).2)
  else if t.length > 1 ∧ (gi t 1).Text = wD then
    (if (ref10_row t 2 (ref10_behind (gi t 1)) 0 10000000 false).E ≠ 0 then (⟨2, (numOf (gi t 0).Text 0 10000000).1, [], []⟩, (ref10_row t 2 (ref10_behind (gi t 1)) 0 10000000 false).At, (ref10_row t 2 (ref10_behind (gi t 1)) 0 10000000 false).E)
     else if 2 + (ref10_row t 2 (ref10_behind (gi t 1)) 0 10000000 false).Taken < t.length then
       (⟨2, (numOf (gi t 0).Text 0 10000000).1, [], (ref10_row t 2 (ref10_behind (gi t 1)) 0 10000000 false).L⟩, (gi t (2 + (ref10_row t 2 (ref10_behind (gi t 1)) 0 10000000 false).Taken)).At, 6)
     else (⟨2, (numOf (gi t 0).Text 0 10000000).1, [], (ref10_row t 2 (ref10_behind (gi t 1)) 0 10000000 false).L⟩, 0, 0))
  else addStep t (numOf (gi t 0).Text 0 10000000).1 (ref10_row t 1 (ref10_behind (gi t 0)) (-100000) 100000 true)
where
  addStep (t : List Ref05_Token) (id : Int) (a : Ref10_Row) : Api_Step × Int × Int :=
    if a.E ≠ 0 then (⟨1, id, [], []⟩, a.At, a.E)
    else addStep2 t id a (ref10_row t (1 + a.Taken) (ref10_behind (gi t (1 + a.Taken - 1))) (-10000000) 10000000 false)
  addStep2 (t : List Ref05_Token) (id : Int) (a b : Ref10_Row) : Api_Step × Int × Int :=
    if b.E ≠ 0 then (⟨1, id, [], []⟩, b.At, b.E)
    else if id = 0 then (⟨1, id, a.L, b.L⟩, (gi t 0).At, 7)
    else if 1 + a.Taken + b.Taken < t.length then (⟨1, id, a.L, b.L⟩, (gi t (1 + a.Taken + b.Taken)).At, 6)
    else (⟨1, id, a.L, b.L⟩, 0, 0)
def numsB (l : List Int) : Bs := (l.flatMap fun n => Lib.itoa n ++ [32]) ++ [48]
def stepT (s : Api_Step) : Bs := Lib.itoa s.Id ++ [32] ++ (if s.Kind = 2 then [100, 32] else numsB s.Lits ++ [32]) ++ numsB s.Hints ++ [10]
def proofT (l : List Api_Step) : Bs := l.flatMap stepT
def printP (l : List Api_Step) : Bs × Int := if (chkS l).2 ≠ 0 then ([], (chkS l).2) else if (proofT l).length > 1000000 then ([], 3) else (proofT l, 0)
def proof_Print (l : List Api_Step) : Bs × Int := printP l
def ref10_Print (l : List Api_Step) : Bs × Int := printP l
def ref10_numbers (l : List Int) : Bs := numsB l
def proof_printed_numbers (p : Api_Step) (out l : List Int) : List Int := out ++ toI (numsB l)
def proof_printed_line (p : Api_Step) (out : List Int) : List Int := out ++ toI (stepT p)
def proof_Same (a b : List Api_Step) : Bool := decide (a = b)
def ref10_Same (a b : List Api_Step) : Bool := decide (a = b)
/-- hints: those ahead of the first that is below 0, then rows that begin with one below 0 -/
def splitA (h : List Int) : List Int := h.takeWhile fun n => decide (n ≥ 0)
def splitGo : List Int → List (List Int) → List (List Int)
  | [], g => g
  | n :: r, g => if n < 0 then splitGo r (g ++ [[n]]) else splitGo r (g.dropLast ++ [(g.getLast?.getD []) ++ [n]])
def splitR (h : List Int) : List (List Int) := splitGo (h.dropWhile fun n => decide (n ≥ 0)) []
def proof_Split (h : List Int) : List Int × List (List Int) := (splitA h, splitR h)
def ref10_Split (h : List Int) : List Int × List (List Int) := (splitA h, splitR h)
def law10_Few (l : List Api_Step) : Bool := decide (l.length ≤ 200) && l.all fun s => decide (s.Lits.length ≤ 60) && decide (s.Hints.length ≤ 200)
def law10_awake : Bool := true
def proof_within_1 (n lo : Int) : Bool := !(inH lo n)
def slices_IndexFunc_int_int_proof_within_1 (l : List Int) (lo : Int) : Int := idxOf (fun n => !(inH lo n)) l
def slices_ContainsFunc_int_int_proof_within_1 (l : List Int) (lo : Int) : Bool := l.any (fun n => !(inH lo n))
def slices_IndexFunc_api_Step_api_Step_proof_Check_1 (l : List Api_Step) : Int := badGo l 0
def slices_Index_int_int (l : List Int) (n : Int) : Int := idxOf (fun x => n == x) l
def slices_Contains_int_int (l : List Int) (n : Int) : Bool := decide (n ∈ l)
def proof_Same_1 (x y : Api_Step) : Bool := decide (x = y)
def slices_EqualFunc_api_Step_api_Step_api_Step_api_Step_proof_Same_1 (a b : List Api_Step) : Bool := decide (a = b)
def ref01_SameInts (a b : List Int) : Bool := decide (a = b)
def ref04_SameRows (a b : List (List Int)) : Bool := decide (a = b)
def slices_Equal_int_int (a b : List Int) : Bool := decide (a = b)
/-- conditions -/
def goodT (l : List Token_Token) : Prop := ∀ t ∈ l, 0 ≤ t.At ∧ t.At ≤ 10000000 ∧ t.Text.length ≤ 1000000
def preNu (lo hi : Int) (r : Ln) : Prop := inR .i64 lo ∧ inR .i64 hi ∧ goodT r.rest
def preRow (lo hi : Int) (tw : Bool) (r : Ln) : Prop := inR .i64 lo ∧ inR .i64 hi ∧ goodT r.rest
def preStep (r : Ln) : Prop := goodT r.rest ∧ r.rest ≠ []
def preNums (p : Api_Step) (out l : List Int) : Prop := out.length ≤ 100000000 ∧ l.length ≤ 1000000 ∧ ∀ n ∈ l, inR .i64 n
def preLine (p : Api_Step) (out : List Int) : Prop := out.length ≤ 10000000 ∧ inR .i64 p.Id ∧ p.Lits.length ≤ 1000 ∧ p.Hints.length ≤ 1000 ∧ (∀ n ∈ p.Lits, inR .i64 n) ∧ ∀ n ∈ p.Hints, inR .i64 n
def preRn (l : List Int) : Prop := l.length ≤ 1000000 ∧ ∀ n ∈ l, inR .i64 n
def goodR (l : List Ref05_Token) : Prop := ∀ t ∈ l, 0 ≤ t.At ∧ t.At ≤ 10000000 ∧ t.Text.length ≤ 1000000
def preRr (t : List Ref05_Token) (k end_ lo hi : Int) (tw : Bool) : Prop := 0 ≤ k ∧ k ≤ 100000000 ∧ t.length ≤ 100000000 ∧ inR .i64 lo ∧ inR .i64 hi ∧ goodR t
def preRs (t : List Ref05_Token) : Prop := goodR t ∧ t ≠ [] ∧ t.length ≤ 100000000
def preBh (t : Ref05_Token) : Prop := 0 ≤ t.At ∧ t.At ≤ 10000000 ∧ t.Text.length ≤ 1000000
def preIn (l vars : Int) : Prop := 0 ≤ vars ∧ vars ≤ 100000
def preSeen (c : List Int) : Prop := c.length ≤ 1000000
def preSp (h : List Int) : Prop := h.length ≤ 1000000
def proof_line_row_1 (n at_ : Int) (out : List Int) (r : Ln) (tw : Bool) : List Int × Ln := (out ++ [n], if addR out tw n ≠ 0 then proof_line_wrong at_ (addR out tw n) r else r)
def preRw1 (n at_ : Int) (out : List Int) (r : Ln) (tw : Bool) : Prop := out.length ≤ 1000000
end Go.Proofs.YtebhbnlbfglmkaaDoor
