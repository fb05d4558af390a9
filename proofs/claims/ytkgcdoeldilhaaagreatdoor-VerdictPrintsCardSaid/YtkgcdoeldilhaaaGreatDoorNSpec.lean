/- The specification functions of the token laws, in plain Lean: what each Go function of the layer answers. -/
import Derived.Test.YtkgcdoeldilhaaaGreatDoorNTypes
import Derived.Lib.Strings
import Derived.Lib.Bytealg
import Derived.Lib.ItoaNum
set_option linter.all false
namespace Go.Proofs.YtkgcdoeldilhaaaGreatDoor
open Go Go.Sv
abbrev Bs := List UInt8
def ref05_gap (b : Int) : Bool := b == 32 || (b == 9 || b == 13)
def gapB (b : UInt8) : Bool := ref05_gap (b.toNat : Int)
def inB (b : UInt8) : Bool := !gapB b && b.toNat != 10
def wgo : Bs → Int → Bs → List (Int × Bs)
  | [], i, cur => if cur.isEmpty then [] else [(i - cur.length, cur)]
  | b :: r, i, cur => if gapB b then (if cur.isEmpty then wgo r (i + 1) [] else (i - cur.length, cur) :: wgo r (i + 1) []) else wgo r (i + 1) (cur ++ [b])
def remark (l : Bs) : Bool := l == [99] || Lib.hasPrefix l [99, 32]
def rowOf (l : Bs) (k a : Int) : List Token_Token := if remark l then [] else (wgo l a []).map fun p => ⟨k, p.1, p.2⟩
def linesGo : Nat → Bs → Int → Int → List (List Token_Token)
  | 0, _, _, _ => []
  | f + 1, l, k, a => if l.isEmpty then [] else
      rowOf (l.takeWhile (fun b => b != 10)) k a :: linesGo f (l.drop ((l.takeWhile (fun b => b != 10)).length + 1)) (k + 1) (a + (l.takeWhile (fun b => b != 10)).length + 1)
def token_tokens (s : Bs) (k a : Int) : List Token_Token := rowOf s k a
def token_Lines (s : Bs) : List (List Token_Token) := linesGo s.length s 1 0
def token_Word (s : Bs) : Bool := !s.isEmpty && s.all inB
def joinRow : List Bs → Bs
  | [] => []
  | t :: r => t ++ r.flatMap fun t => 32 :: t
def joinAll (l : List (List Bs)) : Bs := l.flatMap fun r => joinRow r ++ [10]
def digB (b : UInt8) : Bool := 48 ≤ b.toNat && b.toNat ≤ 57
def minusOf (s : Bs) : Bool := Lib.hasPrefix s [45]
def digsOf (s : Bs) : Bs := Lib.trimPrefix s [45]
def numOK (s : Bs) : Bool := !(digsOf s).isEmpty && !((digsOf s).head? == some 48 && (decide (1 < (digsOf s).length) || minusOf s)) && (digsOf s).all digB
def decVal (l : Bs) : Nat := l.foldl (fun n b => 10 * n + (b.toNat - 48)) 0
def sval (s : Bs) : Int := if minusOf s then -(decVal (digsOf s) : Int) else decVal (digsOf s)
def token_numeral (s : Bs) : Bs × Bool × Bool := if numOK s then (digsOf s, minusOf s, true) else ([], false, false)
def numOf (s : Bs) (lo hi : Int) : Int × Int := if numOK s then (if lo ≤ sval s ∧ sval s ≤ hi then (sval s, 0) else (0, 7)) else (0, 5)
def token_Number (s : Bs) (lo hi : Int) : Int × Int := numOf s lo hi
def ref05_Number (s : Bs) (lo hi : Int) : Int × Int := numOf s lo hi
def ref05_Digits (n : Int) : Bs := Lib.itoa n
def token_Digits (n : Int) : Bs := Lib.itoa n
def strconv_Itoa (n : Int) : Bs := Lib.itoa n
def strings_HasPrefix (s p : Bs) : Bool := Lib.hasPrefix s p
def internal_stringslite_HasPrefix (s p : Bs) : Bool := Lib.hasPrefix s p
def internal_stringslite_CutPrefix (s p : Bs) : Bs × Bool := if Lib.hasPrefix s p then (s.drop p.length, true) else (s, false)
def strings_CutPrefix (s p : Bs) : Bs × Bool := internal_stringslite_CutPrefix s p
def strings_IndexByte (s : Bs) (c : Int) : Int := Lib.indexByte s (UInt8.ofNat c.toNat)
def internal_stringslite_Index (s p : Bs) : Int := Lib.indexByte s (p.headD 0)
def internal_stringslite_Cut (s p : Bs) : Bs × Bs × Bool :=
  if 0 ≤ internal_stringslite_Index s p then (s.take (internal_stringslite_Index s p).toNat, s.drop ((internal_stringslite_Index s p).toNat + p.length), true) else (s, [], false)
def strings_Cut (s p : Bs) : Bs × Bs × Bool := internal_stringslite_Cut s p
def len1 (s : Bs) : Prop := s.length ≤ 1000000
def preOne (s p : Bs) : Prop := p.length = 1 ∧ s.length ≤ 1000000
def preTwo (s p : Bs) : Prop := p.length ≤ 1000000 ∧ s.length ≤ 1000000
def preTok (s : Bs) (k a : Int) : Prop := s.length ≤ 1000000 ∧ 0 ≤ k ∧ k ≤ 10000000 ∧ 0 ≤ a ∧ a ≤ 10000000
def preNum (s : Bs) (lo hi : Int) : Prop := s.length ≤ 1000000 ∧ inR .i64 lo ∧ inR .i64 hi
def preI (n : Int) : Prop := inR .i64 n
def idxGo (f : Int → Bool) : List Int → Int → Int
  | [], _ => -1
  | l :: r, i => if f l then i else idxGo f r (i + 1)
def idxOf (f : Int → Bool) (c : List Int) : Int := idxGo f c 0
def ref01_Has (l : List Int) (n : Int) : Bool := decide (n ∈ l)
def ref01_Split (l : Int) : Int × Bool := if l > 0 ∧ l ≤ 100000 then (l, true) else if l < 0 ∧ l ≥ -100000 then (-l, false) else (0, false)
def varOf (l : Int) : Int := if l > 0 ∧ l ≤ 100000 then l else if l < 0 ∧ l ≥ -100000 then -l else 0
def litE (l vars : Int) : Int := if vars < 0 ∨ vars > 100000 then 2 else if l = 0 ∨ l < -vars ∨ l > vars then 10 else 0
def lit_number_in (l vars : Int) : Bool := l != 0 && decide (l ≥ -vars) && decide (l ≤ vars)
def lit_is (l : Int) : Bool := varOf l != 0
def lit_Check (l vars : Int) : Int := litE l vars
def ref01_Check (l vars : Int) : Int := litE l vars
def lit_Var (l : Int) : Int := varOf l
def litsE (vars : Int) : List Int → Int
  | [] => 0
  | l :: r => if litE l vars ≠ 0 then litE l vars else litsE vars r
def clauseE (c : List Int) (vars : Int) : Int :=
  if vars < 0 ∨ vars > 100000 then 2 else if c.length > 1000 then 3 else if litsE vars c ≠ 0 then litsE vars c else if c.Nodup then 0 else 21
def seenGo : List Int → List (Int × Int) → List (Int × Int)
  | [], m => m
  | l :: r, m => seenGo r (if varOf l > 0 then mput m l ((mget m l).getD 0 + 1) else m)
def clause_seen (c : List Int) : List (Int × Int) := seenGo c []
def clause_Check (c : List Int) (vars : Int) : Int := clauseE c vars
def ref02_Check (c : List Int) (vars : Int) : Int := clauseE c vars
def inH (lo n : Int) : Bool := !(decide (n < lo) || decide (n > 10000000) || n == 0)
def withinB (l : List Int) (lo : Int) : Bool := decide (l.length ≤ 1000) && l.all (inH lo)
def proof_within (l : List Int) (lo : Int) : Bool := withinB l lo
def ref10_within (l : List Int) (lo : Int) : Bool := withinB l lo
def mayS (s : Api_Step) : Bool :=
  if s.Kind = 1 then decide (s.Id ≥ 1) && decide (s.Id ≤ 10000000) && clauseE s.Lits 100000 == 0 && withinB s.Hints (-10000000)
  else if s.Kind = 2 then decide (s.Id ≥ 0) && decide (s.Id ≤ 10000000) && s.Lits.isEmpty && withinB s.Hints 1 else false
def proof_may (s : Api_Step) : Bool := mayS s
def proof_Check_1 (s : Api_Step) : Bool := !mayS s
def badGo : List Api_Step → Int → Int
  | [], _ => -1
  | s :: l, i => if mayS s then badGo l (i + 1) else i
def chkS (l : List Api_Step) : Int × Int := if l.length > 1000000 then (0, 3) else if badGo l 0 ≥ 0 then (badGo l 0, 2) else ((l.length : Int), 0)
def proof_Check (l : List Api_Step) : Int × Int := chkS l
def ref10_Check (l : List Api_Step) : Int × Int := chkS l
abbrev Ln := Proof_line
def proof_line_wrong (at_ e : Int) (r : Ln) : Ln := if r.e = 0 then ⟨r.rest, at_, e⟩ else r
def proof_line_number (lo hi : Int) (r : Ln) : Int × Int × Bool × Ln :=
  if r.e ≠ 0 then (0, 0, false, r) else match r.rest with
    | [] => (0, 0, false, ⟨[], r.at_, 4⟩)
    | t :: T => if (numOf t.Text lo hi).2 ≠ 0 then (0, 0, false, ⟨T, t.At, (numOf t.Text lo hi).2⟩)
        else ((numOf t.Text lo hi).1, t.At, true, ⟨T, t.At + t.Text.length, 0⟩)
def addR (out : List Int) (tw : Bool) (n : Int) : Int := if out.length ≥ 1000 then 3 else if tw && decide (n ∈ out) then 21 else 0
def rowGo (lo hi : Int) (tw : Bool) : List Token_Token → Int → List Int → List Int × Ln
  | [], a, out => (out, ⟨[], a, 4⟩)
  | t :: T, _, out => if (numOf t.Text lo hi).2 ≠ 0 then (out, ⟨T, t.At, (numOf t.Text lo hi).2⟩)
      else if (numOf t.Text lo hi).1 = 0 then (out, ⟨T, t.At + t.Text.length, 0⟩)
      else if addR out tw (numOf t.Text lo hi).1 ≠ 0 then (out ++ [(numOf t.Text lo hi).1], ⟨T, t.At, addR out tw (numOf t.Text lo hi).1⟩)
      else rowGo lo hi tw T (t.At + t.Text.length) (out ++ [(numOf t.Text lo hi).1])
def proof_line_row (lo hi : Int) (tw : Bool) (r : Ln) : List Int × Ln := if r.e ≠ 0 then ([], r) else rowGo lo hi tw r.rest r.at_ []
def wD : Bs := [100]
def stepB (first : Int) (id : Int) (r : Ln) : Api_Step × Ln :=
  if r.e = 0 ∧ (r.rest.head?.map Token_Token.Text) = some wD then
    (⟨2, id, [], (proof_line_row 0 10000000 false ⟨r.rest.tail, (gi r.rest 0).At + 1, r.e⟩).1⟩, (proof_line_row 0 10000000 false ⟨r.rest.tail, (gi r.rest 0).At + 1, r.e⟩).2)
  else
    (⟨1, id, (proof_line_row (-100000) 100000 true r).1, (proof_line_row (-10000000) 10000000 false (proof_line_row (-100000) 100000 true r).2).1⟩,
      if id = 0 then proof_line_wrong first 7 (proof_line_row (-10000000) 10000000 false (proof_line_row (-100000) 100000 true r).2).2 else (proof_line_row (-10000000) 10000000 false (proof_line_row (-100000) 100000 true r).2).2)
def endS (r : Ln) : Ln := match r.rest with
  | [] => r
  | t :: _ => proof_line_wrong t.At 6 r
def proof_line_step (r : Ln) : Api_Step × Ln :=
  ((stepB (gi r.rest 0).At (proof_line_number 0 10000000 r).1 (proof_line_number 0 10000000 r).2.2.2).1, endS (stepB (gi r.rest 0).At (proof_line_number 0 10000000 r).1 (proof_line_number 0 10000000 r).2.2.2).2)
def stepOf (t : List Token_Token) : Api_Step × Ln := proof_line_step ⟨t, 0, 0⟩
def stepsGo (end_ : Int) : List (List Token_Token) → List Api_Step → List Api_Step × Int × Int
  | [], l => (l, end_, 0)
  | t :: L, l => if t = [] then stepsGo end_ L l else if (l.length : Int) ≥ 1000000 then ([], (gi t 0).At, 3)
      else if (stepOf t).2.e ≠ 0 then ([], (stepOf t).2.at_, (stepOf t).2.e) else stepsGo end_ L (l ++ [(stepOf t).1])
def proof_Parse (s : Bs) : List Api_Step × Int × Int := if s.length > 1000000 then ([], 0, 3) else stepsGo s.length (token_Lines s) []
def ref10_behind (t : Ref05_Token) : Int := t.At + t.Text.length
def rrGo (lo hi : Int) (tw : Bool) : List Token_Token → Int → Int → List Int → Ref10_Row
  | [], e, _, _ => ⟨[], 0, e, 4⟩
  | t :: T, _, k, out => if (numOf t.Text lo hi).2 ≠ 0 then ⟨[], 0, t.At, (numOf t.Text lo hi).2⟩
      else if (numOf t.Text lo hi).1 = 0 then ⟨out, k + 1, 0, 0⟩
      else if addR out tw (numOf t.Text lo hi).1 ≠ 0 then ⟨[], 0, t.At, addR out tw (numOf t.Text lo hi).1⟩
      else rrGo lo hi tw T (t.At + t.Text.length) (k + 1) (out ++ [(numOf t.Text lo hi).1])
def fromR (t : Ref05_Token) : Token_Token := ⟨t.Line, t.At, t.Text⟩
def ref10_row (t : List Ref05_Token) (k end_ lo hi : Int) (tw : Bool) : Ref10_Row := rrGo lo hi tw ((t.drop k.toNat).map fromR) end_ 0 []
def st0 : Api_Step := ⟨0, 0, [], []⟩
def ref10_step (t : List Ref05_Token) : Api_Step × Int × Int :=
  if (numOf (gi t 0).Text 0 10000000).2 ≠ 0 then (st0, (gi t 0).At, (numOf (gi t 0).Text 0 10000000).2)
  else if t.length > 1 ∧ (gi t 1).Text = wD then
    (if (ref10_row t 2 (ref10_behind (gi t 1)) 0 10000000 false).E ≠ 0 then (⟨2, (numOf (gi t 0).Text 0 10000000).1, [], []⟩, (ref10_row t 2 (ref10_behind (gi t 1)) 0 10000000 false).At, (ref10_row t 2 (ref10_behind (gi t 1)) 0 10000000 false).E)
     else if 2 + (ref10_row t 2 (ref10_behind (gi t 1)) 0 10000000 false).Taken < t.length then
       (⟨2, (numOf (gi t 0).Text 0 10000000).1, [], (ref10_row t 2 (ref10_behind (gi t 1)) 0 10000000 false).L⟩, (gi t (2 + (ref10_row t 2 (ref10_behind (gi t 1)) 0 10000000 false).Taken)).At, 6)
     else (⟨2, (numOf (gi t 0).Text 0 10000000).1, [], (ref10_row t 2 (ref10_behind (gi t 1)) 0 10000000 false).L⟩, 0, 0))
  else addStep t (numOf (gi t 0).Text 0 10000000).1 (ref10_row t 1 (ref10_behind (gi t 0)) (-100000) 100000 true)
where
  addStep (t : List Ref05_Token) (id : Int) (a : Ref10_Row) : Api_Step × Int × Int :=
    if a.E ≠ 0 then (⟨1, id, [], []⟩, a.At, a.E)
    else addStep2 t id a (ref10_row t (1 + a.Taken) (ref10_behind (gi t (1 + a.Taken - 1))) (-10000000) 10000000 false)
  addStep2 (t : List Ref05_Token) (id : Int) (a b : Ref10_Row) : Api_Step × Int × Int :=
    if b.E ≠ 0 then (⟨1, id, [], []⟩, b.At, b.E)
    else if id = 0 then (⟨1, id, a.L, b.L⟩, (gi t 0).At, 7)
    else if 1 + a.Taken + b.Taken < t.length then (⟨1, id, a.L, b.L⟩, (gi t (1 + a.Taken + b.Taken)).At, 6)
    else (⟨1, id, a.L, b.L⟩, 0, 0)
def numsB (l : List Int) : Bs := (l.flatMap fun n => Lib.itoa n ++ [32]) ++ [48]
def stepT (s : Api_Step) : Bs := Lib.itoa s.Id ++ [32] ++ (if s.Kind = 2 then [100, 32] else numsB s.Lits ++ [32]) ++ numsB s.Hints ++ [10]
def proofT (l : List Api_Step) : Bs := l.flatMap stepT
def printP (l : List Api_Step) : Bs × Int := if (chkS l).2 ≠ 0 then ([], (chkS l).2) else if (proofT l).length > 1000000 then ([], 3) else (proofT l, 0)
def proof_Print (l : List Api_Step) : Bs × Int := printP l
def ref10_Print (l : List Api_Step) : Bs × Int := printP l
def ref10_numbers (l : List Int) : Bs := numsB l
def proof_printed_numbers (p : Api_Step) (out l : List Int) : List Int := out ++ toI (numsB l)
def proof_printed_line (p : Api_Step) (out : List Int) : List Int := out ++ toI (stepT p)
def proof_Same (a b : List Api_Step) : Bool := decide (a = b)
def ref10_Same (a b : List Api_Step) : Bool := decide (a = b)
def law10_Few (l : List Api_Step) : Bool := decide (l.length ≤ 200) && l.all fun s => decide (s.Lits.length ≤ 60) && decide (s.Hints.length ≤ 200)
def proof_within_1 (n lo : Int) : Bool := !(inH lo n)
def slices_IndexFunc_int_int_proof_within_1 (l : List Int) (lo : Int) : Int := idxOf (fun n => !(inH lo n)) l
def slices_ContainsFunc_int_int_proof_within_1 (l : List Int) (lo : Int) : Bool := l.any (fun n => !(inH lo n))
def slices_IndexFunc_api_Step_api_Step_proof_Check_1 (l : List Api_Step) : Int := badGo l 0
def slices_Index_int_int (l : List Int) (n : Int) : Int := idxOf (fun x => n == x) l
def slices_Contains_int_int (l : List Int) (n : Int) : Bool := decide (n ∈ l)
def proof_Same_1 (x y : Api_Step) : Bool := decide (x = y)
def slices_EqualFunc_api_Step_api_Step_api_Step_api_Step_proof_Same_1 (a b : List Api_Step) : Bool := decide (a = b)
def ref01_SameInts (a b : List Int) : Bool := decide (a = b)
def slices_Equal_int_int (a b : List Int) : Bool := decide (a = b)
def goodT (l : List Token_Token) : Prop := ∀ t ∈ l, 0 ≤ t.At ∧ t.At ≤ 10000000 ∧ t.Text.length ≤ 1000000
def preNu (lo hi : Int) (r : Ln) : Prop := inR .i64 lo ∧ inR .i64 hi ∧ goodT r.rest
def preRow (lo hi : Int) (tw : Bool) (r : Ln) : Prop := inR .i64 lo ∧ inR .i64 hi ∧ goodT r.rest
def preStep (r : Ln) : Prop := goodT r.rest ∧ r.rest ≠ []
def preNums (p : Api_Step) (out l : List Int) : Prop := out.length ≤ 100000000 ∧ l.length ≤ 1000000 ∧ ∀ n ∈ l, inR .i64 n
def preLine (p : Api_Step) (out : List Int) : Prop := out.length ≤ 10000000 ∧ inR .i64 p.Id ∧ p.Lits.length ≤ 1000 ∧ p.Hints.length ≤ 1000 ∧ (∀ n ∈ p.Lits, inR .i64 n) ∧ ∀ n ∈ p.Hints, inR .i64 n
def preRn (l : List Int) : Prop := l.length ≤ 1000000 ∧ ∀ n ∈ l, inR .i64 n
def goodR (l : List Ref05_Token) : Prop := ∀ t ∈ l, 0 ≤ t.At ∧ t.At ≤ 10000000 ∧ t.Text.length ≤ 1000000
def preRr (t : List Ref05_Token) (k end_ lo hi : Int) (tw : Bool) : Prop := 0 ≤ k ∧ k ≤ 100000000 ∧ t.length ≤ 100000000 ∧ inR .i64 lo ∧ inR .i64 hi ∧ goodR t
def preRs (t : List Ref05_Token) : Prop := goodR t ∧ t ≠ [] ∧ t.length ≤ 100000000
def preBh (t : Ref05_Token) : Prop := 0 ≤ t.At ∧ t.At ≤ 10000000 ∧ t.Text.length ≤ 1000000
def preIn (l vars : Int) : Prop := 0 ≤ vars ∧ vars ≤ 100000
def preSeen (c : List Int) : Prop := c.length ≤ 1000000
def proof_line_row_1 (n at_ : Int) (out : List Int) (r : Ln) (tw : Bool) : List Int × Ln := (out ++ [n], if addR out tw n ≠ 0 then proof_line_wrong at_ (addR out tw n) r else r)
def preRw1 (n at_ : Int) (out : List Int) (r : Ln) (tw : Bool) : Prop := out.length ≤ 1000000
abbrev PL := List (Int × Bs)
def pairsT (l : List Token_Token) : PL := l.map fun t => (t.At, t.Text)
def numsGo (end_ : Int) : PL → List (Int × Int) → Int → List Int → List Int × Int × Int
  | [], [], _, acc => (acc, end_, 0)
  | p :: _, [], _, _ => ([], p.1, 6)
  | [], _ :: _, q, _ => ([], q, 4)
  | p :: r, b :: bs, _, acc => if (numOf p.2 b.1 b.2).2 ≠ 0 then ([], p.1, (numOf p.2 b.1 b.2).2) else numsGo end_ r bs (p.1 + p.2.length) (acc ++ [(numOf p.2 b.1 b.2).1])
def numsOf (l : PL) (word : Bs) (lo hi : List Int) (end_ : Int) : List Int × Int × Int :=
  match l with
  | [] => ([], end_, 4)
  | p :: r => if p.2 ≠ word then ([], p.1, 8) else numsGo end_ r (lo.zip hi) (p.1 + p.2.length) []
def objtext_Numbers (l : List Token_Token) (word : Bs) (lo hi : List Int) (end_ : Int) : List Int × Int × Int := numsOf (pairsT l) word lo hi end_
def saidP (l : List PL) : List PL := l.filter fun r => !r.isEmpty
def nextL : List (List Token_Token) → List Token_Token × List (List Token_Token)
  | [] => ([], [])
  | r :: rest => if r.isEmpty then nextL rest else (r, rest)
def linesP (l : List (List Token_Token)) : List PL := saidP (l.map pairsT)
def wordsB (w : Bs) (n : List Int) : List Bs := w :: n.map Lib.itoa
def lineB (w : Bs) (n : List Int) : Bs := joinRow (wordsB w n) ++ [10]
def ref24_Words (w : Bs) (n : List Int) : Bs := joinRow (wordsB w n) ++ [10]
def goodP (l : PL) : Prop := l.length ≤ 10000000 ∧ ∀ p ∈ l, 0 ≤ p.1 ∧ p.1 ≤ 10000000 ∧ p.2.length ≤ 1000000
def preN (l : PL) (lo hi : List Int) : Prop := goodP l ∧ lo.length ≤ 1000 ∧ hi.length ≤ 1000 ∧ (∀ x ∈ lo, inR .i64 x) ∧ (∀ x ∈ hi, inR .i64 x)
def preNT (l : List Token_Token) (word : Bs) (lo hi : List Int) (end_ : Int) : Prop := preN (pairsT l) lo hi
def preWB (w : Bs) (n : List Int) : Prop := w.length ≤ 100 ∧ n.length ≤ 1000 ∧ ∀ x ∈ n, inR .i64 x
def wPick : Bs := [112, 105, 99, 107]
def wordsV : List Bs := [[109, 97, 108, 102, 111, 114, 109, 101, 100], [116, 111, 111, 108, 97, 114, 103, 101], [98, 117, 100, 103, 101, 116, 111, 117, 116], [108, 105, 110, 101, 97, 114, 105, 122, 97, 98, 108, 101], [110, 111, 116, 108, 105, 110, 101, 97, 114, 105, 122, 97, 98, 108, 101]]
def verdict_words : List Bs := wordsV
def wordV (k : Int) : Bs := if k < 1 ∨ k > 5 then [] else gi wordsV (k - 1)
def verdict_Word (k : Int) : Bs := wordV k
def ref39_Word (k : Int) : Bs := wordV k
def idxW (w : Bs) : List Bs → Int → Int
  | [], _ => -1
  | x :: l, i => if w == x then i else idxW w l (i + 1)
def slices_Index_string_string (l : List Bs) (w : Bs) : Int := idxW w l 0
def kindW (w : Bs) : Int := idxW w wordsV 0 + 1
def pickOK (p : Api_Pick) : Bool := decide (0 ≤ p.Oper) && decide (p.Oper < 64) && decide (0 ≤ p.Result) && decide (p.Result ≤ 1000000)
def pickedB (l : List Api_Pick) : Bool := decide (l.length ≤ 64) && l.all pickOK && decide (l.map Api_Pick.Oper).Nodup
def verdict_picked (l : List Api_Pick) : Bool := pickedB l
def ref39_picked (l : List Api_Pick) : Bool := pickedB l
def verdict_picked_1 (p : Api_Pick) (m : List (Int × Int)) : Bool × List (Int × Int) :=
  (decide ((mget m p.Oper).getD 0 + 1 > 1) || !pickOK p, mput m p.Oper ((mget m p.Oper).getD 0 + 1))
def pkGo : List Api_Pick → List (Int × Int) → Int → Int × List (Int × Int)
  | [], m, _ => (-1, m)
  | p :: l, m, i => if (verdict_picked_1 p m).1 then (i, (verdict_picked_1 p m).2) else pkGo l (verdict_picked_1 p m).2 (i + 1)
def slices_IndexFunc_api_Pick_api_Pick_verdict_picked_1 (l : List Api_Pick) (m : List (Int × Int)) : Int × List (Int × Int) := pkGo l m 0
def slices_ContainsFunc_api_Pick_api_Pick_verdict_picked_1 (l : List Api_Pick) (m : List (Int × Int)) : Bool × List (Int × Int) := (decide ((pkGo l m 0).1 ≥ 0), (pkGo l m 0).2)
def placedB (v : Api_Verdict) : Bool := if v.Kind = 1 then decide (v.At ≥ 0) && decide (v.At ≤ 1000000) && decide (v.Err ≥ 1) && decide (v.Err ≤ 99) else v.At == 0 && v.Err == 0
def verdict_placed (v : Api_Verdict) : Bool := placedB v
def fineV (v : Api_Verdict) : Bool := placedB v && pickedB v.Picks && (chkS v.Proof).2 == 0 && (v.Kind == 4 || v.Picks.isEmpty) && (v.Kind == 5 || v.Proof.isEmpty)
def chkV (v : Api_Verdict) : Int := if v.Kind < 1 ∨ v.Kind > 5 then 31 else if fineV v then 0 else 2
def verdict_Check (v : Api_Verdict) : Int := chkV v
def ref39_Check (v : Api_Verdict) : Int := chkV v
def slices_Equal_api_Pick_api_Pick (a b : List Api_Pick) : Bool := decide (a = b)
def ref28_Same (a b : List Api_Pick) : Bool := decide (a = b)
def verdict_Same (a b : Api_Verdict) : Bool := decide (a = b)
def ref39_Same (a b : Api_Verdict) : Bool := decide (a = b)
def verdict_line (w : Bs) (n : List Int) : Bs := lineB w n
def pickT (p : Api_Pick) : Bs := lineB wPick [p.Oper, p.Result]
def printV (v : Api_Verdict) : Bs × Int :=
  if chkV v ≠ 0 then ([], chkV v)
  else if v.Kind = 1 then (lineB (wordV 1) [v.At, v.Err], 0)
  else if v.Kind = 4 then (lineB (wordV 4) [(v.Picks.length : Int)] ++ v.Picks.flatMap pickT, 0)
  else if v.Kind = 5 then (if (printP v.Proof).2 ≠ 0 ∨ (lineB (wordV 5) []).length + (printP v.Proof).1.length > 1000000 then ([], 3) else (lineB (wordV 5) [] ++ (printP v.Proof).1, 0))
  else (lineB (wordV v.Kind) [], 0)
def verdict_Print (v : Api_Verdict) : Bs × Int := printV v
def ref39_Print (v : Api_Verdict) : Bs × Int := printV v
abbrev Rd := Verdict_reader
def verdict_reader_next (r : Rd) : List Token_Token × Rd := ((nextL r.rest).1, ⟨(nextL r.rest).2, r.end_, r.at_, r.e⟩)
def verdict_reader_numbers (l : List Token_Token) (word : Bs) (lo hi : List Int) (r : Rd) : List Int × Rd :=
  if r.e ≠ 0 then ([], r) else ((numsOf (pairsT l) word lo hi r.end_).1, ⟨r.rest, r.end_, (numsOf (pairsT l) word lo hi r.end_).2.1, (numsOf (pairsT l) word lo hi r.end_).2.2⟩)
def picksGo (end_ : Int) : Nat → List PL → List Api_Pick → (List Api_Pick × Int × Int) × List PL
  | 0, L, out => ((out, end_, 0), L)
  | _ + 1, [], _ => (([], end_, 4), [])
  | n + 1, p :: L, out => if (numsOf p wPick [0, 0] [63, 1000000] end_).2.2 ≠ 0 then (([], (numsOf p wPick [0, 0] [63, 1000000] end_).2.1, (numsOf p wPick [0, 0] [63, 1000000] end_).2.2), L)
      else if out.any (fun q => q.Oper == gi (numsOf p wPick [0, 0] [63, 1000000] end_).1 0) then (([], (gi p 0).1, 21), L)
      else picksGo end_ n L (out ++ [⟨gi (numsOf p wPick [0, 0] [63, 1000000] end_).1 0, gi (numsOf p wPick [0, 0] [63, 1000000] end_).1 1⟩])
def takeN (end_ : Int) : Nat → List (List Token_Token) → List Api_Pick → List Api_Pick × List (List Token_Token) × Int × Int
  | 0, L, out => (out, L, end_, 0)
  | n + 1, L, out => if (numsOf (pairsT (nextL L).1) wPick [0, 0] [63, 1000000] end_).2.2 ≠ 0 then ([], (nextL L).2, (numsOf (pairsT (nextL L).1) wPick [0, 0] [63, 1000000] end_).2.1, (numsOf (pairsT (nextL L).1) wPick [0, 0] [63, 1000000] end_).2.2)
      else if out.any (fun q => q.Oper == gi (numsOf (pairsT (nextL L).1) wPick [0, 0] [63, 1000000] end_).1 0) then ([], (nextL L).2, (gi (nextL L).1 0).At, 21)
      else takeN end_ n (nextL L).2 (out ++ [⟨gi (numsOf (pairsT (nextL L).1) wPick [0, 0] [63, 1000000] end_).1 0, gi (numsOf (pairsT (nextL L).1) wPick [0, 0] [63, 1000000] end_).1 1⟩])
def verdict_reader_picks (n : Int) (r : Rd) : List Api_Pick × Rd :=
  if n ≤ 0 then ([], r) else ((takeN r.end_ n.toNat r.rest []).1, ⟨(takeN r.end_ n.toNat r.rest []).2.1, r.end_, (takeN r.end_ n.toNat r.rest []).2.2.1, (takeN r.end_ n.toNat r.rest []).2.2.2⟩)
def loV (k : Int) : List Int := if k = 1 then [0, 1] else if k = 4 then [0] else []
def hiV (k : Int) : List Int := if k = 1 then [1000000, 99] else if k = 4 then [64] else []
def verdict_reader_head (r : Rd) : Int × List Int × Rd :=
  if (nextL r.rest).1 = [] then (0, [], ⟨(nextL r.rest).2, r.end_, r.end_, 4⟩)
  else if kindW (gi (nextL r.rest).1 0).Text = 0 then (0, [], ⟨(nextL r.rest).2, r.end_, (gi (nextL r.rest).1 0).At, 8⟩)
  else (kindW (gi (nextL r.rest).1 0).Text, verdict_reader_numbers (nextL r.rest).1 (gi (nextL r.rest).1 0).Text (loV (kindW (gi (nextL r.rest).1 0).Text)) (hiV (kindW (gi (nextL r.rest).1 0).Text)) ⟨(nextL r.rest).2, r.end_, r.at_, r.e⟩)
def behGo : Nat → Bs → Int → Int → Int
  | 0, _, _, a => a
  | f + 1, s, k, a => if s.isEmpty then a else
      if (rowOf (s.takeWhile (fun b => b != 10)) k a).isEmpty then behGo f (s.drop ((s.takeWhile (fun b => b != 10)).length + 1)) (k + 1) (a + min ((s.takeWhile (fun b => b != 10)).length + 1) s.length)
      else a + min ((s.takeWhile (fun b => b != 10)).length + 1) s.length
def verdict_behind (s : Bs) : Int := behGo s.length s 1 0
def v0 : Api_Verdict := ⟨0, 0, 0, [], []⟩
def restV (end_ : Int) (L : List PL) (v : Api_Verdict) : Api_Verdict × Int × Int := match L with
  | [] => (v, end_, 0)
  | p :: _ => (v0, (gi p 0).1, 6)
def kindV (s : Bs) (k : Int) (n : List Int) (L : List PL) : Api_Verdict × Int × Int :=
  if k = 1 then restV s.length L ⟨1, gi n 0, gi n 1, [], []⟩
  else if k = 4 then (if (picksGo s.length (gi n 0).toNat L []).1.2.2 ≠ 0 then (v0, (picksGo s.length (gi n 0).toNat L []).1.2.1, (picksGo s.length (gi n 0).toNat L []).1.2.2)
    else restV s.length (picksGo s.length (gi n 0).toNat L []).2 ⟨4, 0, 0, (picksGo s.length (gi n 0).toNat L []).1.1, []⟩)
  else if k = 5 then (if (proof_Parse (s.drop (verdict_behind s).toNat)).2.2 ≠ 0 then (v0, verdict_behind s + (proof_Parse (s.drop (verdict_behind s).toNat)).2.1, (proof_Parse (s.drop (verdict_behind s).toNat)).2.2)
    else (⟨5, 0, 0, [], (proof_Parse (s.drop (verdict_behind s).toNat)).1⟩, s.length, 0))
  else restV s.length L ⟨k, 0, 0, [], []⟩
def headV (p : PL) (end_ : Int) : List Int × Int × Int := numsOf p (gi p 0).2 (loV (kindW (gi p 0).2)) (hiV (kindW (gi p 0).2)) end_
def linesV (s : Bs) : List PL → Api_Verdict × Int × Int
  | [] => (v0, s.length, 4)
  | p :: L => if kindW (gi p 0).2 = 0 then (v0, (gi p 0).1, 8)
      else if (headV p s.length).2.2 ≠ 0 then (v0, (headV p s.length).2.1, (headV p s.length).2.2)
      else kindV s (kindW (gi p 0).2) (headV p s.length).1 L
def parseV (s : Bs) : Api_Verdict × Int × Int := if s.length > 1000000 then (v0, 0, 3) else linesV s (linesP (token_Lines s))
def verdict_Parse (s : Bs) : Api_Verdict × Int × Int := parseV s
def ref39_Parse (s : Bs) : Api_Verdict × Int × Int := parseV s
def verdict_reader_picks_1 (p : Api_Pick) (x : List Int) : Bool := p.Oper == gi x 0
def idxP (x : List Int) : List Api_Pick → Int → Int
  | [], _ => -1
  | p :: l, i => if p.Oper == gi x 0 then i else idxP x l (i + 1)
def slices_IndexFunc_api_Pick_api_Pick_verdict_reader_picks_1 (l : List Api_Pick) (x : List Int) : Int := idxP x l 0
def slices_ContainsFunc_api_Pick_api_Pick_verdict_reader_picks_1 (l : List Api_Pick) (x : List Int) : Bool := l.any (fun q => q.Oper == gi x 0)
def law39_Few (v : Api_Verdict) : Bool := decide (v.Picks.length ≤ 100) && law10_Few v.Proof
def law39_awake : Bool := true
def okM (m : List (Int × Int)) : Prop := m.length ≤ 1000000 ∧ ∀ k : Int, 0 ≤ (mget m k).getD 0 ∧ (mget m k).getD 0 ≤ 1000000
def prePk (p : Api_Pick) (m : List (Int × Int)) : Prop := okM m
def prePkI (l : List Api_Pick) (m : List (Int × Int)) : Prop := m = [] ∧ l.length ≤ 1000
def preP1 (p : Api_Pick) (x : List Int) : Prop := x ≠ []
def preP1I (l : List Api_Pick) (x : List Int) : Prop := x ≠ []
def preRdN (l : List Token_Token) (word : Bs) (lo hi : List Int) (r : Rd) : Prop := preN (pairsT l) lo hi
def goodL (l : List (List Token_Token)) : Prop := l.length ≤ 10000000 ∧ ∀ r ∈ l, goodP (pairsT r)
def preRdP (n : Int) (r : Rd) : Prop := n ≤ 64 ∧ goodL r.rest ∧ r.e = 0
def preRdH (r : Rd) : Prop := goodL r.rest ∧ r.e = 0
end Go.Proofs.YtkgcdoeldilhaaaGreatDoor
