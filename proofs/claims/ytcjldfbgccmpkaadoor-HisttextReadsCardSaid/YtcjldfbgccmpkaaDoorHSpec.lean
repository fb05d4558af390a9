/- The specification functions of the token laws, in plain Lean: what each Go function of the layer answers. -/
import Derived.Test.YtcjldfbgccmpkaaDoorHTypes
import Derived.Lib.Strings
import Derived.Lib.Bytealg
import Derived.Lib.ItoaNum
set_option linter.all false
namespace Go.Proofs.YtcjldfbgccmpkaaDoor
open Go Go.Sv
abbrev Bs := List UInt8
def ref05_gap (b : Int) : Bool := b == 32 || (b == 9 || b == 13)
def gapB (b : UInt8) : Bool := ref05_gap (b.toNat : Int)
def inB (b : UInt8) : Bool := !gapB b && b.toNat != 10
/-- the words of a line, byte by byte: what is left, the place of what is left, the word that has begun -/
def wgo : Bs → Int → Bs → List (Int × Bs)
  | [], i, cur => if cur.isEmpty then [] else [(i - cur.length, cur)]
  | b :: r, i, cur => if gapB b then (if cur.isEmpty then wgo r (i + 1) [] else (i - cur.length, cur) :: wgo r (i + 1) []) else wgo r (i + 1) (cur ++ [b])
def remark (l : Bs) : Bool := l == [99] || Lib.hasPrefix l [99, 32]
def rowOf (l : Bs) (k a : Int) : List Token_Token := if remark l then [] else (wgo l a []).map fun p => ⟨k, p.1, p.2⟩
def linesGo : Nat → Bs → Int → Int → List (List Token_Token)
  | 0, _, _, _ => []
  | f + 1, l, k, a => if l.isEmpty then [] else
      rowOf (l.takeWhile (fun b => b != 10)) k a :: linesGo f (l.drop ((l.takeWhile (fun b => b != 10)).length + 1)) (k + 1) (a + (l.takeWhile (fun b => b != 10)).length + 1)
def toRef (t : Token_Token) : Ref05_Token := ⟨t.Line, t.At, t.Text⟩
def token_tokens (s : Bs) (k a : Int) : List Token_Token := rowOf s k a
def token_Lines (s : Bs) : List (List Token_Token) := linesGo s.length s 1 0
def ref05_Lines (s : Bs) : List (List Ref05_Token) := (token_Lines s).map fun l => l.map toRef
def law05_Of (l : List (List Token_Token)) : List (List Ref05_Token) := l.map fun l => l.map toRef
def ref05_Same (a b : List (List Ref05_Token)) : Bool := decide (a = b)
def token_Word (s : Bs) : Bool := !s.isEmpty && s.all inB
def ref05_Word (s : Bs) : Bool := !s.isEmpty && s.all inB
def joinRow : List Bs → Bs
  | [] => []
  | t :: r => t ++ r.flatMap fun t => 32 :: t
def joinAll (l : List (List Bs)) : Bs := l.flatMap fun r => joinRow r ++ [10]
def token_Join (l : List (List Token_Token)) : Bs := joinAll (l.map fun r => r.map Token_Token.Text)
def ref05_Join (l : List (List Ref05_Token)) : Bs := joinAll (l.map fun r => r.map Ref05_Token.Text)
/-- numerals -/
def digB (b : UInt8) : Bool := 48 ≤ b.toNat && b.toNat ≤ 57
def minusOf (s : Bs) : Bool := Lib.hasPrefix s [45]
def digsOf (s : Bs) : Bs := Lib.trimPrefix s [45]
def numOK (s : Bs) : Bool := !(digsOf s).isEmpty && !((digsOf s).head? == some 48 && (decide (1 < (digsOf s).length) || minusOf s)) && (digsOf s).all digB
def decVal (l : Bs) : Nat := l.foldl (fun n b => 10 * n + (b.toNat - 48)) 0
def sval (s : Bs) : Int := if minusOf s then -(decVal (digsOf s) : Int) else decVal (digsOf s)
def token_numeral (s : Bs) : Bs × Bool × Bool := if numOK s then (digsOf s, minusOf s, true) else ([], false, false)
def numOf (s : Bs) (lo hi : Int) : Int × Int := if numOK s then (if lo ≤ sval s ∧ sval s ≤ hi then (sval s, 0) else (0, 7)) else (0, 5)
def token_Number (s : Bs) (lo hi : Int) : Int × Int := numOf s lo hi
def ref05_Number (s : Bs) (lo hi : Int) : Int × Int := numOf s lo hi
def ref05_Digits (n : Int) : Bs := Lib.itoa n
def token_Digits (n : Int) : Bs := Lib.itoa n
def strconv_Itoa (n : Int) : Bs := Lib.itoa n
/-- the library's -/
def strings_HasPrefix (s p : Bs) : Bool := Lib.hasPrefix s p
def internal_stringslite_HasPrefix (s p : Bs) : Bool := Lib.hasPrefix s p
def internal_stringslite_CutPrefix (s p : Bs) : Bs × Bool := if Lib.hasPrefix s p then (s.drop p.length, true) else (s, false)
def strings_CutPrefix (s p : Bs) : Bs × Bool := internal_stringslite_CutPrefix s p
def strings_IndexByte (s : Bs) (c : Int) : Int := Lib.indexByte s (UInt8.ofNat c.toNat)
def internal_stringslite_IndexByte (s : Bs) (c : Int) : Int := Lib.indexByte s (UInt8.ofNat c.toNat)
def internal_stringslite_Index (s p : Bs) : Int := Lib.indexByte s (p.headD 0)
def internal_stringslite_Cut (s p : Bs) : Bs × Bs × Bool :=
  if 0 ≤ internal_stringslite_Index s p then (s.take (internal_stringslite_Index s p).toNat, s.drop ((internal_stringslite_Index s p).toNat + p.length), true) else (s, [], false)
def strings_Cut (s p : Bs) : Bs × Bs × Bool := internal_stringslite_Cut s p
def law05_awake : Bool := true
/-! objects as text -/
def object_within (n top : Int) : Bool := decide (n ≥ 0) && decide (n < top)
def cmp_Compare_int (a b : Int) : Int := if a < b then -1 else if a > b then 1 else 0
def cmp_isNaN_int (a : Int) : Bool := false
def cmp_Or_int (l : List Int) : Int := (l.find? (fun x => x != 0)).getD 0
def object_place (a b : Api_Row) : Int := cmp_Or_int [cmp_Compare_int a.State b.State, cmp_Compare_int a.Kind b.Kind]
def rowE (o : Api_Object) (i : Int) : Int :=
  if !object_within (gi o.Rows i).State o.States || !object_within (gi o.Rows i).Next o.States then 30
  else if !object_within (gi o.Rows i).Kind o.Kinds then 31
  else if !object_within (gi o.Rows i).Result 1000001 then 7
  else if decide (i > 0) && decide (object_place (gi o.Rows (i - 1)) (gi o.Rows i) ≥ 0) then 32 else 0
def object_row (o : Api_Object) (i : Int) : Int := rowE o i
def chkGo (o : Api_Object) : Nat → Int → Int × Int
  | 0, i => (i, 0)
  | f + 1, i => if rowE o i ≠ 0 then (i, rowE o i) else chkGo o f (i + 1)
def object_Check (o : Api_Object) : Int × Int :=
  if o.States < 1 ∨ o.States > 32 ∨ o.Kinds < 1 ∨ o.Kinds > 64 ∨ o.Init < 0 ∨ o.Init ≥ o.States then (-1, 2) else chkGo o o.Rows.length 0
def ref23_Check (o : Api_Object) : Int × Int := object_Check o
def object_Same (a b : Api_Object) : Bool := decide (a = b)
def ref23_Same (a b : Api_Object) : Bool := decide (a = b)
def ref23_SameRows (a b : List Api_Row) : Bool := decide (a = b)
def ref01_SameInts (a b : List Int) : Bool := decide (a = b)
def law23_Few (o : Api_Object) : Bool := decide (o.Rows.length ≤ 300)
abbrev PL := List (Int × Bs)
def pairsT (l : List Token_Token) : PL := l.map fun t => (t.At, t.Text)
def pairsR (l : List Ref05_Token) : PL := l.map fun t => (t.At, t.Text)
def numsGo (end_ : Int) : PL → List (Int × Int) → Int → List Int → List Int × Int × Int
  | [], [], _, acc => (acc, end_, 0)
  | p :: _, [], _, _ => ([], p.1, 6)
  | [], _ :: _, q, _ => ([], q, 4)
  | p :: r, b :: bs, _, acc => if (numOf p.2 b.1 b.2).2 ≠ 0 then ([], p.1, (numOf p.2 b.1 b.2).2) else numsGo end_ r bs (p.1 + p.2.length) (acc ++ [(numOf p.2 b.1 b.2).1])
def numsOf (l : PL) (word : Bs) (lo hi : List Int) (end_ : Int) : List Int × Int × Int :=
  match l with
  | [] => ([], end_, 4)
  | p :: r => if p.2 ≠ word then ([], p.1, 8) else numsGo end_ r (lo.zip hi) (p.1 + p.2.length) []
def objtext_Numbers (l : List Token_Token) (word : Bs) (lo hi : List Int) (end_ : Int) : List Int × Int × Int := numsOf (pairsT l) word lo hi end_
def ref24_Numbers (l : List Ref05_Token) (word : Bs) (lo hi : List Int) (end_ : Int) : List Int × Int × Int := numsOf (pairsR l) word lo hi end_
def lo4 : List Int := [0, 0, 0, 0]
def hi4 : List Int := [1000000, 1000000, 1000000, 1000000]
def wObject : Bs := [111, 98, 106, 101, 99, 116]
def wRow : Bs := [114, 111, 119]
def saidP (l : List PL) : List PL := l.filter fun r => !r.isEmpty
def numsAt (L : List PL) (i : Int) (w : Bs) (end_ : Int) : List Int × Int × Int := if i ≥ L.length then ([], end_, 4) else numsOf (gi L i) w lo4 hi4 end_
def rowOf4 (x : List Int) : Api_Row := ⟨gi x 0, gi x 1, gi x 2, gi x 3⟩
def rowsGo (L : List PL) (end_ : Int) : Nat → Int → List Api_Row → List Api_Row × Int × Int
  | 0, _, acc => (acc, end_, 0)
  | n + 1, i, acc => if (numsAt L i wRow end_).2.2 ≠ 0 then ([], (numsAt L i wRow end_).2.1, (numsAt L i wRow end_).2.2) else rowsGo L end_ n (i + 1) (acc ++ [rowOf4 (numsAt L i wRow end_).1])
def obj0 : Api_Object := ⟨0, 0, 0, []⟩
def objH (n : List Int) (rows : List Api_Row) : Api_Object := ⟨gi n 0, gi n 1, gi n 2, rows⟩
/-- an object of lines with tokens: how many lines were taken, the place, the fault -/
def takeAll (L : List PL) (end_ : Int) : Api_Object × Int × Int × Int :=
  if (numsAt L 0 wObject end_).2.2 ≠ 0 then (obj0, 0, (numsAt L 0 wObject end_).2.1, (numsAt L 0 wObject end_).2.2)
  else if (rowsGo L end_ (gi (numsAt L 0 wObject end_).1 3).toNat 1 []).2.2 ≠ 0 then (obj0, 0, (rowsGo L end_ (gi (numsAt L 0 wObject end_).1 3).toNat 1 []).2.1, (rowsGo L end_ (gi (numsAt L 0 wObject end_).1 3).toNat 1 []).2.2)
  else if (object_Check (objH (numsAt L 0 wObject end_).1 (rowsGo L end_ (gi (numsAt L 0 wObject end_).1 3).toNat 1 []).1)).2 ≠ 0 then
    (obj0, 0, (gi (gi L ((object_Check (objH (numsAt L 0 wObject end_).1 (rowsGo L end_ (gi (numsAt L 0 wObject end_).1 3).toNat 1 []).1)).1 + 1)) 0).1, (object_Check (objH (numsAt L 0 wObject end_).1 (rowsGo L end_ (gi (numsAt L 0 wObject end_).1 3).toNat 1 []).1)).2)
  else (objH (numsAt L 0 wObject end_).1 (rowsGo L end_ (gi (numsAt L 0 wObject end_).1 3).toNat 1 []).1, gi (numsAt L 0 wObject end_).1 3 + 1, end_, 0)
def nextL : List (List Token_Token) → List Token_Token × List (List Token_Token)
  | [] => ([], [])
  | r :: rest => if r.isEmpty then nextL rest else (r, rest)
def dropSaid : Nat → List (List Token_Token) → List (List Token_Token)
  | 0, l => l
  | n + 1, l => dropSaid n (nextL l).2
def objtext_next (l : List (List Token_Token)) : List Token_Token × List (List Token_Token) := nextL l
def linesP (l : List (List Token_Token)) : List PL := saidP (l.map pairsT)
def objtext_Take (l : List (List Token_Token)) (end_ : Int) : Api_Object × List (List Token_Token) × Int × Int :=
  if (takeAll (linesP l) end_).2.2.2 ≠ 0 then (obj0, [], (takeAll (linesP l) end_).2.2.1, (takeAll (linesP l) end_).2.2.2)
  else ((takeAll (linesP l) end_).1, dropSaid (takeAll (linesP l) end_).2.1.toNat l, end_, 0)
def parseP (L : List PL) (end_ : Int) : Api_Object × Int × Int :=
  if (takeAll L end_).2.2.2 = 0 ∧ (takeAll L end_).2.1 < L.length then (obj0, (gi (gi L (takeAll L end_).2.1) 0).1, 6)
  else ((takeAll L end_).1, (takeAll L end_).2.2.1, (takeAll L end_).2.2.2)
def objtext_Parse (s : Bs) : Api_Object × Int × Int := if (s.length : Int) > 1000000 then (obj0, 0, 3) else parseP (linesP (token_Lines s)) s.length
def ref24_Said (l : List (List Ref05_Token)) : List (List Ref05_Token) := l.filter fun r => !r.isEmpty
def ref24_line (l : List (List Ref05_Token)) (i : Int) (w : Bs) (end_ : Int) : List Int × Int × Int := numsAt (l.map pairsR) i w end_
def ref24_Take (l : List (List Ref05_Token)) (end_ : Int) : Api_Object × Int × Int × Int := takeAll (l.map pairsR) end_
def ref24_Parse (s : Bs) : Api_Object × Int × Int := if (s.length : Int) > 1000000 then (obj0, 0, 3) else parseP ((ref24_Said (ref05_Lines s)).map pairsR) s.length
/-- texts of objects -/
def wordsB (w : Bs) (n : List Int) : List Bs := w :: n.map Lib.itoa
def objtext_words (w : Bs) (n : List Int) : List Token_Token := (wordsB w n).map fun t => ⟨0, 0, t⟩
def rowNums (r : Api_Row) : List Int := [r.State, r.Kind, r.Next, r.Result]
def headNums (o : Api_Object) : List Int := [o.States, o.Kinds, o.Init, o.Rows.length]
def textB (o : Api_Object) : List (List Bs) := wordsB wObject (headNums o) :: o.Rows.map fun r => wordsB wRow (rowNums r)
def printOf (o : Api_Object) : Bs × Int := if (object_Check o).2 ≠ 0 then ([], (object_Check o).2) else (joinAll (textB o), 0)
def objtext_Print (o : Api_Object) : Bs × Int := printOf o
def ref24_Print (o : Api_Object) : Bs × Int := printOf o
def ref24_Words (w : Bs) (n : List Int) : Bs := joinRow (wordsB w n) ++ [10]
def slices_Equal_api_Row_api_Row (a b : List Api_Row) : Bool := decide (a = b)
def math_bits_Mul64 (x y : Int) : Int × Int := (0, x * y)
def math_bits_Mul (x y : Int) : Int × Int := (0, x * y)
def slices_Repeat_int_int (x : List Int) (n : Int) : List Int := List.replicate n.toNat (gi x 0)
def objtext_bounds_1 (x n : Int) : List Int := List.replicate n.toNat x
def objtext_bounds (n : Int) : List Int × List Int := (List.replicate n.toNat 0, List.replicate n.toNat 1000000)
def objtext_printed_line (r : Api_Row) : List Token_Token := objtext_words wRow (rowNums r)
def law24_awake : Bool := true
/-- conditions -/
def len1 (s : Bs) : Prop := s.length ≤ 1000000
def preOne (s p : Bs) : Prop := p.length = 1 ∧ s.length ≤ 1000000
def preTwo (s p : Bs) : Prop := p.length ≤ 1000000 ∧ s.length ≤ 1000000
def preB (s : Bs) (c : Int) : Prop := s.length ≤ 1000000 ∧ 0 ≤ c ∧ c < 256
def preTok (s : Bs) (k a : Int) : Prop := s.length ≤ 1000000 ∧ 0 ≤ k ∧ k ≤ 10000000 ∧ 0 ≤ a ∧ a ≤ 10000000
def preNum (s : Bs) (lo hi : Int) : Prop := s.length ≤ 1000000 ∧ inR .i64 lo ∧ inR .i64 hi
def preI (n : Int) : Prop := inR .i64 n
def preOf (l : List (List Token_Token)) : Prop := l.length ≤ 10000000 ∧ ∀ r ∈ l, r.length ≤ 10000000
def preJ (l : List (List Token_Token)) : Prop := (token_Join l).length ≤ 10000000
def preRJ (l : List (List Ref05_Token)) : Prop := (ref05_Join l).length ≤ 10000000
def preCk (o : Api_Object) : Prop := inR .i64 o.States ∧ inR .i64 o.Kinds
def preM (x y : Int) : Prop := x = 1 ∧ y = 4
def preRep (x : List Int) (n : Int) : Prop := x.length = 1 ∧ n = 4
def preB1 (x n : Int) : Prop := n = 4
def preBn (n : Int) : Prop := n = 4
def preRow (o : Api_Object) (i : Int) : Prop := 0 ≤ i ∧ i < o.Rows.length
def goodP (l : PL) : Prop := l.length ≤ 10000000 ∧ ∀ p ∈ l, 0 ≤ p.1 ∧ p.1 ≤ 10000000 ∧ p.2.length ≤ 1000000
def preN (l : PL) (lo hi : List Int) : Prop := goodP l ∧ lo.length ≤ 1000 ∧ hi.length ≤ 1000 ∧ (∀ x ∈ lo, inR .i64 x) ∧ (∀ x ∈ hi, inR .i64 x)
def preNT (l : List Token_Token) (word : Bs) (lo hi : List Int) (end_ : Int) : Prop := preN (pairsT l) lo hi
def preNR (l : List Ref05_Token) (word : Bs) (lo hi : List Int) (end_ : Int) : Prop := preN (pairsR l) lo hi
def preL (l : List (List Ref05_Token)) (i : Int) (w : Bs) (end_ : Int) : Prop := 0 ≤ i ∧ ∀ r ∈ l, goodP (pairsR r)
def preTk (l : List (List Token_Token)) (end_ : Int) : Prop := l.length ≤ 10000000 ∧ ∀ r ∈ l, goodP (pairsT r)
def preRT (l : List (List Ref05_Token)) (end_ : Int) : Prop := l.length ≤ 10000000 ∧ ∀ r ∈ l, goodP (pairsR r) ∧ r ≠ []
def preS (l : List (List Ref05_Token)) : Prop := l.length ≤ 10000000
def preW (w : Bs) (n : List Int) : Prop := n.length ≤ 1000 ∧ ∀ x ∈ n, inR .i64 x
def preP (r : Api_Row) : Prop := ∀ x ∈ rowNums r, inR .i64 x
def prePr (o : Api_Object) : Prop := o.Rows.length ≤ 90000 ∧ preCk o
def preWB (w : Bs) (n : List Int) : Prop := w.length ≤ 100 ∧ n.length ≤ 1000 ∧ ∀ x ∈ n, inR .i64 x
/-! histories as text -/
def evE (x : Api_Event) : Int :=
  if x.What ≠ 1 ∧ x.What ≠ 2 then 8 else if x.Prc < 1 ∨ x.Prc > 1000 then 2
  else if x.What = 1 ∧ (x.N < 0 ∨ x.N ≥ 64) then 31 else if x.What = 2 ∧ (x.N < 0 ∨ x.N > 1000000) then 7 else 0
def event_alone (x : Api_Event) : Int := evE x
/-- what a process' last event is; 0: it has none -/
def lastW (l : List Api_Event) (p : Int) : Int := l.foldl (fun w x => if x.Prc = p then x.What else w) 0
def evGo (l : List Api_Event) : Nat → Int → Int × Int
  | 0, i => (i, 0)
  | f + 1, i => if evE (gi l i) ≠ 0 then (i, evE (gi l i)) else if (lastW (l.take i.toNat) (gi l i).Prc == 1) == ((gi l i).What == 1) then (i, 33) else evGo l f (i + 1)
def event_Check (l : List Api_Event) : Int × Int := if l.length > 10000 then (0, 3) else evGo l l.length 0
def ref25_Check (l : List Api_Event) : Int × Int := event_Check l
def lastGo (l : List Api_Event) (p : Int) : Nat → Int
  | 0 => -1
  | i + 1 => if (gi l (i : Int)).Prc = p then (i : Int) else lastGo l p i
def ref25_last (l : List Api_Event) (p : Int) : Int := lastGo l p l.length
def ref25_open (l : List Api_Event) (p : Int) : Bool := lastW l p == 1
/-- how many kinds: one more than the greatest kind of a call, at most 64 -/
def kindsGo (l : List Api_Event) : Int := l.foldl (fun n x => if x.What = 1 then max n (min x.N 63 + 1) else n) 0
def event_Kinds (l : List Api_Event) : Int := kindsGo l
def ref25_Kinds (l : List Api_Event) : Int := kindsGo l
def event_Same (a b : List Api_Event) : Bool := decide (a = b)
def ref25_Same (a b : List Api_Event) : Bool := decide (a = b)
def caseE (o : Api_Object) (l : List Api_Event) : Int :=
  if (object_Check o).2 ≠ 0 then (object_Check o).2 else if (event_Check l).2 ≠ 0 then (event_Check l).2 else if kindsGo l > o.Kinds then 31 else 0
def histtext_Check (c : Histtext_Case) : Int := caseE c.Object c.Events
def ref26_Check (o : Api_Object) (l : List Api_Event) : Int := caseE o l
def insP (out : List Int) (p : Int) : List Int := out.takeWhile (fun q => decide (q < p)) ++ p :: out.dropWhile (fun q => decide (q < p))
def openGo (l : List Api_Event) : Nat → List Int
  | 0 => []
  | i + 1 => if (gi l (i : Int)).What = 1 ∧ ref25_last l (gi l (i : Int)).Prc = (i : Int) then insP (openGo l i) (gi l (i : Int)).Prc else openGo l i
def ref25_Open (l : List Api_Event) : List Int := openGo l l.length
def ref01_Has (l : List Int) (n : Int) : Bool := decide (n ∈ l)
def wCall : Bs := [99, 97, 108, 108]
def wRet : Bs := [114, 101, 116]
def evWhat (w : Bs) : Int := if w = wCall then 1 else if w = wRet then 2 else 0
def hiOf (kinds what : Int) : List Int := if what = 1 then [1000, kinds - 1] else [1000, 1000000]
/-- the event of a line: its numbers, its place, its fault -/
def readEv (P : PL) (kinds end_ : Int) (openB : Int → Bool) : Api_Event × Int × Int :=
  if evWhat (gi P 0).2 = 0 then (⟨2, 0, 0⟩, (gi P 0).1, 8)
  else if (numsOf P (gi P 0).2 [1, 0] (hiOf kinds (evWhat (gi P 0).2)) end_).2.2 ≠ 0 then (⟨evWhat (gi P 0).2, 0, 0⟩, (numsOf P (gi P 0).2 [1, 0] (hiOf kinds (evWhat (gi P 0).2)) end_).2.1, (numsOf P (gi P 0).2 [1, 0] (hiOf kinds (evWhat (gi P 0).2)) end_).2.2)
  else if openB (gi (numsOf P (gi P 0).2 [1, 0] (hiOf kinds (evWhat (gi P 0).2)) end_).1 0) == (evWhat (gi P 0).2 == 1) then (⟨evWhat (gi P 0).2, gi (numsOf P (gi P 0).2 [1, 0] (hiOf kinds (evWhat (gi P 0).2)) end_).1 0, gi (numsOf P (gi P 0).2 [1, 0] (hiOf kinds (evWhat (gi P 0).2)) end_).1 1⟩, (gi P 0).1, 33)
  else (⟨evWhat (gi P 0).2, gi (numsOf P (gi P 0).2 [1, 0] (hiOf kinds (evWhat (gi P 0).2)) end_).1 0, gi (numsOf P (gi P 0).2 [1, 0] (hiOf kinds (evWhat (gi P 0).2)) end_).1 1⟩, end_, 0)
def histtext_reader (o : Api_Object) (end_ : Int) : Api_Object × Int × List (Int × Int) := (o, end_, [])
def mapB (m : List (Int × Int)) (q : Int) : Bool := (mget m q).getD 0 == 1
def histtext_reader_1 (l : List Token_Token) (o : Api_Object) (end_ : Int) (m : List (Int × Int)) : Api_Event × Int × Int × List (Int × Int) :=
  ((readEv (pairsT l) o.Kinds end_ (mapB m)).1, (readEv (pairsT l) o.Kinds end_ (mapB m)).2.1, (readEv (pairsT l) o.Kinds end_ (mapB m)).2.2,
    if (readEv (pairsT l) o.Kinds end_ (mapB m)).2.2 = 0 then mput m (readEv (pairsT l) o.Kinds end_ (mapB m)).1.Prc (readEv (pairsT l) o.Kinds end_ (mapB m)).1.What else m)
def listB (l : List Api_Event) (q : Int) : Bool := lastW l q == 1
def ref26_one (o : Api_Object) (l : List Api_Event) (t : List Ref05_Token) (end_ : Int) : Api_Event × Int × Int :=
  if evWhat (gi (pairsR t) 0).2 = 0 then (⟨0, 0, 0⟩, (gi (pairsR t) 0).1, 8)
  else if (readEv (pairsR t) o.Kinds end_ (listB l)).2.2 = 0 ∧ l.length = 10000 then ((readEv (pairsR t) o.Kinds end_ (listB l)).1, (gi (pairsR t) 0).1, 3) else readEv (pairsR t) o.Kinds end_ (listB l)
def evsGo (kinds end_ : Int) : List PL → List Api_Event → List Api_Event × Int × Int
  | [], acc => (acc, end_, 0)
  | p :: L, acc => if (readEv p kinds end_ (listB acc)).2.2 ≠ 0 then ([], (readEv p kinds end_ (listB acc)).2.1, (readEv p kinds end_ (listB acc)).2.2)
    else if acc.length ≥ 10000 then ([], (gi p 0).1, 3) else evsGo kinds end_ L (acc ++ [(readEv p kinds end_ (listB acc)).1])
def evsOf (L : List PL) (end_ : Int) : List Api_Event × Int × Int := evsGo (takeAll L end_).1.Kinds end_ (L.drop (takeAll L end_).2.1.toNat) []
def caseP (L : List PL) (end_ : Int) : Api_Object × List Api_Event × Int × Int :=
  if (takeAll L end_).2.2.2 ≠ 0 then (obj0, [], (takeAll L end_).2.2.1, (takeAll L end_).2.2.2)
  else if (evsOf L end_).2.2 ≠ 0 then (obj0, [], (evsOf L end_).2.1, (evsOf L end_).2.2) else ((takeAll L end_).1, (evsOf L end_).1, end_, 0)
def caseOf (s : Bs) : Api_Object × List Api_Event × Int × Int := if (s.length : Int) > 1000000 then (obj0, [], 0, 3) else caseP (linesP (token_Lines s)) s.length
def histtext_Parse (s : Bs) : Histtext_Case × Int × Int := (⟨(caseOf s).1, (caseOf s).2.1⟩, (caseOf s).2.2.1, (caseOf s).2.2.2)
def ref26_Parse (s : Bs) : Api_Object × List Api_Event × Int × Int := caseOf s
def strings_Join (l : List Bs) (sep : Bs) : Bs := match l with | [] => [] | x :: r => x ++ r.flatMap fun t => sep ++ t
def histtext_line (l : List Bs) : Bs := strings_Join l [32] ++ [10]
def evB (x : Api_Event) : List Bs := wordsB (if x.What = 1 then wCall else wRet) [x.Prc, x.N]
def textH (o : Api_Object) (l : List Api_Event) : List (List Bs) := textB o ++ l.map evB
def printH (o : Api_Object) (l : List Api_Event) : Bs × Int := if caseE o l ≠ 0 then ([], caseE o l) else (joinAll (textH o l), 0)
def histtext_Print (c : Histtext_Case) : Bs × Int := printH c.Object c.Events
def ref26_Print (o : Api_Object) (l : List Api_Event) : Bs × Int := printH o l
def law26_same (c : Histtext_Case) (o : Api_Object) (l : List Api_Event) : Bool := decide (c.Object = o) && decide (c.Events = l)
def law26_awake : Bool := true
def preHc (c : Histtext_Case) : Prop := preCk c.Object
def preOp (l : List Api_Event) : Prop := l.length ≤ 1000000
def preRd (l : List Token_Token) (o : Api_Object) (end_ : Int) (m : List (Int × Int)) : Prop := goodP (pairsT l) ∧ l ≠ [] ∧ 0 ≤ o.Kinds ∧ o.Kinds ≤ 1000000
def preEv1 (o : Api_Object) (l : List Api_Event) (t : List Ref05_Token) (end_ : Int) : Prop := goodP (pairsR t) ∧ t ≠ [] ∧ 0 ≤ o.Kinds ∧ o.Kinds ≤ 1000000 ∧ l.length ≤ 10000
def preJo (l : List Bs) (sep : Bs) : Prop := 2 ≤ l.length ∧ l.length ≤ 100 ∧ (∀ t ∈ l, t.length ≤ 10000) ∧ sep.length ≤ 100 ∧ 1 ≤ sep.length
def preLi (l : List Bs) : Prop := 2 ≤ l.length ∧ l.length ≤ 100 ∧ (∀ t ∈ l, t.length ≤ 10000)
def preHp (c : Histtext_Case) : Prop := prePr c.Object ∧ c.Events.length ≤ 90000
def preRp (o : Api_Object) (l : List Api_Event) : Prop := prePr o ∧ l.length ≤ 90000
end Go.Proofs.YtcjldfbgccmpkaaDoor
