/- The specification functions of the token laws, in plain Lean: what each Go function of the layer answers. -/
import Derived.Test.YtohbpcjnilefbaaDoorKTypes
import Derived.Lib.Strings
import Derived.Lib.Bytealg
import Derived.Lib.ItoaNum
set_option linter.all false
namespace Go.Proofs.YtohbpcjnilefbaaDoor
open Go Go.Sv
abbrev Bs := List UInt8
def ref05_gap (b : Int) : Bool := b == 32 || (b == 9 || b == 13)
def gapB (b : UInt8) : Bool := ref05_gap (b.toNat : Int)
def inB (b : UInt8) : Bool := !gapB b && b.toNat != 10
/-- the words of a line, byte by byte: what is left, the place of what is left, the word that has begun -/
def wgo : Bs → Int → Bs → List (Int × Bs)
  | [], i, cur => if cur.isEmpty then [] else [(i - cur.length, cur)]
  | b :: r, i, cur => if gapB b then (if cur.isEmpty then wgo r (i + 1) [] else (i - cur.length, cur) :: wgo r (i + 1) []) else wgo r (i + 1) (cur ++ [b])
def remark (l : Bs) : Bool := l == [99] || Lib.hasPrefix l [99, 32]
def rowOf (l : Bs) (k a : Int) : List Token_Token := if remark l then [] else (wgo l a []).map fun p => ⟨k, p.1, p.2⟩
def linesGo : Nat → Bs → Int → Int → List (List Token_Token)
  | 0, _, _, _ => []
  | f + 1, l, k, a => if l.isEmpty then [] else
      rowOf (l.takeWhile (fun b => b != 10)) k a :: linesGo f (l.drop ((l.takeWhile (fun b => b != 10)).length + 1)) (k + 1) (a + (l.takeWhile (fun b => b != 10)).length + 1)
def toRef (t : Token_Token) : Ref05_Token := ⟨t.Line, t.At, t.Text⟩
def token_tokens (s : Bs) (k a : Int) : List Token_Token := rowOf s k a
def token_Lines (s : Bs) : List (List Token_Token) := linesGo s.length s 1 0
def ref05_Lines (s : Bs) : List (List Ref05_Token) := (token_Lines s).map fun l => l.map toRef
def law05_Of (l : List (List Token_Token)) : List (List Ref05_Token) := l.map fun l => l.map toRef
def ref05_Same (a b : List (List Ref05_Token)) : Bool := decide (a = b)
def token_Word (s : Bs) : Bool := !s.isEmpty && s.all inB
def ref05_Word (s : Bs) : Bool := !s.isEmpty && s.all inB
def joinRow : List Bs → Bs
  | [] => []
  | t :: r => t ++ r.flatMap fun t => 32 :: t
def joinAll (l : List (List Bs)) : Bs := l.flatMap fun r => joinRow r ++ [10]
def token_Join (l : List (List Token_Token)) : Bs := joinAll (l.map fun r => r.map Token_Token.Text)
def ref05_Join (l : List (List Ref05_Token)) : Bs := joinAll (l.map fun r => r.map Ref05_Token.Text)
/-- numerals -/
def digB (b : UInt8) : Bool := 48 ≤ b.toNat && b.toNat ≤ 57
def minusOf (s : Bs) : Bool := Lib.hasPrefix s [45]
def digsOf (s : Bs) : Bs := Lib.trimPrefix s [45]
def numOK (s : Bs) : Bool := !(digsOf s).isEmpty && !((digsOf s).head? == some 48 && (decide (1 < (digsOf s).length) || minusOf s)) && (digsOf s).all digB
def decVal (l : Bs) : Nat := l.foldl (fun n b => 10 * n + (b.toNat - 48)) 0
def sval (s : Bs) : Int := if minusOf s then -(decVal (digsOf s) : Int) else decVal (digsOf s)
def token_numeral (s : Bs) : Bs × Bool × Bool := if numOK s then (digsOf s, minusOf s, true) else ([], false, false)
def numOf (s : Bs) (lo hi : Int) : Int × Int := if numOK s then (if lo ≤ sval s ∧ sval s ≤ hi then (sval s, 0) else (0, 7)) else (0, 5)
def token_Number (s : Bs) (lo hi : Int) : Int × Int := numOf s lo hi
def ref05_Number (s : Bs) (lo hi : Int) : Int × Int := numOf s lo hi
def ref05_Digits (n : Int) : Bs := Lib.itoa n
def token_Digits (n : Int) : Bs := Lib.itoa n
def strconv_Itoa (n : Int) : Bs := Lib.itoa n
/-- the library's -/
def strings_HasPrefix (s p : Bs) : Bool := Lib.hasPrefix s p
def internal_stringslite_HasPrefix (s p : Bs) : Bool := Lib.hasPrefix s p
def internal_stringslite_CutPrefix (s p : Bs) : Bs × Bool := if Lib.hasPrefix s p then (s.drop p.length, true) else (s, false)
def strings_CutPrefix (s p : Bs) : Bs × Bool := internal_stringslite_CutPrefix s p
def strings_IndexByte (s : Bs) (c : Int) : Int := Lib.indexByte s (UInt8.ofNat c.toNat)
def internal_stringslite_IndexByte (s : Bs) (c : Int) : Int := Lib.indexByte s (UInt8.ofNat c.toNat)
def internal_stringslite_Index (s p : Bs) : Int := Lib.indexByte s (p.headD 0)
def internal_stringslite_Cut (s p : Bs) : Bs × Bs × Bool :=
  if 0 ≤ internal_stringslite_Index s p then (s.take (internal_stringslite_Index s p).toNat, s.drop ((internal_stringslite_Index s p).toNat + p.length), true) else (s, [], false)
def strings_Cut (s p : Bs) : Bs × Bs × Bool := internal_stringslite_Cut s p
def law05_awake : Bool := true
/-- conditions -/
def len1 (s : Bs) : Prop := s.length ≤ 1000000
def preOne (s p : Bs) : Prop := p.length = 1 ∧ s.length ≤ 1000000
def preTwo (s p : Bs) : Prop := p.length ≤ 1000000 ∧ s.length ≤ 1000000
def preB (s : Bs) (c : Int) : Prop := s.length ≤ 1000000 ∧ 0 ≤ c ∧ c < 256
def preTok (s : Bs) (k a : Int) : Prop := s.length ≤ 1000000 ∧ 0 ≤ k ∧ k ≤ 10000000 ∧ 0 ≤ a ∧ a ≤ 10000000
def preNum (s : Bs) (lo hi : Int) : Prop := s.length ≤ 1000000 ∧ inR .i64 lo ∧ inR .i64 hi
def preI (n : Int) : Prop := inR .i64 n
def preOf (l : List (List Token_Token)) : Prop := l.length ≤ 10000000 ∧ ∀ r ∈ l, r.length ≤ 10000000
def preJ (l : List (List Token_Token)) : Prop := (token_Join l).length ≤ 10000000
def preRJ (l : List (List Ref05_Token)) : Prop := (ref05_Join l).length ≤ 10000000
end Go.Proofs.YtohbpcjnilefbaaDoor
