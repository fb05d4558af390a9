/- The specification functions. Definitions. -/
import Derived.Test.YtlpcjbjlgeaapaaTTypes
import Derived.Test.YtlpcjbjlgeaapaaPu
set_option linter.all false
namespace Go.Proofs.Ytlpcjbjlgeaapaa
open Go Go.Sv Go.Pu

def ref31_Check (ops states : Int) : Int := if ops < 0 ∨ ops > 64 ∨ states < 1 ∨ states > 32 then 2 else 0
def numbering_Check (s : Numbering_Size) : Int := ref31_Check s.Ops s.States
def numbering_Size_block (s : Numbering_Size) (kind : Int) : Int × Int × Int :=
  if kind = 1 then (0, s.Ops, s.Ops) else if kind = 2 then (IntKind.i64.wrap (s.Ops * s.Ops), 1, s.Ops)
  else (IntKind.i64.wrap (IntKind.i64.wrap (s.Ops * s.Ops) + s.Ops), s.States, IntKind.i64.wrap (s.Ops + 1))
def numbering_Vars (s : Numbering_Size) : Int :=
  if numbering_Check s = 0 then s.Ops * s.Ops + s.Ops + s.States * (s.Ops + 1) else 0
/-- The numbers of names of kind k in rows of m, t of them. -/
def part (k : Int) (m t : Nat) : List Ref31_Name := (List.range t).map fun i => ⟨k, ((i / m : Nat) : Int), ((i % m : Nat) : Int)⟩
def ref31_Names (ops states : Int) : List Ref31_Name :=
  if ref31_Check ops states = 0 then
    part 1 ops.toNat (ops.toNat * ops.toNat) ++ part 2 1 ops.toNat ++ part 3 states.toNat ((ops.toNat + 1) * states.toNat)
  else []
def wide (s : Numbering_Size) (k : Int) : Int := if k = 1 then s.Ops else if k = 2 then 1 else s.States
def tall (s : Numbering_Size) (k : Int) : Int := if k = 1 then s.Ops else if k = 2 then s.Ops else s.Ops + 1
def base (s : Numbering_Size) (k : Int) : Int := if k = 1 then 0 else if k = 2 then s.Ops * s.Ops else s.Ops * s.Ops + s.Ops
def numbering_Var (s : Numbering_Size) (n : Numbering_Name) : Int :=
  if numbering_Check s = 0 ∧ 1 ≤ n.Kind ∧ n.Kind ≤ 3 ∧ 0 ≤ n.A ∧ n.A < tall s n.Kind ∧ 0 ≤ n.B ∧ n.B < wide s n.Kind then base s n.Kind + n.A * wide s n.Kind + n.B + 1 else 0
def numbering_Of (s : Numbering_Size) (v : Int) : Numbering_Name × Bool :=
  if 1 ≤ v ∧ v ≤ numbering_Vars s then
    let x := gi (ref31_Names s.Ops s.States) (v - 1)
    (⟨x.Kind, x.A, x.B⟩, true)
  else (⟨0, 0, 0⟩, false)
def ref31_Var (ops states : Int) (n : Ref31_Name) : Int := numbering_Var ⟨ops, states⟩ ⟨n.Kind, n.A, n.B⟩
def negw (x : Int) : Int := IntKind.i64.wrap (0 - x)
def ref01_SameInts (a b : List Int) : Bool := decide (a = b)
def ref03_SameBools (a b : List Bool) : Bool := decide (a = b)
def ref04_SameRows (a b : List (List Int)) : Bool := decide (a = b)
def ref01_Split (l : Int) : Int × Bool := if 0 < l ∧ l ≤ 100000 then (l, true) else if l < 0 ∧ -100000 ≤ l then (0 - l, false) else (0, false)
def litOf (m : List Bool) (l : Int) : Bool := (ref01_Split l).1 != 0 && ((if (ref01_Split l).1 ≤ m.length then gi m ((ref01_Split l).1 - 1) else false) == (ref01_Split l).2)
def ref02_Holds (c : List Int) (m : List Bool) : Bool := c.any (litOf m)
def ref04_First (f : Api_Formula) (m : List Bool) : Int := match f.Clauses.findIdx? (fun c => !ref02_Holds c m) with | some i => (i : Int) | none => -1

/-- Place k of operation a. -/
def place_at (s : Numbering_Size) (a k : Int) : Int := numbering_Var s ⟨1, a, k⟩
def ref31_At (ops states a b : Int) : Int := IntKind.i64.wrap (IntKind.i64.wrap (IntKind.i64.wrap (a * ops) + b) + 1)
def idx (l : List Int) (v : Int) : Int := match l.findIdx? (fun x => x == v) with | some i => (i : Int) | none => -1
def slices_Index_int_int (l : List Int) (v : Int) : Int := idx l v
def ref33_Place (l : List Int) (v : Int) : Int := idx l v
def slices_Contains_int_int (l : List Int) (v : Int) : Bool := decide (v ∈ l)
def times_proper (p : Int × Int) (n : Int) : Bool := decide (0 ≤ p.1 ∧ 0 ≤ p.2 ∧ p.1 < n ∧ p.2 < n ∧ p.1 ≠ p.2)
def times_Sort_1_1 (p : Int × Int) (n x : Int) (out : List Int) : Bool := times_proper p n && (p.2 == x) && !decide (p.1 ∈ out)
def slices_IndexFunc_2_int_2_int_times_Sort_1_1 (l : List (Int × Int)) (n x : Int) (out : List Int) : Int := match l.findIdx? (fun p => times_Sort_1_1 p n x out) with | some i => (i : Int) | none => -1
def slices_ContainsFunc_2_int_2_int_times_Sort_1_1 (l : List (Int × Int)) (n x : Int) (out : List Int) : Bool := l.any (fun p => times_Sort_1_1 p n x out)
def times_Sort_1 (x n : Int) (out : List Int) (pairs : List (Int × Int)) : Bool := decide (x ∈ out) || pairs.any (fun p => times_Sort_1_1 p n x out)
/-- The least number that waits for none. -/
def nextOf (n : Int) (pairs : List (Int × Int)) (out : List Int) : Option Nat := (List.range n.toNat).find? (fun (x : Nat) => !times_Sort_1 x n out pairs)
def sortGo (n : Int) (pairs : List (Int × Int)) : Nat → List Int → List Int × Bool
  | 0, out => (out, true)
  | k + 1, out => match nextOf n pairs out with | none => ([], false) | some x => sortGo n pairs k (out ++ [(x : Int)])
def times_Sort (n : Int) (pairs : List (Int × Int)) : List Int × Bool := if n < 0 ∨ n > 64 then ([], false) else sortGo n pairs n.toNat []
def ref33_Sort (n : Int) (pairs : List (Int × Int)) : List Int × Bool := times_Sort n pairs
def badPair (order : List Int) (p : Int × Int) : Bool := decide (0 ≤ idx order p.1 ∧ 0 ≤ idx order p.2 ∧ idx order p.2 < idx order p.1)
def times_Against_1 (x : Int) (order : List Int) : Int := idx order x
def times_Against (order : List Int) (pairs : List (Int × Int)) : Int × Bool := match pairs.findIdx? (badPair order) with | some i => ((i : Int), false) | none => ((pairs.length : Int), true)
def ref33_Against (order : List Int) (pairs : List (Int × Int)) : Int × Bool := times_Against order pairs
def times_Clauses_1 (a b : Int) (s : Numbering_Size) : Int := place_at s a b
def pairRow (s : Numbering_Size) (p : Int × Int) (a b : Nat) : List Int := [negw (place_at s p.1 a), negw (place_at s p.2 b)]
def pairCl (s : Numbering_Size) (p : Int × Int) (n : Nat) : List (List Int) := (List.range n).flatMap fun a => (List.range a).map (pairRow s p a)
def pairAll (s : Numbering_Size) (p : Int × Int) : List (List Int) := if times_proper p s.Ops = true then pairCl s p s.Ops.toNat else []
def preCl (_ : Numbering_Size) (pairs : List (Int × Int)) : Prop := pairs.length ≤ 1000
def preClR (_ _ : Int) (pairs : List (Int × Int)) : Prop := pairs.length ≤ 1000
def times_Clauses (s : Numbering_Size) (pairs : List (Int × Int)) : List (List Int) := if numbering_Check s = 0 then pairs.flatMap (pairAll s) else []
def ref33_Clauses (ops states : Int) (pairs : List (Int × Int)) : List (List Int) := times_Clauses ⟨ops, states⟩ pairs
def goodOrder (s : Numbering_Size) (order : List Int) : Prop := numbering_Check s = 0 ∧ (order.length : Int) = s.Ops ∧ (∀ a ∈ order, 0 ≤ a ∧ a < s.Ops) ∧ order.Nodup
instance (s : Numbering_Size) (order : List Int) : Decidable (goodOrder s order) := by unfold goodOrder; infer_instance
/-- Variable i is true with the first t places of an order. -/
def bitOf (n : Nat) (order : List Int) (t i : Nat) : Bool := decide (i < n * n ∧ i % n < t) && (gi order ((i % n : Nat) : Int) == ((i / n : Nat) : Int))
def placeBits (s : Numbering_Size) (order : List Int) (t : Nat) : List Bool := (List.range (numbering_Vars s).toNat).map (bitOf s.Ops.toNat order t)
def places_Truths (s : Numbering_Size) (order : List Int) : List Bool × Bool := if goodOrder s order then (placeBits s order order.length, true) else ([], false)
def law33_awake : Bool := true
end Go.Proofs.Ytlpcjbjlgeaapaa
