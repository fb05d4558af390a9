/- The specification functions. Definitions. -/
import Derived.Test.YtlpcjbjlgeaapaaUTypes
import Derived.Test.YtlpcjbjlgeaapaaPu
set_option linter.all false
namespace Go.Proofs.Ytlpcjbjlgeaapaa
open Go Go.Sv Go.Pu

def ref31_Check (ops states : Int) : Int := if ops < 0 ∨ ops > 64 ∨ states < 1 ∨ states > 32 then 2 else 0
def numbering_Check (s : Numbering_Size) : Int := ref31_Check s.Ops s.States
def numbering_Size_block (s : Numbering_Size) (kind : Int) : Int × Int × Int :=
  if kind = 1 then (0, s.Ops, s.Ops) else if kind = 2 then (IntKind.i64.wrap (s.Ops * s.Ops), 1, s.Ops)
  else (IntKind.i64.wrap (IntKind.i64.wrap (s.Ops * s.Ops) + s.Ops), s.States, IntKind.i64.wrap (s.Ops + 1))
def numbering_Vars (s : Numbering_Size) : Int :=
  if numbering_Check s = 0 then s.Ops * s.Ops + s.Ops + s.States * (s.Ops + 1) else 0
/-- The numbers of names of kind k in rows of m, t of them. -/
def part (k : Int) (m t : Nat) : List Ref31_Name := (List.range t).map fun i => ⟨k, ((i / m : Nat) : Int), ((i % m : Nat) : Int)⟩
def ref31_Names (ops states : Int) : List Ref31_Name :=
  if ref31_Check ops states = 0 then
    part 1 ops.toNat (ops.toNat * ops.toNat) ++ part 2 1 ops.toNat ++ part 3 states.toNat ((ops.toNat + 1) * states.toNat)
  else []
def wide (s : Numbering_Size) (k : Int) : Int := if k = 1 then s.Ops else if k = 2 then 1 else s.States
def tall (s : Numbering_Size) (k : Int) : Int := if k = 1 then s.Ops else if k = 2 then s.Ops else s.Ops + 1
def base (s : Numbering_Size) (k : Int) : Int := if k = 1 then 0 else if k = 2 then s.Ops * s.Ops else s.Ops * s.Ops + s.Ops
def numbering_Var (s : Numbering_Size) (n : Numbering_Name) : Int :=
  if numbering_Check s = 0 ∧ 1 ≤ n.Kind ∧ n.Kind ≤ 3 ∧ 0 ≤ n.A ∧ n.A < tall s n.Kind ∧ 0 ≤ n.B ∧ n.B < wide s n.Kind then base s n.Kind + n.A * wide s n.Kind + n.B + 1 else 0
def numbering_Of (s : Numbering_Size) (v : Int) : Numbering_Name × Bool :=
  if 1 ≤ v ∧ v ≤ numbering_Vars s then
    let x := gi (ref31_Names s.Ops s.States) (v - 1)
    (⟨x.Kind, x.A, x.B⟩, true)
  else (⟨0, 0, 0⟩, false)
def ref31_Var (ops states : Int) (n : Ref31_Name) : Int := numbering_Var ⟨ops, states⟩ ⟨n.Kind, n.A, n.B⟩
def negw (x : Int) : Int := IntKind.i64.wrap (0 - x)
def ref01_SameInts (a b : List Int) : Bool := decide (a = b)
def ref04_SameRows (a b : List (List Int)) : Bool := decide (a = b)
/-- Place k of operation a. -/
def place_at (s : Numbering_Size) (a k : Int) : Int := numbering_Var s ⟨1, a, k⟩
def idx (l : List Int) (v : Int) : Int := match l.findIdx? (fun x => x == v) with | some i => (i : Int) | none => -1
def slices_Index_int_int (l : List Int) (v : Int) : Int := idx l v
def slices_Contains_int_int (l : List Int) (v : Int) : Bool := decide (v ∈ l)
def times_proper (p : Int × Int) (n : Int) : Bool := decide (0 ≤ p.1 ∧ 0 ≤ p.2 ∧ p.1 < n ∧ p.2 < n ∧ p.1 ≠ p.2)
def times_Sort_1_1 (p : Int × Int) (n x : Int) (out : List Int) : Bool := times_proper p n && (p.2 == x) && !decide (p.1 ∈ out)
def slices_IndexFunc_2_int_2_int_times_Sort_1_1 (l : List (Int × Int)) (n x : Int) (out : List Int) : Int := match l.findIdx? (fun p => times_Sort_1_1 p n x out) with | some i => (i : Int) | none => -1
def slices_ContainsFunc_2_int_2_int_times_Sort_1_1 (l : List (Int × Int)) (n x : Int) (out : List Int) : Bool := l.any (fun p => times_Sort_1_1 p n x out)
def times_Sort_1 (x n : Int) (out : List Int) (pairs : List (Int × Int)) : Bool := decide (x ∈ out) || pairs.any (fun p => times_Sort_1_1 p n x out)
/-- The least number that waits for none. -/
def nextOf (n : Int) (pairs : List (Int × Int)) (out : List Int) : Option Nat := (List.range n.toNat).find? (fun (x : Nat) => !times_Sort_1 x n out pairs)
def sortGo (n : Int) (pairs : List (Int × Int)) : Nat → List Int → List Int × Bool
  | 0, out => (out, true)
  | k + 1, out => match nextOf n pairs out with | none => ([], false) | some x => sortGo n pairs k (out ++ [(x : Int)])
def times_Sort (n : Int) (pairs : List (Int × Int)) : List Int × Bool := if n < 0 ∨ n > 64 then ([], false) else sortGo n pairs n.toNat []
def badPair (order : List Int) (p : Int × Int) : Bool := decide (0 ≤ idx order p.1 ∧ 0 ≤ idx order p.2 ∧ idx order p.2 < idx order p.1)
def times_Against_1 (x : Int) (order : List Int) : Int := idx order x
def times_Against (order : List Int) (pairs : List (Int × Int)) : Int × Bool := match pairs.findIdx? (badPair order) with | some i => ((i : Int), false) | none => ((pairs.length : Int), true)
def times_Clauses_1 (a b : Int) (s : Numbering_Size) : Int := place_at s a b
def pairRow (s : Numbering_Size) (p : Int × Int) (a b : Nat) : List Int := [negw (place_at s p.1 a), negw (place_at s p.2 b)]
def pairCl (s : Numbering_Size) (p : Int × Int) (n : Nat) : List (List Int) := (List.range n).flatMap fun a => (List.range a).map (pairRow s p a)
def pairAll (s : Numbering_Size) (p : Int × Int) : List (List Int) := if times_proper p s.Ops = true then pairCl s p s.Ops.toNat else []
def preCl (_ : Numbering_Size) (pairs : List (Int × Int)) : Prop := pairs.length ≤ 1000
def times_Clauses (s : Numbering_Size) (pairs : List (Int × Int)) : List (List Int) := if numbering_Check s = 0 then pairs.flatMap (pairAll s) else []
def oper_ended (o : Api_Oper) : Bool := if o.End = -1 then o.Result == -1 else decide (o.End > o.Start) && decide (o.End ≤ 9999) && decide (o.Result ≥ 0) && decide (o.Result ≤ 1000000)
def oper_alone (o : Api_Oper) : Int := if o.Prc < 1 ∨ o.Prc > 1000 ∨ o.Start < 0 ∨ o.Start > 9999 then 2 else if o.Kind < 0 ∨ o.Kind ≥ 64 then 31 else if oper_ended o = false then 7 else 0
def oper_Ahead (a b : Api_Oper) : Bool := decide (a.End ≥ 0) && decide (a.End < b.Start)
def usedBy (u : List (Int × Int)) (k : Int) : Int := (mget u k).getD 0
def use (u : List (Int × Int)) (k : Int) : List (Int × Int) := mput u k (IntKind.i64.wrap (usedBy u k + 1))
def out32 (l : List Api_Oper) (u : List (Int × Int)) (i : Nat) : Prop := (0 < i ∧ (gi l (i : Int)).Start ≤ (gi l ((i : Int) - 1)).Start) ∨ usedBy u (gi l (i : Int)).Start > 0 ∨ ((gi l (i : Int)).End ≥ 0 ∧ usedBy u (gi l (i : Int)).End > 0)
instance (l : List Api_Oper) (u : List (Int × Int)) (i : Nat) : Decidable (out32 l u i) := by unfold out32; infer_instance
def out33 (l : List Api_Oper) (la : List (Int × Api_Oper)) (i : Nat) : Bool := (mget la (gi l (i : Int)).Prc).isSome && !oper_Ahead ((mget la (gi l (i : Int)).Prc).getD ⟨0, 0, 0, 0, 0⟩) (gi l (i : Int))
def usedNext (l : List Api_Oper) (u : List (Int × Int)) (i : Nat) : List (Int × Int) := if (gi l (i : Int)).End ≥ 0 then use (use u (gi l (i : Int)).Start) (gi l (i : Int)).End else use u (gi l (i : Int)).Start
def checkGo (l : List Api_Oper) : Nat → List (Int × Int) → List (Int × Api_Oper) → Nat → Int × Int
  | 0, _, _, _ => ((l.length : Int), 0)
  | f + 1, u, la, i =>
    if oper_alone (gi l (i : Int)) ≠ 0 then ((i : Int), oper_alone (gi l (i : Int)))
    else if out32 l u i then ((i : Int), 32)
    else if out33 l la i = true then ((i : Int), 33)
    else checkGo l f (usedNext l u i) (mput la (gi l (i : Int)).Prc (gi l (i : Int))) (i + 1)
def oper_Check (l : List Api_Oper) : Int × Int := if l.length > 5000 then (0, 3) else checkGo l l.length [] [] 0
def pairsOf (l : List Api_Oper) (i t : Nat) : List (Int × Int) := ((List.range t).filter (fun (j : Nat) => oper_Ahead (gi l (i : Int)) (gi l (j : Int)))).map (fun (j : Nat) => ((i : Int), (j : Int)))
def oper_Pairs (l : List Api_Oper) : List (Int × Int) := (List.range l.length).flatMap (fun i => pairsOf l i l.length)
def prePairs (l : List Api_Oper) : Prop := l.length ≤ 5000
def law33_awake : Bool := true
end Go.Proofs.Ytlpcjbjlgeaapaa
