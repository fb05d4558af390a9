/- The specification functions. Definitions. -/
import Derived.Test.YtlpcjbjlgeaapaaPTypes
import Derived.Test.YtlpcjbjlgeaapaaPu
set_option linter.all false
namespace Go.Proofs.Ytlpcjbjlgeaapaa
open Go Go.Sv Go.Pu

def ref31_Check (ops states : Int) : Int := if ops < 0 ∨ ops > 64 ∨ states < 1 ∨ states > 32 then 2 else 0
def numbering_Check (s : Numbering_Size) : Int := ref31_Check s.Ops s.States
def numbering_Size_block (s : Numbering_Size) (kind : Int) : Int × Int × Int :=
  if kind = 1 then (0, s.Ops, s.Ops) else if kind = 2 then (IntKind.i64.wrap (s.Ops * s.Ops), 1, s.Ops)
  else (IntKind.i64.wrap (IntKind.i64.wrap (s.Ops * s.Ops) + s.Ops), s.States, IntKind.i64.wrap (s.Ops + 1))
def numbering_Vars (s : Numbering_Size) : Int :=
  if numbering_Check s = 0 then s.Ops * s.Ops + s.Ops + s.States * (s.Ops + 1) else 0
/-- The numbers of names of kind k in rows of m, t of them. -/
def part (k : Int) (m t : Nat) : List Ref31_Name := (List.range t).map fun i => ⟨k, ((i / m : Nat) : Int), ((i % m : Nat) : Int)⟩
def ref31_Names (ops states : Int) : List Ref31_Name :=
  if ref31_Check ops states = 0 then
    part 1 ops.toNat (ops.toNat * ops.toNat) ++ part 2 1 ops.toNat ++ part 3 states.toNat ((ops.toNat + 1) * states.toNat)
  else []
def wide (s : Numbering_Size) (k : Int) : Int := if k = 1 then s.Ops else if k = 2 then 1 else s.States
def tall (s : Numbering_Size) (k : Int) : Int := if k = 1 then s.Ops else if k = 2 then s.Ops else s.Ops + 1
def base (s : Numbering_Size) (k : Int) : Int := if k = 1 then 0 else if k = 2 then s.Ops * s.Ops else s.Ops * s.Ops + s.Ops
def numbering_Var (s : Numbering_Size) (n : Numbering_Name) : Int :=
  if numbering_Check s = 0 ∧ 1 ≤ n.Kind ∧ n.Kind ≤ 3 ∧ 0 ≤ n.A ∧ n.A < tall s n.Kind ∧ 0 ≤ n.B ∧ n.B < wide s n.Kind then base s n.Kind + n.A * wide s n.Kind + n.B + 1 else 0
def numbering_Of (s : Numbering_Size) (v : Int) : Numbering_Name × Bool :=
  if 1 ≤ v ∧ v ≤ numbering_Vars s then
    let x := gi (ref31_Names s.Ops s.States) (v - 1)
    (⟨x.Kind, x.A, x.B⟩, true)
  else (⟨0, 0, 0⟩, false)
def ref31_Var (ops states : Int) (n : Ref31_Name) : Int := numbering_Var ⟨ops, states⟩ ⟨n.Kind, n.A, n.B⟩
def negw (x : Int) : Int := IntKind.i64.wrap (0 - x)
def most : List Int → List (List Int)
  | [] => []
  | x :: r => r.map (fun y => [negw x, negw y]) ++ most r
def preMost (l : List Int) : Prop := l.length ≤ 1000000
def places_Most (l : List Int) : List (List Int) := most l
def ref32_Most (l : List Int) : List (List Int) := most l
def ref01_SameInts (a b : List Int) : Bool := decide (a = b)
def ref03_SameBools (a b : List Bool) : Bool := decide (a = b)
def ref04_SameRows (a b : List (List Int)) : Bool := decide (a = b)
def ref01_Split (l : Int) : Int × Bool := if 0 < l ∧ l ≤ 100000 then (l, true) else if l < 0 ∧ -100000 ≤ l then (0 - l, false) else (0, false)
def litOf (m : List Bool) (l : Int) : Bool := (ref01_Split l).1 != 0 && ((if (ref01_Split l).1 ≤ m.length then gi m ((ref01_Split l).1 - 1) else false) == (ref01_Split l).2)
def ref02_Holds (c : List Int) (m : List Bool) : Bool := c.any (litOf m)
def ref04_First (f : Api_Formula) (m : List Bool) : Int := match f.Clauses.findIdx? (fun c => !ref02_Holds c m) with | some i => (i : Int) | none => -1
/-- Place k of operation a. -/
def place_at (s : Numbering_Size) (a k : Int) : Int := numbering_Var s ⟨1, a, k⟩
def ref31_At (ops states a b : Int) : Int := IntKind.i64.wrap (IntKind.i64.wrap (IntKind.i64.wrap (a * ops) + b) + 1)
def idx (l : List Int) (v : Int) : Int := match l.findIdx? (fun x => x == v) with | some i => (i : Int) | none => -1
def slices_Index_int_int (l : List Int) (v : Int) : Int := idx l v
def slices_Contains_int_int (l : List Int) (v : Int) : Bool := decide (v ∈ l)
def goodOrder (s : Numbering_Size) (order : List Int) : Prop := numbering_Check s = 0 ∧ (order.length : Int) = s.Ops ∧ (∀ a ∈ order, 0 ≤ a ∧ a < s.Ops) ∧ order.Nodup
instance (s : Numbering_Size) (order : List Int) : Decidable (goodOrder s order) := by unfold goodOrder; infer_instance
/-- Variable i is true with the first t places of an order. -/
def bitOf (n : Nat) (order : List Int) (t i : Nat) : Bool := decide (i < n * n ∧ i % n < t) && (gi order ((i % n : Nat) : Int) == ((i / n : Nat) : Int))
def placeBits (s : Numbering_Size) (order : List Int) (t : Nat) : List Bool := (List.range (numbering_Vars s).toNat).map (bitOf s.Ops.toNat order t)
def places_Truths (s : Numbering_Size) (order : List Int) : List Bool × Bool := if goodOrder s order then (placeBits s order order.length, true) else ([], false)
def ref32_Truths (ops states : Int) (order : List Int) : List Bool × Bool := places_Truths ⟨ops, states⟩ order
/-- Is operation a at place k? -/
def pon (s : Numbering_Size) (m : List Bool) (a k : Int) : Bool := gi m (place_at s a k - 1)
/-- The numbers below t that p selects. -/
def sel (t : Nat) (p : Int → Bool) : List Int := ((List.range t).map Int.ofNat).filter p
def matOK (s : Numbering_Size) (m : List Bool) : Prop := numbering_Check s = 0 ∧ (m.length : Int) = numbering_Vars s ∧ (∀ a ∈ List.range s.Ops.toNat, (sel s.Ops.toNat (pon s m (a : Nat))).length = 1) ∧ ∀ k ∈ List.range s.Ops.toNat, (sel s.Ops.toNat (fun a => pon s m a (k : Nat))).length = 1
instance (s : Numbering_Size) (m : List Bool) : Decidable (matOK s m) := by unfold matOK; infer_instance
def who (s : Numbering_Size) (m : List Bool) (t : Nat) (k : Nat) : Int := (sel t (fun a => pon s m a k)).getLastD (-1)
def places_Order (s : Numbering_Size) (m : List Bool) : List Int × Bool := if matOK s m then ((List.range s.Ops.toNat).map (who s m s.Ops.toNat), true) else ([], false)
def ref32_Order (ops states : Int) (m : List Bool) : List Int × Bool := places_Order ⟨ops, states⟩ m
def places_Clauses_1 (k a : Int) : Numbering_Name := ⟨1, a, k⟩
def places_Clauses_2 (a k : Int) : Numbering_Name := ⟨1, a, k⟩
def prow (s : Numbering_Size) (a : Int) (t : Nat) : List Int := (List.range t).map fun (k : Nat) => place_at s a (k : Int)
def pcol (s : Numbering_Size) (k : Int) (t : Nat) : List Int := (List.range t).map fun (a : Nat) => place_at s (a : Int) k
def preRowP (s : Numbering_Size) (_ : Int) : Prop := 0 ≤ s.Ops ∧ s.Ops ≤ 64
def places_row_places_Clauses_1 (s : Numbering_Size) (a : Int) : List Int := prow s a s.Ops.toNat
def places_row_places_Clauses_2 (s : Numbering_Size) (k : Int) : List Int := pcol s k s.Ops.toNat
def blkP (s : Numbering_Size) (a : Nat) : List (List Int) := prow s a s.Ops.toNat :: most (prow s a s.Ops.toNat)
def blkC (s : Numbering_Size) (k : Nat) : List (List Int) := most (pcol s k s.Ops.toNat)
def places_Clauses (s : Numbering_Size) : List (List Int) := if numbering_Check s = 0 then (List.range s.Ops.toNat).flatMap (blkP s) ++ (List.range s.Ops.toNat).flatMap (blkC s) else []
def ref32_Clauses (ops states : Int) : List (List Int) := places_Clauses ⟨ops, states⟩
def preMul (x y : Int) : Prop := 0 ≤ x ∧ x ≤ 1 ∧ 0 ≤ y ∧ y ≤ 1000
def math_bits_Mul64 (x y : Int) : Int × Int := (0, x * y)
def math_bits_Mul (x y : Int) : Int × Int := (0, x * y)
def preRep (l : List Int) (n : Int) : Prop := l.length = 1 ∧ 0 ≤ n ∧ n ≤ 1000
def slices_Repeat_int_int (l : List Int) (n : Int) : List Int := List.replicate n.toNat (gi l 0)
def law32_two : Numbering_Size := ⟨2, 1⟩
def law32_awake : Bool := true
end Go.Proofs.Ytlpcjbjlgeaapaa
