/- The specification functions. Definitions. -/
import Derived.Test.YtlpcjbjlgeaapaaSTypes
import Derived.Test.YtlpcjbjlgeaapaaPu
set_option linter.all false
namespace Go.Proofs.Ytlpcjbjlgeaapaa
open Go Go.Sv Go.Pu

def ref31_Check (ops states : Int) : Int := if ops < 0 ∨ ops > 64 ∨ states < 1 ∨ states > 32 then 2 else 0
def numbering_Check (s : Numbering_Size) : Int := ref31_Check s.Ops s.States
def numbering_Size_block (s : Numbering_Size) (kind : Int) : Int × Int × Int :=
  if kind = 1 then (0, s.Ops, s.Ops) else if kind = 2 then (IntKind.i64.wrap (s.Ops * s.Ops), 1, s.Ops)
  else (IntKind.i64.wrap (IntKind.i64.wrap (s.Ops * s.Ops) + s.Ops), s.States, IntKind.i64.wrap (s.Ops + 1))
def numbering_Vars (s : Numbering_Size) : Int :=
  if numbering_Check s = 0 then s.Ops * s.Ops + s.Ops + s.States * (s.Ops + 1) else 0
/-- The numbers of names of kind k in rows of m, t of them. -/
def part (k : Int) (m t : Nat) : List Ref31_Name := (List.range t).map fun i => ⟨k, ((i / m : Nat) : Int), ((i % m : Nat) : Int)⟩
def ref31_Names (ops states : Int) : List Ref31_Name :=
  if ref31_Check ops states = 0 then
    part 1 ops.toNat (ops.toNat * ops.toNat) ++ part 2 1 ops.toNat ++ part 3 states.toNat ((ops.toNat + 1) * states.toNat)
  else []
def wide (s : Numbering_Size) (k : Int) : Int := if k = 1 then s.Ops else if k = 2 then 1 else s.States
def tall (s : Numbering_Size) (k : Int) : Int := if k = 1 then s.Ops else if k = 2 then s.Ops else s.Ops + 1
def base (s : Numbering_Size) (k : Int) : Int := if k = 1 then 0 else if k = 2 then s.Ops * s.Ops else s.Ops * s.Ops + s.Ops
def numbering_Var (s : Numbering_Size) (n : Numbering_Name) : Int :=
  if numbering_Check s = 0 ∧ 1 ≤ n.Kind ∧ n.Kind ≤ 3 ∧ 0 ≤ n.A ∧ n.A < tall s n.Kind ∧ 0 ≤ n.B ∧ n.B < wide s n.Kind then base s n.Kind + n.A * wide s n.Kind + n.B + 1 else 0
def numbering_Of (s : Numbering_Size) (v : Int) : Numbering_Name × Bool :=
  if 1 ≤ v ∧ v ≤ numbering_Vars s then
    let x := gi (ref31_Names s.Ops s.States) (v - 1)
    (⟨x.Kind, x.A, x.B⟩, true)
  else (⟨0, 0, 0⟩, false)
def ref31_Var (ops states : Int) (n : Ref31_Name) : Int := numbering_Var ⟨ops, states⟩ ⟨n.Kind, n.A, n.B⟩





def states_at (s : Numbering_Size) (a b : Int) : Int := numbering_Var s ⟨3, a, b⟩
def ref31_State (ops states a b : Int) : Int := IntKind.i64.wrap ((IntKind.i64.wrap ((IntKind.i64.wrap ((IntKind.i64.wrap ((IntKind.i64.wrap (ops * ops)) + ops)) + (IntKind.i64.wrap (a * states)))) + b)) + 1)
/-- Is state b of place a set? -/
def on (s : Numbering_Size) (m : List Bool) (a b : Int) : Bool := gi m (states_at s a b - 1)
/-- The states of place a that are set, below t. -/
def trues (s : Numbering_Size) (m : List Bool) (a : Int) (t : Nat) : List Int := ((List.range t).map Int.ofNat).filter (on s m a)
def preRow1 (a : Int) (s : Numbering_Size) (m : List Bool) (_ok : Bool) : Prop := numbering_Check s = 0 ∧ (m.length : Int) = numbering_Vars s ∧ 0 ≤ a ∧ a ≤ s.Ops
def states_Row_1 (a : Int) (s : Numbering_Size) (m : List Bool) (ok : Bool) : Int × Bool := ((trues s m a s.States.toNat).getLastD 0, ok && ((trues s m a s.States.toNat).length == 1))
def preEach (n : Int) (s : Numbering_Size) (m : List Bool) (_ok : Bool) : Prop := numbering_Check s = 0 ∧ (m.length : Int) = numbering_Vars s ∧ n = s.Ops + 1
def lastOf (s : Numbering_Size) (m : List Bool) (a : Nat) : Int := (trues s m a s.States.toNat).getLastD 0
def oneOf (s : Numbering_Size) (m : List Bool) (a : Nat) : Bool := (trues s m a s.States.toNat).length == 1
def states_each_int_states_Row_1 (n : Int) (s : Numbering_Size) (m : List Bool) (ok : Bool) : List Int × Bool := ((List.range n.toNat).map (lastOf s m), ok && (List.range n.toNat).all (oneOf s m))
def states_Row (s : Numbering_Size) (m : List Bool) : List Int × Bool :=
  if numbering_Check s = 0 ∧ (m.length : Int) = numbering_Vars s ∧ (List.range (s.Ops + 1).toNat).all (oneOf s m) = true then ((List.range (s.Ops + 1).toNat).map (lastOf s m), true) else ([], false)
def ref34_Row (ops states : Int) (m : List Bool) : List Int × Bool := states_Row ⟨ops, states⟩ m
def negw (x : Int) : Int := IntKind.i64.wrap (0 - x)
def most : List Int → List (List Int)
  | [] => []
  | x :: r => r.map (fun y => [negw x, negw y]) ++ most r
def preMost (l : List Int) : Prop := l.length ≤ 1000000
def places_Most (l : List Int) : List (List Int) := most l
def ref32_Most (l : List Int) : List (List Int) := most l
def states_Clauses_1 (b : Int) (s : Numbering_Size) (a : Int) : Int := states_at s a b
def preEachC (n : Int) (_s : Numbering_Size) (_a : Int) : Prop := 0 ≤ n ∧ n ≤ 1000
def rowAt (s : Numbering_Size) (a : Int) (n : Nat) : List Int := (List.range n).map fun (b : Nat) => states_at s a (b : Int)
def states_each_int_states_Clauses_1 (n : Int) (s : Numbering_Size) (a : Int) : List Int := rowAt s a n.toNat
def blk (s : Numbering_Size) (a : Nat) : List (List Int) := rowAt s (a : Int) s.States.toNat :: most (rowAt s (a : Int) s.States.toNat)
def states_Clauses (s : Numbering_Size) (init : Int) : List (List Int) :=
  if numbering_Check s = 0 ∧ 0 ≤ init ∧ init < s.States then [states_at s 0 init] :: (List.range (s.Ops + 1).toNat).flatMap (blk s) else []
def ref34_Clauses (ops states init : Int) : List (List Int) := states_Clauses ⟨ops, states⟩ init
def goodRow (s : Numbering_Size) (row : List Int) : Prop := numbering_Check s = 0 ∧ (row.length : Int) = s.Ops + 1 ∧ ∀ b ∈ row, 0 ≤ b ∧ b < s.States
instance (s : Numbering_Size) (row : List Int) : Decidable (goodRow s row) := by unfold goodRow; infer_instance
def cellsOf (st : Nat) (b : Int) : List Bool := (List.range st).map fun (x : Nat) => ((x : Int) == b)
def states_Truths (s : Numbering_Size) (row : List Int) : List Bool × Bool :=
  if goodRow s row then (List.replicate (s.Ops * s.Ops + s.Ops).toNat false ++ row.flatMap (cellsOf s.States.toNat), true) else ([], false)
def ref34_Truths (ops states : Int) (row : List Int) : List Bool × Bool := states_Truths ⟨ops, states⟩ row
def ref01_SameInts (a b : List Int) : Bool := decide (a = b)
def ref03_SameBools (a b : List Bool) : Bool := decide (a = b)
def ref04_SameRows (a b : List (List Int)) : Bool := decide (a = b)
def ref01_Split (l : Int) : Int × Bool := if 0 < l ∧ l ≤ 100000 then (l, true) else if l < 0 ∧ -100000 ≤ l then (0 - l, false) else (0, false)
def litOf (m : List Bool) (l : Int) : Bool := (ref01_Split l).1 != 0 && ((if (ref01_Split l).1 ≤ m.length then gi m ((ref01_Split l).1 - 1) else false) == (ref01_Split l).2)
def ref02_Holds (c : List Int) (m : List Bool) : Bool := c.any (litOf m)
def ref04_First (f : Api_Formula) (m : List Bool) : Int := match f.Clauses.findIdx? (fun c => !ref02_Holds c m) with | some i => (i : Int) | none => -1
def law34_awake : Bool := true
def law34_StatesTells (P : Numbering_Size) (O : List Bool) (S : List Int) : Bool := true
def law34_StatesOne (P : Numbering_Size) (O : Int) (S : List Bool) : Bool := true
def law34_StatesCounts (P : Numbering_Size) (O : List Int) : Bool := true
end Go.Proofs.Ytlpcjbjlgeaapaa
