/- The specification functions. Definitions. -/
import Derived.Test.YtlpcjbjlgeaapaaTypes
import Derived.Test.YtlpcjbjlgeaapaaPu
set_option linter.all false
namespace Go.Proofs.Ytlpcjbjlgeaapaa
open Go Go.Sv Go.Pu

def ref31_Check (ops states : Int) : Int := if ops < 0 ∨ ops > 64 ∨ states < 1 ∨ states > 32 then 2 else 0
def numbering_Check (s : Numbering_Size) : Int := ref31_Check s.Ops s.States
def numbering_Size_block (s : Numbering_Size) (kind : Int) : Int × Int × Int :=
  if kind = 1 then (0, s.Ops, s.Ops) else if kind = 2 then (IntKind.i64.wrap (s.Ops * s.Ops), 1, s.Ops)
  else (IntKind.i64.wrap (IntKind.i64.wrap (s.Ops * s.Ops) + s.Ops), s.States, IntKind.i64.wrap (s.Ops + 1))
def numbering_Vars (s : Numbering_Size) : Int :=
  if numbering_Check s = 0 then s.Ops * s.Ops + s.Ops + s.States * (s.Ops + 1) else 0
/-- The numbers of names of kind k in rows of m, t of them. -/
def part (k : Int) (m t : Nat) : List Ref31_Name := (List.range t).map fun i => ⟨k, ((i / m : Nat) : Int), ((i % m : Nat) : Int)⟩
def ref31_Names (ops states : Int) : List Ref31_Name :=
  if ref31_Check ops states = 0 then
    part 1 ops.toNat (ops.toNat * ops.toNat) ++ part 2 1 ops.toNat ++ part 3 states.toNat ((ops.toNat + 1) * states.toNat)
  else []
def wide (s : Numbering_Size) (k : Int) : Int := if k = 1 then s.Ops else if k = 2 then 1 else s.States
def tall (s : Numbering_Size) (k : Int) : Int := if k = 1 then s.Ops else if k = 2 then s.Ops else s.Ops + 1
def base (s : Numbering_Size) (k : Int) : Int := if k = 1 then 0 else if k = 2 then s.Ops * s.Ops else s.Ops * s.Ops + s.Ops
def numbering_Var (s : Numbering_Size) (n : Numbering_Name) : Int :=
  if numbering_Check s = 0 ∧ 1 ≤ n.Kind ∧ n.Kind ≤ 3 ∧ 0 ≤ n.A ∧ n.A < tall s n.Kind ∧ 0 ≤ n.B ∧ n.B < wide s n.Kind then base s n.Kind + n.A * wide s n.Kind + n.B + 1 else 0
def numbering_Of (s : Numbering_Size) (v : Int) : Numbering_Name × Bool :=
  if 1 ≤ v ∧ v ≤ numbering_Vars s then
    let x := gi (ref31_Names s.Ops s.States) (v - 1)
    (⟨x.Kind, x.A, x.B⟩, true)
  else (⟨0, 0, 0⟩, false)
def ref31_Var (ops states : Int) (n : Ref31_Name) : Int := numbering_Var ⟨ops, states⟩ ⟨n.Kind, n.A, n.B⟩
def law31_small (s : Numbering_Size) : Bool := (decide (s.Ops ≤ 12)) || (decide (s.Ops > 64))
def law31_awake : Bool := true
def law31_NumberingTells (P : Numbering_Size) (O : Numbering_Name) (S : Int) : Bool := true
def law31_NumberingBack (P : Numbering_Size) (O : Numbering_Name) (S : Int) : Bool := true
def law31_NumberingAll (P : Numbering_Size) (O : Numbering_Name) (S : Numbering_Name) : Bool := true
end Go.Proofs.Ytlpcjbjlgeaapaa
