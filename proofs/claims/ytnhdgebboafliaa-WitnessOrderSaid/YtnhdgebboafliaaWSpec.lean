/- The specification functions. Definitions. -/
import Derived.Test.YtnhdgebboafliaaWTypes
import Derived.Test.YtnhdgebboafliaaPu
set_option linter.all false
namespace Go.Proofs.Ytnhdgebboafliaa
open Go Go.Sv Go.Pu

def law23_Few (o : Api_Object) : Bool := decide (o.Rows.length ≤ 300)
def ref01_SameInts (a b : List Int) : Bool := decide (a = b)
def headBad (o : Api_Object) : Prop := o.States < 1 ∨ o.States > 32 ∨ o.Kinds < 1 ∨ o.Kinds > 64 ∨ o.Init < 0 ∨ o.Init ≥ o.States
instance (o : Api_Object) : Decidable (headBad o) := by unfold headBad; infer_instance
def rowOrder (o : Api_Object) (i : Int) : Prop := i > 0 ∧ ((gi o.Rows (i - 1)).State > (gi o.Rows i).State ∨ ((gi o.Rows (i - 1)).State = (gi o.Rows i).State ∧ (gi o.Rows (i - 1)).Kind ≥ (gi o.Rows i).Kind))
instance (o : Api_Object) (i : Int) : Decidable (rowOrder o i) := by unfold rowOrder; infer_instance
def rowErr (o : Api_Object) (i : Int) : Int :=
  if (gi o.Rows i).State < 0 ∨ (gi o.Rows i).State ≥ o.States ∨ (gi o.Rows i).Next < 0 ∨ (gi o.Rows i).Next ≥ o.States then 30
  else if (gi o.Rows i).Kind < 0 ∨ (gi o.Rows i).Kind ≥ o.Kinds then 31
  else if (gi o.Rows i).Result < 0 ∨ (gi o.Rows i).Result > 1000000 then 7
  else if rowOrder o i then 32 else 0
def rowsGo (o : Api_Object) : Nat → Nat → Int × Int
  | 0, i => ((i : Int), 0)
  | k + 1, i => if rowErr o i ≠ 0 then ((i : Int), rowErr o i) else rowsGo o k (i + 1)
def ref23_Check (o : Api_Object) : Int × Int := if headBad o then (-1, 2) else rowsGo o o.Rows.length 0
def object_Check (o : Api_Object) : Int × Int := ref23_Check o
def object_row (o : Api_Object) (i : Int) : Int := rowErr o i
def preRow (o : Api_Object) (i : Int) : Prop := 0 ≤ i ∧ i < o.Rows.length
def ref23_Move (o : Api_Object) (state kind : Int) : Int × Int × Bool := match o.Rows.find? (fun r => r.State == state && r.Kind == kind) with | some r => (r.Next, r.Result, true) | none => (0, 0, false)
def object_Move (o : Api_Object) (state kind : Int) : Int × Int × Bool := ref23_Move o state kind
def object_Move_1 (r : Api_Row) (state kind : Int) : Bool := r.State == state && r.Kind == kind
def slices_IndexFunc_api_Row_api_Row_object_Move_1 (l : List Api_Row) (state kind : Int) : Int := match l.findIdx? (fun r => r.State == state && r.Kind == kind) with | some i => (i : Int) | none => -1
def run_table_move (t : Run_table) (state kind : Int) : Int × Int × Bool := object_Move t.o state kind
def ref28_Step (o : Api_Object) (state kind result : Int) : Int × Int :=
  if state < 0 ∨ state ≥ o.States then (0, 30) else if (ref23_Move o state kind).2.2 = false ∨ (ref23_Move o state kind).2.1 ≠ result then (0, 40) else ((ref23_Move o state kind).1, 0)
def run_Step (o : Api_Object) (state kind result : Int) : Int × Int := ref28_Step o state kind result
def cmp_isNaN_int (_ : Int) : Bool := false
def cmp_Compare_int (x y : Int) : Int := if x < y then -1 else if x > y then 1 else 0
def cmp_Or_int (l : List Int) : Int := (l.find? (fun x => x != 0)).getD 0
def object_place (a b : Api_Row) : Int := cmp_Or_int [cmp_Compare_int a.State b.State, cmp_Compare_int a.Kind b.Kind]
def object_within (n top : Int) : Bool := decide (n ≥ 0) && decide (n < top)
def run_may (o : Api_Object) (state : Int) : Int := if (ref23_Check o).2 ≠ 0 then 2 else if state < 0 ∨ state ≥ o.States then 30 else 0
def run_runner (o : Api_Object) (l : List Api_Oper) (state : Int) : List Api_Oper × List (Int × Int) × Api_Object × Int := (l, [], o, state)
/-- One pick behind those that are done: the next state, and what is wrong. -/
def tailErr (o : Api_Object) (l : List Api_Oper) (s : Int) (p : Api_Pick) : Int :=
  if (ref28_Step o s (gi l p.Oper).Kind p.Result).2 = 0 ∧ (gi l p.Oper).End ≠ -1 ∧ (gi l p.Oper).Result ≠ p.Result then 40 else (ref28_Step o s (gi l p.Oper).Kind p.Result).2
def tail1 (o : Api_Object) (l : List Api_Oper) (s : Int) (p : Api_Pick) : Int × Int :=
  if tailErr o l s p ≠ 0 then (0, tailErr o l s p) else ((ref28_Step o s (gi l p.Oper).Kind p.Result).1, 0)
def stepOne (o : Api_Object) (l : List Api_Oper) (prev : List Int) (s : Int) (p : Api_Pick) : Int × Int :=
  if p.Oper < 0 ∨ p.Oper ≥ l.length then (0, 2) else if p.Oper ∈ prev then (0, 21) else tail1 o l s p
def usedUp (u : List (Int × Int)) (k : Int) : List (Int × Int) := mput u k (IntKind.i64.wrap ((mget u k).getD 0 + 1))
def run_runner_1 (p : Api_Pick) (l : List Api_Oper) (u : List (Int × Int)) (o : Api_Object) (s : Int) : Int × Int × List (Int × Int) × Int :=
  if p.Oper < 0 ∨ p.Oper ≥ l.length then (0, 2, u, s) else if (mget u p.Oper).getD 0 > 0 then (0, 21, u, s)
  else if (tail1 o l s p).2 ≠ 0 then (0, (tail1 o l s p).2, usedUp u p.Oper, s) else ((tail1 o l s p).1, 0, usedUp u p.Oper, (tail1 o l s p).1)
def runL (o : Api_Object) (l : List Api_Oper) : List Int → Int → List Api_Pick → Int × Int × Int
  | _, s, [] => (s, 0, 0)
  | prev, s, p :: ps => if (stepOne o l prev s p).2 ≠ 0 then (0, 0, (stepOne o l prev s p).2)
    else ((runL o l (p.Oper :: prev) (stepOne o l prev s p).1 ps).1, (runL o l (p.Oper :: prev) (stepOne o l prev s p).1 ps).2.1 + 1, (runL o l (p.Oper :: prev) (stepOne o l prev s p).1 ps).2.2)
def ref28_From (o : Api_Object) (l : List Api_Oper) (state : Int) (picks : List Api_Pick) : Int × Int × Int :=
  if run_may o state ≠ 0 then (0, -1, run_may o state) else runL o l [] state picks
def run_From (o : Api_Object) (l : List Api_Oper) (state : Int) (picks : List Api_Pick) : Int × Int × Int := ref28_From o l state picks
def run_Picks (o : Api_Object) (l : List Api_Oper) (picks : List Api_Pick) : Int × Int × Int := ref28_From o l o.Init picks
def preO (o : Api_Object) : Prop := inR .i64 o.States ∧ inR .i64 o.Kinds
def preO1 (o : Api_Object) (_ : Int) : Prop := preO o
def preO3 (o : Api_Object) (_ : List Api_Oper) (_ : Int) (_ : List Api_Pick) : Prop := preO o
def preO2 (o : Api_Object) (_ : List Api_Oper) (x : List Api_Pick) : Prop := preO o ∧ x.length ≤ 1000000
def oper_ended (o : Api_Oper) : Bool := if o.End = -1 then o.Result == -1 else decide (o.End > o.Start) && decide (o.End ≤ 9999) && decide (o.Result ≥ 0) && decide (o.Result ≤ 1000000)
def oper_alone (o : Api_Oper) : Int := if o.Prc < 1 ∨ o.Prc > 1000 ∨ o.Start < 0 ∨ o.Start > 9999 then 2 else if o.Kind < 0 ∨ o.Kind ≥ 64 then 31 else if oper_ended o = false then 7 else 0
def oper_Ahead (a b : Api_Oper) : Bool := decide (a.End ≥ 0) && decide (a.End < b.Start)
def usedBy (u : List (Int × Int)) (k : Int) : Int := (mget u k).getD 0
def use (u : List (Int × Int)) (k : Int) : List (Int × Int) := mput u k (IntKind.i64.wrap (usedBy u k + 1))
def out32 (l : List Api_Oper) (u : List (Int × Int)) (i : Nat) : Prop := (0 < i ∧ (gi l (i : Int)).Start ≤ (gi l ((i : Int) - 1)).Start) ∨ usedBy u (gi l (i : Int)).Start > 0 ∨ ((gi l (i : Int)).End ≥ 0 ∧ usedBy u (gi l (i : Int)).End > 0)
instance (l : List Api_Oper) (u : List (Int × Int)) (i : Nat) : Decidable (out32 l u i) := by unfold out32; infer_instance
def out33 (l : List Api_Oper) (la : List (Int × Api_Oper)) (i : Nat) : Bool := (mget la (gi l (i : Int)).Prc).isSome && !oper_Ahead ((mget la (gi l (i : Int)).Prc).getD ⟨0, 0, 0, 0, 0⟩) (gi l (i : Int))
def usedNext (l : List Api_Oper) (u : List (Int × Int)) (i : Nat) : List (Int × Int) := if (gi l (i : Int)).End ≥ 0 then use (use u (gi l (i : Int)).Start) (gi l (i : Int)).End else use u (gi l (i : Int)).Start
def checkGo (l : List Api_Oper) : Nat → List (Int × Int) → List (Int × Api_Oper) → Nat → Int × Int
  | 0, _, _, _ => ((l.length : Int), 0)
  | f + 1, u, la, i =>
    if oper_alone (gi l (i : Int)) ≠ 0 then ((i : Int), oper_alone (gi l (i : Int)))
    else if out32 l u i then ((i : Int), 32)
    else if out33 l la i = true then ((i : Int), 33)
    else checkGo l f (usedNext l u i) (mput la (gi l (i : Int)).Prc (gi l (i : Int))) (i + 1)
def oper_Check (l : List Api_Oper) : Int × Int := if l.length > 5000 then (0, 3) else checkGo l l.length [] [] 0
def absentL (picks : List Api_Pick) : List (Int × Int) := picks.foldl (fun u p => usedUp u p.Oper) []
def witness_absent (picks : List Api_Pick) : List (Int × Int) := absentL picks
def witness_absent_1 (i : Int) (m : List (Int × Int)) : Bool := (mget m i).getD 0 == 0
def opers (picks : List Api_Pick) : List Int := picks.map (·.Oper)
def isThose (l : List Api_Oper) (picks : List Api_Pick) (pending : Bool) (i : Int) : Bool := (((gi l i).End == -1) == pending) && !decide (i ∈ opers picks)
def thoseTo (l : List Api_Oper) (picks : List Api_Pick) (pending : Bool) (n : Nat) : List Int := ((List.range n).filter (fun i : Nat => isThose l picks pending (i : Int))).map (fun i : Nat => (i : Int))
def witness_those (l : List Api_Oper) (picks : List Api_Pick) (pending : Bool) : List Int := thoseTo l picks pending l.length
def witness_Missing (l : List Api_Oper) (picks : List Api_Pick) : List Int := witness_those l picks false
def witness_Left (l : List Api_Oper) (picks : List Api_Pick) : List Int := witness_those l picks true
/-- Pick x stands ahead of one that time has ahead of it. -/
def orderBad (l : List Api_Oper) (picks : List Api_Pick) (x : Nat) : Bool :=
  decide (0 ≤ (gi picks (x : Int)).Oper ∧ (gi picks (x : Int)).Oper < l.length) && (List.range l.length).any (fun k : Nat => oper_Ahead (gi l (k : Int)) (gi l (gi picks (x : Int)).Oper) && !decide ((k : Int) ∈ opers (picks.take x)))
def orderTo (l : List Api_Oper) (picks : List Api_Pick) (n : Nat) : Int := match (List.range n).find? (orderBad l picks) with | some x => (x : Int) | none => -1
def witness_Order (l : List Api_Oper) (picks : List Api_Pick) : Int := orderTo l picks picks.length
def witness_Check (o : Api_Object) (l : List Api_Oper) (picks : List Api_Pick) : Int × Int :=
  if (object_Check o).2 ≠ 0 ∨ (oper_Check l).2 ≠ 0 then (-1, 2)
  else if (run_Picks o l picks).2.2 ≠ 0 then ((run_Picks o l picks).2.1, (run_Picks o l picks).2.2)
  else if witness_Order l picks ≥ 0 then (witness_Order l picks, 42)
  else if (witness_Missing l picks).length > 0 then (gi (witness_Missing l picks) 0, 41)
  else ((picks.length : Int), 0)
def witness_Is (o : Api_Object) (l : List Api_Oper) (picks : List Api_Pick) : Bool := (witness_Check o l picks).2 == 0
def ref29_Place (picks : List Api_Pick) (i : Int) : Int := match picks.findIdx? (fun p => p.Oper == i) with | some k => (k : Int) | none => -1
def ref27_Ahead (a b : Api_Oper) : Bool := oper_Ahead a b
def linPair (l : List Api_Oper) (picks : List Api_Pick) (i k : Nat) : Bool := !(oper_Ahead (gi l (i : Int)) (gi l (k : Int)) && decide (ref29_Place picks k ≥ 0) && (decide (ref29_Place picks i < 0) || decide (ref29_Place picks i > ref29_Place picks k)))
def linAt (l : List Api_Oper) (picks : List Api_Pick) (i : Nat) : Bool := !(((gi l (i : Int)).End != -1) && decide (ref29_Place picks i < 0)) && (List.range l.length).all (linPair l picks i)
def ref29_Lin (o : Api_Object) (l : List Api_Oper) (picks : List Api_Pick) : Bool := decide ((ref28_From o l o.Init picks).2.2 = 0) && (List.range l.length).all (linAt l picks)
def law29_one : Api_Object := ⟨1, 1, 0, [⟨0, 0, 0, 7⟩]⟩
def law29_three : List Api_Oper := [⟨1, 0, 0, 1, 7⟩, ⟨1, 0, 2, 3, 7⟩, ⟨2, 0, 4, -1, -1⟩]
def law29_awake : Bool := true
def preT2 (l : List Api_Oper) (_ : List Api_Pick) : Prop := l.length ≤ 1000000
def preT3 (l : List Api_Oper) (_ : List Api_Pick) (_ : Bool) : Prop := l.length ≤ 1000000
end Go.Proofs.Ytnhdgebboafliaa
