/- The specification functions. Definitions. -/
import Derived.Test.YtnhdgebboafliaaRTypes
import Derived.Test.YtnhdgebboafliaaPu
set_option linter.all false
namespace Go.Proofs.Ytnhdgebboafliaa
open Go Go.Sv Go.Pu

def law23_Few (o : Api_Object) : Bool := decide (o.Rows.length ≤ 300)
def ref01_SameInts (a b : List Int) : Bool := decide (a = b)
def headBad (o : Api_Object) : Prop := o.States < 1 ∨ o.States > 32 ∨ o.Kinds < 1 ∨ o.Kinds > 64 ∨ o.Init < 0 ∨ o.Init ≥ o.States
instance (o : Api_Object) : Decidable (headBad o) := by unfold headBad; infer_instance
def rowOrder (o : Api_Object) (i : Int) : Prop := i > 0 ∧ ((gi o.Rows (i - 1)).State > (gi o.Rows i).State ∨ ((gi o.Rows (i - 1)).State = (gi o.Rows i).State ∧ (gi o.Rows (i - 1)).Kind ≥ (gi o.Rows i).Kind))
instance (o : Api_Object) (i : Int) : Decidable (rowOrder o i) := by unfold rowOrder; infer_instance
def rowErr (o : Api_Object) (i : Int) : Int :=
  if (gi o.Rows i).State < 0 ∨ (gi o.Rows i).State ≥ o.States ∨ (gi o.Rows i).Next < 0 ∨ (gi o.Rows i).Next ≥ o.States then 30
  else if (gi o.Rows i).Kind < 0 ∨ (gi o.Rows i).Kind ≥ o.Kinds then 31
  else if (gi o.Rows i).Result < 0 ∨ (gi o.Rows i).Result > 1000000 then 7
  else if rowOrder o i then 32 else 0
def rowsGo (o : Api_Object) : Nat → Nat → Int × Int
  | 0, i => ((i : Int), 0)
  | k + 1, i => if rowErr o i ≠ 0 then ((i : Int), rowErr o i) else rowsGo o k (i + 1)
def ref23_Check (o : Api_Object) : Int × Int := if headBad o then (-1, 2) else rowsGo o o.Rows.length 0
def object_Check (o : Api_Object) : Int × Int := ref23_Check o
def object_row (o : Api_Object) (i : Int) : Int := rowErr o i
def preRow (o : Api_Object) (i : Int) : Prop := 0 ≤ i ∧ i < o.Rows.length
def ref23_Move (o : Api_Object) (state kind : Int) : Int × Int × Bool := match o.Rows.find? (fun r => r.State == state && r.Kind == kind) with | some r => (r.Next, r.Result, true) | none => (0, 0, false)
def object_Move (o : Api_Object) (state kind : Int) : Int × Int × Bool := ref23_Move o state kind
def object_Move_1 (r : Api_Row) (state kind : Int) : Bool := r.State == state && r.Kind == kind
def slices_IndexFunc_api_Row_api_Row_object_Move_1 (l : List Api_Row) (state kind : Int) : Int := match l.findIdx? (fun r => r.State == state && r.Kind == kind) with | some i => (i : Int) | none => -1
def run_table_move (t : Run_table) (state kind : Int) : Int × Int × Bool := object_Move t.o state kind
def ref28_Step (o : Api_Object) (state kind result : Int) : Int × Int :=
  if state < 0 ∨ state ≥ o.States then (0, 30) else if (ref23_Move o state kind).2.2 = false ∨ (ref23_Move o state kind).2.1 ≠ result then (0, 40) else ((ref23_Move o state kind).1, 0)
def run_Step (o : Api_Object) (state kind result : Int) : Int × Int := ref28_Step o state kind result
def cmp_isNaN_int (_ : Int) : Bool := false
def cmp_Compare_int (x y : Int) : Int := if x < y then -1 else if x > y then 1 else 0
def cmp_Or_int (l : List Int) : Int := (l.find? (fun x => x != 0)).getD 0
def object_place (a b : Api_Row) : Int := cmp_Or_int [cmp_Compare_int a.State b.State, cmp_Compare_int a.Kind b.Kind]
def object_within (n top : Int) : Bool := decide (n ≥ 0) && decide (n < top)
def run_may (o : Api_Object) (state : Int) : Int := if (ref23_Check o).2 ≠ 0 then 2 else if state < 0 ∨ state ≥ o.States then 30 else 0
def run_runner (o : Api_Object) (l : List Api_Oper) (state : Int) : List Api_Oper × List (Int × Int) × Api_Object × Int := (l, [], o, state)
/-- One pick behind those that are done: the next state, and what is wrong. -/
def tailErr (o : Api_Object) (l : List Api_Oper) (s : Int) (p : Api_Pick) : Int :=
  if (ref28_Step o s (gi l p.Oper).Kind p.Result).2 = 0 ∧ (gi l p.Oper).End ≠ -1 ∧ (gi l p.Oper).Result ≠ p.Result then 40 else (ref28_Step o s (gi l p.Oper).Kind p.Result).2
def tail1 (o : Api_Object) (l : List Api_Oper) (s : Int) (p : Api_Pick) : Int × Int :=
  if tailErr o l s p ≠ 0 then (0, tailErr o l s p) else ((ref28_Step o s (gi l p.Oper).Kind p.Result).1, 0)
def stepOne (o : Api_Object) (l : List Api_Oper) (prev : List Int) (s : Int) (p : Api_Pick) : Int × Int :=
  if p.Oper < 0 ∨ p.Oper ≥ l.length then (0, 2) else if p.Oper ∈ prev then (0, 21) else tail1 o l s p
def usedUp (u : List (Int × Int)) (k : Int) : List (Int × Int) := mput u k (IntKind.i64.wrap ((mget u k).getD 0 + 1))
def run_runner_1 (p : Api_Pick) (l : List Api_Oper) (u : List (Int × Int)) (o : Api_Object) (s : Int) : Int × Int × List (Int × Int) × Int :=
  if p.Oper < 0 ∨ p.Oper ≥ l.length then (0, 2, u, s) else if (mget u p.Oper).getD 0 > 0 then (0, 21, u, s)
  else if (tail1 o l s p).2 ≠ 0 then (0, (tail1 o l s p).2, usedUp u p.Oper, s) else ((tail1 o l s p).1, 0, usedUp u p.Oper, (tail1 o l s p).1)
def runL (o : Api_Object) (l : List Api_Oper) : List Int → Int → List Api_Pick → Int × Int × Int
  | _, s, [] => (s, 0, 0)
  | prev, s, p :: ps => if (stepOne o l prev s p).2 ≠ 0 then (0, 0, (stepOne o l prev s p).2)
    else ((runL o l (p.Oper :: prev) (stepOne o l prev s p).1 ps).1, (runL o l (p.Oper :: prev) (stepOne o l prev s p).1 ps).2.1 + 1, (runL o l (p.Oper :: prev) (stepOne o l prev s p).1 ps).2.2)
def ref28_From (o : Api_Object) (l : List Api_Oper) (state : Int) (picks : List Api_Pick) : Int × Int × Int :=
  if run_may o state ≠ 0 then (0, -1, run_may o state) else runL o l [] state picks
def run_From (o : Api_Object) (l : List Api_Oper) (state : Int) (picks : List Api_Pick) : Int × Int × Int := ref28_From o l state picks
def run_Picks (o : Api_Object) (l : List Api_Oper) (picks : List Api_Pick) : Int × Int × Int := ref28_From o l o.Init picks
def statesL (o : Api_Object) (l : List Api_Oper) : List Int → Int → List Api_Pick → Option (List Int)
  | _, s, [] => some [s]
  | prev, s, p :: ps => if (stepOne o l prev s p).2 ≠ 0 then none else (statesL o l (p.Oper :: prev) (stepOne o l prev s p).1 ps).map (s :: ·)
def run_States (o : Api_Object) (l : List Api_Oper) (picks : List Api_Pick) : List Int := if run_may o o.Init ≠ 0 then [] else (statesL o l [] o.Init picks).getD []
def ref28_States (o : Api_Object) (l : List Api_Oper) (picks : List Api_Pick) : List Int := run_States o l picks
def pickOf (o : Api_Object) (l : List Api_Oper) (s : Int) (i : Int) : Api_Pick := ⟨i, if 0 ≤ i ∧ i < l.length then (ref23_Move o s (gi l i).Kind).2.1 else 0⟩
def fillL (o : Api_Object) (l : List Api_Oper) : List Int → Int → List Int → List Api_Pick × Int
  | _, _, [] => ([], 0)
  | prev, s, i :: is =>
    if (stepOne o l prev s (pickOf o l s i)).2 ≠ 0 then ([], (stepOne o l prev s (pickOf o l s i)).2)
    else if (fillL o l (i :: prev) (stepOne o l prev s (pickOf o l s i)).1 is).2 ≠ 0 then ([], (fillL o l (i :: prev) (stepOne o l prev s (pickOf o l s i)).1 is).2)
    else (pickOf o l s i :: (fillL o l (i :: prev) (stepOne o l prev s (pickOf o l s i)).1 is).1, 0)
def run_Fill (o : Api_Object) (l : List Api_Oper) (order : List Int) : List Api_Pick × Int := if run_may o o.Init ≠ 0 then ([], run_may o o.Init) else fillL o l [] o.Init order
def ref28_Fill (o : Api_Object) (l : List Api_Oper) (order : List Int) : List Api_Pick × Int := run_Fill o l order
def ref28_Same (a b : List Api_Pick) : Bool := decide (a = b)
def law28_flag : Api_Object := ⟨2, 2, 0, [⟨0, 0, 1, 0⟩, ⟨0, 1, 0, 0⟩, ⟨1, 1, 1, 1⟩]⟩
def law28_ops : List Api_Oper := [⟨1, 0, 0, -1, -1⟩, ⟨2, 1, 1, 2, 1⟩]
def law28_awake : Bool := true
def preO (o : Api_Object) : Prop := inR .i64 o.States ∧ inR .i64 o.Kinds
def preO1 (o : Api_Object) (_ : Int) : Prop := preO o
def preO3 (o : Api_Object) (_ : List Api_Oper) (_ : Int) (_ : List Api_Pick) : Prop := preO o
def preO2 {α : Type} (o : Api_Object) (_ : List Api_Oper) (x : List α) : Prop := preO o ∧ x.length ≤ 1000000
def preR2 {α : Type} (_ : Api_Object) (_ : List Api_Oper) (x : List α) : Prop := x.length ≤ 1000000
end Go.Proofs.Ytnhdgebboafliaa
