/- The specification functions of histories of several objects, in plain Lean text. -/
import Derived.Test.YteahldlmkheleaaLTypes
import Derived.Test.YteahldlmkheleaaPu
import Derived.Test.YteahldlmkheleaaSk
set_option linter.all false
namespace Go.Proofs.Yteahldlmkheleaa
open Go Go.Sv Go.Pu
def eG (o : ai) : Bool := decide (o.Rows.length ≤ 300)
def cw (a b : List Int) : Bool := decide (a = b)
def e9 (o : ai) : Prop := o.ao < 1 ∨ o.ao > 32 ∨ o.av < 1 ∨ o.av > 64 ∨ o.aC < 0 ∨ o.aC ≥ o.ao
instance (o : ai) : Decidable (e9 o) := by unfold e9; infer_instance
def eL (o : ai) (i : Int) : Prop := i > 0 ∧ ((gi o.Rows (i - 1)).State > (gi o.Rows i).State ∨ ((gi o.Rows (i - 1)).State = (gi o.Rows i).State ∧ (gi o.Rows (i - 1)).Kind ≥ (gi o.Rows i).Kind))
instance (o : ai) (i : Int) : Decidable (eL o i) := by unfold eL; infer_instance
def dN (o : ai) (i : Int) : Int :=
  if (gi o.Rows i).State < 0 ∨ (gi o.Rows i).State ≥ o.ao ∨ (gi o.Rows i).Next < 0 ∨ (gi o.Rows i).Next ≥ o.ao then 30
  else if (gi o.Rows i).Kind < 0 ∨ (gi o.Rows i).Kind ≥ o.av then 31
  else if (gi o.Rows i).Result < 0 ∨ (gi o.Rows i).Result > 1000000 then 7
  else if eL o i then 32 else 0
def en (o : ai) : Nat → Nat → Int × Int
  | 0, i => ((i : Int), 0)
  | k + 1, i => if dN o i ≠ 0 then ((i : Int), dN o i) else en o k (i + 1)
def b5 (o : ai) : Int × Int := if e9 o then (-1, 2) else en o o.Rows.length 0
def bd (o : ai) : Int × Int := b5 o
def eU (o : ai) (i : Int) : Int := dN o i
def lq (o : ai) (i : Int) : Prop := 0 ≤ i ∧ i < o.Rows.length
def cI (o : ai) (state kind : Int) : Int × Int × Bool := match o.Rows.find? (fun r => r.State == state && r.Kind == kind) with | some r => (r.Next, r.Result, true) | none => (0, 0, false)
def bJ (o : ai) (state kind : Int) : Int × Int × Bool := cI o state kind
def ek (r : aS) (state kind : Int) : Bool := r.State == state && r.Kind == kind
def aX (l : List aS) (state kind : Int) : Int := match l.findIdx? (fun r => r.State == state && r.Kind == kind) with | some i => (i : Int) | none => -1
def de (t : eH) (state kind : Int) : Int × Int × Bool := bJ t.o state kind
def dW (o : ai) (state kind result : Int) : Int × Int :=
  if state < 0 ∨ state ≥ o.ao then (0, 30) else if (cI o state kind).2.2 = false ∨ (cI o state kind).2.1 ≠ result then (0, 40) else ((cI o state kind).1, 0)
def eZ (o : ai) (state kind result : Int) : Int × Int := dW o state kind result
def dc (_ : Int) : Bool := false
def cj (x y : Int) : Int := if x < y then -1 else if x > y then 1 else 0
def eb (l : List Int) : Int := (l.find? (fun x => x != 0)).getD 0
def dX (a b : aS) : Int := eb [cj a.State b.State, cj a.Kind b.Kind]
def bz (n top : Int) : Bool := decide (n ≥ 0) && decide (n < top)
def fo (o : ai) (state : Int) : Int := if (b5 o).2 ≠ 0 then 2 else if state < 0 ∨ state ≥ o.ao then 30 else 0
def cS (o : ai) (l : List aa) (state : Int) : List aa × List (Int × Int) × ai × Int := (l, [], o, state)
def gq (o : ai) (l : List aa) (s : Int) (p : ah) : Int :=
  if (dW o s (gi l p.Oper).Kind p.Result).2 = 0 ∧ (gi l p.Oper).End ≠ -1 ∧ (gi l p.Oper).Result ≠ p.Result then 40 else (dW o s (gi l p.Oper).Kind p.Result).2
def fc (o : ai) (l : List aa) (s : Int) (p : ah) : Int × Int :=
  if gq o l s p ≠ 0 then (0, gq o l s p) else ((dW o s (gi l p.Oper).Kind p.Result).1, 0)
def dy (o : ai) (l : List aa) (prev : List Int) (s : Int) (p : ah) : Int × Int :=
  if p.Oper < 0 ∨ p.Oper ≥ l.length then (0, 2) else if p.Oper ∈ prev then (0, 21) else fc o l s p
def fH (u : List (Int × Int)) (k : Int) : List (Int × Int) := cg u k (IntKind.i64.wrap ((ay u k).getD 0 + 1))
def b9 (p : ah) (l : List aa) (u : List (Int × Int)) (o : ai) (s : Int) : Int × Int × List (Int × Int) × Int :=
  if p.Oper < 0 ∨ p.Oper ≥ l.length then (0, 2, u, s) else if (ay u p.Oper).getD 0 > 0 then (0, 21, u, s)
  else if (fc o l s p).2 ≠ 0 then (0, (fc o l s p).2, fH u p.Oper, s) else ((fc o l s p).1, 0, fH u p.Oper, (fc o l s p).1)
def gK (o : ai) (l : List aa) : List Int → Int → List ah → Int × Int × Int
  | _, s, [] => (s, 0, 0)
  | prev, s, p :: ps => if (dy o l prev s p).2 ≠ 0 then (0, 0, (dy o l prev s p).2)
    else ((gK o l (p.Oper :: prev) (dy o l prev s p).1 ps).1, (gK o l (p.Oper :: prev) (dy o l prev s p).1 ps).2.1 + 1, (gK o l (p.Oper :: prev) (dy o l prev s p).1 ps).2.2)
def eR (o : ai) (l : List aa) (state : Int) (picks : List ah) : Int × Int × Int :=
  if fo o state ≠ 0 then (0, -1, fo o state) else gK o l [] state picks
def fu (o : ai) (l : List aa) (state : Int) (picks : List ah) : Int × Int × Int := eR o l state picks
def cr (o : ai) (l : List aa) (picks : List ah) : Int × Int × Int := eR o l o.aC picks
def fV (o : ai) : Prop := inR .i64 o.ao ∧ inR .i64 o.av
def nq (o : ai) (_ : Int) : Prop := fV o
def np (o : ai) (_ : List aa) (_ : Int) (_ : List ah) : Prop := fV o
def gj (o : ai) (_ : List aa) (x : List ah) : Prop := fV o ∧ x.length ≤ 1000000
def cW (o : aa) : Bool := if o.End = -1 then o.Result == -1 else decide (o.End > o.aA) && decide (o.End ≤ 9999) && decide (o.Result ≥ 0) && decide (o.Result ≤ 1000000)
def cX (o : aa) : Int := if o.ab < 1 ∨ o.ab > 1000 ∨ o.aA < 0 ∨ o.aA > 9999 then 2 else if o.Kind < 0 ∨ o.Kind ≥ 64 then 31 else if cW o = false then 7 else 0
def bF (a b : aa) : Bool := decide (a.End ≥ 0) && decide (a.End < b.aA)
def mD (u : List (Int × Int)) (k : Int) : Int := (ay u k).getD 0
def use (u : List (Int × Int)) (k : Int) : List (Int × Int) := cg u k (IntKind.i64.wrap (mD u k + 1))
def jU (l : List aa) (u : List (Int × Int)) (i : Nat) : Prop := (0 < i ∧ (gi l (i : Int)).aA ≤ (gi l ((i : Int) - 1)).aA) ∨ mD u (gi l (i : Int)).aA > 0 ∨ ((gi l (i : Int)).End ≥ 0 ∧ mD u (gi l (i : Int)).End > 0)
instance (l : List aa) (u : List (Int × Int)) (i : Nat) : Decidable (jU l u i) := by unfold jU; infer_instance
def l5 (l : List aa) (la : List (Int × aa)) (i : Nat) : Bool := (ay la (gi l (i : Int)).ab).isSome && !bF ((ay la (gi l (i : Int)).ab).getD ⟨0, 0, 0, 0, 0⟩) (gi l (i : Int))
def ir (l : List aa) (u : List (Int × Int)) (i : Nat) : List (Int × Int) := if (gi l (i : Int)).End ≥ 0 then use (use u (gi l (i : Int)).aA) (gi l (i : Int)).End else use u (gi l (i : Int)).aA
def cY (l : List aa) : Nat → List (Int × Int) → List (Int × aa) → Nat → Int × Int
  | 0, _, _, _ => ((l.length : Int), 0)
  | f + 1, u, la, i =>
    if cX (gi l (i : Int)) ≠ 0 then ((i : Int), cX (gi l (i : Int)))
    else if jU l u i then ((i : Int), 32)
    else if l5 l la i = true then ((i : Int), 33)
    else cY l f (ir l u i) (cg la (gi l (i : Int)).ab (gi l (i : Int))) (i + 1)
def b6 (l : List aa) : Int × Int := if l.length > 5000 then (0, 3) else cY l l.length [] [] 0
def fG (picks : List ah) : List (Int × Int) := picks.foldl (fun u p => fH u p.Oper) []
def du (picks : List ah) : List (Int × Int) := fG picks
def dr (i : Int) (m : List (Int × Int)) : Bool := (ay m i).getD 0 == 0
def opers (picks : List ah) : List Int := picks.map (·.Oper)
def gz (l : List aa) (picks : List ah) (pending : Bool) (i : Int) : Bool := (((gi l i).End == -1) == pending) && !decide (i ∈ opers picks)
def eC (l : List aa) (picks : List ah) (pending : Bool) (n : Nat) : List Int := ((List.range n).filter (fun i : Nat => gz l picks pending (i : Int))).map (fun i : Nat => (i : Int))
def c7 (l : List aa) (picks : List ah) (pending : Bool) : List Int := eC l picks pending l.length
def bO (l : List aa) (picks : List ah) : List Int := c7 l picks false
def dx (l : List aa) (picks : List ah) (x : Nat) : Bool :=
  decide (0 ≤ (gi picks (x : Int)).Oper ∧ (gi picks (x : Int)).Oper < l.length) && (List.range l.length).any (fun k : Nat => bF (gi l (k : Int)) (gi l (gi picks (x : Int)).Oper) && !decide ((k : Int) ∈ opers (picks.take x)))
def jE (l : List aa) (picks : List ah) (n : Nat) : Int := match (List.range n).find? (dx l picks) with | some x => (x : Int) | none => -1
def bR (l : List aa) (picks : List ah) : Int := jE l picks picks.length
def c8 (o : ai) (l : List aa) (picks : List ah) : Int × Int :=
  if (bd o).2 ≠ 0 ∨ (b6 l).2 ≠ 0 then (-1, 2)
  else if (cr o l picks).2.2 ≠ 0 then ((cr o l picks).2.1, (cr o l picks).2.2)
  else if bR l picks ≥ 0 then (bR l picks, 42)
  else if (bO l picks).length > 0 then (gi (bO l picks) 0, 41)
  else ((picks.length : Int), 0)
def c6 (o : ai) (l : List aa) (picks : List ah) : Bool := (c8 o l picks).2 == 0
def jR (l : List aa) (_ : List ah) : Prop := l.length ≤ 1000000
def lV (l : List aa) (_ : List ah) (_ : Bool) : Prop := l.length ≤ 1000000
def bV (o : ai) (l : List aa) (most : Int) : Int := if (bd o).2 ≠ 0 ∨ (b6 l).2 ≠ 0 then 2 else if (l.length : Int) > most then 3 else 0
def isDone (done : List Bool) (i : Int) : Bool := decide (i < done.length) && gi done i
def gG (l : List aa) (done : List Bool) (i : Nat) : Bool := !isDone done i && (List.range l.length).all fun k : Nat => isDone done (k : Int) || !bF (gi l (k : Int)) (gi l (i : Int))
def dp (i : Int) (done : List Bool) : Bool := isDone done i
def fy (l : List aa) (done : List Bool) (n : Nat) : List Int := ((List.range n).filter fun i : Nat => gG l done i).map fun i : Nat => (i : Int)
def dk (l : List aa) (done : List Bool) : List Int := fy l done l.length
def fg (o : ai) (l : List aa) (st : Int) (i : Int) : Option ah :=
  if (bJ o st (gi l i).Kind).2.2 && ((gi l i).End == -1 || (gi l i).Result == (bJ o st (gi l i).Kind).2.1) then some ⟨i, (bJ o st (gi l i).Kind).2.1⟩ else none
def nE (o : ai) (l : List aa) (st : Int) (done : List Bool) : List ah := (dk l done).filterMap (fg o l st)
def bm (o : ai) (l : List aa) (st : Int) (done : List Bool) : List ah := if (bd o).2 ≠ 0 then [] else nE o l st done
def bA (s : List ah) : List ah := s
abbrev Sk := aP
abbrev Fm := List (bC × Int)
def pF (i : Int) : Int := IntKind.u32.wrap (1 * 2 ^ (min i.toNat IntKind.u32.bits))
def orU (a b : Int) : Int := IntKind.u32.wrap ((BitVec.ofInt IntKind.u32.bits a ||| BitVec.ofInt IntKind.u32.bits b).toNat : Int)
def fN : List Bool → Int → Int → Int
  | [], _, m => m
  | b :: r, i, m => fN r (i + 1) (if b then orU m (pF i) else m)
def e7 (done : List Bool) (st : Int) : bC := ⟨fN done 0 0, st⟩
def cv (st : Int) (s : Sk) : bC := e7 s.done st
def gd (l : List aa) (done : List Bool) : Bool := (List.range l.length).all fun i : Nat => !(((gi l (i : Int)).End != -1) && !gi done (i : Int))
def cG (s : Sk) : Bool := gd s.l s.done
def cf (done : List Bool) : Nat := done.count false
def dm (o : ai) (l : List aa) (st : Int) (p : ah) : Int := (bJ o st (gi l p.Oper).Kind).1
def gI {α : Type} (g : ah → α → (List ah × Bool) × α) : List ah → α → (List ah × Bool) × α
  | [], f => (([], false), f)
  | p :: ps, f => if (g p f).1.2 then g p f else gI g ps (g p f).2
def iK (f : Fm) (k : bC) : Fm := if k.done = 0 ∧ k.state = 0 then f else cg f k (IntKind.i64.wrap ((ay f k).getD 0 + 1))
def dH (o : ai) (l : List aa) : Nat → Int → List ah → List Bool → Fm → (List ah × Bool) × Fm
  | 0, _, _, _, f => (([], false), f)
  | n + 1, st, so, done, f =>
    if gd l done then ((so, true), f)
    else if (ay f (e7 done st)).getD 0 > 0 then (([], false), f)
    else if (gI (fun p f => dH o l n (dm o l st p) (so ++ [p]) (done.set p.Oper.toNat true) f) (bm o l st done) f).1.2
      then gI (fun p f => dH o l n (dm o l st p) (so ++ [p]) (done.set p.Oper.toNat true) f) (bm o l st done) f
      else (([], false), iK (gI (fun p f => dH o l n (dm o l st p) (so ++ [p]) (done.set p.Oper.toNat true) f) (bm o l st done) f).2 (e7 done st))
def fA (s : Sk) (st : Int) (so : List ah) : (List ah × Bool) × Fm := dH s.o s.l (cf s.done + 1) st so s.done s.failed
def aB (st : Int) (so : List ah) (s : Sk) : List ah × Bool × Sk := ((fA s st so).1.1, (fA s st so).1.2, ⟨s.o, s.l, s.done, (fA s st so).2⟩)
def oc (p : ah) (s : Sk) (st : Int) (so : List ah) : (List ah × Bool) × Fm := dH s.o s.l (cf s.done) (dm s.o s.l st p) (so ++ [p]) (s.done.set p.Oper.toNat true) s.failed
def aW (p : ah) (s : Sk) (st : Int) (so : List ah) : List ah × Bool × Sk := ((oc p s st so).1.1, (oc p s st so).1.2, ⟨s.o, s.l, s.done, (oc p s st so).2⟩)
def gZ (o : ai) (l : List aa) : Nat → Int → List Bool → List (List ah)
  | 0, _, _ => []
  | n + 1, st, done => (if gd l done then [[]] else []) ++ (bm o l st done).flatMap fun p => (gZ o l n (dm o l st p) (done.set p.Oper.toNat true)).map (p :: ·)
def bf (o : ai) (l : List aa) : Sk := ⟨o, l, List.replicate l.length false, []⟩
def a9 (o : ai) (l : List aa) : List ah × Int :=
  if bV o l 20 ≠ 0 then ([], bV o l 20)
  else if (fA (bf o l) o.aC []).1.2 = false ∨ c6 o l (fA (bf o l) o.aC []).1.1 = false then ([], 41) else ((fA (bf o l) o.aC []).1.1, 0)
def iY (st : Int) (so : List ah) (s : Sk) : Nat := 2 * cf s.done + 1
def oT (p : ah) (s : Sk) (st : Int) (so : List ah) : Nat := 2 * cf s.done
def wfS (s : Sk) : Prop := s.done.length = s.l.length ∧ s.l.length ≤ 20 ∧ fV s.o
def nb (s : Sk) : Prop := s.done.length = s.l.length
def kL (st : Int) (so : List ah) (s : Sk) : Prop := wfS s ∧ so.length + cf s.done ≤ 100
def nc (p : ah) (s : Sk) (st : Int) (so : List ah) : Prop := wfS s ∧ so.length + cf s.done ≤ 100 ∧ 0 ≤ p.Oper ∧ p.Oper < s.l.length ∧ gi s.done p.Oper = false
def nr (o : ai) (l : List aa) (st : Int) (done : List Bool) : Prop := fV o ∧ l.length ≤ 1000000
def nv (l : List aa) (done : List Bool) : Prop := l.length ≤ 1000000
def nz (o : ai) (l : List aa) : Prop := l.length ≤ 1000000
def nw (s : List ah) : Prop := s.length ≤ 1000000
def nx (o : ai) (l : List aa) (most : Int) : Prop := fV o
def nh (o : ai) (l : List aa) : Prop := fV o
def lY (i : Int) (done : List Bool) : Prop := 0 ≤ i
def evE (x : al) : Int :=
  if x.aY ≠ 1 ∧ x.aY ≠ 2 then 8 else if x.ab < 1 ∨ x.ab > 1000 then 2
  else if x.aY = 1 ∧ (x.N < 0 ∨ x.N ≥ 64) then 31 else if x.aY = 2 ∧ (x.N < 0 ∨ x.N > 1000000) then 7 else 0
def dU (x : al) : Int := evE x
def dE (l : List al) (p : Int) : Int := l.foldl (fun w x => if x.ab = p then x.aY else w) 0
def je (l : List al) : Nat → Int → Int × Int
  | 0, i => (i, 0)
  | f + 1, i => if evE (gi l i) ≠ 0 then (i, evE (gi l i)) else if (dE (l.take i.toNat) (gi l i).ab == 1) == ((gi l i).aY == 1) then (i, 33) else je l f (i + 1)
def bB (l : List al) : Int × Int := if l.length > 10000 then (0, 3) else je l l.length 0
def dg (l : List al) : Int × Int := bB l
def eW (l : List al) (p : Int) : Nat → Int
  | 0 => -1
  | i + 1 => if (gi l (i : Int)).ab = p then (i : Int) else eW l p i
def eT (l : List al) (p : Int) : Int := eW l p l.length
def dw (l : List al) (p : Int) : Bool := dE l p == 1
def dG (a b : List al) : Bool := decide (a = b)
def dK (i : Int) (x : al) (o : aa) : aa := if o.End = -1 ∧ o.ab = x.ab then ⟨o.ab, o.Kind, o.aA, i, x.N⟩ else o
def dz (ops : List aa) (i : Int) (x : al) : List aa := ops.map (dK i x) ++ (if x.aY = 1 then [⟨x.ab, x.N, i, -1, -1⟩] else [])
def gE : List al → Int → List aa → List aa
  | [], _, ops => ops
  | x :: l, i, ops => gE l (i + 1) (dz ops i x)
def opsOf (l : List al) : List aa := gE l 0 []
def eu (l : List al) : List aa × Int := if (bB l).2 ≠ 0 then ([], (bB l).2) else (opsOf l, 0)
def e6 (l : List al) : List aa × Int := eu l
def eS (a b : List aa) : Bool := decide (a = b)
def cU (a b : List aS) : Bool := decide (a = b)
def cV (a b : ai) : Bool := decide (a = b)
def js (v : Int) : List Int → Int → Int
  | [], _ => -1
  | y :: r, i => if v = y then i else js v r (i + 1)
def cM (l : List Int) (x : Int) : Int := js x l 0
def bM (l : List Int) (x : Int) : Bool := decide (x ∈ l)
def bZ (s : List aS) : List aS := s
def c9 (p : Int × Int) (n : Int) : Bool := decide (0 ≤ p.1 ∧ 0 ≤ p.2 ∧ p.1 < n ∧ p.2 < n ∧ p.1 ≠ p.2)
def bH (p : Int × Int) (n x : Int) (out : List Int) : Bool := c9 p n && (p.2 == x) && !decide (p.1 ∈ out)
def aZ (l : List (Int × Int)) (n x : Int) (out : List Int) : Int := match l.findIdx? (fun p => bH p n x out) with | some i => (i : Int) | none => -1
def bh (l : List (Int × Int)) (n x : Int) (out : List Int) : Bool := l.any (fun p => bH p n x out)
def cb (x n : Int) (out : List Int) (pairs : List (Int × Int)) : Bool := decide (x ∈ out) || pairs.any (fun p => bH p n x out)
def gU (n : Int) (pairs : List (Int × Int)) (out : List Int) : Option Nat := (List.range n.toNat).find? (fun (x : Nat) => !cb x n out pairs)
def ff (n : Int) (pairs : List (Int × Int)) : Nat → List Int → List Int × Bool
  | 0, out => (out, true)
  | k + 1, out => match gU n pairs out with | none => ([], false) | some x => ff n pairs k (out ++ [(x : Int)])
def cc (n : Int) (pairs : List (Int × Int)) : List Int × Bool := if n < 0 ∨ n > 64 then ([], false) else ff n pairs n.toNat []
def ew {α : Type} (f : Int → Bool) : List α → Int → List α
  | [], _ => []
  | x :: l, i => if f i = true then x :: ew f l (i + 1) else ew f l (i + 1)
def bK (h : ak) : List al := h.aj.map (·.aH)
def b7 (o : ai) : Bool := (bd o).2 != 0
def aQ (l : List ai) : Int := match l.findIdx? b7 with | some i => (i : Int) | none => -1
def aN (l : List ai) : Bool := l.any b7
def fW (os : List ai) (b : List (Int × Int)) (x : aR) : Int :=
  if x.ar < 0 ∨ x.ar ≥ os.length then 2 else if x.aH.aY = 2 ∧ (ay b x.aH.ab).getD 0 ≠ x.ar then 32
  else if x.aH.aY = 1 ∧ x.aH.N ≥ (gi os x.ar).av then 31 else 0
def hGo (os : List ai) : List aR → Int → List (Int × Int) → Int × Int
  | [], i, _ => (i, 0)
  | x :: l, i, b => if fW os b x ≠ 0 then (i, fW os b x) else hGo os l (i + 1) (cg b x.aH.ab x.ar)
def ke (os : List ai) : Prop := os.length < 1 ∨ os.length > 8 ∨ os.any b7 = true
instance (os : List ai) : Decidable (ke os) := by unfold ke; infer_instance
def aV (h : ak) : Int × Int :=
  if ke h.ae then (-1, 2) else if (bB (bK h)).2 ≠ 0 then bB (bK h) else hGo h.ae h.aj 0 []
def toL (x : aD) : aR := ⟨x.ar, x.aH⟩
def bS (l : List aD) : List al := l.map (·.aH)
def gY (l : List aD) (p : Int) : Nat → Int
  | 0 => -1
  | i + 1 => if (gi l (i : Int)).aH.ab = p then (gi l (i : Int)).ar else gY l p i
def dD (l : List aD) (at_ : Int) : Int := gY l (gi l at_).aH.ab at_.toNat
def cl (os : List ai) (l : List aD) : Int × Int := aV ⟨os, l.map toL⟩
def da (i : Int) (h : ak) (k : Int) : Bool := (gi h.aj i).ar == k
def bp (l : List al) (h : ak) (k : Int) : List al := ew (fun i => da i h k) l 0
def fx (l : List aR) (k : Int) : List al := (l.filter (fun x => x.ar == k)).map (·.aH)
def eV (h : ak) (k : Int) : Prop := (aV h).2 ≠ 0 ∨ k < 0 ∨ k ≥ h.ae.length
instance (h : ak) (k : Int) : Decidable (eV h k) := by unfold eV; infer_instance
def cd (h : ak) (k : Int) : dq := if eV h k then ⟨⟨0, 0, 0, []⟩, []⟩ else ⟨gi h.ae k, fx h.aj k⟩
def dv (os : List ai) (l : List aD) (k : Int) : List al × Bool := if eV ⟨os, l.map toL⟩ k then ([], false) else (fx (l.map toL) k, true)
def cQ (h : ak) : List aa := opsOf (bK h)
def ofH (h : ak) : List Int := (cQ h).map fun o => (gi h.aj o.aA).ar
def bP (h : ak) : List aa × List Int := if (aV h).2 ≠ 0 then ([], []) else (cQ h, ofH h)
def df (os : List ai) (l : List aD) : List aa × List Int := bP ⟨os, l.map toL⟩
def cm (h : ak) : List aa × List Int × Int :=
  if (aV h).2 ≠ 0 then ([], [], (aV h).2) else if (cQ h).length > 20 then ([], [], 3) else (cQ h, ofH h, 0)
def eD (k : Int) : List Int → Int → List Int
  | [], _ => []
  | x :: l, i => if x = k then i :: eD k l (i + 1) else eD k l (i + 1)
def bG (of : List Int) (k : Int) : List Int := eD k of 0
def cz (i : Int) (of : List Int) (k : Int) : Bool := gi of i == k
def bg (l : List aa) (of : List Int) (k : Int) : List aa := ew (fun i => cz i of k) l 0
def eK (l : List aa) (of : List Int) (k : Int) : List aa := bg l of k
def gR (own : List Int) (p : ah) : ah := ⟨gi own p.Oper, p.Result⟩
def rowOf (l : List aa) (of : List Int) (o : ai) (k : Int) : List ah := (a9 o (eK l of k)).1.map (gR (bG of k))
def fp (l : List aa) (of : List Int) : List ai → Int → List (List ah) → List (List ah) × Int
  | [], _, out => (out, 0)
  | o :: os, k, out => if (a9 o (eK l of k)).2 ≠ 0 then ([], (a9 o (eK l of k)).2) else fp l of os (k + 1) (out ++ [rowOf l of o k])
def bT (h : ak) (l : List aa) (of : List Int) : List (List ah) × Int := fp l of h.ae 0 []
def bI (n : Int) : List ah := []
def bE (l : List (List ah)) : List ah := l.flatten
def iy (at_ : Int) (n : Nat) : List (Int × Int) := (List.range (n - 1)).map fun i : Nat => (at_ + i, at_ + i + 1)
def dC : List (List ah) → Int → List (Int × Int)
  | [], _ => []
  | r :: rs, at_ => iy at_ r.length ++ dC rs (at_ + r.length)
def jL (l : List aa) (all : List ah) (i j : Nat) : Bool := bF (gi l (gi all (i : Int)).Oper) (gi l (gi all (j : Int)).Oper)
def fm (l : List aa) (all : List ah) (i n : Nat) : List (Int × Int) := ((List.range n).filter (jL l all i)).map fun j : Nat => ((i : Int), (j : Int))
def kD (l : List aa) (all : List ah) : List (Int × Int) := (List.range all.length).flatMap fun i => fm l all i all.length
def cq (l : List aa) (rows : List (List ah)) : List ah × List (Int × Int) := (rows.flatten, dC rows 0 ++ kD l rows.flatten)
def iZ (l : List aa) (rows : List (List ah)) : List Int × Bool := cc (rows.flatten.length : Nat) (cq l rows).2
def cJ (h : ak) : List ah × Int :=
  if (cm h).2.2 ≠ 0 then ([], (cm h).2.2)
  else if (bT h (cQ h) (ofH h)).2 ≠ 0 then ([], (bT h (cQ h) (ofH h)).2)
  else if (iZ (cQ h) (bT h (cQ h) (ofH h)).1).2 = false then ([], 41)
  else ((iZ (cQ h) (bT h (cQ h) (ofH h)).1).1.map (gi (bT h (cQ h) (ofH h)).1.flatten), 0)
def eE (h : ak) : Bool × Int := if (cJ h).2 = 41 then (false, 0) else ((cJ h).2 == 0, (cJ h).2)
def cA (i : Int) (picks : List ah) (l : List aa) (of : List Int) (k : Int) : Bool :=
  decide ((gi picks i).Oper < 0 ∨ (gi picks i).Oper ≥ l.length) || gi of (gi picks i).Oper == k
def bo (x : List ah) (picks : List ah) (l : List aa) (of : List Int) (k : Int) : List ah := ew (fun i => cA i picks l of k) x 0
def po (l : List aa) (of : List Int) (k : Int) (picks : List ah) : List ah := picks.filter fun p => decide (p.Oper < 0 ∨ p.Oper ≥ l.length) || gi of p.Oper == k
def fY (l : List aa) (of : List Int) (picks : List ah) : List ai → Int → Bool
  | [], _ => true
  | o :: os, k => if (cr o l (po l of k picks)).2.2 ≠ 0 then false else fY l of picks os (k + 1)
def dT (h : ak) (picks : List ah) : Bool :=
  if (aV h).2 ≠ 0 then false else fY (cQ h) (ofH h) picks h.ae 0 && decide (bR (cQ h) picks < 0) && ((bO (cQ h) picks).length == 0)
def cn : ai := ⟨2, 2, 0, [⟨0, 0, 1, 0⟩, ⟨0, 1, 0, 0⟩, ⟨1, 0, 1, 0⟩, ⟨1, 1, 1, 1⟩]⟩
def bN (o : Int) : ak := ⟨[cn, cn], [⟨0, ⟨1, 1, 0⟩⟩, ⟨o, ⟨1, 2, 1⟩⟩, ⟨0, ⟨2, 1, 0⟩⟩, ⟨o, ⟨2, 2, 1⟩⟩]⟩
def cN (h : ak) : List aD := h.aj.map fun x => ⟨x.ar, x.aH⟩
def eF (h : ak) : Bool := decide (h.ae.length ≤ 10) && decide (h.aj.length ≤ 20) && h.ae.all eG
def dj : Bool := true
def gB (l : List al) : Int := (l.countP (fun x => x.aY == 1) : Nat)
def ny (s : List aS) : Prop := s.length ≤ 1000000
def gS (os : List ai) : Prop := ∀ o ∈ os, fV o
def dS (h : ak) : Prop := gS h.ae ∧ h.aj.length ≤ 1000000 ∧ ∀ o ∈ h.ae, o.Rows.length ≤ 1000000
def fZ (h : ak) : Prop := h.aj.length ≤ 1000000
def kJ (l : List aD) : Prop := l.length ≤ 1000000
def fJ (os : List ai) (l : List aD) : Prop := gS os ∧ l.length ≤ 1000000
def jD (os : List ai) (l : List aD) (_ : Int) : Prop := gS os ∧ l.length ≤ 1000000
def lX (h : ak) (_ : Int) : Prop := dS h
def lu (l : List aD) (at_ : Int) : Prop := 0 ≤ at_ ∧ at_ < l.length
def nj (i : Int) (h : ak) (_ : Int) : Prop := 0 ≤ i ∧ i < h.aj.length
def nm (l : List al) (h : ak) (_ : Int) : Prop := l.length ≤ h.aj.length ∧ l.length ≤ 1000000
def lr (i : Int) (of : List Int) (_ : Int) : Prop := 0 ≤ i ∧ i < of.length
def kK (of : List Int) (_ : Int) : Prop := of.length ≤ 1000000
def nk (l : List aa) (of : List Int) (_ : Int) : Prop := l.length ≤ of.length ∧ l.length ≤ 1000000
def ni (h : ak) (l : List aa) (of : List Int) : Prop := dS h ∧ l.length = of.length ∧ l.length ≤ 1000000 ∧ h.ae.length ≤ 8
def kM (l : List (List ah)) : Prop := l.flatten.length ≤ 1000000
def nu (n : Int) : Prop := 0 ≤ n ∧ n ≤ 1000000
def lZ (l : List aa) (rows : List (List ah)) : Prop := rows.flatten.length ≤ 1000 ∧ ∀ p ∈ rows.flatten, 0 ≤ p.Oper ∧ p.Oper < l.length
def nt (i : Int) (picks : List ah) (l : List aa) (of : List Int) (_ : Int) : Prop := 0 ≤ i ∧ i < picks.length ∧ l.length = of.length
def ns (x picks : List ah) (l : List aa) (of : List Int) (_ : Int) : Prop := x.length ≤ picks.length ∧ x.length ≤ 1000000 ∧ l.length = of.length
def lW (h : ak) (picks : List ah) : Prop := dS h ∧ picks.length ≤ 1000000
end Go.Proofs.Yteahldlmkheleaa
