/- Definitions. -/
import Derived.Test.YteahldlmkheleaaGreatLTypes
import Derived.Test.YteahldlmkheleaaGreatPu
import Derived.Test.YteahldlmkheleaaGreatSk
set_option linter.all false
namespace Go.Proofs.YteahldlmkheleaaGreat
open Go Go.Sv Go.Pu
def gR (o:ae):Bool:=decide (o.Rows.length≤300)
def eS (a b:List Int):Bool:=decide (a=b)
def iB (o:ae):Prop:=o.ar < 1∨o.ar > 32∨o.aw < 1∨o.aw > 64∨o.aC < 0∨o.aC≥o.ar
instance (o:ae):Decidable (iB o):=by unfold iB; infer_instance
def g7 (o:ae) (i:Int):Prop:=i > 0∧((gi o.Rows (i - 1)).State > (gi o.Rows i).State∨((gi o.Rows (i - 1)).State=(gi o.Rows i).State∧(gi o.Rows (i - 1)).Kind≥(gi o.Rows i).Kind))
instance (o:ae) (i:Int):Decidable (g7 o i):=by unfold g7; infer_instance
def ga (o:ae) (i:Int):Int :=
  if (gi o.Rows i).State < 0∨(gi o.Rows i).State≥o.ar∨(gi o.Rows i).Next < 0∨(gi o.Rows i).Next≥o.ar then 30
  else if (gi o.Rows i).Kind < 0∨(gi o.Rows i).Kind≥o.aw then 31
  else if (gi o.Rows i).Result < 0∨(gi o.Rows i).Result > 1000000 then 7
  else if g7 o i then 32 else 0
def gr (o:ae):Nat→Nat→Int × Int
  | 0,i=>((i:Int),0)
  | k+1,i=>if ga o i≠0 then ((i:Int),ga o i) else gr o k (i+1)
def cJ (o:ae):Int × Int:=if iB o then (-1,2) else gr o o.Rows.length 0
def bp (o:ae):Int × Int:=cJ o
def hX (o:ae) (i:Int):Int:=ga o i
def preRow (o:ae) (i:Int):Prop:=0≤i∧i < o.Rows.length
def b9 (o:ae) (state kind:Int):Int × Int × Bool:=match o.Rows.find? (fun r=>r.State == state && r.Kind == kind) with | some r=>(r.Next,r.Result,true) | none=>(0,0,false)
def cu (o:ae) (state kind:Int):Int × Int × Bool:=b9 o state kind
def gq (r:ba) (state kind:Int):Bool:=r.State == state && r.Kind == kind
def bg (l:List ba) (state kind:Int):Int:=match l.findIdx? (fun r=>r.State == state && r.Kind == kind) with | some i=>(i:Int) | none=>-1
def eQ (t:gU) (state kind:Int):Int × Int × Bool:=cu t.o state kind
def cX (o:ae) (state kind result:Int):Int × Int :=
  if state < 0∨state≥o.ar then (0,30) else if (b9 o state kind).2.2=false∨(b9 o state kind).2.1≠result then (0,40) else ((b9 o state kind).1,0)
def ix (o:ae) (state kind result:Int):Int × Int:=cX o state kind result
def eO (_:Int):Bool:=false
def dn (x y:Int):Int:=if x < y then -1 else if x > y then 1 else 0
def gm (l:List Int):Int:=(l.find? (fun x=>x != 0)).getD 0
def gk (a b:ba):Int:=gm [dn a.State b.State,dn a.Kind b.Kind]
def b0 (n top:Int):Bool:=decide (n≥0) && decide (n < top)
def eK (o:ae) (state:Int):Int:=if (cJ o).2≠0 then 2 else if state < 0∨state≥o.ar then 30 else 0
def ep (o:ae) (l:List ab) (state:Int):List ab × List (Int × Int) × ae × Int:=(l,[],o,state)
def gw (o:ae) (l:List ab) (s:Int) (p:aa):Int :=
  if (cX o s (gi l p.Oper).Kind p.Result).2=0∧(gi l p.Oper).End≠-1∧(gi l p.Oper).Result≠p.Result then 40 else (cX o s (gi l p.Oper).Kind p.Result).2
def gW (o:ae) (l:List ab) (s:Int) (p:aa):Int × Int :=
  if gw o l s p≠0 then (0,gw o l s p) else ((cX o s (gi l p.Oper).Kind p.Result).1,0)
def ca (o:ae) (l:List ab) (prev:List Int) (s:Int) (p:aa):Int × Int :=
  if p.Oper < 0∨p.Oper≥l.length then (0,2) else if p.Oper∈prev then (0,21) else gW o l s p
def jP (u:List (Int × Int)) (k:Int):List (Int × Int):=dk u k (IntKind.i64.wrap ((aF u k).getD 0+1))
def db (p:aa) (l:List ab) (u:List (Int × Int)) (o:ae) (s:Int):Int × Int × List (Int × Int) × Int :=
  if p.Oper < 0∨p.Oper≥l.length then (0,2,u,s) else if (aF u p.Oper).getD 0 > 0 then (0,21,u,s)
  else if (gW o l s p).2≠0 then (0,(gW o l s p).2,jP u p.Oper,s) else ((gW o l s p).1,0,jP u p.Oper,(gW o l s p).1)
def fh (o:ae) (l:List ab):List Int→Int→List aa→Int × Int × Int
  | _,s,[]=>(s,0,0)
  | prev,s,p :: ps=>if (ca o l prev s p).2≠0 then (0,0,(ca o l prev s p).2)
    else ((fh o l (p.Oper :: prev) (ca o l prev s p).1 ps).1,(fh o l (p.Oper :: prev) (ca o l prev s p).1 ps).2.1+1,(fh o l (p.Oper :: prev) (ca o l prev s p).1 ps).2.2)
def bL (o:ae) (l:List ab) (state:Int) (ac:List aa):Int × Int × Int :=
  if eK o state≠0 then (0,-1,eK o state) else fh o l [] state ac
def jc (o:ae) (l:List ab) (state:Int) (ac:List aa):Int × Int × Int:=bL o l state ac
def cg (o:ae) (l:List ab) (ac:List aa):Int × Int × Int:=bL o l o.aC ac
def kx (o:ae):Prop:=inR .i64 o.ar∧inR .i64 o.aw
def yc (o:ae) (_:Int):Prop:=kx o
def yb (o:ae) (_:List ab) (_:Int) (_:List aa):Prop:=kx o
def lk (o:ae) (_:List ab) (x:List aa):Prop:=kx o∧x.length≤1000000
def dR (o:ab):Bool:=if o.End=-1 then o.Result == -1 else decide (o.End > o.aE) && decide (o.End≤9999) && decide (o.Result≥0) && decide (o.Result≤1000000)
def cQ (o:ab):Int:=if o.aj < 1∨o.aj > 1000∨o.aE < 0∨o.aE > 9999 then 2 else if o.Kind < 0∨o.Kind≥64 then 31 else if dR o=false then 7 else 0
def aZ (a b:ab):Bool:=decide (a.End≥0) && decide (a.End < b.aE)
def fm (u:List (Int × Int)) (k:Int):Int:=(aF u k).getD 0
def use (u:List (Int × Int)) (k:Int):List (Int × Int):=dk u k (IntKind.i64.wrap (fm u k+1))
def mS (l:List ab) (u:List (Int × Int)) (i:Nat):Prop:=(0 < i∧(gi l (i:Int)).aE≤(gi l ((i:Int) - 1)).aE)∨fm u (gi l (i:Int)).aE > 0∨((gi l (i:Int)).End≥0∧fm u (gi l (i:Int)).End > 0)
instance (l:List ab) (u:List (Int × Int)) (i:Nat):Decidable (mS l u i):=by unfold mS; infer_instance
def pa (l:List ab) (la:List (Int × ab)) (i:Nat):Bool:=(aF la (gi l (i:Int)).aj).isSome && !aZ ((aF la (gi l (i:Int)).aj).getD ⟨0,0,0,0,0⟩) (gi l (i:Int))
def k5 (l:List ab) (u:List (Int × Int)) (i:Nat):List (Int × Int):=if (gi l (i:Int)).End≥0 then use (use u (gi l (i:Int)).aE) (gi l (i:Int)).End else use u (gi l (i:Int)).aE
def dN (l:List ab):Nat→List (Int × Int)→List (Int × ab)→Nat→Int × Int
  | 0,_,_,_=>((l.length:Int),0)
  | f+1,u,la,i =>
    if cQ (gi l (i:Int))≠0 then ((i:Int),cQ (gi l (i:Int)))
    else if mS l u i then ((i:Int),32)
    else if pa l la i=true then ((i:Int),33)
    else dN l f (k5 l u i) (dk la (gi l (i:Int)).aj (gi l (i:Int))) (i+1)
def bZ (l:List ab):Int × Int:=if l.length > 5000 then (0,3) else dN l l.length [] [] 0
def jH (ac:List aa):List (Int × Int):=ac.foldl (fun u p=>jP u p.Oper) []
def fk (ac:List aa):List (Int × Int):=jH ac
def fg (i:Int) (m:List (Int × Int)):Bool:=(aF m i).getD 0 == 0
def opers (ac:List aa):List Int:=ac.map (·.Oper)
def kM (l:List ab) (ac:List aa) (pending:Bool) (i:Int):Bool:=(((gi l i).End == -1) == pending) && !decide (i∈opers ac)
def gv (l:List ab) (ac:List aa) (pending:Bool) (n:Nat):List Int:=((List.range n).filter (fun i:Nat=>kM l ac pending (i:Int))).map (fun i:Nat=>(i:Int))
def en (l:List ab) (ac:List aa) (pending:Bool):List Int:=gv l ac pending l.length
def b7 (l:List ab) (ac:List aa):List Int:=en l ac false
def dP (l:List ab) (ac:List aa) (x:Nat):Bool :=
  decide (0≤(gi ac (x:Int)).Oper∧(gi ac (x:Int)).Oper < l.length) && (List.range l.length).any (fun k:Nat=>aZ (gi l (k:Int)) (gi l (gi ac (x:Int)).Oper) && !decide ((k:Int)∈opers (ac.take x)))
def pM (l:List ab) (ac:List aa) (n:Nat):Int:=match (List.range n).find? (dP l ac) with | some x=>(x:Int) | none=>-1
def cA (l:List ab) (ac:List aa):Int:=pM l ac ac.length
def eH (o:ae) (l:List ab) (ac:List aa):Int × Int :=
  if (bp o).2≠0∨(bZ l).2≠0 then (-1,2)
  else if (cg o l ac).2.2≠0 then ((cg o l ac).2.1,(cg o l ac).2.2)
  else if cA l ac≥0 then (cA l ac,42)
  else if (b7 l ac).length > 0 then (gi (b7 l ac) 0,41)
  else ((ac.length:Int),0)
def c9 (o:ae) (l:List ab) (ac:List aa):Bool:=(eH o l ac).2 == 0
def aX (ac:List aa) (i:Int):Int:=match ac.findIdx? (fun p=>p.Oper == i) with | some k=>(k:Int) | none=>-1
def gC (a b:ab):Bool:=aZ a b
def kL (l:List ab) (ac:List aa) (i k:Nat):Bool:=!(aZ (gi l (i:Int)) (gi l (k:Int)) && decide (aX ac k≥0) && (decide (aX ac i < 0) || decide (aX ac i > aX ac k)))
def nX (l:List ab) (ac:List aa) (i:Nat):Bool:=!(((gi l (i:Int)).End != -1) && decide (aX ac i < 0)) && (List.range l.length).all (kL l ac i)
def ec (o:ae) (l:List ab) (ac:List aa):Bool:=decide ((bL o l o.aC ac).2.2=0) && (List.range l.length).all (nX l ac)
def ql (l:List ab) (_:List aa):Prop:=l.length≤1000000
def uP (l:List ab) (_:List aa) (_:Bool):Prop:=l.length≤1000000
def fJ (o:ae) (l:List ab) (s:Int) (i:Int):aa:=⟨i,if 0≤i∧i < l.length then (b9 o s (gi l i).Kind).2.1 else 0⟩
def fu (o:ae) (l:List ab):List Int→Int→List Int→List aa × Int
  | _,_,[]=>([],0)
  | prev,s,i :: is =>
    if (ca o l prev s (fJ o l s i)).2≠0 then ([],(ca o l prev s (fJ o l s i)).2)
    else if (fu o l (i :: prev) (ca o l prev s (fJ o l s i)).1 is).2≠0 then ([],(fu o l (i :: prev) (ca o l prev s (fJ o l s i)).1 is).2)
    else (fJ o l s i :: (fu o l (i :: prev) (ca o l prev s (fJ o l s i)).1 is).1,0)
def lf (o:ae) (l:List ab) (order:List Int):List aa × Int:=if eK o o.aC≠0 then ([],eK o o.aC) else fu o l [] o.aC order
def df (o:ae) (l:List ab) (order:List Int):List aa × Int:=lf o l order
def xZ {α:Type} (_:ae) (_:List ab) (x:List α):Prop:=x.length≤1000000
def kJ (a b:ab):Bool:=(((a.aE == b.aE) || (a.End == b.aE)) || (a.aE == b.End)) || ((a.End == b.End) && (a.End != (-1)))
def cy (o:ae) (l:List ab) (jC:Int):Int:=if (bp o).2≠0∨(bZ l).2≠0 then 2 else if (l.length:Int) > jC then 3 else 0
def isDone (done:List Bool) (i:Int):Bool:=decide (i < done.length) && gi done i
def l4 (l:List ab) (done:List Bool) (i:Nat):Bool:=!isDone done i && (List.range l.length).all fun k:Nat=>isDone done (k:Int) || !aZ (gi l (k:Int)) (gi l (i:Int))
def fe (i:Int) (done:List Bool):Bool:=isDone done i
def jo (l:List ab) (done:List Bool) (n:Nat):List Int:=((List.range n).filter fun i:Nat=>l4 l done i).map fun i:Nat=>(i:Int)
def eW (l:List ab) (done:List Bool):List Int:=jo l done l.length
def iY (o:ae) (l:List ab) (st:Int) (i:Int):Option aa :=
  if (cu o st (gi l i).Kind).2.2 && ((gi l i).End == -1 || (gi l i).Result == (cu o st (gi l i).Kind).2.1) then some ⟨i,(cu o st (gi l i).Kind).2.1⟩ else none
def yv (o:ae) (l:List ab) (st:Int) (done:List Bool):List aa:=(eW l done).filterMap (iY o l st)
def bK (o:ae) (l:List ab) (st:Int) (done:List Bool):List aa:=if (bp o).2≠0 then [] else yv o l st done
def b5 (s:List aa):List aa:=s
abbrev Sk:=a9
abbrev Fm:=List (b6 × Int)
def EG (i:Int):Int:=IntKind.u32.wrap (1 * 2 ^ (min i.toNat IntKind.u32.bits))
def orU (a b:Int):Int:=IntKind.u32.wrap ((BitVec.ofInt IntKind.u32.bits a ||| BitVec.ofInt IntKind.u32.bits b).toNat:Int)
def j7:List Bool→Int→Int→Int
  | [],_,m=>m
  | b :: r,i,m=>j7 r (i+1) (if b then orU m (EG i) else m)
def iz (done:List Bool) (st:Int):b6:=⟨j7 done 0 0,st⟩
def dE (st:Int) (s:Sk):b6:=iz s.done st
def kQ (l:List ab) (done:List Bool):Bool:=(List.range l.length).all fun i:Nat=>!(((gi l (i:Int)).End != -1) && !gi done (i:Int))
def dQ (s:Sk):Bool:=kQ s.l s.done
def cf (done:List Bool):Nat:=done.count false
def e6 (o:ae) (l:List ab) (st:Int) (p:aa):Int:=(cu o st (gi l p.Oper).Kind).1
def l8 {α:Type} (g:aa→α→(List aa × Bool) × α):List aa→α→(List aa × Bool) × α
  | [],f=>(([],false),f)
  | p :: ps,f=>if (g p f).1.2 then g p f else l8 g ps (g p f).2
def ob (f:Fm) (k:b6):Fm:=if k.done=0∧k.state=0 then f else dk f k (IntKind.i64.wrap ((aF f k).getD 0+1))
def fL (o:ae) (l:List ab):Nat→Int→List aa→List Bool→Fm→(List aa × Bool) × Fm
  | 0,_,_,_,f=>(([],false),f)
  | n+1,st,so,done,f =>
    if kQ l done then ((so,true),f)
    else if (aF f (iz done st)).getD 0 > 0 then (([],false),f)
    else if (l8 (fun p f=>fL o l n (e6 o l st p) (so++[p]) (done.set p.Oper.toNat true) f) (bK o l st done) f).1.2
      then l8 (fun p f=>fL o l n (e6 o l st p) (so++[p]) (done.set p.Oper.toNat true) f) (bK o l st done) f
      else (([],false),ob (l8 (fun p f=>fL o l n (e6 o l st p) (so++[p]) (done.set p.Oper.toNat true) f) (bK o l st done) f).2 (iz done st))
def jq (s:Sk) (st:Int) (so:List aa):(List aa × Bool) × Fm:=fL s.o s.l (cf s.done+1) st so s.done s.failed
def aK (st:Int) (so:List aa) (s:Sk):List aa × Bool × Sk:=((jq s st so).1.1,(jq s st so).1.2,⟨s.o,s.l,s.done,(jq s st so).2⟩)
def Bg (p:aa) (s:Sk) (st:Int) (so:List aa):(List aa × Bool) × Fm:=fL s.o s.l (cf s.done) (e6 s.o s.l st p) (so++[p]) (s.done.set p.Oper.toNat true) s.failed
def bf (p:aa) (s:Sk) (st:Int) (so:List aa):List aa × Bool × Sk:=((Bg p s st so).1.1,(Bg p s st so).1.2,⟨s.o,s.l,s.done,(Bg p s st so).2⟩)
def mK (o:ae) (l:List ab):Nat→Int→List Bool→List (List aa)
  | 0,_,_=>[]
  | n+1,st,done=>(if kQ l done then [[]] else [])++(bK o l st done).flatMap fun p=>(mK o l n (e6 o l st p) (done.set p.Oper.toNat true)).map (p :: ·)
def bE (o:ae) (l:List ab):Sk:=⟨o,l,List.replicate l.length false,[]⟩
def bk (o:ae) (l:List ab):List aa × Int :=
  if cy o l 20≠0 then ([],cy o l 20)
  else if (jq (bE o l) o.aC []).1.2=false∨c9 o l (jq (bE o l) o.aC []).1.1=false then ([],41) else ((jq (bE o l) o.aC []).1.1,0)
def grow (n:Int) (last:List (List Int)):List (List Int):=last.flatMap fun x=>((List.range n.toNat).filter fun k:Nat=>!decide ((k:Int)∈x)).map fun k:Nat=>x++[(k:Int)]
def iy (n:Int):Nat→List (List Int)→List (List Int)
  | 0,_=>[]
  | f+1,last=>if last=[] then [] else grow n last++iy n f (grow n last)
def dj (n:Int):List (List Int):=[[]]++iy n (n.toNat+1) [[]]
def mX (o:ae) (l:List ab) (x:List Int):Option (List aa):=if (df o l x).2=0∧ec o l (df o l x).1=true then some (df o l x).1 else none
def eV (o:ae) (l:List ab):List (List aa):=(dj l.length).filterMap (mX o l)
def oN (st:Int) (so:List aa) (s:Sk):Nat:=2 * cf s.done+1
def BX (p:aa) (s:Sk) (st:Int) (so:List aa):Nat:=2 * cf s.done
def wfS (s:Sk):Prop:=s.done.length=s.l.length∧s.l.length≤20∧kx s.o
def xV (s:Sk):Prop:=s.done.length=s.l.length
def r8 (st:Int) (so:List aa) (s:Sk):Prop:=wfS s∧so.length+cf s.done≤100
def xW (p:aa) (s:Sk) (st:Int) (so:List aa):Prop:=wfS s∧so.length+cf s.done≤100∧0≤p.Oper∧p.Oper < s.l.length∧gi s.done p.Oper=false
def yd (o:ae) (l:List ab) (st:Int) (done:List Bool):Prop:=kx o∧l.length≤1000000
def yi (l:List ab) (done:List Bool):Prop:=l.length≤1000000
def ym (o:ae) (l:List ab):Prop:=l.length≤1000000
def yj (s:List aa):Prop:=s.length≤1000000
def yk (o:ae) (l:List ab) (jC:Int):Prop:=kx o
def xX (o:ae) (l:List ab):Prop:=kx o
def uQ (i:Int) (done:List Bool):Prop:=0≤i
def x5 (n:Int):Prop:=0≤n∧n≤5
def yn (o:ae) (l:List ab):Prop:=l.length≤5
def evE (x:au):Int :=
  if x.bh≠1∧x.bh≠2 then 8 else if x.aj < 1∨x.aj > 1000 then 2
  else if x.bh=1∧(x.N < 0∨x.N≥64) then 31 else if x.bh=2∧(x.N < 0∨x.N > 1000000) then 7 else 0
def gh (x:au):Int:=evE x
def eA (l:List au) (p:Int):Int:=l.foldl (fun w x=>if x.aj=p then x.bh else w) 0
def mH (l:List au):Nat→Int→Int × Int
  | 0,i=>(i,0)
  | f+1,i=>if evE (gi l i)≠0 then (i,evE (gi l i)) else if (eA (l.take i.toNat) (gi l i).aj == 1) == ((gi l i).bh == 1) then (i,33) else mH l f (i+1)
def bA (l:List au):Int × Int:=if l.length > 10000 then (0,3) else mH l l.length 0
def eR (l:List au):Int × Int:=bA l
def hZ (l:List au) (p:Int):Nat→Int
  | 0=>-1
  | i+1=>if (gi l (i:Int)).aj=p then (i:Int) else hZ l p i
def hU (l:List au) (p:Int):Int:=hZ l p l.length
def fo (l:List au) (p:Int):Bool:=eA l p == 1
def fU (i:Int) (x:au) (o:ab):ab:=if o.End=-1∧o.aj=x.aj then ⟨o.aj,o.Kind,o.aE,i,x.N⟩ else o
def fv (ops:List ab) (i:Int) (x:au):List ab:=ops.map (fU i x)++(if x.bh=1 then [⟨x.aj,x.N,i,-1,-1⟩] else [])
def lZ:List au→Int→List ab→List ab
  | [],_,ops=>ops
  | x :: l,i,ops=>lZ l (i+1) (fv ops i x)
def opsOf (l:List au):List ab:=lZ l 0 []
def fD (l:List au):List ab × Int:=if (bA l).2≠0 then ([],(bA l).2) else (opsOf l,0)
def eu (l:List au):List ab × Int:=fD l
def ew (a b:List ba):Bool:=decide (a=b)
def iR (a b:ae):Bool:=decide (a=b)
def pf (v:Int):List Int→Int→Int
  | [],_=>-1
  | y :: r,i=>if v=y then i else pf v r (i+1)
def ea (l:List Int) (x:Int):Int:=pf x l 0
def cx (l:List Int) (x:Int):Bool:=decide (x∈l)
def cY (s:List ba):List ba:=s
def eI (p:Int × Int) (n:Int):Bool:=decide (0≤p.1∧0≤p.2∧p.1 < n∧p.2 < n∧p.1≠p.2)
def cj (p:Int × Int) (n x:Int) (out:List Int):Bool:=eI p n && (p.2 == x) && !decide (p.1∈out)
def bm (l:List (Int × Int)) (n x:Int) (out:List Int):Int:=match l.findIdx? (fun p=>cj p n x out) with | some i=>(i:Int) | none=>-1
def bF (l:List (Int × Int)) (n x:Int) (out:List Int):Bool:=l.any (fun p=>cj p n x out)
def c6 (x n:Int) (out:List Int) (pairs:List (Int × Int)):Bool:=decide (x∈out) || pairs.any (fun p=>cj p n x out)
def jZ (n:Int) (pairs:List (Int × Int)) (out:List Int):Option Nat:=(List.range n.toNat).find? (fun (x:Nat)=>!c6 x n out pairs)
def hK (n:Int) (pairs:List (Int × Int)):Nat→List Int→List Int × Bool
  | 0,out=>(out,true)
  | k+1,out=>match jZ n pairs out with | none=>([],false) | some x=>hK n pairs k (out++[(x:Int)])
def dc (n:Int) (pairs:List (Int × Int)):List Int × Bool:=if n < 0∨n > 64 then ([],false) else hK n pairs n.toNat []
def gb {α:Type} (f:Int→Bool):List α→Int→List α
  | [],_=>[]
  | x :: l,i=>if f i=true then x :: gb f l (i+1) else gb f l (i+1)
def bl (h:ak):List au:=h.al.map (·.aI)
def cM (o:ae):Bool:=(bp o).2 != 0
def bb (l:List ae):Int:=match l.findIdx? cM with | some i=>(i:Int) | none=>-1
def a8 (l:List ae):Bool:=l.any cM
def iI (os:List ae) (b:List (Int × Int)) (x:aR):Int :=
  if x.ax < 0∨x.ax≥os.length then 2 else if x.aI.bh=2∧(aF b x.aI.aj).getD 0≠x.ax then 32
  else if x.aI.bh=1∧x.aI.N≥(gi os x.ax).aw then 31 else 0
def hGo (os:List ae):List aR→Int→List (Int × Int)→Int × Int
  | [],i,_=>(i,0)
  | x :: l,i,b=>if iI os b x≠0 then (i,iI os b x) else hGo os l (i+1) (dk b x.aI.aj x.ax)
def pA (os:List ae):Prop:=os.length < 1∨os.length > 8∨os.any cM=true
instance (os:List ae):Decidable (pA os):=by unfold pA; infer_instance
def aB (h:ak):Int × Int :=
  if pA h.ah then (-1,2) else if (bA (bl h)).2≠0 then bA (bl h) else hGo h.ah h.al 0 []
def toL (x:az):aR:=⟨x.ax,x.aI⟩
def bQ (l:List az):List au:=l.map (·.aI)
def mz (l:List az) (p:Int):Nat→Int
  | 0=>-1
  | i+1=>if (gi l (i:Int)).aI.aj=p then (gi l (i:Int)).ax else mz l p i
def fC (l:List az) (at_:Int):Int:=mz l (gi l at_).aI.aj at_.toNat
def cc (os:List ae) (l:List az):Int × Int:=aB ⟨os,l.map toL⟩
def eN (i:Int) (h:ak) (k:Int):Bool:=(gi h.al i).ax == k
def bO (l:List au) (h:ak) (k:Int):List au:=gb (fun i=>eN i h k) l 0
def dt (l:List aR) (k:Int):List au:=(l.filter (fun x=>x.ax == k)).map (·.aI)
def kU (h:ak) (k:Int):Prop:=(aB h).2≠0∨k < 0∨k≥h.ah.length
instance (h:ak) (k:Int):Decidable (kU h k):=by unfold kU; infer_instance
def eF (h:ak) (k:Int):fO:=if kU h k then ⟨⟨0,0,0,[]⟩,[]⟩ else ⟨gi h.ah k,dt h.al k⟩
def de (os:List ae) (l:List az) (k:Int):List au × Bool:=if kU ⟨os,l.map toL⟩ k then ([],false) else (dt (l.map toL) k,true)
def bB (h:ak):List ab:=opsOf (bl h)
def ofH (h:ak):List Int:=(bB h).map fun o=>(gi h.al o.aE).ax
def cV (h:ak):List ab × List Int:=if (aB h).2≠0 then ([],[]) else (bB h,ofH h)
def cU (os:List ae) (l:List az):List ab × List Int:=cV ⟨os,l.map toL⟩
def cq (h:ak):List ab × List Int × Int :=
  if (aB h).2≠0 then ([],[],(aB h).2) else if (bB h).length > 20 then ([],[],3) else (bB h,ofH h,0)
def gP (k:Int):List Int→Int→List Int
  | [],_=>[]
  | x :: l,i=>if x=k then i :: gP k l (i+1) else gP k l (i+1)
def bo (of:List Int) (k:Int):List Int:=gP k of 0
def dp (i:Int) (of:List Int) (k:Int):Bool:=gi of i == k
def bw (l:List ab) (of:List Int) (k:Int):List ab:=gb (fun i=>dp i of k) l 0
def dm (l:List ab) (of:List Int) (k:Int):List ab:=bw l of k
def kG (own:List Int) (p:aa):aa:=⟨gi own p.Oper,p.Result⟩
def rowOf (l:List ab) (of:List Int) (o:ae) (k:Int):List aa:=(bk o (dm l of k)).1.map (kG (bo of k))
def jb (l:List ab) (of:List Int):List ae→Int→List (List aa)→List (List aa) × Int
  | [],_,out=>(out,0)
  | o :: os,k,out=>if (bk o (dm l of k)).2≠0 then ([],(bk o (dm l of k)).2) else jb l of os (k+1) (out++[rowOf l of o k])
def cC (h:ak) (l:List ab) (of:List Int):List (List aa) × Int:=jb l of h.ah 0 []
def ct (n:Int):List aa:=[]
def cd (l:List (List aa)):List aa:=l.flatten
def lg (at_:Int) (n:Nat):List (Int × Int):=(List.range (n - 1)).map fun i:Nat=>(at_+i,at_+i+1)
def eE:List (List aa)→Int→List (Int × Int)
  | [],_=>[]
  | r :: rs,at_=>lg at_ r.length++eE rs (at_+r.length)
def m9 (l:List ab) (all:List aa) (i j:Nat):Bool:=aZ (gi l (gi all (i:Int)).Oper) (gi l (gi all (j:Int)).Oper)
def ir (l:List ab) (all:List aa) (i n:Nat):List (Int × Int):=((List.range n).filter (m9 l all i)).map fun j:Nat=>((i:Int),(j:Int))
def lb (l:List ab) (all:List aa):List (Int × Int):=(List.range all.length).flatMap fun i=>ir l all i all.length
def cS (l:List ab) (rows:List (List aa)):List aa × List (Int × Int):=(rows.flatten,eE rows 0++lb l rows.flatten)
def ka (l:List ab) (rows:List (List aa)):List Int × Bool:=dc (rows.flatten.length:Nat) (cS l rows).2
def cI (h:ak):List aa × Int :=
  if (cq h).2.2≠0 then ([],(cq h).2.2)
  else if (cC h (bB h) (ofH h)).2≠0 then ([],(cC h (bB h) (ofH h)).2)
  else if (ka (bB h) (cC h (bB h) (ofH h)).1).2=false then ([],41)
  else ((ka (bB h) (cC h (bB h) (ofH h)).1).1.map (gi (cC h (bB h) (ofH h)).1.flatten),0)
def dx (h:ak):Bool × Int:=if (cI h).2=41 then (false,0) else ((cI h).2 == 0,(cI h).2)
def dI (i:Int) (ac:List aa) (l:List ab) (of:List Int) (k:Int):Bool :=
  decide ((gi ac i).Oper < 0∨(gi ac i).Oper≥l.length) || gi of (gi ac i).Oper == k
def bN (x:List aa) (ac:List aa) (l:List ab) (of:List Int) (k:Int):List aa:=gb (fun i=>dI i ac l of k) x 0
def rB (l:List ab) (of:List Int) (k:Int) (ac:List aa):List aa:=ac.filter fun p=>decide (p.Oper < 0∨p.Oper≥l.length) || gi of p.Oper == k
def iv (l:List ab) (of:List Int) (ac:List aa):List ae→Int→Bool
  | [],_=>true
  | o :: os,k=>if (cg o l (rB l of k ac)).2.2≠0 then false else iv l of ac os (k+1)
def dT (h:ak) (ac:List aa):Bool :=
  if (aB h).2≠0 then false else iv (bB h) (ofH h) ac h.ah 0 && decide (cA (bB h) ac < 0) && ((b7 (bB h) ac).length == 0)
def pb (l:List ab) (ac:List aa) (i:Nat):Bool:=decide (0≤(gi ac (i:Int)).Oper∧(gi ac (i:Int)).Oper < l.length) && (List.range l.length).any fun k:Nat=>aZ (gi l (k:Int)) (gi l (gi ac (i:Int)).Oper) && (decide (aX ac k < 0) || decide (aX ac k≥i))
def eB (l:List ab) (ac:List aa):Int:=match (List.range ac.length).find? (pb l ac) with | some i=>(i:Int) | none=>-1
def pn (l:List ab) (ac:List aa) (pending:Bool) (i:Nat):Bool:=decide (aX ac i < 0) && (((gi l (i:Int)).End == -1) == pending)
def eL (l:List ab) (ac:List aa) (pending:Bool):List Int:=((List.range l.length).filter (pn l ac pending)).map fun i:Nat=>(i:Int)
def iS (os:List ae) (l:List az):List ae→Int→Bool
  | [],_=>true
  | o :: r,k=>if (eV o (eu (de os l k).1).1).length=0 then false else iS os l r (k+1)
def gO (os:List ae) (l:List az):Bool × Int :=
  if (cc os l).2≠0 then (false,(cc os l).2) else if (cU os l).1.length > 20 then (false,3) else (iS os l os 0,0)
def nb (of:List Int) (k:Int) (ac:List aa):List aa:=ac.filter fun p=>gi of p.Oper == k
def lY (l:List ab) (of:List Int) (ac:List aa):List ae→Int→Bool
  | [],_=>true
  | o :: os,k=>if (bL o l o.aC (nb of k ac)).2.2≠0 then false else lY l of ac os (k+1)
def fc (os:List ae) (l:List az) (ac:List aa):Bool :=
  if (cc os l).2≠0 then false
  else if ac.any (fun p=>decide (p.Oper < 0∨p.Oper≥(cU os l).1.length))=true then false
  else lY (cU os l).1 (cU os l).2 ac os 0 && decide (eB (cU os l).1 ac < 0) && ((eL (cU os l).1 ac false).length == 0)
def du:ae:=⟨2,2,0,[⟨0,0,1,0⟩,⟨0,1,0,0⟩,⟨1,0,1,0⟩,⟨1,1,1,1⟩]⟩
def cz (o:Int):ak:=⟨[du,du],[⟨0,⟨1,1,0⟩⟩,⟨o,⟨1,2,1⟩⟩,⟨0,⟨2,1,0⟩⟩,⟨o,⟨2,2,1⟩⟩]⟩
def dg (h:ak):List az:=h.al.map fun x=>⟨x.ax,x.aI⟩
def ff (h:ak):Int:=(h.al.countP (fun x=>x.aI.bh == 1):Nat)
def gQ (h:ak):Bool:=decide (h.ah.length≤10) && decide (h.al.length≤20) && h.ah.all gR
def gE:Bool:=true
def fN (l:List au):Int:=(l.countP (fun x=>x.bh == 1):Nat)
def yl (s:List ba):Prop:=s.length≤1000000
def lj (os:List ae):Prop:=∀ o∈os,kx o
def gg (h:ak):Prop:=lj h.ah∧h.al.length≤1000000∧∀ o∈h.ah,o.Rows.length≤1000000
def lh (h:ak):Prop:=h.al.length≤1000000
def rY (l:List az):Prop:=l.length≤1000000
def jl (os:List ae) (l:List az):Prop:=lj os∧l.length≤1000000
def pL (os:List ae) (l:List az) (_:Int):Prop:=lj os∧l.length≤1000000
def yg (h:ak) (_:Int):Prop:=gg h
def tr (l:List az) (at_:Int):Prop:=0≤at_∧at_ < l.length
def x4 (i:Int) (h:ak) (_:Int):Prop:=0≤i∧i < h.al.length
def ya (l:List au) (h:ak) (_:Int):Prop:=l.length≤h.al.length∧l.length≤1000000
def tq (i:Int) (of:List Int) (_:Int):Prop:=0≤i∧i < of.length
def r6 (of:List Int) (_:Int):Prop:=of.length≤1000000
def x7 (l:List ab) (of:List Int) (_:Int):Prop:=l.length≤of.length∧l.length≤1000000
def x3 (h:ak) (l:List ab) (of:List Int):Prop:=gg h∧l.length=of.length∧l.length≤1000000∧h.ah.length≤8
def r9 (l:List (List aa)):Prop:=l.flatten.length≤1000000
def yh (n:Int):Prop:=0≤n∧n≤1000000
def uR (l:List ab) (rows:List (List aa)):Prop:=rows.flatten.length≤1000∧∀ p∈rows.flatten,0≤p.Oper∧p.Oper < l.length
def yf (i:Int) (ac:List aa) (l:List ab) (of:List Int) (_:Int):Prop:=0≤i∧i < ac.length∧l.length=of.length
def ye (x ac:List aa) (l:List ab) (of:List Int) (_:Int):Prop:=x.length≤ac.length∧x.length≤1000000∧l.length=of.length
def r7 (h:ak) (ac:List aa):Prop:=gg h∧ac.length≤1000000
def xY (os:List ae) (l:List az) (ac:List aa):Prop:=lj os∧l.length≤1000000∧ac.length≤1000000
def qm (os:List ae) (l:List az):Prop:=lj os∧l.length≤1000000∧(opsOf (bQ l)).length≤5∧os.length≤1000000
def rZ (l:List ab) (_:List aa) (_:Bool):Prop:=l.length≤1000000
end Go.Proofs.YteahldlmkheleaaGreat
