/- Lemmas. -/
import Derived.Test.YteahldlmkheleaaGreatLTypes
import Derived.Test.YteahldlmkheleaaGreatPu
import Derived.Test.YteahldlmkheleaaGreatSk
set_option linter.all false
namespace Go.Proofs.YteahldlmkheleaaGreat
open Go Go.Sv Go.Pu
def hU (o:aj):Bool:=decide (o.Rows.length≤300)
def e7 (a b:List Int):Bool:=decide (a=b)
def iX (o:aj):Prop:=o.au < 1∨o.au > 32∨o.az < 1∨o.az > 64∨o.aH < 0∨o.aH≥o.au
instance (o:aj):Decidable (iX o):=by unfold iX; infer_instance
def im (o:aj) (i:Int):Prop:=i > 0∧((gi o.Rows (i - 1)).State > (gi o.Rows i).State∨((gi o.Rows (i - 1)).State=(gi o.Rows i).State∧(gi o.Rows (i - 1)).Kind≥(gi o.Rows i).Kind))
instance (o:aj) (i:Int):Decidable (im o i):=by unfold im; infer_instance
def gd (o:aj) (i:Int):Int :=
  if (gi o.Rows i).State < 0∨(gi o.Rows i).State≥o.au∨(gi o.Rows i).Next < 0∨(gi o.Rows i).Next≥o.au then 30
  else if (gi o.Rows i).Kind < 0∨(gi o.Rows i).Kind≥o.az then 31
  else if (gi o.Rows i).Result < 0∨(gi o.Rows i).Result > 1000000 then 7
  else if im o i then 32 else 0
def gG (o:aj):Nat→Nat→Int × Int
  | 0,i=>((i:Int),0)
  | k+1,i=>if gd o i≠0 then ((i:Int),gd o i) else gG o k (i+1)
def cX (o:aj):Int × Int:=if iX o then (-1,2) else gG o o.Rows.length 0
def bB (o:aj):Int × Int:=cX o
def ix (o:aj) (i:Int):Int:=gd o i
def preRow (o:aj) (i:Int):Prop:=0≤i∧i < o.Rows.length
def bA (o:aj) (state kind:Int):Int × Int × Bool:=match o.Rows.find? (fun r=>r.State == state && r.Kind == kind) with | some r=>(r.Next,r.Result,true) | none=>(0,0,false)
def cw (o:aj) (state kind:Int):Int × Int × Bool:=bA o state kind
def gE (r:bb) (state kind:Int):Bool:=r.State == state && r.Kind == kind
def bk (l:List bb) (state kind:Int):Int:=match l.findIdx? (fun r=>r.State == state && r.Kind == kind) with | some i=>(i:Int) | none=>-1
def eZ (t:ie) (state kind:Int):Int × Int × Bool:=cw t.o state kind
def dc (o:aj) (state kind result:Int):Int × Int :=
  if state < 0∨state≥o.au then (0,30) else if (bA o state kind).2.2=false∨(bA o state kind).2.1≠result then (0,40) else ((bA o state kind).1,0)
def iR (o:aj) (state kind result:Int):Int × Int:=dc o state kind result
def eY (_:Int):Bool:=false
def dw (x y:Int):Int:=if x < y then -1 else if x > y then 1 else 0
def gA (l:List Int):Int:=(l.find? (fun x=>x != 0)).getD 0
def gv (a b:bb):Int:=gA [dw a.State b.State,dw a.Kind b.Kind]
def b6 (n top:Int):Bool:=decide (n≥0) && decide (n < top)
def fF (o:aj) (state:Int):Int:=if (cX o).2≠0 then 2 else if state < 0∨state≥o.au then 30 else 0
def eD (o:aj) (l:List ab) (state:Int):List ab × List (Int × Int) × aj × Int:=(l,[],o,state)
def gr (o:aj) (l:List ab) (s:Int) (p:aa):Int :=
  if (dc o s (gi l p.Oper).Kind p.Result).2=0∧(gi l p.Oper).End≠-1∧(gi l p.Oper).Result≠p.Result then 40 else (dc o s (gi l p.Oper).Kind p.Result).2
def gB (o:aj) (l:List ab) (s:Int) (p:aa):Int × Int :=
  if gr o l s p≠0 then (0,gr o l s p) else ((dc o s (gi l p.Oper).Kind p.Result).1,0)
def du (o:aj) (l:List ab) (prev:List Int) (s:Int) (p:aa):Int × Int :=
  if p.Oper < 0∨p.Oper≥l.length then (0,2) else if p.Oper∈prev then (0,21) else gB o l s p
def j6 (u:List (Int × Int)) (k:Int):List (Int × Int):=dv u k (IntKind.i64.wrap ((aF u k).getD 0+1))
def dn (p:aa) (l:List ab) (u:List (Int × Int)) (o:aj) (s:Int):Int × Int × List (Int × Int) × Int :=
  if p.Oper < 0∨p.Oper≥l.length then (0,2,u,s) else if (aF u p.Oper).getD 0 > 0 then (0,21,u,s)
  else if (gB o l s p).2≠0 then (0,(gB o l s p).2,j6 u p.Oper,s) else ((gB o l s p).1,0,j6 u p.Oper,(gB o l s p).1)
def il (o:aj) (l:List ab):List Int→Int→List aa→Int × Int × Int
  | _,s,[]=>(s,0,0)
  | prev,s,p :: ps=>if (du o l prev s p).2≠0 then (0,0,(du o l prev s p).2)
    else ((il o l (p.Oper :: prev) (du o l prev s p).1 ps).1,(il o l (p.Oper :: prev) (du o l prev s p).1 ps).2.1+1,(il o l (p.Oper :: prev) (du o l prev s p).1 ps).2.2)
def c6 (o:aj) (l:List ab) (state:Int) (ah:List aa):Int × Int × Int :=
  if fF o state≠0 then (0,-1,fF o state) else il o l [] state ah
def jq (o:aj) (l:List ab) (state:Int) (ah:List aa):Int × Int × Int:=c6 o l state ah
def cS (o:aj) (l:List ab) (ah:List aa):Int × Int × Int:=c6 o l o.aH ah
def kL (o:aj):Prop:=inR .i64 o.au∧inR .i64 o.az
def yw (o:aj) (_:Int):Prop:=kL o
def yv (o:aj) (_:List ab) (_:Int) (_:List aa):Prop:=kL o
def lq (o:aj) (_:List ab) (x:List aa):Prop:=kL o∧x.length≤1000000
def eG (o:ab):Bool:=if o.End=-1 then o.Result == -1 else decide (o.End > o.aI) && decide (o.End≤9999) && decide (o.Result≥0) && decide (o.Result≤1000000)
def dq (o:ab):Int:=if o.ak < 1∨o.ak > 1000∨o.aI < 0∨o.aI > 9999 then 2 else if o.Kind < 0∨o.Kind≥64 then 31 else if eG o=false then 7 else 0
def bl (a b:ab):Bool:=decide (a.End≥0) && decide (a.End < b.aI)
def ga (u:List (Int × Int)) (k:Int):Int:=(aF u k).getD 0
def use (u:List (Int × Int)) (k:Int):List (Int × Int):=dv u k (IntKind.i64.wrap (ga u k+1))
def n9 (l:List ab) (u:List (Int × Int)) (i:Nat):Prop:=(0 < i∧(gi l (i:Int)).aI≤(gi l ((i:Int) - 1)).aI)∨ga u (gi l (i:Int)).aI > 0∨((gi l (i:Int)).End≥0∧ga u (gi l (i:Int)).End > 0)
instance (l:List ab) (u:List (Int × Int)) (i:Nat):Decidable (n9 l u i):=by unfold n9; infer_instance
def qR (l:List ab) (la:List (Int × ab)) (i:Nat):Bool:=(aF la (gi l (i:Int)).ak).isSome && !bl ((aF la (gi l (i:Int)).ak).getD ⟨0,0,0,0,0⟩) (gi l (i:Int))
def lk (l:List ab) (u:List (Int × Int)) (i:Nat):List (Int × Int):=if (gi l (i:Int)).End≥0 then use (use u (gi l (i:Int)).aI) (gi l (i:Int)).End else use u (gi l (i:Int)).aI
def en (l:List ab):Nat→List (Int × Int)→List (Int × ab)→Nat→Int × Int
  | 0,_,_,_=>((l.length:Int),0)
  | f+1,u,la,i =>
    if dq (gi l (i:Int))≠0 then ((i:Int),dq (gi l (i:Int)))
    else if n9 l u i then ((i:Int),32)
    else if qR l la i=true then ((i:Int),33)
    else en l f (lk l u i) (dv la (gi l (i:Int)).ak (gi l (i:Int))) (i+1)
def c7 (l:List ab):Int × Int:=if l.length > 5000 then (0,3) else en l l.length [] [] 0
def jX (ah:List aa):List (Int × Int):=ah.foldl (fun u p=>j6 u p.Oper) []
def fo (ah:List aa):List (Int × Int):=jX ah
def fk (i:Int) (m:List (Int × Int)):Bool:=(aF m i).getD 0 == 0
def opers (ah:List aa):List Int:=ah.map (·.Oper)
def kU (l:List ab) (ah:List aa) (pending:Bool) (i:Int):Bool:=(((gi l i).End == -1) == pending) && !decide (i∈opers ah)
def gK (l:List ab) (ah:List aa) (pending:Bool) (n:Nat):List Int:=((List.range n).filter (fun i:Nat=>kU l ah pending (i:Int))).map (fun i:Nat=>(i:Int))
def eC (l:List ab) (ah:List aa) (pending:Bool):List Int:=gK l ah pending l.length
def b9 (l:List ab) (ah:List aa):List Int:=eC l ah false
def eF (l:List ab) (ah:List aa) (x:Nat):Bool :=
  decide (0≤(gi ah (x:Int)).Oper∧(gi ah (x:Int)).Oper < l.length) && (List.range l.length).any (fun k:Nat=>bl (gi l (k:Int)) (gi l (gi ah (x:Int)).Oper) && !decide ((k:Int)∈opers (ah.take x)))
def qc (l:List ab) (ah:List aa) (n:Nat):Int:=match (List.range n).find? (eF l ah) with | some x=>(x:Int) | none=>-1
def cW (l:List ab) (ah:List aa):Int:=qc l ah ah.length
def eV (o:aj) (l:List ab) (ah:List aa):Int × Int :=
  if (bB o).2≠0∨(c7 l).2≠0 then (-1,2)
  else if (cS o l ah).2.2≠0 then ((cS o l ah).2.1,(cS o l ah).2.2)
  else if cW l ah≥0 then (cW l ah,42)
  else if (b9 l ah).length > 0 then (gi (b9 l ah) 0,41)
  else ((ah.length:Int),0)
def dt (o:aj) (l:List ab) (ah:List aa):Bool:=(eV o l ah).2 == 0
def cn (ah:List aa) (i:Int):Int:=match ah.findIdx? (fun p=>p.Oper == i) with | some k=>(k:Int) | none=>-1
def jr (a b:ab):Bool:=bl a b
def qK (l:List ab) (_:List aa):Prop:=l.length≤1000000
def vg (l:List ab) (_:List aa) (_:Bool):Prop:=l.length≤1000000
def kS (a b:ab):Bool:=(((a.aI == b.aI) || (a.End == b.aI)) || (a.aI == b.End)) || ((a.End == b.End) && (a.End != (-1)))
def cD (o:aj) (l:List ab) (jT:Int):Int:=if (bB o).2≠0∨(c7 l).2≠0 then 2 else if (l.length:Int) > jT then 3 else 0
def isDone (done:List Bool) (i:Int):Bool:=decide (i < done.length) && gi done i
def l9 (l:List ab) (done:List Bool) (i:Nat):Bool:=!isDone done i && (List.range l.length).all fun k:Nat=>isDone done (k:Int) || !bl (gi l (k:Int)) (gi l (i:Int))
def fh (i:Int) (done:List Bool):Bool:=isDone done i
def jG (l:List ab) (done:List Bool) (n:Nat):List Int:=((List.range n).filter fun i:Nat=>l9 l done i).map fun i:Nat=>(i:Int)
def fc (l:List ab) (done:List Bool):List Int:=jG l done l.length
def jj (o:aj) (l:List ab) (st:Int) (i:Int):Option aa :=
  if (cw o st (gi l i).Kind).2.2 && ((gi l i).End == -1 || (gi l i).Result == (cw o st (gi l i).Kind).2.1) then some ⟨i,(cw o st (gi l i).Kind).2.1⟩ else none
def yO (o:aj) (l:List ab) (st:Int) (done:List Bool):List aa:=(fc l done).filterMap (jj o l st)
def bM (o:aj) (l:List ab) (st:Int) (done:List Bool):List aa:=if (bB o).2≠0 then [] else yO o l st done
def b7 (s:List aa):List aa:=s
abbrev Sk:=a8
abbrev Fm:=List (b8 × Int)
def EN (i:Int):Int:=IntKind.u32.wrap (1 * 2 ^ (min i.toNat IntKind.u32.bits))
def orU (a b:Int):Int:=IntKind.u32.wrap ((BitVec.ofInt IntKind.u32.bits a ||| BitVec.ofInt IntKind.u32.bits b).toNat:Int)
def kg:List Bool→Int→Int→Int
  | [],_,m=>m
  | b :: r,i,m=>kg r (i+1) (if b then orU m (EN i) else m)
def iV (done:List Bool) (st:Int):b8:=⟨kg done 0 0,st⟩
def dI (st:Int) (s:Sk):b8:=iV s.done st
def kY (l:List ab) (done:List Bool):Bool:=(List.range l.length).all fun i:Nat=>!(((gi l (i:Int)).End != -1) && !gi done (i:Int))
def dU (s:Sk):Bool:=kY s.l s.done
def cf (done:List Bool):Nat:=done.count false
def fe (o:aj) (l:List ab) (st:Int) (p:aa):Int:=(cw o st (gi l p.Oper).Kind).1
def me {α:Type} (g:aa→α→(List aa × Bool) × α):List aa→α→(List aa × Bool) × α
  | [],f=>(([],false),f)
  | p :: ps,f=>if (g p f).1.2 then g p f else me g ps (g p f).2
def oA (f:Fm) (k:b8):Fm:=if k.done=0∧k.state=0 then f else dv f k (IntKind.i64.wrap ((aF f k).getD 0+1))
def fN (o:aj) (l:List ab):Nat→Int→List aa→List Bool→Fm→(List aa × Bool) × Fm
  | 0,_,_,_,f=>(([],false),f)
  | n+1,st,so,done,f =>
    if kY l done then ((so,true),f)
    else if (aF f (iV done st)).getD 0 > 0 then (([],false),f)
    else if (me (fun p f=>fN o l n (fe o l st p) (so++[p]) (done.set p.Oper.toNat true) f) (bM o l st done) f).1.2
      then me (fun p f=>fN o l n (fe o l st p) (so++[p]) (done.set p.Oper.toNat true) f) (bM o l st done) f
      else (([],false),oA (me (fun p f=>fN o l n (fe o l st p) (so++[p]) (done.set p.Oper.toNat true) f) (bM o l st done) f).2 (iV done st))
def jH (s:Sk) (st:Int) (so:List aa):(List aa × Bool) × Fm:=fN s.o s.l (cf s.done+1) st so s.done s.failed
def aK (st:Int) (so:List aa) (s:Sk):List aa × Bool × Sk:=((jH s st so).1.1,(jH s st so).1.2,⟨s.o,s.l,s.done,(jH s st so).2⟩)
def Bw (p:aa) (s:Sk) (st:Int) (so:List aa):(List aa × Bool) × Fm:=fN s.o s.l (cf s.done) (fe s.o s.l st p) (so++[p]) (s.done.set p.Oper.toNat true) s.failed
def bj (p:aa) (s:Sk) (st:Int) (so:List aa):List aa × Bool × Sk:=((Bw p s st so).1.1,(Bw p s st so).1.2,⟨s.o,s.l,s.done,(Bw p s st so).2⟩)
def m6 (o:aj) (l:List ab):Nat→Int→List Bool→List (List aa)
  | 0,_,_=>[]
  | n+1,st,done=>(if kY l done then [[]] else [])++(bM o l st done).flatMap fun p=>(m6 o l n (fe o l st p) (done.set p.Oper.toNat true)).map (p :: ·)
def bH (o:aj) (l:List ab):Sk:=⟨o,l,List.replicate l.length false,[]⟩
def bn (o:aj) (l:List ab):List aa × Int :=
  if cD o l 20≠0 then ([],cD o l 20)
  else if (jH (bH o l) o.aH []).1.2=false∨dt o l (jH (bH o l) o.aH []).1.1=false then ([],41) else ((jH (bH o l) o.aH []).1.1,0)
def grow (n:Int) (last:List (List Int)):List (List Int):=last.flatMap fun x=>((List.range n.toNat).filter fun k:Nat=>!decide ((k:Int)∈x)).map fun k:Nat=>x++[(k:Int)]
def iT (n:Int):Nat→List (List Int)→List (List Int)
  | 0,_=>[]
  | f+1,last=>if last=[] then [] else grow n last++iT n f (grow n last)
def dh (n:Int):List (List Int):=[[]]++iT n (n.toNat+1) [[]]
def o3 (st:Int) (so:List aa) (s:Sk):Nat:=2 * cf s.done+1
def B7 (p:aa) (s:Sk) (st:Int) (so:List aa):Nat:=2 * cf s.done
def wfS (s:Sk):Prop:=s.done.length=s.l.length∧s.l.length≤20∧kL s.o
def yk (s:Sk):Prop:=s.done.length=s.l.length
def sx (st:Int) (so:List aa) (s:Sk):Prop:=wfS s∧so.length+cf s.done≤100
def yl (p:aa) (s:Sk) (st:Int) (so:List aa):Prop:=wfS s∧so.length+cf s.done≤100∧0≤p.Oper∧p.Oper < s.l.length∧gi s.done p.Oper=false
def yx (o:aj) (l:List ab) (st:Int) (done:List Bool):Prop:=kL o∧l.length≤1000000
def yC (l:List ab) (done:List Bool):Prop:=l.length≤1000000
def yG (o:aj) (l:List ab):Prop:=l.length≤1000000
def yD (s:List aa):Prop:=s.length≤1000000
def yE (o:aj) (l:List ab) (jT:Int):Prop:=kL o
def ym (o:aj) (l:List ab):Prop:=kL o
def vj (i:Int) (done:List Bool):Prop:=0≤i
def yq (n:Int):Prop:=0≤n∧n≤5
def evE (x:aw):Int :=
  if x.bo≠1∧x.bo≠2 then 8 else if x.ak < 1∨x.ak > 1000 then 2
  else if x.bo=1∧(x.N < 0∨x.N≥64) then 31 else if x.bo=2∧(x.N < 0∨x.N > 1000000) then 7 else 0
def gp (x:aw):Int:=evE x
def fJ (l:List aw) (p:Int):Int:=l.foldl (fun w x=>if x.ak=p then x.bo else w) 0
def nK (l:List aw):Nat→Int→Int × Int
  | 0,i=>(i,0)
  | f+1,i=>if evE (gi l i)≠0 then (i,evE (gi l i)) else if (fJ (l.take i.toNat) (gi l i).ak == 1) == ((gi l i).bo == 1) then (i,33) else nK l f (i+1)
def bV (l:List aw):Int × Int:=if l.length > 10000 then (0,3) else nK l l.length 0
def e6 (l:List aw):Int × Int:=bV l
def iA (l:List aw) (p:Int):Nat→Int
  | 0=>-1
  | i+1=>if (gi l (i:Int)).ak=p then (i:Int) else iA l p i
def iv (l:List aw) (p:Int):Int:=iA l p l.length
def fq (l:List aw) (p:Int):Bool:=fJ l p == 1
def fU (i:Int) (x:aw) (o:ab):ab:=if o.End=-1∧o.ak=x.ak then ⟨o.ak,o.Kind,o.aI,i,x.N⟩ else o
def fA (ops:List ab) (i:Int) (x:aw):List ab:=ops.map (fU i x)++(if x.bo=1 then [⟨x.ak,x.N,i,-1,-1⟩] else [])
def l7:List aw→Int→List ab→List ab
  | [],_,ops=>ops
  | x :: l,i,ops=>l7 l (i+1) (fA ops i x)
def opsOf (l:List aw):List ab:=l7 l 0 []
def gL (l:List aw):List ab × Int:=if (bV l).2≠0 then ([],(bV l).2) else (opsOf l,0)
def iS (l:List aw):List ab × Int:=gL l
def eE (a b:List bb):Bool:=decide (a=b)
def jf (a b:aj):Bool:=decide (a=b)
def pH (v:Int):List Int→Int→Int
  | [],_=>-1
  | y :: r,i=>if v=y then i else pH v r (i+1)
def ew (l:List Int) (x:Int):Int:=pH x l 0
def cC (l:List Int) (x:Int):Bool:=decide (x∈l)
def de (s:List bb):List bb:=s
def ec (p:Int × Int) (n:Int):Bool:=decide (0≤p.1∧0≤p.2∧p.1 < n∧p.2 < n∧p.1≠p.2)
def cl (p:Int × Int) (n x:Int) (out:List Int):Bool:=ec p n && (p.2 == x) && !decide (p.1∈out)
def br (l:List (Int × Int)) (n x:Int) (out:List Int):Int:=match l.findIdx? (fun p=>cl p n x out) with | some i=>(i:Int) | none=>-1
def bJ (l:List (Int × Int)) (n x:Int) (out:List Int):Bool:=l.any (fun p=>cl p n x out)
def dg (x n:Int) (out:List Int) (pairs:List (Int × Int)):Bool:=decide (x∈out) || pairs.any (fun p=>cl p n x out)
def ke (n:Int) (pairs:List (Int × Int)) (out:List Int):Option Nat:=(List.range n.toNat).find? (fun (x:Nat)=>!dg x n out pairs)
def iu (n:Int) (pairs:List (Int × Int)):Nat→List Int→List Int × Bool
  | 0,out=>(out,true)
  | k+1,out=>match ke n pairs out with | none=>([],false) | some x=>iu n pairs k (out++[(x:Int)])
def dp (n:Int) (pairs:List (Int × Int)):List Int × Bool:=if n < 0∨n > 64 then ([],false) else iu n pairs n.toNat []
def gV {α:Type} (f:Int→Bool):List α→Int→List α
  | [],_=>[]
  | x :: l,i=>if f i=true then x :: gV f l (i+1) else gV f l (i+1)
def bT (h:al):List aw:=h.aq.map (·.aW)
def cZ (o:aj):Bool:=(bB o).2 != 0
def bc (l:List aj):Int:=match l.findIdx? cZ with | some i=>(i:Int) | none=>-1
def aZ (l:List aj):Bool:=l.any cZ
def jv (os:List aj) (b:List (Int × Int)) (x:bd):Int :=
  if x.aA < 0∨x.aA≥os.length then 2 else if x.aW.bo=2∧(aF b x.aW.ak).getD 0≠x.aA then 32
  else if x.aW.bo=1∧x.aW.N≥(gi os x.aA).az then 31 else 0
def hGo (os:List aj):List bd→Int→List (Int × Int)→Int × Int
  | [],i,_=>(i,0)
  | x :: l,i,b=>if jv os b x≠0 then (i,jv os b x) else hGo os l (i+1) (dv b x.aW.ak x.aA)
def p1 (os:List aj):Prop:=os.length < 1∨os.length > 8∨os.any cZ=true
instance (os:List aj):Decidable (p1 os):=by unfold p1; infer_instance
def aE (h:al):Int × Int :=
  if p1 h.ae then (-1,2) else if (bV (bT h)).2≠0 then bV (bT h) else hGo h.ae h.aq 0 []
def toL (x:aG):bd:=⟨x.aA,x.aW⟩
def cv (l:List aG):List aw:=l.map (·.aW)
def mP (l:List aG) (p:Int):Nat→Int
  | 0=>-1
  | i+1=>if (gi l (i:Int)).aW.ak=p then (gi l (i:Int)).aA else mP l p i
def fG (l:List aG) (at_:Int):Int:=mP l (gi l at_).aW.ak at_.toNat
def dJ (os:List aj) (l:List aG):Int × Int:=aE ⟨os,l.map toL⟩
def eX (i:Int) (h:al) (k:Int):Bool:=(gi h.aq i).aA == k
def bS (l:List aw) (h:al) (k:Int):List aw:=gV (fun i=>eX i h k) l 0
def BK (l:List bd) (k:Int):List aw:=(l.filter (fun x=>x.aA == k)).map (·.aW)
def q8 (h:al) (k:Int):Prop:=(aE h).2≠0∨k < 0∨k≥h.ae.length
instance (h:al) (k:Int):Decidable (q8 h k):=by unfold q8; infer_instance
def eS (h:al) (k:Int):fP:=if q8 h k then ⟨⟨0,0,0,[]⟩,[]⟩ else ⟨gi h.ae k,BK h.aq k⟩
def bz (h:al):List ab:=opsOf (bT h)
def ofH (h:al):List Int:=(bz h).map fun o=>(gi h.aq o.aI).aA
def cN (h:al):List ab × List Int:=if (aE h).2≠0 then ([],[]) else (bz h,ofH h)
def bf (os:List aj) (l:List aG):List ab × List Int:=cN ⟨os,l.map toL⟩
def cq (h:al):List ab × List Int × Int :=
  if (aE h).2≠0 then ([],[],(aE h).2) else if (bz h).length > 20 then ([],[],3) else (bz h,ofH h,0)
def hJ (k:Int):List Int→Int→List Int
  | [],_=>[]
  | x :: l,i=>if x=k then i :: hJ k l (i+1) else hJ k l (i+1)
def aS (of:List Int) (k:Int):List Int:=hJ k of 0
def dM (i:Int) (of:List Int) (k:Int):Bool:=gi of i == k
def bI (l:List ab) (of:List Int) (k:Int):List ab:=gV (fun i=>dM i of k) l 0
def dA (l:List ab) (of:List Int) (k:Int):List ab:=bI l of k
def gm (own:List Int) (p:aa):aa:=⟨gi own p.Oper,p.Result⟩
def rowOf (l:List ab) (of:List Int) (o:aj) (k:Int):List aa:=(bn o (dA l of k)).1.map (gm (aS of k))
def jo (l:List ab) (of:List Int):List aj→Int→List (List aa)→List (List aa) × Int
  | [],_,out=>(out,0)
  | o :: os,k,out=>if (bn o (dA l of k)).2≠0 then ([],(bn o (dA l of k)).2) else jo l of os (k+1) (out++[rowOf l of o k])
def cM (h:al) (l:List ab) (of:List Int):List (List aa) × Int:=jo l of h.ae 0 []
def cu (n:Int):List aa:=[]
def cg (l:List (List aa)):List aa:=l.flatten
def lp (at_:Int) (n:Nat):List (Int × Int):=(List.range (n - 1)).map fun i:Nat=>(at_+i,at_+i+1)
def eQ:List (List aa)→Int→List (Int × Int)
  | [],_=>[]
  | r :: rs,at_=>lp at_ r.length++eQ rs (at_+r.length)
def mq (l:List ab) (all:List aa) (i j:Nat):Bool:=bl (gi l (gi all (i:Int)).Oper) (gi l (gi all (j:Int)).Oper)
def iO (l:List ab) (all:List aa) (i n:Nat):List (Int × Int):=((List.range n).filter (mq l all i)).map fun j:Nat=>((i:Int),(j:Int))
def ll (l:List ab) (all:List aa):List (Int × Int):=(List.range all.length).flatMap fun i=>iO l all i all.length
def cj (l:List ab) (rows:List (List aa)):List aa × List (Int × Int):=(rows.flatten,eQ rows 0++ll l rows.flatten)
def km (l:List ab) (rows:List (List aa)):List Int × Bool:=dp (rows.flatten.length:Nat) (cj l rows).2
def cV (h:al):List aa × Int :=
  if (cq h).2.2≠0 then ([],(cq h).2.2)
  else if (cM h (bz h) (ofH h)).2≠0 then ([],(cM h (bz h) (ofH h)).2)
  else if (km (bz h) (cM h (bz h) (ofH h)).1).2=false then ([],41)
  else ((km (bz h) (cM h (bz h) (ofH h)).1).1.map (gi (cM h (bz h) (ofH h)).1.flatten),0)
def dF (h:al):Bool × Int:=if (cV h).2=41 then (false,0) else ((cV h).2 == 0,(cV h).2)
def dN (i:Int) (ah:List aa) (l:List ab) (of:List Int) (k:Int):Bool :=
  decide ((gi ah i).Oper < 0∨(gi ah i).Oper≥l.length) || gi of (gi ah i).Oper == k
def bR (x:List aa) (ah:List aa) (l:List ab) (of:List Int) (k:Int):List aa:=gV (fun i=>dN i ah l of k) x 0
def D9 (l:List ab) (of:List Int) (k:Int) (ah:List aa):List aa:=ah.filter fun p=>decide (p.Oper < 0∨p.Oper≥l.length) || gi of p.Oper == k
def kR (l:List ab) (of:List Int) (ah:List aa):List aj→Int→Bool
  | [],_=>true
  | o :: os,k=>if (cS o l (D9 l of k ah)).2.2≠0 then false else kR l of ah os (k+1)
def gn (h:al) (ah:List aa):Bool :=
  if (aE h).2≠0 then false else kR (bz h) (ofH h) ah h.ae 0 && decide (cW (bz h) ah < 0) && ((b9 (bz h) ah).length == 0)
def pE (l:List ab) (ah:List aa) (i:Nat):Bool:=decide (0≤(gi ah (i:Int)).Oper∧(gi ah (i:Int)).Oper < l.length) && (List.range l.length).any fun k:Nat=>bl (gi l (k:Int)) (gi l (gi ah (i:Int)).Oper) && (decide (cn ah k < 0) || decide (cn ah k≥i))
def eK (l:List ab) (ah:List aa):Int:=match (List.range ah.length).find? (pE l ah) with | some i=>(i:Int) | none=>-1
def pN (l:List ab) (ah:List aa) (pending:Bool) (i:Nat):Bool:=decide (cn ah i < 0) && (((gi l (i:Int)).End == -1) == pending)
def eW (l:List ab) (ah:List aa) (pending:Bool):List Int:=((List.range l.length).filter (pN l ah pending)).map fun i:Nat=>(i:Int)
def gT (of:List Int) (k:Int) (ah:List aa):List aa:=ah.filter fun p=>gi of p.Oper == k
def l4 (l:List ab) (of:List Int) (ah:List aa):List aj→Int→Bool
  | [],_=>true
  | o :: os,k=>if (c6 o l o.aH (gT of k ah)).2.2≠0 then false else l4 l of ah os (k+1)
def eA (os:List aj) (l:List aG) (ah:List aa):Bool :=
  if (dJ os l).2≠0 then false
  else if ah.any (fun p=>decide (p.Oper < 0∨p.Oper≥(bf os l).1.length))=true then false
  else l4 (bf os l).1 (bf os l).2 ah os 0 && decide (eK (bf os l).1 ah < 0) && ((eW (bf os l).1 ah false).length == 0)
def jk (os:List aj) (ops:List ab) (of:List Int):List Int→List Int→List aa→List aa × Bool
  | [],_,out=>(out,true)
  | i :: r,st,out=>if (bA (gi os (gi of i)) (gi st (gi of i)) (gi ops i).Kind).2.2=false then ([],false)
    else jk os ops of r (st.set (gi of i).toNat (bA (gi os (gi of i)) (gi st (gi of i)) (gi ops i).Kind).1) (out++[⟨i,(bA (gi os (gi of i)) (gi st (gi of i)) (gi ops i).Kind).2.1⟩])
def dj (os:List aj) (ops:List ab) (of order:List Int):List aa × Bool:=jk os ops of order (os.map (·.aH)) []
def fM (os:List aj) (l:List aG):Bool :=
  (dh (bf os l).1.length).any fun x=>(dj os (bf os l).1 (bf os l).2 x).2 && eA os l (dj os (bf os l).1 (bf os l).2 x).1
def dC:aj:=⟨2,2,0,[⟨0,0,1,0⟩,⟨0,1,0,0⟩,⟨1,0,1,0⟩,⟨1,1,1,1⟩]⟩
def cG (o:Int):al:=⟨[dC,dC],[⟨0,⟨1,1,0⟩⟩,⟨o,⟨1,2,1⟩⟩,⟨0,⟨2,1,0⟩⟩,⟨o,⟨2,2,1⟩⟩]⟩
def eO (h:al):List aG:=h.aq.map fun x=>⟨x.aA,x.aW⟩
def fj (h:al):Int:=(h.aq.countP (fun x=>x.aW.bo == 1):Nat)
def qG (uG:List Int) (i:Int):Nat→Int
  | 0=>0
  | k+1=>qG uG i k+if gi uG (k:Int)=gi uG i then 1 else 0
def iz (uG:List Int) (i:Int):Int:=qG uG i i.toNat
def hK (h:al):Bool:=decide (h.ae.length≤10) && decide (h.aq.length≤20) && h.ae.all hU
def fI:Bool:=true
def lf (l:List aw):Int:=(l.countP (fun x=>x.bo == 1):Nat)
def yF (s:List bb):Prop:=s.length≤1000000
def l6 (os:List aj):Prop:=∀ o∈os,kL o
def gl (h:al):Prop:=l6 h.ae∧h.aq.length≤1000000∧∀ o∈h.ae,o.Rows.length≤1000000
def l5 (h:al):Prop:=h.aq.length≤1000000
def ss (l:List aG):Prop:=l.length≤1000000
def k5 (os:List aj) (l:List aG):Prop:=l6 os∧l.length≤1000000
def yA (h:al) (_:Int):Prop:=gl h
def tL (l:List aG) (at_:Int):Prop:=0≤at_∧at_ < l.length
def yp (i:Int) (h:al) (_:Int):Prop:=0≤i∧i < h.aq.length
def yu (l:List aw) (h:al) (_:Int):Prop:=l.length≤h.aq.length∧l.length≤1000000
def tK (i:Int) (of:List Int) (_:Int):Prop:=0≤i∧i < of.length
def sw (of:List Int) (_:Int):Prop:=of.length≤1000000
def yr (l:List ab) (of:List Int) (_:Int):Prop:=l.length≤of.length∧l.length≤1000000
def yo (h:al) (l:List ab) (of:List Int):Prop:=gl h∧l.length=of.length∧l.length≤1000000∧h.ae.length≤8
def sA (l:List (List aa)):Prop:=l.flatten.length≤1000000
def yB (n:Int):Prop:=0≤n∧n≤1000000
def vk (l:List ab) (rows:List (List aa)):Prop:=rows.flatten.length≤1000∧∀ p∈rows.flatten,0≤p.Oper∧p.Oper < l.length
def yz (i:Int) (ah:List aa) (l:List ab) (of:List Int) (_:Int):Prop:=0≤i∧i < ah.length∧l.length=of.length
def yy (x ah:List aa) (l:List ab) (of:List Int) (_:Int):Prop:=x.length≤ah.length∧x.length≤1000000∧l.length=of.length
def vh (h:al) (ah:List aa):Prop:=gl h∧ah.length≤1000000
def yn (os:List aj) (l:List aG) (ah:List aa):Prop:=l6 os∧l.length≤1000000∧ah.length≤1000000
def qL (os:List aj) (l:List aG):Prop:=l6 os∧l.length≤1000000∧(opsOf (cv l)).length≤5∧os.length≤1000000
def vi (os:List aj) (ops:List ab) (of order:List Int):Prop:=os.length≤1000000∧order.length≤1000000∧ops.length=of.length∧(∀ k∈of,0≤k∧k < os.length)∧(∀ i∈order,0≤i∧i < ops.length)
def su (l:List ab) (_:List aa) (_:Bool):Prop:=l.length≤1000000
end Go.Proofs.YteahldlmkheleaaGreat
