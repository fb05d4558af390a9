/- zN Cg GK of yZ of CI objects,in plain Lean. -/
import Derived.Test.YteahldlmkheleaaGreatLTypes
import Derived.Test.YteahldlmkheleaaGreatPu
import Derived.Test.YteahldlmkheleaaGreatSk
set_option linter.all false
namespace Go.Proofs.YteahldlmkheleaaGreat
open Go Go.Sv Go.Pu
def gI (o:ah):Bool:=decide (o.Rows.length≤300)
def eK (a b:List Int):Bool:=decide (a=b)
def ix (o:ah):Prop:=o.ar < 1∨o.ar > 32∨o.aw < 1∨o.aw > 64∨o.aE < 0∨o.aE≥o.ar
instance (o:ah):Decidable (ix o):=by unfold ix; infer_instance
def gU (o:ah) (i:Int):Prop:=i > 0∧((gi o.Rows (i - 1)).State > (gi o.Rows i).State∨((gi o.Rows (i - 1)).State=(gi o.Rows i).State∧(gi o.Rows (i - 1)).Kind≥(gi o.Rows i).Kind))
instance (o:ah) (i:Int):Decidable (gU o i):=by unfold gU; infer_instance
def fK (o:ah) (i:Int):Int :=
  if (gi o.Rows i).State < 0∨(gi o.Rows i).State≥o.ar∨(gi o.Rows i).Next < 0∨(gi o.Rows i).Next≥o.ar then 30
  else if (gi o.Rows i).Kind < 0∨(gi o.Rows i).Kind≥o.aw then 31
  else if (gi o.Rows i).Result < 0∨(gi o.Rows i).Result > 1000000 then 7
  else if gU o i then 32 else 0
def gj (o:ah):Nat→Nat→Int × Int
  | 0,i=>((i:Int),0)
  | k+1,i=>if fK o i≠0 then ((i:Int),fK o i) else gj o k (i+1)
def cI (o:ah):Int × Int:=if ix o then (-1,2) else gj o o.Rows.length 0
def br (o:ah):Int × Int:=cI o
def g7 (o:ah) (i:Int):Int:=fK o i
def preRow (o:ah) (i:Int):Prop:=0≤i∧i < o.Rows.length
def bq (o:ah) (state kind:Int):Int × Int × Bool:=match o.Rows.find? (fun r=>r.State == state && r.Kind == kind) with | some r=>(r.Next,r.Result,true) | none=>(0,0,false)
def cm (o:ah) (state kind:Int):Int × Int × Bool:=bq o state kind
def gh (r:a8) (state kind:Int):Bool:=r.State == state && r.Kind == kind
def bg (l:List a8) (state kind:Int):Int:=match l.findIdx? (fun r=>r.State == state && r.Kind == kind) with | some i=>(i:Int) | none=>-1
def eI (t:gQ) (state kind:Int):Int × Int × Bool:=cm t.o state kind
def cX (o:ah) (state kind result:Int):Int × Int :=
  if state < 0∨state≥o.ar then (0,30) else if (bq o state kind).2.2=false∨(bq o state kind).2.1≠result then (0,40) else ((bq o state kind).1,0)
def im (o:ah) (state kind result:Int):Int × Int:=cX o state kind result
def eH (_:Int):Bool:=false
def dk (x y:Int):Int:=if x < y then -1 else if x > y then 1 else 0
def gd (l:List Int):Int:=(l.find? (fun x=>x != 0)).getD 0
def fX (a b:a8):Int:=gd [dk a.State b.State,dk a.Kind b.Kind]
def bV (n top:Int):Bool:=decide (n≥0) && decide (n < top)
def fg (o:ah) (state:Int):Int:=if (cI o).2≠0 then 2 else if state < 0∨state≥o.ar then 30 else 0
def dZ (o:ah) (l:List ab) (state:Int):List ab × List (Int × Int) × ah × Int:=(l,[],o,state)
def fV (o:ah) (l:List ab) (s:Int) (p:aa):Int :=
  if (cX o s (gi l p.Oper).Kind p.Result).2=0∧(gi l p.Oper).End≠-1∧(gi l p.Oper).Result≠p.Result then 40 else (cX o s (gi l p.Oper).Kind p.Result).2
def gf (o:ah) (l:List ab) (s:Int) (p:aa):Int × Int :=
  if fV o l s p≠0 then (0,fV o l s p) else ((cX o s (gi l p.Oper).Kind p.Result).1,0)
def di (o:ah) (l:List ab) (prev:List Int) (s:Int) (p:aa):Int × Int :=
  if p.Oper < 0∨p.Oper≥l.length then (0,2) else if p.Oper∈prev then (0,21) else gf o l s p
def ju (u:List (Int × Int)) (k:Int):List (Int × Int):=dj u k (IntKind.i64.wrap ((aC u k).getD 0+1))
def dc (p:aa) (l:List ab) (u:List (Int × Int)) (o:ah) (s:Int):Int × Int × List (Int × Int) × Int :=
  if p.Oper < 0∨p.Oper≥l.length then (0,2,u,s) else if (aC u p.Oper).getD 0 > 0 then (0,21,u,s)
  else if (gf o l s p).2≠0 then (0,(gf o l s p).2,ju u p.Oper,s) else ((gf o l s p).1,0,ju u p.Oper,(gf o l s p).1)
def gT (o:ah) (l:List ab):List Int→Int→List aa→Int × Int × Int
  | _,s,[]=>(s,0,0)
  | prev,s,p :: ps=>if (di o l prev s p).2≠0 then (0,0,(di o l prev s p).2)
    else ((gT o l (p.Oper :: prev) (di o l prev s p).1 ps).1,(gT o l (p.Oper :: prev) (di o l prev s p).1 ps).2.1+1,(gT o l (p.Oper :: prev) (di o l prev s p).1 ps).2.2)
def cN (o:ah) (l:List ab) (state:Int) (ac:List aa):Int × Int × Int :=
  if fg o state≠0 then (0,-1,fg o state) else gT o l [] state ac
def iO (o:ah) (l:List ab) (state:Int) (ac:List aa):Int × Int × Int:=cN o l state ac
def cC (o:ah) (l:List ab) (ac:List aa):Int × Int × Int:=cN o l o.aE ac
def jW (o:ah):Prop:=inR .i64 o.ar∧inR .i64 o.aw
def xd (o:ah) (_:Int):Prop:=jW o
def xc (o:ah) (_:List ab) (_:Int) (_:List aa):Prop:=jW o
def kE (o:ah) (_:List ab) (x:List aa):Prop:=jW o∧x.length≤1000000
def en (o:ab):Bool:=if o.End=-1 then o.Result == -1 else decide (o.End > o.aF) && decide (o.End≤9999) && decide (o.Result≥0) && decide (o.Result≤1000000)
def df (o:ab):Int:=if o.aj < 1∨o.aj > 1000∨o.aF < 0∨o.aF > 9999 then 2 else if o.Kind < 0∨o.Kind≥64 then 31 else if en o=false then 7 else 0
def bh (a b:ab):Bool:=decide (a.End≥0) && decide (a.End < b.aF)
def fI (u:List (Int × Int)) (k:Int):Int:=(aC u k).getD 0
def use (u:List (Int × Int)) (k:Int):List (Int × Int):=dj u k (IntKind.i64.wrap (fI u k+1))
def nk (l:List ab) (u:List (Int × Int)) (i:Nat):Prop:=(0 < i∧(gi l (i:Int)).aF≤(gi l ((i:Int) - 1)).aF)∨fI u (gi l (i:Int)).aF > 0∨((gi l (i:Int)).End≥0∧fI u (gi l (i:Int)).End > 0)
instance (l:List ab) (u:List (Int × Int)) (i:Nat):Decidable (nk l u i):=by unfold nk; infer_instance
def p3 (l:List ab) (la:List (Int × ab)) (i:Nat):Bool:=(aC la (gi l (i:Int)).aj).isSome && !bh ((aC la (gi l (i:Int)).aj).getD ⟨0,0,0,0,0⟩) (gi l (i:Int))
def kA (l:List ab) (u:List (Int × Int)) (i:Nat):List (Int × Int):=if (gi l (i:Int)).End≥0 then use (use u (gi l (i:Int)).aF) (gi l (i:Int)).End else use u (gi l (i:Int)).aF
def dS (l:List ab):Nat→List (Int × Int)→List (Int × ab)→Nat→Int × Int
  | 0,_,_,_=>((l.length:Int),0)
  | f+1,u,la,i =>
    if df (gi l (i:Int))≠0 then ((i:Int),df (gi l (i:Int)))
    else if nk l u i then ((i:Int),32)
    else if p3 l la i=true then ((i:Int),33)
    else dS l f (kA l u i) (dj la (gi l (i:Int)).aj (gi l (i:Int))) (i+1)
def cQ (l:List ab):Int × Int:=if l.length > 5000 then (0,3) else dS l l.length [] [] 0
def js (ac:List aa):List (Int × Int):=ac.foldl (fun u p=>ju u p.Oper) []
def eW (ac:List aa):List (Int × Int):=js ac
def eU (i:Int) (m:List (Int × Int)):Bool:=(aC m i).getD 0 == 0
def opers (ac:List aa):List Int:=ac.map (·.Oper)
def kb (l:List ab) (ac:List aa) (pending:Bool) (i:Int):Bool:=(((gi l i).End == -1) == pending) && !decide (i∈opers ac)
def gk (l:List ab) (ac:List aa) (pending:Bool) (n:Nat):List Int:=((List.range n).filter (fun i:Nat=>kb l ac pending (i:Int))).map (fun i:Nat=>(i:Int))
def dY (l:List ab) (ac:List aa) (pending:Bool):List Int:=gk l ac pending l.length
def bZ (l:List ab) (ac:List aa):List Int:=dY l ac false
def ec (l:List ab) (ac:List aa) (x:Nat):Bool :=
  decide (0≤(gi ac (x:Int)).Oper∧(gi ac (x:Int)).Oper < l.length) && (List.range l.length).any (fun k:Nat=>bh (gi l (k:Int)) (gi l (gi ac (x:Int)).Oper) && !decide ((k:Int)∈opers (ac.take x)))
def pg (l:List ab) (ac:List aa) (n:Nat):Int:=match (List.range n).find? (ec l ac) with | some x=>(x:Int) | none=>-1
def cH (l:List ab) (ac:List aa):Int:=pg l ac ac.length
def eE (o:ah) (l:List ab) (ac:List aa):Int × Int :=
  if (br o).2≠0∨(cQ l).2≠0 then (-1,2)
  else if (cC o l ac).2.2≠0 then ((cC o l ac).2.1,(cC o l ac).2.2)
  else if cH l ac≥0 then (cH l ac,42)
  else if (bZ l ac).length > 0 then (gi (bZ l ac) 0,41)
  else ((ac.length:Int),0)
def dh (o:ah) (l:List ab) (ac:List aa):Bool:=(eE o l ac).2 == 0
def cc (ac:List aa) (i:Int):Int:=match ac.findIdx? (fun p=>p.Oper == i) with | some k=>(k:Int) | none=>-1
def iP (a b:ab):Bool:=bh a b
def pU (l:List ab) (_:List aa):Prop:=l.length≤1000000
def ua (l:List ab) (_:List aa) (_:Bool):Prop:=l.length≤1000000
def j9 (a b:ab):Bool:=(((a.aF == b.aF) || (a.End == b.aF)) || (a.aF == b.End)) || ((a.End == b.End) && (a.End != (-1)))
def cu (o:ah) (l:List ab) (jn:Int):Int:=if (br o).2≠0∨(cQ l).2≠0 then 2 else if (l.length:Int) > jn then 3 else 0
def isDone (done:List Bool) (i:Int):Bool:=decide (i < done.length) && gi done i
def lv (l:List ab) (done:List Bool) (i:Nat):Bool:=!isDone done i && (List.range l.length).all fun k:Nat=>isDone done (k:Int) || !bh (gi l (k:Int)) (gi l (i:Int))
def eS (i:Int) (done:List Bool):Bool:=isDone done i
def jc (l:List ab) (done:List Bool) (n:Nat):List Int:=((List.range n).filter fun i:Nat=>lv l done i).map fun i:Nat=>(i:Int)
def eO (l:List ab) (done:List Bool):List Int:=jc l done l.length
def iH (o:ah) (l:List ab) (st:Int) (i:Int):Option aa :=
  if (cm o st (gi l i).Kind).2.2 && ((gi l i).End == -1 || (gi l i).Result == (cm o st (gi l i).Kind).2.1) then some ⟨i,(cm o st (gi l i).Kind).2.1⟩ else none
def xw (o:ah) (l:List ab) (st:Int) (done:List Bool):List aa:=(eO l done).filterMap (iH o l st)
def bG (o:ah) (l:List ab) (st:Int) (done:List Bool):List aa:=if (br o).2≠0 then [] else xw o l st done
def bW (s:List aa):List aa:=s
abbrev Sk:=aX
abbrev Fm:=List (bX × Int)
def Dy (i:Int):Int:=IntKind.u32.wrap (1 * 2 ^ (min i.toNat IntKind.u32.bits))
def orU (a b:Int):Int:=IntKind.u32.wrap ((BitVec.ofInt IntKind.u32.bits a ||| BitVec.ofInt IntKind.u32.bits b).toNat:Int)
def jD:List Bool→Int→Int→Int
  | [],_,m=>m
  | b :: r,i,m=>jD r (i+1) (if b then orU m (Dy i) else m)
def iv (done:List Bool) (st:Int):bX:=⟨jD done 0 0,st⟩
def dy (st:Int) (s:Sk):bX:=iv s.done st
def kg (l:List ab) (done:List Bool):Bool:=(List.range l.length).all fun i:Nat=>!(((gi l (i:Int)).End != -1) && !gi done (i:Int))
def dJ (s:Sk):Bool:=kg s.l s.done
def cf (done:List Bool):Nat:=done.count false
def eQ (o:ah) (l:List ab) (st:Int) (p:aa):Int:=(cm o st (gi l p.Oper).Kind).1
def ly {α:Type} (g:aa→α→(List aa × Bool) × α):List aa→α→(List aa × Bool) × α
  | [],f=>(([],false),f)
  | p :: ps,f=>if (g p f).1.2 then g p f else ly g ps (g p f).2
def nE (f:Fm) (k:bX):Fm:=if k.done=0∧k.state=0 then f else dj f k (IntKind.i64.wrap ((aC f k).getD 0+1))
def fu (o:ah) (l:List ab):Nat→Int→List aa→List Bool→Fm→(List aa × Bool) × Fm
  | 0,_,_,_,f=>(([],false),f)
  | n+1,st,so,done,f =>
    if kg l done then ((so,true),f)
    else if (aC f (iv done st)).getD 0 > 0 then (([],false),f)
    else if (ly (fun p f=>fu o l n (eQ o l st p) (so++[p]) (done.set p.Oper.toNat true) f) (bG o l st done) f).1.2
      then ly (fun p f=>fu o l n (eQ o l st p) (so++[p]) (done.set p.Oper.toNat true) f) (bG o l st done) f
      else (([],false),nE (ly (fun p f=>fu o l n (eQ o l st p) (so++[p]) (done.set p.Oper.toNat true) f) (bG o l st done) f).2 (iv done st))
def jd (s:Sk) (st:Int) (so:List aa):(List aa × Bool) × Fm:=fu s.o s.l (cf s.done+1) st so s.done s.failed
def aH (st:Int) (so:List aa) (s:Sk):List aa × Bool × Sk:=((jd s st so).1.1,(jd s st so).1.2,⟨s.o,s.l,s.done,(jd s st so).2⟩)
def Aj (p:aa) (s:Sk) (st:Int) (so:List aa):(List aa × Bool) × Fm:=fu s.o s.l (cf s.done) (eQ s.o s.l st p) (so++[p]) (s.done.set p.Oper.toNat true) s.failed
def bf (p:aa) (s:Sk) (st:Int) (so:List aa):List aa × Bool × Sk:=((Aj p s st so).1.1,(Aj p s st so).1.2,⟨s.o,s.l,s.done,(Aj p s st so).2⟩)
def mg (o:ah) (l:List ab):Nat→Int→List Bool→List (List aa)
  | 0,_,_=>[]
  | n+1,st,done=>(if kg l done then [[]] else [])++(bG o l st done).flatMap fun p=>(mg o l n (eQ o l st p) (done.set p.Oper.toNat true)).map (p :: ·)
def bB (o:ah) (l:List ab):Sk:=⟨o,l,List.replicate l.length false,[]⟩
def bj (o:ah) (l:List ab):List aa × Int :=
  if cu o l 20≠0 then ([],cu o l 20)
  else if (jd (bB o l) o.aE []).1.2=false∨dh o l (jd (bB o l) o.aE []).1.1=false then ([],41) else ((jd (bB o l) o.aE []).1.1,0)
def grow (n:Int) (last:List (List Int)):List (List Int):=last.flatMap fun x=>((List.range n.toNat).filter fun k:Nat=>!decide ((k:Int)∈x)).map fun k:Nat=>x++[(k:Int)]
def ir (n:Int):Nat→List (List Int)→List (List Int)
  | 0,_=>[]
  | f+1,last=>if last=[] then [] else grow n last++ir n f (grow n last)
def c7 (n:Int):List (List Int):=[[]]++ir n (n.toNat+1) [[]]
def n7 (st:Int) (so:List aa) (s:Sk):Nat:=2 * cf s.done+1
def AS (p:aa) (s:Sk) (st:Int) (so:List aa):Nat:=2 * cf s.done
def wfS (s:Sk):Prop:=s.done.length=s.l.length∧s.l.length≤20∧jW s.o
def wW (s:Sk):Prop:=s.done.length=s.l.length
def rr (st:Int) (so:List aa) (s:Sk):Prop:=wfS s∧so.length+cf s.done≤100
def wX (p:aa) (s:Sk) (st:Int) (so:List aa):Prop:=wfS s∧so.length+cf s.done≤100∧0≤p.Oper∧p.Oper < s.l.length∧gi s.done p.Oper=false
def xe (o:ah) (l:List ab) (st:Int) (done:List Bool):Prop:=jW o∧l.length≤1000000
def xj (l:List ab) (done:List Bool):Prop:=l.length≤1000000
def xn (o:ah) (l:List ab):Prop:=l.length≤1000000
def xk (s:List aa):Prop:=s.length≤1000000
def xl (o:ah) (l:List ab) (jn:Int):Prop:=jW o
def wY (o:ah) (l:List ab):Prop:=jW o
def ud (i:Int) (done:List Bool):Prop:=0≤i
def w8 (n:Int):Prop:=0≤n∧n≤5
def evE (x:av):Int :=
  if x.bk≠1∧x.bk≠2 then 8 else if x.aj < 1∨x.aj > 1000 then 2
  else if x.bk=1∧(x.N < 0∨x.N≥64) then 31 else if x.bk=2∧(x.N < 0∨x.N > 1000000) then 7 else 0
def fT (x:av):Int:=evE x
def fm (l:List av) (p:Int):Int:=l.foldl (fun w x=>if x.aj=p then x.bk else w) 0
def mP (l:List av):Nat→Int→Int × Int
  | 0,i=>(i,0)
  | f+1,i=>if evE (gi l i)≠0 then (i,evE (gi l i)) else if (fm (l.take i.toNat) (gi l i).aj == 1) == ((gi l i).bk == 1) then (i,33) else mP l f (i+1)
def bP (l:List av):Int × Int:=if l.length > 10000 then (0,3) else mP l l.length 0
def eJ (l:List av):Int × Int:=bP l
def hG (l:List av) (p:Int):Nat→Int
  | 0=>-1
  | i+1=>if (gi l (i:Int)).aj=p then (i:Int) else hG l p i
def gY (l:List av) (p:Int):Int:=hG l p l.length
def eY (l:List av) (p:Int):Bool:=fm l p == 1
def fC (i:Int) (x:av) (o:ab):ab:=if o.End=-1∧o.aj=x.aj then ⟨o.aj,o.Kind,o.aF,i,x.N⟩ else o
def fa (ops:List ab) (i:Int) (x:av):List ab:=ops.map (fC i x)++(if x.bk=1 then [⟨x.aj,x.N,i,-1,-1⟩] else [])
def lu:List av→Int→List ab→List ab
  | [],_,ops=>ops
  | x :: l,i,ops=>lu l (i+1) (fa ops i x)
def opsOf (l:List av):List ab:=lu l 0 []
def gl (l:List av):List ab × Int:=if (bP l).2≠0 then ([],(bP l).2) else (opsOf l,0)
def iq (l:List av):List ab × Int:=gl l
def ea (a b:List a8):Bool:=decide (a=b)
def iC (a b:ah):Bool:=decide (a=b)
def oJ (v:Int):List Int→Int→Int
  | [],_=>-1
  | y :: r,i=>if v=y then i else oJ v r (i+1)
def dV (l:List Int) (x:Int):Int:=oJ x l 0
def ct (l:List Int) (x:Int):Bool:=decide (x∈l)
def cY (s:List a8):List a8:=s
def dR (p:Int × Int) (n:Int):Bool:=decide (0≤p.1∧0≤p.2∧p.1 < n∧p.2 < n∧p.1≠p.2)
def ca (p:Int × Int) (n x:Int) (out:List Int):Bool:=dR p n && (p.2 == x) && !decide (p.1∈out)
def bm (l:List (Int × Int)) (n x:Int) (out:List Int):Int:=match l.findIdx? (fun p=>ca p n x out) with | some i=>(i:Int) | none=>-1
def bD (l:List (Int × Int)) (n x:Int) (out:List Int):Bool:=l.any (fun p=>ca p n x out)
def c6 (x n:Int) (out:List Int) (pairs:List (Int × Int)):Bool:=decide (x∈out) || pairs.any (fun p=>ca p n x out)
def jB (n:Int) (pairs:List (Int × Int)) (out:List Int):Option Nat:=(List.range n.toNat).find? (fun (x:Nat)=>!c6 x n out pairs)
def gX (n:Int) (pairs:List (Int × Int)):Nat→List Int→List Int × Bool
  | 0,out=>(out,true)
  | k+1,out=>match jB n pairs out with | none=>([],false) | some x=>gX n pairs k (out++[(x:Int)])
def de (n:Int) (pairs:List (Int × Int)):List Int × Bool:=if n < 0∨n > 64 then ([],false) else gX n pairs n.toNat []
def gx {α:Type} (f:Int→Bool):List α→Int→List α
  | [],_=>[]
  | x :: l,i=>if f i=true then x :: gx f l (i+1) else gx f l (i+1)
def bN (h:ak):List av:=h.ao.map (·.aS)
def cM (o:ah):Bool:=(br o).2 != 0
def a9 (l:List ah):Int:=match l.findIdx? cM with | some i=>(i:Int) | none=>-1
def aW (l:List ah):Bool:=l.any cM
def iT (os:List ah) (b:List (Int × Int)) (x:ba):Int :=
  if x.ax < 0∨x.ax≥os.length then 2 else if x.aS.bk=2∧(aC b x.aS.aj).getD 0≠x.ax then 32
  else if x.aS.bk=1∧x.aS.N≥(gi os x.ax).aw then 31 else 0
def hGo (os:List ah):List ba→Int→List (Int × Int)→Int × Int
  | [],i,_=>(i,0)
  | x :: l,i,b=>if iT os b x≠0 then (i,iT os b x) else hGo os l (i+1) (dj b x.aS.aj x.ax)
def o5 (os:List ah):Prop:=os.length < 1∨os.length > 8∨os.any cM=true
instance (os:List ah):Decidable (o5 os):=by unfold o5; infer_instance
def aB (h:ak):Int × Int :=
  if o5 h.ae then (-1,2) else if (bP (bN h)).2≠0 then bP (bN h) else hGo h.ae h.ao 0 []
def toL (x:aD):ba:=⟨x.ax,x.aS⟩
def cl (l:List aD):List av:=l.map (·.aS)
def l5 (l:List aD) (p:Int):Nat→Int
  | 0=>-1
  | i+1=>if (gi l (i:Int)).aS.aj=p then (gi l (i:Int)).ax else l5 l p i
def fh (l:List aD) (at_:Int):Int:=l5 l (gi l at_).aS.aj at_.toNat
def dz (os:List ah) (l:List aD):Int × Int:=aB ⟨os,l.map toL⟩
def eG (i:Int) (h:ak) (k:Int):Bool:=(gi h.ao i).ax == k
def bM (l:List av) (h:ak) (k:Int):List av:=gx (fun i=>eG i h k) l 0
def Ax (l:List ba) (k:Int):List av:=(l.filter (fun x=>x.ax == k)).map (·.aS)
def qf (h:ak) (k:Int):Prop:=(aB h).2≠0∨k < 0∨k≥h.ae.length
instance (h:ak) (k:Int):Decidable (qf h k):=by unfold qf; infer_instance
def eB (h:ak) (k:Int):fw:=if qf h k then ⟨⟨0,0,0,[]⟩,[]⟩ else ⟨gi h.ae k,Ax h.ao k⟩
def bp (h:ak):List ab:=opsOf (bN h)
def ofH (h:ak):List Int:=(bp h).map fun o=>(gi h.ao o.aF).ax
def cA (h:ak):List ab × List Int:=if (aB h).2≠0 then ([],[]) else (bp h,ofH h)
def bb (os:List ah) (l:List aD):List ab × List Int:=cA ⟨os,l.map toL⟩
def cd (h:ak):List ab × List Int × Int :=
  if (aB h).2≠0 then ([],[],(aB h).2) else if (bp h).length > 20 then ([],[],3) else (bp h,ofH h,0)
def gG (k:Int):List Int→Int→List Int
  | [],_=>[]
  | x :: l,i=>if x=k then i :: gG k l (i+1) else gG k l (i+1)
def aP (of:List Int) (k:Int):List Int:=gG k of 0
def dC (i:Int) (of:List Int) (k:Int):Bool:=gi of i == k
def bC (l:List ab) (of:List Int) (k:Int):List ab:=gx (fun i=>dC i of k) l 0
def dp (l:List ab) (of:List Int) (k:Int):List ab:=bC l of k
def fR (own:List Int) (p:aa):aa:=⟨gi own p.Oper,p.Result⟩
def rowOf (l:List ab) (of:List Int) (o:ah) (k:Int):List aa:=(bj o (dp l of k)).1.map (fR (aP of k))
def iM (l:List ab) (of:List Int):List ah→Int→List (List aa)→List (List aa) × Int
  | [],_,out=>(out,0)
  | o :: os,k,out=>if (bj o (dp l of k)).2≠0 then ([],(bj o (dp l of k)).2) else iM l of os (k+1) (out++[rowOf l of o k])
def cz (h:ak) (l:List ab) (of:List Int):List (List aa) × Int:=iM l of h.ae 0 []
def cj (n:Int):List aa:=[]
def b8 (l:List (List aa)):List aa:=l.flatten
def kD (at_:Int) (n:Nat):List (Int × Int):=(List.range (n - 1)).map fun i:Nat=>(at_+i,at_+i+1)
def ew:List (List aa)→Int→List (Int × Int)
  | [],_=>[]
  | r :: rs,at_=>kD at_ r.length++ew rs (at_+r.length)
def lG (l:List ab) (all:List aa) (i j:Nat):Bool:=bh (gi l (gi all (i:Int)).Oper) (gi l (gi all (j:Int)).Oper)
def ig (l:List ab) (all:List aa) (i n:Nat):List (Int × Int):=((List.range n).filter (lG l all i)).map fun j:Nat=>((i:Int),(j:Int))
def kB (l:List ab) (all:List aa):List (Int × Int):=(List.range all.length).flatMap fun i=>ig l all i all.length
def b9 (l:List ab) (rows:List (List aa)):List aa × List (Int × Int):=(rows.flatten,ew rows 0++kB l rows.flatten)
def jG (l:List ab) (rows:List (List aa)):List Int × Bool:=de (rows.flatten.length:Nat) (b9 l rows).2
def cG (h:ak):List aa × Int :=
  if (cd h).2.2≠0 then ([],(cd h).2.2)
  else if (cz h (bp h) (ofH h)).2≠0 then ([],(cz h (bp h) (ofH h)).2)
  else if (jG (bp h) (cz h (bp h) (ofH h)).1).2=false then ([],41)
  else ((jG (bp h) (cz h (bp h) (ofH h)).1).1.map (gi (cz h (bp h) (ofH h)).1.flatten),0)
def dv (h:ak):Bool × Int:=if (cG h).2=41 then (false,0) else ((cG h).2 == 0,(cG h).2)
def dD (i:Int) (ac:List aa) (l:List ab) (of:List Int) (k:Int):Bool :=
  decide ((gi ac i).Oper < 0∨(gi ac i).Oper≥l.length) || gi of (gi ac i).Oper == k
def bL (x:List aa) (ac:List aa) (l:List ab) (of:List Int) (k:Int):List aa:=gx (fun i=>dD i ac l of k) x 0
def CR (l:List ab) (of:List Int) (k:Int) (ac:List aa):List aa:=ac.filter fun p=>decide (p.Oper < 0∨p.Oper≥l.length) || gi of p.Oper == k
def j8 (l:List ab) (of:List Int) (ac:List aa):List ah→Int→Bool
  | [],_=>true
  | o :: os,k=>if (cC o l (CR l of k ac)).2.2≠0 then false else j8 l of ac os (k+1)
def fS (h:ak) (ac:List aa):Bool :=
  if (aB h).2≠0 then false else j8 (bp h) (ofH h) ac h.ae 0 && decide (cH (bp h) ac < 0) && ((bZ (bp h) ac).length == 0)
def oG (l:List ab) (ac:List aa) (i:Nat):Bool:=decide (0≤(gi ac (i:Int)).Oper∧(gi ac (i:Int)).Oper < l.length) && (List.range l.length).any fun k:Nat=>bh (gi l (k:Int)) (gi l (gi ac (i:Int)).Oper) && (decide (cc ac k < 0) || decide (cc ac k≥i))
def ep (l:List ab) (ac:List aa):Int:=match (List.range ac.length).find? (oG l ac) with | some i=>(i:Int) | none=>-1
def oQ (l:List ab) (ac:List aa) (pending:Bool) (i:Nat):Bool:=decide (cc ac i < 0) && (((gi l (i:Int)).End == -1) == pending)
def eF (l:List ab) (ac:List aa) (pending:Bool):List Int:=((List.range l.length).filter (oQ l ac pending)).map fun i:Nat=>(i:Int)
def gv (of:List Int) (k:Int) (ac:List aa):List aa:=ac.filter fun p=>gi of p.Oper == k
def lp (l:List ab) (of:List Int) (ac:List aa):List ah→Int→Bool
  | [],_=>true
  | o :: os,k=>if (cN o l o.aE (gv of k ac)).2.2≠0 then false else lp l of ac os (k+1)
def dW (os:List ah) (l:List aD) (ac:List aa):Bool :=
  if (dz os l).2≠0 then false
  else if ac.any (fun p=>decide (p.Oper < 0∨p.Oper≥(bb os l).1.length))=true then false
  else lp (bb os l).1 (bb os l).2 ac os 0 && decide (ep (bb os l).1 ac < 0) && ((eF (bb os l).1 ac false).length == 0)
def iI (os:List ah) (ops:List ab) (of:List Int):List Int→List Int→List aa→List aa × Bool
  | [],_,out=>(out,true)
  | i :: r,st,out=>if (bq (gi os (gi of i)) (gi st (gi of i)) (gi ops i).Kind).2.2=false then ([],false)
    else iI os ops of r (st.set (gi of i).toNat (bq (gi os (gi of i)) (gi st (gi of i)) (gi ops i).Kind).1) (out++[⟨i,(bq (gi os (gi of i)) (gi st (gi of i)) (gi ops i).Kind).2.1⟩])
def c9 (os:List ah) (ops:List ab) (of order:List Int):List aa × Bool:=iI os ops of order (os.map (·.aE)) []
def fq (os:List ah) (l:List aD):Bool :=
  (c7 (bb os l).1.length).any fun x=>(c9 os (bb os l).1 (bb os l).2 x).2 && dW os l (c9 os (bb os l).1 (bb os l).2 x).1
def dr:ah:=⟨2,2,0,[⟨0,0,1,0⟩,⟨0,1,0,0⟩,⟨1,0,1,0⟩,⟨1,1,1,1⟩]⟩
def cv (o:Int):ak:=⟨[dr,dr],[⟨0,⟨1,1,0⟩⟩,⟨o,⟨1,2,1⟩⟩,⟨0,⟨2,1,0⟩⟩,⟨o,⟨2,2,1⟩⟩]⟩
def eu (h:ak):List aD:=h.ao.map fun x=>⟨x.ax,x.aS⟩
def eT (h:ak):Int:=(h.ao.countP (fun x=>x.aS.bk == 1):Nat)
def pP (tx:List Int) (i:Int):Nat→Int
  | 0=>0
  | k+1=>pP tx i k+if gi tx (k:Int)=gi tx i then 1 else 0
def g9 (tx:List Int) (i:Int):Int:=pP tx i i.toNat
def gH (h:ak):Bool:=decide (h.ae.length≤10) && decide (h.ao.length≤20) && h.ae.all gI
def fk:Bool:=true
def ku (l:List av):Int:=(l.countP (fun x=>x.bk == 1):Nat)
def xm (s:List a8):Prop:=s.length≤1000000
def lr (os:List ah):Prop:=∀ o∈os,jW o
def fQ (h:ak):Prop:=lr h.ae∧h.ao.length≤1000000∧∀ o∈h.ae,o.Rows.length≤1000000
def lq (h:ak):Prop:=h.ao.length≤1000000
def rn (l:List aD):Prop:=l.length≤1000000
def km (os:List ah) (l:List aD):Prop:=lr os∧l.length≤1000000
def xh (h:ak) (_:Int):Prop:=fQ h
def sC (l:List aD) (at_:Int):Prop:=0≤at_∧at_ < l.length
def w7 (i:Int) (h:ak) (_:Int):Prop:=0≤i∧i < h.ao.length
def xa (l:List av) (h:ak) (_:Int):Prop:=l.length≤h.ao.length∧l.length≤1000000
def sB (i:Int) (of:List Int) (_:Int):Prop:=0≤i∧i < of.length
def rq (of:List Int) (_:Int):Prop:=of.length≤1000000
def w9 (l:List ab) (of:List Int) (_:Int):Prop:=l.length≤of.length∧l.length≤1000000
def w6 (h:ak) (l:List ab) (of:List Int):Prop:=fQ h∧l.length=of.length∧l.length≤1000000∧h.ae.length≤8
def ru (l:List (List aa)):Prop:=l.flatten.length≤1000000
def xi (n:Int):Prop:=0≤n∧n≤1000000
def ue (l:List ab) (rows:List (List aa)):Prop:=rows.flatten.length≤1000∧∀ p∈rows.flatten,0≤p.Oper∧p.Oper < l.length
def xg (i:Int) (ac:List aa) (l:List ab) (of:List Int) (_:Int):Prop:=0≤i∧i < ac.length∧l.length=of.length
def xf (x ac:List aa) (l:List ab) (of:List Int) (_:Int):Prop:=x.length≤ac.length∧x.length≤1000000∧l.length=of.length
def ub (h:ak) (ac:List aa):Prop:=fQ h∧ac.length≤1000000
def wZ (os:List ah) (l:List aD) (ac:List aa):Prop:=lr os∧l.length≤1000000∧ac.length≤1000000
def pV (os:List ah) (l:List aD):Prop:=lr os∧l.length≤1000000∧(opsOf (cl l)).length≤5∧os.length≤1000000
def uc (os:List ah) (ops:List ab) (of order:List Int):Prop:=os.length≤1000000∧order.length≤1000000∧ops.length=of.length∧(∀ k∈of,0≤k∧k < os.length)∧(∀ i∈order,0≤i∧i < ops.length)
def rp (l:List ab) (_:List aa) (_:Bool):Prop:=l.length≤1000000
end Go.Proofs.YteahldlmkheleaaGreat
