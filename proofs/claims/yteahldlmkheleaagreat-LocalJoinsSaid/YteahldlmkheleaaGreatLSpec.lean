/- z1 B9 Gt of zq of CE objects,in plain Lean. -/
import Derived.Test.YteahldlmkheleaaGreatLTypes
import Derived.Test.YteahldlmkheleaaGreatPu
import Derived.Test.YteahldlmkheleaaGreatSk
set_option linter.all false
namespace Go.Proofs.YteahldlmkheleaaGreat
open Go Go.Sv Go.Pu
def gR (o:al):Bool:=decide (o.Rows.length≤300)
def eK (a b:List Int):Bool:=decide (a=b)
def ix (o:al):Prop:=o.aq < 1∨o.aq > 32∨o.ax < 1∨o.ax > 64∨o.aE < 0∨o.aE≥o.aq
instance (o:al):Decidable (ix o):=by unfold ix; infer_instance
def gY (o:al) (i:Int):Prop:=i > 0∧((gi o.Rows (i - 1)).State > (gi o.Rows i).State∨((gi o.Rows (i - 1)).State=(gi o.Rows i).State∧(gi o.Rows (i - 1)).Kind≥(gi o.Rows i).Kind))
instance (o:al) (i:Int):Decidable (gY o i):=by unfold gY; infer_instance
def fO (o:al) (i:Int):Int :=
  if (gi o.Rows i).State < 0∨(gi o.Rows i).State≥o.aq∨(gi o.Rows i).Next < 0∨(gi o.Rows i).Next≥o.aq then 30
  else if (gi o.Rows i).Kind < 0∨(gi o.Rows i).Kind≥o.ax then 31
  else if (gi o.Rows i).Result < 0∨(gi o.Rows i).Result > 1000000 then 7
  else if gY o i then 32 else 0
def gn (o:al):Nat→Nat→Int × Int
  | 0,i=>((i:Int),0)
  | k+1,i=>if fO o i≠0 then ((i:Int),fO o i) else gn o k (i+1)
def cD (o:al):Int × Int:=if ix o then (-1,2) else gn o o.Rows.length 0
def bq (o:al):Int × Int:=cD o
def hK (o:al) (i:Int):Int:=fO o i
def preRow (o:al) (i:Int):Prop:=0≤i∧i < o.Rows.length
def cu (o:al) (state kind:Int):Int × Int × Bool:=match o.Rows.find? (fun r=>r.State == state && r.Kind == kind) with | some r=>(r.Next,r.Result,true) | none=>(0,0,false)
def cj (o:al) (state kind:Int):Int × Int × Bool:=cu o state kind
def gl (r:a9) (state kind:Int):Bool:=r.State == state && r.Kind == kind
def bg (l:List a9) (state kind:Int):Int:=match l.findIdx? (fun r=>r.State == state && r.Kind == kind) with | some i=>(i:Int) | none=>-1
def eI (t:gU) (state kind:Int):Int × Int × Bool:=cj t.o state kind
def c9 (o:al) (state kind result:Int):Int × Int :=
  if state < 0∨state≥o.aq then (0,30) else if (cu o state kind).2.2=false∨(cu o state kind).2.1≠result then (0,40) else ((cu o state kind).1,0)
def iu (o:al) (state kind result:Int):Int × Int:=c9 o state kind result
def eH (_:Int):Bool:=false
def df (x y:Int):Int:=if x < y then -1 else if x > y then 1 else 0
def gf (l:List Int):Int:=(l.find? (fun x=>x != 0)).getD 0
def fZ (a b:a9):Int:=gf [df a.State b.State,df a.Kind b.Kind]
def bU (n top:Int):Bool:=decide (n≥0) && decide (n < top)
def fG (o:al) (state:Int):Int:=if (cD o).2≠0 then 2 else if state < 0∨state≥o.aq then 30 else 0
def dS (o:al) (l:List ab) (state:Int):List ab × List (Int × Int) × al × Int:=(l,[],o,state)
def gM (o:al) (l:List ab) (s:Int) (p:aa):Int :=
  if (c9 o s (gi l p.Oper).Kind p.Result).2=0∧(gi l p.Oper).End≠-1∧(gi l p.Oper).Result≠p.Result then 40 else (c9 o s (gi l p.Oper).Kind p.Result).2
def gg (o:al) (l:List ab) (s:Int) (p:aa):Int × Int :=
  if gM o l s p≠0 then (0,gM o l s p) else ((c9 o s (gi l p.Oper).Kind p.Result).1,0)
def dg (o:al) (l:List ab) (prev:List Int) (s:Int) (p:aa):Int × Int :=
  if p.Oper < 0∨p.Oper≥l.length then (0,2) else if p.Oper∈prev then (0,21) else gg o l s p
def jr (u:List (Int × Int)) (k:Int):List (Int × Int):=de u k (IntKind.i64.wrap ((aC u k).getD 0+1))
def c7 (p:aa) (l:List ab) (u:List (Int × Int)) (o:al) (s:Int):Int × Int × List (Int × Int) × Int :=
  if p.Oper < 0∨p.Oper≥l.length then (0,2,u,s) else if (aC u p.Oper).getD 0 > 0 then (0,21,u,s)
  else if (gg o l s p).2≠0 then (0,(gg o l s p).2,jr u p.Oper,s) else ((gg o l s p).1,0,jr u p.Oper,(gg o l s p).1)
def gN (o:al) (l:List ab):List Int→Int→List aa→Int × Int × Int
  | _,s,[]=>(s,0,0)
  | prev,s,p :: ps=>if (dg o l prev s p).2≠0 then (0,0,(dg o l prev s p).2)
    else ((gN o l (p.Oper :: prev) (dg o l prev s p).1 ps).1,(gN o l (p.Oper :: prev) (dg o l prev s p).1 ps).2.1+1,(gN o l (p.Oper :: prev) (dg o l prev s p).1 ps).2.2)
def cH (o:al) (l:List ab) (state:Int) (ac:List aa):Int × Int × Int :=
  if fG o state≠0 then (0,-1,fG o state) else gN o l [] state ac
def iQ (o:al) (l:List ab) (state:Int) (ac:List aa):Int × Int × Int:=cH o l state ac
def b7 (o:al) (l:List ab) (ac:List aa):Int × Int × Int:=cH o l o.aE ac
def jV (o:al):Prop:=inR .i64 o.aq∧inR .i64 o.ax
def xz (o:al) (_:Int):Prop:=jV o
def xy (o:al) (_:List ab) (_:Int) (_:List aa):Prop:=jV o
def ka (o:al) (_:List ab) (x:List aa):Prop:=jV o∧x.length≤1000000
def dU (o:ab):Bool:=if o.End=-1 then o.Result == -1 else decide (o.End > o.aD) && decide (o.End≤9999) && decide (o.Result≥0) && decide (o.Result≤1000000)
def da (o:ab):Int:=if o.ah < 1∨o.ah > 1000∨o.aD < 0∨o.aD > 9999 then 2 else if o.Kind < 0∨o.Kind≥64 then 31 else if dU o=false then 7 else 0
def bb (a b:ab):Bool:=decide (a.End≥0) && decide (a.End < b.aD)
def e8 (u:List (Int × Int)) (k:Int):Int:=(aC u k).getD 0
def use (u:List (Int × Int)) (k:Int):List (Int × Int):=de u k (IntKind.i64.wrap (e8 u k+1))
def ny (l:List ab) (u:List (Int × Int)) (i:Nat):Prop:=(0 < i∧(gi l (i:Int)).aD≤(gi l ((i:Int) - 1)).aD)∨e8 u (gi l (i:Int)).aD > 0∨((gi l (i:Int)).End≥0∧e8 u (gi l (i:Int)).End > 0)
instance (l:List ab) (u:List (Int × Int)) (i:Nat):Decidable (ny l u i):=by unfold ny; infer_instance
def p1 (l:List ab) (la:List (Int × ab)) (i:Nat):Bool:=(aC la (gi l (i:Int)).ah).isSome && !bb ((aC la (gi l (i:Int)).ah).getD ⟨0,0,0,0,0⟩) (gi l (i:Int))
def ky (l:List ab) (u:List (Int × Int)) (i:Nat):List (Int × Int):=if (gi l (i:Int)).End≥0 then use (use u (gi l (i:Int)).aD) (gi l (i:Int)).End else use u (gi l (i:Int)).aD
def dK (l:List ab):Nat→List (Int × Int)→List (Int × ab)→Nat→Int × Int
  | 0,_,_,_=>((l.length:Int),0)
  | f+1,u,la,i =>
    if da (gi l (i:Int))≠0 then ((i:Int),da (gi l (i:Int)))
    else if ny l u i then ((i:Int),32)
    else if p1 l la i=true then ((i:Int),33)
    else dK l f (ky l u i) (de la (gi l (i:Int)).ah (gi l (i:Int))) (i+1)
def cc (l:List ab):Int × Int:=if l.length > 5000 then (0,3) else dK l l.length [] [] 0
def jn (ac:List aa):List (Int × Int):=ac.foldl (fun u p=>jr u p.Oper) []
def e7 (ac:List aa):List (Int × Int):=jn ac
def e6 (i:Int) (m:List (Int × Int)):Bool:=(aC m i).getD 0 == 0
def opers (ac:List aa):List Int:=ac.map (·.Oper)
def ke (l:List ab) (ac:List aa) (pending:Bool) (i:Int):Bool:=(((gi l i).End == -1) == pending) && !decide (i∈opers ac)
def gv (l:List ab) (ac:List aa) (pending:Bool) (n:Nat):List Int:=((List.range n).filter (fun i:Nat=>ke l ac pending (i:Int))).map (fun i:Nat=>(i:Int))
def dR (l:List ab) (ac:List aa) (pending:Bool):List Int:=gv l ac pending l.length
def bX (l:List ab) (ac:List aa):List Int:=dR l ac false
def dC (l:List ab) (ac:List aa) (x:Nat):Bool :=
  decide (0≤(gi ac (x:Int)).Oper∧(gi ac (x:Int)).Oper < l.length) && (List.range l.length).any (fun k:Nat=>bb (gi l (k:Int)) (gi l (gi ac (x:Int)).Oper) && !decide ((k:Int)∈opers (ac.take x)))
def po (l:List ab) (ac:List aa) (n:Nat):Int:=match (List.range n).find? (dC l ac) with | some x=>(x:Int) | none=>-1
def ct (l:List ab) (ac:List aa):Int:=po l ac ac.length
def eD (o:al) (l:List ab) (ac:List aa):Int × Int :=
  if (bq o).2≠0∨(cc l).2≠0 then (-1,2)
  else if (b7 o l ac).2.2≠0 then ((b7 o l ac).2.1,(b7 o l ac).2.2)
  else if ct l ac≥0 then (ct l ac,42)
  else if (bX l ac).length > 0 then (gi (bX l ac) 0,41)
  else ((ac.length:Int),0)
def cY (o:al) (l:List ab) (ac:List aa):Bool:=(eD o l ac).2 == 0
def ca (ac:List aa) (i:Int):Int:=match ac.findIdx? (fun p=>p.Oper == i) with | some k=>(k:Int) | none=>-1
def iR (a b:ab):Bool:=bb a b
def pS (l:List ab) (_:List aa):Prop:=l.length≤1000000
def uo (l:List ab) (_:List aa) (_:Bool):Prop:=l.length≤1000000
def j9 (a b:ab):Bool:=(((a.aD == b.aD) || (a.End == b.aD)) || (a.aD == b.End)) || ((a.End == b.End) && (a.End != (-1)))
def cq (o:al) (l:List ab) (jj:Int):Int:=if (bq o).2≠0∨(cc l).2≠0 then 2 else if (l.length:Int) > jj then 3 else 0
def isDone (done:List Bool) (i:Int):Bool:=decide (i < done.length) && gi done i
def lu (l:List ab) (done:List Bool) (i:Nat):Bool:=!isDone done i && (List.range l.length).all fun k:Nat=>isDone done (k:Int) || !bb (gi l (k:Int)) (gi l (i:Int))
def eX (i:Int) (done:List Bool):Bool:=isDone done i
def ja (l:List ab) (done:List Bool) (n:Nat):List Int:=((List.range n).filter fun i:Nat=>lu l done i).map fun i:Nat=>(i:Int)
def eN (l:List ab) (done:List Bool):List Int:=ja l done l.length
def iL (o:al) (l:List ab) (st:Int) (i:Int):Option aa :=
  if (cj o st (gi l i).Kind).2.2 && ((gi l i).End == -1 || (gi l i).Result == (cj o st (gi l i).Kind).2.1) then some ⟨i,(cj o st (gi l i).Kind).2.1⟩ else none
def xP (o:al) (l:List ab) (st:Int) (done:List Bool):List aa:=(eN l done).filterMap (iL o l st)
def bF (o:al) (l:List ab) (st:Int) (done:List Bool):List aa:=if (bq o).2≠0 then [] else xP o l st done
def bV (s:List aa):List aa:=s
abbrev Sk:=aX
abbrev Fm:=List (bW × Int)
def Dl (i:Int):Int:=IntKind.u32.wrap (1 * 2 ^ (min i.toNat IntKind.u32.bits))
def orU (a b:Int):Int:=IntKind.u32.wrap ((BitVec.ofInt IntKind.u32.bits a ||| BitVec.ofInt IntKind.u32.bits b).toNat:Int)
def jC:List Bool→Int→Int→Int
  | [],_,m=>m
  | b :: r,i,m=>jC r (i+1) (if b then orU m (Dl i) else m)
def iv (done:List Bool) (st:Int):bW:=⟨jC done 0 0,st⟩
def dt (st:Int) (s:Sk):bW:=iv s.done st
def ki (l:List ab) (done:List Bool):Bool:=(List.range l.length).all fun i:Nat=>!(((gi l (i:Int)).End != -1) && !gi done (i:Int))
def dE (s:Sk):Bool:=ki s.l s.done
def cf (done:List Bool):Nat:=done.count false
def eT (o:al) (l:List ab) (st:Int) (p:aa):Int:=(cj o st (gi l p.Oper).Kind).1
def lx {α:Type} (g:aa→α→(List aa × Bool) × α):List aa→α→(List aa × Bool) × α
  | [],f=>(([],false),f)
  | p :: ps,f=>if (g p f).1.2 then g p f else lx g ps (g p f).2
def nP (f:Fm) (k:bW):Fm:=if k.done=0∧k.state=0 then f else de f k (IntKind.i64.wrap ((aC f k).getD 0+1))
def fA (o:al) (l:List ab):Nat→Int→List aa→List Bool→Fm→(List aa × Bool) × Fm
  | 0,_,_,_,f=>(([],false),f)
  | n+1,st,so,done,f =>
    if ki l done then ((so,true),f)
    else if (aC f (iv done st)).getD 0 > 0 then (([],false),f)
    else if (lx (fun p f=>fA o l n (eT o l st p) (so++[p]) (done.set p.Oper.toNat true) f) (bF o l st done) f).1.2
      then lx (fun p f=>fA o l n (eT o l st p) (so++[p]) (done.set p.Oper.toNat true) f) (bF o l st done) f
      else (([],false),nP (lx (fun p f=>fA o l n (eT o l st p) (so++[p]) (done.set p.Oper.toNat true) f) (bF o l st done) f).2 (iv done st))
def jb (s:Sk) (st:Int) (so:List aa):(List aa × Bool) × Fm:=fA s.o s.l (cf s.done+1) st so s.done s.failed
def aG (st:Int) (so:List aa) (s:Sk):List aa × Bool × Sk:=((jb s st so).1.1,(jb s st so).1.2,⟨s.o,s.l,s.done,(jb s st so).2⟩)
def Ak (p:aa) (s:Sk) (st:Int) (so:List aa):(List aa × Bool) × Fm:=fA s.o s.l (cf s.done) (eT s.o s.l st p) (so++[p]) (s.done.set p.Oper.toNat true) s.failed
def bf (p:aa) (s:Sk) (st:Int) (so:List aa):List aa × Bool × Sk:=((Ak p s st so).1.1,(Ak p s st so).1.2,⟨s.o,s.l,s.done,(Ak p s st so).2⟩)
def mn (o:al) (l:List ab):Nat→Int→List Bool→List (List aa)
  | 0,_,_=>[]
  | n+1,st,done=>(if ki l done then [[]] else [])++(bF o l st done).flatMap fun p=>(mn o l n (eT o l st p) (done.set p.Oper.toNat true)).map (p :: ·)
def bB (o:al) (l:List ab):Sk:=⟨o,l,List.replicate l.length false,[]⟩
def bj (o:al) (l:List ab):List aa × Int :=
  if cq o l 20≠0 then ([],cq o l 20)
  else if (jb (bB o l) o.aE []).1.2=false∨cY o l (jb (bB o l) o.aE []).1.1=false then ([],41) else ((jb (bB o l) o.aE []).1.1,0)
def oh (st:Int) (so:List aa) (s:Sk):Nat:=2 * cf s.done+1
def AY (p:aa) (s:Sk) (st:Int) (so:List aa):Nat:=2 * cf s.done
def wfS (s:Sk):Prop:=s.done.length=s.l.length∧s.l.length≤20∧jV s.o
def xm (s:Sk):Prop:=s.done.length=s.l.length
def rC (st:Int) (so:List aa) (s:Sk):Prop:=wfS s∧so.length+cf s.done≤100
def xn (p:aa) (s:Sk) (st:Int) (so:List aa):Prop:=wfS s∧so.length+cf s.done≤100∧0≤p.Oper∧p.Oper < s.l.length∧gi s.done p.Oper=false
def xA (o:al) (l:List ab) (st:Int) (done:List Bool):Prop:=jV o∧l.length≤1000000
def xE (l:List ab) (done:List Bool):Prop:=l.length≤1000000
def xI (o:al) (l:List ab):Prop:=l.length≤1000000
def xF (s:List aa):Prop:=s.length≤1000000
def xG (o:al) (l:List ab) (jj:Int):Prop:=jV o
def xp (o:al) (l:List ab):Prop:=jV o
def ur (i:Int) (done:List Bool):Prop:=0≤i
def evE (x:au):Int :=
  if x.bh≠1∧x.bh≠2 then 8 else if x.ah < 1∨x.ah > 1000 then 2
  else if x.bh=1∧(x.N < 0∨x.N≥64) then 31 else if x.bh=2∧(x.N < 0∨x.N > 1000000) then 7 else 0
def fW (x:au):Int:=evE x
def dW (l:List au) (p:Int):Int:=l.foldl (fun w x=>if x.ah=p then x.bh else w) 0
def mh (l:List au):Nat→Int→Int × Int
  | 0,i=>(i,0)
  | f+1,i=>if evE (gi l i)≠0 then (i,evE (gi l i)) else if (dW (l.take i.toNat) (gi l i).ah == 1) == ((gi l i).bh == 1) then (i,33) else mh l f (i+1)
def bw (l:List au):Int × Int:=if l.length > 10000 then (0,3) else mh l l.length 0
def eJ (l:List au):Int × Int:=bw l
def hU (l:List au) (p:Int):Nat→Int
  | 0=>-1
  | i+1=>if (gi l (i:Int)).ah=p then (i:Int) else hU l p i
def hJ (l:List au) (p:Int):Int:=hU l p l.length
def e9 (l:List au) (p:Int):Bool:=dW l p == 1
def fI (i:Int) (x:au) (o:ab):ab:=if o.End=-1∧o.ah=x.ah then ⟨o.ah,o.Kind,o.aD,i,x.N⟩ else o
def fe (ops:List ab) (i:Int) (x:au):List ab:=ops.map (fI i x)++(if x.bh=1 then [⟨x.ah,x.N,i,-1,-1⟩] else [])
def lq:List au→Int→List ab→List ab
  | [],_,ops=>ops
  | x :: l,i,ops=>lq l (i+1) (fe ops i x)
def opsOf (l:List au):List ab:=lq l 0 []
def gw (l:List au):List ab × Int:=if (bw l).2≠0 then ([],(bw l).2) else (opsOf l,0)
def gh (l:List au):List ab × Int:=gw l
def dT (a b:List a9):Bool:=decide (a=b)
def iH (a b:al):Bool:=decide (a=b)
def oT (v:Int):List Int→Int→Int
  | [],_=>-1
  | y :: r,i=>if v=y then i else oT v r (i+1)
def dM (l:List Int) (x:Int):Int:=oT x l 0
def cn (l:List Int) (x:Int):Bool:=decide (x∈l)
def cS (s:List a9):List a9:=s
def dI (p:Int × Int) (n:Int):Bool:=decide (0≤p.1∧0≤p.2∧p.1 < n∧p.2 < n∧p.1≠p.2)
def b9 (p:Int × Int) (n x:Int) (out:List Int):Bool:=dI p n && (p.2 == x) && !decide (p.1∈out)
def bl (l:List (Int × Int)) (n x:Int) (out:List Int):Int:=match l.findIdx? (fun p=>b9 p n x out) with | some i=>(i:Int) | none=>-1
def bC (l:List (Int × Int)) (n x:Int) (out:List Int):Bool:=l.any (fun p=>b9 p n x out)
def cW (x n:Int) (out:List Int) (pairs:List (Int × Int)):Bool:=decide (x∈out) || pairs.any (fun p=>b9 p n x out)
def jA (n:Int) (pairs:List (Int × Int)) (out:List Int):Option Nat:=(List.range n.toNat).find? (fun (x:Nat)=>!cW x n out pairs)
def hG (n:Int) (pairs:List (Int × Int)):Nat→List Int→List Int × Bool
  | 0,out=>(out,true)
  | k+1,out=>match jA n pairs out with | none=>([],false) | some x=>hG n pairs k (out++[(x:Int)])
def c8 (n:Int) (pairs:List (Int × Int)):List Int × Bool:=if n < 0∨n > 64 then ([],false) else hG n pairs n.toNat []
def fS {α:Type} (f:Int→Bool):List α→Int→List α
  | [],_=>[]
  | x :: l,i=>if f i=true then x :: fS f l (i+1) else fS f l (i+1)
def bk (h:aj):List au:=h.ak.map (·.aK)
def cG (o:al):Bool:=(bq o).2 != 0
def ba (l:List al):Int:=match l.findIdx? cG with | some i=>(i:Int) | none=>-1
def aW (l:List al):Bool:=l.any cG
def hX (os:List al) (b:List (Int × Int)) (x:aR):Int :=
  if x.aw < 0∨x.aw≥os.length then 2 else if x.aK.bh=2∧(aC b x.aK.ah).getD 0≠x.aw then 32
  else if x.aK.bh=1∧x.aK.N≥(gi os x.aw).ax then 31 else 0
def hGo (os:List al):List aR→Int→List (Int × Int)→Int × Int
  | [],i,_=>(i,0)
  | x :: l,i,b=>if hX os b x≠0 then (i,hX os b x) else hGo os l (i+1) (de b x.aK.ah x.aw)
def pb (os:List al):Prop:=os.length < 1∨os.length > 8∨os.any cG=true
instance (os:List al):Decidable (pb os):=by unfold pb; infer_instance
def aA (h:aj):Int × Int :=
  if pb h.ae then (-1,2) else if (bw (bk h)).2≠0 then bw (bk h) else hGo h.ae h.ak 0 []
def toL (x:aH):aR:=⟨x.aw,x.aK⟩
def cC (l:List aH):List au:=l.map (·.aK)
def l9 (l:List aH) (p:Int):Nat→Int
  | 0=>-1
  | i+1=>if (gi l (i:Int)).aK.ah=p then (gi l (i:Int)).aw else l9 l p i
def fp (l:List aH) (at_:Int):Int:=l9 l (gi l at_).aK.ah at_.toNat
def du (os:List al) (l:List aH):Int × Int:=aA ⟨os,l.map toL⟩
def eG (i:Int) (h:aj) (k:Int):Bool:=(gi h.ak i).aw == k
def bM (l:List au) (h:aj) (k:Int):List au:=fS (fun i=>eG i h k) l 0
def dG (l:List aR) (k:Int):List au:=(l.filter (fun x=>x.aw == k)).map (·.aK)
def oc (h:aj) (k:Int):Prop:=(aA h).2≠0∨k < 0∨k≥h.ae.length
instance (h:aj) (k:Int):Decidable (oc h k):=by unfold oc; infer_instance
def dw (h:aj) (k:Int):eZ:=if oc h k then ⟨⟨0,0,0,[]⟩,[]⟩ else ⟨gi h.ae k,dG h.ak k⟩
def bo (h:aj):List ab:=opsOf (bk h)
def ofH (h:aj):List Int:=(bo h).map fun o=>(gi h.ak o.aD).aw
def cJ (h:aj):List ab × List Int:=if (aA h).2≠0 then ([],[]) else (bo h,ofH h)
def cX (os:List al) (l:List aH):List ab × List Int:=cJ ⟨os,l.map toL⟩
def cb (h:aj):List ab × List Int × Int :=
  if (aA h).2≠0 then ([],[],(aA h).2) else if (bo h).length > 20 then ([],[],3) else (bo h,ofH h,0)
def gP (k:Int):List Int→Int→List Int
  | [],_=>[]
  | x :: l,i=>if x=k then i :: gP k l (i+1) else gP k l (i+1)
def aS (of:List Int) (k:Int):List Int:=gP k of 0
def di (i:Int) (of:List Int) (k:Int):Bool:=gi of i == k
def bp (l:List ab) (of:List Int) (k:Int):List ab:=fS (fun i=>di i of k) l 0
def dc (l:List ab) (of:List Int) (k:Int):List ab:=bp l of k
def fP (own:List Int) (p:aa):aa:=⟨gi own p.Oper,p.Result⟩
def rowOf (l:List ab) (of:List Int) (o:al) (k:Int):List aa:=(bj o (dc l of k)).1.map (fP (aS of k))
def iP (l:List ab) (of:List Int):List al→Int→List (List aa)→List (List aa) × Int
  | [],_,out=>(out,0)
  | o :: os,k,out=>if (bj o (dc l of k)).2≠0 then ([],(bj o (dc l of k)).2) else iP l of os (k+1) (out++[rowOf l of o k])
def cv (h:aj) (l:List ab) (of:List Int):List (List aa) × Int:=iP l of h.ae 0 []
def cg (n:Int):List aa:=[]
def b6 (l:List (List aa)):List aa:=l.flatten
def kC (at_:Int) (n:Nat):List (Int × Int):=(List.range (n - 1)).map fun i:Nat=>(at_+i,at_+i+1)
def ew:List (List aa)→Int→List (Int × Int)
  | [],_=>[]
  | r :: rs,at_=>kC at_ r.length++ew rs (at_+r.length)
def lF (l:List ab) (all:List aa) (i j:Nat):Bool:=bb (gi l (gi all (i:Int)).Oper) (gi l (gi all (j:Int)).Oper)
def il (l:List ab) (all:List aa) (i n:Nat):List (Int × Int):=((List.range n).filter (lF l all i)).map fun j:Nat=>((i:Int),(j:Int))
def kA (l:List ab) (all:List aa):List (Int × Int):=(List.range all.length).flatMap fun i=>il l all i all.length
def b8 (l:List ab) (rows:List (List aa)):List aa × List (Int × Int):=(rows.flatten,ew rows 0++kA l rows.flatten)
def jF (l:List ab) (rows:List (List aa)):List Int × Bool:=c8 (rows.flatten.length:Nat) (b8 l rows).2
def bP (h:aj):List aa × Int :=
  if (cb h).2.2≠0 then ([],(cb h).2.2)
  else if (cv h (bo h) (ofH h)).2≠0 then ([],(cv h (bo h) (ofH h)).2)
  else if (jF (bo h) (cv h (bo h) (ofH h)).1).2=false then ([],41)
  else ((jF (bo h) (cv h (bo h) (ofH h)).1).1.map (gi (cv h (bo h) (ofH h)).1.flatten),0)
def eQ (h:aj):Bool × Int:=if (bP h).2=41 then (false,0) else ((bP h).2 == 0,(bP h).2)
def dy (i:Int) (ac:List aa) (l:List ab) (of:List Int) (k:Int):Bool :=
  decide ((gi ac i).Oper < 0∨(gi ac i).Oper≥l.length) || gi of (gi ac i).Oper == k
def bL (x:List aa) (ac:List aa) (l:List ab) (of:List Int) (k:Int):List aa:=fS (fun i=>dy i ac l of k) x 0
def q7 (l:List ab) (of:List Int) (k:Int) (ac:List aa):List aa:=ac.filter fun p=>decide (p.Oper < 0∨p.Oper≥l.length) || gi of p.Oper == k
def iq (l:List ab) (of:List Int) (ac:List aa):List al→Int→Bool
  | [],_=>true
  | o :: os,k=>if (b7 o l (q7 l of k ac)).2.2≠0 then false else iq l of ac os (k+1)
def ec (h:aj) (ac:List aa):Bool :=
  if (aA h).2≠0 then false else iq (bo h) (ofH h) ac h.ae 0 && decide (ct (bo h) ac < 0) && ((bX (bo h) ac).length == 0)
def oQ (l:List ab) (ac:List aa) (i:Nat):Bool:=decide (0≤(gi ac (i:Int)).Oper∧(gi ac (i:Int)).Oper < l.length) && (List.range l.length).any fun k:Nat=>bb (gi l (k:Int)) (gi l (gi ac (i:Int)).Oper) && (decide (ca ac k < 0) || decide (ca ac k≥i))
def ea (l:List ab) (ac:List aa):Int:=match (List.range ac.length).find? (oQ l ac) with | some i=>(i:Int) | none=>-1
def oX (l:List ab) (ac:List aa) (pending:Bool) (i:Nat):Bool:=decide (ca ac i < 0) && (((gi l (i:Int)).End == -1) == pending)
def eF (l:List ab) (ac:List aa) (pending:Bool):List Int:=((List.range l.length).filter (oX l ac pending)).map fun i:Nat=>(i:Int)
def jU (of:List Int) (k:Int) (ac:List aa):List aa:=ac.filter fun p=>gi of p.Oper == k
def lp (l:List ab) (of:List Int) (ac:List aa):List al→Int→Bool
  | [],_=>true
  | o :: os,k=>if (cH o l o.aE (jU of k ac)).2.2≠0 then false else lp l of ac os (k+1)
def fq (os:List al) (l:List aH) (ac:List aa):Bool :=
  if (du os l).2≠0 then false
  else if ac.any (fun p=>decide (p.Oper < 0∨p.Oper≥(cX os l).1.length))=true then false
  else lp (cX os l).1 (cX os l).2 ac os 0 && decide (ea (cX os l).1 ac < 0) && ((eF (cX os l).1 ac false).length == 0)
def dm:al:=⟨2,2,0,[⟨0,0,1,0⟩,⟨0,1,0,0⟩,⟨1,0,1,0⟩,⟨1,1,1,1⟩]⟩
def cr (o:Int):aj:=⟨[dm,dm],[⟨0,⟨1,1,0⟩⟩,⟨o,⟨1,2,1⟩⟩,⟨0,⟨2,1,0⟩⟩,⟨o,⟨2,2,1⟩⟩]⟩
def eV (h:aj):List aH:=h.ak.map fun x=>⟨x.aw,x.aK⟩
def eY (h:aj):Int:=(h.ak.countP (fun x=>x.aK.bh == 1):Nat)
def iX (dL:List Int) (i:Int):Nat→Int
  | 0=>0
  | k+1=>iX dL i k+if gi dL (k:Int)=gi dL i then 1 else 0
def dV (dL:List Int) (i:Int):Int:=iX dL i i.toNat
def gQ (h:aj):Bool:=decide (h.ae.length≤10) && decide (h.ak.length≤20) && h.ae.all gR
def fu:Bool:=true
def kx (l:List au):Int:=(l.countP (fun x=>x.bh == 1):Nat)
def xH (s:List a9):Prop:=s.length≤1000000
def lK (os:List al):Prop:=∀ o∈os,jV o
def fV (h:aj):Prop:=lK h.ae∧h.ak.length≤1000000∧∀ o∈h.ae,o.Rows.length≤1000000
def kD (h:aj):Prop:=h.ak.length≤1000000
def ry (l:List aH):Prop:=l.length≤1000000
def ko (os:List al) (l:List aH):Prop:=lK os∧l.length≤1000000
def uq (h:aj) (_:Int):Prop:=fV h
def sM (l:List aH) (at_:Int):Prop:=0≤at_∧at_ < l.length
def xv (i:Int) (h:aj) (_:Int):Prop:=0≤i∧i < h.ak.length
def xx (l:List au) (h:aj) (_:Int):Prop:=l.length≤h.ak.length∧l.length≤1000000
def sK (i:Int) (of:List Int) (_:Int):Prop:=0≤i∧i < of.length
def rA (of:List Int) (_:Int):Prop:=of.length≤1000000
def xw (l:List ab) (of:List Int) (_:Int):Prop:=l.length≤of.length∧l.length≤1000000
def xu (h:aj) (l:List ab) (of:List Int):Prop:=fV h∧l.length=of.length∧l.length≤1000000∧h.ae.length≤8
def rD (l:List (List aa)):Prop:=l.flatten.length≤1000000
def xD (n:Int):Prop:=0≤n∧n≤1000000
def uu (l:List ab) (rows:List (List aa)):Prop:=rows.flatten.length≤1000∧∀ p∈rows.flatten,0≤p.Oper∧p.Oper < l.length
def xC (i:Int) (ac:List aa) (l:List ab) (of:List Int) (_:Int):Prop:=0≤i∧i < ac.length∧l.length=of.length
def xB (x ac:List aa) (l:List ab) (of:List Int) (_:Int):Prop:=x.length≤ac.length∧x.length≤1000000∧l.length=of.length
def rB (h:aj) (ac:List aa):Prop:=fV h∧ac.length≤1000000
def xt (os:List al) (l:List aH) (ac:List aa):Prop:=lK os∧l.length≤1000000∧ac.length≤1000000
def xq (dL:List Int) (i:Int):Prop:=0≤i∧i < dL.length
def rz (l:List ab) (_:List aa) (_:Bool):Prop:=l.length≤1000000
end Go.Proofs.YteahldlmkheleaaGreat
