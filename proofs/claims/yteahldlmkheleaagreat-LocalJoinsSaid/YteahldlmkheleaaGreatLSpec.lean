/- The specification functions of histories of several objects, in plain Lean text. -/
import Derived.Test.YteahldlmkheleaaGreatLTypes
import Derived.Test.YteahldlmkheleaaGreatPu
import Derived.Test.YteahldlmkheleaaGreatSk
set_option linter.all false
namespace Go.Proofs.YteahldlmkheleaaGreat
open Go Go.Sv Go.Pu
def ig (o:ao):Bool:=decide (o.Rows.length≤300)
def e8 (a b:List Int):Bool:=decide (a=b)
def iX (o:ao):Prop:=o.au < 1∨o.au > 32∨o.aA < 1∨o.aA > 64∨o.aH < 0∨o.aH≥o.au
instance (o:ao):Decidable (iX o):=by unfold iX; infer_instance
def iv (o:ao) (i:Int):Prop:=i > 0∧((gi o.Rows (i - 1)).State > (gi o.Rows i).State∨((gi o.Rows (i - 1)).State=(gi o.Rows i).State∧(gi o.Rows (i - 1)).Kind≥(gi o.Rows i).Kind))
instance (o:ao) (i:Int):Decidable (iv o i):=by unfold iv; infer_instance
def gj (o:ao) (i:Int):Int :=
  if (gi o.Rows i).State < 0∨(gi o.Rows i).State≥o.au∨(gi o.Rows i).Next < 0∨(gi o.Rows i).Next≥o.au then 30
  else if (gi o.Rows i).Kind < 0∨(gi o.Rows i).Kind≥o.aA then 31
  else if (gi o.Rows i).Result < 0∨(gi o.Rows i).Result > 1000000 then 7
  else if iv o i then 32 else 0
def gM (o:ao):Nat→Nat→Int × Int
  | 0,i=>((i:Int),0)
  | k+1,i=>if gj o i≠0 then ((i:Int),gj o i) else gM o k (i+1)
def cU (o:ao):Int × Int:=if iX o then (-1,2) else gM o o.Rows.length 0
def bA (o:ao):Int × Int:=cU o
def iC (o:ao) (i:Int):Int:=gj o i
def preRow (o:ao) (i:Int):Prop:=0≤i∧i < o.Rows.length
def cC (o:ao) (state kind:Int):Int × Int × Bool:=match o.Rows.find? (fun r=>r.State == state && r.Kind == kind) with | some r=>(r.Next,r.Result,true) | none=>(0,0,false)
def ct (o:ao) (state kind:Int):Int × Int × Bool:=cC o state kind
def gJ (r:bc) (state kind:Int):Bool:=r.State == state && r.Kind == kind
def bl (l:List bc) (state kind:Int):Int:=match l.findIdx? (fun r=>r.State == state && r.Kind == kind) with | some i=>(i:Int) | none=>-1
def e6 (t:im) (state kind:Int):Int × Int × Bool:=ct t.o state kind
def dj (o:ao) (state kind result:Int):Int × Int :=
  if state < 0∨state≥o.au then (0,30) else if (cC o state kind).2.2=false∨(cC o state kind).2.1≠result then (0,40) else ((cC o state kind).1,0)
def iU (o:ao) (state kind result:Int):Int × Int:=dj o state kind result
def eY (_:Int):Bool:=false
def dq (x y:Int):Int:=if x < y then -1 else if x > y then 1 else 0
def gB (l:List Int):Int:=(l.find? (fun x=>x != 0)).getD 0
def gx (a b:bc):Int:=gB [dq a.State b.State,dq a.Kind b.Kind]
def b5 (n top:Int):Bool:=decide (n≥0) && decide (n < top)
def fY (o:ao) (state:Int):Int:=if (cU o).2≠0 then 2 else if state < 0∨state≥o.au then 30 else 0
def en (o:ao) (l:List ab) (state:Int):List ab × List (Int × Int) × ao × Int:=(l,[],o,state)
def hZ (o:ao) (l:List ab) (s:Int) (p:aa):Int :=
  if (dj o s (gi l p.Oper).Kind p.Result).2=0∧(gi l p.Oper).End≠-1∧(gi l p.Oper).Result≠p.Result then 40 else (dj o s (gi l p.Oper).Kind p.Result).2
def gC (o:ao) (l:List ab) (s:Int) (p:aa):Int × Int :=
  if hZ o l s p≠0 then (0,hZ o l s p) else ((dj o s (gi l p.Oper).Kind p.Result).1,0)
def dr (o:ao) (l:List ab) (prev:List Int) (s:Int) (p:aa):Int × Int :=
  if p.Oper < 0∨p.Oper≥l.length then (0,2) else if p.Oper∈prev then (0,21) else gC o l s p
def jW (u:List (Int × Int)) (k:Int):List (Int × Int):=dp u k (IntKind.i64.wrap ((aF u k).getD 0+1))
def dh (p:aa) (l:List ab) (u:List (Int × Int)) (o:ao) (s:Int):Int × Int × List (Int × Int) × Int :=
  if p.Oper < 0∨p.Oper≥l.length then (0,2,u,s) else if (aF u p.Oper).getD 0 > 0 then (0,21,u,s)
  else if (gC o l s p).2≠0 then (0,(gC o l s p).2,jW u p.Oper,s) else ((gC o l s p).1,0,jW u p.Oper,(gC o l s p).1)
def ia (o:ao) (l:List ab):List Int→Int→List aa→Int × Int × Int
  | _,s,[]=>(s,0,0)
  | prev,s,p :: ps=>if (dr o l prev s p).2≠0 then (0,0,(dr o l prev s p).2)
    else ((ia o l (p.Oper :: prev) (dr o l prev s p).1 ps).1,(ia o l (p.Oper :: prev) (dr o l prev s p).1 ps).2.1+1,(ia o l (p.Oper :: prev) (dr o l prev s p).1 ps).2.2)
def cW (o:ao) (l:List ab) (state:Int) (aj:List aa):Int × Int × Int :=
  if fY o state≠0 then (0,-1,fY o state) else ia o l [] state aj
def jr (o:ao) (l:List ab) (state:Int) (aj:List aa):Int × Int × Int:=cW o l state aj
def cd (o:ao) (l:List ab) (aj:List aa):Int × Int × Int:=cW o l o.aH aj
def kJ (o:ao):Prop:=inR .i64 o.au∧inR .i64 o.aA
def yT (o:ao) (_:Int):Prop:=kJ o
def yS (o:ao) (_:List ab) (_:Int) (_:List aa):Prop:=kJ o
def kS (o:ao) (_:List ab) (x:List aa):Prop:=kJ o∧x.length≤1000000
def eu (o:ab):Bool:=if o.End=-1 then o.Result == -1 else decide (o.End > o.aG) && decide (o.End≤9999) && decide (o.Result≥0) && decide (o.Result≤1000000)
def dk (o:ab):Int:=if o.ah < 1∨o.ah > 1000∨o.aG < 0∨o.aG > 9999 then 2 else if o.Kind < 0∨o.Kind≥64 then 31 else if eu o=false then 7 else 0
def bf (a b:ab):Bool:=decide (a.End≥0) && decide (a.End < b.aG)
def fy (u:List (Int × Int)) (k:Int):Int:=(aF u k).getD 0
def use (u:List (Int × Int)) (k:Int):List (Int × Int):=dp u k (IntKind.i64.wrap (fy u k+1))
def om (l:List ab) (u:List (Int × Int)) (i:Nat):Prop:=(0 < i∧(gi l (i:Int)).aG≤(gi l ((i:Int) - 1)).aG)∨fy u (gi l (i:Int)).aG > 0∨((gi l (i:Int)).End≥0∧fy u (gi l (i:Int)).End > 0)
instance (l:List ab) (u:List (Int × Int)) (i:Nat):Decidable (om l u i):=by unfold om; infer_instance
def qP (l:List ab) (la:List (Int × ab)) (i:Nat):Bool:=(aF la (gi l (i:Int)).ah).isSome && !bf ((aF la (gi l (i:Int)).ah).getD ⟨0,0,0,0,0⟩) (gi l (i:Int))
def lh (l:List ab) (u:List (Int × Int)) (i:Nat):List (Int × Int):=if (gi l (i:Int)).End≥0 then use (use u (gi l (i:Int)).aG) (gi l (i:Int)).End else use u (gi l (i:Int)).aG
def dV (l:List ab):Nat→List (Int × Int)→List (Int × ab)→Nat→Int × Int
  | 0,_,_,_=>((l.length:Int),0)
  | f+1,u,la,i =>
    if dk (gi l (i:Int))≠0 then ((i:Int),dk (gi l (i:Int)))
    else if om l u i then ((i:Int),32)
    else if qP l la i=true then ((i:Int),33)
    else dV l f (lh l u i) (dp la (gi l (i:Int)).ah (gi l (i:Int))) (i+1)
def cn (l:List ab):Int × Int:=if l.length > 5000 then (0,3) else dV l l.length [] [] 0
def jS (aj:List aa):List (Int × Int):=aj.foldl (fun u p=>jW u p.Oper) []
def fx (aj:List aa):List (Int × Int):=jS aj
def fw (i:Int) (m:List (Int × Int)):Bool:=(aF m i).getD 0 == 0
def opers (aj:List aa):List Int:=aj.map (·.Oper)
def kV (l:List ab) (aj:List aa) (pending:Bool) (i:Int):Bool:=(((gi l i).End == -1) == pending) && !decide (i∈opers aj)
def gS (l:List ab) (aj:List aa) (pending:Bool) (n:Nat):List Int:=((List.range n).filter (fun i:Nat=>kV l aj pending (i:Int))).map (fun i:Nat=>(i:Int))
def ec (l:List ab) (aj:List aa) (pending:Bool):List Int:=gS l aj pending l.length
def b8 (l:List ab) (aj:List aa):List Int:=ec l aj false
def dM (l:List ab) (aj:List aa) (x:Nat):Bool :=
  decide (0≤(gi aj (x:Int)).Oper∧(gi aj (x:Int)).Oper < l.length) && (List.range l.length).any (fun k:Nat=>bf (gi l (k:Int)) (gi l (gi aj (x:Int)).Oper) && !decide ((k:Int)∈opers (aj.take x)))
def qe (l:List ab) (aj:List aa) (n:Nat):Int:=match (List.range n).find? (dM l aj) with | some x=>(x:Int) | none=>-1
def cB (l:List ab) (aj:List aa):Int:=qe l aj aj.length
def eU (o:ao) (l:List ab) (aj:List aa):Int × Int :=
  if (bA o).2≠0∨(cn l).2≠0 then (-1,2)
  else if (cd o l aj).2.2≠0 then ((cd o l aj).2.1,(cd o l aj).2.2)
  else if cB l aj≥0 then (cB l aj,42)
  else if (b8 l aj).length > 0 then (gi (b8 l aj) 0,41)
  else ((aj.length:Int),0)
def de (o:ao) (l:List ab) (aj:List aa):Bool:=(eU o l aj).2 == 0
def cl (aj:List aa) (i:Int):Int:=match aj.findIdx? (fun p=>p.Oper == i) with | some k=>(k:Int) | none=>-1
def js (a b:ab):Bool:=bf a b
def qH (l:List ab) (_:List aa):Prop:=l.length≤1000000
def vu (l:List ab) (_:List aa) (_:Bool):Prop:=l.length≤1000000
def kR (a b:ab):Bool:=(((a.aG == b.aG) || (a.End == b.aG)) || (a.aG == b.End)) || ((a.End == b.End) && (a.End != (-1)))
def cx (o:ao) (l:List ab) (jO:Int):Int:=if (bA o).2≠0∨(cn l).2≠0 then 2 else if (l.length:Int) > jO then 3 else 0
def isDone (done:List Bool) (i:Int):Bool:=decide (i < done.length) && gi done i
def l8 (l:List ab) (done:List Bool) (i:Nat):Bool:=!isDone done i && (List.range l.length).all fun k:Nat=>isDone done (k:Int) || !bf (gi l (k:Int)) (gi l (i:Int))
def fq (i:Int) (done:List Bool):Bool:=isDone done i
def jB (l:List ab) (done:List Bool) (n:Nat):List Int:=((List.range n).filter fun i:Nat=>l8 l done i).map fun i:Nat=>(i:Int)
def fb (l:List ab) (done:List Bool):List Int:=jB l done l.length
def jm (o:ao) (l:List ab) (st:Int) (i:Int):Option aa :=
  if (ct o st (gi l i).Kind).2.2 && ((gi l i).End == -1 || (gi l i).Result == (ct o st (gi l i).Kind).2.1) then some ⟨i,(ct o st (gi l i).Kind).2.1⟩ else none
def zj (o:ao) (l:List ab) (st:Int) (done:List Bool):List aa:=(fb l done).filterMap (jm o l st)
def bL (o:ao) (l:List ab) (st:Int) (done:List Bool):List aa:=if (bA o).2≠0 then [] else zj o l st done
def b6 (s:List aa):List aa:=s
abbrev Sk:=a8
abbrev Fm:=List (b7 × Int)
def EB (i:Int):Int:=IntKind.u32.wrap (1 * 2 ^ (min i.toNat IntKind.u32.bits))
def orU (a b:Int):Int:=IntKind.u32.wrap ((BitVec.ofInt IntKind.u32.bits a ||| BitVec.ofInt IntKind.u32.bits b).toNat:Int)
def ke:List Bool→Int→Int→Int
  | [],_,m=>m
  | b :: r,i,m=>ke r (i+1) (if b then orU m (EB i) else m)
def iV (done:List Bool) (st:Int):b7:=⟨ke done 0 0,st⟩
def dD (st:Int) (s:Sk):b7:=iV s.done st
def kY (l:List ab) (done:List Bool):Bool:=(List.range l.length).all fun i:Nat=>!(((gi l (i:Int)).End != -1) && !gi done (i:Int))
def dP (s:Sk):Bool:=kY s.l s.done
def cf (done:List Bool):Nat:=done.count false
def fh (o:ao) (l:List ab) (st:Int) (p:aa):Int:=(ct o st (gi l p.Oper).Kind).1
def mc {α:Type} (g:aa→α→(List aa × Bool) × α):List aa→α→(List aa × Bool) × α
  | [],f=>(([],false),f)
  | p :: ps,f=>if (g p f).1.2 then g p f else mc g ps (g p f).2
def oI (f:Fm) (k:b7):Fm:=if k.done=0∧k.state=0 then f else dp f k (IntKind.i64.wrap ((aF f k).getD 0+1))
def fS (o:ao) (l:List ab):Nat→Int→List aa→List Bool→Fm→(List aa × Bool) × Fm
  | 0,_,_,_,f=>(([],false),f)
  | n+1,st,so,done,f =>
    if kY l done then ((so,true),f)
    else if (aF f (iV done st)).getD 0 > 0 then (([],false),f)
    else if (mc (fun p f=>fS o l n (fh o l st p) (so++[p]) (done.set p.Oper.toNat true) f) (bL o l st done) f).1.2
      then mc (fun p f=>fS o l n (fh o l st p) (so++[p]) (done.set p.Oper.toNat true) f) (bL o l st done) f
      else (([],false),oI (mc (fun p f=>fS o l n (fh o l st p) (so++[p]) (done.set p.Oper.toNat true) f) (bL o l st done) f).2 (iV done st))
def jC (s:Sk) (st:Int) (so:List aa):(List aa × Bool) × Fm:=fS s.o s.l (cf s.done+1) st so s.done s.failed
def aJ (st:Int) (so:List aa) (s:Sk):List aa × Bool × Sk:=((jC s st so).1.1,(jC s st so).1.2,⟨s.o,s.l,s.done,(jC s st so).2⟩)
def Bx (p:aa) (s:Sk) (st:Int) (so:List aa):(List aa × Bool) × Fm:=fS s.o s.l (cf s.done) (fh s.o s.l st p) (so++[p]) (s.done.set p.Oper.toNat true) s.failed
def bk (p:aa) (s:Sk) (st:Int) (so:List aa):List aa × Bool × Sk:=((Bx p s st so).1.1,(Bx p s st so).1.2,⟨s.o,s.l,s.done,(Bx p s st so).2⟩)
def na (o:ao) (l:List ab):Nat→Int→List Bool→List (List aa)
  | 0,_,_=>[]
  | n+1,st,done=>(if kY l done then [[]] else [])++(bL o l st done).flatMap fun p=>(na o l n (fh o l st p) (done.set p.Oper.toNat true)).map (p :: ·)
def bH (o:ao) (l:List ab):Sk:=⟨o,l,List.replicate l.length false,[]⟩
def bn (o:ao) (l:List ab):List aa × Int :=
  if cx o l 20≠0 then ([],cx o l 20)
  else if (jC (bH o l) o.aH []).1.2=false∨de o l (jC (bH o l) o.aH []).1.1=false then ([],41) else ((jC (bH o l) o.aH []).1.1,0)
def pa (st:Int) (so:List aa) (s:Sk):Nat:=2 * cf s.done+1
def Cc (p:aa) (s:Sk) (st:Int) (so:List aa):Nat:=2 * cf s.done
def wfS (s:Sk):Prop:=s.done.length=s.l.length∧s.l.length≤20∧kJ s.o
def yJ (s:Sk):Prop:=s.done.length=s.l.length
def sG (st:Int) (so:List aa) (s:Sk):Prop:=wfS s∧so.length+cf s.done≤100
def yK (p:aa) (s:Sk) (st:Int) (so:List aa):Prop:=wfS s∧so.length+cf s.done≤100∧0≤p.Oper∧p.Oper < s.l.length∧gi s.done p.Oper=false
def yU (o:ao) (l:List ab) (st:Int) (done:List Bool):Prop:=kJ o∧l.length≤1000000
def yY (l:List ab) (done:List Bool):Prop:=l.length≤1000000
def zc (o:ao) (l:List ab):Prop:=l.length≤1000000
def yZ (s:List aa):Prop:=s.length≤1000000
def za (o:ao) (l:List ab) (jO:Int):Prop:=kJ o
def yL (o:ao) (l:List ab):Prop:=kJ o
def vw (i:Int) (done:List Bool):Prop:=0≤i
def evE (x:aw):Int :=
  if x.bm≠1∧x.bm≠2 then 8 else if x.ah < 1∨x.ah > 1000 then 2
  else if x.bm=1∧(x.N < 0∨x.N≥64) then 31 else if x.bm=2∧(x.N < 0∨x.N > 1000000) then 7 else 0
def gu (x:aw):Int:=evE x
def eA (l:List aw) (p:Int):Int:=l.foldl (fun w x=>if x.ah=p then x.bm else w) 0
def m6 (l:List aw):Nat→Int→Int × Int
  | 0,i=>(i,0)
  | f+1,i=>if evE (gi l i)≠0 then (i,evE (gi l i)) else if (eA (l.take i.toNat) (gi l i).ah == 1) == ((gi l i).bm == 1) then (i,33) else m6 l f (i+1)
def bE (l:List aw):Int × Int:=if l.length > 10000 then (0,3) else m6 l l.length 0
def e7 (l:List aw):Int × Int:=bE l
def iD (l:List aw) (p:Int):Nat→Int
  | 0=>-1
  | i+1=>if (gi l (i:Int)).ah=p then (i:Int) else iD l p i
def iB (l:List aw) (p:Int):Int:=iD l p l.length
def fA (l:List aw) (p:Int):Bool:=eA l p == 1
def ga (i:Int) (x:aw) (o:ab):ab:=if o.End=-1∧o.ah=x.ah then ⟨o.ah,o.Kind,o.aG,i,x.N⟩ else o
def fE (ops:List ab) (i:Int) (x:aw):List ab:=ops.map (ga i x)++(if x.bm=1 then [⟨x.ah,x.N,i,-1,-1⟩] else [])
def l5:List aw→Int→List ab→List ab
  | [],_,ops=>ops
  | x :: l,i,ops=>l5 l (i+1) (fE ops i x)
def opsOf (l:List aw):List ab:=l5 l 0 []
def gT (l:List aw):List ab × Int:=if (bE l).2≠0 then ([],(bE l).2) else (opsOf l,0)
def gD (l:List aw):List ab × Int:=gT l
def ep (a b:List bc):Bool:=decide (a=b)
def ji (a b:ao):Bool:=decide (a=b)
def pO (v:Int):List Int→Int→Int
  | [],_=>-1
  | y :: r,i=>if v=y then i else pO v r (i+1)
def dX (l:List Int) (x:Int):Int:=pO x l 0
def cw (l:List Int) (x:Int):Bool:=decide (x∈l)
def c8 (s:List bc):List bc:=s
def dT (p:Int × Int) (n:Int):Bool:=decide (0≤p.1∧0≤p.2∧p.1 < n∧p.2 < n∧p.1≠p.2)
def cj (p:Int × Int) (n x:Int) (out:List Int):Bool:=dT p n && (p.2 == x) && !decide (p.1∈out)
def bp (l:List (Int × Int)) (n x:Int) (out:List Int):Int:=match l.findIdx? (fun p=>cj p n x out) with | some i=>(i:Int) | none=>-1
def bI (l:List (Int × Int)) (n x:Int) (out:List Int):Bool:=l.any (fun p=>cj p n x out)
def db (x n:Int) (out:List Int) (pairs:List (Int × Int)):Bool:=decide (x∈out) || pairs.any (fun p=>cj p n x out)
def kb (n:Int) (pairs:List (Int × Int)) (out:List Int):Option Nat:=(List.range n.toNat).find? (fun (x:Nat)=>!db x n out pairs)
def iA (n:Int) (pairs:List (Int × Int)):Nat→List Int→List Int × Bool
  | 0,out=>(out,true)
  | k+1,out=>match kb n pairs out with | none=>([],false) | some x=>iA n pairs k (out++[(x:Int)])
def di (n:Int) (pairs:List (Int × Int)):List Int × Bool:=if n < 0∨n > 64 then ([],false) else iA n pairs n.toNat []
def gn {α:Type} (f:Int→Bool):List α→Int→List α
  | [],_=>[]
  | x :: l,i=>if f i=true then x :: gn f l (i+1) else gn f l (i+1)
def bo (h:ak):List aw:=h.al.map (·.aN)
def cV (o:ao):Bool:=(bA o).2 != 0
def bd (l:List ao):Int:=match l.findIdx? cV with | some i=>(i:Int) | none=>-1
def aZ (l:List ao):Bool:=l.any cV
def iE (os:List ao) (b:List (Int × Int)) (x:aV):Int :=
  if x.az < 0∨x.az≥os.length then 2 else if x.aN.bm=2∧(aF b x.aN.ah).getD 0≠x.az then 32
  else if x.aN.bm=1∧x.aN.N≥(gi os x.az).aA then 31 else 0
def hGo (os:List ao):List aV→Int→List (Int × Int)→Int × Int
  | [],i,_=>(i,0)
  | x :: l,i,b=>if iE os b x≠0 then (i,iE os b x) else hGo os l (i+1) (dp b x.aN.ah x.az)
def p6 (os:List ao):Prop:=os.length < 1∨os.length > 8∨os.any cV=true
instance (os:List ao):Decidable (p6 os):=by unfold p6; infer_instance
def aD (h:ak):Int × Int :=
  if p6 h.ae then (-1,2) else if (bE (bo h)).2≠0 then bE (bo h) else hGo h.ae h.al 0 []
def toL (x:aK):aV:=⟨x.az,x.aN⟩
def cS (l:List aK):List aw:=l.map (·.aN)
def mS (l:List aK) (p:Int):Nat→Int
  | 0=>-1
  | i+1=>if (gi l (i:Int)).aN.ah=p then (gi l (i:Int)).az else mS l p i
def fL (l:List aK) (at_:Int):Int:=mS l (gi l at_).aN.ah at_.toNat
def dE (os:List ao) (l:List aK):Int × Int:=aD ⟨os,l.map toL⟩
def eX (i:Int) (h:ak) (k:Int):Bool:=(gi h.al i).az == k
def bS (l:List aw) (h:ak) (k:Int):List aw:=gn (fun i=>eX i h k) l 0
def dR (l:List aV) (k:Int):List aw:=(l.filter (fun x=>x.az == k)).map (·.aN)
def o7 (h:ak) (k:Int):Prop:=(aD h).2≠0∨k < 0∨k≥h.ae.length
instance (h:ak) (k:Int):Decidable (o7 h k):=by unfold o7; infer_instance
def dG (h:ak) (k:Int):fv:=if o7 h k then ⟨⟨0,0,0,[]⟩,[]⟩ else ⟨gi h.ae k,dR h.al k⟩
def bw (h:ak):List ab:=opsOf (bo h)
def ofH (h:ak):List Int:=(bw h).map fun o=>(gi h.al o.aG).az
def cY (h:ak):List ab × List Int:=if (aD h).2≠0 then ([],[]) else (bw h,ofH h)
def dc (os:List ao) (l:List aK):List ab × List Int:=cY ⟨os,l.map toL⟩
def cm (h:ak):List ab × List Int × Int :=
  if (aD h).2≠0 then ([],[],(aD h).2) else if (bw h).length > 20 then ([],[],3) else (bw h,ofH h,0)
def ic (k:Int):List Int→Int→List Int
  | [],_=>[]
  | x :: l,i=>if x=k then i :: ic k l (i+1) else ic k l (i+1)
def aW (of:List Int) (k:Int):List Int:=ic k of 0
def du (i:Int) (of:List Int) (k:Int):Bool:=gi of i == k
def bz (l:List ab) (of:List Int) (k:Int):List ab:=gn (fun i=>du i of k) l 0
def dn (l:List ab) (of:List Int) (k:Int):List ab:=bz l of k
def gk (own:List Int) (p:aa):aa:=⟨gi own p.Oper,p.Result⟩
def rowOf (l:List ab) (of:List Int) (o:ao) (k:Int):List aa:=(bn o (dn l of k)).1.map (gk (aW of k))
def jq (l:List ab) (of:List Int):List ao→Int→List (List aa)→List (List aa) × Int
  | [],_,out=>(out,0)
  | o :: os,k,out=>if (bn o (dn l of k)).2≠0 then ([],(bn o (dn l of k)).2) else jq l of os (k+1) (out++[rowOf l of o k])
def cG (h:ak) (l:List ab) (of:List Int):List (List aa) × Int:=jq l of h.ae 0 []
def cr (n:Int):List aa:=[]
def cc (l:List (List aa)):List aa:=l.flatten
def ll (at_:Int) (n:Nat):List (Int × Int):=(List.range (n - 1)).map fun i:Nat=>(at_+i,at_+i+1)
def eQ:List (List aa)→Int→List (Int × Int)
  | [],_=>[]
  | r :: rs,at_=>ll at_ r.length++eQ rs (at_+r.length)
def mn (l:List ab) (all:List aa) (i j:Nat):Bool:=bf (gi l (gi all (i:Int)).Oper) (gi l (gi all (j:Int)).Oper)
def iQ (l:List ab) (all:List aa) (i n:Nat):List (Int × Int):=((List.range n).filter (mn l all i)).map fun j:Nat=>((i:Int),(j:Int))
def lj (l:List ab) (all:List aa):List (Int × Int):=(List.range all.length).flatMap fun i=>iQ l all i all.length
def cg (l:List ab) (rows:List (List aa)):List aa × List (Int × Int):=(rows.flatten,eQ rows 0++lj l rows.flatten)
def ki (l:List ab) (rows:List (List aa)):List Int × Bool:=di (rows.flatten.length:Nat) (cg l rows).2
def bV (h:ak):List aa × Int :=
  if (cm h).2.2≠0 then ([],(cm h).2.2)
  else if (cG h (bw h) (ofH h)).2≠0 then ([],(cG h (bw h) (ofH h)).2)
  else if (ki (bw h) (cG h (bw h) (ofH h)).1).2=false then ([],41)
  else ((ki (bw h) (cG h (bw h) (ofH h)).1).1.map (gi (cG h (bw h) (ofH h)).1.flatten),0)
def fe (h:ak):Bool × Int:=if (bV h).2=41 then (false,0) else ((bV h).2 == 0,(bV h).2)
def dI (i:Int) (aj:List aa) (l:List ab) (of:List Int) (k:Int):Bool :=
  decide ((gi aj i).Oper < 0∨(gi aj i).Oper≥l.length) || gi of (gi aj i).Oper == k
def bR (x:List aa) (aj:List aa) (l:List ab) (of:List Int) (k:Int):List aa:=gn (fun i=>dI i aj l of k) x 0
def sa (l:List ab) (of:List Int) (k:Int) (aj:List aa):List aa:=aj.filter fun p=>decide (p.Oper < 0∨p.Oper≥l.length) || gi of p.Oper == k
def iS (l:List ab) (of:List Int) (aj:List aa):List ao→Int→Bool
  | [],_=>true
  | o :: os,k=>if (cd o l (sa l of k aj)).2.2≠0 then false else iS l of aj os (k+1)
def eH (h:ak) (aj:List aa):Bool :=
  if (aD h).2≠0 then false else iS (bw h) (ofH h) aj h.ae 0 && decide (cB (bw h) aj < 0) && ((b8 (bw h) aj).length == 0)
def pL (l:List ab) (aj:List aa) (i:Nat):Bool:=decide (0≤(gi aj (i:Int)).Oper∧(gi aj (i:Int)).Oper < l.length) && (List.range l.length).any fun k:Nat=>bf (gi l (k:Int)) (gi l (gi aj (i:Int)).Oper) && (decide (cl aj k < 0) || decide (cl aj k≥i))
def eG (l:List ab) (aj:List aa):Int:=match (List.range aj.length).find? (pL l aj) with | some i=>(i:Int) | none=>-1
def pT (l:List ab) (aj:List aa) (pending:Bool) (i:Nat):Bool:=decide (cl aj i < 0) && (((gi l (i:Int)).End == -1) == pending)
def eW (l:List ab) (aj:List aa) (pending:Bool):List Int:=((List.range l.length).filter (pT l aj pending)).map fun i:Nat=>(i:Int)
def kH (of:List Int) (k:Int) (aj:List aa):List aa:=aj.filter fun p=>gi of p.Oper == k
def l4 (l:List ab) (of:List Int) (aj:List aa):List ao→Int→Bool
  | [],_=>true
  | o :: os,k=>if (cW o l o.aH (kH of k aj)).2.2≠0 then false else l4 l of aj os (k+1)
def fM (os:List ao) (l:List aK) (aj:List aa):Bool :=
  if (dE os l).2≠0 then false
  else if aj.any (fun p=>decide (p.Oper < 0∨p.Oper≥(dc os l).1.length))=true then false
  else l4 (dc os l).1 (dc os l).2 aj os 0 && decide (eG (dc os l).1 aj < 0) && ((eW (dc os l).1 aj false).length == 0)
def dy:ao:=⟨2,2,0,[⟨0,0,1,0⟩,⟨0,1,0,0⟩,⟨1,0,1,0⟩,⟨1,1,1,1⟩]⟩
def cy (o:Int):ak:=⟨[dy,dy],[⟨0,⟨1,1,0⟩⟩,⟨o,⟨1,2,1⟩⟩,⟨0,⟨2,1,0⟩⟩,⟨o,⟨2,2,1⟩⟩]⟩
def fm (h:ak):List aK:=h.al.map fun x=>⟨x.az,x.aN⟩
def fu (h:ak):Int:=(h.al.countP (fun x=>x.aN.bm == 1):Nat)
def jy (dW:List Int) (i:Int):Nat→Int
  | 0=>0
  | k+1=>jy dW i k+if gi dW (k:Int)=gi dW i then 1 else 0
def ew (dW:List Int) (i:Int):Int:=jy dW i i.toNat
def ie (h:ak):Bool:=decide (h.ae.length≤10) && decide (h.al.length≤20) && h.ae.all ig
def fN:Bool:=true
def lf (l:List aw):Int:=(l.countP (fun x=>x.bm == 1):Nat)
def zb (s:List bc):Prop:=s.length≤1000000
def mw (os:List ao):Prop:=∀ o∈os,kJ o
def gr (h:ak):Prop:=mw h.ae∧h.al.length≤1000000∧∀ o∈h.ae,o.Rows.length≤1000000
def ln (h:ak):Prop:=h.al.length≤1000000
def sB (l:List aK):Prop:=l.length≤1000000
def k5 (os:List ao) (l:List aK):Prop:=mw os∧l.length≤1000000
def vv (h:ak) (_:Int):Prop:=gr h
def tS (l:List aK) (at_:Int):Prop:=0≤at_∧at_ < l.length
def yP (i:Int) (h:ak) (_:Int):Prop:=0≤i∧i < h.al.length
def yR (l:List aw) (h:ak) (_:Int):Prop:=l.length≤h.al.length∧l.length≤1000000
def tR (i:Int) (of:List Int) (_:Int):Prop:=0≤i∧i < of.length
def sD (of:List Int) (_:Int):Prop:=of.length≤1000000
def yQ (l:List ab) (of:List Int) (_:Int):Prop:=l.length≤of.length∧l.length≤1000000
def yO (h:ak) (l:List ab) (of:List Int):Prop:=gr h∧l.length=of.length∧l.length≤1000000∧h.ae.length≤8
def sH (l:List (List aa)):Prop:=l.flatten.length≤1000000
def yX (n:Int):Prop:=0≤n∧n≤1000000
def vx (l:List ab) (rows:List (List aa)):Prop:=rows.flatten.length≤1000∧∀ p∈rows.flatten,0≤p.Oper∧p.Oper < l.length
def yW (i:Int) (aj:List aa) (l:List ab) (of:List Int) (_:Int):Prop:=0≤i∧i < aj.length∧l.length=of.length
def yV (x aj:List aa) (l:List ab) (of:List Int) (_:Int):Prop:=x.length≤aj.length∧x.length≤1000000∧l.length=of.length
def sE (h:ak) (aj:List aa):Prop:=gr h∧aj.length≤1000000
def yN (os:List ao) (l:List aK) (aj:List aa):Prop:=mw os∧l.length≤1000000∧aj.length≤1000000
def yM (dW:List Int) (i:Int):Prop:=0≤i∧i < dW.length
def sC (l:List ab) (_:List aa) (_:Bool):Prop:=l.length≤1000000
end Go.Proofs.YteahldlmkheleaaGreat
