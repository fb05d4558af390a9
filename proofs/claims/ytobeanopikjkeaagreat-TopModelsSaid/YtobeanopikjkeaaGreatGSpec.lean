/- The specification functions. Definitions. -/
import Derived.Test.YtobeanopikjkeaaGreatGTypes
import Derived.Test.YtobeanopikjkeaaGreatPu
import Derived.Test.YtobeanopikjkeaaGreatSk
set_option linter.all false
namespace Go.Proofs.YtobeanopikjkeaaGreat
open Go Go.Sv Go.Pu
def ke (o:ah):Bool:=decide (o.Rows.length≤300)
def jb (o:ah):Prop:=o.ab < 1∨o.ab > 32∨o.aP < 1∨o.aP > 64∨o.aU < 0∨o.aU≥o.ab
instance (o:ah):Decidable (jb o):=by unfold jb; infer_instance
def ie (o:ah) (i:Int):Prop:=i > 0∧((gi o.Rows (i - 1)).State > (gi o.Rows i).State∨((gi o.Rows (i - 1)).State=(gi o.Rows i).State∧(gi o.Rows (i - 1)).Kind≥(gi o.Rows i).Kind))
instance (o:ah) (i:Int):Decidable (ie o i):=by unfold ie; infer_instance
def fV (o:ah) (i:Int):Int :=
 if (gi o.Rows i).State < 0∨(gi o.Rows i).State≥o.ab∨(gi o.Rows i).Next < 0∨(gi o.Rows i).Next≥o.ab then 30
 else if (gi o.Rows i).Kind < 0∨(gi o.Rows i).Kind≥o.aP then 31
 else if (gi o.Rows i).Result < 0∨(gi o.Rows i).Result > 1000000 then 7
 else if ie o i then 32 else 0
def gI (o:ah):Nat→Nat→Int × Int
 | 0,i=>((i:Int),0)
 | k+1,i=>if fV o i≠0 then ((i:Int),fV o i) else gI o k (i+1)
def cE (o:ah):Int × Int:=if jb o then (-1,2) else gI o o.Rows.length 0
def bq (o:ah):Int × Int:=cE o
def iA (o:ah) (i:Int):Int:=fV o i
def vV (o:ah) (i:Int):Prop:=0≤i∧i < o.Rows.length
def aZ (o:ah) (state kind:Int):Int × Int × Bool:=match o.Rows.find? (fun r=>r.State == state && r.Kind == kind) with | some r=>(r.Next,r.Result,true) | none=>(0,0,false)
def eQ (o:ah) (state kind:Int):Int × Int × Bool:=aZ o state kind
def gF (r:cG) (state kind:Int):Bool:=r.State == state && r.Kind == kind
def aV (l:List cG) (state kind:Int):Int:=match l.findIdx? (fun r=>r.State == state && r.Kind == kind) with | some i=>(i:Int) | none=>-1
def db (o:ah) (state kind result:Int):Int × Int :=
 if state < 0∨state≥o.ab then (0,30) else if (aZ o state kind).2.2=false∨(aZ o state kind).2.1≠result then (0,40) else ((aZ o state kind).1,0)
def cmp_isNaN_int (_:Int):Bool:=false
def dh (x y:Int):Int:=if x < y then -1 else if x > y then 1 else 0
def gy (l:List Int):Int:=(l.find? (fun x=>x != 0)).getD 0
def gp (a b:cG):Int:=gy [dh a.State b.State,dh a.Kind b.Kind]
def bH (n top:Int):Bool:=decide (n≥0) && decide (n < top)
def gh (o:ah) (state:Int):Int:=if (cE o).2≠0 then 2 else if state < 0∨state≥o.ab then 30 else 0
def gY (o:ah) (l:List ae) (s:Int) (p:ak):Int :=
 if (db o s (gi l p.Oper).Kind p.Result).2=0∧(gi l p.Oper).End≠-1∧(gi l p.Oper).Result≠p.Result then 40 else (db o s (gi l p.Oper).Kind p.Result).2
def nR (o:ah) (l:List ae) (s:Int) (p:ak):Int × Int :=
 if gY o l s p≠0 then (0,gY o l s p) else ((db o s (gi l p.Oper).Kind p.Result).1,0)
def ca (o:ah) (l:List ae) (prev:List Int) (s:Int) (p:ak):Int × Int :=
 if p.Oper < 0∨p.Oper≥l.length then (0,2) else if p.Oper∈prev then (0,21) else nR o l s p
def eK (o:ah) (l:List ae):List Int→Int→List ak→Int × Int × Int
 | _,s,[]=>(s,0,0)
 | prev,s,p :: ps=>if (ca o l prev s p).2≠0 then (0,0,(ca o l prev s p).2)
  else ((eK o l (p.Oper :: prev) (ca o l prev s p).1 ps).1,(eK o l (p.Oper :: prev) (ca o l prev s p).1 ps).2.1+1,(eK o l (p.Oper :: prev) (ca o l prev s p).1 ps).2.2)
def bU (o:ah) (l:List ae) (state:Int) (az:List ak):Int × Int × Int :=
 if gh o state≠0 then (0,-1,gh o state) else eK o l [] state az
def fE (o:ah) (l:List ae) (az:List ak):Int × Int × Int:=bU o l o.aU az
def sS (o:ah):Prop:=inR .i64 o.ab∧inR .i64 o.aP
def eG (o:ae):Bool:=if o.End=-1 then o.Result == -1 else decide (o.End > o.aN) && decide (o.End≤9999) && decide (o.Result≥0) && decide (o.Result≤1000000)
def dY (o:ae):Int:=if o.Prc < 1∨o.Prc > 1000∨o.aN < 0∨o.aN > 9999 then 2 else if o.Kind < 0∨o.Kind≥64 then 31 else if eG o=false then 7 else 0
def bG (a b:ae):Bool:=decide (a.End≥0) && decide (a.End < b.aN)
def y7 (u:List (Int × Int)) (k:Int):Int:=(cd u k).getD 0
def use (u:List (Int × Int)) (k:Int):List (Int × Int):=gb u k (IntKind.i64.wrap (y7 u k+1))
def rf (l:List ae) (u:List (Int × Int)) (i:Nat):Prop:=(0 < i∧(gi l (i:Int)).aN≤(gi l ((i:Int) - 1)).aN)∨y7 u (gi l (i:Int)).aN > 0∨((gi l (i:Int)).End≥0∧y7 u (gi l (i:Int)).End > 0)
instance (l:List ae) (u:List (Int × Int)) (i:Nat):Decidable (rf l u i):=by unfold rf; infer_instance
def uK (l:List ae) (la:List (Int × ae)) (i:Nat):Bool:=(cd la (gi l (i:Int)).Prc).isSome && !bG ((cd la (gi l (i:Int)).Prc).getD ⟨0,0,0,0,0⟩) (gi l (i:Int))
def pd (l:List ae) (u:List (Int × Int)) (i:Nat):List (Int × Int):=if (gi l (i:Int)).End≥0 then use (use u (gi l (i:Int)).aN) (gi l (i:Int)).End else use u (gi l (i:Int)).aN
def dK (l:List ae):Nat→List (Int × Int)→List (Int × ae)→Nat→Int × Int
 | 0,_,_,_=>((l.length:Int),0)
 | f+1,u,la,i =>
  if dY (gi l (i:Int))≠0 then ((i:Int),dY (gi l (i:Int)))
  else if rf l u i then ((i:Int),32)
  else if uK l la i=true then ((i:Int),33)
  else dK l f (pd l u i) (gb la (gi l (i:Int)).Prc (gi l (i:Int))) (i+1)
def bp (l:List ae):Int × Int:=if l.length > 5000 then (0,3) else dK l l.length [] [] 0
def opers (az:List ak):List Int:=az.map (·.Oper)
def BK (l:List ae) (az:List ak) (pending:Bool) (i:Int):Bool:=(((gi l i).End == -1) == pending) && !decide (i∈opers az)
def A9 (l:List ae) (az:List ak) (pending:Bool) (n:Nat):List Int:=((List.range n).filter (fun i:Nat=>BK l az pending (i:Int))).map (fun i:Nat=>(i:Int))
def nP (l:List ae) (az:List ak) (pending:Bool):List Int:=A9 l az pending l.length
def fD (l:List ae) (az:List ak):List Int:=nP l az false
def ik (l:List ae) (az:List ak) (x:Nat):Bool :=
 decide (0≤(gi az (x:Int)).Oper∧(gi az (x:Int)).Oper < l.length) && (List.range l.length).any (fun k:Nat=>bG (gi l (k:Int)) (gi l (gi az (x:Int)).Oper) && !decide ((k:Int)∈opers (az.take x)))
def vZ (l:List ae) (az:List ak) (n:Nat):Int:=match (List.range n).find? (ik l az) with | some x=>(x:Int) | none=>-1
def fK (l:List ae) (az:List ak):Int:=vZ l az az.length
def nQ (o:ah) (l:List ae) (az:List ak):Int × Int :=
 if (bq o).2≠0∨(bp l).2≠0 then (-1,2)
 else if (fE o l az).2.2≠0 then ((fE o l az).2.1,(fE o l az).2.2)
 else if fK l az≥0 then (fK l az,42)
 else if (fD l az).length > 0 then (gi (fD l az) 0,41)
 else ((az.length:Int),0)
def gg (o:ah) (l:List ae) (az:List ak):Bool:=(nQ o l az).2 == 0
def bb (az:List ak) (i:Int):Int:=match az.findIdx? (fun p=>p.Oper == i) with | some k=>(k:Int) | none=>-1
def jE (a b:ae):Bool:=bG a b
def kT (l:List ae) (az:List ak) (i k:Nat):Bool:=!(bG (gi l (i:Int)) (gi l (k:Int)) && decide (bb az k≥0) && (decide (bb az i < 0) || decide (bb az i > bb az k)))
def pI (l:List ae) (az:List ak) (i:Nat):Bool:=!(((gi l (i:Int)).End != -1) && decide (bb az i < 0)) && (List.range l.length).all (kT l az i)
def dN (o:ah) (l:List ae) (az:List ak):Bool:=decide ((bU o l o.aU az).2.2=0) && (List.range l.length).all (pI l az)
def fL (o:ah) (l:List ae) (s:Int) (i:Int):ak:=⟨i,if 0≤i∧i < l.length then (aZ o s (gi l i).Kind).2.1 else 0⟩
def fq (o:ah) (l:List ae):List Int→Int→List Int→List ak × Int
 | _,_,[]=>([],0)
 | prev,s,i :: is =>
  if (ca o l prev s (fL o l s i)).2≠0 then ([],(ca o l prev s (fL o l s i)).2)
  else if (fq o l (i :: prev) (ca o l prev s (fL o l s i)).1 is).2≠0 then ([],(fq o l (i :: prev) (ca o l prev s (fL o l s i)).1 is).2)
  else (fL o l s i :: (fq o l (i :: prev) (ca o l prev s (fL o l s i)).1 is).1,0)
def lF (o:ah) (l:List ae) (order:List Int):List ak × Int:=if gh o o.aU≠0 then ([],gh o o.aU) else fq o l [] o.aU order
def cV (o:ah) (l:List ae) (order:List Int):List ak × Int:=lF o l order
def gk (a b:List ak):Bool:=decide (a=b)
def Bn {α:Type} (_:ah) (_:List ae) (x:List α):Prop:=x.length≤1000000
def grow (n:Int) (last:List (List Int)):List (List Int):=last.flatMap fun x=>((List.range n.toNat).filter fun k:Nat=>!decide ((k:Int)∈x)).map fun k:Nat=>x++[(k:Int)]
def iZ (n:Int):Nat→List (List Int)→List (List Int)
 | 0,_=>[]
 | f+1,last=>if last=[] then [] else grow n last++iZ n f (grow n last)
def da (n:Int):List (List Int):=[[]]++iZ n (n.toNat+1) [[]]
def nY (o:ah) (l:List ae) (x:List Int):Option (List ak):=if (cV o l x).2=0∧dN o l (cV o l x).1=true then some (cV o l x).1 else none
def bM (o:ah) (l:List ae):List (List ak):=(da l.length).filterMap (nY o l)
def Bo (n:Int):Prop:=0≤n∧n≤5
def Bt (o:ah) (l:List ae):Prop:=l.length≤5
def kN (ops qm:Int):Int:=if ops < 0∨ops > 64∨qm < 1∨qm > 32 then 2 else 0
def ao (s:aa):Int:=kN s.Ops s.ab
def bN (s:aa) (kind:Int):Int × Int × Int :=
 if kind=1 then (0,s.Ops,s.Ops) else if kind=2 then (IntKind.i64.wrap (s.Ops * s.Ops),1,s.Ops)
 else (IntKind.i64.wrap (IntKind.i64.wrap (s.Ops * s.Ops)+s.Ops),s.ab,IntKind.i64.wrap (s.Ops+1))
def aw (s:aa):Int :=
 if ao s=0 then s.Ops * s.Ops+s.Ops+s.ab * (s.Ops+1) else 0
def wide (s:aa) (k:Int):Int:=if k=1 then s.Ops else if k=2 then 1 else s.ab
def tW (s:aa) (k:Int):Int:=if k=1 then s.Ops else if k=2 then s.Ops else s.Ops+1
def base (s:aa) (k:Int):Int:=if k=1 then 0 else if k=2 then s.Ops * s.Ops else s.Ops * s.Ops+s.Ops
def bd (s:aa) (n:aW):Int :=
 if ao s=0∧1≤n.Kind∧n.Kind≤3∧0≤n.A∧n.A < tW s n.Kind∧0≤n.B∧n.B < wide s n.Kind then base s n.Kind+n.A * wide s n.Kind+n.B+1 else 0
def jW (x:Int):Int:=IntKind.i64.wrap (0 - x)
def lg:List Int→List (List Int)
 | []=>[]
 | x :: r=>r.map (fun y=>[jW x,jW y])++lg r
def iY (l:List Int):Prop:=l.length≤1000000
def dD (l:List Int):List (List Int):=lg l
def gf (l:Int):Int × Bool:=if 0 < l∧l≤100000 then (l,true) else if l < 0∧-100000≤l then (0 - l,false) else (0,false)
def pG (m:List Bool) (l:Int):Bool:=(gf l).1 != 0 && ((if (gf l).1≤m.length then gi m ((gf l).1 - 1) else false) == (gf l).2)
def cv (c:List Int) (m:List Bool):Bool:=c.any (pG m)
def kO (f:aL) (m:List Bool):Int:=match f.ai.findIdx? (fun c=>!cv c m) with | some i=>(i:Int) | none=>-1
def dp (s:aa) (a k:Int):Int:=bd s ⟨1,a,k⟩
def idx (l:List Int) (v:Int):Int:=match l.findIdx? (fun x=>x == v) with | some i=>(i:Int) | none=>-1
def c9 (l:List Int) (v:Int):Int:=idx l v
def cU (l:List Int) (v:Int):Bool:=decide (v∈l)
def pon (s:aa) (m:List Bool) (a k:Int):Bool:=gi m (dp s a k - 1)
def sel (t:Nat) (p:Int→Bool):List Int:=((List.range t).map Int.ofNat).filter p
def fA (s:aa) (m:List Bool):Prop:=ao s=0∧(m.length:Int)=aw s∧(∀ a∈List.range s.Ops.toNat,(sel s.Ops.toNat (pon s m (a:Nat))).length=1)∧∀ k∈List.range s.Ops.toNat,(sel s.Ops.toNat (fun a=>pon s m a (k:Nat))).length=1
instance (s:aa) (m:List Bool):Decidable (fA s m):=by unfold fA; infer_instance
def who (s:aa) (m:List Bool) (t:Nat) (k:Nat):Int:=(sel t (fun a=>pon s m a k)).getLastD (-1)
def aq (s:aa) (m:List Bool):List Int × Bool:=if fA s m then ((List.range s.Ops.toNat).map (who s m s.Ops.toNat),true) else ([],false)
def dQ (k a:Int):aW:=⟨1,a,k⟩
def dP (a k:Int):aW:=⟨1,a,k⟩
def nL (s:aa) (a:Int) (t:Nat):List Int:=(List.range t).map fun (k:Nat)=>dp s a (k:Int)
def oA (s:aa) (k:Int) (t:Nat):List Int:=(List.range t).map fun (a:Nat)=>dp s (a:Int) k
def kP (s:aa) (_:Int):Prop:=0≤s.Ops∧s.Ops≤64
def bR (s:aa) (a:Int):List Int:=nL s a s.Ops.toNat
def bQ (s:aa) (k:Int):List Int:=oA s k s.Ops.toNat
def wL (s:aa) (a:Nat):List (List Int):=nL s a s.Ops.toNat :: lg (nL s a s.Ops.toNat)
def DR (s:aa) (k:Nat):List (List Int):=lg (oA s k s.Ops.toNat)
def cc (s:aa):List (List Int):=if ao s=0 then (List.range s.Ops.toNat).flatMap (wL s)++(List.range s.Ops.toNat).flatMap (DR s) else []
def mV (x y:Int):Prop:=0≤x∧x≤1∧0≤y∧y≤1000
def eX (x y:Int):Int × Int:=(0,x * y)
def fN (x y:Int):Int × Int:=(0,x * y)
def vW (l:List Int) (n:Int):Prop:=l.length=1∧0≤n∧n≤1000
def cP (l:List Int) (n:Int):List Int:=List.replicate n.toNat (gi l 0)
def bL (s:aa) (a b:Int):Int:=bd s ⟨3,a,b⟩
def on (s:aa) (m:List Bool) (a b:Int):Bool:=gi m (bL s a b - 1)
def g9 (s:aa) (m:List Bool) (a:Int) (t:Nat):List Int:=((List.range t).map Int.ofNat).filter (on s m a)
def r7 (a:Int) (s:aa) (m:List Bool) (_ok:Bool):Prop:=ao s=0∧(m.length:Int)=aw s∧0≤a∧a≤s.Ops
def fa (a:Int) (s:aa) (m:List Bool) (ok:Bool):Int × Bool:=((g9 s m a s.ab.toNat).getLastD 0,ok && ((g9 s m a s.ab.toNat).length == 1))
def r8 (n:Int) (s:aa) (m:List Bool) (_ok:Bool):Prop:=ao s=0∧(m.length:Int)=aw s∧n=s.Ops+1
def lh (s:aa) (m:List Bool) (a:Nat):Int:=(g9 s m a s.ab.toNat).getLastD 0
def oneOf (s:aa) (m:List Bool) (a:Nat):Bool:=(g9 s m a s.ab.toNat).length == 1
def bF (n:Int) (s:aa) (m:List Bool) (ok:Bool):List Int × Bool:=((List.range n.toNat).map (lh s m),ok && (List.range n.toNat).all (oneOf s m))
def aQ (s:aa) (m:List Bool):List Int × Bool :=
 if ao s=0∧(m.length:Int)=aw s∧(List.range (s.Ops+1).toNat).all (oneOf s m)=true then ((List.range (s.Ops+1).toNat).map (lh s m),true) else ([],false)
def fg (b:Int) (s:aa) (a:Int):Int:=bL s a b
def px (n:Int) (_s:aa) (_a:Int):Prop:=0≤n∧n≤1000
def rowAt (s:aa) (a:Int) (n:Nat):List Int:=(List.range n).map fun (b:Nat)=>bL s a (b:Int)
def bD (n:Int) (s:aa) (a:Int):List Int:=rowAt s a n.toNat
def blk (s:aa) (a:Nat):List (List Int):=rowAt s (a:Int) s.ab.toNat :: lg (rowAt s (a:Int) s.ab.toNat)
def cb (s:aa) (init:Int):List (List Int) :=
 if ao s=0∧0≤init∧init < s.ab then [bL s 0 init] :: (List.range (s.Ops+1).toNat).flatMap (blk s) else []
def dH (p:Int × Int) (n:Int):Bool:=decide (0≤p.1∧0≤p.2∧p.1 < n∧p.2 < n∧p.1≠p.2)
def ix (order:List Int) (p:Int × Int):Bool:=decide (0≤idx order p.1∧0≤idx order p.2∧idx order p.2 < idx order p.1)
def cS (x:Int) (order:List Int):Int:=idx order x
def di (order:List Int) (aJ:List (Int × Int)):Int × Bool:=match aJ.findIdx? (ix order) with | some i=>((i:Int),false) | none=>((aJ.length:Int),true)
def eA (a b:Int) (s:aa):Int:=dp s a b
def kQ (s:aa) (p:Int × Int) (a b:Nat):List Int:=[jW (dp s p.1 a),jW (dp s p.2 b)]
def mb (s:aa) (p:Int × Int) (n:Nat):List (List Int):=(List.range n).flatMap fun a=>(List.range a).map (kQ s p a)
def fT (s:aa) (p:Int × Int):List (List Int):=if dH p s.Ops=true then mb s p s.Ops.toNat else []
def r9 (_:aa) (aJ:List (Int × Int)):Prop:=aJ.length≤1000
def cH (s:aa) (aJ:List (Int × Int)):List (List Int):=if ao s=0 then aJ.flatMap (fT s) else []
def iv (l:List ae) (i t:Nat):List (Int × Int):=((List.range t).filter (fun (j:Nat)=>bG (gi l (i:Int)) (gi l (j:Int)))).map (fun (j:Nat)=>((i:Int),(j:Int)))
def bS (l:List ae):List (Int × Int):=(List.range l.length).flatMap (fun i=>iv l i l.length)
def gA (l:List ae):Prop:=l.length≤5000
def nZ (f:Int→Bool):List Int→Int→Int
 | [],_=>-1
 | l :: r,i=>if f l then i else nZ f r (i+1)
def idxOf (f:Int→Bool) (c:List Int):Int:=nZ f c 0
def varOf (l:Int):Int:=if l > 0∧l≤100000 then l else if l < 0∧l≥-100000 then -l else 0
def pH (l vars:Int):Int:=if vars < 0∨vars > 100000 then 2 else if l=0∨l < -vars∨l > vars then 10 else 0
def dW (l vars:Int):Bool:=l != 0 && decide (l≥-vars) && decide (l≤vars)
def oF (l:Int):Bool:=varOf l != 0
def iK (l vars:Int):Int:=pH l vars
def nG (l:Int):Int:=varOf l
def im (vars:Int):List Int→Int
 | []=>0
 | l :: r=>if pH l vars≠0 then pH l vars else im vars r
def eU (c:List Int) (vars:Int):Int :=
 if vars < 0∨vars > 100000 then 2 else if c.length > 1000 then 3 else if im vars c≠0 then im vars c else if c.Nodup then 0 else 21
def gH:List Int→List (Int × Int)→List (Int × Int)
 | [],m=>m
 | l :: r,m=>gH r (if varOf l > 0 then gb m l ((cd m l).getD 0+1) else m)
def fe (c:List Int):List (Int × Int):=gH c []
def fH (c:List Int) (vars:Int):Int:=eU c vars
def jk (c:List Int):Bool:=c.any fun l=>varOf l != 0 && c.contains (-l)
def dz (l:Int) (m:List (Int × Int)):Bool:=decide ((cd m l).getD 0 > 0) && decide ((cd m (-l)).getD 0 > 0)
def bI (c:List Int) (m:List (Int × Int)):Int:=idxOf (fun l=>dz l m) c
def bB (c:List Int) (m:List (Int × Int)):Bool:=c.any fun l=>dz l m
def iM (c:List Int):Bool:=jk c
def mD (vars:Int):List (List Int)→Int→Int × Int
 | [],i=>(i,0)
 | c :: r,i=>if eU c vars≠0 then (i,eU c vars) else if jk c then (i,11) else mD vars r (i+1)
def Jf (f:aL):Int × Int:=if f.bC < 0∨f.bC > 100000 then (0,2) else if f.ai.length > 1000000 then (0,3) else mD f.bC f.ai 0
def fj (f:aL):Int × Int:=Jf f
def xC (l vars:Int):Prop:=0≤vars∧vars≤100000
def pv (c:List Int):Prop:=c.length≤1000000
def Bl (l:Int) (m:List (Int × Int)):Prop:=-100000≤l∧l≤100000
def qZ (c:List Int) (m:List (Int × Int)):Prop:=∀ l∈c,-100000≤l∧l≤100000
def Bj (c:List Int):Prop:=c.length≤1000000∧∀ l∈c,-100000≤l∧l≤100000
def ji:Bool:=true
def fM (o:ah) (x:ae) (st:Int):Int × Bool :=
 if (aZ o st x.Kind).2.2=false∨(x.End≠-1∧x.Result≠(aZ o st x.Kind).2.1) then (0,false) else ((aZ o st x.Kind).1,true)
def dI (t:eF) (x:ae) (st:Int):Int × Bool:=fM t.o x st
def jq (o:ah) (x:ae) (st:Int):Int × Bool:=fM o x st
def jG (o:ah) (_:List ae):Prop:=sS o
def au (o:ah) (l:List ae):aa:=if (bq o).2=0∧(bp l).2=0 then ⟨(l.length:Int),o.ab⟩ else ⟨0,0⟩
def iJ (s:aa):aa:=s
def cI (kind a b:Int) (s:aa):Int:=bd s ⟨kind,a,b⟩
def gL (s:aa) (i:Int):Int:=bd s ⟨2,i,0⟩
def wg (s:aa) (i k b:Nat):List Int:=[jW (dp s i k),jW (gL s i),jW (bL s k b)]
def mf (o:ah) (l:List ae) (s:aa) (i k b:Nat):List Int :=
 if (fM o (gi l (i:Int)) b).2=true then wg s i k b++[bL s ((k:Int)+1) (fM o (gi l (i:Int)) b).1] else wg s i k b
def mg (o:ah) (l:List ae) (s:aa) (i k b:Nat):List (List Int) :=
 mf o l s i k b :: if (gi l (i:Int)).End=-1 then [[jW (dp s i k),gL s i,jW (bL s k b),bL s ((k:Int)+1) b]] else []
def mvK (o:ah) (l:List ae) (s:aa) (i k:Nat):List (List Int):=(List.range s.ab.toNat).flatMap (mg o l s i k)
def oD (o:ah) (l:List ae) (s:aa) (i:Nat):List (List Int) :=
 (if (gi l (i:Int)).End=-1 then [] else [[gL s i]])++(List.range s.Ops.toNat).flatMap (mvK o l s i)
def cJ (o:ah) (l:List ae):List (List Int) :=
 if ao (au o l)=0 then (List.range l.length).flatMap (oD o l (au o l)) else []
def q9 (o:ah) (l:List ae):Prop:=sS o∧l.length≤3
def jV (l:List ae) (order:List Int) (in_:List Bool):Prop :=
 order.length=l.length∧in_.length=l.length∧∀ i∈List.range l.length,((i:Nat):Int)∈order∧((gi l (i:Int)).End=-1∨gi in_ (i:Int)=true)
instance (l:List ae) (order:List Int) (in_:List Bool):Decidable (jV l order in_):=by unfold jV; infer_instance
def dZ (l:List ae) (order:List Int) (in_:List Bool):Bool:=decide (jV l order in_)
def iI (o:ah) (l:List ae) (in_:List Bool):List Int→Int→Option (List Int)
 | [],_=>some []
 | i :: r,st=>if gi in_ i=true then (if (fM o (gi l i) st).2=true then (iI o l in_ r (fM o (gi l i) st).1).map (fun q=>(fM o (gi l i) st).1 :: q) else none) else (iI o l in_ r st).map (fun q=>st :: q)
def Fb (init:Int):Option (List Int)→List Int × Bool
 | some r=>(init :: r,true)
 | none=>([],false)
def b6 (o:ah) (l:List ae) (order:List Int) (in_:List Bool):List Int × Bool :=
 if ao (au o l)=0∧jV l order in_ then Fb o.aU (iI o l in_ order o.aU) else ([],false)
def Bp (o:ah) (l:List ae) (_:List Int) (_:List Bool):Prop:=sS o∧l.length≤64
def gn (l:List ae):List Int:=((List.range l.length).filter (fun (i:Nat)=>(gi l (i:Int)).End == -1)).map Int.ofNat
def dJ (n:Int):Int:=IntKind.i64.wrap ((IntKind.i64.wrap (n * (IntKind.i64.wrap (n - 1)))).tdiv 2)
def cW (s:aa):Bool:=ao s == 0
def gw (s:aa):Int:=if cW s=false then 0 else IntKind.i64.wrap (s.Ops+(IntKind.i64.wrap ((IntKind.i64.wrap (2 * s.Ops)) * dJ s.Ops)))
def gU (s:aa) (n:Int):Int:=if (((!cW s) || (decide (n < 0))) || (decide (n > 2016)))=true then 0 else IntKind.i64.wrap (n * dJ s.Ops)
def gv (s:aa):Int:=if cW s=false then 0 else IntKind.i64.wrap (1+(IntKind.i64.wrap ((IntKind.i64.wrap (s.Ops+1)) * (IntKind.i64.wrap (1+dJ s.ab)))))
def gW (s:aa) (ended:Int):Int:=if (((!cW s) || (decide (ended < 0))) || (decide (ended > s.Ops)))=true then 0 else
 IntKind.i64.wrap ((IntKind.i64.wrap (ended * (IntKind.i64.wrap (1+(IntKind.i64.wrap (s.Ops * s.ab))))))+(IntKind.i64.wrap ((IntKind.i64.wrap ((IntKind.i64.wrap (s.Ops - ended)) * 2)) * (IntKind.i64.wrap (s.Ops * s.ab)))))
def gX (n cap:Int):Int:=IntKind.i64.wrap (cap+n)
def yv (s:aa) (l:List ae):List Int:=[gw s,gU s ((bS l).length:Nat),gv s,gW s (IntKind.i64.wrap (s.Ops - ((gn l).length:Nat)))]
def fX (s:aa) (l:List ae):Int:=if (bp l).2≠0∨cW s=false∨(l.length:Int)≠s.Ops then 0 else (yv s l).foldl (fun a n=>gX n a) 0
def fu (s:aa) (l:List ae):Int:=if fX s l=0 then 2 else if fX s l > 500000∨aw s > 900 then 3 else 0
def bo (o:ah) (l:List ae):aa × Int :=
 if (bq o).2≠0∨(bp l).2≠0 then (⟨0,0⟩,2) else if (l.length:Int) > 64 then (⟨0,0⟩,3) else (au o l,fu (au o l) l)
def dw (l:List Int):List Int:=l
def fP (parts:List (List (List Int))):List (List Int):=parts.flatten
def Bs (l:List Int):Prop:=l.length≤1000000
def Br (parts:List (List (List Int))):Prop:=parts.length≤1000∧parts.flatten.length≤10000000∧∀ p∈parts,∀ c∈p,c.length≤1000000
def qc (o:ah) (l:List ae) (s:aa):List (List Int):=[cc s,cH s (bS l),cb s o.aU,cJ o l].flatten
def bg (o:ah) (l:List ae):aL × Int :=
 if (bo o l).2≠0 then (⟨0,[]⟩,(bo o l).2) else (⟨aw (bo o l).1,qc o l (bo o l).1⟩,0)
def kC (s:aa) (m:List Bool) (n:Nat):List Bool:=(List.range n).map fun (i:Nat)=>gi m (gL s (i:Int) - 1)
def uz (o:ah) (l:List ae) (m:List Bool) (s:aa):Prop :=
 (aq s m).2=true∧(aQ s m).2=true∧(b6 o l (aq s m).1 (kC s m l.length)).2=true∧(di (aq s m).1 (bS l)).2=true∧(aQ s m).1=(b6 o l (aq s m).1 (kC s m l.length)).1
instance (o:ah) (l:List ae) (m:List Bool) (s:aa):Decidable (uz o l m s):=by unfold uz; infer_instance
def dy (o:ah) (l:List ae) (m:List Bool):Bool:=decide ((bo o l).2=0∧uz o l m (bo o l).1)
def q8 (o:ah) (l:List ae) (_:List Bool):Prop:=sS o∧l.length≤3
def eL (o:ah) (l:List ae):Int:=(bo o l).2
def kg (s:aa) (i:Int):Int:=gL s i
def eZ (k i:Int) (o:ah) (row:List Int) (l:List ae) (out:List ak):List ak:=out++[⟨i,(aZ o (gi row k) (gi l i).Kind).2.1⟩]
def Bq (k i:Int) (_:ah) (row:List Int) (l:List ae) (out:List ak):Prop:=0≤k∧k < row.length∧0≤i∧i < l.length∧out.length≤1000
def oh (o:ah) (l:List ae) (s:aa) (m:List Bool) (row order:List Int) (k:Nat):List ak :=
 if gi m (gL s (gi order (k:Int)) - 1)=true then [⟨gi order (k:Int),(aZ o (gi row (k:Int)) (gi l (gi order (k:Int))).Kind).2.1⟩] else []
def QS (o:ah) (l:List ae) (s:aa) (m:List Bool) (row order:List Int):List ak:=(List.range order.length).flatMap (oh o l s m row order)
def bX (o:ah) (l:List ae) (m:List Bool):List ak × Int :=
 if eL o l≠0 then ([],eL o l) else if dy o l m=false then ([],5)
 else (QS o l (au o l) m (aQ (au o l) m).1 (aq (au o l) m).1,0)
def bA (f:aL):Int:=if (fj f).2≠0 then (fj f).2 else if f.bC > 16 then 3 else 0
def Co (n:Int):Int:=IntKind.u32.wrap (1 * 2 ^ (min n.toNat IntKind.u32.bits))
def Ic (a b:Int):Int:=IntKind.u32.wrap ((BitVec.ofInt IntKind.u32.bits a ||| BitVec.ofInt IntKind.u32.bits b).toNat:Int)
def vo (a b:Int):Int:=IntKind.u32.wrap ((BitVec.ofInt IntKind.u32.bits a &&& BitVec.ofInt IntKind.u32.bits b).toNat:Int)
def Fu (a:Int):Int:=IntKind.u32.wrap ((BitVec.ofInt IntKind.u32.bits IntKind.u32.max ^^^ BitVec.ofInt IntKind.u32.bits a).toNat:Int)
def jy (p:aE) (l:Int):aE:=if l > 0 then ⟨Ic p.yes (Co (l - 1)),p.no⟩ else ⟨p.yes,Ic p.no (Co (-l - 1))⟩
def fo (c:List Int):aE:=c.foldl jy ⟨0,0⟩
def b7 (f:aL):List aE:=f.ai.map fo
def E8 (f:aL):Prop:=bA f=0
def bV (p:aE) (m:Int):Bool:=(vo m p.yes == 0) && (vo (Fu m) p.no == 0)
def aM (l:List aE) (m:Int):Int:=match l.findIdx? (fun p=>bV p m) with | some i=>(i:Int) | none=>-1
def aK (l:List aE) (m:Int):Bool:=l.any fun p=>bV p m
def qa (m:Int) (v:Nat):Bool:=vo (m.fdiv (2 ^ (min v IntKind.u32.bits))) 1 == 1
def bz (m vars:Int):List Bool:=(List.range vars.toNat).map (qa m)
def E6 (_ vars:Int):Prop:=0≤vars∧vars≤100000
def dt (f:aL):List Nat:=(List.range (2 ^ f.bC.toNat)).filter fun m=>!aK (b7 f) (m:Int)
def ff (f:aL):Int × Int:=if bA f=0 then (((dt f).length:Nat),0) else (0,bA f)
def fk (f:aL) (n:Int):List Bool × Bool:=if bA f=0∧0≤n∧n < (dt f).length then (bz ((gi (dt f) n:Nat):Int) f.bC,true) else ([],false)
end Go.Proofs.YtobeanopikjkeaaGreat
