/- Lemmas. Conditions: their own. -/
import Derived.Lib.Strings
import Derived.Lib.Bytealg
import Derived.Lib.ItoaNum
import Derived.Lib.ItoaMem
import Derived.Lib.ItoaLen
import Derived.Test.YtmgahplojkmcaaaGreatTbA
set_option linter.all false
namespace Go.Proofs.Y
open Go Go.Sv Go.Pu
section
def iX(o:ae):Prop:=o.az<1∨o.az>32∨o.cV<1∨o.cV>64∨o.eZ<0∨o.eZ≥o.az
instance (o:ae):Decidable (iX o):=by unfold iX;infer_instance
def lq(o:ae)(i:Int):Prop:=i>0/\((gi o.Rows (i-1)).State>(gi o.Rows i).State∨((gi o.Rows (i-1)).State=(gi o.Rows i).State/\(gi o.Rows (i-1)).Kind≥(gi o.Rows i).Kind))
instance (o:ae) (i:Int):Decidable (lq o i):=by unfold lq;infer_instance
def iK(o:ae)(i:Int):Int :=
 if(gi o.Rows i).State<0∨(gi o.Rows i).State≥o.az∨(gi o.Rows i).Next<0∨(gi o.Rows i).Next≥o.az then 30
 else if(gi o.Rows i).Kind<0∨(gi o.Rows i).Kind≥o.cV then 31
 else if(gi o.Rows i).Result<0∨(gi o.Rows i).Result>1000000 then 7
 else if lq o i then 32 else 0
def gC(o:ae):Nat->Nat->Int×Int
 |0,i=>((i:Int),0)
 |k+1,i=>if iK o i≠0 then((i:Int),iK o i)else gC o k (i+1)
def cr(o:ae):Int×Int:=if iX o then(-1,2)else gC o o.Rows.length 0
def aJ(o:ae):Int×Int:=cr o
def p8(o:ae)(i:Int):Int:=iK o i
def KR(o:ae)(i:Int):Prop:=0<=i/\i<o.Rows.length
def bN(o:ae)(state kind:Int):Int×Int×Bool:=match o.Rows.find? (λr=>r.State==state&&r.Kind==kind)with|some r=>(r.Next,r.Result,true)|none=>(0,0,false)
def oy(o:ae)(state kind:Int):Int×Int×Bool:=bN o state kind
def nU(r:cJ)(state kind:Int):Bool:=r.State==state&&r.Kind==kind
def bn(l:List cJ)(state kind:Int):Int:=match l.findIdx? (λr=>r.State==state&&r.Kind==kind)with|some i=>(i:Int)|none=>-1
def fm(o:ae)(state kind result:Int):Int×Int :=
 if state<0∨state≥o.az then(0,30)else if(bN o state kind).2.2=false∨(bN o state kind).2.1≠result then(0,40)else((bN o state kind).1,0)
def cmp_isNaN_int(_:Int):Bool:=false
def fw(x y:Int):Int:=if x<y then -1 else if x>y then 1 else 0
def lX(l:List Int):Int:=(l.find? (λx=>x !=0)).getD 0
def mA(a b:cJ):Int:=lX [fw a.State b.State,fw a.Kind b.Kind]
def dk(n top:Int):Bool:=decide (n≥0)&&decide (n<top)
def jt(o:ae)(state:Int):Int:=if(cr o).2≠0 then 2 else if state<0∨state≥o.az then 30 else 0
def mh(o:ae)(l:List aj)(s:Int)(p:aC):Int :=
 if(fm o s (gi l p.Oper).Kind p.Result).2=0/\(gi l p.Oper).End≠-1/\(gi l p.Oper).Result≠p.Result then 40 else(fm o s (gi l p.Oper).Kind p.Result).2
def yg(o:ae)(l:List aj)(s:Int)(p:aC):Int×Int :=
 if mh o l s p≠0 then(0,mh o l s p)else((fm o s (gi l p.Oper).Kind p.Result).1,0)
def cI(o:ae)(l:List aj)(prev:List Int)(s:Int)(p:aC):Int×Int :=
 if p.Oper<0∨p.Oper≥l.length then(0,2)else if p.Oper∈prev then(0,21)else yg o l s p
def fY(o:ae)(l:List aj):List Int->Int->List aC->Int×Int×Int
 |_,s,[]=>(s,0,0)
 |prev,s,p::ps=>if(cI o l prev s p).2≠0 then(0,0,(cI o l prev s p).2)
  else((fY o l (p.Oper::prev) (cI o l prev s p).1 ps).1,(fY o l (p.Oper::prev) (cI o l prev s p).1 ps).2.1+1,(fY o l (p.Oper::prev) (cI o l prev s p).1 ps).2.2)
def dC(o:ae)(l:List aj)(state:Int)(dR:List aC):Int×Int×Int :=
 if jt o state≠0 then(0,-1,jt o state)else fY o l [] state dR
def ja(o:ae)(l:List aj)(dR:List aC):Int×Int×Int:=dC o l o.eZ dR
def Ea(o:ae):Prop:=zl .i64 o.az/\zl .i64 o.cV
def gN(o:aj):Bool:=if o.End=-1 then o.Result == -1 else decide (o.End>o.cn)&&decide (o.End<=9999)&&decide (o.Result≥0)&&decide (o.Result<=1000000)
def e9(o:aj):Int:=if o.cE<1∨o.cE>1000∨o.cn<0∨o.cn>9999 then 2 else if o.Kind<0∨o.Kind≥64 then 31 else if gN o=false then 7 else 0
def cY(a b:aj):Bool:=decide (a.End≥0)&&decide (a.End<b.cn)
def Kt(u:List (Int×Int))(k:Int):Int:=(bB u k).getD 0
def use(u:List (Int×Int))(k:Int):List (Int×Int):=iU u k (IntKind.i64.wrap (Kt u k+1))
def AF(l:List aj)(u:List (Int×Int))(i:Nat):Prop:=(0<i/\(gi l (i:Int)).cn<=(gi l ((i:Int)-1)).cn)∨Kt u (gi l (i:Int)).cn>0∨((gi l (i:Int)).End≥0/\Kt u (gi l (i:Int)).End>0)
instance (l:List aj) (u:List (Int×Int)) (i:Nat):Decidable (AF l u i):=by unfold AF;infer_instance
def EJ(l:List aj)(la:List (Int×aj))(i:Nat):Bool:=(bB la (gi l (i:Int)).cE).isSome&&!cY ((bB la (gi l (i:Int)).cE).getD ⟨0,0,0,0,0⟩) (gi l (i:Int))
def ye(l:List aj)(u:List (Int×Int))(i:Nat):List (Int×Int):=if(gi l (i:Int)).End≥0 then use (use u (gi l (i:Int)).cn) (gi l (i:Int)).End else use u (gi l (i:Int)).cn
def eY(l:List aj):Nat->List (Int×Int)->List (Int×aj)->Nat->Int×Int
 |0,_,_,_=>((l.length:Int),0)
 |f+1,u,la,i =>
  if e9 (gi l (i:Int))≠0 then((i:Int),e9 (gi l (i:Int)))
  else if AF l u i then((i:Int),32)
  else if EJ l la i=true then((i:Int),33)
  else eY l f (ye l u i) (iU la (gi l (i:Int)).cE (gi l (i:Int))) (i+1)
def cU(l:List aj):Int×Int:=if l.length>5000 then(0,3)else eY l l.length [] [] 0
def opers(dR:List aC):List Int:=dR.map (·.Oper)
def Nl(l:List aj)(dR:List aC)(pending:Bool)(i:Int):Bool:=(((gi l i).End == -1)==pending)&&!decide (i∈opers dR)
def Mj(l:List aj)(dR:List aC)(pending:Bool)(n:Nat):List Int:=((List.range n).filter (λi:Nat=>Nl l dR pending (i:Int))).map (λi:Nat=>(i:Int))
def wS(l:List aj)(dR:List aC)(pending:Bool):List Int:=Mj l dR pending l.length
def ie(l:List aj)(dR:List aC):List Int:=wS l dR false
def my(l:List aj)(dR:List aC)(x:Nat):Bool :=
 decide (0<=(gi dR (x:Int)).Oper/\(gi dR (x:Int)).Oper<l.length)&&(List.range l.length).any (λk:Nat=>cY (gi l (k:Int)) (gi l (gi dR (x:Int)).Oper)&&!decide ((k:Int)∈opers (dR.take x)))
def Gs(l:List aj)(dR:List aC)(n:Nat):Int:=match(List.range n).find? (my l dR)with|some x=>(x:Int)|none=>-1
def iH(l:List aj)(dR:List aC):Int:=Gs l dR dR.length
def wT(o:ae)(l:List aj)(dR:List aC):Int×Int :=
 if(aJ o).2≠0∨(cU l).2≠0 then(-1,2)
 else if(ja o l dR).2.2≠0 then((ja o l dR).2.1,(ja o l dR).2.2)
 else if iH l dR≥0 then(iH l dR,42)
 else if(ie l dR).length>0 then(gi (ie l dR) 0,41)
 else((dR.length:Int),0)
def mX(o:ae)(l:List aj)(dR:List aC):Bool:=(wT o l dR).2==0
def br(dR:List aC)(i:Int):Int:=match dR.findIdx? (λp=>p.Oper==i)with|some k=>(k:Int)|none=>-1
def ou(a b:aj):Bool:=cY a b
def qR(l:List aj)(dR:List aC)(i k:Nat):Bool:=!(cY (gi l (i:Int)) (gi l (k:Int))&&decide (br dR k≥0)&&(decide (br dR i<0)||decide (br dR i>br dR k)))
def yO(l:List aj)(dR:List aC)(i:Nat):Bool:=!(((gi l (i:Int)).End != -1)&&decide (br dR i<0))&&(List.range l.length).all (qR l dR i)
def fF(o:ae)(l:List aj)(dR:List aC):Bool:=decide ((dC o l o.eZ dR).2.2=0)&&(List.range l.length).all (yO l dR)
def iM(o:ae)(l:List aj)(s:Int)(i:Int):aC:=⟨i,if 0<=i/\i<l.length then(bN o s (gi l i).Kind).2.1 else 0⟩
def iB(o:ae)(l:List aj):List Int->Int->List Int->List aC×Int
 |_,_,[]=>([],0)
 |prev,s,i::is =>
  if(cI o l prev s (iM o l s i)).2≠0 then([],(cI o l prev s (iM o l s i)).2)
  else if(iB o l (i::prev) (cI o l prev s (iM o l s i)).1 is).2≠0 then([],(iB o l (i::prev) (cI o l prev s (iM o l s i)).1 is).2)
  else(iM o l s i::(iB o l (i::prev) (cI o l prev s (iM o l s i)).1 is).1,0)
def rQ(o:ae)(l:List aj)(order:List Int):List aC×Int:=if jt o o.eZ≠0 then([],jt o o.eZ)else iB o l [] o.eZ order
def eK(o:ae)(l:List aj)(order:List Int):List aC×Int:=rQ o l order
def SF{α:Type}(_:ae)(_:List aj)(x:List α):Prop:=x.length<=1000000
def grow(n:Int)(last:List (List Int)):List (List Int):=last.flatMap λx=>((List.range n.toNat).filter λk:Nat=>!decide ((k:Int)∈x)).map λk:Nat=>x++[(k:Int)]
def mw(n:Int):Nat->List (List Int)->List (List Int)
 |0,_=>[]
 |f+1,last=>if last=[]then []else grow n last++mw n f (grow n last)
def eT(n:Int):List (List Int):=[[]]++mw n (n.toNat+1) [[]]
def w6(o:ae)(l:List aj)(x:List Int):Option (List aC):=if(eK o l x).2=0/\fF o l (eK o l x).1=true then some (eK o l x).1 else none
def na(o:ae)(l:List aj):List (List aC):=(eT l.length).filterMap (w6 o l)
def SG(n:Int):Prop:=0<=n/\n<=5
def SL(o:ae)(l:List aj):Prop:=l.length<=5
def du(ops xk:Int):Int:=if ops<0∨ops>64∨xk<1∨xk>32 then 2 else 0
def au(s:ab):Int:=du s.bI s.az
def dY(s:ab)(kind:Int):Int×Int×Int :=
 if kind=1 then(0,s.bI,s.bI)else if kind=2 then(IntKind.i64.wrap (s.bI*s.bI),1,s.bI)
 else(IntKind.i64.wrap (IntKind.i64.wrap (s.bI*s.bI)+s.bI),s.az,IntKind.i64.wrap (s.bI+1))
def aM(s:ab):Int :=
 if au s=0 then s.bI*s.bI+s.bI+s.az*(s.bI+1)else 0
def wide(s:ab)(k:Int):Int:=if k=1 then s.bI else if k=2 then 1 else s.az
def D4(s:ab)(k:Int):Int:=if k=1 then s.bI else if k=2 then s.bI else s.bI+1
def base(s:ab)(k:Int):Int:=if k=1 then 0 else if k=2 then s.bI*s.bI else s.bI*s.bI+s.bI
def cw(s:ab)(n:cH):Int :=
 if au s=0/\1<=n.Kind/\n.Kind<=3/\0<=n.A/\n.A<D4 s n.Kind/\0<=n.B/\n.B<wide s n.Kind then base s n.Kind+n.A*wide s n.Kind+n.B+1 else 0
def lU(x:Int):Int:=IntKind.i64.wrap (0-x)
def sf:List Int->List (List Int)
 |[]=>[]
 |x::r=>r.map (λy=>[lU x,lU y])++sf r
def oY(l:List Int):Prop:=l.length<=1000000
def iw(l:List Int):List (List Int):=sf l
def fR(l:Int):Int×Bool:=if 0<l/\l<=100000 then(l,true)else if l<0/\-100000<=l then(0-l,false)else(0,false)
def yN(m:List Bool)(l:Int):Bool:=(fR l).1 !=0&&((if(fR l).1<=m.length then gi m ((fR l).1-1)else false)==(fR l).2)
def cX(c:List Int)(m:List Bool):Bool:=c.any (yN m)
def qI(f:bJ)(m:List Bool):Int:=match f.bL.findIdx? (λc=>!cX c m)with|some i=>(i:Int)|none=>-1
def eG(s:ab)(a k:Int):Int:=cw s ⟨1,a,k⟩
def idx(l:List Int)(v:Int):Int:=match l.findIdx? (λx=>x==v)with|some i=>(i:Int)|none=>-1
def iu(l:List Int)(v:Int):Int:=idx l v
def cb(l:List Int)(v:Int):Bool:=decide (v∈l)
def wG(s:ab)(m:List Bool)(a k:Int):Bool:=gi m (eG s a k-1)
def sS(t:Nat)(p:Int->Bool):List Int:=((List.range t).map Int.ofNat).filter p
def lu(s:ab)(m:List Bool):Prop:=au s=0/\(m.length:Int)=aM s/\(∀a∈List.range s.bI.toNat,(sS s.bI.toNat (wG s m (a:Nat))).length=1)/\∀k∈List.range s.bI.toNat,(sS s.bI.toNat (λa=>wG s m a (k:Nat))).length=1
instance (s:ab) (m:List Bool):Decidable (lu s m):=by unfold lu;infer_instance
def VK(s:ab)(m:List Bool)(t:Nat)(k:Nat):Int:=(sS t (λa=>wG s m a k)).getLastD (-1)
def bz(s:ab)(m:List Bool):List Int×Bool:=if lu s m then((List.range s.bI.toNat).map (VK s m s.bI.toNat),true)else([],false)
def kH(k a:Int):cH:=⟨1,a,k⟩
def kG(a k:Int):cH:=⟨1,a,k⟩
def wF(s:ab)(a:Int)(t:Nat):List Int:=(List.range t).map λ(k:Nat)=>eG s a (k:Int)
def xx(s:ab)(k:Int)(t:Nat):List Int:=(List.range t).map λ(a:Nat)=>eG s (a:Int) k
def vW(s:ab)(_:Int):Prop:=0<=s.bI/\s.bI<=64
def dQ(s:ab)(a:Int):List Int:=wF s a s.bI.toNat
def dP(s:ab)(k:Int):List Int:=xx s k s.bI.toNat
def Hk(s:ab)(a:Nat):List (List Int):=wF s a s.bI.toNat::sf (wF s a s.bI.toNat)
def Qn(s:ab)(k:Nat):List (List Int):=sf (xx s k s.bI.toNat)
def di(s:ab):List (List Int):=if au s=0 then(List.range s.bI.toNat).flatMap (Hk s)++(List.range s.bI.toNat).flatMap (Qn s)else []
def xu(x y:Int):Prop:=0<=x/\x<=1/\0<=y/\y<=1000
def lK(x y:Int):Int×Int:=(0,x*y)
def gH(x y:Int):Int×Int:=(0,x*y)
def KS(l:List Int)(n:Int):Prop:=l.length=1/\0<=n/\n<=1000
def fA(l:List Int)(n:Int):List Int:=List.replicate n.toNat (gi l 0)
def cA(s:ab)(a b:Int):Int:=cw s ⟨3,a,b⟩
def on(s:ab)(m:List Bool)(a b:Int):Bool:=gi m (cA s a b-1)
def uG(s:ab)(m:List Bool)(a:Int)(t:Nat):List Int:=((List.range t).map Int.ofNat).filter (on s m a)
def zS(s:ab)(m:List Bool)(a:Nat):Int:=(uG s m a s.az.toNat).getLastD 0
def oneOf(s:ab)(m:List Bool)(a:Nat):Bool:=(uG s m a s.az.toNat).length==1
def iI(s:ab)(m:List Bool):List Int×Bool :=
 if au s=0/\(m.length:Int)=aM s/\(List.range (s.bI+1).toNat).all (oneOf s m)=true then((List.range (s.bI+1).toNat).map (zS s m),true)else([],false)
def kD(b:Int)(s:ab)(a:Int):Int:=cA s a b
def Cj(n:Int)(_s:ab)(_a:Int):Prop:=0<=n/\n<=1000
def rowAt(s:ab)(a:Int)(n:Nat):List Int:=(List.range n).map λ(b:Nat)=>cA s a (b:Int)
def cW(n:Int)(s:ab)(a:Int):List Int:=rowAt s a n.toNat
def wQ(s:ab)(a:Nat):List (List Int):=rowAt s (a:Int) s.az.toNat::sf (rowAt s (a:Int) s.az.toNat)
def dh(s:ab)(init:Int):List (List Int) :=
 if au s=0/\0<=init/\init<s.az then [cA s 0 init]::(List.range (s.bI+1).toNat).flatMap (wQ s)else []
def gB(p:Int×Int)(n:Int):Bool:=decide (0<=p.1/\0<=p.2/\p.1<n/\p.2<n/\p.1≠p.2)
def wB(order:List Int)(p:Int×Int):Bool:=decide (0<=idx order p.1/\0<=idx order p.2/\idx order p.2<idx order p.1)
def jD(a b:Int)(s:ab):Int:=eG s a b
def qM(s:ab)(p:Int×Int)(a b:Nat):List Int:=[lU (eG s p.1 a),lU (eG s p.2 b)]
def tx(s:ab)(p:Int×Int)(n:Nat):List (List Int):=(List.range n).flatMap λa=>(List.range a).map (qM s p a)
def iW(s:ab)(p:Int×Int):List (List Int):=if gB p s.bI=true then tx s p s.bI.toNat else []
def Gp(_:ab)(jW:List (Int×Int)):Prop:=jW.length<=1000
def ew(s:ab)(jW:List (Int×Int)):List (List Int):=if au s=0 then jW.flatMap (iW s)else []
def mu(l:List aj)(i t:Nat):List (Int×Int):=((List.range t).filter (λ(j:Nat)=>cY (gi l (i:Int)) (gi l (j:Int)))).map (λ(j:Nat)=>((i:Int),(j:Int)))
def dL(l:List aj):List (Int×Int):=(List.range l.length).flatMap (λi=>mu l i l.length)
def gh(l:List aj):Prop:=l.length<=5000
def mE(o:ae)(x:aj)(st:Int):Int×Bool :=
 if(bN o st x.Kind).2.2=false∨(x.End≠-1/\x.Result≠(bN o st x.Kind).2.1)then(0,false)else((bN o st x.Kind).1,true)
def lJ(t:kA)(x:aj)(st:Int):Int×Bool:=mE t.o x st
def Ci(o:ae)(_:List aj):Prop:=Ea o
def bu(o:ae)(l:List aj):ab:=if(aJ o).2=0/\(cU l).2=0 then⟨(l.length:Int),o.az⟩else⟨0,0⟩
def fN(kind a b:Int)(s:ab):Int:=cw s ⟨kind,a,b⟩
def oS(s:ab)(i:Int):Int:=cw s ⟨2,i,0⟩
def GF(s:ab)(i k b:Nat):List Int:=[lU (eG s i k),lU (oS s i),lU (cA s k b)]
def tC(o:ae)(l:List aj)(s:ab)(i k b:Nat):List Int :=
 if(mE o (gi l (i:Int)) b).2=true then GF s i k b++[cA s ((k:Int)+1) (mE o (gi l (i:Int)) b).1]else GF s i k b
def ux(o:ae)(l:List aj)(s:ab)(i k b:Nat):List (List Int) :=
 tC o l s i k b::if(gi l (i:Int)).End=-1 then [[lU (eG s i k),oS s i,lU (cA s k b),cA s ((k:Int)+1) b]]else []
def Tx(o:ae)(l:List aj)(s:ab)(i k:Nat):List (List Int):=(List.range s.az.toNat).flatMap (ux o l s i k)
def yH(o:ae)(l:List aj)(s:ab)(i:Nat):List (List Int) :=
 (if(gi l (i:Int)).End=-1 then []else [[oS s i]])++(List.range s.bI.toNat).flatMap (Tx o l s i)
def eA(o:ae)(l:List aj):List (List Int) :=
 if au (bu o l)=0 then(List.range l.length).flatMap (yH o l (bu o l))else []
def bE(l:List Int):List Int:=l
def nW(parts:List (List (List Int))):List (List Int):=parts.flatten
def AD(l:List Int):Prop:=l.length<=1000000
def SI(parts:List (List (List Int))):Prop:=parts.length<=1000/\parts.flatten.length<=10000000/\∀p∈parts,∀c∈p,c.length<=1000000
def FG(o:ae)(l:List aj)(s:ab):List (List Int):=[di s,ew s (dL l),dh s o.eZ,eA o l].flatten
abbrev Bs:=List UInt8
def kE(b:Int):Bool:=b==32||(b==9||b==13)
def vv(b:UInt8):Bool:=kE (b.toNat:Int)
def inB(b:UInt8):Bool:=!vv b&&b.toNat !=10
def wU:Bs->Int->Bs->List (Int×Bs)
 |[],i,cur=>if cur.isEmpty then []else [(i-cur.length,cur)]
 |b::r,i,cur=>if vv b then(if cur.isEmpty then wU r (i+1) []else(i-cur.length,cur)::wU r (i+1) [])else wU r (i+1) (cur++[b])
def tm(l:Bs):Bool:=l==[99]||Lib.hasPrefix l [99,32]
def rowOf(l:Bs)(k a:Int):List ai:=if tm l then []else(wU l a []).map λp=>⟨k,p.1,p.2⟩
def eW:Nat->Bs->Int->Int->List (List ai)
 |0,_,_,_=>[]
 |f+1,l,k,a=>if l.isEmpty then []else
    rowOf (l.takeWhile (λb=>b !=10)) k a::eW f (l.drop ((l.takeWhile (λb=>b !=10)).length+1)) (k+1) (a+(l.takeWhile (λb=>b !=10)).length+1)
def oR(t:ai):ai:=⟨t.QA,t.At,t.Text⟩
def jq(s:Bs)(k a:Int):List ai:=rowOf s k a
def cK(s:Bs):List (List ai):=eW s.length s 1 0
def iv(s:Bs):List (List ai):=(cK s).map λl=>l.map oR
def tH:List Bs->Bs
 |[]=>[]
 |t::r=>t++r.flatMap λt=>32::t
def lL(l:List (List Bs)):Bs:=l.flatMap λr=>tH r++[10]
def pL(l:List (List ai)):Bs:=lL (l.map λr=>r.map ai.Text)
def tu(l:List (List ai)):Bs:=lL (l.map λr=>r.map ai.Text)
def vB(b:UInt8):Bool:=48<=b.toNat&&b.toNat<=57
def eE(s:Bs):Bool:=Lib.hasPrefix s [45]
def aX(s:Bs):Bs:=Lib.trimPrefix s [45]
def lr(s:Bs):Bool:=!(aX s).isEmpty&&!((aX s).head? == some 48&&(decide (1<(aX s).length)||eE s))&&(aX s).all vB
def fh(l:Bs):Nat:=l.foldl (λn b=>10*n+(b.toNat-48)) 0
def oI(s:Bs):Int:=if eE s then -(fh (aX s):Int)else fh (aX s)
def gG(s:Bs):Bs×Bool×Bool:=if lr s then(aX s,eE s,true)else([],false,false)
def numOf(s:Bs)(lo hi:Int):Int×Int:=if lr s then(if lo<=oI s/\oI s<=hi then(oI s,0)else(0,7))else(0,5)
def mg(s:Bs)(lo hi:Int):Int×Int:=numOf s lo hi
def mq(s:Bs)(lo hi:Int):Int×Int:=numOf s lo hi
def kF(n:Int):Bs:=Lib.itoa n
def fX(s p:Bs):Bool:=Lib.hasPrefix s p
def cB(s p:Bs):Bool:=Lib.hasPrefix s p
def cC(s p:Bs):Bs×Bool:=if Lib.hasPrefix s p then(s.drop p.length,true)else(s,false)
def ir(s p:Bs):Bs×Bool:=cC s p
def strings_IndexByte(s:Bs)(c:Int):Int:=Lib.indexByte s (UInt8.ofNat c.toNat)
def bG(s p:Bs):Int:=Lib.indexByte s (p.headD 0)
def dJ(s p:Bs):Bs×Bs×Bool :=
 if 0<=bG s p then(s.take (bG s p).toNat,s.drop ((bG s p).toNat+p.length),true)else(s,[],false)
def og(s p:Bs):Bs×Bs×Bool:=dJ s p
abbrev PL:=List (Int×Bs)
def dK(l:List ai):PL:=l.map λt=>(t.At,t.Text)
def eL(l:List ai):PL:=l.map λt=>(t.At,t.Text)
def ib(end_:Int):PL->List (Int×Int)->Int->List Int->List Int×Int×Int
 |[],[],_,acc=>(acc,end_,0)
 |p::_,[],_,_=>([],p.1,6)
 |[],_::_,q,_=>([],q,4)
 |p::r,b::bs,_,acc=>if(numOf p.2 b.1 b.2).2≠0 then([],p.1,(numOf p.2 b.1 b.2).2)else ib end_ r bs (p.1+p.2.length) (acc++[(numOf p.2 b.1 b.2).1])
def gE(l:PL)(word:Bs)(lo hi:List Int)(end_:Int):List Int×Int×Int :=
 match l with
 |[]=>([],end_,4)
 |p::r=>if p.2≠word then([],p.1,8)else ib end_ r (lo.zip hi) (p.1+p.2.length) []
def eU(l:List ai)(word:Bs)(lo hi:List Int)(end_:Int):List Int×Int×Int:=gE (dK l) word lo hi end_
def jM(l:List ai)(word:Bs)(lo hi:List Int)(end_:Int):List Int×Int×Int:=gE (eL l) word lo hi end_
def VP:List Int:=[0,0,0,0]
def V3:List Int:=[1000000,1000000,1000000,1000000]
def gX:Bs:=[111,98,106,101,99,116]
def uu:Bs:=[114,111,119]
def aeB(l:List PL):List PL:=l.filter λr=>!r.isEmpty
def db(L:List PL)(i:Int)(w:Bs)(end_:Int):List Int×Int×Int:=if i≥L.length then([],end_,4)else gE (gi L i) w VP V3 end_
def R8(x:List Int):cJ:=⟨gi x 0,gi x 1,gi x 2,gi x 3⟩
def gg(L:List PL)(end_:Int):Nat->Int->List cJ->List cJ×Int×Int
 |0,_,acc=>(acc,end_,0)
 |n+1,i,acc=>if(db L i uu end_).2.2≠0 then([],(db L i uu end_).2.1,(db L i uu end_).2.2)else gg L end_ n (i+1) (acc++[R8 (db L i uu end_).1])
def uZ:ae:=⟨0,0,0,[]⟩
def wK(n:List Int)(rows:List cJ):ae:=⟨gi n 0,gi n 1,gi n 2,rows⟩
def bA(L:List PL)(end_:Int):ae×Int×Int×Int :=
 if(db L 0 gX end_).2.2≠0 then(uZ,0,(db L 0 gX end_).2.1,(db L 0 gX end_).2.2)
 else if(gg L end_ (gi (db L 0 gX end_).1 3).toNat 1 []).2.2≠0 then(uZ,0,(gg L end_ (gi (db L 0 gX end_).1 3).toNat 1 []).2.1,(gg L end_ (gi (db L 0 gX end_).1 3).toNat 1 []).2.2)
 else if(aJ (wK (db L 0 gX end_).1 (gg L end_ (gi (db L 0 gX end_).1 3).toNat 1 []).1)).2≠0 then
  (uZ,0,(gi (gi L ((aJ (wK (db L 0 gX end_).1 (gg L end_ (gi (db L 0 gX end_).1 3).toNat 1 []).1)).1+1)) 0).1,(aJ (wK (db L 0 gX end_).1 (gg L end_ (gi (db L 0 gX end_).1 3).toNat 1 []).1)).2)
 else(wK (db L 0 gX end_).1 (gg L end_ (gi (db L 0 gX end_).1 3).toNat 1 []).1,gi (db L 0 gX end_).1 3+1,end_,0)
def fb:List (List ai)->List ai×List (List ai)
 |[]=>([],[])
 |r::rest=>if r.isEmpty then fb rest else(r,rest)
def jG:Nat->List (List ai)->List (List ai)
 |0,l=>l
 |n+1,l=>jG n (fb l).2
def jw(l:List (List ai)):List ai×List (List ai):=fb l
def bF(l:List (List ai)):List PL:=aeB (l.map dK)
def fM(l:List (List ai))(end_:Int):ae×List (List ai)×Int×Int :=
 if(bA (bF l) end_).2.2.2≠0 then(uZ,[],(bA (bF l) end_).2.2.1,(bA (bF l) end_).2.2.2)
 else((bA (bF l) end_).1,jG (bA (bF l) end_).2.1.toNat l,end_,0)
def ju(l:List (List ai)):List (List ai):=l.filter λr=>!r.isEmpty
def ki(l:List (List ai))(i:Int)(w:Bs)(end_:Int):List Int×Int×Int:=db (l.map eL) i w end_
def pU(l:List (List ai))(end_:Int):ae×Int×Int×Int:=bA (l.map eL) end_
def kL(x n:Int):List Int:=List.replicate n.toNat x
def mz(n:Int):List Int×List Int:=(List.replicate n.toNat 0,List.replicate n.toNat 1000000)
def sq(s:Bs):Prop:=s.length<=1000000
def uX(s p:Bs):Prop:=p.length=1/\s.length<=1000000
def lQ(s p:Bs):Prop:=p.length<=1000000/\s.length<=1000000
def KP(s:Bs)(k a:Int):Prop:=s.length<=1000000/\0<=k/\k<=10000000/\0<=a/\a<=10000000
def zE(s:Bs)(lo hi:Int):Prop:=s.length<=1000000/\zl .i64 lo/\zl .i64 hi
def aba(n:Int):Prop:=zl .i64 n
def aeW(l:List (List ai)):Prop:=l.length<=10000000/\∀r∈l,r.length<=10000000
def aeX(l:List (List ai)):Prop:=(pL l).length<=10000000
def Zl(l:List (List ai)):Prop:=(tu l).length<=10000000
def H7(x n:Int):Prop:=n=4
def SJ(n:Int):Prop:=n=4
def w9(l:PL):Prop:=l.length<=10000000/\∀p∈l,0<=p.1/\p.1<=10000000/\p.2.length<=1000000
def aa9(l:PL)(lo hi:List Int):Prop:=w9 l/\lo.length<=1000/\hi.length<=1000/\(∀x∈lo,zl .i64 x)/\(∀x∈hi,zl .i64 x)
def H3(l:List ai)(word:Bs)(lo hi:List Int)(end_:Int):Prop:=aa9 (dK l) lo hi
def MM(l:List ai)(word:Bs)(lo hi:List Int)(end_:Int):Prop:=aa9 (eL l) lo hi
def WT(l:List (List ai))(i:Int)(w:Bs)(end_:Int):Prop:=0<=i/\∀r∈l,w9 (eL r)
def HY(l:List (List ai))(end_:Int):Prop:=l.length<=10000000/\∀r∈l,w9 (dK r)
def MK(l:List (List ai))(end_:Int):Prop:=l.length<=10000000/\∀r∈l,w9 (eL r)/\r≠[]
def WS(l:List (List ai)):Prop:=l.length<=10000000
def Hb(x:ao):Int :=
 if x.cD≠1/\x.cD≠2 then 8 else if x.cE<1∨x.cE>1000 then 2
 else if x.cD=1/\(x.N<0∨x.N≥64)then 31 else if x.cD=2/\(x.N<0∨x.N>1000000)then 7 else 0
def l8(x:ao):Int:=Hb x
def iR(l:List ao)(p:Int):Int:=l.foldl (λw x=>if x.cE=p then x.cD else w) 0
def Ad(l:List ao):Nat->Int->Int×Int
 |0,i=>(i,0)
 |f+1,i=>if Hb (gi l i)≠0 then(i,Hb (gi l i))else if(iR (l.take i.toNat) (gi l i).cE==1)==((gi l i).cD==1)then(i,33)else Ad l f (i+1)
def eO(l:List ao):Int×Int:=if l.length>10000 then(0,3)else Ad l l.length 0
def ov(l:List ao):Int×Int:=eO l
def jy(l:List ao)(p:Int):Nat->Int
 |0=>-1
 |i+1=>if(gi l (i:Int)).cE=p then(i:Int)else jy l p i
def fG(l:List ao)(p:Int):Int:=jy l p l.length
def lO(l:List ao)(p:Int):Bool:=iR l p==1
def IU(out:List Int)(p:Int):List Int:=out.takeWhile (λq=>decide (q<p))++p::out.dropWhile (λq=>decide (q<p))
def lR(l:List ao):Nat->List Int
 |0=>[]
 |i+1=>if(gi l (i:Int)).cD=1/\fG l (gi l (i:Int)).cE=(i:Int)then IU (lR l i) (gi l (i:Int)).cE else lR l i
def lP(l:List ao):List Int:=lR l l.length
def pq(l:List Int)(n:Int):Bool:=decide (n∈l)
def qA:Bs:=[99,97,108,108]
def AY:Bs:=[114,101,116]
def cZ(w:Bs):Int:=if w=qA then 1 else if w=AY then 2 else 0
def oN(kinds what:Int):List Int:=if what=1 then [1000,kinds-1]else [1000,1000000]
def dX(P:PL)(kinds end_:Int)(ae1:Int->Bool):ao×Int×Int :=
 if cZ (gi P 0).2=0 then(⟨2,0,0⟩,(gi P 0).1,8)
 else if(gE P (gi P 0).2 [1,0] (oN kinds (cZ (gi P 0).2)) end_).2.2≠0 then(⟨cZ (gi P 0).2,0,0⟩,(gE P (gi P 0).2 [1,0] (oN kinds (cZ (gi P 0).2)) end_).2.1,(gE P (gi P 0).2 [1,0] (oN kinds (cZ (gi P 0).2)) end_).2.2)
 else if ae1 (gi (gE P (gi P 0).2 [1,0] (oN kinds (cZ (gi P 0).2)) end_).1 0)==(cZ (gi P 0).2==1)then(⟨cZ (gi P 0).2,gi (gE P (gi P 0).2 [1,0] (oN kinds (cZ (gi P 0).2)) end_).1 0,gi (gE P (gi P 0).2 [1,0] (oN kinds (cZ (gi P 0).2)) end_).1 1⟩,(gi P 0).1,33)
 else(⟨cZ (gi P 0).2,gi (gE P (gi P 0).2 [1,0] (oN kinds (cZ (gi P 0).2)) end_).1 0,gi (gE P (gi P 0).2 [1,0] (oN kinds (cZ (gi P 0).2)) end_).1 1⟩,end_,0)
def yJ(m:List (Int×Int))(q:Int):Bool:=(bB m q).getD 0==1
def fo(l:List ai)(o:ae)(end_:Int)(m:List (Int×Int)):ao×Int×Int×List (Int×Int) :=
 ((dX (dK l) o.cV end_ (yJ m)).1,(dX (dK l) o.cV end_ (yJ m)).2.1,(dX (dK l) o.cV end_ (yJ m)).2.2,
   if(dX (dK l) o.cV end_ (yJ m)).2.2=0 then iU m (dX (dK l) o.cV end_ (yJ m)).1.cE (dX (dK l) o.cV end_ (yJ m)).1.cD else m)
def lv(l:List ao)(q:Int):Bool:=iR l q==1
def ng(o:ae)(l:List ao)(t:List ai)(end_:Int):ao×Int×Int :=
 if cZ (gi (eL t) 0).2=0 then(⟨0,0,0⟩,(gi (eL t) 0).1,8)
 else if(dX (eL t) o.cV end_ (lv l)).2.2=0/\l.length=10000 then((dX (eL t) o.cV end_ (lv l)).1,(gi (eL t) 0).1,3)else dX (eL t) o.cV end_ (lv l)
def AO(kinds end_:Int):List PL->List ao->List ao×Int×Int
 |[],acc=>(acc,end_,0)
 |p::L,acc=>if(dX p kinds end_ (lv acc)).2.2≠0 then([],(dX p kinds end_ (lv acc)).2.1,(dX p kinds end_ (lv acc)).2.2)
  else if acc.length≥10000 then([],(gi p 0).1,3)else AO kinds end_ L (acc++[(dX p kinds end_ (lv acc)).1])
def y8(L:List PL)(end_:Int):List ao×Int×Int:=AO (bA L end_).1.cV end_ (L.drop (bA L end_).2.1.toNat) []
def JO(L:List PL)(end_:Int):ae×List ao×Int×Int :=
 if(bA L end_).2.2.2≠0 then(uZ,[],(bA L end_).2.2.1,(bA L end_).2.2.2)
 else if(y8 L end_).2.2≠0 then(uZ,[],(y8 L end_).2.1,(y8 L end_).2.2)else((bA L end_).1,(y8 L end_).1,end_,0)
def nI(s:Bs):ae×List ao×Int×Int:=if(s.length:Int)>1000000 then(uZ,[],0,3)else JO (bF (cK s)) s.length
def bZ(s:Bs):dp×Int×Int:=(⟨(nI s).1,(nI s).2.1⟩,(nI s).2.2.1,(nI s).2.2.2)
def dv(s:Bs):ae×List ao×Int×Int:=nI s
def ML(l:List ao):Prop:=l.length<=1000000
def SD(l:List ai)(o:ae)(end_:Int)(m:List (Int×Int)):Prop:=w9 (dK l)/\l≠[]/\0<=o.cV/\o.cV<=1000000
def KT(o:ae)(l:List ao)(t:List ai)(end_:Int):Prop:=w9 (eL t)/\t≠[]/\0<=o.cV/\o.cV<=1000000/\l.length<=10000
def iY(i:Int)(x:ao)(o:aj):aj:=if o.End=-1/\o.cE=x.cE then⟨o.cE,o.Kind,o.cn,i,x.N⟩else o
def gY(ops:List aj)(i:Int)(x:ao):List aj:=ops.map (iY i x)++(if x.cD=1 then [⟨x.cE,x.N,i,-1,-1⟩]else [])
def rX:List ao->Int->List aj->List aj
 |[],_,ops=>ops
 |x::l,i,ops=>rX l (i+1) (gY ops i x)
def opsOf(l:List ao):List aj:=rX l 0 []
def lI(l:List ao):List aj×Int:=if(eO l).2≠0 then([],(eO l).2)else(opsOf l,0)
def pT(l:List ao):List aj×Int:=lI l
def xR(l:List ao):Int:=(l.countP (λx=>x.cD==1):Nat)
def nV(f:Int->Bool):List Int->Int->Int
 |[],_=>-1
 |l::r,i=>if f l then i else nV f r (i+1)
def idxOf(f:Int->Bool)(c:List Int):Int:=nV f c 0
def varOf(l:Int):Int:=if l>0/\l<=100000 then l else if l<0/\l≥-100000 then -l else 0
def jF(l:Int):Int:=if varOf l=0 then 0 else -l
def iP(l vars:Int):Bool:=l !=0&&decide (l≥-vars)&&decide (l<=vars)
def xC(l:Int):Bool:=varOf l !=0
def kN(l:Int):Int:=varOf l
def VX(lo n:Int):Bool:=!(decide (n<lo)||decide (n>10000000)||n==0)
def FO(l:List Int)(lo:Int):Bool:=decide (l.length<=1000)&&l.all (VX lo)
def jv(l:List Int)(lo:Int):Bool:=FO l lo
def wh(l:List cz):Bool:=decide (l.length<=200)&&l.all λs=>decide (s.mT.length<=60)&&decide (s.Hints.length<=200)
def mr(n lo:Int):Bool:=!(VX lo n)
def cQ(l:List Int)(lo:Int):Int:=idxOf (λn=>!(VX lo n)) l
def dA(l:List Int)(lo:Int):Bool:=l.any (λn=>!(VX lo n))
def MO(l vars:Int):Prop:=0<=vars/\vars<=100000
def MJ(h:List Int):Prop:=h.length<=1000000
abbrev Mo:=Int->Bool
def hl(m:Mo)(x:Int):Prop:=0<varOf x/\m (varOf x)=decide (x>0)
def sat(m:Mo)(c:List Int):Prop:=∃x∈c,hl m x
def yq(m:Mo)(C:List (List Int)):Prop:=∀c∈C,sat m c
def uc(m:Mo)(l:List Int):Prop:=∀x∈l,hl m x
def KE(m:Mo)(cl:List (Int×List Int)):Prop:=∀k c,bB cl k=some c->sat m c
def ot(l:List aj)(r:List (Int×Int)):Prop:=r.length<=l.length*l.length
def AB(l:List aj):Prop:=l.length<=5000
def Ck(_ _:Int)(l:List aj):Prop:=l.length<=64
def uT(_:ae)(l:List aj)(r:Int):Prop:=r=0->l.length<=64
def kg(l:List Int)(r:List (List Int)):Prop:=r.length<=l.length*l.length
def H4(l:List Int):Prop:=l.length<=1000
def nT(_ _:Int)(r:List (List Int)):Prop:=r.length<=1000000
def nS(_ _:Int)(_:List (Int×Int))(r:List (List Int)):Prop:=r.length<=100000000
def MQ(_ _:Int)(jW:List (Int×Int)):Prop:=jW.length<=5000
def nR(_ _ _:Int)(r:List (List Int)):Prop:=r.length<=1000000
def xr(_:ae)(l:List aj)(r:Int×Int):Prop:=0<=r.1/\r.1<=l.length
def nQ(_:ae)(_:List aj)(r:List (List Int)):Prop:=r.length<=1000000
def uS(s:Bs)(r:kz):Prop:=((dv s).2.2.2=0->r.O=(dv s).1/\r.L=(pT (dv s).2.1).1)/\((dv s).2.2.2≠0->r.L=[])
def HZ(s:Bs):Prop:=(dv s).2.2.2=0->(pT (dv s).2.1).1.length<=4
def yf(s:Bs)(r:Bool):Prop:=(dv s).2.2.2=0->r=decide (na (dv s).1 (pT (dv s).2.1).1≠[])
def vP:Bool:=true
def z8(o:ae)(l:List aj)(s:ab):Prop:=(aJ o).2=0/\(cU l).2=0/\l.length<=64/\s=bu o l
def vz(o:ae)(l:List aj)(r:ab×Int):Prop:=r.2=0->z8 o l r.1
def rz(o:ae)(l:List aj)(r:bJ×Int):Prop:=(r.2≠0->r.1.bL=[])/\(r.2=0->∃z,z8 o l z/\r.1.bL=FG o l z)
def EF(o:ae)(l:List aj):Prop:=Ea o/\l.length<=4
def RP(s:Bs)(f:bJ):Prop:=(bZ s).2.2=0/\∃z,z8 (bZ s).1.ga (lI (bZ s).1.lY).1 z/\f.bL=FG (bZ s).1.ga (lI (bZ s).1.lY).1 z
def rE(s:Bs)(r:jB):Prop:=(r.e≠0->r.f.bL=[])/\(r.e=0->RP s r.f)
def rF(s:Bs)(r:bJ×Int):Prop:=(r.2≠0->r.1.bL=[])/\(r.2=0->RP s r.1)
def wZ(s:Bs):Prop:=(lI (bZ s).1.lY).1.length<=4
def pd(c:List Int)(_:Int)(r:Int):Prop:=r=0->c.length<=1000
def Ak(f:bJ)(r:Int×Int):Prop:=r.2=0->f.bL.length<=1000000/\∀c∈f.bL,c.length<=1000
def okS(s:cz):Prop:=s.mT.length<=1000/\s.Hints.length<=1000/\(∀h∈s.Hints,-10000000<=h/\h<=10000000)/\0<=s.Id/\s.Id<=10000000
def zD(s:cz)(r:Bool):Prop:=r=true->okS s
def ri(s:cz)(r:Bool):Prop:=r=false->okS s
def cR(l:List cz)(r:Int):Prop:=r<0->∀s∈l,okS s
def uW(l:List cz)(r:Int×Int):Prop:=r.2=0->∀s∈l,okS s
def qJ(h:List Int)(r:List Int×List (List Int)):Prop:=(∀x∈r.1,0<=x/\x∈h)/\r.1.length<=h.length/\∀g∈r.2,g≠[]/\g.length<=h.length/\gi g 0∈h/\∀x∈g.drop 1,0<=x/\x∈h
def vl(l:List Int)(x:Int):Int:=if x∈l then 1 else if lU x∈l then -1 else 0
def fZ(x:Int)(m:List (Int×Int)):Int:=if(bB m x).getD 0>0 then 1 else if(bB m (lU x)).getD 0>0 then -1 else 0
def vG(l c:List Int)(v:Int):Nat:=(c.filter λx=>decide (0<varOf x)&&vl l x==v).length
def kT(l c:List Int):Int×Int×Int:=(vG l c 1,vG l c (-1),vG l c 0)
def qK(l _c:List Int):Prop:=l.length<=100000000000
def rG(l c:List Int)(r:Int):Prop:=r<0->vG l c 1=0/\vG l c 0=0
def vL(l c:List Int)(r:Int×Bool):Prop:=r.2=true->vG l c 1=0/\vG l c 0=1/\r.1∈c/\0<varOf r.1/\vl l r.1=0
def mK(l:List Int)(x:Int):Int:=if varOf x=0 then 0 else vl l x
def mH(l:Int):Int:=jF l
def ql(c:List Int)(l:Int):Bool:=decide (varOf l>0)&&decide (l∈c)
def vU(c:List Int)(r:List Int×Int):Prop:=r.1.length<=c.length/\(r.2=0->(∀x∈c,0<varOf x)/\∀m,(∀x∈c,¬hl m x)->uc m r.1)
def B2(l hint:List Int)(r:List Int×Bool×Int):Prop:=r.1.length<=l.length+1/\(r.2.2=0->(r.2.1=true->∀m,uc m l->¬sat m hint)/\(r.2.1=false->∀m,uc m l->sat m hint->uc m r.1))
def MI(l _h:List Int):Prop:=l.length<=1000000
def rN(l:List Int)(hints:List (List Int))(r:List Int×Int×Int):Prop:=r.1.length<=l.length+hints.length/\(r.2.2=0->∀m,uc m l->¬yq m hints)/\(r.2.2=23->∀m,uc m l->yq m hints->uc m r.1)
def H5(l:List Int)(hints:List (List Int)):Prop:=l.length<=400000/\hints.length<=400000
def B3(c:List Int)(hints:List (List Int))(r:Int×Int):Prop:=r.2=0->∀m,yq m hints->sat m c
def SA(c:List Int)(hints:List (List Int)):Prop:=c.length<=100000/\hints.length<=400000
def H6(c:List Int):Prop:=c.length<=100000
def pV(clauses:List (List Int))(p:Int)(r:List Int):Prop:=(∀i∈r,0<=i/\i<clauses.length)/\∀k:Nat,k<clauses.length->jF p≠0->jF p∈gi clauses (k:Int)->(k:Int)∈r
def MP(clauses:List (List Int))(_:Int):Prop:=clauses.length<=100000000
def rfR(l nJ:List Int)(p:Int)(hints:List (List Int)):Prop:=∀m,uc m l->(∀x∈nJ,x≠jF p->¬hl m x)->¬yq m hints
def tv(l nJ:List Int)(p:Int)(hints:List (List Int))(r:Int):Prop:=r=0->rfR l nJ p hints
def SC(l nJ:List Int)(_:Int)(hints:List (List Int)):Prop:=l.length<=200000/\nJ.length<=100000/\hints.length<=400000
def xt(i:Int)(each:List (Int×List (List Int)))(l:List Int)(clauses:List (List Int))(c:List Int)(r:Bool):Prop:=r=true->∃h,bB each i=some h/\rfR l (gi clauses i) (gi c 0) h
def Z6(each:List (Int×List (List Int))):Prop:=∀i h,bB each i=some h->h.length<=400000
def SB(i:Int)(each:List (Int×List (List Int)))(l:List Int)(clauses:List (List Int))(c:List Int):Prop:=0<=i/\i<clauses.length/\c≠[]/\l.length<=200000/\Z6 each/\∀c∈clauses,c.length<=100000
def Ca(clauses:List (List Int))(c:List Int)(ahead:List (List Int))(each:List (Int×List (List Int)))(r:Int×Int):Prop:=r.2=0->∀m,yq m clauses->yq m ahead->(∀i h,bB each i=some h->yq m h)->∃m',yq m' clauses/\sat m' c
def SE(clauses:List (List Int))(c:List Int)(ahead:List (List Int))(each:List (Int×List (List Int))):Prop:=clauses.length<=100000000/\c.length<=100000/\ahead.length<=100000/\Z6 each/\∀c∈clauses,c.length<=100000
def nd(cl:List (Int×List Int)):Prop:=(cl.map (·.1)).Nodup
def Gz(ch:aU):Prop:=nd ch.clauses/\ch.clauses.length<=10000000/\∀k c,bB ch.clauses k=some c->c.length<=1000/\zl .i64 k
def SH(ch:aU):Prop:=Gz ch
def ix(_:aU):Bool:=true
def jX(ch:aU):Bool:=ch.done
def nk(ch:aU)(r:List Int):Prop:=r.Pairwise (· < ·)/\∀x,x∈r↔(bB ch.clauses x).isSome=true
def jx(ids:List Int)(ch:aU)(r:Bool):Prop:=r=true->∀x∈ids,(bB ch.clauses (max x (IntKind.i64.wrap (0-x)))).isSome=true
def iy(ids:List Int)(ch:aU)(r:Int×aU):Prop:=Gz ch->Gz r.2/\r.2.done=ch.done/\r.2.clauses.length<=ch.clauses.length/\∀k c,bB r.2.clauses k=some c->bB ch.clauses k=some c
def thr(hints:List Int)(ch:aU):Prop:=∀x∈hints,-10000000<=x/\x<=10000000/\(bB ch.clauses (max x (-x))).isSome=true
def mF(lits amW:List Int)(ch:aU)(r:Int):Prop:=r=0->(∃m,KE m ch.clauses)->∃m,KE m ch.clauses/\sat m lits
def Sz(lits hints:List Int)(ch:aU):Prop:=Gz ch/\lits.length<=1000/\hints.length<=1000/\thr hints ch
def Rz(ch ch':aU):Prop:=Gz ch'/\ch'.clauses.length<=ch.clauses.length+1/\((∃m,KE m ch.clauses)->∃m,KE m ch'.clauses)/\(ch'.done=true->ch.done=true∨¬∃m,KE m ch'.clauses)
def nj(s:cz)(ch:aU)(r:Int×aU):Prop:=r.1=0->Rz ch r.2
def SK(s:cz)(ch:aU):Prop:=Gz ch/\ch.clauses.length<=9000000/\okS s
def mG(_:cz)(ch:aU)(r:Int×aU):Prop:=r.1=0->Rz ch r.2
def KQ(_:cz)(ch:aU):Prop:=Gz ch/\ch.clauses.length<=9000000
def tF(f:bJ)(_:List cz)(r:Int×Int):Prop:=r.2=0->¬∃m,yq m f.bL
def MN(_:bJ)(l:List cz):Prop:=l.length<=1000000
def gj(k:Int)(ch:aU):List Int:=(bB ch.clauses k).getD []
def BI(_:Bs)(_:List cz):Bool:=true
def A2(p:Prop):Prop:=p/\p
def A3(p:Prop):Prop:=A2 p/\p
def A5(i q:Prop):Prop:=(i/\(q/\A2 q))/\((i/\A2 q)/\(i/\q))
theorem a2{p:Prop}(h:p):A2 p:=⟨h,h⟩
theorem a3{p:Prop}(h:p):A3 p:=⟨a2 h,h⟩
theorem a5{i q:Prop}(h:i)(k:q):A5 i q:=⟨⟨h,k,a2 k⟩,⟨h,a2 k⟩,h,k⟩
theorem B6(o:ae):∀k i:Nat,(i:Int)<=(gC o k i).1/\(gC o k i).1<=i+k/\((gC o k i).2≠0->(gC o k i).1<i+k)
 |0,i=>by simp[gC]
 |k+1,i=>by
  have h:=B6 o k (i+1);unfold gC;by_cases he:iK o i≠0
  .rw[if_pos he];exact⟨by simp,by simp only;omega,λ_=>by simp only;omega⟩
  .rw[if_neg he];exact⟨by omega,by omega,λh'=>by have:=h.2.2 h';omega⟩
theorem AS(o:ae)(h:(aJ o).2≠0):-1<=(aJ o).1/\(aJ o).1<o.Rows.length:=by
 unfold aJ cr at h ⊢; by_cases hb:iX o
 .rw[if_pos hb];simp only;omega
 .rw[if_neg hb]at h ⊢; have:=B6 o o.Rows.length 0;exact⟨by omega,by have:=this.2.2 h;omega⟩
theorem xO{o:ae}(h:(aJ o).2=0):¬iX o/\True:=by
 refine⟨λhb=>?_,trivial⟩;unfold aJ cr at h;rw[if_pos hb]at h;cases h
theorem Bl{o:ae}{l:List aj}{s:ab}(h:z8 o l s):
  s=bu o l/\(aJ o).2=0/\(cU l).2=0/\bu o l=⟨(l.length:Int),o.az⟩/\au (bu o l)=0:=by
 obtain⟨h1,h2,h3,h4⟩:=h;have e:bu o l=⟨(l.length:Int),o.az⟩:=by unfold bu;rw[if_pos ⟨h1,h2⟩]
 refine⟨h4,h1,h2,e,?_⟩;have hb:=(xO h1).1;unfold iX at hb;rw[e];unfold au du;rw[if_neg];simp only;omega
end
end Go.Proofs.Y
namespace Go.Proofs.Y
open Go Go.Sv Go.Te
section
abbrev iF(b:Bool)(p q:Prop):Prop:=(b=true->p)/\(b=false->q)
abbrev lN{A:Type}(l:List A):Int:=l.length
abbrev bD{A:Type}(i:Int)(l:List A):Prop:=(0:Int)<=i/\i<(l.length:Int)
abbrev wI(i:Int):Int:=IntKind.i64.wrap i
abbrev dE(p:Prop)[Decidable p]:Bool:=decide p
abbrev oK{A:Type}(I:A->Prop)(m:A->Nat)(x0:A)(y0:A):Prop:=I x0/\m x0<m y0
abbrev eM{A B:Type}(I:A->B->Prop)(m:A->B->Nat)(x0:A)(x1:B)(y0:A)(y1:B):Prop:=I x0 x1/\m x0 x1<m y0 y1
abbrev GD{A B C:Type}(I:A->B->C->Prop)(m:A->B->C->Nat)(x0:A)(x1:B)(x2:C)(y0:A)(y1:B)(y2:C):Prop:=I x0 x1 x2/\m x0 x1 x2<m y0 y1 y2
abbrev QG{A B C D:Type}(I:A->B->C->D->Prop)(m:A->B->C->D->Nat)(x0:A)(x1:B)(x2:C)(x3:D)(y0:A)(y1:B)(y2:C)(y3:D):Prop:=I x0 x1 x2 x3/\m x0 x1 x2 x3<m y0 y1 y2 y3
abbrev n5P{A B C D E:Type}(I:A->B->C->D->E->Prop)(m:A->B->C->D->E->Nat)(x0:A)(x1:B)(x2:C)(x3:D)(x4:E)(y0:A)(y1:B)(y2:C)(y3:D)(y4:E):Prop:=I x0 x1 x2 x3 x4/\m x0 x1 x2 x3 x4<m y0 y1 y2 y3 y4
abbrev n7P{A B C D E F G:Type}(I:A->B->C->D->E->F->G->Prop)(m:A->B->C->D->E->F->G->Nat)(x0:A)(x1:B)(x2:C)(x3:D)(x4:E)(x5:F)(x6:G)(y0:A)(y1:B)(y2:C)(y3:D)(y4:E)(y5:F)(y6:G):Prop:=I x0 x1 x2 x3 x4 x5 x6/\m x0 x1 x2 x3 x4 x5 x6<m y0 y1 y2 y3 y4 y5 y6
abbrev oM(i:Int)(f:(Int->Prop)->(Int->Nat)->Int->Prop):Prop:=∃(I:Int->Prop)(m:Int->Nat),I i/\∀x,I x->f I m x
abbrev gz:=List Int
abbrev hZ:=List (List Int)
abbrev iV:=Int->Prop
abbrev mS:=List aj
abbrev qB:=Bool->Prop
abbrev ug:=List UInt8
abbrev uH:=List (Int×Int)
abbrev xi:=List (List ai)
abbrev zt:=(List (List Int))->Prop
abbrev Bj:=ab
abbrev pM:=(Int×Int)->Prop
abbrev rh:=(List (List Int))->Int->Prop
abbrev rf:=(List (List Int))->Int->Nat
abbrev rJ:=List ao
abbrev uw:=(List Int)->Prop
abbrev uI:=Int×Int->Prop
abbrev A4:=(List Int)->Int->Prop
abbrev A1:=(List Int)->Int->Nat
abbrev AZ:=List aC
abbrev D5:=Int->Nat
abbrev FZ:=aU
abbrev Ox:=List cz
abbrev Ow:=(List (List ai))->Prop
abbrev Ov:=(List (List ai))->Int->Prop
abbrev Ou:=(List (List ai))->Int->Nat
abbrev Ot:=(List (Int×Int))->Prop
abbrev Rr:=Int->Int->Prop
abbrev Rq:=Int->Int->Nat
abbrev Rp:=(List (Int×Int))->Int->Prop
abbrev Ro:=(List (Int×Int))->Int->Nat
abbrev Oq:=List (List aC)
abbrev Wm:=(List (List ai))->(List ai)->Int->Prop
abbrev Wl:=(List (List ai))->(List ai)->Int->Nat
abbrev Wk:=(List Int)×Int×Int->Prop
abbrev aaz:=((List Int)×Int×Int)->Prop
abbrev aay:=((List UInt8)×Bool×Bool)->Prop
abbrev aax:=(List ai)->Int->Int->Prop
abbrev aaw:=(List (Int×Int))->(List (Int×aj))->Int->Prop
abbrev aav:=(List (Int×Int))->(List (Int×aj))->Int->Nat
abbrev aau:=(List (List Int))->(List (List Int))->(List (List Int))->Int->Prop
abbrev aat:=(List (List Int))->(List (List Int))->(List (List Int))->Int->Nat
abbrev aas:=((List aC)×Int)->Prop
abbrev l1P{A:Type}(i0:A)(f:(A->Prop)->(A->Nat)->A->Prop):Prop:=∃(I:A->Prop)(m:A->Nat),I i0/\∀x0,I x0->f I m x0
abbrev fj{A B:Type}(i0:A)(i1:B)(f:(A->B->Prop)->(A->B->Nat)->A->B->Prop):Prop:=∃(I:A->B->Prop)(m:A->B->Nat),I i0 i1/\∀x0 x1,I x0 x1->f I m x0 x1
abbrev IH{A B C:Type}(i0:A)(i1:B)(i2:C)(f:(A->B->C->Prop)->(A->B->C->Nat)->A->B->C->Prop):Prop:=∃(I:A->B->C->Prop)(m:A->B->C->Nat),I i0 i1 i2/\∀x0 x1 x2,I x0 x1 x2->f I m x0 x1 x2
abbrev ZA{A B C D:Type}(i0:A)(i1:B)(i2:C)(i3:D)(f:(A->B->C->D->Prop)->(A->B->C->D->Nat)->A->B->C->D->Prop):Prop:=∃(I:A->B->C->D->Prop)(m:A->B->C->D->Nat),I i0 i1 i2 i3/\∀x0 x1 x2 x3,I x0 x1 x2 x3->f I m x0 x1 x2 x3
abbrev l5P{A B C D E:Type}(i0:A)(i1:B)(i2:C)(i3:D)(i4:E)(f:(A->B->C->D->E->Prop)->(A->B->C->D->E->Nat)->A->B->C->D->E->Prop):Prop:=∃(I:A->B->C->D->E->Prop)(m:A->B->C->D->E->Nat),I i0 i1 i2 i3 i4/\∀x0 x1 x2 x3 x4,I x0 x1 x2 x3 x4->f I m x0 x1 x2 x3 x4
abbrev l7P{A B C D E F G:Type}(i0:A)(i1:B)(i2:C)(i3:D)(i4:E)(i5:F)(i6:G)(f:(A->B->C->D->E->F->G->Prop)->(A->B->C->D->E->F->G->Nat)->A->B->C->D->E->F->G->Prop):Prop:=∃(I:A->B->C->D->E->F->G->Prop)(m:A->B->C->D->E->F->G->Nat),I i0 i1 i2 i3 i4 i5 i6/\∀x0 x1 x2 x3 x4 x5 x6,I x0 x1 x2 x3 x4 x5 x6->f I m x0 x1 x2 x3 x4 x5 x6
def VC4_J1(Q:qB):Prop :=
 Q true
def VC4_J2(Q:qB)(a:iV)(b:D5)(c:Int)(d:Bool):Prop :=
 iF d (Q false) (oK a b (wI (c+1)) c)
def VC4(a:Ox)(Q:qB):Prop :=
 sm a->iF (dE (lN a>200)) (Q false) (oM 0 λb c d=>iF (dE (d<lN a)) (bD d a/\(sm (gi a d).mT->iF (dE (lN (gi a d).mT>60)) (VC4_J2 Q b c d true) (bD d a/\(sm (gi a d).Hints->VC4_J2 Q b c d (dE (lN
 (gi a d).Hints>200)))))) (VC4_J1 Q))
def VC23_J1(Q:Ow)(a:xi):Prop :=
 Q a
def VC23_J2(a:Ov)(b:Ou)(c:xi)(d:Int)(e:xi):Prop :=
 eM a b e (wI (d+1)) c d
def VC23(a:xi)(Q:Ow):Prop :=
 sm a->fj [] 0 λb c (d:xi) (e:Int)=>iF (dE (e<lN a)) (bD e a/\(sm (gi a e)->iF (dE (lN (gi a e)>0)) (bD e a/\(sm (gi a e)->d.length+[gi a e].length<=1099511627776/\VC23_J2 b c d e (d++[gi
 a e]))) (VC23_J2 b c d e d))) (VC23_J1 Q d)
def VC57(a:Int)(Q:qB):Prop :=
 Q (((a==32)||(a==9))||(a==13))
def VC24_J1(Q:Ow)(a:xi):Prop :=
 Q a
def VC24_J4(a:Ov)(b:Ou)(c:xi)(d e:Int)(f:xi)(g:List ai):Prop :=
 f.length+[g].length<=1099511627776/\eM a b (f++[g]) (wI (e+1)) c d
def VC24_J5(a:Wm)(b:Wl)(c:xi)(d:List ai)(e:Int)(f:xi)(g:List ai)(h:Int):Prop :=
 GD a b f g (wI (h+1)) c d e
def VC24_J6(a:ug)(b:Wm)(c:Wl)(d:xi)(e:List ai)(f:Int)(g:xi)(h:List ai)(i:Int):Prop :=
 ((0:Int)<=f/\(f:Int)<=i/\i<=lN a)/\h.length+[(⟨wI (lN g+1),f,((a.take i.toNat).drop f.toNat)⟩:ai)].length<=1099511627776/\VC24_J5 b c d e f g (h++[(⟨wI (lN g+1),f,((a.take
 i.toNat).drop f.toNat)⟩:ai)]) i
def VC24_J7(a:ug)(b:Wm)(c:Wl)(d:xi)(e:List ai)(f:Int)(g:Wm)(h:Wl)(i:xi)(j:List ai)(k:Int)(l:xi)(m:List ai)(n:Bool):Prop :=
 iF n (GD g h l m (wI (k+1)) i j k) (VC24_J6 a b c d e f l m k)
def VC24_J3(a:ug)(b:Ov)(c:Ou)(d:xi)(e f:Int)(g:xi)(h:Bool):Prop :=
 IH g [] e λi j k (l:List ai) m=>iF (dE (m<f)&&(!h)) (bD m a/\(∀n,kE ((gi a m).toNat:Int)=n->iF n (VC24_J5 i j k l m k l m) (IH k l m λo p q r s=>iF (dE (s<f)) (bD s a/\(∀
 t,kE ((gi a s).toNat:Int)=t->VC24_J7 a i j k l m o p q r s q r (!t))) (VC24_J7 a i j k l m o p q r s q r false)))) (VC24_J4 b c d e f k l)
def VC24_J2(a:ug)(b:Ov)(c:Ou)(d:xi)(e:Int)(f:xi)(g:Int):Prop :=
 ((0:Int)<=e/\(e:Int)<=g/\g<=lN a)/\iF (((a.take g.toNat).drop e.toNat)==([99]:List UInt8)) (VC24_J3 a b c d e g f true) (iF (dE (wI (g-e)≥2)) (((0:Int)<=e/\(e:Int)<=wI (e+2)/\(wI (e +
 2))<=lN a)/\VC24_J3 a b c d e g f (((a.take (wI (e+2)).toNat).drop e.toNat)==([99,32]:List UInt8))) (VC24_J3 a b c d e g f false))
def VC24_J8(a:ug)(b:Ov)(c:Ou)(d:xi)(e:Int)(f:Ov)(g:Ou)(h:xi)(i:Int)(j:xi)(k:Bool):Prop :=
 iF k (eM f g j (wI (i+1)) h i) (VC24_J2 a b c d e j i)
def VC24(a:ug)(Q:Ow):Prop :=
 fj [] 0 λb c (d:xi) (e:Int)=>iF (dE (e<lN a)) (fj d e λf g h i=>iF (dE (i<lN a)) (bD i a/\VC24_J8 a b c d e f g h i h (((gi a i).toNat:Int)!=10)) (VC24_J8 a b c d e f g h i h false)) (VC24_J1
 Q d)
def VC185_J1(a:Int)(Q:(List UInt8)->Prop)(b:ug):Prop :=
 iF (dE (a<0)) (([45]:List UInt8).length+b.length<=4611686018427387904/\Q (([45]:List UInt8)++b)) (Q b)
def VC185_J2(a:(List UInt8)->Int->Prop)(b:(List UInt8)->Int->Nat)(c:ug)(d e:Int):Prop :=
 (ofBytes [IntKind.u8.wrap (wI (48+e))]).length+c.length<=4611686018427387904/\eM a b ((ofBytes [IntKind.u8.wrap (wI (48+e))])++c) (wI ((d).tdiv 10)) c d
def VC185(a:Int)(Q:(List UInt8)->Prop):Prop :=
 iF (a==0) (Q ([48]:List UInt8)) (fj ([]:List UInt8) a λb c d e=>iF (e !=0) (iF (dE (((e).tmod 10)<0)) (VC185_J2 b c d e (wI (0-((e).tmod 10)))) (VC185_J2 b c d e ((e).tmod 10))) (VC185_J1 a Q d))
def VC120_J4(a:ug)(b c:Int)(Q:pM)(d:Int):Prop :=
 aba d/\∀e,kF d=e->iF (((!(e==a))||dE (d<b))||dE (d>c)) (Q (0,7)) (Q (d,0))
def VC120_J5(a:Rr)(b:Rq)(c d e:Int):Prop :=
 eM a b (wI (wI (10*c)+e)) (wI (d+1)) c d
def VC120_J3(a:ug)(b c:Int)(Q:pM)(d:Int):Prop :=
 iF (dE (wI (lN a-d)>19)) (Q (0,7)) (fj 0 d λe f (g:Int) h=>iF (dE (h<lN a)) (bD h a/\iF (d==1) (VC120_J5 e f g h (wI (0-wI (wI ((gi a h).toNat:Int)-48)))) (VC120_J5 e f g h (wI (wI ((gi a
 h).toNat:Int)-48)))) (VC120_J4 a b c Q g))
def VC120_J6(Q:pM)(a:iV)(b:D5)(c:Int)(d:Bool):Prop :=
 iF d (Q (0,5)) (oK a b (wI (c+1)) c)
def VC120_J2(a:ug)(b c:Int)(Q:pM)(d:Int)(e:Bool):Prop :=
 iF e (Q (0,5)) (oM d λf g h=>iF (dE (h<lN a)) (bD h a/\iF (dE (((gi a h).toNat:Int)<48)) (VC120_J6 Q f g h true) (bD h a/\VC120_J6 Q f g h (dE (((gi a h).toNat:Int)>57)))) (VC120_J3 a b c Q d))
def VC120_J1(a:ug)(b c:Int)(Q:pM)(d:Int):Prop :=
 iF (d==lN a) (VC120_J2 a b c Q d true) (bD d a/\VC120_J2 a b c Q d ((((gi a d).toNat:Int)==48)&&dE (lN a>1)))
def VC120_J7(a:ug)(b c:Int)(Q:pM)(d:Bool):Prop :=
 iF d (VC120_J1 a b c Q 1) (VC120_J1 a b c Q 0)
def VC120(a:ug)(b c:Int)(Q:uI):Prop :=
 iF (dE (lN a>0)) (bD 0 a/\VC120_J7 a b c Q (((gi a 0).toNat:Int)==45)) (VC120_J7 a b c Q false)
def VC60_J1(a:List ai)(b:Int)(Q:aaz)(c:gz):Prop :=
 iF (lN a !=wI (lN c+1)) (bD (wI (lN c+1)) a/\Q ([],(gi a (wI (lN c+1))).At,6)) (Q (c,b,0))
def VC60(a:List ai)(b:ug)(c d:gz)(e:Int)(Q:Wk):Prop :=
 sm a->sm c->sm d->iF (lN a==0) (Q ([],e,4)) (bD 0 a/\iF (!((gi a 0).Text==b)) (bD 0 a/\Q ([],(gi a 0).At,8)) (fj [] 0 λf g (h:gz) (i:Int)=>iF (dE (i<lN c)&&dE (i<lN d)) (iF (wI (i+1)
 == lN a) (bD i a/\bD i a/\Q ([],wI ((gi a i).At+lN (gi a i).Text),4)) (bD (wI (i+1)) a/\bD i c/\bD i d/\zE (gi a (wI (i+1))).Text (gi c i) (gi d i)/\(∀j,mq (gi a (wI (i+1))).Text
 (gi c i) (gi d i)=j->iF (j.2 !=0) (bD (wI (i+1)) a/\Q ([],(gi a (wI (i+1))).At,j.2)) (h.length+[j.1].length<=1099511627776/\eM f g (h++[j.1]) (wI (i+1)) h i)))) (VC60_J1 a e Q h)))
def VC58(a:xi)(b:Int)(c:ug)(d:Int)(Q:Wk):Prop :=
 sm a->iF (dE (b≥lN a)) (Q ([],d,4)) (bD b a/\(sm (gi a b)->MM (gi a b) c [0,0,0,0] [1000000,1000000,1000000,1000000] d/\(∀e,jM (gi a b) c [0,0,0,0] [1000000,1000000,1000000,
 1000000] d=e->sm e.1->Q (e.1,e.2.1,e.2.2))))
def VC59_J1(a:ae)(Q:pM):Prop :=
 Q (lN a.Rows,0)
def VC59_J2(Q:pM)(a:iV)(b:D5)(c:Int)(d:Bool):Prop :=
 iF d (Q (c,32)) (oK a b (wI (c+1)) c)
def VC59(a:ae)(Q:uI):Prop :=
 sm a.Rows->iF (((((dE (a.az<1)||dE (a.az>32))||dE (a.cV<1))||dE (a.cV>64))||dE (a.eZ<0))||dE (a.eZ≥a.az)) (Q ((-1),2)) (oM 0 λb c d=>iF (dE (d<lN a.Rows)) (bD d
 a.Rows/\iF (((dE ((gi a.Rows d).State<0)||dE ((gi a.Rows d).State≥a.az))||dE ((gi a.Rows d).Next<0))||dE ((gi a.Rows d).Next≥a.az)) (Q (d,30)) (iF (dE ((gi a.Rows d).Kind<0)||dE ((gi a.Rows
 d).Kind≥a.cV)) (Q (d,31)) (iF (dE ((gi a.Rows d).Result<0)||dE ((gi a.Rows d).Result>1000000)) (Q (d,7)) (iF (dE (d>0)) (bD (wI (d-1)) a.Rows/\iF (dE ((gi a.Rows (wI (d-1))).State>(gi a.Rows
 d).State)) (VC59_J2 Q b c d true) (bD (wI (d-1)) a.Rows/\iF ((gi a.Rows (wI (d-1))).State==(gi a.Rows d).State) (bD (wI (d-1)) a.Rows/\VC59_J2 Q b c d (dE ((gi a.Rows (wI (d-1))).Kind≥(gi a.Rows
 d).Kind))) (VC59_J2 Q b c d false))) (VC59_J2 Q b c d false))))) (VC59_J1 a Q))
def VC25_J1(a:xi)(b:Int)(Q:(ae×Int×Int×Int)->Prop)(c:(List Int)×Int×Int)(d e f:Int)(g:List cJ):Prop :=
 ∀h,cr (⟨d,e,f,g⟩:ae)=h->iF (h.2 !=0) (bD (wI (h.1+1)) a/\(sm (gi a (wI (h.1+1)))->bD 0 (gi a (wI (h.1+1)))/\Q ((⟨0,0,0,[]⟩:ae),0,(gi (gi a (wI (h.1+1))) 0).At,
 h.2))) (bD 3 c.1/\Q ((⟨d,e,f,g⟩:ae),wI (gi c.1 3+1),b,0))
def VC25(a:xi)(b:Int)(Q:ae×Int×Int×Int->Prop):Prop :=
 sm a->WT a 0 ([111,98,106,101,99,116]:List UInt8) b/\∀c,ki a 0 ([111,98,106,101,99,116]:List UInt8) b=c->sm c.1->iF (c.2.2 !=0) (Q ((⟨0,0,0,[]⟩:ae),0,c.2.1,c.2.2))
 (bD 0 c.1/\bD 1 c.1/\bD 2 c.1/\(l5P 1 (gi c.1 0) (gi c.1 1) (gi c.1 2) [] λd e (f:Int) g h i (j:List cJ)=>bD 3 c.1/\iF (dE (f<=gi c.1 3)) (WT a f ([114,111,119]:List UInt8) b/\(∀k,
 ki a f ([114,111,119]:List UInt8) b=k->sm k.1->iF (k.2.2 !=0) (Q ((⟨0,0,0,[]⟩:ae),0,k.2.1,k.2.2)) (bD 0 k.1/\bD 1 k.1/\bD 2 k.1/\bD 3 k.1/\j.length+[(⟨gi k.1 0,gi k.1 1,gi
 k.1 2,gi k.1 3⟩:cJ)].length<=1099511627776/\n5P d e (wI (f+1)) g h i (j++[(⟨gi k.1 0,gi k.1 1,gi k.1 2,gi k.1 3⟩:cJ)]) f g h i j))) (VC25_J1 a b Q c g h i j)))
def VC61_J1(Q:qB):Prop :=
 Q false
def VC61(a:gz)(b:Int)(Q:qB):Prop :=
 sm a->oM 0 λc d e=>iF (dE (e<lN a)) (bD e a/\iF (gi a e==b) (Q true) (oK c d (wI (e+1)) e)) (VC61_J1 Q)
def VC121_J1(Q:iV)(a:Int):Prop :=
 Q a
def VC121_J2(a:Rr)(b:Rq)(c d e:Int):Prop :=
 eM a b e (wI (d+1)) c d
def VC121(a:rJ)(b:Int)(Q:iV):Prop :=
 sm a->fj (-1) 0 λc d (e:Int) (f:Int)=>iF (dE (f<lN a)) (bD f a/\iF ((gi a f).cE==b) (VC121_J2 c d e f f) (VC121_J2 c d e f e)) (VC121_J1 Q e)
def VC62_J1(Q:uw)(a:gz):Prop :=
 Q a
def VC62_J2(a:A4)(b:A1)(c:gz)(d:Int)(e:gz):Prop :=
 eM a b e (wI (d+1)) c d
def VC62_J4(a:rJ)(b:A4)(c:A1)(d:gz)(e:Int)(f:gz)(g:Int):Prop :=
 ((0:Int)<=g/\g<=lN f)/\((0:Int)<=g/\g<=lN f)/\A3 ((([]:List Int).length+(f.take g.toNat).length<=1099511627776)/\((([]:List Int)++(f.take g.toNat)).length+[(gi a e).cE].length <=
 1099511627776)/\(((([]:List Int)++(f.take g.toNat))++[(gi a e).cE]).length+(f.drop g.toNat).length<=1099511627776)/\VC62_J2 b c d e (((([]:List Int)++(f.take g.toNat))++[(gi a e).cE])++(f.drop
 g.toNat)))
def VC62_J5(a:rJ)(b:A4)(c:A1)(d:gz)(e:Int)(f:A4)(g:A1)(h:gz)(i:Int)(j:gz)(k:Bool):Prop :=
 iF k (eM f g j (wI (i+1)) h i) (VC62_J4 a b c d e j i)
def VC62_J3(a:rJ)(b:A4)(c:A1)(d:gz)(e:Int)(f:gz)(g:Bool):Prop :=
 iF g (VC62_J2 b c d e f) (fj f 0 λh i j (k:Int)=>iF (dE (k<lN j)) (bD k j/\VC62_J5 a b c d e h i j k j (dE (gi j k<(gi a e).cE))) (VC62_J5 a b c d e h i j k j false))
def VC62(a:rJ)(Q:uw):Prop :=
 sm a->fj [] 0 λb c (d:gz) (e:Int)=>iF (dE (e<lN a)) (bD e a/\bD e a/\iF ((gi a e).cD !=1) (VC62_J3 a b c d e d true) (∀f,fG a (gi a e).cE=f->VC62_J3 a b c d e d (f !=e))) (VC62_J1 Q
 d)
def VC26_J1(a:rJ)(b:List ai)(c:Int)(Q:(ao×Int×Int)->Prop)(d e:Int):Prop :=
 MM b (gi b 0).Text [1,0] [1000,d] c/\∀f,jM b (gi b 0).Text [1,0] [1000,d] c=f->sm f.1->iF (f.2.2 !=0) (Q ((⟨e,0,0⟩:ao),f.2.1,f.2.2)) (bD 0 f.1/\bD 1 f.1/\ML a/\(∀g,
 lP a=g->sm g->∀h,pq g (gi f.1 0)=h->iF (h==(e==1)) (bD 0 b/\Q ((⟨e,gi f.1 0,gi f.1 1⟩:ao),(gi b 0).At,33)) (iF (lN a==10000) (bD 0 b/\Q ((⟨e,gi f.1 0,gi f.1 1⟩ :
 ao),(gi b 0).At,3)) (Q ((⟨e,gi f.1 0,gi f.1 1⟩:ao),c,0)))))
def VC26(a:ae)(b:rJ)(c:List ai)(d:Int)(Q:ao×Int×Int->Prop):Prop :=
 sm a.Rows->sm b->sm c->bD 0 c/\iF ((!((gi c 0).Text==([99,97,108,108]:List UInt8)))&&(!((gi c 0).Text==([114,101,116]:List UInt8)))) (bD 0 c/\Q ((⟨0,0,0⟩:ao),(gi c 0).At,8)) (iF
 ((gi c 0).Text==([99,97,108,108]:List UInt8)) (VC26_J1 b c d Q (wI (a.cV-1)) 1) (VC26_J1 b c d Q 1000000 2))
def VC10_J1(a:ug)(Q:(ae×(List ao)×Int×Int)->Prop)(b:ae×Int×Int×Int)(c:rJ):Prop :=
 Q (b.1,c,lN a,0)
def VC10(a:ug)(Q:ae×(List ao)×Int×Int->Prop):Prop :=
 iF (dE (lN a>1000000)) (Q ((⟨0,0,0,[]⟩:ae),[],0,3)) (sq a/\(∀b,iv a=b->sm b->WS b/\∀c,ju b=c->sm c->MK c (lN a)/\∀d,pU c (lN a)=d->sm
 d.1.Rows->iF (d.2.2.2 !=0) (Q ((⟨0,0,0,[]⟩:ae),[],d.2.2.1,d.2.2.2)) (fj [] d.2.1 λe f (g:rJ) h=>iF (dE (h<lN c)) (bD h c/\(sm (gi c h)->A2 ((KT d.1 g (gi c h) (lN a))/\∀i,
 ng d.1 g (gi c h) (lN a)=i->((i.2.2 !=0)=true->Q ((⟨0,0,0,[]⟩:ae),[],i.2.1,i.2.2))/\((i.2.2 !=0)=false->(g.length+[i.1].length<=1099511627776)/\e (g++[i.1]) (wI (h+1)) /\
 f (g++[i.1]) (wI (h+1))<f g h)))) (VC10_J1 a Q d g))))
def VC63(a:rJ)(b:Int)(Q:qB):Prop :=
 sm a->∀c,fG a b=c->iF (dE (c≥0)) (bD c a/\Q ((gi a c).cD==1)) (Q false)
def VC27_J1(a:rJ)(Q:pM):Prop :=
 Q (lN a,0)
def VC27_J2(Q:pM)(a:iV)(b:D5)(c:Int)(d:Bool):Prop :=
 iF d (Q (c,33)) (oK a b (wI (c+1)) c)
def VC27(a:rJ)(Q:uI):Prop :=
 sm a->iF (dE (lN a>10000)) (Q (0,3)) (oM 0 λb c d=>iF (dE (d<lN a)) (bD d a/\iF (((gi a d).cD !=1)&&((gi a d).cD !=2)) (Q (d,8)) (iF (dE ((gi a d).cE<1)||dE ((gi a d).cE>1000)) (Q (d,2))
 (iF (((gi a d).cD==1)&&(dE ((gi a d).N<0)||dE ((gi a d).N>63))) (Q (d,31)) (iF (((gi a d).cD==2)&&(dE ((gi a d).N<0)||dE ((gi a d).N>1000000))) (Q (d,7)) (iF ((gi a d).cD==1) (((0:Int) <=
 d/\d<=lN a)/\(∀e,lO (a.take d.toNat) (gi a d).cE=e->iF e (VC27_J2 Q b c d true) (iF ((gi a d).cD==2) (((0:Int)<=d/\d<=lN a)/\(∀f,lO (a.take d.toNat) (gi a d).cE=f->VC27_J2
 Q b c d (!f))) (VC27_J2 Q b c d false)))) (iF ((gi a d).cD==2) (((0:Int)<=d/\d<=lN a)/\(∀g,lO (a.take d.toNat) (gi a d).cE=g->VC27_J2 Q b c d (!g))) (VC27_J2 Q b c d false))))))) (VC27_J1 a Q))
def VC11_J1(Q:((List aj)×Int)->Prop)(a:mS):Prop :=
 Q (a,0)
def VC11_J2(a:(List aj)->Int->Prop)(b:(List aj)->Int->Nat)(c:mS)(d:Int)(e:mS):Prop :=
 eM a b e (wI (d+1)) c d
def VC11_J3(a:(List aj)->Int->Prop)(b:(List aj)->Int->Nat)(c:mS)(d:Int)(e:mS)(f g h i j:Int):Prop :=
 e.length+[(⟨f,g,h,i,j⟩:aj)].length<=1099511627776/\VC11_J2 a b c d (e++[(⟨f,g,h,i,j⟩:aj)])
def VC11_J4(a:(List aj)->Int->Int->Int->Int->Int->Int->Prop)(b:(List aj)->Int->Int->Int->Int->Int->Int->Nat)(c:mS)(d e f g h i:Int)(j:mS)(k l:Int):Prop :=
 n7P a b j (wI (d+1)) e f g k l c d e f g h i
def VC11(a:rJ)(Q:(List aj)×Int->Prop):Prop :=
 sm a->∀b,ov a=b->iF (b.2 !=0) (Q ([],b.2)) (fj [] 0 λc d (e:mS) (f:Int)=>iF (dE (f<lN a)) (bD f a/\iF ((gi a f).cD !=1) (VC11_J2 c d e f e) (bD f a/\bD f a/\(l7P e (wI (f+1))
 (gi a f).cE (gi a f).N f (-1) (-1) λg h i j k l m (n:Int) (o:Int)=>iF (dE (j<lN a)&&dE (n<0)) (bD j a/\bD f a/\iF ((gi a j).cE==(gi a f).cE) (bD j a/\VC11_J4 g h i j k l m n o i j (gi a j).N)
 (VC11_J4 g h i j k l m n o i n o)) (VC11_J3 c d e f i k l m n o)))) (VC11_J1 Q e))
def VC122(a b:aj)(Q:qB):Prop :=
 Q ((((a.cn==b.cn)||(a.End==b.cn))||(a.cn==b.End))||((a.End==b.End)&&(a.End !=(-1))))
def VC69(a b:aj)(Q:qB):Prop :=
 Q (dE (a.End≥0)&&dE (b.cn>a.End))
def VC64_J1(a:mS)(Q:pM):Prop :=
 Q (lN a,0)
def VC64_J2(Q:pM)(a:iV)(b:D5)(c:Int)(d:Bool):Prop :=
 iF d (Q (c,33)) (oK a b (wI (c+1)) c)
def VC64_J3(a:Bool->Int->Prop)(b:Bool->Int->Nat)(c:Bool)(d:Int)(e:Bool):Prop :=
 eM a b e (wI (d+1)) c d
def VC64_J4(a:mS)(Q:pM)(b:Int)(c:Bool->Int->Prop)(d:Bool->Int->Nat)(e:Bool)(f:Int)(g:Bool):Prop :=
 iF g (Q (b,32)) (iF e (VC64_J3 c d e f true) (bD f a/\iF ((gi a f).cE==(gi a b).cE) (bD f a/\(∀h,ou (gi a f) (gi a b)=h->VC64_J3 c d e f (!h))) (VC64_J3 c d e f false)))
def VC64(a:mS)(Q:uI):Prop :=
 sm a->iF (dE (lN a>5000)) (Q (0,3)) (oM 0 λb c d=>iF (dE (d<lN a)) (bD d a/\iF (((dE ((gi a d).cE<1)||dE ((gi a d).cE>1000))||dE ((gi a d).cn<0))||dE ((gi a d).cn>9999)) (Q (d,2))
 (iF (dE ((gi a d).Kind<0)||dE ((gi a d).Kind>63)) (Q (d,31)) (iF ((((gi a d).End==(-1))&&((gi a d).Result !=(-1)))||(((gi a d).End !=(-1))&&(((dE ((gi a d).End<=(gi a d).cn)||dE ((gi a d).End >
 9999))||dE ((gi a d).Result<0))||dE ((gi a d).Result>1000000)))) (Q (d,7)) (fj false 0 λe f g (h:Int)=>iF (dE (h<d)) (bD h a/\iF (dE ((gi a h).cn≥(gi a d).cn)) (VC64_J4 a Q d e f g h true)
 (bD h a/\(∀(i:Bool),True->VC64_J4 a Q d e f g h i))) (VC64_J2 Q b c d g))))) (VC64_J1 a Q))
def VC66(a b:Int)(Q:iV):Prop :=
 iF (((dE (a<0)||dE (a>64))||dE (b<1))||dE (b>32)) (Q 2) (Q 0)
def VC186(a b:Int)(Q:iV):Prop :=
 ∀c,du a b=c->iF (c !=0) (Q 0) (Q (wI (a+wI (wI (a*a)*wI (a-1)))))
def VC187(a b c:Int)(Q:iV):Prop :=
 ∀d,du a b=d->iF (((d !=0)||dE (c<0))||dE (c>2016)) (Q 0) (Q (wI ((wI ((wI (a*wI (a-1))).tdiv 2))*c)))
def VC188(a b:Int)(Q:iV):Prop :=
 ∀c,du a b=c->iF (c !=0) (Q 0) (Q (wI (1+(wI (wI (a+1)*(wI (1+(wI ((wI (b*wI (b-1))).tdiv 2)))))))))
def VC189_J1(Q:iV)(a:Int):Prop :=
 Q a
def VC189_J2(a:Rr)(b:Rq)(c d e:Int):Prop :=
 eM a b e (wI (d+1)) c d
def VC189(a b c:Int)(Q:iV):Prop :=
 ∀d,du a b=d->iF (((d !=0)||dE (c<0))||dE (c>a)) (Q 0) (fj 0 0 λe f (g:Int) (h:Int)=>iF (dE (h<a)) (iF (dE (h<c)) (VC189_J2 e f g h (wI (wI (g+1)+wI (a*b)))) (VC189_J2 e f g h
 (wI (g+wI (wI (2*a)*b))))) (VC189_J1 Q g))
def VC190_J1(Q:uw)(a:gz):Prop :=
 Q a
def VC190_J2(a:A4)(b:A1)(c:gz)(d:Int)(e:gz):Prop :=
 eM a b e (wI (d+1)) c d
def VC190(a:mS)(Q:uw):Prop :=
 sm a->fj [] 0 λb c (d:gz) (e:Int)=>iF (dE (e<lN a)) (bD e a/\iF ((gi a e).End==(-1)) (d.length+[e].length<=1099511627776/\VC190_J2 b c d e (d++[e])) (VC190_J2 b c d e d)) (VC190_J1 Q d)
def VC31_J1(Q:Ot)(a:uH):Prop :=
 Q a
def VC31_J2(a:Rp)(b:Ro)(c:uH)(d:Int)(e:uH):Prop :=
 eM a b e (wI (d+1)) c d
def VC31_J3(a:Rp)(b:Ro)(c:uH)(d:Int)(e:uH):Prop :=
 eM a b e (wI (d+1)) c d
def VC31(a:mS)(Q:Ot):Prop :=
 sm a->fj [] 0 λb c (d:uH) (e:Int)=>iF (dE (e<lN a)) (fj d 0 λf g h (i:Int)=>iF (dE (i<lN a)) (bD e a/\bD i a/\(∀j,ou (gi a e) (gi a i)=j->iF j (h.length+[(e,i)].length <=
 1099511627776/\VC31_J3 f g h i (h++[(e,i)])) (VC31_J3 f g h i h))) (VC31_J2 b c d e h)) (VC31_J1 Q d)
def VC123_J1(a b:Int)(c:mS)(Q:iV)(d:Bool):Prop :=
 iF d (Q 0) (∀(e:Int),True->AB c/\∀f,ot c f->sm f->∀(g:Int),True->∀(h:Int),True->AB c/\∀(i:(List Int)),True->sm i->∀(j:Int),True->Q (wI (wI (wI (e+g)+h)+j)))
def VC123(a b:Int)(c:mS)(Q:iV):Prop :=
 sm c->∀(d:Int×Int),True->iF (d.2 !=0) (VC123_J1 a b c Q true) (∀e,du a b=e->VC123_J1 a b c Q ((e !=0)||(lN c !=a)))
def VC65(a b:Int)(c:mS)(Q:iV):Prop :=
 sm c->Ck a b c/\∀(d:Int),True->iF (d==0) (Q 2) (iF (dE (d>500000)||(dE (wI (wI (wI (a*a)+a)+wI (wI (a+1)*b))>900))) (Q 3) (Q 0))
def VC28(a:ae)(b:mS)(Q:iV):Prop :=
 sm a.Rows->∀(_:sm b) c,cr a=c->∀(d:Int×Int),True->iF ((c.2 !=0)||(d.2 !=0)) (Q 2) (iF (dE (lN b>64)) (Q 3) (Ck (lN b) a.az b/\(∀(e:Int),True->Q e)))
def VC67(a b c d:Int)(Q:iV):Prop :=
 Q (wI (wI (wI (c*a)+d)+1))
def VC68_J1(Q:zt)(a:hZ):Prop :=
 Q a
def VC68_J2(a:rh)(b:rf)(c:hZ)(d:Int)(e:hZ):Prop :=
 eM a b e (wI (d+1)) c d
def VC68(a:gz)(Q:zt):Prop :=
 sm a->fj [] 0 λb c (d:hZ) (e:Int)=>iF (dE (e<lN a)) (fj d (wI (e+1)) λf g h i=>iF (dE (i<lN a)) (bD e a/\bD i a/\h.length+[[wI (0-gi a e),wI (0-gi a i)]].length<=1099511627776/\eM
 f g (h++[[wI (0-gi a e),wI (0-gi a i)]]) (wI (i+1)) h i) (VC68_J2 b c d e h)) (VC68_J1 Q d)
def VC29_J2(Q:zt)(a:hZ):Prop :=
 Q a
def VC29_J3(a:rh)(b:rf)(c:hZ)(d:Int)(e:hZ)(f:gz):Prop :=
 H4 f/\∀g,kg f g->sm g->e.length+g.length<=1099511627776/\eM a b (e++g) (wI (d+1)) c d
def VC29_J1(a b:Int)(Q:zt)(c:hZ):Prop :=
 fj c 0 λd e f (g:Int)=>iF (dE (g<a)) (IH f [] 0 λh i j (k:gz) (l:Int)=>iF (dE (l<a)) (∀(m:Int),True->k.length+[m].length<=1099511627776/\GD h i j (k++[m]) (wI (l+1)) j k l)
 (VC29_J3 d e f g j k)) (VC29_J2 Q f)
def VC29_J4(a:rh)(b:rf)(c:hZ)(d:Int)(e:hZ)(f:gz):Prop :=
 e.length+[f].length<=1099511627776/\H4 f/\∀g,kg f g->sm g->(e++[f]).length+g.length<=1099511627776/\eM a b ((e++[f])++g) (wI (d+1)) c d
def VC29(a b:Int)(Q:zt):Prop :=
 ∀c,du a b=c->iF (c !=0) (Q []) (fj [] 0 λd e (f:hZ) (g:Int)=>iF (dE (g<a)) (IH f [] 0 λh i j (k:gz) (l:Int)=>iF (dE (l<a)) (∀(m:Int),True->k.length+[m].length <=
 1099511627776/\GD h i j (k++[m]) (wI (l+1)) j k l) (VC29_J4 d e f g j k)) (VC29_J1 a b Q f))
def VC30_J1(Q:zt)(a:hZ):Prop :=
 Q a
def VC30_J3(a:rh)(b:rf)(c:hZ)(d:Int)(e:hZ):Prop :=
 eM a b e (wI (d+1)) c d
def VC30_J4(a:rh)(b:rf)(c:hZ)(d:Int)(e:hZ):Prop :=
 eM a b e (wI (d+1)) c d
def VC30_J2(a b:Int)(c:uH)(Q:zt)(d:rh)(e:rf)(f:hZ)(g:Int)(h:hZ)(i:Bool):Prop :=
 iF i (bD g c/\bD g c/\iF ((((dE ((gi c g).1<0)||dE ((gi c g).2<0))||dE ((gi c g).1≥a))||dE ((gi c g).2≥a))||((gi c g).1==(gi c g).2)) (VC30_J3 d e f g h) (fj h 0 λj k l (m:Int)=>iF (dE (m <
 a)) (fj l 0 λn o p (q:Int)=>iF (dE (q<m)) (∀(r:Int),True->∀(s:Int),True->p.length+[[wI (0-r),wI (0-s)]].length<=1099511627776/\eM n o (p++[[wI (0-r),wI (0-s)]]) (wI (q+1)) p q)
 (VC30_J4 j k l m p)) (VC30_J3 d e f g l))) (VC30_J1 Q h)
def VC30(a b:Int)(c:uH)(Q:zt):Prop :=
 sm c->fj [] 0 λd e (f:hZ) (g:Int)=>iF (dE (g<lN c)) (∀h,du a b=h->VC30_J2 a b c Q d e f g f (h==0)) (VC30_J2 a b c Q d e f g f false)
def VC70(a b c d:Int)(Q:iV):Prop :=
 Q (wI ((wI (wI (wI (wI (a*a)+a)+wI (c*b))+d))+1))
def VC32_J1(Q:zt)(a:hZ):Prop :=
 Q a
def VC32_J2(a:rh)(b:rf)(c:hZ)(d:Int)(e:hZ)(f:gz):Prop :=
 e.length+[f].length<=1099511627776/\H4 f/\∀g,kg f g->sm g->(e++[f]).length+g.length<=1099511627776/\eM a b ((e++[f])++g) (wI (d+1)) c d
def VC32(a b c:Int)(Q:zt):Prop :=
 ∀d,du a b=d->iF (((d !=0)||dE (c<0))||dE (c≥b)) (Q []) (∀(e:Int),True->([]:List (List Int)).length+[[e]].length<=1099511627776/\fj ([]++[[e]]) 0 λf g h (i:Int)=>iF (dE (i <=
 a)) (IH h [] 0 λj k l (m:gz) (n:Int)=>iF (dE (n<b)) (∀(o:Int),True->m.length+[o].length<=1099511627776/\GD j k l (m++[o]) (wI (n+1)) l m n) (VC32_J2 f g h i l m)) (VC32_J1 Q h))
def VC71(a:ae)(b:mS)(Q:uI):Prop :=
 sm a.Rows->∀(_:sm b) c,cr a=c->∀(d:Int×Int),True->iF ((c.2 !=0)||(d.2 !=0)) (Q (0,0)) (Q (lN b,a.az))
def VC72(a b c:Int)(Q:iV):Prop :=
 Q (wI (wI (wI (a*a)+c)+1))
def VC118_J1(Q:(Int×Int×Bool)->Prop):Prop :=
 Q (0,0,false)
def VC118_J2(a:ae)(Q:(Int×Int×Bool)->Prop)(b:iV)(c:D5)(d:Int)(e:Bool):Prop :=
 iF e (bD d a.Rows/\bD d a.Rows/\Q ((gi a.Rows d).Next,(gi a.Rows d).Result,true)) (oK b c (wI (d+1)) d)
def VC118(a:ae)(b c:Int)(Q:Int×Int×Bool->Prop):Prop :=
 sm a.Rows->oM 0 λd e f=>iF (dE (f<lN a.Rows)) (bD f a.Rows/\iF ((gi a.Rows f).State==b) (bD f a.Rows/\VC118_J2 a Q d e f ((gi a.Rows f).Kind==c)) (VC118_J2 a Q d e f false)) (VC118_J1 Q)
def VC73(a:ae)(b:aj)(c:Int)(Q:Int×Bool->Prop):Prop :=
 sm a.Rows->∀d,bN a c b.Kind=d->iF (d.2.2&&((b.End==(-1))||(b.Result==d.2.1))) (Q (d.1,true)) (Q (0,false))
def VC33_J1(Q:zt)(a:hZ):Prop :=
 Q a
def VC33_J2(a:rh)(b:rf)(c:hZ)(d:Int)(e:hZ):Prop :=
 eM a b e (wI (d+1)) c d
def VC33_J4(a:rh)(b:rf)(c:hZ)(d:Int)(e:hZ):Prop :=
 eM a b e (wI (d+1)) c d
def VC33_J5(a:rh)(b:rf)(c:hZ)(d:Int)(e:hZ):Prop :=
 eM a b e (wI (d+1)) c d
def VC33_J6(a:mS)(b:Int×Int)(c d e:Int)(f:rh)(g:rf)(h:hZ)(i j k:Int)(l:hZ):Prop :=
 bD c a/\iF ((gi a c).End==(-1)) (∀(m:Int),True->l.length+[[wI (0-j),d,wI (0-k),m]].length<=1099511627776/\VC33_J5 f g h i (l++[[wI (0-j),d,wI (0-k),m]])) (VC33_J5 f g h i l)
def VC33_J3(a:ae)(b:mS)(c:Int×Int)(d:rh)(e:rf)(f:hZ)(g h:Int)(i:hZ):Prop :=
 fj i 0 λj k l (m:Int)=>iF (dE (m<c.1)) (fj l 0 λn o p (q:Int)=>iF (dE (q<c.2)) (∀(r:Int),True->∀(s:Int),True->bD g b/\∀(t:Int×Bool),True->iF t.2 (∀(u:Int),True->p.length +
 [[wI (0-r),wI (0-h),wI (0-s),u]].length<=1099511627776/\VC33_J6 b c g h m n o p q r s (p++[[wI (0-r),wI (0-h),wI (0-s),u]])) (p.length+[[wI (0-r),wI (0-h),wI (0-s)]].length <=
 1099511627776/\VC33_J6 b c g h m n o p q r s (p++[[wI (0-r),wI (0-h),wI (0-s)]]))) (VC33_J4 j k l m p)) (VC33_J2 d e f g l)
def VC33(a:ae)(b:mS)(Q:zt):Prop :=
 sm a.Rows->∀(_:sm b) c,xr a b c->∀d,du c.1 c.2=d->iF (d !=0) (Q []) (fj [] 0 λe f (g:hZ) (h:Int)=>iF (dE (h<c.1)) (∀(i:Int),True->bD h b/\iF ((gi b h).End !=(-1))
 (g.length+[[i]].length<=1099511627776/\VC33_J3 a b c e f g h i (g++[[i]])) (VC33_J3 a b c e f g h i g)) (VC33_J1 Q g))
def VC5(a:ug)(Q:kz->Prop):Prop :=
 ∀b,dv a=b->sm b.1.Rows->sm b.2.1->iF (b.2.2.2 !=0) (Q (⟨(⟨0,0,0,[]⟩:ae),[],(⟨0,[]⟩:bJ),b.2.2.1,b.2.2.2,false⟩:kz)) (∀c,pT b.2.1=c->sm c.1->∀(d :
 (bJ)×Int),True->sm d.1.bL->Q (⟨b.1,c.1,d.1,0,d.2,(d.2 !=0)⟩:kz))
def VC280(a b:Int)(Q:uI):Prop :=
 Q (IntKind.u64.wrap ((IntKind.u64.wrap ((IntKind.u64.wrap (((a).fdiv (2^32))*((b).fdiv (2^32))))+(((IntKind.u64.wrap ((IntKind.u64.wrap (((a).fdiv (2^32))*(IntKind.u64.wrap ((BitVec.ofInt IntKind.u64.bits b
 &&& BitVec.ofInt IntKind.u64.bits 4294967295).toNat:Int))))+(((IntKind.u64.wrap ((IntKind.u64.wrap ((BitVec.ofInt IntKind.u64.bits a &&& BitVec.ofInt IntKind.u64.bits 4294967295).toNat:Int))*(IntKind.u64.wrap
 ((BitVec.ofInt IntKind.u64.bits b &&& BitVec.ofInt IntKind.u64.bits 4294967295).toNat:Int))))).fdiv (2^32))))).fdiv (2^32))))+(((IntKind.u64.wrap ((IntKind.u64.wrap ((BitVec.ofInt IntKind.u64.bits
 (IntKind.u64.wrap ((IntKind.u64.wrap (((a).fdiv (2^32))*(IntKind.u64.wrap ((BitVec.ofInt IntKind.u64.bits b &&& BitVec.ofInt IntKind.u64.bits 4294967295).toNat:Int))))+(((IntKind.u64.wrap ((IntKind.u64.wrap
 ((BitVec.ofInt IntKind.u64.bits a &&& BitVec.ofInt IntKind.u64.bits 4294967295).toNat:Int))*(IntKind.u64.wrap ((BitVec.ofInt IntKind.u64.bits b &&& BitVec.ofInt IntKind.u64.bits 4294967295).toNat:Int))))).fdiv (2
 ^ 32)))) &&& BitVec.ofInt IntKind.u64.bits 4294967295).toNat:Int))+(IntKind.u64.wrap ((IntKind.u64.wrap ((BitVec.ofInt IntKind.u64.bits a &&& BitVec.ofInt IntKind.u64.bits 4294967295).toNat:Int))*((b).fdiv (2 ^
 32))))))).fdiv (2^32))),IntKind.u64.wrap (a*b))
def VC214(a b:Int)(Q:uI):Prop :=
 xu a b/\∀c,lK a b=c->Q (c.1,c.2)
def VC130_J1(Q:uw)(a:gz):Prop :=
 Q a
def VC130(a:gz)(b:Int)(Q:uw):Prop :=
 sm a->iF (dE (b<0)) False (xu (IntKind.u64.wrap (lN a)) (IntKind.u64.wrap b)/\(∀c,gH (IntKind.u64.wrap (lN a)) (IntKind.u64.wrap b)=c->iF (dE (c.1>0)||dE (c.2>9223372036854775807)) False
 (((0:Int)<=wI c.2/\(wI c.2)<=wI c.2/\(wI c.2)<=1099511627776)/\(fj ((List.replicate (wI c.2).toNat (0:Int)).take 0++a.take ((List.replicate (wI c.2).toNat (0:Int)).length-0)++(List.replicate (wI
 c.2).toNat (0:Int)).drop (0+min a.length ((List.replicate (wI c.2).toNat (0:Int)).length-0))) ((min a.length ((List.replicate (wI c.2).toNat (0:Int)).length-0):Nat):Int) λd e f g=>iF (dE (g<lN f))
 (((0:Int)<=g/\g<=lN f)/\((0:Int)<=g/\g<=lN f)/\eM d e (f.take g.toNat++(f.take g.toNat).take (f.length-g.toNat)++f.drop (g.toNat+min (f.take g.toNat).length (f.length-g.toNat))) (wI (g+((min
 (f.take g.toNat).length (f.length-g.toNat):Nat):Int))) f g) (VC130_J1 Q f)))))
def VC129(a b:Int)(Q:uw):Prop :=
 KS [a] b/\∀c,fA [a] b=c->sm c->Q c
def VC78(a:Int)(Q:(List Int)×(List Int)->Prop):Prop :=
 H7 0 a/\∀b,kL 0 a=b->sm b->H7 1000000 a/\∀c,kL 1000000 a=c->sm c->Q (b,c)
def VC79_J1(Q:((List ai)×(List (List ai)))->Prop):Prop :=
 Q ([],[])
def VC79(a:xi)(Q:(List ai)×(List (List ai))->Prop):Prop :=
 sm a->oM 0 λb c d=>iF (dE (d<lN a)) (bD d a/\(sm (gi a d)->iF (dE (lN (gi a d)>0)) (((0:Int)<=wI (d+1)/\(wI (d+1))<=lN a)/\Q (gi a d,a.drop (wI (d+1)).toNat)) (oK b c (wI (d+1)) d)))
 (VC79_J1 Q)
def VC218(a b:ug)(Q:qB):Prop :=
 iF (dE (lN a≥lN b)) (((0:Int)<=lN b/\(lN b)<=lN a)/\Q ((a.take (lN b).toNat)==b)) (Q false)
def VC368(a b:ug)(Q:(List UInt8)×Bool->Prop):Prop :=
 lQ a b/\∀c,cB a b=c->iF (!c) (Q (a,false)) (((0:Int)<=lN b/\(lN b)<=lN a)/\Q ((a.drop (lN b).toNat),true))
def VC281(a b:ug)(Q:(List UInt8)×Bool->Prop):Prop :=
 lQ a b/\∀c,cC a b=c->Q (c.1,c.2)
def VC215_J2(Q:aay)(a:(List UInt8)×Bool):Prop :=
 Q (a.1,a.2,true)
def VC215_J3(Q:aay)(a:iV)(b:D5)(c:Int)(d:Bool):Prop :=
 iF d (Q (([]:List UInt8),false,false)) (oK a b (wI (c+1)) c)
def VC215_J1(Q:aay)(a:(List UInt8)×Bool)(b:Bool):Prop :=
 iF b (Q (([]:List UInt8),false,false)) (oM 0 λc d e=>iF (dE (e<lN a.1)) (bD e a.1/\iF (dE (((gi a.1 e).toNat:Int)<48)) (VC215_J3 Q c d e true) (bD e a.1/\VC215_J3 Q c d e (dE (((gi a.1 e).toNat :
 Int)>57)))) (VC215_J2 Q a))
def VC215(a:ug)(Q:(List UInt8)×Bool×Bool->Prop):Prop :=
 lQ a ([45]:List UInt8)/\∀b,ir a ([45]:List UInt8)=b->iF (b.1==([]:List UInt8)) (VC215_J1 Q b true) (bD 0 b.1/\VC215_J1 Q b ((((gi b.1 0).toNat:Int)==48)&&(dE (lN b.1>1) ||
 b.2)))
def VC131_J2(a b:Int)(Q:pM)(c:Int):Prop :=
 iF (dE (c<a)||dE (c>b)) (Q (0,7)) (Q (c,0))
def VC131_J1(a b:Int)(Q:pM)(c:(List UInt8)×Bool×Bool)(d:Int):Prop :=
 iF (dE (d>9223372036854775807)&&(!(c.2.1&&(d==9223372036854775808)))) (Q (0,7)) (iF c.2.1 (VC131_J2 a b Q (wI (0-wI d))) (VC131_J2 a b Q (wI d)))
def VC131(a:ug)(b c:Int)(Q:uI):Prop :=
 sq a/\∀d,gG a=d->iF (!d.2.2) (Q (0,5)) (fj 0 0 λe f (g:Int) (h:Int)=>iF (dE (h<lN d.1)) (iF (dE (g>1844674407370955160)) (Q (0,7)) (bD h d.1/\eM e f (IntKind.u64.wrap
 ((IntKind.u64.wrap (10*g))+(IntKind.u64.wrap (IntKind.u8.wrap (((gi d.1 h).toNat:Int)-48))))) (wI (h+1)) g h)) (VC131_J1 b c Q d g))
def VC80_J1(a:List ai)(b:Int)(Q:aaz)(c:gz):Prop :=
 iF (dE (lN a>wI (lN c+1))) (bD (wI (lN c+1)) a/\Q ([],(gi a (wI (lN c+1))).At,6)) (Q (c,b,0))
def VC80(a:List ai)(b:ug)(c d:gz)(e:Int)(Q:Wk):Prop :=
 sm a->sm c->sm d->iF (lN a==0) (Q ([],e,4)) (bD 0 a/\iF (!((gi a 0).Text==b)) (bD 0 a/\Q ([],(gi a 0).At,8)) (bD (wI (lN a-1)) a/\(fj [] 0 λf g (h:gz) (i:Int)=>iF (dE (i<(if(lN d) <
 (lN c)then(lN d)else(lN c)))) (iF (dE (wI (i+1)≥lN a)) (Q ([],wI ((gi a (wI (lN a-1))).At+((((gi a (wI (lN a-1))).Text).length:Nat):Int)),4)) (bD (wI (i+1)) a/\bD i c/\bD i d/\zE (gi a
 (wI (i+1))).Text (gi c i) (gi d i)/\(∀j,mg (gi a (wI (i+1))).Text (gi c i) (gi d i)=j->iF (j.2 !=0) (Q ([],(gi a (wI (i+1))).At,j.2)) (h.length+[j.1].length<=1099511627776/\eM f g (h ++
 [j.1]) (wI (i+1)) h i)))) (VC80_J1 a e Q h))))
def VC132(a b:Int)(Q:qB):Prop :=
 Q (dE (a≥0)&&dE (a<b))
def VC282_J1(Q:iV):Prop :=
 Q 0
def VC282(a:gz)(Q:iV):Prop :=
 sm a->oM 0 λb c d=>iF (dE (d<lN a)) (bD d a/\iF (gi a d !=0) (Q (gi a d)) (oK b c (wI (d+1)) d)) (VC282_J1 Q)
def VC316(a:Int)(Q:qB):Prop :=
 Q (a !=a)
def VC283(a b:Int)(Q:iV):Prop :=
 ∀c,cmp_isNaN_int a=c->∀d,cmp_isNaN_int b=d->iF c (iF d (Q 0) (Q (-1))) (iF d (Q 1) (iF (dE (a<b)) (Q (-1)) (iF (dE (a>b)) (Q 1) (Q 0))))
def VC216(a b:cJ)(Q:iV):Prop :=
 ∀c,fw a.State b.State=c->∀d,fw a.Kind b.Kind=d->∀e,lX [c,d]=e->Q e
def VC133_J2(Q:iV)(a:Bool):Prop :=
 iF a (Q 32) (Q 0)
def VC133_J1(a:ae)(b:Int)(Q:iV)(c:Bool):Prop :=
 iF c (Q 30) (∀d,dk (gi a.Rows b).Kind a.cV=d->iF (!d) (Q 31) (∀e,dk (gi a.Rows b).Result 1000001=e->iF (!e) (Q 7) (iF (dE (b>0)) (bD (wI (b-1)) a.Rows/\(∀f,mA (gi
 a.Rows (wI (b-1))) (gi a.Rows b)=f->VC133_J2 Q (dE (f≥0)))) (VC133_J2 Q false))))
def VC133(a:ae)(b:Int)(Q:iV):Prop :=
 sm a.Rows->bD b a.Rows/\∀c,dk (gi a.Rows b).State a.az=c->iF (!c) (VC133_J1 a b Q true) (∀d,dk (gi a.Rows b).Next a.az=d->VC133_J1 a b Q (!d))
def VC81_J2(a:ae)(Q:pM):Prop :=
 Q (lN a.Rows,0)
def VC81_J1(a:ae)(Q:pM)(b:Bool):Prop :=
 iF b (Q ((-1),2)) (oM 0 λc d e=>iF (dE (e<lN a.Rows)) (KR a e/\(∀f,p8 a e=f->iF (f !=0) (Q (e,f)) (oK c d (wI (e+1)) e))) (VC81_J2 a Q))
def VC81(a:ae)(Q:uI):Prop :=
 sm a.Rows->∀b,dk (wI (a.az-1)) 32=b->iF (!b) (VC81_J1 a Q true) (∀c,dk (wI (a.cV-1)) 64=c->iF (!c) (VC81_J1 a Q true) (∀d,dk a.eZ a.az=d->VC81_J1 a Q
 (!d)))
def VC35_J1(a:Int)(Q:(ae×(List (List ai))×Int×Int)->Prop)(b:(List ai)×(List (List ai)))(c:xi)(d:gz)(e f g:Int)(h:List cJ):Prop :=
 Ea (⟨e,f,g,h⟩:ae)/\∀i,aJ (⟨e,f,g,h⟩:ae)=i->iF (i.2 !=0) (bD 0 b.1/\[(gi b.1 0).At].length+d.length<=1099511627776/\A5 ((0:Int)<=wI (i.1+1)/\(wI (i.1+1)) <
 lN ([(gi b.1 0).At]++d)) (Q ((⟨0,0,0,[]⟩:ae),[],gi ([(gi b.1 0).At]++d) (wI (i.1+1)),i.2))) (Q ((⟨e,f,g,h⟩:ae),c,a,0))
def VC35(a:xi)(b:Int)(Q:ae×(List (List ai))×Int×Int->Prop):Prop :=
 sm a->SJ 4/\∀c,mz 4=c->sm c.1->∀(_:sm c.2) d,jw a=d->sm d.1->sm d.2->H3 d.1 ([111,98,106,101,99,116]:List UInt8) c.1 c.2 b/\∀e,eU d.1 ([111,
 98,106,101,99,116]:List UInt8) c.1 c.2 b=e->sm e.1->iF (e.2.2 !=0) (Q ((⟨0,0,0,[]⟩:ae),[],e.2.1,e.2.2)) (bD 0 e.1/\bD 1 e.1/\bD 2 e.1/\bD 3 e.1/\(l7P d.2 ([]:List Int) 0 (gi e.1 0)
 (gi e.1 1) (gi e.1 2) [] λf g h i (j:Int) k l m (n:List cJ)=>iF (dE (j<gi e.1 3)) (∀o,jw h=o->sm o.1->sm o.2->H3 o.1 ([114,111,119]:List UInt8) c.1 c.2 b/\∀p,
 eU o.1 ([114,111,119]:List UInt8) c.1 c.2 b=p->sm p.1->iF (p.2.2 !=0) (Q ((⟨0,0,0,[]⟩:ae),[],p.2.1,p.2.2)) (bD 0 o.1/\i.length+[(gi o.1 0).At].length<=1099511627776/\bD 0
 p.1/\bD 1 p.1/\bD 2 p.1/\bD 3 p.1/\n.length+[(⟨gi p.1 0,gi p.1 1,gi p.1 2,gi p.1 3⟩:cJ)].length<=1099511627776/\n7P f g o.2 (i++[(gi o.1 0).At]) (wI (j+1)) k l m (n++[(⟨gi p.1 0,gi p.1 1,
 gi p.1 2,gi p.1 3⟩:cJ)]) h i j k l m n)) (VC35_J1 b Q d h i k l m n)))
def VC134(a b:ug)(Q:(List UInt8)×(List UInt8)×Bool->Prop):Prop :=
 uX a b/\∀c,bG a b=c->iF (dE (c≥0)) (((0:Int)<=c/\c<=lN a)/\((0:Int)<=wI (c+lN b)/\(wI (c+lN b))<=lN a)/\Q ((a.take c.toNat),(a.drop (wI (c+lN b)).toNat),
 true)) (Q (a,([]:List UInt8),false))
def VC82(a b:ug)(Q:(List UInt8)×(List UInt8)×Bool->Prop):Prop :=
 uX a b/\∀c,dJ a b=c->Q (c.1,c.2.1,c.2.2)
def VC135(a b:ug)(Q:qB):Prop :=
 lQ a b/\∀c,cB a b=c->Q c
def VC83_J1(a:ug)(b c:Int)(d:aax)(e:(List ai)->Int->Int->Nat)(f:aax)(g:(List ai)->Int->Int->Nat)(h:List ai)(i j:Int)(k:List ai)(l:Bool):Prop :=
 iF l (f k (wI (i+1)) j/\g k (wI (i+1)) j<g h i j) (((0:Int)<=j/\(j:Int)<=wI (i+1)/\(wI (i+1))<=lN a)/\k.length+[(⟨b,wI (c+j),((a.take (wI (i+1)).toNat).drop j.toNat)⟩ :
 ai)].length<=1099511627776/\d (k++[(⟨b,wI (c+j),((a.take (wI (i+1)).toNat).drop j.toNat)⟩:ai)]) (wI (i+1)) j/\e (k++[(⟨b,wI (c+j),((a.take (wI (i+1)).toNat).drop j.toNat)⟩ :
 ai)]) (wI (i+1)) j<g h i j)
def VC83_J2(Q:(List ai)->Prop)(a:aax)(b:Bool):Prop :=
 iF b (Q []) (a [] 0 0)
def VC83(a:ug)(b c:Int)(Q:(List ai)->Prop):Prop :=
 ∃(d:(List ai)->Int->Int->Prop) (e:(List ai)->Int->Int->Nat) (f:(List ai)->Int->Int->Prop) (g:(List ai)->Int->Int->Nat),iF (a==([99]:List UInt8))
 (VC83_J2 Q d true) (lQ a ([99,32]:List UInt8)/\(∀h,fX a ([99,32]:List UInt8)=h->VC83_J2 Q d h))/\(∀(i:List ai)(j:Int)(k:Int),d i j k->iF (j==lN a) (Q i) (bD j a
 /\ (∀l,strings_IndexByte ([32,9,13]:List UInt8) ((gi a j).toNat:Int)=l->iF (dE (l≥0)) (d i (wI (j+1)) k/\e i (wI (j+1)) k<e i j k) (f i j j/\g i j j<=e i j k))))/\∀(i:List ai)(j :
 Int) (k:Int),f i j k->iF (dE (wI (j+1)<lN a)) (bD (wI (j+1)) a/\(∀m,strings_IndexByte ([32,9,13]:List UInt8) ((gi a (wI (j+1))).toNat:Int)=m->VC83_J1 a b c d e f g i j k i (dE (m<0))))
 (VC83_J1 a b c d e f g i j k i false)
def VC36_J1(Q:Ow)(a:xi):Prop :=
 Q a
def VC36(a:ug)(Q:Ow):Prop :=
 fj [] 0 λb c (d:xi) (e:Int)=>iF (dE (e<lN a)) (((0:Int)<=e/\e<=lN a)/\uX (a.drop e.toNat) ([10]:List UInt8)/\(∀f,og (a.drop e.toNat) ([10]:List UInt8)=f->KP f.1 (wI (lN
 d+1)) e/\∀g,jq f.1 (wI (lN d+1)) e=g->sm g->d.length+[g].length<=1099511627776/\eM b c (d++[g]) (wI (e+wI (lN f.1+1))) d e)) (VC36_J1 Q d)
def VC84_J1(a:List ai)(b:Int)(c:uH)(Q:(ao×Int×Int×(List (Int×Int)))->Prop)(d:gz)(e:Int):Prop :=
 bD 0 a/\H3 a (gi a 0).Text [1,0] d b/\∀f,eU a (gi a 0).Text [1,0] d b=f->sm f.1->iF (f.2.2 !=0) (Q ((⟨e,0,0⟩:ao),f.2.1,f.2.2,c)) (bD 0 f.1/\bD 1 f.1/\iF ((((bB c (gi
 f.1 0)).getD 0)==1)==(e==1)) (bD 0 a/\Q ((⟨e,gi f.1 0,gi f.1 1⟩:ao),(gi a 0).At,33,c)) (Q ((⟨e,gi f.1 0,gi f.1 1⟩:ao),b,0,iU c (gi f.1 0) e)))
def VC84(a:List ai)(b:ae)(c:Int)(d:uH)(Q:ao×Int×Int×(List (Int×Int))->Prop):Prop :=
 sm a->sm b.Rows->bD 0 a/\iF ((gi a 0).Text==([99,97,108,108]:List UInt8)) (bD 1 [1000,1000000]/\VC84_J1 a c d Q ([1000,1000000].set (1:Int).toNat (wI (b.cV-1))) 1) (iF ((gi a 0).Text==([114,
 101,116]:List UInt8)) (VC84_J1 a c d Q [1000,1000000] 2) (bD 0 a/\Q ((⟨2,0,0⟩:ao),(gi a 0).At,8,d)))
def VC14_J1(a:ug)(Q:(dp×Int×Int)->Prop)(b c d:Int)(e:List cJ)(f:rJ):Prop :=
 Q ((⟨(⟨b,c,d,e⟩:ae),f⟩:dp),lN a,0)
def VC14_J2(a:Int->Int->Int->Int->(List cJ)->(List ao)->(List (Int×Int))->Prop)(b:Int->Int->Int->Int->(List cJ)->(List ao)->(List (Int×Int))->Nat)(c d e f:Int)(g:List cJ)(h:rJ)(i:uH)(j:rJ)(k:uH):Prop :=
 n7P a b (wI (c+1)) d e f g j k c d e f g h i
def VC14(a:ug)(Q:dp×Int×Int->Prop):Prop :=
 iF (dE (lN a>1000000)) (Q ((⟨(⟨0,0,0,[]⟩:ae),[]⟩:dp),0,3)) (sq a/\(∀b,cK a=b->sm b->HY b (lN a)/\∀c,fM b (lN a)=c->sm c.1.Rows->sm c.2.1->iF
 (c.2.2.2 !=0) (Q ((⟨(⟨0,0,0,[]⟩:ae),[]⟩:dp),c.2.2.1,c.2.2.2)) (l7P 0 c.1.az c.1.cV c.1.eZ c.1.Rows [] [] λd e (f:Int) g h i j (k:rJ) (l:uH)=>iF (dE (f<lN c.2.1))
 (bD f c.2.1/\(sm (gi c.2.1 f)->iF (lN (gi c.2.1 f)==0) (VC14_J2 d e f g h i j k l k l) (SD (gi c.2.1 f) c.1 (lN a) l/\(∀m,fo (gi c.2.1 f) c.1 (lN a) l=m->iF (m.2.2.1 !=0) (Q ((⟨(⟨0,0,
 0,[]⟩:ae),[]⟩:dp),m.2.1,m.2.2.1)) (iF (dE (lN k≥10000)) (bD 0 (gi c.2.1 f)/\Q ((⟨(⟨0,0,0,[]⟩:ae),[]⟩:dp),(gi (gi c.2.1 f) 0).At,3)) (k.length+[m.1].length <=
 1099511627776/\VC14_J2 d e f g h i j k l (k++[m.1]) m.2.2.2)))))) (VC14_J1 a Q g h i j k))))
def VC140(a:ao)(Q:iV):Prop :=
 iF ((a.cD !=1)&&(a.cD !=2)) (Q 8) (iF (dE (a.cE<1)||dE (a.cE>1000)) (Q 2) (iF ((a.cD==1)&&(dE (a.N<0)||dE (a.N≥64))) (Q 31) (iF ((a.cD==2)&&(dE (a.N<0)||dE (a.N>1000000))) (Q 7)
 (Q 0))))
def VC88_J1(a:rJ)(Q:pM):Prop :=
 Q (lN a,0)
def VC88(a:rJ)(Q:uI):Prop :=
 sm a->iF (dE (lN a>10000)) (Q (0,3)) (fj ([]:List (Int×Int)) 0 λb c d (e:Int)=>iF (dE (e<lN a)) (bD e a/\(∀f,l8 (gi a e)=f->iF (f !=0) (Q (e,f)) (iF ((((bB d (gi a e).cE).getD 0)
 == 1)==((gi a e).cD==1)) (Q (e,33)) (eM b c (iU d (gi a e).cE (gi a e).cD) (wI (e+1)) d e)))) (VC88_J1 a Q))
def VC41_J1(Q:((List aj)×Int)->Prop)(a:mS):Prop :=
 Q (a,0)
def VC41_J2(a:(List aj)->(List (Int×Int))->Int->Prop)(b:(List aj)->(List (Int×Int))->Int->Nat)(c:mS)(d:uH)(e:Int)(f:mS)(g:uH):Prop :=
 GD a b f g (wI (e+1)) c d e
def VC41(a:rJ)(Q:(List aj)×Int->Prop):Prop :=
 sm a->∀b,eO a=b->iF (b.2 !=0) (Q ([],b.2)) (IH [] ([]:List (Int×Int)) 0 λc d (e:mS) f (g:Int)=>iF (dE (g<lN a)) (bD g a/\iF ((gi a g).cD==1) (e.length+[(⟨(gi a g).cE,(gi a
 g).N,g,(-1),(-1)⟩:aj)].length<=1099511627776/\VC41_J2 c d e f g (e++[(⟨(gi a g).cE,(gi a g).N,g,(-1),(-1)⟩:aj)]) (iU f (gi a g).cE (lN e))) (bD ((bB f (gi a g).cE).getD 0) e/\VC41_J2
 c d e f g ((e.set ((bB f (gi a g).cE).getD 0).toNat (⟨(gi e ((bB f (gi a g).cE).getD 0)).cE,(gi e ((bB f (gi a g).cE).getD 0)).Kind,(gi e ((bB f (gi a g).cE).getD 0)).cn,g,(gi e ((bB f (gi a
 g).cE).getD 0)).Result⟩:aj)).set ((bB f (gi a g).cE).getD 0).toNat (⟨(gi (e.set ((bB f (gi a g).cE).getD 0).toNat (⟨(gi e ((bB f (gi a g).cE).getD 0)).cE,(gi e ((bB f (gi a g).cE).getD 0)).Kind,
 (gi e ((bB f (gi a g).cE).getD 0)).cn,g,(gi e ((bB f (gi a g).cE).getD 0)).Result⟩:aj)) ((bB f (gi a g).cE).getD 0)).cE,(gi (e.set ((bB f (gi a g).cE).getD 0).toNat (⟨(gi e ((bB f (gi a
 g).cE).getD 0)).cE,(gi e ((bB f (gi a g).cE).getD 0)).Kind,(gi e ((bB f (gi a g).cE).getD 0)).cn,g,(gi e ((bB f (gi a g).cE).getD 0)).Result⟩:aj)) ((bB f (gi a g).cE).getD 0)).Kind,(gi
 (e.set ((bB f (gi a g).cE).getD 0).toNat (⟨(gi e ((bB f (gi a g).cE).getD 0)).cE,(gi e ((bB f (gi a g).cE).getD 0)).Kind,(gi e ((bB f (gi a g).cE).getD 0)).cn,g,(gi e ((bB f (gi a g).cE).getD
 0)).Result⟩:aj)) ((bB f (gi a g).cE).getD 0)).cn,(gi (e.set ((bB f (gi a g).cE).getD 0).toNat (⟨(gi e ((bB f (gi a g).cE).getD 0)).cE,(gi e ((bB f (gi a g).cE).getD 0)).Kind,(gi e ((bB f (gi
 a g).cE).getD 0)).cn,g,(gi e ((bB f (gi a g).cE).getD 0)).Result⟩:aj)) ((bB f (gi a g).cE).getD 0)).End,(gi a g).N⟩:aj)) f)) (VC41_J1 Q e))
def VC152(a:Bj)(Q:iV):Prop :=
 iF (((dE (a.bI<0)||dE (a.bI>64))||dE (a.az<1))||dE (a.az>32)) (Q 2) (Q 0)
def VC154(a b:Int)(Q:cH->Prop):Prop :=
 Q (⟨1,b,a⟩:cH)
def VC166(a:Bj)(b:Int)(Q:Int×Int×Int->Prop):Prop :=
 iF (b==1) (Q (0,a.bI,a.bI)) (iF (b==2) (Q (wI (a.bI*a.bI),1,a.bI)) (Q (wI (wI (a.bI*a.bI)+a.bI),a.az,wI (a.bI+1))))
def VC158(a:Bj)(b:cH)(Q:iV):Prop :=
 ∀c,au a=c->iF (((c !=0)||dE (b.Kind<=0))||dE (b.Kind>3)) (Q 0) (∀d,dY a b.Kind=d->iF (((dE (b.A<0)||dE (b.A≥d.2.2))||dE (b.B<0))||dE (b.B≥d.2.1)) (Q 0) (Q
 (wI (wI (wI (d.1+wI (b.A*d.2.1))+b.B)+1))))
def VC153_154_J1(Q:uw)(a:gz):Prop :=
 Q a
def VC153_154(a:Bj)(b:Int)(Q:uw):Prop :=
 ((0:Int)<=a.bI/\a.bI<=a.bI/\a.bI<=1099511627776)/\fj (List.replicate a.bI.toNat (0:Int)) 0 λc d e (f:Int)=>iF (dE (f<lN (List.replicate a.bI.toNat (0:Int)))) (∀g,kH f b=g
 -> ∀h,cw a g=h->bD f e/\eM c d (e.set f.toNat h) (wI (f+1)) e f) (VC153_154_J1 Q e)
def VC156(a b:Int)(Q:cH->Prop):Prop :=
 Q (⟨1,a,b⟩:cH)
def VC153_156_J1(Q:uw)(a:gz):Prop :=
 Q a
def VC153_156(a:Bj)(b:Int)(Q:uw):Prop :=
 ((0:Int)<=a.bI/\a.bI<=a.bI/\a.bI<=1099511627776)/\fj (List.replicate a.bI.toNat (0:Int)) 0 λc d e (f:Int)=>iF (dE (f<lN (List.replicate a.bI.toNat (0:Int)))) (∀g,kG f b=g
 -> ∀h,cw a g=h->bD f e/\eM c d (e.set f.toNat h) (wI (f+1)) e f) (VC153_156_J1 Q e)
def VC155_J1(Q:zt)(a:hZ):Prop :=
 Q a
def VC155_J2(a:rh)(b:rf)(c:hZ)(d:Int)(e:hZ):Prop :=
 eM a b e (wI (d+1)) c d
def VC155(a:gz)(Q:zt):Prop :=
 sm a->fj [] 0 λb c (d:hZ) (e:Int)=>iF (dE (e<lN a)) (bD e a/\((0:Int)<=wI (e+1)/\(wI (e+1))<=lN a)/\(fj d 0 λf g h (i:Int)=>iF (dE (i<(((a.drop (wI (e+1)).toNat).length:Nat) :
 Int))) (bD i (a.drop (wI (e+1)).toNat)/\h.length+[[wI (0-gi a e),wI (0-gi (a.drop (wI (e+1)).toNat) i)]].length<=1099511627776/\eM f g (h++[[wI (0-gi a e),wI (0-gi (a.drop (wI (e+1)).toNat)
 i)]]) (wI (i+1)) h i) (VC155_J2 b c d e h))) (VC155_J1 Q d)
def VC100_J2(Q:zt)(a:hZ):Prop :=
 Q a
def VC100_J1(a:Bj)(Q:zt)(b:hZ):Prop :=
 fj b 0 λc d e (f:Int)=>iF (dE (f<a.bI)) (vW a f/\(∀g,dP a f=g->sm g->oY g/\∀h,iw g=h->sm h->e.length+h.length<=1099511627776/\eM c d (e ++
 h) (wI (f+1)) e f)) (VC100_J2 Q e)
def VC100(a:Bj)(Q:zt):Prop :=
 ∀b,au a=b->iF (b !=0) (Q []) (fj [] 0 λc d (e:hZ) (f:Int)=>iF (dE (f<a.bI)) (vW a f/\(∀g,dQ a f=g->sm g->e.length+[g].length<=1099511627776 /\
 oY g/\∀h,iw g=h->sm h->(e++[g]).length+h.length<=1099511627776/\eM c d ((e++[g])++h) (wI (f+1)) e f)) (VC100_J1 a Q e))
def VC157(a b:Int)(c:Bj)(Q:iV):Prop :=
 ∀d,cw c (⟨1,a,b⟩:cH)=d->Q d
def VC159(a:Int×Int)(b:Int)(Q:qB):Prop :=
 Q ((dE ((if a.2<a.1 then a.2 else a.1)≥0)&&dE ((if a.2>a.1 then a.2 else a.1)<b))&&(a.1 !=a.2))
def VC101_J1(Q:zt)(a:hZ):Prop :=
 Q a
def VC101_J2(a:rh)(b:rf)(c:hZ)(d:Int)(e:hZ):Prop :=
 eM a b e (wI (d+1)) c d
def VC101_J3(a:rh)(b:rf)(c:hZ)(d:Int)(e:hZ):Prop :=
 eM a b e (wI (d+1)) c d
def VC101(a:Bj)(b:uH)(Q:zt):Prop :=
 sm b->∀c,au a=c->iF (c !=0) (Q []) (fj [] 0 λd e (f:hZ) (g:Int)=>iF (dE (g<lN b)) (bD g b/\(∀h,gB ((gi b g).1,(gi b g).2) a.bI=h->iF (!h) (VC101_J2 d e f g f) (fj
 f 0 λi j k (l:Int)=>iF (dE (l<a.bI)) (fj k 0 λm n o (p:Int)=>iF (dE (p<l)) (∀q,jD (gi b g).1 l a=q->∀r,jD (gi b g).2 p a=r->o.length+[[wI (0-q),wI (0 -
 r)]].length<=1099511627776/\eM m n (o++[[wI (0-q),wI (0-r)]]) (wI (p+1)) o p) (VC101_J3 i j k l o)) (VC101_J2 d e f g k)))) (VC101_J1 Q f))
def VC160(a b:aj)(Q:qB):Prop :=
 Q (dE (a.End≥0)&&dE (a.End<b.cn))
def VC102_J1(Q:Ot)(a:uH):Prop :=
 Q a
def VC102_J2(a:Rp)(b:Ro)(c:uH)(d:Int)(e:uH):Prop :=
 eM a b e (wI (d+1)) c d
def VC102_J3(a:Rp)(b:Ro)(c:uH)(d:Int)(e:uH):Prop :=
 eM a b e (wI (d+1)) c d
def VC102(a:mS)(Q:Ot):Prop :=
 sm a->fj [] 0 λb c (d:uH) (e:Int)=>iF (dE (e<lN a)) (bD e a/\(fj d 0 λf g h (i:Int)=>iF (dE (i<lN a)) (bD i a/\(∀j,cY (gi a e) (gi a i)=j->iF j (h.length+[(e,i)].length <=
 1099511627776/\VC102_J3 f g h i (h++[(e,i)])) (VC102_J3 f g h i h))) (VC102_J2 b c d e h))) (VC102_J1 Q d)
def VC161(a:Bj)(b c:Int)(Q:iV):Prop :=
 ∀d,cw a (⟨3,b,c⟩:cH)=d->Q d
def VC163(a:Int)(b:Bj)(c:Int)(Q:iV):Prop :=
 ∀d,cA b c a=d->Q d
def VC162_163_J1(Q:uw)(a:gz):Prop :=
 Q a
def VC162_163(a:Int)(b:Bj)(c:Int)(Q:uw):Prop :=
 ((0:Int)<=a/\a<=a/\a<=1099511627776)/\fj (List.replicate a.toNat (0:Int)) 0 λd e f (g:Int)=>iF (dE (g<lN (List.replicate a.toNat (0:Int)))) (∀h,kD g b c=h->bD g f/\eM d e
 (f.set g.toNat h) (wI (g+1)) f g) (VC162_163_J1 Q f)
def VC103_J1(Q:zt)(a:hZ):Prop :=
 Q a
def VC103(a:Bj)(b:Int)(Q:zt):Prop :=
 ∀c,au a=c->iF (((c !=0)||dE (b<0))||dE (b≥a.az)) (Q []) (∀d,cA a 0 b=d->fj [[d]] 0 λe f g (h:Int)=>iF (dE (h<wI (a.bI+1))) (Cj a.az a h/\(∀i,
 cW a.az a h=i->sm i->g.length+[i].length<=1099511627776/\oY i/\∀j,iw i=j->sm j->(g++[i]).length+j.length<=1099511627776/\eM e f ((g++[i]) ++
 j) (wI (h+1)) g h)) (VC103_J1 Q g))
def VC291(a:aj)(Q:qB):Prop :=
 iF (a.End==(-1)) (Q (a.Result==(-1))) (Q (((dE (a.End>a.cn)&&dE (a.End<=9999))&&dE (a.Result≥0))&&dE (a.Result<=1000000)))
def VC223(a:aj)(Q:iV):Prop :=
 iF (((dE (a.cE<1)||dE (a.cE>1000))||dE (a.cn<0))||dE (a.cn>9999)) (Q 2) (iF (dE (a.Kind<0)||dE (a.Kind≥64)) (Q 31) (∀b,gN a=b->iF (!b) (Q 7) (Q 0)))
def VC146_J1(a:mS)(Q:pM):Prop :=
 Q (lN a,0)
def VC146_J2(a:mS)(b:aaw)(c:aav)(d:uH)(e:List (Int×aj))(f:Int)(g:uH):Prop :=
 GD b c g (iU e (gi a f).cE (gi a f)) (wI (f+1)) d e f
def VC146_J4(a:mS)(Q:pM)(b:aaw)(c:aav)(d:uH)(e:List (Int×aj))(f:Int)(g:Bool):Prop :=
 iF g (Q (f,33)) (iF (dE ((gi a f).End≥0)) (VC146_J2 a b c d e f (iU (iU d (gi a f).cn (wI (((bB d (gi a f).cn).getD 0)+1))) (gi a f).End (wI (((bB (iU d (gi a f).cn (wI (((bB d (gi a
 f).cn).getD 0)+1))) (gi a f).End).getD 0)+1)))) (VC146_J2 a b c d e f (iU d (gi a f).cn (wI (((bB d (gi a f).cn).getD 0)+1)))))
def VC146_J3(a:mS)(Q:pM)(b:aaw)(c:aav)(d:uH)(e:List (Int×aj))(f:Int)(g:Bool):Prop :=
 iF g (Q (f,32)) (iF (bB e (gi a f).cE).isSome (∀h,cY ((bB e (gi a f).cE).getD (⟨0,0,0,0,0⟩:aj)) (gi a f)=h->VC146_J4 a Q b c d e f (!h)) (VC146_J4 a Q b c d e f false))
def VC146(a:mS)(Q:uI):Prop :=
 sm a->iF (dE (lN a>5000)) (Q (0,3)) (IH ([]:List (Int×Int)) ([]:List (Int×aj)) 0 λb c d e (f:Int)=>iF (dE (f<lN a)) (bD f a/\(∀g,e9 (gi a f)=g->iF (g !=0) (Q (f,g)) (iF (dE
 (f>0)) (bD (wI (f-1)) a/\iF (dE ((gi a f).cn<=(gi a (wI (f-1))).cn)) (VC146_J3 a Q b c d e f true) (iF (dE (((bB d (gi a f).cn).getD 0)>0)) (VC146_J3 a Q b c d e f true) (iF (dE ((gi a f).End≥0))
 (VC146_J3 a Q b c d e f (dE (((bB d (gi a f).End).getD 0)>0))) (VC146_J3 a Q b c d e f false)))) (iF (dE (((bB d (gi a f).cn).getD 0)>0)) (VC146_J3 a Q b c d e f true) (iF (dE ((gi a f).End≥0)) (VC146_J3 a
 Q b c d e f (dE (((bB d (gi a f).End).getD 0)>0))) (VC146_J3 a Q b c d e f false)))))) (VC146_J1 a Q))
def VC150(a:ae)(b:mS)(Q:ab->Prop):Prop :=
 sm a.Rows->sm b->Ea a/\∀c,aJ a=c->∀d,cU b=d->iF ((c.2 !=0)||(d.2 !=0)) (Q (⟨0,0⟩:ab)) (Q (⟨(lN b),a.az⟩:ab))
def VC277(a:cJ)(b c:Int)(Q:qB):Prop :=
 Q (a.State==b&&(a.Kind==c&&(a.Next==a.Next&&(a.Result==a.Result&&true))))
def VC278_277_J1(Q:iV):Prop :=
 Q (-1)
def VC278_277(a:List cJ)(b c:Int)(Q:iV):Prop :=
 sm a->oM 0 λd e f=>iF (dE (f<lN a)) (bD f a/\(∀g,nU (gi a f) b c=g->iF g (Q f) (oK d e (wI (f+1)) f))) (VC278_277_J1 Q)
def VC212(a:ae)(b c:Int)(Q:Int×Int×Bool->Prop):Prop :=
 sm a.Rows->∀d,bn a.Rows b c=d->iF (dE (d<0)) (Q (0,0,false)) (bD d a.Rows/\bD d a.Rows/\Q ((gi a.Rows d).Next,(gi a.Rows d).Result,true))
def VC165(a:kA)(b:aj)(c:Int)(Q:Int×Bool->Prop):Prop :=
 sm a.o.Rows->∀d,oy a.o c b.Kind=d->iF ((!d.2.2)||((b.End !=(-1))&&(b.Result !=d.2.1))) (Q (0,false)) (Q (d.1,true))
def VC227(a b c:Int)(d:Bj)(Q:iV):Prop :=
 ∀e,cw d (⟨a,b,c⟩:cH)=e->Q e
def VC104_J1(Q:zt)(a:hZ):Prop :=
 Q a
def VC104_J2(a:rh)(b:rf)(c:hZ)(d:Int)(e:hZ):Prop :=
 eM a b e (wI (d+1)) c d
def VC104_J4(a:rh)(b:rf)(c:hZ)(d:Int)(e:hZ):Prop :=
 eM a b e (wI (d+1)) c d
def VC104_J5(a:rh)(b:rf)(c:hZ)(d:Int)(e:hZ):Prop :=
 eM a b e (wI (d+1)) c d
def VC104_J6(a:mS)(b:Bj)(c d e:Int)(f:rh)(g:rf)(h:hZ)(i j k:Int)(l:hZ)(m:gz):Prop :=
 l.length+[m].length<=1099511627776/\iF ((gi a c).End==(-1)) (∀n,fN 3 (wI (e+1)) i b=n->(l++[m]).length+[[wI (0-j),d,wI (0-k),n]].length<=1099511627776/\VC104_J5 f g h i ((l ++
 [m])++[[wI (0-j),d,wI (0-k),n]])) (VC104_J5 f g h i (l++[m]))
def VC104_J3(a:ae)(b:mS)(c d:Bj)(e:rh)(f:rf)(g:hZ)(h i:Int)(j:hZ):Prop :=
 fj j 0 λk l m (n:Int)=>iF (dE (n<c.bI)) (fj m 0 λo p q (r:Int)=>iF (dE (r<c.az)) (∀s,fN 1 h n d=s->∀t,fN 3 n r d=t->∀u,lJ (⟨a⟩:kA) (gi
 b h) r=u->iF u.2 (∀v,fN 3 (wI (n+1)) u.1 d=v->[wI (0-s),wI (0-i),wI (0-t)].length+[v].length<=1099511627776/\VC104_J6 b d h i n o p q r s t q ([wI (0-s),wI (0-i),wI (0-t)] ++
 [v])) (VC104_J6 b d h i n o p q r s t q [wI (0-s),wI (0-i),wI (0-t)])) (VC104_J4 k l m n q)) (VC104_J2 e f g h m)
def VC104(a:ae)(b:mS)(Q:zt):Prop :=
 sm a.Rows->sm b->Ci a b/\∀c,bu a b=c->∀d,au c=d->iF (d !=0) (Q []) (fj [] 0 λe f (g:hZ) (h:Int)=>iF (dE (h<lN b)) (bD h b/\(∀i,fN 2 h 0 c=i->iF
 ((gi b h).End !=(-1)) (g.length+[[i]].length<=1099511627776/\VC104_J3 a b c c e f g h i (g++[[i]])) (VC104_J3 a b c c e f g h i g))) (VC104_J1 Q g))
def VC105(a:Bj)(Q:iV):Prop :=
 ∀b,au a=b->iF (b !=0) (Q 0) (∀c,dY a 3=c->Q (wI (c.1+wI (c.2.1*c.2.2))))
def VC295(a:Bj)(Q:qB):Prop :=
 ∀b,au a=b->Q (b==0)
def VC378(a:Int)(Q:iV):Prop :=
 Q (wI ((wI (a*wI (a-1))).tdiv 2))
def VC296(a:Bj)(Q:iV):Prop :=
 ∀(b:Bool),True->iF (!b) (Q 0) (∀(c:Int),True->Q (wI (a.bI+wI (wI (2*a.bI)*c))))
def VC297(a:Bj)(b:Int)(Q:iV):Prop :=
 ∀(c:Bool),True->iF (((!c)||dE (b<0))||dE (b>2016)) (Q 0) (∀(d:Int),True->Q (wI (b*d)))
def VC298(a:Bj)(Q:iV):Prop :=
 ∀(b:Bool),True->iF (!b) (Q 0) (∀(c:Int),True->Q (wI (1+wI (wI (a.bI+1)*wI (1+c)))))
def VC299(a:Bj)(b:Int)(Q:iV):Prop :=
 ∀(c:Bool),True->iF (((!c)||dE (b<0))||dE (b>a.bI)) (Q 0) (Q (wI (wI (b*wI (1+wI (a.bI*a.az)))+wI (wI (wI (a.bI-b)*2)*wI (a.bI*a.az)))))
def VC300_J1(Q:uw)(a:gz):Prop :=
 Q a
def VC300_J2(a:A4)(b:A1)(c:gz)(d:Int)(e:gz):Prop :=
 eM a b e (wI (d+1)) c d
def VC300(a:mS)(Q:uw):Prop :=
 sm a->fj [] 0 λb c (d:gz) (e:Int)=>iF (dE (e<lN a)) (bD e a/\iF ((gi a e).End==(-1)) (d.length+[e].length<=1099511627776/\VC300_J2 b c d e (d++[e])) (VC300_J2 b c d e d)) (VC300_J1 Q d)
def VC301(a b:Int)(Q:iV):Prop :=
 Q (wI (b+a))
def VC151_J1(Q:iV)(a:Bool):Prop :=
 iF a (Q 3) (Q 0)
def VC151(a:Bj)(b:mS)(Q:iV):Prop :=
 sm b->∀(c:Int),True->iF (c==0) (Q 2) (iF (dE (c>500000)) (VC151_J1 Q true) (∀d,aM a=d->VC151_J1 Q (dE (d>900))))
def VC98(a:ae)(b:mS)(Q:ab×Int->Prop):Prop :=
 sm a.Rows->sm b->Ea a/\∀c,aJ a=c->∀d,cU b=d->iF ((c.2 !=0)||(d.2 !=0)) (Q ((⟨0,0⟩:ab),2)) (iF (dE (lN b>64)) (Q ((⟨0,0⟩:ab),3)) (Ci a b /\
 (∀e,bu a b=e->∀(f:Int),True->Q (e,f))))
def VC108(a:gz)(Q:uw):Prop :=
 sm a->∀(b:Bool),(b=true->a=[])->iF b (Q []) (([]:List Int).length+a.length<=1099511627776/\Q (([]:List Int)++a))
def VC99_J1(Q:zt)(a:hZ):Prop :=
 Q a
def VC99_J2(a:rh)(b:rf)(c:hZ)(d:Int)(e:hZ):Prop :=
 eM a b e (wI (d+1)) c d
def VC99(a:List (List (List Int)))(Q:zt):Prop :=
 sm a->fj [] 0 λb c (d:hZ) (e:Int)=>iF (dE (e<lN a)) (bD e a/\(sm (gi a e)->(fj d 0 λf g h (i:Int)=>iF (dE (i<lN (gi a e))) (bD i (gi a e)/\(sm (gi (gi a e) i)->AD (gi (gi a e) i) /\
 (∀j,bE (gi (gi a e) i)=j->sm j->h.length+[j].length<=1099511627776/\eM f g (h++[j]) (wI (i+1)) h i))) (VC99_J2 b c d e h)))) (VC99_J1 Q d)
def VC47(a:ae)(b:mS)(Q:bJ×Int->Prop):Prop :=
 sm a.Rows->sm b->Ci a b/\∀c,vz a b c->iF (c.2 !=0) (Q ((⟨0,[]⟩:bJ),c.2)) (∀d,di c.1=d->sm d->gh b/\∀e,dL b=e->sm e->Gp c.1 e/\∀f,
 ew c.1 e=f->sm f->∀g,dh c.1 a.eZ=g->sm g->EF a b/\∀h,eA a b=h->sm h->SI [d,f,g,h]/\∀i,nW [d,f,g,h]=i->sm i->∀j,
 aM c.1=j->Q ((⟨j,i⟩:bJ),0))
def VC18(a:ug)(Q:jB->Prop):Prop :=
 ∀b,bZ a=b->sm b.1.ga.Rows->sm b.1.lY->iF (b.2.2 !=0) (Q (⟨(⟨(⟨0,0,0,[]⟩:ae),[]⟩:dp),[],(⟨0,[]⟩:bJ),b.2.1,b.2.2,false⟩:jB)) (∀c,
 lI b.1.lY=c->sm c.1->iF (c.2 !=0) (Q (⟨(⟨(⟨0,0,0,[]⟩:ae),[]⟩:dp),[],(⟨0,[]⟩:bJ),0,c.2,false⟩:jB)) (EF b.1.ga c.1/\(∀d,rz
 b.1.ga c.1 d->sm d.1.bL->iF (d.2 !=0) (Q (⟨b.1,c.1,(⟨0,[]⟩:bJ),0,d.2,true⟩:jB)) (Q (⟨b.1,c.1,d.1,0,0,false⟩:jB)))))
def VC7(a:ug)(Q:bJ×Int->Prop):Prop :=
 wZ a/\∀b,rE a b->sm b.c.ga.Rows->sm b.c.lY->sm b.l->sm b.f.bL->Q (b.f,b.e)
def VC228(a b:Int)(Q:qB):Prop :=
 Q (((a !=0)&&dE (a≥wI (0-b)))&&dE (a<=b))
def VC167(a b:Int)(Q:iV):Prop :=
 iF (dE (b<0)||dE (b>100000)) (Q 2) (MO a b/\(∀c,iP a b=c->iF (!c) (Q 10) (Q 0)))
def VC302(a:Int)(Q:qB):Prop :=
 MO a 100000/\∀b,iP a 100000=b->Q b
def VC229(a:Int)(Q:iV):Prop :=
 ∀b,xC a=b->iF (!b) (Q 0) (Q (if(wI (0-a))>a then(wI (0-a))else a))
def VC168_J1(Q:Ot)(a:uH):Prop :=
 Q a
def VC168_J2(a:Rp)(b:Ro)(c:uH)(d:Int)(e:uH):Prop :=
 eM a b e (wI (d+1)) c d
def VC168(a:gz)(Q:Ot):Prop :=
 sm a->fj ([]:List (Int×Int)) 0 λb c d (e:Int)=>iF (dE (e<lN a)) (bD e a/\(∀f,kN (gi a e)=f->iF (dE (f>0)) (VC168_J2 b c d e (iU d (gi a e) (wI (((bB d (gi a e)).getD 0)+1))))
 (VC168_J2 b c d e d))) (VC168_J1 Q d)
def VC106_J1(a:gz)(Q:iV):Prop :=
 ∀(b:(List (Int×Int))),True->iF (dE (lN b<lN a)) (Q 21) (Q 0)
def VC106(a:gz)(b:Int)(Q:iV):Prop :=
 sm a->iF (dE (b<0)||dE (b>100000)) (Q 2) (iF (dE (lN a>1000)) (Q 3) (oM 0 λc d e=>iF (dE (e<lN a)) (bD e a/\(∀(f:Int),True->iF (f !=0) (Q f) (oK c d (wI (e+1)) e))) (VC106_J1 a Q)))
def VC170(a:Int)(b:uH)(Q:qB):Prop :=
 iF (dE (((bB b a).getD 0)>0)) (Q (dE (((bB b (wI (0-a))).getD 0)>0))) (Q false)
def VC230_170_J1(Q:iV):Prop :=
 Q (-1)
def VC230_170(a:gz)(b:uH)(Q:iV):Prop :=
 sm a->oM 0 λc d e=>iF (dE (e<lN a)) (bD e a/\(∀(f:Bool),True->iF f (Q e) (oK c d (wI (e+1)) e))) (VC230_170_J1 Q)
def VC169_170(a:gz)(b:uH)(Q:qB):Prop :=
 sm a->∀(c:Int),True->Q (dE (c≥0))
def VC107(a:gz)(Q:qB):Prop :=
 sm a->∀(b:(List (Int×Int))),True->∀(c:Bool),True->Q c
def VC48_J1(a:bJ)(Q:pM):Prop :=
 Q (lN a.bL,0)
def VC48(a:bJ)(Q:uI):Prop :=
 sm a.bL->iF (dE (a.DK<0)||dE (a.DK>100000)) (Q (0,2)) (iF (dE (lN a.bL>1000000)) (Q (0,3)) (oM 0 λb c d=>iF (dE (d<lN a.bL)) (bD d a.bL/\(∀(_:sm (gi a.bL d)) e,
 pd (gi a.bL d) a.DK e->iF (e !=0) (Q (d,e)) (∀(f:Bool),True->iF f (Q (d,11)) (oK b c (wI (d+1)) d)))) (VC48_J1 a Q)))
def VC54_J1(Q:zt)(a:hZ):Prop :=
 Q a
def VC54_J2(a:(List (List Int))->(List (List Int))->Prop)(b:(List (List Int))->(List (List Int))->Nat)(c d e f:hZ):Prop :=
 e.length+f.length<=1099511627776/\eM a b (e++f) f c d
def VC54_J3(a:aau)(b:aat)(c d e:hZ)(f:Int)(g h i:hZ):Prop :=
 QG a b g h i (wI (f+1)) c d e f
def VC54_J4(a:aau)(b:aat)(c d e:hZ)(f:Int)(g h i:hZ):Prop :=
 QG a b g h i (wI (f+1)) c d e f
def VC54_J5(a:Int)(b:aau)(c:aat)(d e f:hZ)(g:Int)(h i j:hZ)(k:Bool):Prop :=
 iF (!k) (bD a i/\(sm (gi i a)->([]:List Int).length+(gi i a).length<=1099511627776/\(([]:List Int)++gi i a).length+[g].length<=1099511627776/\j.length+[(([]:List Int)++gi i a)++[g]].length <=
 1099511627776/\VC54_J4 b c d e f g h i (j++[(([]:List Int)++gi i a)++[g]]))) (VC54_J4 b c d e f g h i j)
def VC54_J6(a:(List (List Int))->(List (List Int))->(List (List Int))->Bool->Int->Prop)(b:(List (List Int))->(List (List Int))->(List (List Int))->Bool->Int->Nat)(c d e:hZ)(f:Bool)(g:Int)(h i j:hZ)(k:Bool):Prop :=
 n5P a b h i j k (wI (g+1)) c d e f g
def VC54(a:Int)(Q:zt):Prop :=
 fj ([[]]:List (List Int)) ([[]]:List (List Int)) λb c d e=>iF (dE (lN e>0)) (ZA d e [] 0 λf g h i (j:hZ) (k:Int)=>iF (dE (k<lN i)) (ZA h i j 0 λl m n o p (q:Int)=>iF (dE (q<a)) (l5P n
 o p false 0 λr s t u v w (x:Int)=>bD k u/\(sm (gi u k)->iF (dE (x<lN (gi u k))) (iF w (VC54_J6 r s t u v w x t u v true) (bD k u/\(sm (gi u k)->bD x (gi u k)/\VC54_J6 r s t u v w x t u v (gi (gi u k)
 x==q)))) (VC54_J5 k l m n o p q t u v w))) (VC54_J3 f g h i j k n o p)) (VC54_J2 b c d e h j)) (VC54_J1 Q d)
def VC184(a:ae)(b c d:Int)(Q:uI):Prop :=
 sm a.Rows->iF (dE (b<0)||dE (b≥a.az)) (Q (0,30)) (∀e,bN a b c=e->iF ((!e.2.2)||(e.2.1 !=d)) (Q (0,40)) (Q (e.1,0)))
def VC117_J1(a:AZ)(Q:(Int×Int×Int)->Prop)(b:Int):Prop :=
 Q (b,lN a,0)
def VC117_J3(Q:(Int×Int×Int)->Prop)(a:Rr)(b:Rq)(c d:Int)(e:Int×Int)(f:Bool):Prop :=
 iF f (Q (0,d,40)) (eM a b e.1 (wI (d+1)) c d)
def VC117_J2(a:ae)(b:mS)(c:AZ)(Q:(Int×Int×Int)->Prop)(d:Rr)(e:Rq)(f g:Int):Prop :=
 bD (gi c g).Oper b/\∀h,fm a f (gi b (gi c g).Oper).Kind (gi c g).Result=h->iF (h.2 !=0) (Q (0,g,h.2)) (bD (gi c g).Oper b/\iF ((gi b (gi c g).Oper).End !=(-1)) (bD (gi c g).Oper b/\VC117_J3 Q d e
 f g h ((gi b (gi c g).Oper).Result !=(gi c g).Result)) (VC117_J3 Q d e f g h false))
def VC117(a:ae)(b:mS)(c:Int)(d:AZ)(Q:Int×Int×Int->Prop):Prop :=
 sm a.Rows->sm b->sm d->∀e,cr a=e->iF (e.2 !=0) (Q (0,(-1),2)) (iF (dE (c<0)||dE (c≥a.az)) (Q (0,(-1),30)) (fj c 0 λf g h (i:Int)=>iF (dE (i<lN d)) (bD i d/\iF (dE ((gi d
 i).Oper<0)||dE ((gi d i).Oper≥lN b)) (Q (0,i,2)) (oM 0 λj k l=>iF (dE (l<i)) (bD l d/\iF ((gi d l).Oper==(gi d i).Oper) (Q (0,i,21)) (oK j k (wI (l+1)) l)) (VC117_J2 a b d Q f g h i))) (VC117_J1
 d Q h)))
def VC55_J1(Q:aas)(a:AZ):Prop :=
 Q (a,0)
def VC55_J2(a:ae)(b:mS)(c:gz)(Q:aas)(d:(List aC)->Int->Int->Prop)(e:(List aC)->Int->Int->Nat)(f:AZ)(g h:Int)(i:AZ)(j:Int):Prop :=
 i.length+[(⟨gi c h,j⟩:aC)].length<=1099511627776/\∀k,dC a b a.eZ (i++[(⟨gi c h,j⟩:aC)])=k->iF (k.2.2 !=0) (Q ([],k.2.2)) (GD d e (i++[(⟨gi c h,j⟩:aC)]) k.1 (wI (h +
 1)) f g h)
def VC55_J3(a:ae)(b:mS)(c:gz)(Q:aas)(d:(List aC)->Int->Int->Prop)(e:(List aC)->Int->Int->Nat)(f:AZ)(g h:Int)(i:AZ)(j:Bool):Prop :=
 iF j (bD h c/\bD (gi c h) b/\(∀k,bN a g (gi b (gi c h)).Kind=k->VC55_J2 a b c Q d e f g h i k.2.1)) (VC55_J2 a b c Q d e f g h i 0)
def VC55(a:ae)(b:mS)(c:gz)(Q:(List aC)×Int->Prop):Prop :=
 sm a.Rows->sm b->sm c->∀d,dC a b a.eZ []=d->iF (d.2.2 !=0) (Q ([],d.2.2)) (IH [] d.1 0 λe f (g:AZ) h (i:Int)=>iF (dE (i<lN c)) (bD i c/\bD i c/\iF (dE (gi c i≥0)) (bD i c /\
 VC55_J3 a b c Q e f g h i g (dE (gi c i<lN b))) (VC55_J3 a b c Q e f g h i g false)) (VC55_J1 Q g))
def VC119_J1(Q:iV):Prop :=
 Q (-1)
def VC119(a:AZ)(b:Int)(Q:iV):Prop :=
 sm a->oM 0 λc d e=>iF (dE (e<lN a)) (bD e a/\iF ((gi a e).Oper==b) (Q e) (oK c d (wI (e+1)) e)) (VC119_J1 Q)
def VC56_J1(Q:qB):Prop :=
 Q true
def VC56_J2(a:iV)(b:D5)(c:Int):Prop :=
 oK a b (wI (c+1)) c
def VC56_J4(Q:qB)(a:iV)(b:D5)(c:Int)(d:Bool):Prop :=
 iF d (Q false) (oK a b (wI (c+1)) c)
def VC56_J3(a:mS)(b:AZ)(Q:qB)(c:iV)(d:D5)(e:Int)(f:Bool):Prop :=
 iF f (Q false) (oM 0 λg h i=>iF (dE (i<lN a)) (∀j,br b e=j->∀k,br b i=k->bD e a/\bD i a/\∀l,ou (gi a e) (gi a i)=l->VC56_J4 Q g h i ((l&&dE (k≥0))&&(dE (j <
 0)||dE (j>k)))) (VC56_J2 c d e))
def VC56(a:ae)(b:mS)(c:AZ)(Q:qB):Prop :=
 sm a.Rows->sm b->sm c->∀d,dC a b a.eZ c=d->iF (d.2.2 !=0) (Q false) (oM 0 λe f g=>iF (dE (g<lN b)) (bD g b/\iF ((gi b g).End !=(-1)) (∀h,br c g=h->VC56_J3 b c Q e f g (dE
 (h<0))) (VC56_J3 b c Q e f g false)) (VC56_J1 Q))
def VC22_J1(Q:(List (List aC))->Prop)(a:Oq):Prop :=
 Q a
def VC22_J2(a:(List (List aC))->Int->Prop)(b:(List (List aC))->Int->Nat)(c:Oq)(d:Int)(e:Oq):Prop :=
 eM a b e (wI (d+1)) c d
def VC22_J3(a:(List (List aC))->Int->Prop)(b:(List (List aC))->Int->Nat)(c:Oq)(d:Int)(e:(List aC)×Int)(f:Oq)(g:Bool):Prop :=
 iF g (f.length+[e.1].length<=1099511627776/\VC22_J2 a b c d (f++[e.1])) (VC22_J2 a b c d f)
def VC22(a:ae)(b:mS)(Q:(List (List aC))->Prop):Prop :=
 sm a.Rows->sm b->SG (lN b)/\∀c,eT (lN b)=c->sm c->fj [] 0 λd e (f:Oq) (g:Int)=>iF (dE (g<lN c)) (bD g c/\(sm (gi c g)->SF a b (gi c g)/\(∀h,eK a b (gi c g)=h
 -> sm h.1->iF (h.2==0) (∀i,fF a b h.1=i->VC22_J3 d e f g h f i) (VC22_J3 d e f g h f false)))) (VC22_J1 Q f)
def VC9(a:ug)(Q:qB):Prop :=
 ∀b,uS a b->sm b.O.Rows->sm b.L->sm b.F.bL->SL b.O b.L/\∀c,na b.O b.L=c->sm c->Q (dE (lN c>0))
def VC231(a b:Int)(Q:qB):Prop :=
 Q ((dE (a<b)||dE (a>10000000))||(a==0))
def VC230_231_J1(Q:iV):Prop :=
 Q (-1)
def VC230_231(a:gz)(b:Int)(Q:iV):Prop :=
 sm a->oM 0 λc d e=>iF (dE (e<lN a)) (bD e a/\(∀f,mr (gi a e) b=f->iF f (Q e) (oK c d (wI (e+1)) e))) (VC230_231_J1 Q)
def VC169_231(a:gz)(b:Int)(Q:qB):Prop :=
 sm a->∀c,cQ a b=c->Q (dE (c≥0))
def VC171(a:gz)(b:Int)(Q:qB):Prop :=
 sm a->iF (dE (lN a<=1000)) (∀c,dA a b=c->Q (!c)) (Q false)
def VC111(a:cz)(Q:qB):Prop :=
 sm a.mT->sm a.Hints->iF (a.Kind==1) (iF (dE (a.Id≥1)&&dE (a.Id<=10000000)) (∀b,pd a.mT 100000 b->iF (b==0) (∀c,jv a.Hints (-10000000)=c->Q c) (Q false)) (Q false)) (iF
 (a.Kind==2) (iF ((dE (a.Id≥0)&&dE (a.Id<=10000000))&&(lN a.mT==0)) (∀d,jv a.Hints 1=d->Q d) (Q false)) (Q false))
def VC110(a:cz)(Q:qB):Prop :=
 sm a.mT->∀(_:sm a.Hints) b,zD a b->Q (!b)
def VC109_110_J1(Q:iV):Prop :=
 Q (-1)
def VC109_110(a:Ox)(Q:iV):Prop :=
 sm a->oM 0 λb c d=>iF (dE (d<lN a)) (bD d a/\(∀(_:sm (gi a d).mT) (_:sm (gi a d).Hints) e,ri (gi a d) e->iF e (Q d) (oK b c (wI (d+1)) d))) (VC109_110_J1 Q)
def VC51(a:Ox)(Q:uI):Prop :=
 sm a->iF (dE (lN a>1000000)) (Q (0,3)) (∀b,cR a b->iF (dE (b≥0)) (Q (b,2)) (Q (lN a,0)))
def VC176_J1(Q:((List Int)×(List (List Int)))->Prop)(a:gz)(b:hZ):Prop :=
 Q (a,b)
def VC176_J2(a:(List Int)->(List (List Int))->Int->Prop)(b:(List Int)->(List (List Int))->Int->Nat)(c:gz)(d:hZ)(e:Int)(f:gz)(g:hZ):Prop :=
 GD a b f g (wI (e+1)) c d e
def VC176(a:gz)(Q:(List Int)×(List (List Int))->Prop):Prop :=
 sm a->IH [] [] 0 λb c (d:gz) (e:hZ) (f:Int)=>iF (dE (f<lN a)) (bD f a/\iF (dE (gi a f<0)) (e.length+1<=1099511627776/\VC176_J2 b c d e f d (e++[[gi a f]])) (iF (dE (wI (lN e-1)<0))
 (d.length+[gi a f].length<=1099511627776/\VC176_J2 b c d e f (d++[gi a f]) e) (((0:Int)<=wI (lN e-1)/\(wI (lN e-1))+1=lN e)/\(gi e (wI (lN e-1))).length+[gi a f].length<=1099511627776/\((0 :
 Int)<=wI (lN e-1)/\(wI (lN e-1))+1=lN e)/\VC176_J2 b c d e f d (e.dropLast++[(gi e (wI (lN e-1)))++[gi a f]])))) (VC176_J1 Q d e)
def VC21(a:FZ)(Q:qB):Prop :=
 ∀b,ix a=b->Q (b&&a.done)
def VC141_J1(Q:iV):Prop :=
 Q (-1)
def VC141(a:gz)(b:Int)(Q:iV):Prop :=
 sm a->oM 0 λc d e=>iF (dE (e<lN a)) (bD e a/\iF (b==gi a e) (Q e) (oK c d (wI (e+1)) e)) (VC141_J1 Q)
def VC89(a:gz)(b:Int)(Q:qB):Prop :=
 sm a->∀c,iu a b=c->Q (dE (c≥0))
def VC313(a:Int)(Q:iV):Prop :=
 ∀b,xC a=b->iF (!b) (Q 0) (Q (wI (0-a)))
def VC235_J1(a:gz)(Q:((List Int)×Int)->Prop)(b:gz):Prop :=
 ∀(c:Bool),True->iF c (Q ([],11)) (Q (b,0))
def VC235_J2(a:A4)(b:A1)(c:gz)(d:Int)(e:gz):Prop :=
 eM a b e (wI (d+1)) c d
def VC235(a:gz)(Q:(List Int)×Int->Prop):Prop :=
 sm a->fj [] 0 λb c (d:gz) (e:Int)=>iF (dE (e<lN a)) (bD e a/\(∀f,mH (gi a e)=f->iF (f==0) (Q ([],10)) (∀g,cb d f=g->iF (!g) (d.length+[f].length <=
 1099511627776/\VC235_J2 b c d e (d++[f])) (VC235_J2 b c d e d)))) (VC235_J1 a Q d)
def VC410(a:Int)(b:uH)(Q:iV):Prop :=
 iF (dE (((bB b a).getD 0)>0)) (Q 1) (iF (dE (((bB b (wI (0-a))).getD 0)>0)) (Q (-1)) (Q 0))
def VC384(a b:gz)(Q:iV):Prop :=
 sm a->sm b->qK a b/\∀c,kT a b=c->iF (dE (c.1>0)) (Q 1) (iF (dE (c.2.2>0)) (Q 0) (Q (-1)))
def VC236_J1(a:hZ)(Q:aaz)(b:gz):Prop :=
 Q (b,lN a,23)
def VC236(a:gz)(b:hZ)(Q:Wk):Prop :=
 sm a->sm b->AD a/\∀c,bE a=c->sm c->fj c 0 λd e f (g:Int)=>iF (dE (g<lN b)) (bD g b/\(sm (gi b g)->MI f (gi b g)/\(∀h,B2 f (gi b g) h->sm h.1->iF (h.2.2
 != 0) (Q ([],g,h.2.2)) (iF h.2.1 (Q (h.1,wI (g+1),0)) (eM d e h.1 (wI (g+1)) f g))))) (VC236_J1 b Q f)
def VC179(a:gz)(b:hZ)(Q:uI):Prop :=
 sm a->sm b->H6 a/\∀c,vU a c->sm c.1->iF (c.2 !=0) (Q (0,c.2)) (H5 c.1 b/\(∀d,rN c.1 b d->sm d.1->Q (d.2.1,d.2.2)))
def VC238(a b:Int)(Q:qB):Prop :=
 ∀c,cmp_isNaN_int a=c->iF c (∀d,cmp_isNaN_int b=d->Q ((!d)||dE (a<b))) (Q (dE (a<b)))
def VC239(a:Int)(Q:qB):Prop :=
 Q (a !=a)
def VC182_J1(a:gz)(b:Int)(Q:(Int×Bool)->Prop)(c:Int):Prop :=
 iF (dE (c<lN a)) (bD c a/\iF (gi a c==b) (Q (c,true)) (bD c a/\(∀(d:Bool),True->iF d (∀(e:Bool),True->Q (c,e)) (Q (c,false))))) (Q (c,false))
def VC182(a:gz)(b:Int)(Q:Int×Bool->Prop):Prop :=
 sm a->fj 0 (lN a) λc d (e:Int) f=>iF (dE (e<f)) (bD (wI (((IntKind.u64.wrap (wI (e+f)))).fdiv (2^1))) a/\(∀(g:Bool),True->iF g (eM c d (wI ((wI (((IntKind.u64.wrap (wI (e+f)))).fdiv (2^1)))
 + 1)) f e f) (eM c d e (wI (((IntKind.u64.wrap (wI (e+f)))).fdiv (2^1))) e f))) (VC182_J1 a b Q e)
def VC318(a:gz)(b:Int)(Q:qB):Prop :=
 sm a->∀c,kN b=c->iF (dE (c>0)) (∀d,cb a b=d->Q d) (Q false)
def VC242_J1(Q:uw)(a:gz):Prop :=
 Q a
def VC242_J2(a:A4)(b:A1)(c:gz)(d:Int)(e:gz):Prop :=
 eM a b e (wI (d+1)) c d
def VC242_J3(a:A4)(b:A1)(c:gz)(d:Int)(e:gz)(f:Bool):Prop :=
 iF f (e.length+[d].length<=1099511627776/\VC242_J2 a b c d (e++[d])) (VC242_J2 a b c d e)
def VC242(a:hZ)(b:Int)(Q:uw):Prop :=
 sm a->fj [] 0 λc d (e:gz) (f:Int)=>iF (dE (f<lN a)) (bD f a/\(∀(_:sm (gi a f)) g,mH b=g->iF (g !=0) (∀h,ql (gi a f) g=h->VC242_J3 c d e f e h) (VC242_J3 c d e f e false)))
 (VC242_J1 Q e)
def VC183_J1(Q:pM)(a:gz):Prop :=
 Q (lN a,0)
def VC183(a:hZ)(b:gz)(c:hZ)(d:List (Int×(List (List Int))))(Q:uI):Prop :=
 sm a->sm b->sm c->H6 b/\∀e,vU b e->sm e.1->iF (e.2 !=0) (Q ((-1),e.2)) (iF (lN b==0) (Q ((-1),11)) (H5 e.1 c/\(∀f,rN e.1 c f->sm f.1->iF (f.2.2 !=23) (Q ((-1),f.2.2)) (bD
 0 b/\MP a (gi b 0)/\(∀g,pV a (gi b 0) g->sm g->oM 0 λh i j=>iF (dE (j<lN g)) (bD j g/\SB (gi g j) d f.1 a b/\(∀k,xt (gi g j) d f.1 a b k->iF (!k) (Q (gi g j,24)) (oK
 h i (wI (j+1)) j))) (VC183_J1 Q g))))))
def VC317(a:gz)(b:Int)(Q:iV):Prop :=
 sm a->∀c,kN b=c->iF (c==0) (Q 0) (∀d,cb a b=d->iF d (Q 1) (∀e,cb a (wI (0-b))=e->iF e (Q (-1)) (Q 0)))
def VC241_J1(a:hZ)(Q:iV)(b:gz):Prop :=
 H5 b a/\∀c,rN b a c->sm c.1->iF (c.2.2 !=0) (Q 24) (Q 0)
def VC241_J2(a:A4)(b:A1)(c:gz)(d:Int)(e:gz):Prop :=
 eM a b e (wI (d+1)) c d
def VC241_J3(a:gz)(Q:iV)(b:A4)(c:A1)(d:gz)(e:Int)(f:gz)(g:Bool):Prop :=
 iF g (VC241_J2 b c d e f) (∀h,mK f (gi a e)=h->iF (h==1) (Q 0) (iF (h==0) (f.length+[wI (0-gi a e)].length<=1099511627776/\VC241_J2 b c d e (f++[wI (0-gi a e)])) (VC241_J2 b c d e f)))
def VC241(a b:gz)(c:Int)(d:hZ)(Q:iV):Prop :=
 sm a->sm b->sm d->AD a/\∀e,bE a=e->sm e->fj e 0 λf g h (i:Int)=>iF (dE (i<lN b)) (bD i b/\(∀j,kN (gi b i)=j->iF (j==0) (VC241_J3 b Q f g h i h true) (∀k,
 mH c=k->VC241_J3 b Q f g h i h (gi b i==k)))) (VC241_J1 d Q h)
def VC3_J2(Q:qB)(a:Bool):Prop :=
 iF a (Q false) (∀b,vP=b->Q b)
def VC3_J1(a:ug)(b:Ox)(Q:qB)(c:Bool):Prop :=
 iF c (∀d,vP=d->Q d) (wZ a/\(∀e,rF a e->sm e.1.bL->iF (e.2 !=0) (iF (lN e.1.bL==0) (∀f,vP=f->Q f) (Q false)) (MN e.1 b/\(∀g,tF e.1 b g->iF
 (g.2==0) (HZ a/\(∀h,yf a h->VC3_J2 Q h)) (VC3_J2 Q false)))))
def VC3(a:ug)(b:Ox)(Q:qB):Prop :=
 sm b->iF (dE (lN a>2000)) (VC3_J1 a b Q true) (∀c,wh b=c->iF ((!c)||dE (lN b>60)) (VC3_J1 a b Q true) (∀d,uS a d->sm d.O.Rows->sm d.L->sm d.F.bL->VC3_J1 a b Q (dE (lN d.L>4))))
def VC226_P10(a b c:Int)(Q:iV):Prop :=
 ∀(d:Int),True->fj 0 0 λe f (g:Int) (h:Int)=>iF (dE (g<4)) (bD g [c,b,a,d]/\(∀(i:Int),True->eM e f (wI (g+1)) i g h)) (Q h)
def VC226_P9(a b c:Int)(Q:iV):Prop :=
 ∀(d:Int),True->fj 0 0 λe f (g:Int) (h:Int)=>iF (dE (g<4)) (bD g [c,b,a,d]/\(∀(i:Int),True->eM e f (wI (g+1)) i g h)) (Q h)
def VC226_P8(a:Int)(b:mS)(c d:Int)(Q:iV):Prop :=
 gh b/\∀(e:List Int),True->sm e->VC226_P10 a c d Q
def VC226_P7(a:Int)(b:mS)(c d:Int)(Q:iV):Prop :=
 gh b/\∀(e:List Int),True->sm e->VC226_P9 a c d Q
def VC226_P6(a:Int)(b:mS)(c:Int)(Q:iV):Prop :=
 ∀(d:Int),True->VC226_P8 d b a c Q
def VC226_P5(a:Int)(b:mS)(c:Int)(Q:iV):Prop :=
 ∀(d:Int),True->VC226_P7 d b a c Q
def VC226_P4(a:mS)(b:Int)(Q:iV):Prop :=
 ∀(c:Int),True->VC226_P6 c a b Q
def VC226_P3(a:mS)(b:Int)(Q:iV):Prop :=
 ∀(c:Int),True->VC226_P5 c a b Q
def VC226_P2(a:Int)(b:mS)(Q:iV):Prop :=
 gh b/\∀(c:List (Int×Int)),dL b=c->sm c->VC226_P4 b a Q
def VC226_P1(a:Int)(b:mS)(Q:iV):Prop :=
 gh b/\∀(c:List (Int×Int)),dL b=c->sm c->VC226_P3 b a Q
def VC226(a:Bj)(b:mS)(Q:iV):Prop :=
 sm b->∀(c:Int×Int),cU b=c->iF (c.2 !=0) (iF true (Q 0) ((∀(d:Int),True->(gh b/\(∀(e:List (Int×Int)),dL b=e->sm e->((∀(f:Int),True->(∀(g:Int),True ->
 (gh b/\(∀(h:List Int),True->sm h->A2 ((VC226_P10 g f d Q))/\(VC226_P10 g f d Q)))/\(VC226_P8 g b f d Q))/\(VC226_P6 f b d Q))/\(VC226_P4 b d Q))/\(VC226_P4 b d Q)))/\(VC226_P2 d b Q))/\(∀
 (d:Int),True->VC226_P2 d b Q))) (∀(d:Bool),True->iF (bif !d then true else(lN b)!=a.bI) (Q 0) ((∀(e:Int),True->(gh b/\(∀(f:List (Int×Int)),dL b=f->sm f->((∀(g:Int),
 True->(∀(h:Int),True->(gh b/\(∀(i:List Int),True->sm i->A2 ((VC226_P9 h g e Q))/\(VC226_P9 h g e Q)))/\(VC226_P7 h b g e Q))/\(VC226_P5 g b e Q))/\(VC226_P3 b e Q))/\(VC226_P3 b e Q)))
 /\ (VC226_P1 e b Q))/\(∀(e:Int),True->VC226_P1 e b Q)))
def VC12(a:ae)(b:mS)(Q:bJ×Int->Prop):Prop :=
 sm a.Rows->sm b->∀(c:Int),uT a b c->iF (c !=0) (Q ({ DK:=0,bL:=[] },c)) (∀(d:List (List Int)),nT (lN b) a.az d->sm d->([]:List Int).length+d.length <=
 1099511627776/\AB b/\∀(e:List (Int×Int)),ot b e->sm e->MQ (lN b) a.az e/\∀(f:List (List Int)),nS (lN b) a.az e f->sm f->([]++d).length+f.length <=
 1099511627776/\∀(g:List (List Int)),nR (lN b) a.az a.eZ g->sm g->([]++d++f).length+g.length<=1099511627776/\∀(h:List (List Int)),nQ a b h->sm h->([]++d++f ++
 g).length+h.length<=1099511627776/\Q ({ DK:=wI (wI (wI (lN b*lN b)+lN b)+wI (wI (lN b+1)*a.az)),bL:=[]++d++f++g++h },0))
def VC115(a:gz)(b:FZ)(Q:qB):Prop :=
 sm a->oM 0 λc d e=>iF (dE (e<lN a)) (bD e a/\iF (!(bB b.clauses (if wI (0-gi a e)>gi a e then wI (0-gi a e)else gi a e)).isSome) (Q !dE (e≥0)) (oK c d (wI (e+1)) e)) (Q !dE ((-1:Int)≥0))
def VC53(a:cz)(b:FZ)(Q:Int×aU->Prop):Prop :=
 sm a.mT->sm a.Hints->iF (dE (a.Id<=b.last)) (Q (21,b)) (∀(c:Bool),True->iF c (Q (11,b)) (∀(d:Bool),jx a.Hints b d->iF (!d) (Q (20,b)) (Sz a.mT a.Hints b/\(∀(e:Int),
 mF a.mT a.Hints b e->iF (e !=0) (Q (e,b)) (AD a.mT/\(∀(f:List Int),bE a.mT=f->sm f->Q (0,
 { clauses:=iU b.clauses a.Id f,last:=a.Id,done:=bif b.done then true else(lN a.mT)==0 })))))))
def VC20(a:cz)(b:FZ)(Q:Int×aU->Prop):Prop :=
 sm a.mT->sm a.Hints->∀(c:Bool),ix b=c->iF (!c) (Q (1,b)) (∀(d:Int×Int),uW [a] d->iF (d.2 !=0) (Q (d.2,b)) (iF (a.Kind==2) (∀(e:Int×aU),iy
 a.Hints b e->Q e) (SK a b/\(∀(e:Int×aU),nj a b e->Q e))))
def VC417(a b:gz)(Q:Int×Int×Int->Prop):Prop :=
 sm a->sm b->fj 0 [] λc d (e:Int) (f:uH)=>iF (dE (e<lN a)) (bD e a/\eM c d (wI (e+1)) (iU f (gi a e) (wI ((bB f (gi a e)).getD 0+1))) e f) (ZA 0 0 0 0 λg h (i:Int) (j:Int) (k:Int) (l
 : Int)=>iF (dE (i<lN b)) (bD i b/\(∀(m:Int),kN (gi b i)=m->iF (m==0) (QG g h (wI (i+1)) j k l i j k l) (∀(n:Int),fZ (gi b i) f=n->iF (n==1) (QG g h (wI (i+1)) (wI (j +
 1)) k l i j k l) (iF (n == -1) (QG g h (wI (i+1)) j (wI (k+1)) l i j k l) (QG g h (wI (i+1)) j k (wI (l+1)) i j k l))))) (Q (j,k,l)))
def VC8(a:bJ)(b:Ox)(Q:uI):Prop :=
 sm a.bL->sm b->∀(c:Int×Int),Ak a c->iF (c.2 !=0) (iF (c.2 !=0) (Q (-1,c.2)) (Er 28)) (ZA 0 0 false [] λd e (f:Int) (g:Int) h (i:List (Int×List Int))=>iF (dE (f<lN a.bL))
 (bD f a.bL/\(sm (gi a.bL f)->AD (gi a.bL f)/\(∀(j:List Int),bE (gi a.bL f)=j->sm j->QG d e (wI (f+1)) (wI (g+1)) (bif h then true else(lN (gi a.bL f))
 == 0) (iU i (wI (g+1)) j) f g h i))) (iF ((0:Int)!=0) (Q (-1,0)) (ZA 0 g h i λk l (m:Int) n o p=>iF (dE (m<lN b)) (bD m b/\(sm (gi b m).mT->sm (gi b m).Hints->KQ (gi b m)
 { clauses:=p,last:=n,done:=o }/\(∀(q:Int×aU),mG (gi b m) { clauses:=p,last:=n,done:=o } q->iF (q.1 !=0) (Q (m,q.1)) (QG k l (wI (m+1)) q.2.last q.2.done
 q.2.clauses m n o p)))) (∀(q:Bool),jX { clauses:=p,last:=n,done:=o }=q->iF (!q) (Q (lN b,25)) (Q (lN b,0))))))
def VC50(a:FZ)(Q:qB):Prop :=
 Q true
def VC52(a:gz)(b:FZ)(Q:Int×aU->Prop):Prop :=
 sm a->∀(c:List Int)(d:List Int),iF (dE (lN d<lN a)) (iF true (Q (20,b)) (fj 0 b.clauses λe f (g:Int) h=>iF (dE (g<lN a)) (bD g a/\eM e f (wI (g+1)) (uy h (gi a g)) g h) (Q (0,
 { clauses:=h,last:=b.last,done:=b.done })))) (∀(i:Bool),jx a b i->iF (!i) (Q (20,b)) (fj 0 b.clauses λj k (h:Int) l=>iF (dE (h<lN a)) (bD h a/\eM j k (wI (h+1)) (uy l (gi
 a h)) h l) (Q (0,{ clauses:=l,last:=b.last,done:=b.done }))))
def VC116(a b:gz)(c:FZ)(Q:iV):Prop :=
 sm a->sm b->MJ b/\∀(d:List Int×List (List Int)),qJ b d->sm d.1->sm d.2->fj [] 0 λe f (g:hZ) (h:Int)=>iF (dE (h<(((List.length d.1):Nat):Int))) (((0:Int)<=h/\h <
 (((List.length d.1):Nat):Int))/\(∀(i:List Int),gj (gi d.1 h) c=i->sm i->g.length+[i].length<=1099511627776/\eM e f (g++[i]) (wI (h+1)) g h)) (SA a g/\(∀(i:Int×Int),
 B3 a g i->iF (bif i.2 !=23 then true else(lN a)==0) (Q i.2) (SH c/\(∀(j:List Int),nk c j->sm j->fj 0 [] λk l (m:Int) (n:List (Int×List (List Int)))=>iF (dE (m <
 (((List.length d.2):Nat):Int))) (((0:Int)<=m/\m<(((List.length d.2):Nat):Int))/\(sm (gi d.2 m)->((0:Int)<=0/\(0:Int)<lN (gi d.2 m))/\(∀(o:Int×Bool),True->iF o.2 (((0:Int)<=1 /\
 (1:Int)<=lN (gi d.2 m))/\(fj [] 0 λp q (r:hZ) (s:Int)=>iF (dE (s<lN (List.drop (1) (gi d.2 m)))) (bD s (List.drop (1) (gi d.2 m))/\(∀(t:List Int),gj (gi (List.drop (1) (gi d.2
 m)) s) c=t->sm t->r.length+[t].length<=1099511627776/\eM p q (r++[t]) (wI (s+1)) r s)) (eM k l (wI (m+1)) (iU n o.1 r) m n))) (eM k l (wI (m+1)) n m n)))) (fj [] 0 λu v (w:hZ) (r:Int) =>
 iF (dE (r<lN j)) (bD r j/\(∀(s:List Int),gj (gi j r) c=s->sm s->w.length+[s].length<=1099511627776/\eM u v (w++[s]) (wI (r+1)) w r)) (SE w a g n/\(∀(s:Int×Int),
 Ca w a g n s->iF (s.2 !=0) (Q 24) (Q 0))))))))
def VC177(a:Int)(b:FZ)(Q:List Int->Prop):Prop :=
 Q ((bB b.clauses a).getD [])
def VC314(a b:gz)(Q:List Int×Bool×Int->Prop):Prop :=
 sm a->sm b->qK a b/\∀(c:Int),rG a b c->iF (dE (c<0)) (AD a/\(∀(d:List Int),bE a=d->sm d->Q (d,true,0))) (qK a b/\(∀(d:Int×Bool),vL a b d
 -> iF (!d.2) (Q ([],false,22)) (A2 (lN a=lN a)/\(a.length+[d.1].length<=1099511627776/\[d.1]≠[])/\Q (a++[d.1],false,0))))
def VC385(a b:gz)(Q:Int×Bool->Prop):Prop :=
 sm a->sm b->qK a b/\∀(c:Int×Int×Int),kT a b=c->iF (bif dE (c.1>0)then true else c.2.2 !=1) (Q (0,false)) (fj 0 [] λd e (f:Int) (g:uH)=>iF (dE (f<lN a)) (bD f a/\eM d e
 (wI (f+1)) (iU g (gi a f) (wI ((bB g (gi a f)).getD 0+1))) f g) (oM 0 λh i j=>iF (dE (j<lN b)) (bD j b/\(∀(k:Int),kN (gi b j)=k->iF (dE (k>0)) (∀(l:Int),fZ (gi b j) g =
 l->iF (l==0) (bD j b/\Q (gi b j,true)) (oK h i (wI (j+1)) j)) (iF false (bD j b/\Q (gi b j,true)) (oK h i (wI (j+1)) j)))) (((0:Int)<=-1/\(-1:Int)<lN b)/\Q (gi b (-1),true))))
def VC180(a:FZ)(Q:List Int->Prop):Prop :=
 ∀(b:Bool),ix a=b->iF (!b) (Q []) ((List.length a.clauses<=10000000/\(∀(c:Int×List Int),c∈a.clauses->zl .i64 c.1))/\(∀(c:List Int),List.Pairwise (λd e=>d<e) c/\(∀(f :
 Int),f∈c↔(bB a.clauses f).isSome=true)->Q c))
def VC240(a:Int)(b:List (Int×List (List Int)))(c:gz)(d:hZ)(e:gz)(Q:qB):Prop :=
 sm c->sm d->sm e->iF (bB b a).isSome (bD a d/\(sm (gi d a)->((0:Int)<=0/\(0:Int)<lN e)/\SC c (gi d a) (gi e 0) ((bB b a).getD [])/\(∀(f:Int),tv c (gi d a) (gi e 0) ((bB b
 a).getD []) f->Q (f==0)))) (Q false)
end
end Go.Proofs.Y
namespace Go.Te
open Go Go.Sv Go.Proofs Go.Proofs.Y
noncomputable section
def la4:Nat->Option LA
 |4=>some [(.r 3,.i .i64)]
 |_=>none
def alj:Nat->Option LA
 |3=>some [(.o 3 82 1030003,.l (.t 132)),(.r 4,.i .i64)]
 |_=>none
def ali:Nat->Option LA
 |5=>some [(.o 3 82 1050003,.l (.t 132)),(.r 5,.i .i64)]
 |14=>some [(.o 3 82 1140003,.l (.t 132)),(.o 6 132 1140006,.t 132),(.r 9,.i .i64)]
 |10=>some [(.o 3 82 1100003,.l (.t 132)),(.o 6 132 1100006,.t 132),(.r 8,.i .i64)]
 |3=>some [(.o 3 82 1030003,.l (.t 132)),(.r 4,.i .i64)]
 |_=>none
def afw:Nat->Option LA
 |5=>some [(.r 3,.s),(.r 4,.i .i64)]
 |_=>none
def afF:Nat->Option LA
 |7=>some [(.r 9,.i .i64)]
 |15=>some [(.r 10,.i .i64),(.r 11,.i .i64)]
 |_=>none
def ak1:Nat->Option LA
 |7=>some [(.o 13 3 1070013,.i .i64),(.r 14,.i .i64)]
 |_=>none
def ak2:Nat->Option LA
 |4=>some [(.r 4,.i .i64)]
 |_=>none
def alh:Nat->Option LA
 |6=>some [(.r 12,.i .i64),(.b 12 0,.i .i64),(.b 12 1,.i .i64),(.b 12 2,.i .i64),(.bo 12 3 110 1061099,.t 110)]
 |_=>none
def ak0:Nat->Option LA
 |2=>some [(.r 5,.i .i64)]
 |_=>none
def afE:Nat->Option LA
 |3=>some [(.r 5,.i .i64),(.r 6,.i .i64)]
 |_=>none
def akZ:Nat->Option LA
 |8=>some [(.o 3 3 1080003,.i .i64),(.r 6,.i .i64)]
 |3=>some [(.o 3 3 1030003,.i .i64),(.r 4,.i .i64)]
 |100010=>some [(.c 3 0,.b)]
 |_=>none
def alp:Nat->Option LA
 |9=>some [(.o 11 79 1090011,.t 79),(.r 12,.i .i64)]
 |_=>none
def alg:Nat->Option LA
 |4=>some [(.r 4,.i .i64)]
 |_=>none
def alo:Nat->Option LA
 |11=>some [(.o 6 86 1110006,.t 86),(.r 9,.i .i64),(.b 9 0,.i .i64),(.b 9 1,.i .i64),(.b 9 2,.i .i64),(.b 9 3,.i .i64),(.b 9 4,.i .i64)]
 |6=>some [(.o 6 86 1060006,.t 86),(.r 7,.i .i64)]
 |_=>none
def akY:Nat->Option LA
 |15=>some [(.r 6,.b),(.r 7,.i .i64)]
 |4=>some [(.r 4,.i .i64)]
 |_=>none
def afv:Nat->Option LA
 |5=>some [(.r 7,.i .i64),(.r 8,.i .i64)]
 |_=>none
def afu:Nat->Option LA
 |3=>some [(.o 3 3 1030003,.i .i64),(.r 4,.i .i64)]
 |_=>none
def ald:Nat->Option LA
 |6=>some [(.o 3 145 1060003,.t 145),(.r 5,.i .i64)]
 |3=>some [(.o 3 145 1030003,.t 145),(.r 4,.i .i64)]
 |_=>none
def akX:Nat->Option LA
 |6=>some [(.o 3 42 1060003,.l (.i .i64)),(.r 5,.i .i64)]
 |3=>some [(.o 3 42 1030003,.l (.i .i64)),(.r 4,.i .i64)]
 |_=>none
def alf:Nat->Option LA
 |9=>some [(.o 5 42 1090005,.l (.i .i64)),(.o 7 3 1090007,.i .i64),(.r 8,.i .i64)]
 |5=>some [(.o 5 42 1050005,.l (.i .i64)),(.r 6,.i .i64)]
 |19=>some [(.o 5 42 1190005,.l (.i .i64)),(.o 10 3 1190010,.i .i64),(.r 11,.i .i64)]
 |15=>some [(.o 5 42 1150005,.l (.i .i64)),(.r 9,.i .i64)]
 |100012=>some [(.c 7 0,.b)]
 |_=>none
def ale:Nat->Option LA
 |11=>some [(.o 7 42 1110007,.l (.i .i64)),(.r 12,.i .i64)]
 |8=>some [(.o 7 42 1080007,.l (.i .i64)),(.r 11,.i .i64)]
 |3=>some [(.o 7 42 1030007,.l (.i .i64)),(.r 8,.i .i64)]
 |_=>none
def alc:Nat->Option LA
 |10=>some [(.o 7 42 1100007,.l (.i .i64)),(.o 9 3 1100009,.i .i64),(.r 10,.i .i64)]
 |6=>some [(.o 7 42 1060007,.l (.i .i64)),(.r 8,.i .i64)]
 |100013=>some [(.c 9 0,.b)]
 |_=>none
def afH:Nat->Option LA
 |2=>some [(.r 9,.i .i64)]
 |_=>none
def alb:Nat->Option LA
 |15=>some [(.o 5 42 1150005,.l (.i .i64)),(.r 11,.i .i64)]
 |12=>some [(.o 5 42 1120005,.l (.i .i64)),(.r 10,.i .i64)]
 |6=>some [(.o 5 42 1060005,.l (.i .i64)),(.r 8,.i .i64)]
 |_=>none
def akW:Nat->Option LA
 |2=>some [(.r 8,.i .i64)]
 |_=>none
def aft:Nat->Option LA
 |5=>some [(.r 7,.i .i64)]
 |_=>none
def afD:Nat->Option LA
 |6=>some [(.r 11,.i .u64),(.r 12,.i .i64)]
 |_=>none
def akV:Nat->Option LA
 |8=>some [(.o 14 3 1080014,.i .i64),(.r 44,.i .i64)]
 |_=>none
def afn:Nat->Option LA
 |3=>some [(.r 8,.i .i64)]
 |_=>none
def akU:Nat->Option LA
 |4=>some [(.r 29,.i .i64)]
 |_=>none
def ala:Nat->Option LA
 |9=>some [(.r 5,.l (.l (.t 106))),(.o 13 3 1090013,.i .i64),(.r 58,.i .i64),(.b 13 0,.i .i64),(.b 13 1,.i .i64),(.b 13 2,.i .i64),(.bo 13 3 110 1091107,.t 110)]
 |_=>none
def ak9:Nat->Option LA
 |3=>some [(.o 3 103 1030003,.l (.t 106)),(.r 4,.i .i64)]
 |_=>none
def aln:Nat->Option LA
 |9=>some [(.r 41,.i .i64),(.b 8 0,.i .i64),(.b 8 1,.i .i64),(.b 8 2,.i .i64),(.b 8 3,.l (.t 110)),(.bo 8 4 79 1091068,.t 79),(.m 232448,.i .i64),(.bm 507 0 232448,.b)]
 |_=>none
def akT:Nat->Option LA
 |5=>some [(.m 11,.i .i64),(.r 14,.i .i64)]
 |_=>none
def ak8:Nat->Option LA
 |7=>some [(.o 6 86 1070006,.t 86),(.m 19,.i .i64),(.r 22,.i .i64)]
 |_=>none
def Pw:Nat->Option LA
 |3=>some [(.o 5 3 1030005,.i .i64),(.r 12,.i .i64)]
 |_=>none
def Pv:Nat->Option LA
 |3=>some [(.o 5 3 1030005,.i .i64),(.r 12,.i .i64)]
 |_=>none
def afA:Nat->Option LA
 |6=>some [(.o 3 42 1060003,.l (.i .i64)),(.r 20,.i .i64)]
 |3=>some [(.o 3 42 1030003,.l (.i .i64)),(.r 10,.i .i64)]
 |_=>none
def afP:Nat->Option LA
 |5=>some [(.o 3 42 1050003,.l (.i .i64)),(.r 13,.i .i64)]
 |11=>some [(.o 3 42 1110003,.l (.i .i64)),(.r 29,.i .i64)]
 |_=>none
def afO:Nat->Option LA
 |13=>some [(.o 6 42 1130006,.l (.i .i64)),(.r 32,.i .i64)]
 |10=>some [(.o 6 42 1100006,.l (.i .i64)),(.r 28,.i .i64)]
 |6=>some [(.o 6 42 1060006,.l (.i .i64)),(.r 17,.i .i64)]
 |_=>none
def afN:Nat->Option LA
 |6=>some [(.o 3 145 1060003,.t 145),(.r 17,.i .i64)]
 |3=>some [(.o 3 145 1030003,.t 145),(.r 10,.i .i64)]
 |_=>none
def Ps:Nat->Option LA
 |3=>some [(.o 5 3 1030005,.i .i64),(.r 11,.i .i64)]
 |_=>none
def afM:Nat->Option LA
 |5=>some [(.o 5 42 1050005,.l (.i .i64)),(.r 29,.i .i64)]
 |_=>none
def afB:Nat->Option LA
 |6=>some [(.m 14,.i .i64),(.m 15,.t 86),(.r 18,.i .i64)]
 |_=>none
def Pm:Nat->Option LA
 |2=>some [(.r 8,.i .i64)]
 |_=>none
def afL:Nat->Option LA
 |17=>some [(.o 8 42 1170008,.l (.i .i64)),(.r 55,.i .i64)]
 |14=>some [(.o 8 42 1140008,.l (.i .i64)),(.r 50,.i .i64)]
 |8=>some [(.o 8 42 1080008,.l (.i .i64)),(.r 32,.i .i64)]
 |_=>none
def afm:Nat->Option LA
 |3=>some [(.o 3 3 1030003,.i .i64),(.r 8,.i .i64)]
 |_=>none
def afs:Nat->Option LA
 |8=>some [(.r 51,.i .i64),(.b 9 0,.i .i64)]
 |_=>none
def akS:Nat->Option LA
 |6=>some [(.o 3 42 1060003,.l (.i .i64)),(.r 16,.i .i64)]
 |3=>some [(.o 3 42 1030003,.l (.i .i64)),(.r 10,.i .i64)]
 |_=>none
def afz:Nat->Option LA
 |3=>some [(.m 8,.i .i64),(.r 11,.i .i64)]
 |_=>none
def afK:Nat->Option LA
 |6=>some [(.r 21,.i .i64)]
 |_=>none
def Pq:Nat->Option LA
 |2=>some [(.r 8,.i .i64)]
 |_=>none
def ak7:Nat->Option LA
 |6=>some [(.r 24,.i .i64)]
 |_=>none
def alm:Nat->Option LA
 |6=>some [(.r 26,.i .i64),(.b 614 1,.i .i64),(.b 614 2,.b),(.m 239296,.l (.i .i64))]
 |100005=>some [(.c 20 0,.b),(.c 21 0,.b)]
 |_=>none
def la8:Nat->Option LA
 |5=>some [(.r 20,.i .i64),(.b 614 1,.i .i64),(.b 614 2,.b),(.m 239296,.l (.i .i64)),(.bm 614 0 239296,.b)]
 |_=>none
def ak5:Nat->Option LA
 |13=>some [(.o 3 42 1130003,.l (.i .i64)),(.o 4 42 1130004,.l (.i .i64)),(.o 5 42 1130005,.l (.i .i64)),(.r 8,.b),(.r 9,.i .i64)]
 |9=>some [(.o 3 42 1090003,.l (.i .i64)),(.o 4 42 1090004,.l (.i .i64)),(.o 5 42 1090005,.l (.i .i64)),(.r 7,.i .i64)]
 |6=>some [(.o 3 42 1060003,.l (.i .i64)),(.o 4 42 1060004,.l (.i .i64)),(.o 5 42 1060005,.l (.i .i64)),(.r 6,.i .i64)]
 |3=>some [(.o 3 42 1030003,.l (.i .i64)),(.o 4 42 1030004,.l (.i .i64))]
 |_=>none
def afI:Nat->Option LA
 |13=>some [(.r 15,.i .i64)]
 |7=>some [(.r 2,.i .i64),(.r 13,.i .i64)]
 |_=>none
def ak4:Nat->Option LA
 |6=>some [(.o 8 212 1060008,.t 212),(.r 9,.i .i64),(.r 12,.i .i64)]
 |_=>none
def afG:Nat->Option LA
 |2=>some [(.r 5,.i .i64)]
 |_=>none
def ak3:Nat->Option LA
 |10=>some [(.r 11,.i .i64)]
 |5=>some [(.r 10,.i .i64)]
 |_=>none
def alk:Nat->Option LA
 |4=>some [(.o 5 52 1040005,.l (.t 212)),(.r 7,.i .i64)]
 |_=>none
def Po:Nat->Option LA
 |2=>some [(.r 8,.i .i64)]
 |_=>none
def Px:Nat->Option LA
 |2=>some [(.r 8,.i .i64)]
 |_=>none
def ak6:Nat->Option LA
 |5=>some [(.r 25,.i .i64),(.m 500000,.l (.i .i64))]
 |_=>none
def Pp:Nat->Option LA
 |2=>some [(.r 8,.i .i64)]
 |_=>none
def afJ:Nat->Option LA
 |11=>some [(.r 50,.i .i64),(.m 46,.l (.l (.i .i64)))]
 |100004=>some [(.c 10 0,.b),(.c 29 0,.b)]
 |100009=>some [(.c 46 0,.b)]
 |_=>none
def afC:Nat->Option LA
 |2=>some [(.r 8,.i .i64)]
 |_=>none
def afr:Nat->Option LA
 |3=>some [(.o 4 3 1030004,.i .i64),(.r 10,.i .i64)]
 |_=>none
def afl:Nat->Option LA
 |3=>some [(.r 11,.i .i64),(.m 450908,.i .i64)]
 |_=>none
def afk:Nat->Option LA
 |4=>some [(.r 13,.i .i64),(.b 7 0,.i .i64),(.b 7 1,.i .i64),(.b 7 2,.i .i64)]
 |_=>none
def afq:Nat->Option LA
 |3=>some [(.r 4,.l (.i .i64)),(.r 16,.i .i64)]
 |100002=>some [(.c 4 0,.b),(.c 13 0,.b)]
 |_=>none
def afy:Nat->Option LA
 |3=>some [(.r 7,.i .i64),(.r 8,.i .i64)]
 |_=>none
def afo:Nat->Option LA
 |3=>some [(.o 5 3 1030005,.i .i64),(.r 11,.i .i64)]
 |_=>none
def afx:Nat->Option LA
 |12=>some [(.r 46,.i .i64)]
 |_=>none
def afp:Nat->Option LA
 |3=>some [(.o 9 3 1030009,.i .i64),(.r 19,.i .i64)]
 |_=>none
def Pr:Nat->Option LA
 |3=>some [(.o 5 42 21030005,.l (.i .i64)),(.r 10,.i .i64)]
 |_=>none
def Pn:Nat->Option LA
 |2=>some [(.r 8,.i .i64)]
 |_=>none
def fE:Nat->Option LA:=λ_=>none
abbrev ci:TC:=.i .i64
abbrev cl:TC:=.l ci
abbrev cL:TC:=.l cl
abbrev AP{A R:Type}(F:A->R)(h:A)(r:R):Prop:=F h=r
abbrev u1{A X R:Type}(f:A->R)(h:A×X):R:=f h.1
abbrev u2{A B X R:Type}(f:A->B->R)(h:A×B×X):R:=f h.1 h.2.1
abbrev u3{A B C X R:Type}(f:A->B->C->R)(h:A×B×C×X):R:=f h.1 h.2.1 h.2.2.1
abbrev u4{A B C D X R:Type}(f:A->B->C->D->R)(h:A×B×C×D×X):R:=f h.1 h.2.1 h.2.2.1 h.2.2.2.1
abbrev u5{A B C D E X R:Type}(f:A->B->C->D->E->R)(h:A×B×C×D×E×X):R:=f h.1 h.2.1 h.2.2.1 h.2.2.2.1 h.2.2.2.2.1
abbrev sD(f:Nat)(ar rs:List TC)(p:Option (HL ar->Prop))(q:HL ar->D1 rs->Prop):Spec:=⟨f,ar.map λ_=>.d,ar,[],rs.map λ_=>.d,rs,[],p,q⟩
abbrev sE(f:Nat)(ar rs:List TC)(F:HL ar->D1 rs):Spec:=sD f ar rs none (AP F)
abbrev sP(f:Nat)(ar rs:List TC)(p:HL ar->Prop)(F:HL ar->D1 rs):Spec:=sD f ar rs (some p) (AP F)
def s4:=sE 4 [.l (.t 44)] [.b] (u1 wh)
def s23:=sP 23 [.l (.l (.t 132))] [.l (.l (.t 132))] (u1 WS) (u1 ju)
def s57:=sE 57 [.i .u8] [.b] (u1 kE)
def s24:=sP 24 [.s] [.l (.l (.t 132))] (u1 sq) (u1 iv)
def s185:=sP 185 [ci] [.s] (u1 aba) (u1 kF)
def s120:=sP 120 [.s,ci,ci] [ci,ci] (u3 zE) (u3 mq)
def s60:=sP 60 [.l (.t 132),.s,cl,cl,ci] [cl,ci,ci] (u5 MM) (u5 jM)
def s58:=sP 58 [.l (.l (.t 132)),ci,.s,ci] [cl,ci,ci] (u4 WT) (u4 ki)
def s59:=sE 59 [.t 26] [ci,ci] (u1 cr)
def s25:=sP 25 [.l (.l (.t 132)),ci] [.t 26,ci,ci,ci] (u2 MK) (u2 pU)
def s61:=sE 61 [cl,ci] [.b] (u2 pq)
def s121:=sE 121 [.l (.t 79),ci] [ci] (u2 fG)
def s62:=sP 62 [.l (.t 79)] [cl] (u1 ML) (u1 lP)
def s26:=sP 26 [.t 26,.l (.t 79),.l (.t 132),ci] [.t 79,ci,ci] (u4 KT) (u4 ng)
def s10:=sE 10 [.s] [.t 26,.l (.t 79),ci,ci] (u1 dv)
def s63:=sE 63 [.l (.t 79),ci] [.b] (u2 lO)
def s27:=sE 27 [.l (.t 79)] [ci,ci] (u1 ov)
def s11:=sE 11 [.l (.t 79)] [.l (.t 86),ci] (u1 pT)
def s122:=sD 122 [.t 86,.t 86] [.b] none (λ_ _=>True)
def s69:=sE 69 [.t 86,.t 86] [.b] (u2 ou)
def s64:=sD 64 [.l (.t 86)] [ci,ci] none (λ_ _=>True)
def s66:=sE 66 [ci,ci] [ci] (u2 du)
def s186:=sD 186 [ci,ci] [ci] none (λ_ _=>True)
def s187:=sD 187 [ci,ci,ci] [ci] none (λ_ _=>True)
def s188:=sD 188 [ci,ci] [ci] none (λ_ _=>True)
def s189:=sD 189 [ci,ci,ci] [ci] none (λ_ _=>True)
def s190:=sD 190 [.l (.t 86)] [cl] (some (u1 AB)) (λ_ _=>True)
def s31:=sD 31 [.l (.t 86)] [.l (.t 145)] (some (u1 AB)) (u1 ot)
def s123:=sD 123 [ci,ci,.l (.t 86)] [ci] (some (u3 Ck)) (λ_ _=>True)
def s65:=sD 65 [ci,ci,.l (.t 86)] [ci] (some (u3 Ck)) (λ_ _=>True)
def s28:=sD 28 [.t 26,.l (.t 86)] [ci] none (u2 uT)
def s67:=sD 67 [ci,ci,ci,ci] [ci] none (λ_ _=>True)
def s68:=sD 68 [cl] [cL] (some (u1 H4)) (u1 kg)
def s29:=sD 29 [ci,ci] [cL] none (u2 nT)
def s30:=sD 30 [ci,ci,.l (.t 145)] [cL] (some (u3 MQ)) (u3 nS)
def s70:=sD 70 [ci,ci,ci,ci] [ci] none (λ_ _=>True)
def s32:=sD 32 [ci,ci,ci] [cL] none (u3 nR)
def s71:=sD 71 [.t 26,.l (.t 86)] [ci,ci] none (u2 xr)
def s72:=sD 72 [ci,ci,ci] [ci] none (λ_ _=>True)
def s118:=sE 118 [.t 26,ci,ci] [ci,ci,.b] (u3 bN)
def s73:=sD 73 [.t 26,.t 86,ci] [ci,.b] none (λ_ _=>True)
def s33:=sD 33 [.t 26,.l (.t 86)] [cL] none (u2 nQ)
def s12:=sD 12 [.t 26,.l (.t 86)] [.t 30,ci] none (λ_ _=>True)
def s5:=sD 5 [.s] [.t 32] none (u1 uS)
def s280:=sP 280 [.i .u64,.i .u64] [.i .u64,.i .u64] (u2 xu) (u2 lK)
def s214:=sP 214 [.i .u64,.i .u64] [.i .u64,.i .u64] (u2 xu) (u2 gH)
def s130:Spec:=⟨130,[.d,.d],[cl,ci],[],[.o 3],[cl],[],(some (u2 KS)),AP (u2 fA)⟩
def s129:Spec:=⟨129,[.d,.p],[ci,ci],[3],[.d],[cl],[],(some (u2 H7)),AP (u2 kL)⟩
def s78:=sP 78 [ci] [cl,cl] (u1 SJ) (u1 mz)
def s79:=sE 79 [.l (.l (.t 106))] [.l (.t 106),.l (.l (.t 106))] (u1 jw)
def s218:=sP 218 [.s,.s] [.b] (u2 lQ) (u2 cB)
def s368:=sP 368 [.s,.s] [.s,.b] (u2 lQ) (u2 cC)
def s281:=sP 281 [.s,.s] [.s,.b] (u2 lQ) (u2 ir)
def s215:=sP 215 [.s] [.s,.b,.b] (u1 sq) (u1 gG)
def s131:=sP 131 [.s,ci,ci] [ci,ci] (u3 zE) (u3 mg)
def s80:=sP 80 [.l (.t 106),.s,cl,cl,ci] [cl,ci,ci] (u5 H3) (u5 eU)
def s132:=sE 132 [ci,ci] [.b] (u2 dk)
def s282:=sE 282 [cl] [ci] (u1 lX)
def s316:=sE 316 [ci] [.b] (u1 cmp_isNaN_int)
def s283:=sE 283 [ci,ci] [ci] (u2 fw)
def s216:=sE 216 [.t 110,.t 110] [ci] (u2 mA)
def s133:=sP 133 [.t 26,ci] [ci] (u2 KR) (u2 p8)
def s81:=sP 81 [.t 26] [ci,ci] (u1 Ea) (u1 aJ)
def s35:=sP 35 [.l (.l (.t 106)),ci] [.t 26,.l (.l (.t 106)),ci,ci] (u2 HY) (u2 fM)
def s134:=sP 134 [.s,.s] [.s,.s,.b] (u2 uX) (u2 dJ)
def s82:=sP 82 [.s,.s] [.s,.s,.b] (u2 uX) (u2 og)
def s135:=sP 135 [.s,.s] [.b] (u2 lQ) (u2 fX)
def s83:=sP 83 [.s,ci,ci] [.l (.t 106)] (u3 KP) (u3 jq)
def s36:=sP 36 [.s] [.l (.l (.t 106))] (u1 sq) (u1 cK)
def s84:Spec:=⟨84,[.d,.p,.p,.p],[.l (.t 106),.t 26,ci,.m ci],[26,3,170],[.d,.d,.d],[.t 79,ci,ci,.m ci],[2],(some (u4 SD)),AP (u4 fo)⟩
def s14:=sE 14 [.s] [.t 57,ci,ci] (u1 bZ)
def s140:=sE 140 [.t 79] [ci] (u1 l8)
def s88:=sE 88 [.l (.t 79)] [ci,ci] (u1 eO)
def s41:=sE 41 [.l (.t 79)] [.l (.t 86),ci] (u1 lI)
def s152:=sE 152 [.t 191] [ci] (u1 au)
def s154:Spec:=⟨154,[.d,.p],[ci,ci],[3],[.d],[.t 253],[],none,AP (u2 kH)⟩
def s166:=sE 166 [.t 191,ci] [ci,ci,ci] (u2 dY)
def s158:=sE 158 [.t 191,.t 253] [ci] (u2 cw)
def s153_154:Spec:=⟨153,[.d,.f 154 1],[.t 191,ci],[3],[.d],[cl],[],(some (u2 vW)),AP (u2 dQ)⟩
def s156:Spec:=⟨156,[.d,.p],[ci,ci],[3],[.d],[.t 253],[],none,AP (u2 kG)⟩
def s153_156:Spec:=⟨153,[.d,.f 156 1],[.t 191,ci],[3],[.d],[cl],[],(some (u2 vW)),AP (u2 dP)⟩
def s155:=sP 155 [cl] [cL] (u1 oY) (u1 iw)
def s100:=sE 100 [.t 191] [cL] (u1 di)
def s157:Spec:=⟨157,[.d,.d,.p],[ci,ci,.t 191],[191],[.d],[ci],[],none,AP (u3 jD)⟩
def s159:=sE 159 [.t 145,ci] [.b] (u2 gB)
def s101:=sP 101 [.t 191,.l (.t 145)] [cL] (u2 Gp) (u2 ew)
def s160:=sE 160 [.t 86,.t 86] [.b] (u2 cY)
def s102:=sP 102 [.l (.t 86)] [.l (.t 145)] (u1 gh) (u1 dL)
def s161:=sE 161 [.t 191,ci,ci] [ci] (u3 cA)
def s163:Spec:=⟨163,[.d,.p,.p],[ci,.t 191,ci],[191,3],[.d],[ci],[],none,AP (u3 kD)⟩
def s162_163:Spec:=⟨162,[.d,.f 163 2],[ci,.t 191,ci],[191,3],[.d],[cl],[],(some (u3 Cj)),AP (u3 cW)⟩
def s103:=sE 103 [.t 191,ci] [cL] (u2 dh)
def s291:=sE 291 [.t 86] [.b] (u1 gN)
def s223:=sE 223 [.t 86] [ci] (u1 e9)
def s146:=sE 146 [.l (.t 86)] [ci,ci] (u1 cU)
def s150:=sP 150 [.t 26,.l (.t 86)] [.t 191] (u2 Ci) (u2 bu)
def s277:Spec:=⟨277,[.d,.p,.p],[.t 110,ci,ci],[3,3],[.d],[.b],[],none,AP (u3 nU)⟩
def s278_277:Spec:=⟨278,[.d,.f 277 2],[.l (.t 110),ci,ci],[3,3],[.d],[ci],[],none,AP (u3 bn)⟩
def s212:=sE 212 [.t 26,ci,ci] [ci,ci,.b] (u3 oy)
def s165:=sE 165 [.t 263,.t 86,ci] [ci,.b] (u3 lJ)
def s227:Spec:=⟨227,[.d,.d,.d,.p],[ci,ci,ci,.t 191],[191],[.d],[ci],[],none,AP (u4 fN)⟩
def s104:=sP 104 [.t 26,.l (.t 86)] [cL] (u2 EF) (u2 eA)
def s105:=sE 105 [.t 191] [ci] (u1 aM)
def s295:=sD 295 [.t 191] [.b] none (λ_ _=>True)
def s378:=sD 378 [ci] [ci] none (λ_ _=>True)
def s296:=sD 296 [.t 191] [ci] none (λ_ _=>True)
def s297:=sD 297 [.t 191,ci] [ci] none (λ_ _=>True)
def s298:=sD 298 [.t 191] [ci] none (λ_ _=>True)
def s299:=sD 299 [.t 191,ci] [ci] none (λ_ _=>True)
def s300:=sD 300 [.l (.t 86)] [cl] (some (u1 gh)) (λ_ _=>True)
def s301:Spec:=⟨301,[.d,.p],[ci,ci],[3],[],[ci],[0],none,λ_ _=>True⟩
def s226:=sD 226 [.t 191,.l (.t 86)] [ci] none (λ_ _=>True)
def s151:=sD 151 [.t 191,.l (.t 86)] [ci] none (λ_ _=>True)
def s98:=sD 98 [.t 26,.l (.t 86)] [.t 191,ci] (some (u2 Ci)) (u2 vz)
def s108:Spec:=⟨108,[.d],[cl],[],[.o 3],[cl],[],(some (u1 AD)),AP (u1 bE)⟩
def s99:=sP 99 [.l cL] [cL] (u1 SI) (u1 nW)
def s47:=sD 47 [.t 26,.l (.t 86)] [.t 30,ci] (some (u2 EF)) (u2 rz)
def s18:=sD 18 [.s] [.t 65] (some (u1 wZ)) (u1 rE)
def s7:=sD 7 [.s] [.t 30,ci] (some (u1 wZ)) (u1 rF)
def s228:=sP 228 [ci,ci] [.b] (u2 MO) (u2 iP)
def s167:=sD 167 [ci,ci] [ci] none (λ_ _=>True)
def s302:=sE 302 [ci] [.b] (u1 xC)
def s229:=sE 229 [ci] [ci] (u1 kN)
def s168:Spec:=⟨168,[.d],[cl],[],[.m],[.m ci],[],none,λ_ _=>True⟩
def s106:=sD 106 [cl,ci] [ci] none (u2 pd)
def s170:Spec:=⟨170,[.d,.p],[ci,.m ci],[170],[.d],[.b],[],none,λ_ _=>True⟩
def s230_170:Spec:=⟨230,[.d,.f 170 1],[cl,.m ci],[170],[.d],[ci],[],none,λ_ _=>True⟩
def s169_170:Spec:=⟨169,[.d,.f 170 1],[cl,.m ci],[170],[.d],[.b],[],none,λ_ _=>True⟩
def s107:=sD 107 [cl] [.b] none (λ_ _=>True)
def s48:=sD 48 [.t 30] [ci,ci] none (u1 Ak)
def s8:=sD 8 [.t 30,.l (.t 44)] [ci,ci] (some (u2 MN)) (u2 tF)
def s54:=sP 54 [ci] [cL] (u1 SG) (u1 eT)
def s184:=sE 184 [.t 26,ci,ci,ci] [ci,ci] (u4 fm)
def s117:=sE 117 [.t 26,.l (.t 86),ci,.l (.t 212)] [ci,ci,ci] (u4 dC)
def s55:=sP 55 [.t 26,.l (.t 86),cl] [.l (.t 212),ci] (u3 SF) (u3 eK)
def s119:=sE 119 [.l (.t 212),ci] [ci] (u2 br)
def s56:=sE 56 [.t 26,.l (.t 86),.l (.t 212)] [.b] (u3 fF)
def s22:=sP 22 [.t 26,.l (.t 86)] [.l (.l (.t 212))] (u2 SL) (u2 na)
def s9:=sD 9 [.s] [.b] (some (u1 HZ)) (u1 yf)
def s50:Spec:=⟨50,[.p],[.t 124],[124],[.d],[.b],[],none,AP (u1 ix)⟩
def s231:Spec:=⟨231,[.d,.p],[ci,ci],[3],[.d],[.b],[],none,AP (u2 mr)⟩
def s230_231:Spec:=⟨230,[.d,.f 231 1],[cl,ci],[3],[.d],[ci],[],none,AP (u2 cQ)⟩
def s169_231:Spec:=⟨169,[.d,.f 231 1],[cl,ci],[3],[.d],[.b],[],none,AP (u2 dA)⟩
def s171:=sE 171 [cl,ci] [.b] (u2 jv)
def s111:=sD 111 [.t 44] [.b] none (u1 zD)
def s110:=sD 110 [.t 44] [.b] none (u1 ri)
def s109_110:Spec:=⟨109,[.d,.f 110 0],[.l (.t 44)],[],[.d],[ci],[],none,u1 cR⟩
def s51:=sD 51 [.l (.t 44)] [ci,ci] none (u1 uW)
def s52:Spec:=⟨52,[.p,.d],[cl,.t 124],[124],[.d],[ci,.t 124],[0],none,u2 iy⟩
def s115:Spec:=⟨115,[.p,.d],[cl,.t 124],[124],[.d],[.b],[],none,u2 jx⟩
def s176:=sD 176 [cl] [cl,cL] (some (u1 MJ)) (u1 qJ)
def s116:Spec:=⟨116,[.p,.d,.d],[cl,cl,.t 124],[124],[.d],[ci],[],(some (u3 Sz)),u3 mF⟩
def s53:Spec:=⟨53,[.p,.d],[.t 44,.t 124],[124],[.d],[ci,.t 124],[0],(some (u2 SK)),u2 nj⟩
def s20:Spec:=⟨20,[.p,.d],[.t 44,.t 124],[124],[.d],[ci,.t 124],[0],(some (u2 KQ)),u2 mG⟩
def s21:Spec:=⟨21,[.p],[.t 124],[124],[.d],[.b],[],none,AP (u1 jX)⟩
def s141:=sE 141 [cl,ci] [ci] (u2 iu)
def s89:=sE 89 [cl,ci] [.b] (u2 cb)
def s177:Spec:=⟨177,[.p,.d],[ci,.t 124],[124],[.d],[cl],[],none,AP (u2 gj)⟩
def s313:=sE 313 [ci] [ci] (u1 mH)
def s235:=sD 235 [cl] [cl,ci] (some (u1 H6)) (u1 vU)
def s410:Spec:=⟨410,[.d,.p],[ci,.m ci],[170],[.d],[ci],[],none,AP (u2 fZ)⟩
def s417:=sP 417 [cl,cl] [.t 455] (u2 qK) (u2 kT)
def s384:=sD 384 [cl,cl] [ci] (some (u2 qK)) (u2 rG)
def s385:=sD 385 [cl,cl] [ci,.b] (some (u2 qK)) (u2 vL)
def s314:=sD 314 [cl,cl] [cl,.b,ci] (some (u2 MI)) (u2 B2)
def s236:=sD 236 [cl,cL] [cl,ci,ci] (some (u2 H5)) (u2 rN)
def s179:=sD 179 [cl,cL] [ci,ci] (some (u2 SA)) (u2 B3)
def s180:Spec:=⟨180,[.p],[.t 124],[124],[.d],[cl],[],(some (u1 SH)),u1 nk⟩
def s238:=sD 238 [ci,ci] [.b] none (λ_ _=>True)
def s239:=sD 239 [ci] [.b] none (λ_ _=>True)
def s182:=sD 182 [cl,ci] [ci,.b] none (λ_ _=>True)
def s240:Spec:=⟨240,[.d,.p,.p,.p,.p],[ci,.m cL,cl,cL,cl],[275,42,28,42],[.d],[.b],[],(some (u5 SB)),u5 xt⟩
def s318:=sE 318 [cl,ci] [.b] (u2 ql)
def s242:=sD 242 [cL,ci] [cl] (some (u2 MP)) (u2 pV)
def s183:=sD 183 [cL,cl,cL,.m cL] [ci,ci] (some (u4 SE)) (u4 Ca)
def s317:=sE 317 [cl,ci] [ci] (u2 mK)
def s241:=sD 241 [cl,cl,ci,cL] [ci] (some (u4 SC)) (u4 tv)
def s3:=sE 3 [.s,.l (.t 44)] [.b] (u2 BI)
def s6:Spec:=⟨6,[],[],[],[.d],[.b],[],none,AP (λ_=>vP)⟩
def s217:Spec:=⟨217,[.d,.d],[.s,.s],[],[.d],[.i .i64],[],(some (u2 uX)),AP (u2 bG)⟩
def s136:Spec:=⟨136,[.d,.d],[.s,.i .u8],[],[.d],[.i .i64],[],none,AP (u2 strings_IndexByte)⟩
section
variable(sp:Nat->Option Spec)
def i175:zn:=⟨175,401,420,vn (tb sp 400 (λd=>440000+d) (aa [])) fE Tryz.f175 401 420⟩
def yR:zn:=⟨230,401,439,vn (tb sp 420 (λd=>442000+d) (aa [(175,i175 sp)])) Pp Tryz.f230 401 439⟩
def C3:zn:=⟨169,401,448,vn (tb sp 439 (λd=>443900+d) (aa [(230175,yR sp),(175,i175 sp)])) fE Tryz.f169 401 448⟩
def yS:zn:=⟨178,449,470,vn (tb sp 448 (λd=>444800+d) (aa [])) Pr Tryz.f178 449 470⟩
def i181:zn:=⟨181,449,493,vn (tb sp 470 (λd=>447000+d) (aa [(178177,yS sp)])) fE Tryz.f181 449 493⟩
def i114:zn:=⟨114,494,497,vn (tb sp 493 (λd=>449300+d) (aa [])) fE Tryz.f114 494 497⟩
def i164:zn:=⟨164,498,501,vn (tb sp 497 (λd=>449700+d) (aa [])) fE Tryz.f164 498 501⟩
def i37:zn:=⟨37,502,509,vn (tb sp 501 (λd=>232448) (aa [])) fE Tryz.f37 502 509⟩
def i359:zn:=⟨359,510,530,vn (tb sp 509 (λd=>450900+d) (aa [])) afl Tryz.f359 510 530⟩
def i418:zn:=⟨418,531,543,vn (tb sp 530 (λd=>453000+d) (aa [])) fE Tryz.f418 531 543⟩
def C2:zn:=⟨230,531,562,vn (tb sp 543 (λd=>454300+d) (aa [(418,i418 sp)])) Pn Tryz.f230 531 562⟩
def i49:zn:=⟨49,563,591,vn (tb sp 562 (λd=>456200+d) (aa [])) fE Tryz.f49 563 591⟩
def i19:zn:=⟨19,563,631,vn (tb sp 591 (λd=>239296) (aa [(49,i49 sp)])) alm Tryz.f19 563 631⟩
def i237:zn:=⟨237,632,635,vn (tb sp 631 (λd=>463100+d) (aa [])) fE Tryz.f237 632 635⟩
def C5:zn:=⟨113,900,0,(B4 174)⟩
def C4:zn:=⟨113,900,0,(B5 315)⟩
def i112:zn:=⟨112,900,0,Gf⟩
def il:Nat->Option zn:=(aa [(175,i175 sp),(230175,yR sp),(169175,C3 sp),(178177,yS sp),(181,i181 sp),(114,i114 sp),(164,i164 sp),(37,i37 sp),(359,i359 sp),(418,i418 sp),(230418,C2 sp),(49,i49 sp),(19,i19 sp),(237,i237 sp),(113174,C5),(113315,C4),(112,i112)])
def T1:Tb:=tb sp 0 (λd=>d) (il sp)
end
def l0:List (Nat×Spec):=[(6,s6),(217,s217),(136,s136)]
end
section
def SpF(sp:Nat->Option Spec):Prop:=∀i S,sp i=some S->eX Tryz.prog S.fd=true/\mW Tryz.prog S.fd S
def DZ(l:List (Nat×Spec)):Prop:=SpF (aa l)
def lE(g:zn):Prop:=g.hi<=900/\eX Tryz.prog g.fd=true/\∀(X:Cx),X.n<=899->(∀q∈X.qu,q.1<g.lo∨g.hi<q.1)->∀{s:TS} {E:En} {sy:Sy} {a:Act} {w:World} {χ:Nat->Nat} {vs:List RV} {oH:List SV} {o:Option Nat} {k:TS->Prop},bX X s E sy a w χ->FL (fO w χ E s) vs oH->(∀d,o=some d->d<X.n)->g.run s o vs k ->
 Bf Tryz.prog g.fd (oH.map (aP E.ρ)).toArray (λ_=>true) w χ λw' χ' v=>∃s' E' sy',k s'/\bX X s' E' sy' (a.put o v) w' χ'/\Hu X.nb o s s' E E' a (a.put o v) w w' χ χ'/\Fr (dl o) s s'
theorem mo:(Tryz.prog).follows .mixedOrders=true:=by kernel_rfl
def ady(lo hi:Nat):List (Nat×zn)->Prop
 |[]=>True
 |q::l=>(lE q.2/\Nat.ble lo q.2.lo=true/\Nat.ble q.2.hi hi=true)/\ady lo hi l
def ahQ:List (Nat×zn)->Prop
 |[]=>True
 |q::l=>lE q.2/\ahQ l
theorem allI{lo hi:Nat}:∀{l:List (Nat×zn)} {i:Nat} {g:zn},ady lo hi l->aa l i=some g->lE g/\lo<=g.lo/\g.hi<=hi
 |[],_,_,_,e=>by cases e
 |q::l,i,g,h,e=>by
  rcases aA e with⟨_,h2⟩|⟨_,h2⟩
  .subst h2;exact⟨h.1.1,aB h.1.2.1,aB h.1.2.2⟩
  .exact allI h.2 h2
theorem ZD{sp:Nat->Option Spec}{nb:Nat}{mn:Nat->Nat}:∀{l:List (Nat×zn)},ahQ l->VF Tryz.prog (tb sp nb mn (aa l))
 |[],_,i,g,e=>by cases e
 |q::l,h,i,g,e=>by
  rcases aA e with⟨_,h2⟩|⟨_,h2⟩
  .subst h2;exact h.1
  .exact ZD (sp:=sp) (nb:=nb) (mn:=mn) h.2 i g h2
theorem qU{sp:Nat->Option Spec}(hs:SpF sp){nb:Nat}{mn:Nat->Nat}{it:List (Nat×zn)}{la:Nat->Option LA}{F:Func}{lo hi NL:Nat}(hit:ady lo hi it)(hf:(Tryz.prog).funcs[NL]?=some F:=by kernel_rfl)(h2:eX Tryz.prog NL=true:=by kernel_rfl)(h1:Nat.ble hi 900=true:=by kernel_rfl)(uC:Nat.ble lo (nb+1)=true:=by kernel_rfl)(xX:Nat.ble (nb+F.ntmps) hi=true:=by kernel_rfl):
  lE ⟨NL,lo,hi,vn (tb sp nb mn (aa it)) la F lo hi⟩ :=
 ⟨aB h1,h2,λX hX hp {s} {E} {sy} {a} {w} {χ} {vs} {oH} {o} {k} h hv hd ht=>abK Rn hs (λi g e=>(allI hit e).1) mo hf (aB uC) (aB xX) (λi g e=>(allI hit e).2) hp h hv hd ht⟩
structure Ma (T:Tb) (la:Nat->Option LA) (F:Func) (S:Spec) (h:HL S.ar) (Q:D1 S.rs->Prop):Prop where
 ok:fnT T la F S h Q
theorem cv{T:Tb}{la:Nat->Option LA}{F:Func}{S:Spec}{h:HL S.ar}{Q:D1 S.rs->Prop}{p:Prop}(a:p)(e:p=fnT T la F S h Q:=by kernel_rfl):Ma T la F S h Q:=⟨e.mp a⟩
theorem DZ.cons{l:List (Nat×Spec)}(o:DZ l)(i:Nat)(S:Spec)(h:mW Tryz.prog S.fd S)(hb:eX Tryz.prog S.fd=true:=by kernel_rfl):DZ ((i,S)::l):=λj S' e=>by
 unfold aa at e;cases NB:Nat.beq i j with
 |true=>rw[NB]at e;cases e;exact⟨hb,h⟩
 |false=>rw[NB]at e;exact o j S' e
end
end Go.Te
namespace Go.Proofs.Y
open Go Go.Sv
section
def S214:Prop:=∀w X (x_:Int) (y_:Int),xu x_ y_->Bf Tryz.prog 214 #[.int .u64 x_,.int .u64 y_] eN w X (λw X' v=>v=.tuple #[.int .u64 ((gH x_ y_).1),.int .u64 ((gH x_ y_).2)])
def S135:Prop:=∀w X (s_:List UInt8) (Gn:List UInt8),lQ s_ Gn->Bf Tryz.prog 135 #[.string (bs s_),.string (bs Gn)] eN w X (λw X' v=>v=.bool (fX s_ Gn))
def S136:Prop:=∀w X (s_:List UInt8) (c_:Int),Bf Tryz.prog 136 #[.string (bs s_),.int .u8 c_] eN w X (λw X' v=>v=.int .i64 (strings_IndexByte s_ c_))
theorem hb214:eX Tryz.prog 214=true:=by kernel_rfl
theorem hb135:eX Tryz.prog 135=true:=by kernel_rfl
theorem hb136:eX Tryz.prog 136=true:=by kernel_rfl
end
end Go.Proofs.Y
