/- Lemmas. Conditions: their own. -/
import Derived.Test.YtmgahplojkmcaaaGreatProg
import Derived.KernelRfl
import Derived.Test.YtmgahplojkmcaaaGreatExG
set_option linter.all false
namespace Go.Proofs.Y
open Go Go.Sv
noncomputable section
def tyG(t:Nat):sX:=(Wg Tryz.prog t).getD ⟨0,0,[],false,.other⟩
def Mm(l:List Nat):oQ:=l.map λt=>(t,tyG t)
theorem HJ:∀{l:List Nat},l.map (Wg Tryz.prog)=l.map (λt=>some (tyG t))->∀{t:Nat} {s:sX},aa (Mm l) t=some s->Wg Tryz.prog t=some s
 |[],_,_,_,h=>by cases h
 |k::l,e,t,s,h=>by
  obtain⟨e1,e2⟩:=List.cons.inj e;rcases aA (show aa ((k,tyG k)::Mm l) t=some s from h)with⟨rfl,rfl⟩|⟨_,h⟩
  .exact e1
  .exact HJ e2 h
def bj:oQ:=Mm [1,2,3,4,5,9,22,24,26,27,28,30,32,35,42,44,45,52,57,65,67,71,73,79,82,86,90,97,101,103,106,110,122,124,132,142,145,148,158,170,174,177,181,191,203,205,206,212,226,234,249,253,254,261,263,264,268,275,308,314,320,332,352,361,380,455]
theorem T:dD Tryz.prog bj:=λ_ _ h=>HJ (by kernel_rfl) h
theorem mixed:Tryz.prog.follows .mixedOrders=true:=by kernel_rfl
end
end Go.Proofs.Y
namespace Go.Proofs.Y
open Go
section
structure cJ where
 State:Int
 Kind:Int
 Next:Int
 Result:Int
 deriving DecidableEq,Inhabited
structure ae where
 az:Int
 cV:Int
 eZ:Int
 Rows:List cJ
 deriving DecidableEq,Inhabited
structure aj where
 cE:Int
 Kind:Int
 cn:Int
 End:Int
 Result:Int
 deriving DecidableEq,Inhabited
structure ao where
 cD:Int
 cE:Int
 N:Int
 deriving DecidableEq,Inhabited
structure aC where
 Oper:Int
 Result:Int
 deriving DecidableEq,Inhabited
structure bJ where
 DK:Int
 bL:List (List Int)
 deriving DecidableEq,Inhabited
structure cz where
 Kind:Int
 Id:Int
 mT:List Int
 Hints:List Int
 deriving DecidableEq,Inhabited
structure ab where
 bI:Int
 az:Int
 deriving DecidableEq,Inhabited
structure cH where
 Kind:Int
 A:Int
 B:Int
 deriving DecidableEq,Inhabited
structure kA where
 o:ae
 deriving DecidableEq,Inhabited
structure dp where
 ga:ae
 lY:List ao
 deriving DecidableEq,Inhabited
structure jB where
 c:dp
 l:List aj
 f:bJ
 at_:Int
 e:Int
 big:Bool
 deriving DecidableEq,Inhabited
structure kz where
 O:ae
 L:List aj
 F:bJ
 At:Int
 E:Int
 Big:Bool
 deriving DecidableEq,Inhabited
structure ai where
 QA:Int
 At:Int
 Text:List UInt8
 deriving DecidableEq,Inhabited
structure aU where
 clauses:List (Int×(List Int))
 last:Int
 done:Bool
 deriving DecidableEq,Inhabited
structure adw where
 yes:Int
 no:Int
 deriving DecidableEq,Inhabited
end
end Go.Proofs.Y
namespace Go.Te
open Go Go.Sv Go.Proofs.Y
noncomputable section
inductive TC where
 |i (k:IntKind)
 |b
 |s
 |t (n:Nat)
 |l (c:TC)
 |m (c:TC)
deriving DecidableEq
@[reducible] def DD:Nat->Type
  |26=>ae
  |30=>bJ
  |32=>kz
  |44=>cz
  |57=>dp
  |65=>jB
  |79=>ao
  |86=>aj
  |106=>ai
  |110=>cJ
  |124=>aU
  |132=>ai
  |145=>Int×Int
  |191=>ab
  |212=>aC
  |253=>cH
  |263=>kA
  |455=>Int×Int×Int
  |_=>Unit
def dflt(n:Nat):DD n:=Classical.choice (by unfold DD;split<;>exact⟨default⟩)
@[reducible] def inhD:(n:Nat)->Inhabited (DD n)
  |26=>inferInstanceAs (Inhabited (ae))
  |30=>inferInstanceAs (Inhabited (bJ))
  |32=>inferInstanceAs (Inhabited (kz))
  |44=>inferInstanceAs (Inhabited (cz))
  |57=>inferInstanceAs (Inhabited (dp))
  |65=>inferInstanceAs (Inhabited (jB))
  |79=>inferInstanceAs (Inhabited (ao))
  |86=>inferInstanceAs (Inhabited (aj))
  |106=>inferInstanceAs (Inhabited (ai))
  |110=>inferInstanceAs (Inhabited (cJ))
  |124=>inferInstanceAs (Inhabited (aU))
  |132=>inferInstanceAs (Inhabited (ai))
  |145=>inferInstanceAs (Inhabited (Int×Int))
  |191=>inferInstanceAs (Inhabited (ab))
  |212=>inferInstanceAs (Inhabited (aC))
  |253=>inferInstanceAs (Inhabited (cH))
  |263=>inferInstanceAs (Inhabited (kA))
  |455=>inferInstanceAs (Inhabited (Int×Int×Int))
  |n=>⟨dflt n⟩
@[reducible] def den:TC->Type
  |.i _=>Int
  |.b=>Bool
  |.s=>List UInt8
  |.t n=>DD n
  |.l c=>List (den c)
  |.m c=>List (Int×den c)
inductive Er:Nat->Prop
inductive ErO:Op->Prop
inductive TV where
 |int (k:IntKind) (x:Int)
 |bool (x:Bool)
 |lit (x:Bool)
 |uq (x:Bool)
 |str (x:List UInt8)
 |sl (c:TC) (x:List (den c))
 |q (c:TC) (x:List (den c))
 |p (id off:Nat)
 |o (k:Nat)
 |m (k:Nat)
 |e (k:Nat) (i:Int) (off:Nat)
 |md (c:TC) (x:List (Int×den c))
 |j
 |a (c:TC) (x:den c) (off:Nat)
 |v (x:Value)
 |f (fn:Nat) (first:List (Bool×List TV)) (cap:List TV)
inductive RV where
 |s (x:TV)
 |g (l:List TV)
 |t (l:List RV)
@[reducible] def D1:List TC->Type
  |[]=>Unit
  |[c]=>den c
  |c::cs=>den c×D1 cs
@[reducible] def HL:List TC->Type
  |[]=>Unit
  |c::cs=>den c×HL cs
def slOf(c:TC):TV->Option (List (den c))
 |.v (.slice none 0 0)=>some []
 |.sl c' l=>if h:c'=c then some (h▸l)else none
 |_=>none
def mdOf(c:TC):TV->Option (List (Int×den c))
 |.md c' l=>if h:c'=c then some (h▸l)else none
 |_=>none
def ic:TV->Option Bool
 |.bool b=>some b
 |.lit b=>some b
 |.uq b=>some b
 |_=>none
structure Sh (α:Type) where
 cs:List TC
 un:α->HL cs
 bk:HL cs->α
 eq:∀h,un (bk h)=h
def sh:(n:Nat)->Sh (DD n)
 |26=>⟨[.i .i64,.i .i64,.i .i64,.l (.t 110)],λs=>(s.az,s.cV,s.eZ,s.Rows,()),λh=>⟨h.1,h.2.1,h.2.2.1,h.2.2.2.1⟩,λ_=>rfl⟩
 |30=>⟨[.i .i64,.l (.l (.i .i64))],λs=>(s.DK,s.bL,()),λh=>⟨h.1,h.2.1⟩,λ_=>rfl⟩
 |32=>⟨[.i .i64,.i .i64,.i .i64,.l (.t 110),.l (.t 86),.i .i64,.l (.l (.i .i64)),.i .i64,.i .i64,.b],λs=>(s.O.az,s.O.cV,s.O.eZ,s.O.Rows,s.L,s.F.DK,s.F.bL,s.At,s.E,s.Big,()),λh=>⟨⟨h.1,h.2.1,h.2.2.1,h.2.2.2.1⟩,h.2.2.2.2.1,⟨h.2.2.2.2.2.1,h.2.2.2.2.2.2.1⟩,h.2.2.2.2.2.2.2.1,h.2.2.2.2.2.2.2.2.1,h.2.2.2.2.2.2.2.2.2.1⟩,λ_=>rfl⟩
 |44=>⟨[.i .i64,.i .i64,.l (.i .i64),.l (.i .i64)],λs=>(s.Kind,s.Id,s.mT,s.Hints,()),λh=>⟨h.1,h.2.1,h.2.2.1,h.2.2.2.1⟩,λ_=>rfl⟩
 |57=>⟨[.i .i64,.i .i64,.i .i64,.l (.t 110),.l (.t 79)],λs=>(s.ga.az,s.ga.cV,s.ga.eZ,s.ga.Rows,s.lY,()),λh=>⟨⟨h.1,h.2.1,h.2.2.1,h.2.2.2.1⟩,h.2.2.2.2.1⟩,λ_=>rfl⟩
 |65=>⟨[.i .i64,.i .i64,.i .i64,.l (.t 110),.l (.t 79),.l (.t 86),.i .i64,.l (.l (.i .i64)),.i .i64,.i .i64,.b],λs=>(s.c.ga.az,s.c.ga.cV,s.c.ga.eZ,s.c.ga.Rows,s.c.lY,s.l,s.f.DK,s.f.bL,s.at_,s.e,s.big,()),λh=>⟨⟨⟨h.1,h.2.1,h.2.2.1,h.2.2.2.1⟩,h.2.2.2.2.1⟩,h.2.2.2.2.2.1,⟨h.2.2.2.2.2.2.1,h.2.2.2.2.2.2.2.1⟩,h.2.2.2.2.2.2.2.2.1,h.2.2.2.2.2.2.2.2.2.1,h.2.2.2.2.2.2.2.2.2.2.1⟩,λ_=>rfl⟩
 |79=>⟨[.i .i64,.i .i64,.i .i64],λs=>(s.cD,s.cE,s.N,()),λh=>⟨h.1,h.2.1,h.2.2.1⟩,λ_=>rfl⟩
 |86=>⟨[.i .i64,.i .i64,.i .i64,.i .i64,.i .i64],λs=>(s.cE,s.Kind,s.cn,s.End,s.Result,()),λh=>⟨h.1,h.2.1,h.2.2.1,h.2.2.2.1,h.2.2.2.2.1⟩,λ_=>rfl⟩
 |106=>⟨[.i .i64,.i .i64,.s],λs=>(s.QA,s.At,s.Text,()),λh=>⟨h.1,h.2.1,h.2.2.1⟩,λ_=>rfl⟩
 |110=>⟨[.i .i64,.i .i64,.i .i64,.i .i64],λs=>(s.State,s.Kind,s.Next,s.Result,()),λh=>⟨h.1,h.2.1,h.2.2.1,h.2.2.2.1⟩,λ_=>rfl⟩
 |124=>⟨[.m (.l (.i .i64)),.i .i64,.b],λs=>(s.clauses,s.last,s.done,()),λh=>⟨h.1,h.2.1,h.2.2.1⟩,λ_=>rfl⟩
 |132=>⟨[.i .i64,.i .i64,.s],λs=>(s.QA,s.At,s.Text,()),λh=>⟨h.1,h.2.1,h.2.2.1⟩,λ_=>rfl⟩
 |145=>⟨[.i .i64,.i .i64],λs=>(s.1,s.2,()),λh=>(h.1,h.2.1),λ_=>rfl⟩
 |191=>⟨[.i .i64,.i .i64],λs=>(s.bI,s.az,()),λh=>⟨h.1,h.2.1⟩,λ_=>rfl⟩
 |212=>⟨[.i .i64,.i .i64],λs=>(s.Oper,s.Result,()),λh=>⟨h.1,h.2.1⟩,λ_=>rfl⟩
 |253=>⟨[.i .i64,.i .i64,.i .i64],λs=>(s.Kind,s.A,s.B,()),λh=>⟨h.1,h.2.1,h.2.2.1⟩,λ_=>rfl⟩
 |263=>⟨[.i .i64,.i .i64,.i .i64,.l (.t 110)],λs=>(s.o.az,s.o.cV,s.o.eZ,s.o.Rows,()),λh=>⟨⟨h.1,h.2.1,h.2.2.1,h.2.2.2.1⟩⟩,λ_=>rfl⟩
 |455=>⟨[.i .i64,.i .i64,.i .i64],λs=>(s.1,s.2.1,s.2.2,()),λh=>(h.1,h.2.1,h.2.2.1),λ_=>rfl⟩
 |n=>⟨[],λ_=>(),λ_=>dflt n,λ_=>rfl⟩
def lf1:(c:TC)->den c->TV
 |.i k,x=>.int k x
 |.b,x=>.bool x
 |.s,x=>.str x
 |.l c,x=>.sl c x
 |.m c,x=>.md c x
 |.t _,_=>.j
def cl1:(c:TC)->TV->Option (den c)
 |.i k,.int k' x=>bif sameKind k k' then some x else none
 |.b,x=>ic x
 |.s,.str x=>some x
 |.l c,x=>slOf c x
 |.m c,x=>mdOf c x
 |_,_=>none
def lfH:(cs:List TC)->HL cs->List TV
 |[],_=>[]
 |c::cs,h=>lf1 c h.1::lfH cs h.2
def clH:(cs:List TC)->List TV->Option (HL cs)
 |[],[]=>some ()
 |c::cs,v::l=>match cl1 c v,clH cs l with
  |some x,some h=>some (x,h)
  |_,_=>none
 |_,_=>none
def Zo(n:Nat)(x:DD n):List TV:=lfH (sh n).cs ((sh n).un x)
def cls(n:Nat)(l:List TV):Option (DD n):=match clH (sh n).cs l with
 |some h=>some ((sh n).bk h)
 |none=>none
def kd:(c:TC)->den c->List TV
 |.i k,x=>[.int k x]
 |.b,x=>[.bool x]
 |.s,x=>[.str x]
 |.t n,x=>Zo n x
 |.l c,x=>[.sl c x]
 |.m c,x=>[.md c x]
def N0:(c:TC)->List TV->Option (den c)
 |.i k,[.int k' x]=>bif sameKind k k' then some x else none
 |.b,[x]=>ic x
 |.s,[.str x]=>some x
 |.t n,l=>cls n l
 |.l c,[x]=>slOf c x
 |.m c,[x]=>mdOf c x
 |_,_=>none
def repT:Nat->Bool
 |26=>true
 |30=>true
 |32=>true
 |44=>true
 |57=>true
 |65=>true
 |79=>true
 |86=>true
 |106=>true
 |110=>true
 |132=>true
 |145=>true
 |191=>true
 |212=>true
 |253=>true
 |263=>true
 |455=>true
 |_=>false
def yy:TC->Bool
 |.t n=>repT n
 |.m _=>false
 |_=>true
def mR:(c:TC)->Bool
 |.t _=>true
 |_=>false
def vd(c:TC)(l:List TV):RV:=bif mR c then .g l else match l with
 |[x]=>.s x
 |_=>.g l
inductive PK where
 |d
 |z
 |p
 |f (g n:Nat)
inductive RK where
 |d
 |o (e:Nat)
 |m
structure Spec where
 fd:Nat
 ps:List PK
 ar:List TC
 bt:List Nat
 rk:List RK
 rs:List TC
 ms:List Nat
 pre:Option (HL ar->Prop)
 po:HL ar->D1 rs->Prop
structure Wa where
 e:Nat
 c:TC
 l:List (den c)
structure J9 where
 c:TC
 l:List (Int×den c)
structure TS where
 al:List (Nat×RV)
 boxes:List (Nat×(Nat×List TV))
 own:List (Nat×Wa)
 aZ:List (Nat×J9)
 ca:List Nat
@[reducible] def FT:List TC->Type->Type
  |[],R=>R
  |c::cs,R=>den c->FT cs R
def apF{R:Type}:(cs:List TC)->FT cs R->HL cs->R
 |[],f,_=>f
 |c::cs,f,h=>apF cs (f h.1) h.2
def adz:(cs:List TC)->(HL cs->Prop)->Prop
 |[],p=>p ()
 |c::cs,p=>∀x:den c,adz cs (λh=>p (x,h))
def W9:Value->Option TV
 |.int k x=>some (.int k x)
 |.bool b=>some (.uq b)
 |.string s=>some (.str s.data.toList)
 |.slice none 0 0=>some (.v (.slice none 0 0))
 |.pointer none=>some (.v (.pointer none))
 |.map none=>some (.v (.map none))
 |.nilFunc=>some (.v .nilFunc)
 |.nilIface=>some (.v .nilIface)
 |_=>none
def consO{α:Type}:Option α->Option (List α)->Option (List α)
 |some x,some q=>some (x::q)
 |_,_=>none
def pairO{α β:Type}:Option β->Option α->Option (β×α)
 |some l,some q=>some (l,q)
 |_,_=>none
def Ig:List Value->Option (List TV)
 |[]=>some []
 |v::l=>consO (W9 v) (Ig l)
def ofV:Value->Option RV
 |.agg cs=>match Ig cs.toList with
  |some l=>some (.g l)
  |none=>none
 |v=>match W9 v with
  |some x=>some (.s x)
  |none=>none
def ev(s:TS):Operand->Option RV
 |.tmp t=>aa s.al t
 |.const v=>ofV v
 |.func f=>some (.s (.f f [] []))
 |.global _=>none
def j7(s:TS):List Operand->Option (List RV)
 |[]=>some []
 |x::l=>consO (ev s x) (j7 s l)
def aW:RV->List TV
 |.s x=>[x]
 |.g l=>l
 |.t _=>[]
def bx(s:TS)(id:Nat):Option (List TV):=match aa s.boxes id with
 |some (_,cs)=>some cs
 |none=>none
def put(s:TS)(d:Option Nat)(v:RV):TS:=match d with
 |some d=>⟨(d,v)::s.al,s.boxes,s.own,s.aZ,s.ca⟩
 |none=>s
def uy{α:Type}:List (Int×α)->Int->List (Int×α)
 |[],_=>[]
 |(j,x)::m,k=>if j=k then m else(j,x)::uy m k
def hU(ks:List Nat)(s:TS):TS:=⟨s.al,s.boxes,s.own.filter (λq=>!ks.any (Nat.beq q.1)),s.aZ,ks.map (λk=>2*k+1)++s.ca⟩
def ownsV:List TV->List Nat
 |[]=>[]
 |.o k::l=>k::ownsV l
 |_::l=>ownsV l
inductive Lc where
 |m (k:Nat)
 |r (t:Nat)
 |x (t i:Nat)
 |o (t e n:Nat)
 |c (t u:Nat)
 |b (id off:Nat)
 |bo (id off e n:Nat)
 |bm (id off k:Nat)
abbrev LA:=List (Lc×TC)
@[reducible] def zU:(c:TC)->Inhabited (den c)
  |.i _=>inferInstanceAs (Inhabited Int)
  |.b=>inferInstanceAs (Inhabited Bool)
  |.s=>inferInstanceAs (Inhabited (List UInt8))
  |.t n=>inhD n
  |.l c=>inferInstanceAs (Inhabited (List (den c)))
  |.m c=>inferInstanceAs (Inhabited (List (Int×den c)))
def qx(s:TS):TV->TV
 |.o k=>match aa s.own k with
  |some ⟨_,c,l⟩=>.sl c l
  |none=>.o k
 |.m k=>match aa s.aZ k with
  |some ⟨c,l⟩=>.md c l
  |none=>.m k
 |v=>v
def clD(s:TS)(c:TC)(l:List TV):Option (den c):=N0 c (l.map (qx s))
def plainV(s:TS):TV->Bool
 |.int _ _=>true
 |.bool _=>true
 |.lit _=>true
 |.uq _=>true
 |.str _=>true
 |.sl _ _=>true
 |.v _=>true
 |.o k=>(aa s.own k).isSome
 |.m k=>(aa s.aZ k).isSome
 |_=>false
def wJ(s:TS):TV->Bool
 |.p _ _=>true
 |.a _ _ _=>true
 |.f _ _ _=>true
 |v=>plainV s v
def DU:TV->Bool
 |.m _=>false
 |_=>true
def clR(s:TS)(c:TC):RV->Option (den c)
 |.s x=>bif mR c||!DU x then none else clD s c [x]
 |.g l=>bif mR c&&l.all DU then clD s c l else none
 |.t _=>none
def Fy(s:TS)(c:TC):List RV->Option (List (den c))
 |[]=>some []
 |v::vs=>match clR s c v,Fy s c vs with
  |some x,some q=>some (x::q)
  |_,_=>none
def N7(s:TS)(c:TC):RV->Option (List (den c))
 |.s (.v (.slice none 0 0))=>some []
 |.s (.sl c' l)=>if h:c'=c then some (h▸l)else none
 |.s (.o k)=>match aa s.own k with
  |some ⟨_,c',l⟩=>if h:c'=c then some (h▸l)else none
  |none=>none
 |_=>none
def L5(c:TC):RV->Option (List (den c))
 |.s (.q c' l)=>if h:c'=c then some (h▸l)else none
 |_=>none
def AX(s:TS)(e:Nat)(c:TC):RV->Option (List (den c))
 |.s (.v (.slice none 0 0))=>some []
 |.s (.o k)=>match aa s.own k with
  |some ⟨e',c',l⟩=>bif Nat.beq e' e then(if h:c'=c then some (h▸l)else none)else none
  |none=>none
 |_=>none
def rY:(cs:List TC)->D1 cs->List RV
 |[],_=>[]
 |[c],x=>[vd c (kd c x)]
 |c::c'::cs,x=>vd c (kd c x.1)::rY (c'::cs) x.2
def oneOf:List RV->RV
 |[v]=>v
 |l=>.t l
def smL:List TV->Prop->Prop
 |[],p=>p
 |.sl _ l::q,p=>∀(_:sm l),smL q p
 |_::q,p=>smL q p
def smR:(cs:List TC)->D1 cs->Prop->Prop
 |[],_,p=>p
 |[c],x,p=>smL (kd c x) p
 |c::c'::cs,x,p=>smL (kd c x.1) (smR (c'::cs) x.2 p)
def smAll:(cs:List TC)->HL cs->Prop->Prop
 |[],_,p=>p
 |c::cs,h,p=>smL (kd c h.1) (smAll cs h.2 p)
def andP:Option Prop->Prop->Prop
 |some p,q=>p/\q
 |none,q=>q
def isSc1:TC->Bool
 |.i _=>true
 |.b=>true
 |.s=>true
 |_=>false
def TY:TC->Bool
 |.t n=>(sh n).cs.all isSc1
 |c=>isSc1 c
end
noncomputable section
structure Qr where
 pre:Option Prop
 F5:List TV
 v:RV
def qv:Option RV->Option Qr
 |some v=>some ⟨none,[],v⟩
 |none=>none
def qs(v:TV):Option RV:=some (.s v)
def ofA:Option Value->Option RV
 |some (.int k x)=>some (.s (.int k x))
 |some (.bool b)=>some (.s (.bool b))
 |_=>none
def AU:Option RV->Option Bool
 |some (.s v)=>ic v
 |_=>none
def litR:Option RV->Option RV
 |some (.s (.uq b))=>some (.s (.lit b))
 |v=>v
def aan:TV->Option Value
 |.int k x=>some (.int k x)
 |.bool x=>some (.bool x)
 |.lit x=>some (.bool x)
 |.uq x=>some (.bool x)
 |.str x=>some (.string (bs x))
 |_=>none
def vals:List TV->Option (List Value)
 |[]=>some []
 |x::l=>match aan x,vals l with
  |some v,some q=>some (v::q)
  |_,_=>none
def Is(s:TS)(agg:Bool)(l:List TV):Option RV:=bif agg then(bif l.all (plainV s)then some (.g l)else none)else match l with
 |[x]=>some (.s x)
 |_=>none
structure zn where
 fd:Nat
 lo:Nat
 hi:Nat
 run:TS->Option Nat->List RV->(TS->Prop)->Prop
structure Tb where
 bj:oQ
 sp:Nat->Option Spec
 et:Nat->Option (Nat×TC)
 mt:Nat->Option TC
 kt:Nat->Option (List Bool)
 pt:Nat->Bool
 nb:Nat
 mn:Nat->Nat
 inl:Nat->Option zn
section
variable(T:Tb)(la:Nat->Option LA)
def zC:(c:TC)->Option (den c)
 |.i _=>some (0:Int)
 |.b=>some false
 |.s=>some ([]:List UInt8)
 |.l _=>some []
 |.m _=>some []
 |.t n=>match aa T.bj n with
  |some ty=>(match Ig ty.zero with
   |some zs=>cls n zs
   |none=>none)
  |none=>none
def Oy(t:Nat):Option (Nat×Bool):=match aa T.bj t with
 |some s=>some (s.size,s.agg)
 |none=>none
def AN(t f:Nat):Option (Nat×Nat×Bool):=match aa T.bj t with
 |some ⟨_,_,_,_,.struct fs⟩=>match fs[f]? with
  |some (off,size,ft)=>match aa T.bj ft with
   |some ty=>bif Nat.beq ty.size size then some (off,size,ty.agg)else none
   |none=>none
  |none=>none
 |_=>none
def arr(t:Nat):Option (Nat×Nat):=match aa T.bj t with
 |some ⟨_,_,_,_,.array n _ es⟩=>some (n,es)
 |_=>none
def JB(place:Nat->Option (Nat×Nat)):List (Nat×RV)->List TV->Option (List TV)
 |[],cs=>some cs
 |(i,v)::rest,cs=>match place i with
  |some (off,size)=>bif Nat.beq (aW v).length size&&Nat.ble (off+size) cs.length then JB place rest (cs.take off++aW v++cs.drop (off+size))else none
  |none=>none
def Sq(c a b:Option RV):Option RV:=match c with
 |some (.s (.lit true))=>litR a
 |some (.s (.lit false))=>litR b
 |some (.s (.uq true))=>litR a
 |some (.s (.uq false))=>litR b
 |_=>none
def Sm(op:BinOp)(k:IntKind)(a n:Int):Option RV:=match op with
 |.shr=>qs (.int k (a.fdiv (2^(min n.toNat k.bits))))
 |.shl=>qs (.int k (k.wrap (a*2^(min n.toNat k.bits))))
 |_=>none
def XC:BinOp->Bool
 |.shl=>true
 |.shr=>true
 |_=>false
def isQ:BinOp->Bool
 |.quo=>true
 |.rem=>true
 |_=>false
def Sn(op:BinOp)(k:IntKind)(a b:Int):Option RV:=match op with
 |.quo=>qs (.int k (k.wrap (a.tdiv b)))
 |.rem=>qs (.int k (a.tmod b))
 |_=>none
def isC:Operand->Bool
 |.const _=>true
 |_=>false
def aeY(p:Prop):Option RV->Option Qr
 |some v=>some ⟨some p,[],v⟩
 |none=>none
def qInt(cy:Bool)(op:BinOp)(k k':IntKind)(a b:Int):Option Qr :=
 bif XC op then(bif cy then qv (ofA (ym op k a b))else aeY ((0:Int)<=b) (Sm op k a b))else
 bif sameKind k k' then(bif isQ op then(bif cy then(bif b==0 then none else qv (Sn op k a b))else aeY (b≠0) (Sn op k a b))else qv (ofA (arith op k a b)))else none
def qEq(op:BinOp)(b:Bool):Option RV:=match op with
 |.eql=>qs (.bool b)
 |.neq=>qs (.bool (!b))
 |_=>none
def Zi(op:BinOp)(a b:Bool):Option RV:=match op with
 |.eql=>qs (.bool (a==b))
 |.neq=>qs (.bool (a !=b))
 |_=>none
def qStr(op:BinOp)(a b:List UInt8):Option Qr:=match op with
 |.eql=>qv (qs (.bool (a==b)))
 |.neq=>qv (qs (.bool (!(a==b))))
 |.add=>some ⟨some (a.length+b.length<=4611686018427387904),[],.s (.str (a++b))⟩
 |_=>none
def tL:Option sX->Bool
 |some ⟨_,_,_,_,.bool⟩=>true
 |_=>false
def aaZ(bt:Bool)(op:BinOp):Option Bool->Option Bool->Option RV
 |some a,some b=>bif bt then Zi op a b else none
 |_,_=>none
def kindV:List Bool->List Value->Bool
 |[],[]=>true
 |true::ks,.int _ _::l=>kindV ks l
 |false::ks,.string _::l=>kindV ks l
 |_,_=>false
def aa5(op:BinOp)(ks:Option (List Bool)):Option (List Value)->Option (List Value)->Option RV
 |some a,some b=>match ks with
  |some ks=>bif kindV ks a then(match j8 a b with
   |some r=>qEq op r
   |none=>none)else none
  |none=>none
 |_,_=>none
def WO(bt cy:Bool)(ks:Option (List Bool))(op:BinOp)(x y:Option RV):Option Qr:=match x,y with
 |some (.s (.int k a)),some (.s (.int k' b))=>qInt cy op k k' a b
 |some (.s (.str a)),some (.s (.str b))=>qStr op a b
 |some (.s a),some (.s b)=>qv (aaZ bt op (ic a) (ic b))
 |some (.g xs),some (.g ys)=>qv (aa5 op ks (vals xs) (vals ys))
 |_,_=>none
def qNC(s:TS)(p m:Bool)(op:BinOp)(x y:Option RV):Option RV:=match x,y,op with
 |some (.s (.p _ _)),some (.s (.v (.pointer none))),.neq=>bif p then qs (.uq true)else none
 |some (.s (.p _ _)),some (.s (.v (.pointer none))),.eql=>bif p then qs (.uq false)else none
 |some (.s (.m k)),some (.s (.v (.map none))),.neq=>bif m&&(aa s.aZ k).isSome then qs (.uq true)else none
 |some (.s (.m k)),some (.s (.v (.map none))),.eql=>bif m&&(aa s.aZ k).isSome then qs (.uq false)else none
 |_,_,_=>none
def orQ(x:Option RV)(y:Option Qr):Option Qr:=match x with
 |some r=>qv (some r)
 |none=>y
def qUn(op:UnOp)(x:Option RV):Option RV:=match op,x with
 |.not,some (.s (.bool b))=>qs (.bool (!b))
 |.not,some (.s (.lit b))=>qs (.lit (!b))
 |.not,some (.s (.uq b))=>qs (.uq (!b))
 |.xor,some (.s (.int k n))=>ofA (arith .xor k (if k.signed then -1 else k.max) n)
 |.neg,some (.s (.int k a))=>qs (.int k (k.wrap (0-a)))
 |_,_=>none
def ifR(b:Bool)(v:Option RV):Option RV:=bif b then v else none
def qSm:Option RV->Option Qr
 |some v=>some ⟨none,aW v,v⟩
 |none=>none
def qLoad(mem:Bool)(s:TS)(x:Option RV)(sz:Option (Nat×Bool)):Option Qr:=match x,sz with
 |some (.s (.p id off)),some (n,agg)=>match bx s id with
  |some cs=>bif Nat.ble (off+n) cs.length then qv (Is s agg ((cs.drop off).take n))else none
  |none=>none
 |some (.s (.a c x off)),some (n,agg)=>bif mem&&Nat.ble (off+n) (kd c x).length then qSm (Is s agg (((kd c x).drop off).take n))else none
 |some (.s (.e j i off)),some (n,agg)=>bif mem then(match aa s.own j with
  |some ⟨_,c,l⟩=>bif Nat.ble (off+n) (kd c (@gi (den c) (zU c) l i)).length then qSm (Is s agg (((kd c (@gi (den c) (zU c) l i)).drop off).take n))else none
  |none=>none)else none
 |_,_=>none
def Gl(s:TS)(x:Option RV)(f:Option (Nat×Nat×Bool)):Option RV:=match x,f with
 |some (.s (.p id off)),some (o,n,_)=>bif Nat.ble 1 n then qs (.p id (off+o))else none
 |some (.s (.a c x off)),some (o,n,_)=>bif Nat.ble 1 n then qs (.a c x (off+o))else none
 |some (.s (.e j i off)),some (o,n,_)=>bif Nat.ble 1 n&&(aa s.own j).isSome then qs (.e j i (off+o))else none
 |_,_=>none
def plainR(s:TS):RV->Bool
 |.s x=>plainV s x
 |.g l=>l.all (plainV s)
 |.t _=>false
def gR:Option (List TV)->Option RV
 |some l=>some (.g l)
 |none=>none
def KL(s:TS)(ty:Option sX)(is:List Nat)(vs:Option (List RV)):Option RV:=match ty,vs with
 |some ⟨_,_,zero,_,.struct fs⟩,some vs=>bif vs.all (plainR s)then(match Ig zero with
  |some z=>gR (JB (λi=>(fs[i]?).map (λq=>(q.1,q.2.1))) (is.zip vs) z)
  |none=>none)else none
 |some ⟨_,_,zero,_,.array _ _ es⟩,some vs=>bif vs.all (plainR s)then(match Ig zero with
  |some z=>gR (JB (λi=>some (i*es,es)) (is.zip vs) z)
  |none=>none)else none
 |_,_=>none
def YC(e:Option (Nat×TC))(c:TC):Bool:=match e with
 |some (_,c')=>decide (c'=c)
 |none=>false
def qIndexA(s:TS)(e:Option (Nat×TC))(x i:Option RV)(a:Option (Nat×Nat)):Option Qr:=match x,i with
 |some (.s (.sl c l)),some (.s (.int _ n))=>bif YC e c then some ⟨some ((0:Int)<=n/\n<(l.length:Int)),[],.s (.a c (@gi (den c) (zU c) l n) 0)⟩else none
 |some (.s (.o j)),some (.s (.int _ n))=>match aa s.own j with
  |some ⟨_,c,l⟩=>bif YC e c then some ⟨some ((0:Int)<=n/\n<(l.length:Int)),[],.s (.e j n 0)⟩else none
  |none=>none
 |some (.s (.p id off)),some (.s (.int _ (.ofNat n)))=>match a with
  |some (len,es)=>bif Nat.blt n len then qv (qs (.p id (off+n*es)))else none
  |none=>none
 |some (.s (.a c x off)),some (.s (.int _ (.ofNat n)))=>match a with
  |some (len,es)=>bif Nat.blt n len then qv (qs (.a c x (off+n*es)))else none
  |none=>none
 |some (.s (.e j k off)),some (.s (.int _ (.ofNat n)))=>match a with
  |some (len,es)=>bif Nat.blt n len&&(aa s.own j).isSome then qv (qs (.e j k (off+n*es)))else none
  |none=>none
 |_,_=>none
def Nq(k:IntKind):List TV->Option (List Int)
 |[]=>some []
 |.int k' x::l=>bif sameKind k k' then consO (some x) (Nq k l)else none
 |_=>none
def YM(t:Nat):Option Nat:=match aa T.bj t with
 |some ⟨_,_,_,_,.array m e 1⟩=>match aa T.bj e with
  |some ty=>bif ty.agg then none else some m
  |none=>none
 |_=>none
def qIndexG(m:Option Nat)(n:Int):List TV->Option Qr
 |.int k x::l=>match Nq k (.int k x::l),m with
  |some xs,some m=>bif Nat.beq m xs.length then some ⟨some ((0:Int)<=n/\n<(xs.length:Int)),[],.s (.int k (gi xs n))⟩else none
  |_,_=>none
 |_=>none
def qIndex(b:Bool)(m:Option Nat)(x i:Option RV):Option Qr:=match x,i with
 |some (.s (.str l)),some (.s (.int _ n))=>bif b then some ⟨some ((0:Int)<=n/\n<(l.length:Int)),[],.s (.int .u8 (((gi l n).toNat:Nat):Int))⟩else none
 |some (.g l),some (.s (.int _ n))=>qIndexG m n l
 |_,_=>none
def KK(s:TS)(x:Option RV)(f:Option (Nat×Nat×Bool)):Option RV:=match x,f with
 |some (.g l),some (off,n,agg)=>bif Nat.ble (off+n) l.length then Is s agg ((l.drop off).take n)else none
 |_,_=>none
def Ss(b:Bool)(x:Option RV)(ty:Option sX):Option RV:=match x,ty with
 |some (.s (.int _ n)),some ⟨_,_,_,_,.int k⟩=>bif b then qs (.int k (k.wrap n))else none
 |_,_=>none
def aa0(s:TS):Option RV->Option RV
 |some (.s (.p id off))=>qs (.p id off)
 |some (.s (.a c x off))=>qs (.a c x off)
 |some (.s (.e j i off))=>ifR (aa s.own j).isSome (qs (.e j i off))
 |_=>none
def aa1(x y:Option RV):Option RV:=match x,y with
 |some (.s (.int k a)),some (.s (.int _ b))=>qs (.int k (if b<a then b else a))
 |_,_=>none
def aa2(x y:Option RV):Option RV:=match x,y with
 |some (.s (.int k a)),some (.s (.int _ b))=>qs (.int k (if b>a then b else a))
 |_,_=>none
def qT:Option sX->Bool
 |some ⟨_,_,_,_,.slice _⟩=>true
 |_=>false
def vk:Option sX->Bool
 |some ⟨_,_,_,_,.str⟩=>true
 |_=>false
def aa3(s:TS)(ty:Option sX)(mp:Bool):Option RV->Option RV
 |some (.s (.sl _ l))=>ifR (qT ty) (qs (.int .i64 ((l.length:Nat):Int)))
 |some (.s (.str l))=>ifR (vk ty) (qs (.int .i64 ((l.length:Nat):Int)))
 |some (.s (.o j))=>match aa s.own j with
  |some ⟨_,_,l⟩=>ifR (qT ty) (qs (.int .i64 ((l.length:Nat):Int)))
  |none=>none
 |some (.s (.m k))=>match aa s.aZ k with
  |some ⟨_,l⟩=>ifR mp (qs (.int .i64 ((l.length:Nat):Int)))
  |none=>none
 |some (.s (.v (.slice none 0 0)))=>ifR (qT ty) (qs (.int .i64 0))
 |_=>none
def mIs(e:Option TC)(c:TC):Bool:=match e with
 |some c'=>decide (c'=c)
 |none=>false
def Sr(s:TS)(e:Option TC)(ok:Bool)(x i:Option RV):Option RV:=match x,i with
 |some (.s (.m k)),some (.s (.int .i64 q))=>match aa s.aZ k with
  |some ⟨c,l⟩=>bif mIs e c then(match zC T c with
   |some z=>some (bif ok then .t [vd c (kd c ((bB l q).getD z)),.s (.bool (bB l q).isSome)]else vd c (kd c ((bB l q).getD z)))
   |none=>none)else none
  |none=>none
 |_,_=>none
def qExtract(i:Nat):Option RV->Option RV
 |some (.t l)=>l[i]?
 |_=>none
def pZ(s:TS):Option Operand->Option (Option Int)
 |none=>some none
 |some x=>match ev s x with
  |some (.s (.int _ n))=>some (some n)
  |_=>none
def LR(a b:Option Int)(n:Nat):Option Prop:=match a,b with
 |some a,some b=>some ((0:Int)<=a/\a<=b/\b<=(n:Int))
 |some a,none=>some ((0:Int)<=a/\a<=(n:Int))
 |none,some b=>some ((0:Int)<=b/\b<=(n:Int))
 |none,none=>none
def tX{α:Type}(a b:Option Int)(l:List α):List α:=match a,b with
 |some a,some b=>(l.take b.toNat).drop a.toNat
 |some a,none=>l.drop a.toNat
 |none,some b=>l.take b.toNat
 |none,none=>l
def qSlice(e:Option (Nat×TC))(b:Bool)(x:Option RV)(lo hi:Option (Option Int)):Option Qr:=match x,lo,hi with
 |some (.s (.str l)),some a,some h=>bif b then some ⟨LR a h l.length,[],.s (.str (tX a h l))⟩else none
 |some (.s (.sl c l)),some a,some h=>bif YC e c then some ⟨LR a h l.length,[],.s (.sl c (tX a h l))⟩else none
 |some (.s (.v (.slice none 0 0))),some a,some h=>match e with
  |some (_,c)=>some ⟨LR a h 0,[],.s (.sl c (tX a h ([]:List (den c))))⟩
  |none=>none
 |_,_,_=>none
def qCap(e:Option (Nat×TC))(x hi mx:Option RV):Option Qr:=match x,hi,mx with
 |some (.s (.sl c l)),some (.s (.int _ a)),some (.s (.int _ b))=>bif YC e c then some ⟨some (a=(l.length:Int)/\b=(l.length:Int)),[],.s (.q c l)⟩else none
 |_,_,_=>none
def sJ:RV->Option (Bool×List TV)
 |.s x=>some (false,[x])
 |.g l=>some (true,l)
 |.t _=>none
def LZ:List RV->Option (List (Bool×List TV))
 |[]=>some []
 |v::l=>consO (sJ v) (LZ l)
def okF:TV->Bool
 |.int _ _=>true
 |.bool _=>true
 |.lit _=>true
 |.uq _=>true
 |.str _=>true
 |.sl _ _=>true
 |.v _=>true
 |.p _ _=>true
 |_=>false
def YA:List RV->Option (List TV)
 |[]=>some []
 |.s (.p id off)::l=>consO (some (.p id off)) (YA l)
 |_=>none
def aa4(f:Nat)(fi cp:Option (List RV)):Option RV:=match fi,cp with
 |some p,some q=>match LZ p,YA q with
  |some l,some m=>bif l.all (λx=>x.2.all okF)then qs (.f f l m)else none
  |_,_=>none
 |_,_=>none
def uV(mem:Bool)(s:TS)(o:Op):Option Qr :=
 match o with
 |.move x=>qv (ev s x)
 |.assign x=>qv (ev s x)
 |.pick c a b=>qv (Sq (ev s c) (ev s a) (ev s b))
 |.binOp op t x y _=>orQ (qNC s (T.pt t) (T.mt t).isSome op (ev s x) (ev s y)) (WO (tL (aa T.bj t)) (isC y) (T.kt t) op (ev s x) (ev s y))
 |.unOp op _ x=>qv (qUn op (ev s x))
 |.load t x=>qLoad mem s (ev s x) (Oy T t)
 |.fieldAddr t x f=>qv (Gl s (ev s x) (AN T t f))
 |.build t ps=>qv (KL s (aa T.bj t) (ps.toList.map (·.1)) (j7 s (ps.toList.map (·.2))))
 |.extract x i=>qv (qExtract i (ev s x))
 |.indexAddr t x i=>qIndexA s (T.et t) (ev s x) (ev s i) (arr T t)
 |.index t x i=>qIndex (vk (aa T.bj t)) (YM T t) (ev s x) (ev s i)
 |.field t x f=>qv (KK s (ev s x) (AN T t f))
 |.lookup t x i ok=>bif mem then qv (Sr T s (T.mt t) ok (ev s x) (ev s i))else none
 |.convert t0 t x=>qv (Ss (aa T.bj t0).isSome (ev s x) (aa T.bj t))
 |.nilCheck x=>qv (aa0 s (ev s x))
 |.makeFunc (.func f) fi cp=>qv (aa4 f (j7 s fi.toList) (j7 s cp.toList))
 |.slice t x none (some hi) (some mx)=>qCap (T.et t) (ev s x) (ev s hi) (ev s mx)
 |.slice t x lo hi none=>qSlice (T.et t) (vk (aa T.bj t)) (ev s x) (pZ s lo) (pZ s hi)
 |.call ⟨.builtin .min,xs,_⟩=>match xs.toList with
  |[x,y]=>qv (aa1 (ev s x) (ev s y))
  |_=>none
 |.call ⟨.builtin .max,xs,_⟩=>match xs.toList with
  |[x,y]=>qv (aa2 (ev s x) (ev s y))
  |_=>none
 |.call ⟨.builtin .len,xs,ts⟩=>match xs.toList,ts.toList with
  |[x],[t]=>qv (aa3 s (aa T.bj t) (T.mt t).isSome (ev s x))
  |_,_=>none
 |_=>none
def EB:Option Qr->Option RV
 |some ⟨none,[],v⟩=>some v
 |_=>none
def namesV(f:TV->Bool):List TV->Bool
 |[]=>false
 |v::l=>f v||namesV f l
def names1(f:TV->Bool):TV->Bool
 |.f _ a b=>a.any (λx=>namesV f x.2)||namesV f b
 |v=>f v
def mC(f:TV->Bool):RV->Bool
 |.s v=>names1 f v
 |.g l=>namesV (names1 f) l
 |.t l=>l.any (λx=>match x with
  |.s v=>names1 f v
  |.g l=>namesV (names1 f) l
  |.t _=>false)
def noReg(f:TV->Bool)(d:Nat)(s:TS):Bool:=s.al.all (λq=>Nat.beq q.1 d||(match aa s.al q.1 with
 |some x=>!mC f x
 |none=>true))
def tB(f:TV->Bool)(s:TS):Bool:=s.boxes.all (λq=>match aa s.boxes q.1 with
 |some y=>!namesV (names1 f) y.2
 |none=>true)
def fa(k:Nat):TV->Bool
 |.o j=>Nat.beq j k
 |.e j _ _=>Nat.beq j k
 |.m j=>Nat.beq j k
 |_=>false
def tK(k:Nat):TV->Bool
 |.p j _=>Nat.beq j k
 |.j=>true
 |_=>false
def newO(s:TS)(d:Option Nat)(e:Nat)(c:TC)(l:List (den c))(k:TS->Prop):Prop:=match d with
 |some d=>bif noReg (fa d) d s&&tB (fa d) s&&(aa s.aZ d).isNone then k ⟨(d,.s (.o d))::s.al,s.boxes,(d,⟨e,c,l⟩)::s.own,s.aZ,(2*d+1)::s.ca⟩else Er 35
 |none=>Er 36
def newM(j:Nat)(s:TS)(d:Option Nat)(t:Nat)(c:TC)(k:TS->Prop):Prop:=match d with
 |some d=>bif noReg (fa j) d s&&tB (fa j) s&&(aa s.own j).isNone then k ⟨(d,.s (.m j))::s.al,s.boxes,s.own,(j,⟨c,[]⟩)::s.aZ,(2*j+1)::s.ca⟩else Er 51
 |none=>Er 52
def putM(s:TS)(e:Option TC)(x i v:Option RV)(k:TS->Prop):Prop:=match x,i,v with
 |some (.s (.m j)),some (.s (.int .i64 q)),some v=>match aa s.aZ j with
  |some ⟨c,l⟩=>match clR s c v with
   |some y=>bif mIs e c&&!namesV (fa j) (aW v)then k (hU (ownsV (aW v)) ⟨s.al,s.boxes,s.own,(j,⟨c,iU l q y⟩)::s.aZ,(2*j+1)::s.ca⟩)else Er 59
   |none=>Er 53
  |none=>Er 54
 |_,_,_=>Er 55
def delM(s:TS)(d:Option Nat)(e:Option TC)(x i:Option RV)(k:TS->Prop):Prop:=match x,i with
 |some (.s (.m j)),some (.s (.int .i64 q))=>match aa s.aZ j with
  |some ⟨c,l⟩=>bif mIs e c then k (put ⟨s.al,s.boxes,s.own,(j,⟨c,uy l q⟩)::s.aZ,(2*j+1)::s.ca⟩ d (.t []))else Er 60
  |none=>Er 56
 |_,_=>Er 57
def FY(id off:Nat):Nat->List Nat
 |0=>[]
 |n+1=>(2*(64*id+(off+n)))::FY id off n
def sameBox(s:TS)(id t n:Nat):Bool:=match aa s.boxes id with
 |some (t',cs)=>Nat.beq t' t&&Nat.beq cs.length n
 |none=>true
def newB(nb:Nat)(s:TS)(d:Option Nat)(t:Nat)(cs:List TV)(k:TS->Prop):Prop:=match d with
 |some d=>bif noReg (tK (d+1+nb)) d s&&tB (tK (d+1+nb)) s&&!namesV (names1 (tK (d+1+nb))) cs&&sameBox s (d+1+nb) t cs.length&&Nat.ble cs.length 64&&Nat.ble 1 cs.length&&cs.all (wJ s)then k ⟨(d,.s (.p (d+1+nb) 0))::s.al,(d+1+nb,(t,cs))::s.boxes,s.own,s.aZ,FY (d+1+nb) 0 cs.length++s.ca⟩else Er 37
 |none=>Er 38
def storeB(s:TS)(n:Option (Nat×Bool))(id off:Nat)(v:RV)(k:TS->Prop):Prop:=match aa s.boxes id,n with
 |some (t,cs),some (n,_)=>bif Nat.ble 1 n&&Nat.beq (aW v).length n&&Nat.ble (off+(aW v).length) cs.length&&Nat.ble cs.length 64&&(aW v).all (wJ s)then k ⟨s.al,(id,(t,cs.take off++aW v++cs.drop (off+(aW v).length)))::s.boxes,s.own,s.aZ,FY id off (aW v).length++s.ca⟩else Er 39
 |_,_=>Er 40
def aey(cs:List TV)(off:Nat)(v:List TV):List TV:=cs.take off++v++cs.drop (off+v.length)
def BP(s:TS)(n:Option (Nat×Bool))(j:Nat)(i:Int)(off:Nat)(v:RV)(k:TS->Prop):Prop:=match aa s.own j,n with
 |some ⟨e,c,l⟩,some (n,_)=>match N0 c (aey (kd c (@gi (den c) (zU c) l i)) off ((aW v).map (qx s)))with
  |some x=>bif Nat.ble 1 n&&Nat.beq (aW v).length n&&Nat.ble (off+(aW v).length) (kd c (@gi (den c) (zU c) l i)).length&&!namesV (fa j) (aW v)&&(aW v).all (plainV s)&&(aW v).all DU&&yy c then k (hU (ownsV (aW v)) ⟨s.al,s.boxes,(j,⟨e,c,l.set i.toNat x⟩)::s.own,s.aZ,(2*j+1)::s.ca⟩)else Er 61
  |none=>Er 41
 |_,_=>Er 42
def Gm:List TV->Option (List Nat)
 |[]=>some []
 |.p id 0::l=>consO (some id) (Gm l)
 |_=>none
def isMc:TC->Bool
 |.m _=>true
 |_=>false
abbrev It:=Option Bool×List TV
def coll:List PK->List RV->Option (List It×List Nat)
 |[],[]=>some ([],[])
 |.d::ps,v::vs=>match sJ v,coll ps vs with
  |some (b,l),some (q,ids)=>some ((some b,l)::q,ids)
  |_,_=>none
 |.z::ps,.s (.v (.slice none 0 0))::vs=>coll ps vs
 |.p::ps,.s (.p id 0)::vs=>match coll ps vs with
  |some (q,ids)=>some (q,id::ids)
  |none=>none
 |.f g n::ps,.s (.f g' [] cp)::vs=>bif Nat.beq g' g&&Nat.beq cp.length n then(match Gm cp,coll ps vs with
  |some is,some (q,ids)=>some (q,is++ids)
  |_,_=>none)else none
 |_,_=>none
def mU(s:TS):List Nat->Option (List It)
 |[]=>some []
 |id::l=>match bx s id,mU s l with
  |some cs,some q=>some ((none,cs)::q)
  |_,_=>none
def clI(s:TS)(c:TC):It->Option (den c)
 |(some b,l)=>bif b==mR c&&((yy c&&l.all DU)||isMc c)&&l.all (plainV s)then clD s c l else none
 |(none,l)=>bif l.all (plainV s)then clD s c l else none
def je(s:TS):(cs:List TC)->List It->Option (HL cs)
 |[],[]=>some ()
 |c::cs,v::vs=>pairO (clI s c v) (je s cs vs)
 |_,_=>none
def Dt(s:TS):(cs:List TC)->List It->Option (D1 cs)
 |[],[]=>some ()
 |[c],[v]=>clI s c v
 |c::c'::cs,v::vs=>pairO (clI s c v) (Dt s (c'::cs) vs)
 |_,_=>none
def mapsV:List TV->List Nat
 |[]=>[]
 |.m k::l=>k::mapsV l
 |_::l=>mapsV l
def nodup:List Nat->Bool
 |[]=>true
 |x::l=>!l.any (Nat.beq x)&&nodup l
def ke(id i:Nat):Nat:=200000+id*64+i
def W4(f:Nat->Nat):Nat->List TV->List TV
 |_,[]=>[]
 |i,.md _ _::l=>.m (f i)::W4 f (i+1) l
 |i,v::l=>v::W4 f (i+1) l
def opN(f:Nat->Nat):Nat->List TV->List (Nat×J9)
 |_,[]=>[]
 |i,.md c x::l=>(f i,⟨c,x⟩)::opN f (i+1) l
 |i,_::l=>opN f (i+1) l
def freshN(s:TS)(id n:Nat):Bool:=s.al.all (λq=>!mC (fa n) q.2)&&s.boxes.all (λq=>Nat.beq q.1 id||!namesV (names1 (fa n)) q.2.2)&&(aa s.own n).isNone
def abq(s:TS)(id:Nat)(l:List TV):Option TS:=match aa s.boxes id with
 |some (t,cs)=>bif Nat.beq l.length cs.length&&Nat.ble cs.length 64&&Nat.ble 1 cs.length&&(opN (ke id) 0 l).all (λx=>freshN s id x.1)then
  some ⟨s.al,(id,(t,W4 (ke id) 0 l))::s.boxes,s.own,opN (ke id) 0 l++s.aZ.filter (λx=>!(mapsV cs).any (Nat.beq x.1)),FY id 0 cs.length++((opN (ke id) 0 l).map (λx=>2*x.1+1)++((mapsV cs).map (λk=>2*k+1)++s.ca))⟩else none
 |none=>none
def modAll(ids:List Nat):List Nat->List RV->TS->Option TS
 |i::is,v::vs,s=>match abq s (ids.getD i 0) (aW v)with
  |some s'=>modAll ids is vs s'
  |none=>none
 |[],[],s=>some s
 |_,_,_=>none
def qh(S:Spec)(ks:List Nat)(s:TS):TS:=bif S.rs.all TY then s else hU ks s
def aeH(d nr i:Nat):Nat:=bif Nat.beq nr 1 then d else 300000+64*d+i
def uk(f:Nat->Nat):Nat->List RK->List RV->Option (List RV×List (Nat×Wa)×List (Nat×J9))
 |_,[],[]=>some ([],[],[])
 |i,.d::ks,v::vs=>match uk f (i+1) ks vs with
  |some (q,ow,mp)=>some (v::q,ow,mp)
  |none=>none
 |i,.o e::ks,.s (.sl c x)::vs=>match uk f (i+1) ks vs with
  |some (q,ow,mp)=>some (.s (.o (f i))::q,(f i,⟨e,c,x⟩)::ow,mp)
  |none=>none
 |i,.m::ks,.s (.md c x)::vs=>match uk f (i+1) ks vs with
  |some (q,ow,mp)=>some (.s (.m (f i))::q,ow,(f i,⟨c,x⟩)::mp)
  |none=>none
 |_,_,_=>none
def alz:RK->Bool
 |.d=>true
 |_=>false
def putR(s:TS)(d:Option Nat)(S:Spec)(l:List RV)(k:TS->Prop):Prop:=match d with
 |some d=>match uk (aeH d S.rk.length) 0 S.rk l with
  |some (q,ow,mp)=>bif (ow.map (·.1)++mp.map (·.1)).all (λn=>noReg (fa n) d s&&tB (fa n) s&&(aa s.aZ n).isNone&&(aa s.own n).isNone)&&nodup (ow.map (·.1)++mp.map (·.1))then k ⟨(d,oneOf q)::s.al,s.boxes,ow++s.own,mp++s.aZ,ow.map (λx=>2*x.1+1)++(mp.map (λx=>2*x.1+1)++s.ca)⟩else Er 62
  |none=>Er 63
 |none=>bif S.rk.all alz then k s else Er 64
def ta(s:TS):List Nat->List Nat->Bool
 |id::ids,t::bt=>(match aa s.boxes id with|some (t',cs)=>Nat.beq t' t&&Nat.ble cs.length 64|none=>false)&&ta s ids bt
 |[],_=>true
 |_::_,[]=>false
def callS(s:TS)(d:Option Nat)(S:Spec)(ids:List Nat)(q:List It)(k:TS->Prop):Prop:=match je s S.ar q with
 |some h=>bif nodup ids&&ta s ids S.bt&&Nat.ble ids.length 90&&nodup S.ms&&S.ms.all (λi=>Nat.blt i ids.length)&&nodup (q.flatMap (λx=>mapsV x.2))then
  andP (S.pre.map (λp=>p h)) (∀r:D1 S.rs,S.po h r->smR S.rs r (match modAll ids S.ms ((rY S.rs r).drop S.rk.length) (qh S (q.flatMap (λx=>ownsV x.2)) s)with
   |some s'=>putR s' d S ((rY S.rs r).take S.rk.length) k
   |none=>Er 65))else Er 66
 |none=>Er 1
def callT(s:TS)(d:Option Nat)(f:Nat)(vs:List RV)(k:TS->Prop):Option Spec->Prop
 |some S=>match(bif Nat.beq S.fd f then coll S.ps vs else none)with
  |some (q,ids)=>match mU s ids with
   |some b=>callS s d S ids (q++b) k
   |none=>Er 2
  |none=>Er 67
 |none=>Er 3
def callX(T:Tb)(s:TS)(d:Option Nat)(f:Nat)(vs:List RV)(k:TS->Prop)(i:Nat):Prop:=match T.inl i with
 |some g=>bif Nat.beq g.fd f then g.run s d vs k else Er 87
 |none=>callT s d f vs k (T.sp i)
def instOf(f:Nat):List RV->Nat
 |[]=>f
 |.s (.f g _ _)::vs=>instOf (f*1000+g) vs
 |_::vs=>instOf f vs
def rvF:List (Bool×List TV)->Option (List RV)
 |[]=>some []
 |(true,l)::q=>consO (some (.g l)) (rvF q)
 |(false,[x])::q=>consO (some (.s x)) (rvF q)
 |_=>none
def YP(s:TS)(d:Option Nat)(e:Nat)(c:TC)(x y:RV)(k:TS->Prop):Prop:=match AX s e c x,N7 s c y with
 |some l,some q=>(l.length+q.length<=1099511627776)/\newO (hU (ownsV (aW x)) s) d e c (l++q) k
 |_,_=>match L5 c x,N7 s c y with
  |some l,some q=>(l.length+q.length<=1099511627776/\q≠[])/\newO s d e c (l++q) k
  |_,_=>Er 6
def Xs(s:TS)(d:Option Nat)(e:Nat)(c:TC)(vs:List RV)(k:TS->Prop):Prop:=match Fy s c vs with
 |some l=>newO (hU (vs.flatMap (λv=>ownsV (aW v))) s) d e c l k
 |none=>Er 9
def GM:RV->Bool
 |.s (.v (.slice none 0 0))=>true
 |_=>false
def storeT(s:TS)(n:Option (Nat×Bool))(x y:Option RV)(k:TS->Prop):Prop:=match x,y with
 |some (.s (.e j i off)),some v=>BP s n j i off v k
 |some (.s (.p id off)),some v=>storeB s n id off v k
 |_,_=>Er 17
def nilT(s:TS)(b:Bool)(d:Option Nat)(op:BinOp)(x y:Option RV)(k:TS->Prop):Prop:=match x,y,op with
 |some (.s (.sl c l)),some y,.eql=>bif GM y&&b then ∀(b:Bool),(b=true->l=[])->k (put s d (.s (.bool b)))else Er 43
 |some (.s (.sl c l)),some y,.neq=>bif GM y&&b then ∀(b:Bool),(b=true->l=[])->k (put s d (.s (.bool (!b))))else Er 43
 |_,_,_=>Er 44
def cutO(s:TS)(d:Option Nat)(e:Option (Nat×TC))(x:Option RV)(lo hi:Option (Option Int))(k:TS->Prop):Prop:=match x,lo,hi with
 |some (.s (.o j)),some a,some b=>match aa s.own j with
  |some ⟨_,c,l⟩=>bif YC e c then andP (LR a b l.length) (k (put (hU [j] s) d (.s (.sl c (tX a b l)))))else Er 68
  |none=>Er 45
 |_,_,_=>Er 46
def cvtT(b:Bool)(s:TS)(d:Option Nat)(x:Option RV)(k:TS->Prop):Prop:=match x with
 |some (.s (.o j))=>match aa s.own j with
  |some ⟨_,.i .u8,l⟩=>bif b then k (put s d (.s (.str (Sv.ofBytes l))))else Er 100
  |_=>Er 101
 |_=>Er 102
def Tj:List (Nat×Operand)->Nat->Bool
 |[],_=>true
 |q::l,i=>Nat.beq q.1 i&&Tj l (i+1)
def loudT(s:TS)(o:Oper)(k:TS->Prop):Prop :=
 match o.op with
 |.call ⟨.value (.func f),xs,_⟩=>match j7 s xs.toList with
  |some vs=>callX T s o.dst f vs k (instOf f vs)
  |none=>Er 4
 |.call ⟨.value (.tmp t),xs,_⟩=>match aa s.al t,j7 s xs.toList with
  |some (.s (.f f fi cp)),some vs=>match rvF fi with
   |some ws=>callX T s o.dst f (ws++vs++cp.map RV.s) k (instOf f (ws++vs))
   |none=>Er 69
  |_,_=>Er 5
 |.call ⟨.builtin .append,xs,ts⟩=>match xs.toList,ts.toList with
  |[x,y],[t,t']=>match T.et t,ev s x,ev s y with
   |some (e,c),some vx,some vy=>bif Nat.beq t t' then YP s o.dst e c vx vy k else Er 70
   |_,_,_=>Er 7
  |_,_=>Er 80
 |.panic _=>False
 |.binOp op t x y _=>nilT s (qT (aa T.bj t)) o.dst op (ev s x) (ev s y) k
 |.slice t x lo hi none=>cutO s o.dst (T.et t) (ev s x) (pZ s lo) (pZ s hi) k
 |.convert t0 t x=>cvtT (Sv.IQ T.bj t0&&Sv.isStr T.bj t) s o.dst (ev s x) k
 |.buildSlice t m ps=>match T.et t,j7 s (ps.toList.map (·.2))with
  |some (e,c),some vs=>bif Tj ps.toList 0&&Nat.beq m ps.toList.length&&Nat.ble m 4096 then Xs s o.dst e c vs k else Er 71
  |_,_=>Er 10
 |.makeSlice t x y=>match T.et t,ev s x,ev s y with
  |some (e,c),some (.s (.int _ n)),some (.s (.int _ m))=>match zC T c with
   |some z=>((0:Int)<=n/\n<=m/\m<=1099511627776)/\newO s o.dst e c (List.replicate n.toNat z) k
   |none=>Er 11
  |_,_,_=>Er 12
 |.box t x=>match ev s x with
  |some v=>newB T.nb s o.dst t (aW v) k
  |none=>Er 13
 |.alloc t=>match aa T.bj t with
  |some ty=>match Ig ty.zero with
   |some l=>newB T.nb s o.dst t l k
   |none=>Er 72
  |none=>Er 14
 |.makeMap t x=>match T.mt t,pZ s x with
  |some c,some _=>newM (T.mn (o.dst.getD 0)) s o.dst t c k
  |_,_=>Er 58
 |.mapUpdate t x i v=>match o.dst with
  |none=>putM s (T.mt t) (ev s x) (ev s i) (ev s v) k
  |some _=>Er 82
 |.call ⟨.builtin .delete,xs,ts⟩=>match xs.toList,ts.toList with
  |[x,i],[t,_]=>delM s o.dst (T.mt t) (ev s x) (ev s i) k
  |_,_=>Er 81
 |.store t x y=>match o.dst with
  |none=>storeT s (Oy T t) (ev s x) (ev s y) k
  |some _=>Er 83
 |_=>ErO o.op
def oneT(s:TS)(o:Oper)(k:TS->Prop):Prop:=match uV T true s o.op with
 |some q=>andP q.pre (smL q.F5 (k (put s o.dst q.v)))
 |none=>loudT T s o k
abbrev PO:=Nat×Oper
def zu(tc:Nat):List PO->Option (List PO×PO×List PO)
 |[]=>none
 |o::l=>match o.2.op with
  |.pick (.tmp c) _ _=>bif Nat.beq c tc then some ([],o,l)else(match zu tc l with
   |some (a,p,q)=>some (o::a,p,q)
   |none=>none)
  |_=>match zu tc l with
   |some (a,p,q)=>some (o::a,p,q)
   |none=>none
def pO(s:TS)(o:Oper):TS:=put s o.dst (.t [])
def pP(s:TS)(tc:Nat)(b:Bool):TS:=⟨(tc,.s (.lit b))::s.al,s.boxes,s.own,s.aZ,s.ca⟩
def j5{α:Type}(ds:List Nat)(al:List (Nat×α)):List (Nat×α):=al.filter (λq=>!ds.any (Nat.beq q.1))
def yP(s:TS)(ds:List Nat)(d:Nat)(b:Bool):TS:=⟨(d,.s (.bool b))::j5 ds s.al,s.boxes,s.own,s.aZ,s.ca⟩
def dstsP:List PO->List Nat
 |[]=>[]
 |o::l=>match o.2.dst with
  |some d=>d::dstsP l
  |none=>dstsP l
def Cf(s:TS)(o:Oper):Option TS:=match EB (uV T false s o.op)with
 |some v=>some (put s o.dst v)
 |none=>none
def pureL(all:List Oper):Nat->List PO->TS->Option TS
 |0,_,_=>none
 |_+1,[],s=>some s
 |f+1,o::l,s=>match o.2.guard with
  |none=>match Cf T s o.2 with
   |some s'=>pureL all f l s'
   |none=>none
  |some (j,want)=>match oT all j with
   |some tc=>match aa s.al tc with
    |some (.t _)=>pureL all f l (pO s o.2)
    |some (.s (.lit b))=>bif b==want then(match Cf T s o.2 with
     |some s'=>pureL all f l s'
     |none=>none)else pureL all f l (pO s o.2)
    |some (.s (.uq b))=>bif b==want then(match Cf T s o.2 with
     |some s'=>pureL all f l s'
     |none=>none)else pureL all f l (pO s o.2)
    |some (.s (.bool b))=>match zu tc (o::l)with
     |some (m9,pk,after)=>match pk.2.dst,pureL all f (m9++[pk]) (pP s tc true),pureL all f (m9++[pk]) (pP s tc false)with
      |some d,some sT,some sF=>match AU (aa sT.al d),AU (aa sF.al d)with
       |some cT,some cF=>pureL all f after (yP s (dstsP m9) d (bif b then cT else cF))
       |_,_=>none
      |_,_,_=>none
     |none=>none
    |_=>none
   |none=>none
def jr(dr:Bool)(all:List Oper):Array Bool->List PO->Option (Array Bool)
 |li,[]=>some li
 |li,(i,_)::l=>bif dr then(bif Region.free .any all.toArray li i&&(Region.ready .any all.toArray li).contains i then jr dr all (li.setIfInBounds i true) l else none)else jr dr all li l
def liveK(so s:TS)(k:Nat):Bool:=((aa so.own k).isSome||(aa s.own k).isNone)&&((aa so.aZ k).isSome||(aa s.aZ k).isNone)
def CS(pb:List Nat):TV->Bool
 |.p id _=>pb.any (Nat.beq id)
 |.j=>false
 |_=>true
def live1(pb:List Nat)(so s:TS):TV->Bool
 |.o k=>liveK so s k
 |.m k=>liveK so s k
 |.e k _ _=>liveK so s k
 |.p id _=>pb.any (Nat.beq id)
 |.f _ a b=>a.all (λx=>x.2.all (CS pb))&&b.all (CS pb)
 |.j=>false
 |_=>true
def liveR(pb:List Nat)(so s:TS):RV->Bool
 |.s x=>live1 pb so s x
 |.g l=>l.all (live1 pb so s)
 |.t l=>(l.flatMap aW).all (live1 pb so s)
def zZ(so s:TS):Bool:=s.ca.all (λx=>bif Nat.beq (x%2) 0 then(aa so.boxes (x/2/64)).isNone else(aa so.own (x/2)).isNone&&(aa so.aZ (x/2)).isNone)
def forgetD(s:TS)(d:Option Nat):TS:=match d with
 |some d=>⟨j5 [d] s.al,s.boxes,s.own,s.aZ,s.ca⟩
 |none=>s
def cpy(s:TS):Op->Option RV
 |.move x=>ev s x
 |.assign x=>ev s x
 |.extract x i=>qExtract i (ev s x)
 |_=>none
def Cd(s:TS)(d:Option Nat):Option RV->TS
 |some v=>put s d v
 |none=>forgetD s d
def flat1:TV->Bool
 |.int _ _=>true
 |.bool _=>true
 |.lit _=>true
 |.uq _=>true
 |.str _=>true
 |.v _=>true
 |_=>false
def Jq:RV->Bool
 |.s x=>flat1 x
 |.g l=>l.all flat1
 |.t l=>l.all (λv=>match v with
  |.s x=>flat1 x
  |.g q=>q.all flat1
  |.t _=>false)
def qS(so s:TS)(d:Option Nat):TS:=match d with
 |some d=>match aa s.al d with
  |some v=>bif Jq v then put so (some d) v else forgetD so (some d)
  |none=>forgetD so (some d)
 |none=>so
def stepT(dr:Bool)(pb:List Nat)(all:List Oper)(li:Array Bool)(i:Nat)(o:Oper)(so s:TS)(k:TS->TS->Prop):Prop :=
 bif dr then(match cpy s o.op with
  |some v=>bif Region.free .any all.toArray li i&&(Region.ready .any all.toArray li).contains i then k (Cd so o.dst (cpy so o.op)) (put s o.dst v)else Er 93
  |none=>match uV T true so o.op with
   |some q=>bif Region.free .any all.toArray li i&&(Region.ready .any all.toArray li).contains i then(bif liveR pb so s q.v then andP q.pre (smL q.F5 (k (put so o.dst q.v) (put s o.dst q.v)))else(match EB (some q),EB (uV T true s o.op)with
    |some v,some v2=>k (put so o.dst v) (put s o.dst v2)
    |_,_=>Er 73))else Er 98
   |none=>bif (match Region.ready .any all.toArray li with|[j]=>Nat.beq j i|_=>false)then oneT T s o (λs'=>bif zZ so s' then k (qS so s' o.dst) s' else Er 74)else Er 75)else
 oneT T s o (λs'=>k so s')
def abH:Op->Bool
 |.call ⟨.value _,_,_⟩=>true
 |.call ⟨.builtin .append,_,_⟩=>true
 |.call ⟨.builtin .delete,_,_⟩=>true
 |.buildSlice _ _ _=>true
 |.makeSlice _ _ _=>true
 |.box _ _=>true
 |.alloc _=>true
 |.makeMap _ _=>true
 |.mapUpdate _ _ _ _=>true
 |.store _ _ _=>true
 |_=>false
def Z2(all:List Oper):List Nat->Option Nat
 |[]=>none
 |i::l=>match all[i]? with
  |some o=>bif abH o.op then Z2 all l else some i
  |none=>none
def yB(all:List Oper):Nat->Array Bool->List PO
 |0,_=>[]
 |f+1,li=>match Region.ready .any all.toArray li with
  |[]=>[]
  |i::l=>match(Z2 all (i::l)).getD i with
   |j=>match all[j]? with
    |some o=>(j,o)::yB all f (li.setIfInBounds j true)
    |none=>[]
def Qv(f:Nat->Prop):List Nat->Prop
 |[]=>Er 99
 |[j]=>f j
 |j::l=>f j/\Qv f l
def Zr(all:List Oper)(li:Array Bool)(i:Nat)(o:Oper)(so s:TS):Bool:=(cpy s o.op).isNone&&(uV T true so o.op).isNone&&!(match Region.ready .any all.toArray li with|[j]=>Nat.beq j i|_=>false)
def regT(dr:Bool)(pb:List Nat)(all:List Oper):Nat->Array Bool->List PO->TS->TS->(TS->Prop)->Prop
 |0,_,_,_,_,_=>Er 20
 |_+1,li,[],_,s,k=>bif dr then(bif (Region.ready .any all.toArray li).isEmpty then k s else Er 76)else k s
 |f+1,li,(i,o)::l,so,s,k=>match o.guard with
  |none=>bif dr&&Zr T all li i o so s then Qv (λj=>match all[j]? with
   |some oj=>bif oj.guard.isNone&&Nat.beq (yB all all.length (li.setIfInBounds j true)).length l.length then oneT T s oj (λs'=>bif zZ so s' then regT dr pb all f (li.setIfInBounds j true) (yB all all.length (li.setIfInBounds j true)) (qS so s' oj.dst) s' k else Er 95)else Er 96
   |none=>Er 96) (Region.ready .any all.toArray li)else
   stepT T dr pb all li i o so s (λDT s'=>regT dr pb all f (li.setIfInBounds i true) l DT s' k)
  |some (j,want)=>match oT all j with
   |some tc=>match aa s.al tc with
    |some (.t _)=>match jr dr all li [(i,o)]with
     |some li'=>regT dr pb all f li' l (pO so o) (pO s o) k
     |none=>Er 77
    |some (.s (.lit b))=>bif b==want then stepT T dr pb all li i o so s (λDT s'=>regT dr pb all f (li.setIfInBounds i true) l DT s' k)else(match jr dr all li [(i,o)]with
     |some li'=>regT dr pb all f li' l (pO so o) (pO s o) k
     |none=>Er 77)
    |some (.s (.uq b))=>bif b==want then stepT T dr pb all li i o so s (λDT s'=>regT dr pb all f (li.setIfInBounds i true) l DT s' k)else(match jr dr all li [(i,o)]with
     |some li'=>regT dr pb all f li' l (pO so o) (pO s o) k
     |none=>Er 77)
    |some (.s (.bool b))=>match zu tc ((i,o)::l)with
     |some (m9,pk,after)=>match pk.2.dst,pureL T all f (m9++[pk]) (pP (bif dr then so else s) tc true),pureL T all f (m9++[pk]) (pP (bif dr then so else s) tc false),jr dr all li (m9++[pk])with
      |some d,some sT,some sF,some li'=>match AU (aa sT.al d),AU (aa sF.al d)with
       |some cT,some cF=>regT dr pb all f li' after (yP so (dstsP m9) d (bif b then cT else cF)) (yP s (dstsP m9) d (bif b then cT else cF)) k
       |_,_=>Er 21
      |_,_,_,_=>(b=true->regT dr pb all f li ((i,o)::l) (pP so tc true) (pP s tc true) k)/\(b=false->regT dr pb all f li ((i,o)::l) (pP so tc false) (pP s tc false) k)
     |none=>(b=true->regT dr pb all f li ((i,o)::l) (pP so tc true) (pP s tc true) k)/\(b=false->regT dr pb all f li ((i,o)::l) (pP so tc false) (pP s tc false) k)
    |_=>Er 24
   |none=>Er 25
def rowsP(s:TS)(id:Nat):List Nat:=match bx s id with
 |some cs=>ownsV cs++mapsV cs
 |none=>[]
def baseV(s:TS):TV->List Nat×List Nat
 |.p id _=>([id],rowsP s id)
 |.o k=>([],[k])
 |.e k _ _=>([],[k])
 |.m k=>([],[k])
 |.f _ _ cp=>(cp.flatMap (λv=>match v with | .p id _=>[id]|_=>[]),cp.flatMap (λv=>match v with | .p id _=>rowsP s id|_=>[]))
 |_=>([],[])
def findD(all:List Oper)(t:Nat):Option Op:=match all.find? (λo=>match o.dst with|some d=>Nat.beq d t|none=>false)with
 |some o=>some o.op
 |none=>none
def baseX(all:List Oper)(s:TS):Nat->Operand->List Nat×List Nat
 |0,_=>([],[])
 |f+1,.tmp t=>match(match aa s.al t with
    |some (.s v)=>baseV s v
    |_=>([],[])),(match findD all t with
    |some (.fieldAddr _ y _)=>baseX all s f y
    |some (.indexAddr _ y _)=>baseX all s f y
    |some (.assign y)=>baseX all s f y
    |some (.move y)=>baseX all s f y
    |some (.nilCheck y)=>baseX all s f y
    |some (.slice _ y _ _ _)=>baseX all s f y
    |some (.load _ y)=>match baseX all s f y with
     |(ids,ks)=>(ids.flatMap (λid=>match bx s id with|some cs=>cs.flatMap (λv=>(baseV s v).1)|none=>[]),ks++ids.flatMap (λid=>match bx s id with|some cs=>cs.flatMap (λv=>(baseV s v).2)|none=>[]))
    |some (.makeFunc _ _ cp)=>(cp.toList.flatMap (λy=>(baseX all s f y).1),cp.toList.flatMap (λy=>(baseX all s f y).2))
    |_=>([],[]))with
  |(a,b),(c,d)=>(a++c,b++d)
 |_+1,_=>([],[])
def wrX(all:List Oper)(s:TS):List Operand->List Nat×List Nat
 |[]=>([],[])
 |x::l=>match baseX all s 8 x,wrX all s l with
  |(a,b),(c,d)=>(a++c,b++d)
def wrO(all:List Oper)(s:TS):Op->List Nat×List Nat
 |.store _ x _=>wrX all s [x]
 |.mapUpdate _ x _ _=>wrX all s [x]
 |.call ⟨.builtin .delete,xs,_⟩=>wrX all s xs.toList
 |.call ⟨.builtin .append,xs,_⟩=>wrX all s xs.toList
 |.call ⟨.value x,xs,_⟩=>wrX all s (x::xs.toList)
 |.buildSlice _ _ ps=>wrX all s (ps.toList.map (·.2))
 |.slice _ x _ _ _=>([],(wrX all s [x]).2)
 |_=>([],[])
def Og(all:List Oper)(s:TS):List Oper->List Nat×List Nat
 |[]=>([],[])
 |o::l=>match wrO all s o.op,Og all s l with
  |(a,b),(c,d)=>(a++c,b++d)
def yv(wr:List Nat×List Nat)(s:TS):TS:=⟨s.al,s.boxes.filter (λq=>!wr.1.any (Nat.beq q.1)),s.own.filter (λq=>!wr.2.any (Nat.beq q.1)),s.aZ.filter (λq=>!wr.2.any (Nat.beq q.1)),[]⟩
def Df:Nat->List Oper->List PO
 |_,[]=>[]
 |i,o::l=>(i,o)::Df (i+1) l
def lateAt(o:Oper)(j:Nat):Bool:=(List.range j).all (λk=>o.after.toList.any (λe=>Region.binds .any e&&Nat.beq e.on k))
def tU(all:List Oper):Nat->Nat
 |0=>0
 |j+1=>match all[j]? with
  |some o=>bif lateAt o j then tU all j else j+1
  |none=>j+1
def Rf(ops:Array Oper)(m:Nat):Bool:=Nat.ble m ops.size&&(List.range ops.size).all (λj=>match ops.toList[j]? with
 |some o=>o.after.toList.all (λe=>!Region.binds .any e||Nat.blt e.on j)&&(match o.guard with|some (g,_)=>Nat.blt g j|none=>true)&&(Nat.blt j m||lateAt o j)
 |none=>false)
def regD(all:List Oper)(s:TS)(k:TS->Prop):Prop:=bif Region.noSelect all.toArray&&Nat.beq (yB all all.length (Array.replicate all.length false)).length all.length&&s.boxes.all (λq=>Nat.ble q.2.2.length 64)then
  regT T true ((s.boxes.map (·.1)).filter (λi=>!(Sv.dstsOf all).any (λd=>Nat.beq (d+1+T.nb) i))) all 1000 (Array.replicate all.length false) (yB all all.length (Array.replicate all.length false)) (yv (Og all s all) s) ⟨s.al,s.boxes,s.own,s.aZ,[]⟩ (λs'=>k ⟨s'.al,s'.boxes,s'.own,s'.aZ,s'.ca++s.ca⟩)else Er 78
def regionT(dr:Bool)(ops:Array Oper)(s:TS)(k:TS->Prop):Prop :=
 bif dr then(bif Rf ops (tU ops.toList ops.size)then
  regD T (ops.toList.take (tU ops.toList ops.size)) s (λs'=>regT T false [] ops.toList 1000 #[] ((Df 0 ops.toList).drop (tU ops.toList ops.size)) s' s' k)else Er 97)else
 regT T false [] ops.toList 1000 #[] (Df 0 ops.toList) s s k
inductive EX where
 |n
 |x (i:Nat)
 |r
def keyC:Code->Nat
 |.region id _ _=>id
 |.seq a _=>keyC a
 |.block _ c=>keyC c
 |.loop c=>keyC c
 |_=>1000000
def regsA:LA->List Nat
 |[]=>[]
 |(.r t,_)::l=>t::regsA l
 |(.o t _ _,_)::l=>t::regsA l
 |(.c t _,_)::l=>t::regsA l
 |(.x t _,_)::l=>t::regsA l
 |_::l=>regsA l
def UM(t:Nat)(s:TS):TS:=match aa s.al t with
 |some (.s (.o k))=>match aa s.own k with
  |some ⟨_,c,l⟩=>put (hU [k] s) (some t) (.s (.sl c l))
  |none=>⟨j5 [t] s.al,s.boxes,s.own,s.aZ,s.ca⟩
 |some (.s (.m _))=>⟨j5 [t] s.al,s.boxes,s.own,s.aZ,s.ca⟩
 |some (.g l)=>bif l.all DU then s else⟨j5 [t] s.al,s.boxes,s.own,s.aZ,s.ca⟩
 |_=>s
def frzL:LA->TS->TS
 |(.c t _,_)::l,s=>frzL l (UM t s)
 |_::l,s=>frzL l s
 |[],s=>s
def Yb:Option LA->TS->TS
 |some A,s=>frzL A s
 |none,s=>s
def notesR:Option LA->List Nat
 |some A=>regsA A
 |none=>[]
def dstsC:Code->List Nat
 |.region id ops _=>notesR (la (100000+id))++Sv.dstsOf ops.toList
 |.seq a b=>dstsC a++dstsC b
 |.cond _ a b=>dstsC a++dstsC b
 |.block _ c=>dstsC c
 |.loop c=>notesR (la (keyC c))++dstsC c
 |_=>[]
@[reducible] def gZ(A:LA):List TC:=match A with
  |[]=>[]
  |(.o _ _ _,c)::l=>.l c::gZ l
  |(.bo _ _ _ _,c)::l=>.l c::gZ l
  |(.c _ _,_)::l=>gZ l
  |(.bm _ _ _,_)::l=>gZ l
  |(.m _,c)::l=>.m c::gZ l
  |(_,c)::l=>c::gZ l
def nthR(i:Nat):Option (List TV)->Option TV
 |some l=>l[i]?
 |none=>none
def J5:Option RV->Option (List TV)
 |some (.g l)=>some l
 |_=>none
def oneR:Option RV->Option TV
 |some (.s x)=>some x
 |_=>none
def YL(s:TS):Lc->Option TV
 |.o t _ _=>oneR (aa s.al t)
 |.bo id i _ _=>nthR i (bx s id)
 |_=>none
def grabO{α:Type}(s:TS)(e:Nat)(c:TC)(k:Option α):Option TV->Option (List (den c)×α)
 |some v=>pairO (AX s e c (.s v)) k
 |none=>none
def grabR{α:Type}(c:TC)(k:Option α):Option RV->Option (den c×α)
 |some (.s x)=>bif mR c then none else pairO (N0 c [x]) k
 |some (.g x)=>bif mR c then pairO (N0 c x) k else none
 |_=>none
def grabX{α:Type}(c:TC)(k:Option α):Option TV->Option (den c×α)
 |some x=>pairO (N0 c [x]) k
 |none=>none
def grabM{α:Type}(s:TS)(k:Nat)(c:TC)(q:Option α):Option (List (Int×den c)×α):=match aa s.aZ k with
 |some ⟨c',l⟩=>if h:c'=c then pairO (some (h▸l)) q else none
 |none=>none
def Eu(s:TS)(t u:Nat):Bool:=match oneR (aa s.al t),oneR (aa s.al u)with
 |some (.o k),some (.o j)=>Nat.beq k j&&(aa s.own k).isSome
 |some (.v (.slice none 0 0)),some (.v (.slice none 0 0))=>true
 |_,_=>false
def Ff(s:TS)(id i k:Nat):Bool:=match nthR i (bx s id)with
 |some (.m j)=>Nat.beq j k&&(aa s.aZ k).isSome
 |_=>false
def jV(s:TS):(A:LA)->Option (HL (gZ A))
 |[]=>some ()
 |(.o t e _,c)::l=>grabO s e c (jV s l) (oneR (aa s.al t))
 |(.bo id i e _,c)::l=>grabO s e c (jV s l) (nthR i (bx s id))
 |(.c t u,_)::l=>bif Eu s t u then jV s l else none
 |(.bm id i k,_)::l=>bif Ff s id i k then jV s l else none
 |(.m k,c)::l=>grabM s k c (jV s l)
 |(.r t,c)::l=>grabR c (jV s l) (aa s.al t)
 |(.x t i,c)::l=>grabX c (jV s l) (nthR i (J5 (aa s.al t)))
 |(.b id i,c)::l=>grabX c (jV s l) (nthR i (bx s id))
def rM(l:List TV)(i:Nat)(v:List TV):List TV:=l.take i++v++l.drop (i+1)
def iT(s:TS)(id i:Nat)(v:List TV):List (Nat×(Nat×List TV)):=match aa s.boxes id with
 |some (t,cs)=>(id,(t,rM cs i v))::s.boxes
 |none=>s.boxes
def Ga(s:TS)(t i:Nat)(v:List TV):List (Nat×RV):=match J5 (aa s.al t)with
 |some cs=>(t,.g (rM cs i v))::s.al
 |none=>s.al
def Yv(s:TS)(t u:Nat):List (Nat×RV):=match aa s.al u with
 |some v=>(t,v)::s.al
 |none=>s.al
def numsA:LA->List Nat
 |[]=>[]
 |(.o _ _ n,_)::l=>n::numsA l
 |(.bo _ _ _ n,_)::l=>n::numsA l
 |_::l=>numsA l
def hav:(A:LA)->HL (gZ A)->TS->TS
 |[],_,s=>s
 |(.o t e n,c)::l,h,s=>hav l h.2 ⟨(t,.s (.o n))::s.al,s.boxes,(n,⟨e,c,h.1⟩)::s.own,s.aZ,s.ca⟩
 |(.bo id i e n,c)::l,h,s=>hav l h.2 ⟨s.al,iT s id i [.o n],(n,⟨e,c,h.1⟩)::s.own,s.aZ,s.ca⟩
 |(.m k,c)::l,h,s=>hav l h.2 ⟨s.al,s.boxes,s.own,(k,⟨c,h.1⟩)::s.aZ,s.ca⟩
 |(.c t u,_)::l,h,s=>hav l h ⟨Yv s t u,s.boxes,s.own,s.aZ,s.ca⟩
 |(.bm id i k,_)::l,h,s=>hav l h ⟨s.al,bif (numsA l).any (Nat.beq k)then s.boxes else iT s id i [.m k],s.own,s.aZ,s.ca⟩
 |(.r t,c)::l,h,s=>hav l h.2 ⟨(t,vd c (kd c h.1))::s.al,s.boxes,s.own,s.aZ,s.ca⟩
 |(.x t i,c)::l,h,s=>hav l h.2 ⟨Ga s t i (kd c h.1),s.boxes,s.own,s.aZ,s.ca⟩
 |(.b id i,c)::l,h,s=>hav l h.2 ⟨s.al,iT s id i (kd c h.1),s.own,s.aZ,s.ca⟩
def junk:TV:=.j
def partT:LA->List (Nat×Nat)
 |[]=>[]
 |(.x t i,_)::l=>(t,i)::partT l
 |_::l=>partT l
def cellA:LA->List (Nat×Nat)
 |[]=>[]
 |(.b id i,_)::l=>(id,i)::cellA l
 |(.bo id i _ _,_)::l=>(id,i)::cellA l
 |(.bm id i _,_)::l=>(id,i)::cellA l
 |_::l=>cellA l
def blankX(s:TS):List (Nat×Nat)->List (Nat×RV)
 |[]=>[]
 |(t,_)::l=>match J5 (aa s.al t)with
  |some cs=>(t,.g (cs.map (λ_=>junk)))::blankX s l
  |none=>blankX s l
def blankN(p:List (Nat×Nat))(id:Nat):Nat->List TV->List TV
 |_,[]=>[]
 |i,v::l=>(bif p.any (λq=>Nat.beq q.1 id&&Nat.beq q.2 i)then junk else v)::blankN p id (i+1) l
def kJ(s:TS):LA->List Nat
 |[]=>[]
 |q::l=>(match YL s q.1 with|some v=>ownsV [v]|none=>[])++kJ s l
def mapsA:LA->List Nat
 |[]=>[]
 |(.m k,_)::l=>k::mapsA l
 |_::l=>mapsA l
def On(A:LA):List Nat:=(cellA A).map (λq=>2*(64*q.1+q.2))
def head(A:LA)(ds:List Nat)(s:TS):TS:=⟨blankX s (partT A)++j5 ds s.al,s.boxes.map (λq=>(q.1,(q.2.1,blankN (cellA A) q.1 0 q.2.2))),s.own.filter (λq=>!(kJ s A++(numsA A++mapsA A)).any (Nat.beq q.1)),s.aZ.filter (λq=>!(numsA A).any (Nat.beq q.1)),[]⟩
def notesOK:LA->Bool
 |[]=>true
 |(.x _ _,c)::l=>!mR c&&notesOK l
 |(.b _ _,c)::l=>!mR c&&notesOK l
 |_::l=>notesOK l
def rq(A:LA)(ds:List Nat)(s:TS):Bool:=nodup (numsA A)&&(numsA A).all (λk=>s.al.all (λq=>!mC (fa k) q.2)&&s.boxes.all (λq=>!namesV (names1 (fa k)) q.2.2))&&s.boxes.all (λq=>Nat.ble q.2.2.length 64)&&(regsA A).all (λt=>ds.any (Nat.beq t))&&(cellA A).all (λq=>match aa s.boxes q.1 with|some (_,cs)=>Nat.ble (q.2+1) cs.length|none=>false)&&(mapsA A).all (λk=>(aa s.aZ k).isSome)&&notesOK A
def zG(A:LA)(s:TS):Bool:=(partT A).all (λq=>match J5 (aa s.al q.1)with
 |some cs=>Nat.beq ((partT A).filter (λp=>Nat.beq p.1 q.1)).length cs.length
 |none=>false)
def DC(A:LA)(s0 s:TS):Bool :=
 s.ca.all (λx=>bif Nat.beq (x%2) 0 then(On A).any (Nat.beq x)||(aa s0.boxes (x/2/64)).isNone else(mapsA A).any (Nat.beq (x/2))||((aa s0.own (x/2)).isNone&&(aa s0.aZ (x/2)).isNone)) &&
 nodup (kJ s A)&&(kJ s A).all (λk=>(aa s0.own k).isNone)&&zG A s
def leave(A:LA)(s s':TS):TS:=⟨s'.al,s'.boxes,s'.own,s'.aZ,s'.ca++(On A++((kJ s A).map (λk=>2*k+1)++((numsA A).map (λk=>2*k+1)++((mapsA A).map (λk=>2*k+1)++s.ca))))⟩
def wpT:Code->TS->(EX->TS->Prop)->Prop
 |.skip,s,k=>k .n s
 |.region id ops dr,s,k=>regionT T dr ops (Yb (la (100000+id)) s) (k .n)
 |.seq a b,s,k=>wpT a s (λe s'=>match e with
  |.n=>wpT b s' k
  |e=>k e s')
 |.cond c a b,s,k=>match ev s c with
  |some (.s (.bool t))=>(t=true->wpT a s k)/\(t=false->wpT b s k)
  |some (.s (.lit t))=>(t=true->wpT a s k)/\(t=false->wpT b s k)
  |some (.s (.uq true))=>wpT a s k
  |some (.s (.uq false))=>wpT b s k
  |_=>Er 26
 |.block id c,s,k=>wpT c s (λe s'=>match e with
  |.x i=>bif Nat.beq i id then k .n s' else k (.x i) s'
  |e=>k e s')
 |.loop c,s,k=>match la (keyC c)with
  |some A=>match jV s A with
   |some h0=>bif nodup (kJ s A)&&rq A (dstsC la (.loop c)) (head A (dstsC la (.loop c)) s)&&zG A s then ∃(I:FT (gZ A) Prop) (μ:FT (gZ A) Nat),apF (gZ A) I h0/\adz (gZ A) (λh=>apF (gZ A) I h ->
    wpT c (hav A h (head A (dstsC la (.loop c)) s)) (λe s'=>match e with
     |.n=>bif DC A (head A (dstsC la (.loop c)) s) s' then(match jV s' A with
      |some h'=>apF (gZ A) I h'/\apF (gZ A) μ h'<apF (gZ A) μ h
      |none=>Er 27)else Er 34
     |e=>k e (leave A s s')))else Er 79
   |none=>Er 28
  |none=>Er 29
 |.exit id,s,k=>k (.x id) s
 |.ret,s,k=>k .r s
 |_,_,_=>Er 30
def HW:Nat->List RV->List (Nat×RV)
 |_,[]=>[]
 |i,v::l=>(i,v)::HW (i+1) l
def Gi(s:TS):List ResultVar->Option (List RV)
 |[]=>some []
 |.tmp t::l=>consO (aa s.al t) (Gi s l)
 |.cell a ty::l=>match aa s.al a,Oy T ty with
  |some (.s (.p id 0)),some (n,agg)=>match bx s id with
   |some cs=>bif Nat.ble n cs.length then consO (Is s agg (cs.take n)) (Gi s l)else none
   |none=>none
  |_,_=>none
def ahv(s':TS):TV->Bool
 |.o k=>s'.ca.any (Nat.beq (2*k+1))
 |.e k _ _=>s'.ca.any (Nat.beq (2*k+1))
 |.m k=>s'.ca.any (Nat.beq (2*k+1))
 |_=>false
def UP:RV->Bool
 |.t _=>false
 |.s (.f _ _ _)=>false
 |_=>true
def S6:List RV->Bool
 |[.t _]=>false
 |[_]=>true
 |l=>l.all UP
def vn(fn:Func)(lo hi:Nat)(s:TS)(d:Option Nat)(vs:List RV)(k:TS->Prop):Prop:=match fn.body,d with
 |some c,some d=>bif Nat.ble (fn.ntmps+T.nb) 899&&Nat.ble vs.length fn.ntmps&&(dstsC la c).all (λd=>Nat.blt d fn.ntmps)&&s.boxes.all (λq=>Nat.blt q.1 lo||Nat.blt hi q.1)&&s.al.all (λq=>Nat.beq q.1 d||liveR (s.boxes.map (·.1)) s s q.2)then
  wpT T la c ⟨HW 0 vs,s.boxes,s.own,s.aZ,[]⟩ (λe s'=>match e with
   |.x _=>Er 88
   |_=>match Gi T s' fn.results.toList with
    |some l=>bif s.al.all (λq=>Nat.beq q.1 d||(match aa s.al q.1 with|some x=>!mC (ahv s') x|none=>true))&&S6 l then k ⟨(d,oneOf l)::s.al,s'.boxes,s'.own,s'.aZ,s'.ca++s.ca⟩else Er 89
    |none=>Er 90)else Er 91
 |_,_=>Er 92
def mapN(p:Nat):Nat:=500000+p
def Yz(q:Nat):Nat->List TV
 |0=>[]
 |n+1=>.p (901+q) 0::Yz (q+1) n
def amV(s:TS)(i:Nat):(c:TC)->den c->TS
 |.m c,x=>⟨(i,.s (.m (mapN (100000+i))))::s.al,s.boxes,s.own,(mapN (100000+i),⟨c,x⟩)::s.aZ,s.ca⟩
 |c,x=>⟨(i,vd c (kd c x))::s.al,s.boxes,s.own,s.aZ,s.ca⟩
def Qy(bt:List Nat)(s:TS)(q:Nat)(l:List TV):TS:=⟨s.al,(901+q,(bt.getD q 0,W4 (λi=>mapN (64*q+i)) 0 l))::s.boxes,s.own,opN (λi=>mapN (64*q+i)) 0 l++s.aZ,s.ca⟩
def adp(s:TS)(i:Nat)(v:RV):TS:=⟨(i,v)::s.al,s.boxes,s.own,s.aZ,s.ca⟩
def startB(bt:List Nat):(cs:List TC)->HL cs->Nat->TS->TS
 |[],_,_,s=>s
 |c::cs,h,q,s=>startB bt cs h.2 (q+1) (Qy bt s q (kd c h.1))
def startP(bt:List Nat):(ps:List PK)->(cs:List TC)->HL cs->Nat->Nat->TS->TS
 |[],cs,h,_,_,s=>startB bt cs h 0 s
 |.d::ps,c::cs,h,i,q,s=>startP bt ps cs h.2 (i+1) q (amV s i c h.1)
 |.d::_,[],_,_,_,s=>s
 |.z::ps,cs,h,i,q,s=>startP bt ps cs h (i+1) q (adp s i (.s (.v (.slice none 0 0))))
 |.p::ps,cs,h,i,q,s=>startP bt ps cs h (i+1) (q+1) (adp s i (.s (.p (901+q) 0)))
 |.f g n::ps,cs,h,i,q,s=>startP bt ps cs h (i+1) (q+n) (adp s i (.s (.f g [] (Yz q n))))
def kj:List PK->Nat
 |[]=>0
 |.p::ps=>1+kj ps
 |.f _ n::ps=>n+kj ps
 |_::ps=>kj ps
def heldB(ms:List Nat):(cs:List TC)->HL cs->Nat->List Nat
 |[],_,_=>[]
 |c::cs,h,q=>(bif ms.any (Nat.beq q)then []else(opN (λi=>mapN (64*q+i)) 0 (kd c h.1)).map (·.1))++heldB ms cs h.2 (q+1)
def heldP(ms:List Nat):(ps:List PK)->(cs:List TC)->HL cs->Nat->List Nat
 |[],cs,h,_=>heldB ms cs h 0
 |.d::ps,c::cs,h,i=>(bif isMc c then [mapN (100000+i)]else [])++heldP ms ps cs h.2 (i+1)
 |.d::_,[],_,_=>[]
 |_::ps,cs,h,i=>heldP ms ps cs h (i+1)
def wP(s:TS):List RK->List RV->Option (List It×List Nat×List Nat)
 |[],[]=>some ([],[],[])
 |.d::ks,v::vs=>match sJ v,wP s ks vs with
  |some (b,l),some (q,oc,mc)=>bif l.all DU then some ((some b,l)::q,oc,mc)else none
  |_,_=>none
 |.o e::ks,.s (.o k)::vs=>match aa s.own k,wP s ks vs with
  |some ow,some (q,oc,mc)=>bif Nat.beq ow.e e then some ((none,[.o k])::q,k::oc,mc)else none
  |_,_=>none
 |.o e::ks,.s (.v (.slice none 0 0))::vs=>match wP s ks vs with
  |some (q,oc,mc)=>some ((none,[.v (.slice none 0 0)])::q,oc,mc)
  |none=>none
 |.m::ks,.s (.m k)::vs=>match wP s ks vs with
  |some (q,oc,mc)=>bif Nat.blt k 500000 then some ((none,[.m k])::q,oc,k::mc)else none
  |none=>none
 |_,_=>none
def datO:List RK->List RV->List Nat
 |.d::ks,v::vs=>ownsV (aW v)++datO ks vs
 |_::ks,_::vs=>datO ks vs
 |_,_=>[]
def modM(q:Nat):Nat->List TV->Bool
 |_,[]=>true
 |i,.m k::l=>(Nat.beq k (mapN (64*q+i))||Nat.blt k 500000)&&modM q (i+1) l
 |i,_::l=>modM q (i+1) l
def isLc:TC->Bool
 |.l _=>true
 |_=>false
def kindsOK:List RK->List TC->Bool
 |[],_=>true
 |.d::ks,_::cs=>kindsOK ks cs
 |.o _::ks,c::cs=>isLc c&&kindsOK ks cs
 |.m::ks,c::cs=>isMc c&&kindsOK ks cs
 |_::_,[]=>false
def ZU(S:Spec)(h:HL S.ar)(s:TS):Bool:=s.ca.all (λx=>bif Nat.beq (x%2) 0 then Nat.blt (x/2/64) 901||S.ms.any (λq=>Nat.beq (901+q) (x/2/64))else !(heldP S.ms S.ps S.ar h 0).any (Nat.beq (x/2)))
def acD(S:Spec)(h:HL S.ar)(vars:List ResultVar)(Q:D1 S.rs->Prop)(e:EX)(s:TS):Prop :=
 match e with
 |.x _=>Er 31
 |_=>match Gi T s vars,mU s (S.ms.map (λq=>901+q))with
  |some l,some b=>match wP s S.rk l with
   |some (it,oc,mc)=>match Dt s S.rs (it++b)with
    |some r=>bif kindsOK S.rk S.rs&&nodup oc&&oc.all (λk=>!(datO S.rk l++b.flatMap (λx=>ownsV x.2)).any (Nat.beq k))&&nodup (mc++b.flatMap (λx=>mapsV x.2))&&ZU S h s&&(S.ms.zip b).all (λx=>modM x.1 0 x.2.2)then Q r else Er 84
    |none=>Er 32
   |none=>Er 85
  |_,_=>Er 33
def xN(p:Nat):Nat:=1002+2*mapN p
def fnT(fn:Func)(S:Spec)(h:HL S.ar)(Q:D1 S.rs->Prop):Prop :=
 match fn.body with
 |some c=>smAll S.ar h (bif Nat.ble (fn.ntmps+T.nb) 899&&Nat.ble S.ps.length fn.ntmps&&Nat.ble (kj S.ps) 90&&S.ms.all (λq=>Nat.blt q (kj S.ps))&&(startP S.bt S.ps S.ar h 0 0 ⟨[],[],[],[],[]⟩).boxes.all (λq=>Nat.ble q.2.2.length 64)&&(dstsC la c).all (λd=>Nat.blt d fn.ntmps)then wpT T la c (startP S.bt S.ps S.ar h 0 0 ⟨[],[],[],[],[]⟩) (acD T S h fn.results.toList Q)else Er 86)
 |none=>Er 19
end
end
end Go.Te
namespace Go.Proofs.Y
open Go Go.Sv
section
def Eo:b9 (cJ) where
 n:=4
 bytes:=32
 R:=λw χ cs x=>cs=[.int .i64 x.State,.int .i64 x.Kind,.int .i64 x.Next,.int .i64 x.Result]
 pos:=by decide
 len:=by rintro _ _ _ _ rfl;rfl
 one:=by rintro _ _ _ _ rfl u hu;simp at hu;rcases hu with rfl|rfl|rfl|rfl<;>rfl
 mono:=by exact λ_ h=>h
def ai6:b9 (ae) where
 n:=4
 bytes:=48
 R:=λw χ cs x=>∃(a1:Option Addr)(c1:Nat),cs=[.int .i64 x.az,.int .i64 x.cV,.int .i64 x.eZ,.slice a1 x.Rows.length c1]/\RS Eo w χ a1 x.Rows c1
 pos:=by decide
 len:=by rintro _ _ _ _ ⟨a1,c1,rfl,h1⟩;rfl
 one:=by rintro _ _ _ _ ⟨a1,c1,rfl,h1⟩ u hu;simp at hu;rcases hu with rfl|rfl|rfl|rfl<;>rfl
 mono:=by rintro _ _ _ _ _ _ m ⟨a1,c1,rfl,h1⟩;exact⟨a1,c1,rfl,h1.m0 m⟩
def ai5:b9 (bJ) where
 n:=2
 bytes:=32
 R:=λw χ cs x=>∃(a1:Option Addr)(c1:Nat),cs=[.int .i64 x.DK,.slice a1 x.bL.length c1]/\RS (tg tI) w χ a1 x.bL c1
 pos:=by decide
 len:=by rintro _ _ _ _ ⟨a1,c1,rfl,h1⟩;rfl
 one:=by rintro _ _ _ _ ⟨a1,c1,rfl,h1⟩ u hu;simp at hu;rcases hu with rfl|rfl<;>rfl
 mono:=by rintro _ _ _ _ _ _ m ⟨a1,c1,rfl,h1⟩;exact⟨a1,c1,rfl,h1.m0 m⟩
def aaA:b9 (aj) where
 n:=5
 bytes:=40
 R:=λw χ cs x=>cs=[.int .i64 x.cE,.int .i64 x.Kind,.int .i64 x.cn,.int .i64 x.End,.int .i64 x.Result]
 pos:=by decide
 len:=by rintro _ _ _ _ rfl;rfl
 one:=by rintro _ _ _ _ rfl u hu;simp at hu;rcases hu with rfl|rfl|rfl|rfl|rfl<;>rfl
 mono:=by exact λ_ h=>h
def ai4:b9 (kz) where
 n:=10
 bytes:=128
 R:=λw χ cs x=>∃(a1:Option Addr)(c1:Nat)(a2:Option Addr)(c2:Nat)(a3:Option Addr)(c3:Nat),cs=[.int .i64 x.O.az,.int .i64 x.O.cV,.int .i64 x.O.eZ,.slice a1 x.O.Rows.length c1,.slice a2 x.L.length c2,.int .i64 x.F.DK,.slice a3 x.F.bL.length c3,.int .i64 x.At,.int .i64 x.E,.bool x.Big]/\RS Eo w χ a1 x.O.Rows c1/\RS aaA w χ a2 x.L c2/\RS (tg tI) w χ a3 x.F.bL c3
 pos:=by decide
 len:=by rintro _ _ _ _ ⟨a1,c1,a2,c2,a3,c3,rfl,h1,h2,h3⟩;rfl
 one:=by rintro _ _ _ _ ⟨a1,c1,a2,c2,a3,c3,rfl,h1,h2,h3⟩ u hu;simp at hu;rcases hu with rfl|rfl|rfl|rfl|rfl|rfl|rfl|rfl|rfl|rfl<;>rfl
 mono:=by rintro _ _ _ _ _ _ m ⟨a1,c1,a2,c2,a3,c3,rfl,h1,h2,h3⟩;exact⟨a1,c1,a2,c2,a3,c3,rfl,h1.m0 m,h2.m0 m,h3.m0 m⟩
def aeo:b9 (cz) where
 n:=4
 bytes:=64
 R:=λw χ cs x=>∃(a1:Option Addr)(c1:Nat)(a2:Option Addr)(c2:Nat),cs=[.int .i64 x.Kind,.int .i64 x.Id,.slice a1 x.mT.length c1,.slice a2 x.Hints.length c2]/\RS tI w χ a1 x.mT c1/\RS tI w χ a2 x.Hints c2
 pos:=by decide
 len:=by rintro _ _ _ _ ⟨a1,c1,a2,c2,rfl,h1,h2⟩;rfl
 one:=by rintro _ _ _ _ ⟨a1,c1,a2,c2,rfl,h1,h2⟩ u hu;simp at hu;rcases hu with rfl|rfl|rfl|rfl<;>rfl
 mono:=by rintro _ _ _ _ _ _ m ⟨a1,c1,a2,c2,rfl,h1,h2⟩;exact⟨a1,c1,a2,c2,rfl,h1.m0 m,h2.m0 m⟩
def aaB:b9 (ao) where
 n:=3
 bytes:=24
 R:=λw χ cs x=>cs=[.int .i64 x.cD,.int .i64 x.cE,.int .i64 x.N]
 pos:=by decide
 len:=by rintro _ _ _ _ rfl;rfl
 one:=by rintro _ _ _ _ rfl u hu;simp at hu;rcases hu with rfl|rfl|rfl<;>rfl
 mono:=by exact λ_ h=>h
def ai3:b9 (dp) where
 n:=5
 bytes:=72
 R:=λw χ cs x=>∃(a1:Option Addr)(c1:Nat)(a2:Option Addr)(c2:Nat),cs=[.int .i64 x.ga.az,.int .i64 x.ga.cV,.int .i64 x.ga.eZ,.slice a1 x.ga.Rows.length c1,.slice a2 x.lY.length c2]/\RS Eo w χ a1 x.ga.Rows c1/\RS aaB w χ a2 x.lY c2
 pos:=by decide
 len:=by rintro _ _ _ _ ⟨a1,c1,a2,c2,rfl,h1,h2⟩;rfl
 one:=by rintro _ _ _ _ ⟨a1,c1,a2,c2,rfl,h1,h2⟩ u hu;simp at hu;rcases hu with rfl|rfl|rfl|rfl|rfl<;>rfl
 mono:=by rintro _ _ _ _ _ _ m ⟨a1,c1,a2,c2,rfl,h1,h2⟩;exact⟨a1,c1,a2,c2,rfl,h1.m0 m,h2.m0 m⟩
def ai2:b9 (jB) where
 n:=11
 bytes:=152
 R:=λw χ cs x=>∃(a1:Option Addr)(c1:Nat)(a2:Option Addr)(c2:Nat)(a3:Option Addr)(c3:Nat)(a4:Option Addr)(c4:Nat),cs=[.int .i64 x.c.ga.az,.int .i64 x.c.ga.cV,.int .i64 x.c.ga.eZ,.slice a1 x.c.ga.Rows.length c1,.slice a2 x.c.lY.length c2,.slice a3 x.l.length c3,.int .i64 x.f.DK,.slice a4 x.f.bL.length c4,.int .i64 x.at_,.int .i64 x.e,.bool x.big]/\RS Eo w χ a1 x.c.ga.Rows c1/\RS aaB w χ a2 x.c.lY c2/\RS aaA w χ a3 x.l c3/\RS (tg tI) w χ a4 x.f.bL c4
 pos:=by decide
 len:=by rintro _ _ _ _ ⟨a1,c1,a2,c2,a3,c3,a4,c4,rfl,h1,h2,h3,h4⟩;rfl
 one:=by rintro _ _ _ _ ⟨a1,c1,a2,c2,a3,c3,a4,c4,rfl,h1,h2,h3,h4⟩ u hu;simp at hu;rcases hu with rfl|rfl|rfl|rfl|rfl|rfl|rfl|rfl|rfl|rfl|rfl<;>rfl
 mono:=by rintro _ _ _ _ _ _ m ⟨a1,c1,a2,c2,a3,c3,a4,c4,rfl,h1,h2,h3,h4⟩;exact⟨a1,c1,a2,c2,a3,c3,a4,c4,rfl,h1.m0 m,h2.m0 m,h3.m0 m,h4.m0 m⟩
def Ep:b9 (ai) where
 n:=3
 bytes:=32
 R:=λw χ cs x=>cs=[.int .i64 x.QA,.int .i64 x.At,.string (bs x.Text)]
 pos:=by decide
 len:=by rintro _ _ _ _ rfl;rfl
 one:=by rintro _ _ _ _ rfl u hu;simp at hu;rcases hu with rfl|rfl|rfl<;>rfl
 mono:=by exact λ_ h=>h
def aeu:b9 (ai) where
 n:=3
 bytes:=32
 R:=λw χ cs x=>cs=[.int .i64 x.QA,.int .i64 x.At,.string (bs x.Text)]
 pos:=by decide
 len:=by rintro _ _ _ _ rfl;rfl
 one:=by rintro _ _ _ _ rfl u hu;simp at hu;rcases hu with rfl|rfl|rfl<;>rfl
 mono:=by exact λ_ h=>h
def aet:b9 (Int×Int) where
 n:=2
 bytes:=16
 R:=λw χ cs x=>cs=[.int .i64 x.1,.int .i64 x.2]
 pos:=by decide
 len:=by rintro _ _ _ _ rfl;rfl
 one:=by rintro _ _ _ _ rfl u hu;simp at hu;rcases hu with rfl|rfl<;>rfl
 mono:=by exact λ_ h=>h
def aes:b9 (ab) where
 n:=2
 bytes:=16
 R:=λw χ cs x=>cs=[.int .i64 x.bI,.int .i64 x.az]
 pos:=by decide
 len:=by rintro _ _ _ _ rfl;rfl
 one:=by rintro _ _ _ _ rfl u hu;simp at hu;rcases hu with rfl|rfl<;>rfl
 mono:=by exact λ_ h=>h
def aer:b9 (aC) where
 n:=2
 bytes:=16
 R:=λw χ cs x=>cs=[.int .i64 x.Oper,.int .i64 x.Result]
 pos:=by decide
 len:=by rintro _ _ _ _ rfl;rfl
 one:=by rintro _ _ _ _ rfl u hu;simp at hu;rcases hu with rfl|rfl<;>rfl
 mono:=by exact λ_ h=>h
def aeq:b9 (cH) where
 n:=3
 bytes:=24
 R:=λw χ cs x=>cs=[.int .i64 x.Kind,.int .i64 x.A,.int .i64 x.B]
 pos:=by decide
 len:=by rintro _ _ _ _ rfl;rfl
 one:=by rintro _ _ _ _ rfl u hu;simp at hu;rcases hu with rfl|rfl|rfl<;>rfl
 mono:=by exact λ_ h=>h
def aep:b9 (kA) where
 n:=4
 bytes:=48
 R:=λw χ cs x=>∃(a1:Option Addr)(c1:Nat),cs=[.int .i64 x.o.az,.int .i64 x.o.cV,.int .i64 x.o.eZ,.slice a1 x.o.Rows.length c1]/\RS Eo w χ a1 x.o.Rows c1
 pos:=by decide
 len:=by rintro _ _ _ _ ⟨a1,c1,rfl,h1⟩;rfl
 one:=by rintro _ _ _ _ ⟨a1,c1,rfl,h1⟩ u hu;simp at hu;rcases hu with rfl|rfl|rfl|rfl<;>rfl
 mono:=by rintro _ _ _ _ _ _ m ⟨a1,c1,rfl,h1⟩;exact⟨a1,c1,rfl,h1.m0 m⟩
def aen:b9 (Int×Int×Int) where
 n:=3
 bytes:=24
 R:=λw χ cs x=>cs=[.int .i64 x.1,.int .i64 x.2.1,.int .i64 x.2.2]
 pos:=by decide
 len:=by rintro _ _ _ _ rfl;rfl
 one:=by rintro _ _ _ _ rfl u hu;simp at hu;rcases hu with rfl|rfl|rfl<;>rfl
 mono:=by exact λ_ h=>h
end
end Go.Proofs.Y
namespace Go.Te
open Go Go.Sv Go.Proofs.Y
noncomputable section
def FL{α β:Type}(R:α->β->Prop):List α->List β->Prop
 |[],[]=>True
 |a::l,b::q=>R a b/\FL R l q
 |_,_=>False
section FL
variable{α β:Type}{R:α->β->Prop}
theorem FL.len:∀{l:List α} {q:List β},FL R l q->l.length=q.length
 |[],[],_=>rfl
 |_::_,_::_,h=>by simp[FL.len h.2]
 |[],_::_,h=>h.elim
 |_::_,[],h=>h.elim
theorem FL.mono{R':α->β->Prop}(m:∀a b,R a b->R' a b):∀{l:List α} {q:List β},FL R l q->FL R' l q
 |[],[],_=>trivial
 |_::_,_::_,h=>⟨m _ _ h.1,FL.mono m h.2⟩
 |[],_::_,h=>h.elim
 |_::_,[],h=>h.elim
theorem FL.app:∀{l:List α} {q:List β} {l':List α} {q':List β},FL R l q->FL R l' q'->FL R (l++l') (q++q')
 |[],[],_,_,_,h'=>h'
 |_::_,_::_,_,_,h,h'=>⟨h.1,FL.app h.2 h'⟩
 |[],_::_,_,_,h,_=>h.elim
 |_::_,[],_,_,h,_=>h.elim
theorem FL.take:∀(n:Nat) {l:List α} {q:List β},FL R l q->FL R (l.take n) (q.take n)
 |0,_,_,_=>trivial
 |_+1,[],[],_=>trivial
 |n+1,_::_,_::_,h=>⟨h.1,FL.take n h.2⟩
 |_+1,[],_::_,h=>h.elim
 |_+1,_::_,[],h=>h.elim
theorem FL.drop:∀(n:Nat) {l:List α} {q:List β},FL R l q->FL R (l.drop n) (q.drop n)
 |0,_,_,h=>h
 |_+1,[],[],_=>trivial
 |n+1,_::_,_::_,h=>FL.drop n h.2
 |_+1,[],_::_,h=>h.elim
 |_+1,_::_,[],h=>h.elim
theorem FL.get:∀{l:List α} {q:List β},FL R l q->∀(i:Nat)(a:α),l[i]?=some a->∃b,q[i]?=some b/\R a b
 |[],[],_,i,a,h=>by simp at h
 |_::_,b::_,h,0,a,e=>by simp at e;subst e;exact⟨b,rfl,h.1⟩
 |_::_,_::_,h,i+1,a,e=>by simp at e;obtain⟨b,h1,h2⟩:=FL.get h.2 i a e;exact⟨b,by simpa using h1,h2⟩
 |[],_::_,h,_,_,_=>h.elim
 |_::_,[],h,_,_,_=>h.elim
end FL
def tNone(α:Type):b9 α where
 n:=1
 bytes:=8
 R:=λ_ _ _ _=>False
 pos:=aK _
 len:=λh=>h.elim
 one:=λh=>h.elim
 mono:=λ_ h=>h
def adl:IntKind->Nat
 |.i8=>1
 |.u8=>1
 |.i16=>2
 |.u16=>2
 |.i32=>4
 |.u32=>4
 |_=>8
@[reducible] def RT:(n:Nat)->b9 (DD n)
  |26=>ai6
  |30=>ai5
  |32=>ai4
  |44=>aeo
  |57=>ai3
  |65=>ai2
  |79=>aaB
  |86=>aaA
  |106=>Ep
  |110=>Eo
  |132=>aeu
  |145=>aet
  |191=>aes
  |212=>aer
  |253=>aeq
  |263=>aep
  |455=>aen
  |n=>tNone (DD n)
@[reducible] def bw:(c:TC)->b9 (den c)
  |.i k=>Rs k (adl k)
  |.b=>aev
  |.s=>aem
  |.t n=>RT n
  |.l c=>tg (bw c)
  |.m c=>tNone (List (Int×den c))
def CR(w:World)(χ:Nat->Nat):TV->Value->Prop
 |.int k x,v=>v=.int k x
 |.bool x,v=>v=.bool x
 |.lit x,v=>v=.bool x
 |.uq x,v=>v=.bool x
 |.str x,v=>v=.string (bs x)
 |.sl c l,v=>∃a cp,v=.slice a l.length cp/\RS (bw c) w χ a l cp
 |.q c l,v=>∃a,v=.slice a l.length l.length/\RS (bw c) w χ a l l.length
 |.v x,v=>v=x/\x.oneCell'=true
 |_,_=>False
theorem CR.m0{w w':World}{χ χ':Nat->Nat}(m:M0 w χ w' χ'):∀{x:TV} {v:Value},CR w χ x v->CR w' χ' x v
 |.int _ _,_,h=>h
 |.bool _,_,h=>h
 |.lit _,_,h=>h
 |.uq _,_,h=>h
 |.str _,_,h=>h
 |.sl _ _,_,⟨a,cp,h1,h2⟩=>⟨a,cp,h1,h2.m0 m⟩
 |.q _ _,_,⟨a,h1,h2⟩=>⟨a,h1,h2.m0 m⟩
 |.v _,_,h=>h
 |.p _ _,_,h=>h.elim
 |.o _,_,h=>h.elim
 |.m _,_,h=>h.elim
 |.e _ _ _,_,h=>h.elim
 |.md _ _,_,h=>h.elim
 |.j,_,h=>h.elim
 |.a _ _ _,_,h=>h.elim
 |.f _ _ _,_,h=>h.elim
theorem CR.one{w:World}{χ:Nat->Nat}:∀{x:TV} {v:Value},CR w χ x v->v.oneCell'=true
 |.int _ _,_,h=>by cases h;rfl
 |.bool _,_,h=>by cases h;rfl
 |.lit _,_,h=>by cases h;rfl
 |.uq _,_,h=>by cases h;rfl
 |.str _,_,h=>by cases h;rfl
 |.sl _ _,_,⟨a,cp,h1,h2⟩=>by cases h1;rfl
 |.q _ _,_,⟨a,h1,h2⟩=>by cases h1;rfl
 |.v _,_,h=>by cases h.1;exact h.2
 |.p _ _,_,h=>h.elim
 |.o _,_,h=>h.elim
 |.m _,_,h=>h.elim
 |.e _ _ _,_,h=>h.elim
 |.md _ _,_,h=>h.elim
 |.j,_,h=>h.elim
 |.a _ _ _,_,h=>h.elim
 |.f _ _ _,_,h=>h.elim
def NV:TV->TV->Prop
 |.int k x,b=>b=.int k x
 |.bool x,b=>b=.bool x
 |.lit x,b=>b=.bool x
 |.uq x,b=>b=.bool x
 |.str x,b=>b=.str x
 |.sl c l,b=>b=.sl c l
 |.md c l,b=>b=.md c l
 |.v (.slice none 0 0),b=>∃c,b=.sl c []
 |_,_=>False
theorem CR.nv{w:World}{χ:Nat->Nat}:∀{x y:TV} {v:Value},NV x y->CR w χ x v->CR w χ y v
 |.int _ _,_,_,n,h=>by cases n;exact h
 |.bool _,_,_,n,h=>by cases n;exact h
 |.lit _,_,_,n,h=>by cases n;exact h
 |.uq _,_,_,n,h=>by cases n;exact h
 |.str _,_,_,n,h=>by cases n;exact h
 |.sl _ _,_,_,n,h=>by cases n;exact h
 |.q _ _,_,_,n,_=>n.elim
 |.md _ _,_,_,_,h=>h.elim
 |.v x,_,_,n,h=>by
  unfold NV at n;split at n<;>first|(rename_i e;cases e;done)|skip
  .rename_i e;cases e;obtain⟨c,rfl⟩:=n;exact⟨none,0,h.1,RS.empty _ _ _⟩
  .exact n.elim
 |.p _ _,_,_,n,_=>n.elim
 |.j,_,_,n,_=>n.elim
 |.o _,_,_,n,_=>n.elim
 |.m _,_,_,n,_=>n.elim
 |.e _ _ _,_,_,n,_=>n.elim
 |.a _ _ _,_,_,n,_=>n.elim
 |.f _ _ _,_,_,n,_=>n.elim
theorem Mu{c:TC}{x:TV}{l:List (den c)}(e:slOf c x=some l):NV x (.sl c l):=by
 unfold slOf at e;split at e
 .cases e;exact⟨_,rfl⟩
 .split at e
  .rename_i hc;subst hc;cases e;rfl
  .cases e
 .cases e
theorem FD{x:TV}{b:Bool}(e:ic x=some b):NV x (.bool b):=by
 unfold ic at e;split at e<;>cases e<;>rfl
theorem Nf{c:TC}{x:TV}{l:List (Int×den c)}(e:mdOf c x=some l):NV x (.md c l):=by
 unfold mdOf at e;split at e
 .split at e
  .rename_i hc;subst hc;cases e;rfl
  .cases e
 .cases e
section
variable{w:World}{χ:Nat->Nat}
theorem kC{R:TV->Value->Prop}{x:TV}{l:List TV}{vs:List Value}(h:FL R (x::l) vs):∃v q,vs=v::q/\R x v/\FL R l q:=by
 cases vs with
 |nil=>exact h.elim
 |cons v q=>exact⟨v,q,rfl,h.1,h.2⟩
theorem Ka{R:TV->Value->Prop}{vs:List Value}(h:FL R [] vs):vs=[]:=by
 cases vs with
 |nil=>rfl
 |cons v q=>exact h.elim
theorem fQ:∀{k k':IntKind},sameKind k k'=true->k=k':=by
 intro k k' h;cases k<;>cases k'<;>first|rfl|cases h
theorem FL1{R:TV->Value->Prop}{x:TV}{vs:List Value}(h:FL R [x] vs):∃v,vs=[v]/\R x v:=by
 match vs,h with
 |[v],h=>exact⟨v,rfl,h.1⟩
 |[],h=>exact h.elim
 |_::_::_,h=>exact h.2.elim
theorem Vy:∀(n:Nat),1<=(RT n).bytes:=by
 intro n;unfold RT;split<;>exact aB rfl
theorem abd:∀(n:Nat) {x:DD n} {vs:List Value},(RT n).R w χ vs x->FL (CR w χ) (Zo n x) vs:=by
 intro n;unfold RT;split<;>intro x vs h
 .obtain⟨a3,c3,rfl,h3⟩:=h;exact⟨rfl,rfl,rfl,⟨a3,c3,rfl,h3⟩,trivial⟩
 .obtain⟨a1,c1,rfl,h1⟩:=h;exact⟨rfl,⟨a1,c1,rfl,h1⟩,trivial⟩
 .obtain⟨a3,c3,a4,c4,a6,c6,rfl,h3,h4,h6⟩:=h;exact⟨rfl,rfl,rfl,⟨a3,c3,rfl,h3⟩,⟨a4,c4,rfl,h4⟩,rfl,⟨a6,c6,rfl,h6⟩,rfl,rfl,rfl,trivial⟩
 .obtain⟨a2,c2,a3,c3,rfl,h2,h3⟩:=h;exact⟨rfl,rfl,⟨a2,c2,rfl,h2⟩,⟨a3,c3,rfl,h3⟩,trivial⟩
 .obtain⟨a3,c3,a4,c4,rfl,h3,h4⟩:=h;exact⟨rfl,rfl,rfl,⟨a3,c3,rfl,h3⟩,⟨a4,c4,rfl,h4⟩,trivial⟩
 .obtain⟨a3,c3,a4,c4,a5,c5,a7,c7,rfl,h3,h4,h5,h7⟩:=h;exact⟨rfl,rfl,rfl,⟨a3,c3,rfl,h3⟩,⟨a4,c4,rfl,h4⟩,⟨a5,c5,rfl,h5⟩,rfl,⟨a7,c7,rfl,h7⟩,rfl,rfl,rfl,trivial⟩
 .cases h;exact⟨rfl,rfl,rfl,trivial⟩
 .cases h;exact⟨rfl,rfl,rfl,rfl,rfl,trivial⟩
 .cases h;exact⟨rfl,rfl,rfl,trivial⟩
 .cases h;exact⟨rfl,rfl,rfl,rfl,trivial⟩
 .cases h;exact⟨rfl,rfl,rfl,trivial⟩
 .cases h;exact⟨rfl,rfl,trivial⟩
 .cases h;exact⟨rfl,rfl,trivial⟩
 .cases h;exact⟨rfl,rfl,trivial⟩
 .cases h;exact⟨rfl,rfl,rfl,trivial⟩
 .obtain⟨a3,c3,rfl,h3⟩:=h;exact⟨rfl,rfl,rfl,⟨a3,c3,rfl,h3⟩,trivial⟩
 .cases h;exact⟨rfl,rfl,rfl,trivial⟩
 .exact h.elim
theorem S1:∀(n:Nat) {x:DD n} {vs:List Value},repT n=true->FL (CR w χ) (Zo n x) vs->(RT n).R w χ vs x:=by
 intro n x vs e h;unfold repT at e;split at e
 .obtain⟨v0,q,rfl,h0,h⟩:=kC h;obtain⟨v1,q,rfl,h1,h⟩:=kC h;obtain⟨v2,q,rfl,h2,h⟩:=kC h;obtain⟨v3,q,rfl,h3,h⟩:=kC h;cases Ka h;cases h0;cases h1;cases h2;obtain⟨a3,c3,rfl,k3⟩:=h3;exact⟨a3,c3,rfl,k3⟩
 .obtain⟨v0,q,rfl,h0,h⟩:=kC h;obtain⟨v1,q,rfl,h1,h⟩:=kC h;cases Ka h;cases h0;obtain⟨a1,c1,rfl,k1⟩:=h1;exact⟨a1,c1,rfl,k1⟩
 .obtain⟨v0,q,rfl,h0,h⟩:=kC h;obtain⟨v1,q,rfl,h1,h⟩:=kC h;obtain⟨v2,q,rfl,h2,h⟩:=kC h;obtain⟨v3,q,rfl,h3,h⟩:=kC h;obtain⟨v4,q,rfl,h4,h⟩:=kC h;obtain⟨v5,q,rfl,h5,h⟩:=kC h;obtain⟨v6,q,rfl,h6,h⟩:=kC h;obtain⟨v7,q,rfl,h7,h⟩:=kC h;obtain⟨v8,q,rfl,h8,h⟩:=kC h;obtain⟨v9,q,rfl,h9,h⟩:=kC h;cases Ka h;cases h0;cases h1;cases h2;obtain⟨a3,c3,rfl,k3⟩:=h3;obtain⟨a4,c4,rfl,k4⟩:=h4;cases h5;obtain⟨a6,c6,rfl,k6⟩:=h6;cases h7;cases h8;cases h9;exact⟨a3,c3,a4,c4,a6,c6,rfl,k3,k4,k6⟩
 .obtain⟨v0,q,rfl,h0,h⟩:=kC h;obtain⟨v1,q,rfl,h1,h⟩:=kC h;obtain⟨v2,q,rfl,h2,h⟩:=kC h;obtain⟨v3,q,rfl,h3,h⟩:=kC h;cases Ka h;cases h0;cases h1;obtain⟨a2,c2,rfl,k2⟩:=h2;obtain⟨a3,c3,rfl,k3⟩:=h3;exact⟨a2,c2,a3,c3,rfl,k2,k3⟩
 .obtain⟨v0,q,rfl,h0,h⟩:=kC h;obtain⟨v1,q,rfl,h1,h⟩:=kC h;obtain⟨v2,q,rfl,h2,h⟩:=kC h;obtain⟨v3,q,rfl,h3,h⟩:=kC h;obtain⟨v4,q,rfl,h4,h⟩:=kC h;cases Ka h;cases h0;cases h1;cases h2;obtain⟨a3,c3,rfl,k3⟩:=h3;obtain⟨a4,c4,rfl,k4⟩:=h4;exact⟨a3,c3,a4,c4,rfl,k3,k4⟩
 .obtain⟨v0,q,rfl,h0,h⟩:=kC h;obtain⟨v1,q,rfl,h1,h⟩:=kC h;obtain⟨v2,q,rfl,h2,h⟩:=kC h;obtain⟨v3,q,rfl,h3,h⟩:=kC h;obtain⟨v4,q,rfl,h4,h⟩:=kC h;obtain⟨v5,q,rfl,h5,h⟩:=kC h;obtain⟨v6,q,rfl,h6,h⟩:=kC h;obtain⟨v7,q,rfl,h7,h⟩:=kC h;obtain⟨v8,q,rfl,h8,h⟩:=kC h;obtain⟨v9,q,rfl,h9,h⟩:=kC h;obtain⟨v10,q,rfl,h10,h⟩:=kC h;cases Ka h;cases h0;cases h1;cases h2;obtain⟨a3,c3,rfl,k3⟩:=h3;obtain⟨a4,c4,rfl,k4⟩:=h4;obtain⟨a5,c5,rfl,k5⟩:=h5;cases h6;obtain⟨a7,c7,rfl,k7⟩:=h7;cases h8;cases h9;cases h10;exact⟨a3,c3,a4,c4,a5,c5,a7,c7,rfl,k3,k4,k5,k7⟩
 .obtain⟨v0,q,rfl,h0,h⟩:=kC h;obtain⟨v1,q,rfl,h1,h⟩:=kC h;obtain⟨v2,q,rfl,h2,h⟩:=kC h;cases Ka h;cases h0;cases h1;cases h2;rfl
 .obtain⟨v0,q,rfl,h0,h⟩:=kC h;obtain⟨v1,q,rfl,h1,h⟩:=kC h;obtain⟨v2,q,rfl,h2,h⟩:=kC h;obtain⟨v3,q,rfl,h3,h⟩:=kC h;obtain⟨v4,q,rfl,h4,h⟩:=kC h;cases Ka h;cases h0;cases h1;cases h2;cases h3;cases h4;rfl
 .obtain⟨v0,q,rfl,h0,h⟩:=kC h;obtain⟨v1,q,rfl,h1,h⟩:=kC h;obtain⟨v2,q,rfl,h2,h⟩:=kC h;cases Ka h;cases h0;cases h1;cases h2;rfl
 .obtain⟨v0,q,rfl,h0,h⟩:=kC h;obtain⟨v1,q,rfl,h1,h⟩:=kC h;obtain⟨v2,q,rfl,h2,h⟩:=kC h;obtain⟨v3,q,rfl,h3,h⟩:=kC h;cases Ka h;cases h0;cases h1;cases h2;cases h3;rfl
 .obtain⟨v0,q,rfl,h0,h⟩:=kC h;obtain⟨v1,q,rfl,h1,h⟩:=kC h;obtain⟨v2,q,rfl,h2,h⟩:=kC h;cases Ka h;cases h0;cases h1;cases h2;rfl
 .obtain⟨v0,q,rfl,h0,h⟩:=kC h;obtain⟨v1,q,rfl,h1,h⟩:=kC h;cases Ka h;cases h0;cases h1;rfl
 .obtain⟨v0,q,rfl,h0,h⟩:=kC h;obtain⟨v1,q,rfl,h1,h⟩:=kC h;cases Ka h;cases h0;cases h1;rfl
 .obtain⟨v0,q,rfl,h0,h⟩:=kC h;obtain⟨v1,q,rfl,h1,h⟩:=kC h;cases Ka h;cases h0;cases h1;rfl
 .obtain⟨v0,q,rfl,h0,h⟩:=kC h;obtain⟨v1,q,rfl,h1,h⟩:=kC h;obtain⟨v2,q,rfl,h2,h⟩:=kC h;cases Ka h;cases h0;cases h1;cases h2;rfl
 .obtain⟨v0,q,rfl,h0,h⟩:=kC h;obtain⟨v1,q,rfl,h1,h⟩:=kC h;obtain⟨v2,q,rfl,h2,h⟩:=kC h;obtain⟨v3,q,rfl,h3,h⟩:=kC h;cases Ka h;cases h0;cases h1;cases h2;obtain⟨a3,c3,rfl,k3⟩:=h3;exact⟨a3,c3,rfl,k3⟩
 .obtain⟨v0,q,rfl,h0,h⟩:=kC h;obtain⟨v1,q,rfl,h1,h⟩:=kC h;obtain⟨v2,q,rfl,h2,h⟩:=kC h;cases Ka h;cases h0;cases h1;cases h2;rfl
 .cases e
theorem adg:∀{c:TC} {v:TV} {x:den c},cl1 c v=some x->NV v (lf1 c x):=by
 intro c v x e;unfold cl1 at e;split at e
 .rename_i k k' y;cases hk:sameKind k k' with
  |true=>rw[hk]at e;cases e;cases fQ hk;rfl
  |false=>rw[hk]at e;cases e
 .exact FD e
 .cases e;rfl
 .exact Mu e
 .exact Nf e
 .cases e
theorem U8:∀{cs:List TC} {l:List TV} {h:HL cs},clH cs l=some h->FL NV l (lfH cs h)
 |[],[],_,_=>trivial
 |c::cs,v::l,h,e=>by
  unfold clH at e;split at e
  .rename_i h1 h2;cases e;exact⟨adg h1,U8 h2⟩
  .cases e
 |[],_::_,_,e=>by cases e
 |_::_,[],_,e=>by cases e
theorem adf(n:Nat){l:List TV}{x:DD n}(e:cls n l=some x):FL NV l (Zo n x):=by
 unfold cls at e;split at e
 .rename_i h hh;cases e;unfold Zo;rw[(sh n).eq];exact U8 hh
 .cases e
theorem Cz:∀(c:TC) {x:den c} {vs:List Value},(bw c).R w χ vs x->FL (CR w χ) (kd c x) vs
 |.i _,_,_,h=>by cases h;exact⟨rfl,trivial⟩
 |.b,_,_,h=>by cases h;exact⟨rfl,trivial⟩
 |.s,_,_,h=>by cases h;exact⟨rfl,trivial⟩
 |.t n,_,_,h=>abd n h
 |.l _,_,_,h=>by obtain⟨a,cp,rfl,h⟩:=h;exact⟨⟨a,cp,rfl,h⟩,trivial⟩
 |.m _,_,_,h=>h.elim
theorem Gt:∀(c:TC) {x:den c} {vs:List Value},yy c=true->FL (CR w χ) (kd c x) vs->(bw c).R w χ vs x
 |.i _,_,_,_,h=>by obtain⟨v,rfl,hv⟩:=FL1 h;cases hv;rfl
 |.b,_,_,_,h=>by obtain⟨v,rfl,hv⟩:=FL1 h;cases hv;rfl
 |.s,_,_,_,h=>by obtain⟨v,rfl,hv⟩:=FL1 h;cases hv;rfl
 |.t n,_,_,e,h=>S1 n e h
 |.l _,_,_,_,h=>by obtain⟨v,rfl,a,cp,rfl,hv⟩:=FL1 h;exact⟨a,cp,rfl,hv⟩
 |.m _,_,_,e,_=>by cases e
theorem mV:∀(c:TC) {l:List TV} {x:den c},N0 c l=some x->FL NV l (kd c x):=by
 intro c l x e;unfold N0 at e;split at e
 .rename_i k k' y;cases hk:sameKind k k' with
  |false=>rw[hk]at e;cases e
  |true=>rw[hk]at e;cases e;cases fQ hk;exact⟨rfl,trivial⟩
 .exact⟨FD e,trivial⟩
 .cases e;exact⟨rfl,trivial⟩
 .exact adf _ e
 .exact⟨Mu e,trivial⟩
 .exact⟨Nf e,trivial⟩
 .cases e
theorem xf:∀c,1<=(bw c).bytes
 |.i k=>by cases k<;>decide
 |.b=>by decide
 |.s=>by decide
 |.t n=>Vy n
 |.l _=>aB rfl
 |.m _=>aB rfl
end
end
noncomputable section
structure En where
 ρ:Nat->Nat
 σ:Nat->Option Addr
 κ:Nat->Nat
 μ:Nat->Nat
 c:Nat->Nat
 m:Nat->Nat
def PR(w:World)(χ:Nat->Nat)(x:TV)(y:S0):Prop:=(∃id off,x=.p id off/\y=.p id off)∨∃v,y=.v v/\CR w χ x v
def FR(w:World)(χ:Nat->Nat):Bool×List TV->S0->Prop
 |(false,[x]),y=>PR w χ x y
 |(true,l),.v v=>∃vs,v=.agg vs.toArray/\FL (CR w χ) l vs
 |_,_=>False
section
variable(w:World)(χ:Nat->Nat)(E:En)(s:TS)
def TR:TV->SV->Prop
 |.p id off,sv=>sv=Pt id off
 |.o k,sv=>∃v,sv=V v/\∀ow,aa s.own k=some ow->v=.slice (E.σ k) ow.l.length (E.κ k)
 |.m k,sv=>∃v,sv=V v/\∀mp,aa s.aZ k=some mp->v=.map (some (E.μ k))
 |.e k i off,sv=>∃v,sv=V v/\∀ow,aa s.own k=some ow->0<=i/\i<ow.l.length/\∃b,E.σ k=some ⟨b,0,none⟩/\v=.pointer (some ⟨b,i.toNat*(bw ow.c).n+off,none⟩)
 |.j,_=>True
 |.a c x off,sv=>∃b o,sv=V (.pointer (some ⟨b,o+off,none⟩))/\At (bw c) w χ ⟨b,o,none⟩ x
 |.f fn fi cp,sv=>∃f c,sv=.f (.func fn) f c/\FL (FR w χ) fi f/\FL (PR w χ) cp c
 |x,sv=>∃v,sv=V v/\CR w χ x v
def Oa:RV->SV->Prop
 |.s x,sv=>TR w χ E s x sv
 |.g l,sv=>∃vs,sv=V (.agg vs.toArray)/\FL (λx v=>TR w χ E s x (V v)/\v.oneCell'=true) l vs
 |.t _,_=>False
def Kj:RV->Value->Prop
 |.s (.p id off),v=>v=.pointer (some ⟨E.ρ id,off,none⟩)
 |x,v=>Oa w χ E s x (V v)
def fO:RV->SV->Prop
 |.s x,sv=>TR w χ E s x sv
 |.g l,sv=>∃vs,sv=V (.agg vs.toArray)/\FL (λx v=>TR w χ E s x (V v)/\v.oneCell'=true) l vs
 |.t l,sv=>∃vs,sv=V (.tuple vs.toArray)/\FL (Kj w χ E s) l vs
end
structure Cx where
 n:Nat
 w0:World
 X0:Nat->Nat
 f0:Nat->Nat
 qu:List (Nat×Nat)
 nb:Nat
structure HX (T:Tb) (X:Cx):Prop where
 le:X.n+T.nb<=899
 qu:∀q∈X.qu,q.1<=T.nb∨X.n+T.nb<q.1
 nb:X.nb=T.nb
 inl:∀q∈X.qu,∀i g,T.inl i=some g->q.1<g.lo∨g.hi<q.1
structure QD (E:En) (s:TS):Prop where
 o:∀k x,aa s.own k=some x->1001<=E.c k
 m:∀k x,aa s.aZ k=some x->1001<=E.m k
 oo:∀k x j y,aa s.own k=some x->aa s.own j=some y->E.c k=E.c j->k=j
 om:∀k x j y,aa s.own k=some x->aa s.aZ j=some y->E.c k≠E.m j
 mm:∀k x j y,aa s.aZ k=some x->aa s.aZ j=some y->E.m k=E.m j->k=j
structure bX (X:Cx) (s:TS) (E:En) (sy:Sy) (a:Act) (w:World) (χ:Nat->Nat):Prop where
 st:St X.n sy E.ρ a w χ
 al:∀t x,aa s.al t=some x->∃sv,aa sy.al t=some sv/\fO w χ E s x sv
 boxes:∀id t cs,aa s.boxes id=some (t,cs)->∃ss,aa sy.boxes id=some (t,ss)/\FL (TR w χ E s) cs ss
 own:∀k ow,aa s.own k=some ow->OS (bw ow.c) ow.e w χ (E.c k) (E.σ k) ow.l (E.κ k)
 aZ:∀k mp,aa s.aZ k=some mp->OM kI (bw mp.c) (mR mp.c) w χ (E.m k) (E.μ k) mp.l
 aQ:QD E s
 lS:Ho X.f0 X.w0 X.X0 w χ
 qu:Pin X.qu E.ρ
def Kn(s:TS)(E:En)(χ:Nat->Nat)(b:Nat):Prop:=χ b=0∨(∃id x,aa s.boxes id=some x/\b=E.ρ id)∨(∃k x,aa s.own k=some x/\χ b=E.c k)∨∃k x,aa s.aZ k=some x/\χ b=E.m k
def zh(s:TS)(E:En)(χ:Nat->Nat)(w w1:World):Prop:=∀b,b<w.heap.size->Kn s E χ b->w1.heap[b]?=w.heap[b]?
section
variable{w w':World}{χ χ':Nat->Nat}{E E':En}{s s':TS}{X:Cx}{sy:Sy}{a:Act}
theorem zh.refl:zh s E χ w w:=λ_ _ _=>rfl
theorem PR.m0(m:M0 w χ w' χ'){x:TV}{y:S0}(h:PR w χ x y):PR w' χ' x y:=by
 rcases h with h|⟨v,h1,h2⟩
 .exact .inl h
 .exact .inr ⟨v,h1,h2.m0 m⟩
theorem FR.m0(m:M0 w χ w' χ'):∀{x:Bool×List TV} {y:S0},FR w χ x y->FR w' χ' x y
 |(false,[_]),_,h=>PR.m0 m h
 |(true,_),.v _,⟨vs,e,h⟩=>⟨vs,e,h.mono λ_ _=>CR.m0 m⟩
 |(true,_),.p _ _,h=>h.elim
 |(false,[]),_,h=>h.elim
 |(false,_::_::_),_,h=>h.elim
theorem At.m0{α:Type}{T:b9 α}{A:Addr}{x:α}(m:M0 w χ w' χ')(h:At T w χ A x):At T w' χ' A x:=by
 obtain⟨b,o,cs,e,fr,h1,h2,h3,h4⟩:=h;exact⟨b,o,cs,e,fr,h1,(m.keep _ (gF h3) h2).2,(m.keep _ (gF h3) h2).1.trans h3,T.mono m h4⟩
def Nm(E E':En)(s s':TS)(x:TV):Prop:=∀k,fa k x=true ->
 (∀mQ,aa s'.own k=some mQ->∃ow,aa s.own k=some ow/\ow.l.length=mQ.l.length/\ow.c=mQ.c/\E'.σ k=E.σ k/\E'.κ k=E.κ k) /\
 (∀mp',aa s'.aZ k=some mp'->∃mp,aa s.aZ k=some mp/\E'.μ k=E.μ k)
theorem kS:∀{x:TV} {v:Value},CR w χ x v->TR w χ E s x (V v)
 |.int _ _,_,h=>⟨_,rfl,h⟩
 |.bool _,_,h=>⟨_,rfl,h⟩
 |.lit _,_,h=>⟨_,rfl,h⟩
 |.uq _,_,h=>⟨_,rfl,h⟩
 |.str _,_,h=>⟨_,rfl,h⟩
 |.sl _ _,_,h=>⟨_,rfl,h⟩
 |.q _ _,_,h=>⟨_,rfl,h⟩
 |.v _,_,h=>⟨_,rfl,h⟩
 |.p _ _,_,h=>h.elim
 |.o _,_,h=>h.elim
 |.m _,_,h=>h.elim
 |.e _ _ _,_,h=>h.elim
 |.md _ _,_,h=>h.elim
 |.j,_,h=>h.elim
 |.a _ _ _,_,h=>h.elim
 |.f _ _ _,_,h=>h.elim
theorem TR.own{k:Nat}{ow:Wa}{sv:SV}(h:TR w χ E s (.o k) sv)(e:aa s.own k=some ow):sv=V (.slice (E.σ k) ow.l.length (E.κ k)):=by
 obtain⟨v,rfl,hv⟩:=h;rw[hv ow e]
theorem TR.map{k:Nat}{mp:J9}{sv:SV}(h:TR w χ E s (.m k) sv)(e:aa s.aZ k=some mp):sv=V (.map (some (E.μ k))):=by
 obtain⟨v,rfl,hv⟩:=h;rw[hv mp e]
theorem TR.tr(m:M0 w χ w' χ'):∀{x:TV} {sv:SV},Nm E E' s s' x->TR w χ E s x sv->TR w' χ' E' s' x sv
 |.p _ _,_,_,h=>h
 |.o k,_,n,⟨v,hv,h⟩=>⟨v,hv,λmQ e=>by
  obtain⟨ow,h1,h2,h3,h4,h5⟩:=(n k (eH k)).1 mQ e;rw[h ow h1,h2,h4,h5]⟩
 |.m k,_,n,⟨v,hv,h⟩=>⟨v,hv,λmp' e=>by
  obtain⟨mp,h1,h2⟩:=(n k (eH k)).2 mp' e;rw[h mp h1,h2]⟩
 |.e k i off,_,n,⟨v,hv,h⟩=>⟨v,hv,λmQ e=>by
  obtain⟨ow,h1,h2,h3,h4,h5⟩:=(n k (eH k)).1 mQ e;obtain⟨g1,g2,b,g3,g4⟩:=h ow h1;exact⟨g1,h2▸g2,b,h4.trans g3,h3▸g4⟩⟩
 |.j,_,_,_=>trivial
 |.a _ _ _,_,_,⟨b,o,h1,h2⟩=>⟨b,o,h1,At.m0 m h2⟩
 |.f _ _ _,_,_,⟨f,c,h1,h2,h3⟩=>⟨f,c,h1,h2.mono λ_ _=>FR.m0 m,h3.mono λ_ _=>PR.m0 m⟩
 |.int _ _,_,_,⟨v,h1,h2⟩=>⟨v,h1,CR.m0 m h2⟩
 |.bool _,_,_,⟨v,h1,h2⟩=>⟨v,h1,CR.m0 m h2⟩
 |.lit _,_,_,⟨v,h1,h2⟩=>⟨v,h1,CR.m0 m h2⟩
 |.uq _,_,_,⟨v,h1,h2⟩=>⟨v,h1,CR.m0 m h2⟩
 |.str _,_,_,⟨v,h1,h2⟩=>⟨v,h1,CR.m0 m h2⟩
 |.sl _ _,_,_,⟨v,h1,h2⟩=>⟨v,h1,CR.m0 m h2⟩
 |.q _ _,_,_,⟨v,h1,h2⟩=>⟨v,h1,CR.m0 m h2⟩
 |.md _ _,_,_,⟨v,h1,h2⟩=>h2.elim
 |.v _,_,_,⟨v,h1,h2⟩=>⟨v,h1,CR.m0 m h2⟩
def Dw:RV->List TV
 |.s x=>[x]
 |.g l=>l
 |.t l=>l.flatMap aW
theorem Oa.tr(m:M0 w χ w' χ'):∀{x:RV} {sv:SV},(∀y∈aW x,Nm E E' s s' y)->Oa w χ E s x sv->Oa w' χ' E' s' x sv
 |.s x,_,n,h=>TR.tr m (n x (aY.2 rfl)) h
 |.g l,_,n,⟨vs,h1,h2⟩=>⟨vs,h1,by
  have n:∀y∈l,Nm E E' s s' y:=n;clear h1
  induction l generalizing vs with
  |nil=>cases vs with|nil=>trivial|cons _ _=>exact h2.elim
  |cons x l ih=>cases vs with
   |nil=>exact h2.elim
   |cons v vs=>exact⟨⟨TR.tr m (n x aI) h2.1.1,h2.1.2⟩,ih (λy hy=>n y (aw _ hy)) _ h2.2 λy hy=>n y (aw _ hy)⟩⟩
 |.t _,_,_,h=>h.elim
def MH:RV->List Nat
 |.t l=>l.flatMap (λx=>match x with
  |.s (.p id _)=>[id]
  |_=>[])
 |_=>[]
theorem Kj.of{x:RV}{v:Value}(h:Oa w χ E s x (V v)):Kj w χ E s x v:=by
 cases x with
 |s y=>cases y<;>first|exact h|cases h
 |g l=>exact h
 |t l=>exact h
theorem Kj.tr(m:M0 w χ w' χ'){x:RV}{v:Value}(n:∀y∈aW x,Nm E E' s s' y)(hρ:∀id off,x=.s (.p id off)->E'.ρ id=E.ρ id)(h:Kj w χ E s x v):Kj w' χ' E' s' x v:=by
 cases x with
 |s y=>cases y with
  |p id off=>exact Eq.trans h (by rw[hρ id off rfl])
  |_=>exact Oa.tr (x:=.s _) (sv:=V v) m n h
 |g l=>exact Oa.tr (x:=.g _) (sv:=V v) m n h
 |t l=>exact h.elim
theorem fO.tr(m:M0 w χ w' χ'):∀{x:RV} {sv:SV},(∀y∈Dw x,Nm E E' s s' y)->fO w χ E s x sv->(hρ:∀id∈MH x,E'.ρ id=E.ρ id:=by exact λ_ _=>rfl)->fO w' χ' E' s' x sv
 |.s x,_,n,h,_=>Oa.tr (x:=.s x) m n h
 |.g l,_,n,h,_=>Oa.tr (x:=.g l) m n h
 |.t l,_,n,⟨vs,h1,h2⟩,hρ=>⟨vs,h1,by
  have n:∀y∈l.flatMap aW,Nm E E' s s' y:=n;clear h1
  induction l generalizing vs with
  |nil=>cases vs with|nil=>trivial|cons _ _=>exact h2.elim
  |cons x l ih=>cases vs with
   |nil=>exact h2.elim
   |cons v vs =>
    have g:∀y∈l.flatMap aW,Nm E E' s s' y:=λ(y:TV) hy=>n y (by
    obtain⟨z,hz,hy⟩:=cf.1 hy;exact cf.2 ⟨z,aw _ hz,hy⟩)
    exact⟨h2.1.tr m (λy hy=>n y (cf.2 ⟨x,aI,hy⟩)) (λid off e=>hρ id (by subst e;exact aN _ (aY.2 rfl))),ih g _ h2.2 (λid hid=>hρ id (aG _ hid)) g⟩⟩
theorem DN{f:TV->SV->Prop}{g:TV->SV->Prop}:∀{l:List TV} {ss:List SV},(∀x∈l,∀sv,f x sv->g x sv)->FL f l ss->FL g l ss
 |[],[],_,_=>trivial
 |_::_,_::_,h,e=>⟨h _ aI _ e.1,DN (λx hx=>h x (aw _ hx)) e.2⟩
 |[],_::_,_,e=>e.elim
 |_::_,[],_,e=>e.elim
theorem MY{v:Value}{x:TV}(e:W9 v=some x):CR w χ x v:=by
 unfold W9 at e;split at e<;>cases e<;>first|rfl|exact⟨rfl,rfl⟩
theorem fI{α:Type}{x:Option α}{q:Option (List α)}{l:List α}(e:consO x q=some l):∃y r,x=some y/\q=some r/\l=y::r:=by
 unfold consO at e;split at e
 .cases e;exact⟨_,_,rfl,rfl,rfl⟩
 .cases e
theorem yE:∀{vs:List Value} {l:List TV},Ig vs=some l->FL (CR w χ) l vs
 |[],_,e=>by cases e;trivial
 |v::vs,l,e=>by obtain⟨y,r,h1,h2,rfl⟩:=fI e;exact⟨MY h1,yE h2⟩
theorem ue:∀{l:List TV} {vs:List Value},FL (CR w χ) l vs->FL (λx v=>TR w χ E s x (V v)/\v.oneCell'=true) l vs
 |[],[],_=>trivial
 |_::_,_::_,h=>⟨⟨kS h.1,h.1.one⟩,ue h.2⟩
 |[],_::_,h=>h.elim
 |_::_,[],h=>h.elim
theorem abi{v:Value}{x:RV}(e:ofV v=some x):fO w χ E s x (V v):=by
 unfold ofV at e;split at e
 .rename_i cs;split at e
  .rename_i l hl;cases e;exact⟨cs.toList,by rw[dI],ue (yE hl)⟩
  .cases e
 .split at e
  .rename_i y hy;cases e;exact kS (MY hy)
  .cases e
theorem bq(h:bX X s E sy a w χ){x:Operand}{rv:RV}(e:ev s x=some rv):∃sv,Sv.cu sy x=some sv/\fO w χ E s rv sv:=by
 cases x with
 |tmp t=>exact h.al t rv e
 |const v=>exact⟨_,rfl,abi e⟩
 |func f=>cases e;exact⟨_,rfl,[],[],rfl,trivial,trivial⟩
 |global g=>cases e
theorem bX.put(h:bX X s E sy a w χ){d:Nat}(hd:d<X.n){rv:RV}{sv:SV}(hv:fO w χ E s rv sv):bX X (put s (some d) rv) E ⟨(d,sv)::sy.al,sy.boxes⟩ (a.put (some d) (aP E.ρ sv)) w χ :=
 ⟨h.st.put hd,λt x e=>by
  rcases aA e with⟨h1,h2⟩|⟨h1,h2⟩
  .subst h1 h2;exact⟨sv,by unfold aa;rw[eH];rfl,hv⟩
  .obtain⟨sv',h3,h4⟩:=h.al t x h2;refine⟨sv',?_,h4⟩;have hb:Nat.beq d t=false:=by cases hb:Nat.beq d t with|false=>rfl|true=>exact absurd (aD hb) h1
   show aa ((d,sv)::sy.al) t=some sv';unfold aa;rw[hb];exact h3,h.boxes,h.own,h.aZ,⟨h.aQ.o,h.aQ.m,h.aQ.oo,h.aQ.om,h.aQ.mm⟩,h.lS,h.qu⟩
def yu(s:TS)(sy:Sy):Sy:=⟨sy.al,sy.boxes.filter (λq=>(aa s.boxes q.1).isSome)⟩
theorem fH{α:Type}{f:Nat->Bool}:∀{l:List (Nat×α)} {id:Nat} {q:α},f id=true->aa l id=some q->aa (l.filter (λq=>f q.1)) id=some q
 |[],_,_,_,e=>by cases e
 |(k,v)::l,id,q,hf,e=>by
  rcases aA e with⟨h1,h2⟩|⟨h1,h2⟩
  .subst h1 h2;rw[List.filter_cons_of_pos (by exact hf)];unfold aa;rw[eH];rfl
  .cases hk:f k with
   |true =>
    rw[List.filter_cons_of_pos (by exact hk)];have hb:Nat.beq k id=false:=by cases hb:Nat.beq k id with|false=>rfl|true=>exact absurd (aD hb) h1
    unfold aa;rw[hb];exact fH hf h2
   |false=>rw[List.filter_cons_of_neg (by simp[hk])];exact fH hf h2
theorem bX.yu(h:bX X s E sy a w χ):bX X s E (yu s sy) a w χ :=
 ⟨h.st.sub (λ_ _ e=>e) (λ_ _ e=>(bg (f:=λi=>(aa s.boxes i).isSome) e).2),h.al,λid t cs e=>by
  obtain⟨ss,h1,h2⟩:=h.boxes id t cs e;exact⟨ss,fH (f:=λi=>(aa s.boxes i).isSome) (by simp[e]) h1,h2⟩,h.own,h.aZ,h.aQ,h.lS,h.qu⟩
theorem bX.ai7(h:bX X s E sy a w χ){w1:World}(hs:zh s E χ w w1):St X.n (Te.yu s sy) E.ρ a w1 χ :=
 ⟨h.st.size,h.st.defers,h.st.al,λid q e=>by
  obtain⟨h1,h2⟩:=bg (f:=λi=>(aa s.boxes i).isSome) e;obtain⟨h3,h4,h5⟩:=h.st.boxes id q h2;obtain⟨y,hy⟩:=bR.1 h1;exact⟨h3,h4,(hs _ (gF h5) (.inr (.inl ⟨id,y,hy,rfl⟩))).trans h5⟩⟩
end
end
section
structure gW (P:Program) (T:Tb):Prop where
 bj:dD P T.bj
 et:∀t e c,T.et t=some (e,c)->wL T.bj t e=true/\Bc T.bj e (bw c).n (bw c).bytes=true/\Nat.ble (bw c).bytes 128=true/\yy c=true/\∀z,zC T c=some z->∀w χ,(match aa T.bj e with|some s=>(bw c).R w χ s.zero z|none=>False)
 en:∀t e c,T.et t=some (e,c)->Nat.ble ((bw c).n*4096) 16777216=true
 mt:∀t c,T.mt t=some c->yy c=true/\∃kt et zv,P.underlying t=some (.map kt et)/\P.underlying kt=some (.int .i64)/\(P.info? et).bind (·.zero)=some zv/\∀z,zC T c=some z->∀w χ,VR (bw c) (mR c) w χ zv z
 pt:∀t,T.pt t=true->∃e,P.underlying t=some (.pointer e)
 kt:∀t ks,T.kt t=some ks->∀xs,kindV ks xs=true->oB P t xs=true/\nf T.bj t=some xs.length
section
variable{P:Program}{T:Tb}{bj:oQ}{w:World}{χ:Nat->Nat}{E:En}{s:TS}{X:Cx}{sy:Sy}{a:Act}
theorem fL{o:Option RV}{q:Qr}(e:qv o=some q):o=some q.v/\q.pre=none/\q.F5=[]:=by
 cases o with
 |none=>cases e
 |some v=>cases e;exact⟨rfl,rfl,rfl⟩
theorem fO.int{k:IntKind}{x:Int}{sv:SV}(h:fO w χ E s (.s (.int k x)) sv):sv=V (.int k x):=by
 obtain⟨v,rfl,h⟩:=h;cases h;rfl
theorem fO.bool{x:Bool}{sv:SV}(h:fO w χ E s (.s (.bool x)) sv):sv=B x:=by
 obtain⟨v,rfl,h⟩:=h;cases h;rfl
theorem fO.lit{x:Bool}{sv:SV}(h:fO w χ E s (.s (.lit x)) sv):sv=B x:=by
 obtain⟨v,rfl,h⟩:=h;cases h;rfl
theorem fO.uq{x:Bool}{sv:SV}(h:fO w χ E s (.s (.uq x)) sv):sv=B x:=by
 obtain⟨v,rfl,h⟩:=h;cases h;rfl
theorem fO.str{x:List UInt8}{sv:SV}(h:fO w χ E s (.s (.str x)) sv):sv=V (.string (bs x)):=by
 obtain⟨v,rfl,h⟩:=h;cases h;rfl
theorem fO.ic{x:TV}{b:Bool}{sv:SV}(e:ic x=some b)(h:fO w χ E s (.s x) sv):sv=B b:=by
 unfold Go.Te.ic at e;split at e<;>cases e
 .exact h.bool
 .exact h.lit
 .exact h.uq
theorem Xt{o:Option RV}{r:RV}{sv:SV}(e:litR o=some r)(h:∀v,o=some v->fO w χ E s v sv):fO w χ E s r sv:=by
 unfold litR at e;split at e
 .cases e;obtain rfl:=(h _ rfl).uq;exact⟨_,rfl,rfl⟩
 grind
variable{d:Option Nat}{ty:TypeId}{pos:String}{af:Array Edge}{g:Option (Nat×Bool)}
theorem aaT(h:bX X s E sy a w χ){x:Operand}{r:RV}(e:ev s x=some r):∃sv,dV bj sy ⟨d,.move x,ty,pos,af,g⟩=some sv/\fO w χ E s r sv:=bq h e
theorem Sk(h:bX X s E sy a w χ){x:Operand}{r:RV}(e:ev s x=some r):∃sv,dV bj sy ⟨d,.assign x,ty,pos,af,g⟩=some sv/\fO w χ E s r sv:=bq h e
theorem aaR(h:bX X s E sy a w χ){c x y:Operand}{r:RV}(e:Sq (ev s c) (ev s x) (ev s y)=some r):∃sv,dV bj sy ⟨d,.pick c x y,ty,pos,af,g⟩=some sv/\fO w χ E s r sv:=by
 have key:∀(b:Bool)(z:Operand),Sv.cu sy c=some (B b)->z=(bif b then x else y)->litR (ev s z)=some r->∃sv,dV bj sy ⟨d,.pick c x y,ty,pos,af,g⟩=some sv/\fO w χ E s r sv:=by
  intro b z hc hz e;cases hez:ev s z with
  |none=>rw[hez]at e;cases e
  |some v=>obtain⟨sv,h1,h2⟩:=bq h hez;refine⟨sv,?_,Xt e λv' e'=>by rw[hez]at e';cases e';exact h2⟩;unfold dV;grind
 unfold Sq at e;split at e<;>rename_i hcv
 .obtain⟨sv,h1,h2⟩:=bq h hcv;obtain rfl:=h2.lit;exact key true x h1 rfl e
 .obtain⟨sv,h1,h2⟩:=bq h hcv;obtain rfl:=h2.lit;exact key false y h1 rfl e
 .obtain⟨sv,h1,h2⟩:=bq h hcv;obtain rfl:=h2.uq;exact key true x h1 rfl e
 .obtain⟨sv,h1,h2⟩:=bq h hcv;obtain rfl:=h2.uq;exact key false y h1 rfl e
 grind
theorem Lg{o:Option Value}{r:RV}(e:ofA o=some r):∃v,o=some v/\fO w χ E s r (V v):=by
 unfold ofA at e;split at e<;>cases e
 .exact⟨_,rfl,_,rfl,rfl⟩
 .exact⟨_,rfl,_,rfl,rfl⟩
theorem ajf(h:bX X s E sy a w χ){op:UnOp}{t:TypeId}{x:Operand}{r:RV}(e:qUn op (ev s x)=some r):∃sv,dV bj sy ⟨d,.unOp op t x,ty,pos,af,g⟩=some sv/\fO w χ E s r sv:=by
 unfold qUn at e;split at e
 .rename_i hx;obtain⟨sv,h1,h2⟩:=bq h hx;obtain rfl:=h2.bool;cases e;exact⟨_,by unfold dV;simp only[h1],_,rfl,rfl⟩
 .rename_i hx;obtain⟨sv,h1,h2⟩:=bq h hx;obtain rfl:=h2.lit;cases e;exact⟨_,by unfold dV;simp only[h1],_,rfl,rfl⟩
 .rename_i hx;obtain⟨sv,h1,h2⟩:=bq h hx;obtain rfl:=h2.uq;cases e;exact⟨_,by unfold dV;simp only[h1],_,rfl,rfl⟩
 .rename_i hx;obtain⟨sv,h1,h2⟩:=bq h hx;obtain rfl:=h2.int;rename_i k x;have hk:(bif k.signed then -1 else k.max)=(if k.signed then -1 else k.max):=by cases k.signed<;>rfl
  rw[←hk]at e;obtain⟨v,e1,e2⟩:=Lg (w:=w) (χ:=χ) (E:=E) (s:=s) e;cases e1;exact⟨_,by unfold dV;simp only[h1],e2⟩
 .rename_i hx;obtain⟨sv,h1,h2⟩:=bq h hx;obtain rfl:=h2.int;cases e;exact⟨_,by unfold dV;simp only[h1],_,rfl,rfl⟩
 grind
theorem GO{t:Nat}(e:tL (aa bj t)=true):∃a b c d',aa bj t=some ⟨a,b,c,d',.bool⟩:=by
 unfold tL at e;grind
theorem KD{op:BinOp}{k:IntKind}{a b:Int}(h:XC op=false):ym op k a b=none:=by
 cases op<;>first|rfl|cases h
theorem Zh(h:bX X s E sy a w χ){cy:Bool}{op:BinOp}{t yt:TypeId}{x y:Operand}{k k':IntKind}{p q:Int}{r:Qr}(hx:ev s x=some (.s (.int k p)))(hy:ev s y=some (.s (.int k' q)))(e:qInt cy op k k' p q=some r)(hQ:isQ op=false)(hp:∀z,r.pre=some z->z):
  (∃sv,dV bj sy ⟨d,.binOp op t x y yt,ty,pos,af,g⟩=some sv/\fO w χ E s r.v sv)/\r.F5=[]:=by
 obtain⟨sx,h1,h2⟩:=bq h hx;obtain⟨sy',h3,h4⟩:=bq h hy;obtain rfl:=h2.int;obtain rfl:=h4.int;unfold qInt at e;cases hs:XC op with
 |true =>
  rw[hs]at e;cases hc:cy with
  |true=>rw[hc]at e;obtain⟨e1,_,e3⟩:=fL e;obtain⟨v,e4,e5⟩:=Lg (w:=w) (χ:=χ) (E:=E) (s:=s) e1;exact⟨⟨V v,by unfold dV;simp only[h1,h3,e4],e5⟩,e3⟩
  |false =>
   rw[hc]at e;cases hq:Sm op k p q with
   |none=>rw[hq]at e;cases e
   |some v =>
    rw[hq]at e;cases e;have h0:(0:Int)<=q:=hp _ rfl;obtain⟨m,rfl⟩:=oF h0;refine⟨?_,rfl⟩;cases op<;>first|cases hs|skip
    .cases hq;exact⟨_,by unfold dV;simp only[h1,h3];rfl,_,rfl,rfl⟩
    .cases hq;exact⟨_,by unfold dV;simp only[h1,h3];rfl,_,rfl,rfl⟩
 |false =>
  rw[hs]at e;cases hk:sameKind k k' with
  |false=>rw[hk]at e;cases e
  |true=>rw[hk,hQ]at e;obtain⟨e1,_,e3⟩:=fL e;obtain⟨v,e4,e5⟩:=Lg (w:=w) (χ:=χ) (E:=E) (s:=s) e1;exact⟨⟨V v,by unfold dV;simp only[h1,h3,KD hs,hk,e4];rfl,e5⟩,e3⟩
theorem aeM(h:bX X s E sy a w χ){x y:Operand}{qo:Array TypeId}{r:RV}(e:aa1 (ev s x) (ev s y)=some r):∃sv,dV bj sy ⟨d,.call ⟨.builtin .min,#[x,y],qo⟩,ty,pos,af,g⟩=some sv/\fO w χ E s r sv:=by
 unfold aa1 at e;split at e
 .rename_i hx hy;obtain⟨sv,h1,h2⟩:=bq h hx;obtain⟨su,h3,h4⟩:=bq h hy;obtain rfl:=h2.int;obtain rfl:=h4.int;cases e;exact⟨_,by unfold dV;simp only[h1,h3],_,rfl,rfl⟩
 grind
theorem aeN(h:bX X s E sy a w χ){x y:Operand}{qo:Array TypeId}{r:RV}(e:aa2 (ev s x) (ev s y)=some r):∃sv,dV bj sy ⟨d,.call ⟨.builtin .max,#[x,y],qo⟩,ty,pos,af,g⟩=some sv/\fO w χ E s r sv:=by
 unfold aa2 at e;split at e
 .rename_i hx hy;obtain⟨sv,h1,h2⟩:=bq h hx;obtain⟨su,h3,h4⟩:=bq h hy;obtain rfl:=h2.int;obtain rfl:=h4.int;cases e;exact⟨_,by unfold dV;simp only[h1,h3],_,rfl,rfl⟩
 grind
theorem aeK(h:bX X s E sy a w χ){op:BinOp}{t yt:TypeId}{x y:Operand}{u v:TV}{r:RV}(hx:ev s x=some (.s u))(hy:ev s y=some (.s v))(e:aaZ (tL (aa bj t)) op (Go.Te.ic u) (Go.Te.ic v)=some r):
  ∃sv,dV bj sy ⟨d,.binOp op t x y yt,ty,pos,af,g⟩=some sv/\fO w χ E s r sv:=by
 obtain⟨sx,h1,h2⟩:=bq h hx;obtain⟨su,h3,h4⟩:=bq h hy;unfold aaZ at e;split at e
 .rename_i p q hp hq;obtain rfl:=fO.ic hp h2;obtain rfl:=fO.ic hq h4;cases hb:tL (aa bj t)with
  |false=>rw[hb]at e;cases e
  |true =>
   rw[hb]at e;obtain⟨a1,a2,a3,a4,hl⟩:=GO hb;unfold Zi at e;split at e<;>cases e
   .exact⟨_,by unfold dV;simp only[h1,h3,hl],_,rfl,rfl⟩
   .exact⟨_,by unfold dV;simp only[h1,h3,hl],_,rfl,rfl⟩
 .cases e
theorem YG{id:Nat}{cs:List TV}(e:bx s id=some cs):∃t,aa s.boxes id=some (t,cs):=by
 unfold bx at e;grind
def CV(w:World)(χ:Nat->Nat)(E:En)(s:TS)(x:TV)(v:Value):Prop:=TR w χ E s x (V v)/\v.oneCell'=true
theorem rV{x:TV}{sv:SV}(p:plainV s x=true)(h:TR w χ E s x sv):∃v,sv=V v/\CV w χ E s x v:=by
 cases x with
 |o k=>obtain⟨ow,how⟩:=bR.1 p;cases TR.own (w:=w) (χ:=χ) h how;exact⟨_,rfl,h,rfl⟩
 |m k=>obtain⟨mp,hmp⟩:=bR.1 p;cases TR.map (w:=w) (χ:=χ) h hmp;exact⟨_,rfl,h,rfl⟩
 |j=>cases p
 |p _ _=>cases p
 |f _ _ _=>cases p
 |a _ _ _=>cases p
 |e _ _ _=>cases p
 |md _ _=>cases p
 |_=>obtain⟨v,rfl,h2⟩:=h;exact⟨v,rfl,⟨v,rfl,h2⟩,h2.one⟩
theorem Cl:∀{l:List TV} {ss:List SV},l.all (plainV s)=true->FL (TR w χ E s) l ss->∃vs,plain ss=some vs/\FL (CV w χ E s) l vs
 |[],[],_,_=>⟨[],rfl,trivial⟩
 |[],_::_,_,h=>h.elim
 |_::_,[],_,h=>h.elim
 |x::l,sv::ss,hp,⟨h1,h2⟩=>by rw[cd,ak]at hp;obtain⟨vs,e1,e2⟩:=Cl hp.2 h2;obtain⟨v,rfl,hv⟩:=rV hp.1 h1;exact⟨v::vs,by unfold plain;simp only[e1],hv,e2⟩
theorem ER{v:Value}(h:v.oneCell'=true):v.cells.toList=[v]:=by cases v<;>first|rfl|cases h
theorem EG{x:RV}{sv:SV}(p:plainR s x=true)(h:fO w χ E s x sv):∃v,sv=V v/\FL (CV w χ E s) (aW x) v.cells.toList:=by
 cases x with
 |s x=>obtain⟨v,rfl,h1,h2⟩:=rV p h;exact⟨v,rfl,by rw[ER h2];exact⟨⟨h1,h2⟩,trivial⟩⟩
 |g l =>
  obtain⟨vs,rfl,h2⟩:=h;exact⟨_,rfl,by
   exact h2⟩
 |t l=>cases p
theorem Ir{l:List TV}{r:RV}(e:Is s true l=some r):l.all (plainV s)=true/\r=.g l:=by
 unfold Is at e;cases hp:l.all (plainV s)with
 |true=>rw[hp]at e;cases e;exact⟨rfl,rfl⟩
 |false=>rw[hp]at e;cases e
theorem Iq{l:List TV}{r:RV}(e:Is s false l=some r):∃x,l=[x]/\r=.s x:=by
 unfold Is at e;grind
theorem Ap(h:bX X s E sy a w χ){id:Nat}{cs:List TV}(e:bx s id=some cs):∃t ss,aa sy.boxes id=some (t,ss)/\FL (TR w χ E s) cs ss:=by
 obtain⟨t,hl⟩:=YG e;obtain⟨ss,h1,h2⟩:=h.boxes id t cs hl;grind
theorem uJ{t n:Nat}{agg:Bool}(e:Oy T t=some (n,agg)):∃ty,aa T.bj t=some ty/\ty.size=n/\ty.agg=agg:=by
 unfold Oy at e;grind
theorem WJ(h:bX X s E sy a w χ){t:TypeId}{x:Operand}{id off n:Nat}{agg:Bool}{cs:List TV}{r:RV}(hx:ev s x=some (.s (.p id off)))(ht:Oy T t=some (n,agg))(hb:bx s id=some cs)(hl:off+n<=cs.length)(e:Is s agg ((cs.drop off).take n)=some r):
  ∃sv,dV T.bj sy ⟨d,.load t x,ty,pos,af,g⟩=some sv/\fO w χ E s r sv:=by
 obtain⟨sv,h1,h2⟩:=bq h hx;obtain rfl:sv=Pt id off:=h2;obtain⟨t',ss,h3,h4⟩:=Ap h hb;obtain⟨y,hy,hn,ha⟩:=uJ ht;subst hn ha;have h5:=(h4.drop off).take y.size;cases QR:y.agg with
 |true=>rw[QR]at e;obtain⟨hp,rfl⟩:=Ir e;obtain⟨vs,e1,e2⟩:=Cl hp h5;refine⟨V (.agg vs.toArray),?_,vs,rfl,e2⟩;unfold dV;have hle:Nat.ble (off+y.size) ss.length=true:=fq (h4.len▸hl);grind
 |false =>
  rw[QR]at e;obtain⟨z,hz,rfl⟩:=Iq e;have hg:cs[off]?=some z:=by have:=b8 (λl=>l[0]?) hz;grind
  obtain⟨sv,g1,g2⟩:=h4.get off z hg;exact⟨sv,by unfold dV;simp only[h1,hy,h3,QR,eQ,g1],g2⟩
theorem xK{t f off n:Nat}{agg:Bool}(e:AN T t f=some (off,n,agg)):∃a1 a2 a3 a4 fs ft y,aa T.bj t=some ⟨a1,a2,a3,a4,.struct fs⟩/\fs[f]?=some (off,n,ft)/\aa T.bj ft=some y/\y.agg=agg/\y.size=n:=by
 unfold AN at e;split at e
 .rename_i fs hl;split at e
  .rename_i hf;split at e
   .rename_i y hy;grind[Nat.eq_of_beq_eq_true]
   grind
  grind
 grind
theorem Si(h:bX X s E sy a w χ){t f:TypeId}{x:Operand}{id off o n:Nat}{agg:Bool}(hx:ev s x=some (.s (.p id off)))(hf:AN T t f=some (o,n,agg))(hn:Nat.ble 1 n=true):
  ∃sv,dV T.bj sy ⟨d,.fieldAddr t x f,ty,pos,af,g⟩=some sv/\fO w χ E s (.s (.p id (off+o))) sv:=by
 obtain⟨sv,h1,h2⟩:=bq h hx;obtain rfl:sv=Pt id off:=h2;obtain⟨a1,a2,a3,a4,fs,ft,y,hl,hf,_,_,_⟩:=xK hf;exact⟨_,by unfold dV;simp only[h1,hl,hf,hn,cG],rfl⟩
theorem ry(h:bX X s E sy a w χ):∀{l:List Operand} {vs:List RV},Te.j7 s l=some vs->∃ss,Sv.j7 sy l=some ss/\FL (fO w χ E s) vs ss
 |[],_,e=>by cases e;exact⟨[],rfl,trivial⟩
 |x::l,vs,e=>by obtain⟨y,r,h1,h2,rfl⟩:=fI e;obtain⟨sv,h3,h4⟩:=bq h h1;obtain⟨ss,h5,h6⟩:=ry h h2;exact⟨sv::ss,by unfold Sv.j7;simp only[h3,h5],h4,h6⟩
theorem Cp(h:bX X s E sy a w χ):∀{l:List Operand} {vs:List RV},Te.j7 s l=some vs->vs.all (plainR s)=true ->
  ∃us,plain (l.map (λq=>(Sv.cu sy q).getD (Pt 0 0)))=some us/\FL (λ(x:RV)(v:Value)=>FL (CV w χ E s) (aW x) v.cells.toList) vs us
 |[],_,e,_=>by cases e;exact⟨[],rfl,trivial⟩
 |x::l,vs,e,p=>by obtain⟨y,r,h1,h2,rfl⟩:=fI e;rw[cd,ak]at p;obtain⟨sv,h3,h4⟩:=bq h h1;obtain⟨us,h5,h6⟩:=Cp h h2 p.2;obtain⟨v,rfl,h7⟩:=EG p.1 h4;exact⟨v::us,by rw[ba,h3];unfold plain;simp only[Option.getD_some,h5],h7,h6⟩
theorem Ha(place:Nat->Option (Nat×Nat)):∀{is:List Nat} {vs:List RV} {us:List Value} {cs r:List TV} {z:List Value},FL (λ(x:RV)(v:Value)=>FL (CV w χ E s) (aW x) v.cells.toList) vs us->FL (CV w χ E s) cs z->JB place (is.zip vs) cs=some r->∃r',qY place (is.zip us) z=some r'/\FL (CV w χ E s) r r'
 |[],_,_,_,_,z,_,hz,e=>by cases e;exact⟨z,rfl,hz⟩
 |_::_,[],[],_,_,z,_,hz,e=>by cases e;exact⟨z,rfl,hz⟩
 |_::_,[],_::_,_,_,_,h,_,_=>h.elim
 |_::_,_::_,[],_,_,_,h,_,_=>h.elim
 |i::is,x::vs,v::us,cs,r,z,h,hz,e=>by
  rw[List.zip_cons_cons]at e ⊢; unfold JB at e;unfold qY;split at e
  .rename_i off size hp;simp only[hp];have hc:v.cells.size=(aW x).length:=by rw[h.1.len];simp
   cases hb:Nat.beq (aW x).length size&&Nat.ble (off+size) cs.length with
   |false=>rw[hb]at e;cases e
   |true =>
    rw[hb]at e;have hb2:(Nat.beq v.cells.size size&&Nat.ble (off+size) z.length)=true:=by rw[hc,←hz.len];exact hb
    rw[hb2];exact Ha place h.2 (((hz.take off).app h.1).app (hz.drop (off+size))) e
  grind
theorem NH{o:Option (List TV)}{r:RV}(e:gR o=some r):∃l,o=some l/\r=.g l:=by
 unfold gR at e;grind
theorem WN(h:bX X s E sy a w χ){t:TypeId}{ps:Array (Nat×Operand)}{r:RV}(e:KL s (aa T.bj t) (ps.toList.map (·.1)) (Te.j7 s (ps.toList.map (·.2)))=some r):
  ∃sv,dV T.bj sy ⟨d,.build t ps,ty,pos,af,g⟩=some sv/\fO w χ E s r sv:=by
 have hm:(ps.toList.map (·.2)).map (λq=>(Sv.cu sy q).getD (Pt 0 0))=ps.toList.map (λq=>(Sv.cu sy q.2).getD (Pt 0 0)):=by rw[kV];rfl
 unfold KL at e;split at e
 .rename_i a1 a2 zero a3 fs vs hl hv;cases hp:vs.all (plainR s)with
  |false=>rw[hp]at e;cases e
  |true =>
   rw[hp]at e;split at e
   .rename_i z hz;obtain⟨l,e2,rfl⟩:=NH e;obtain⟨us,h1,h2⟩:=Cp h hv hp;rw[hm]at h1;obtain⟨r',h3,h4⟩:=Ha _ h2 (ue (yE hz)) e2;exact⟨_,by unfold dV;simp only[hl,h1,h3],r',rfl,h4⟩
   .cases e
 .rename_i a1 a2 zero a3 n' e' es vs hl hv;cases hp:vs.all (plainR s)with
  |false=>rw[hp]at e;cases e
  |true =>
   rw[hp]at e;split at e
   .rename_i z hz;obtain⟨l,e2,rfl⟩:=NH e;obtain⟨us,h1,h2⟩:=Cp h hv hp;rw[hm]at h1;obtain⟨r',h3,h4⟩:=Ha _ h2 (ue (yE hz)) e2;exact⟨_,by unfold dV;simp only[hl,h1,h3],r',rfl,h4⟩
   grind
 .cases e
theorem JZ{t n es:Nat}(e:arr T t=some (n,es)):∃a1 a2 a3 a4 e',aa T.bj t=some ⟨a1,a2,a3,a4,.array n e' es⟩:=by
 unfold arr at e;grind
theorem aaY(h:bX X s E sy a w χ){t:TypeId}{x y:Operand}{id off i n es:Nat}{k:IntKind}(hx:ev s x=some (.s (.p id off)))(hy:ev s y=some (.s (.int k (.ofNat i))))(ht:arr T t=some (n,es))(hi:Nat.blt i n=true):
  ∃sv,dV T.bj sy ⟨d,.indexAddr t x y,ty,pos,af,g⟩=some sv/\fO w χ E s (.s (.p id (off+i*es))) sv:=by
 obtain⟨sv,h1,h2⟩:=bq h hx;obtain rfl:sv=Pt id off:=h2;obtain⟨su,h3,h4⟩:=bq h hy;obtain rfl:=h4.int;obtain⟨a1,a2,a3,a4,e',hl⟩:=JZ ht;exact⟨_,by unfold dV;simp only[h1,h3,hl,hi,cG],rfl⟩
theorem NR{l:List Value}{a n:Nat}:(l.toArray.extract a (a+n))=((l.drop a).take n).toArray:=by simp[List.extract_toArray,List.extract_eq_drop_take]
theorem WM(h:bX X s E sy a w χ){t f:TypeId}{x:Operand}{r:RV}(e:KK s (ev s x) (AN T t f)=some r):
  ∃sv,dV T.bj sy ⟨d,.field t x f,ty,pos,af,g⟩=some sv/\fO w χ E s r sv:=by
 unfold KK at e;split at e
 .rename_i l off n agg hx hf;obtain⟨sv,h1,vs,rfl,h2⟩:=bq h hx;obtain⟨a1,a2,a3,a4,fs,ft,y,hl,hff,hy,rfl,hs⟩:=xK hf;cases hle:Nat.ble (off+n) l.length with
  |false=>rw[hle]at e;cases e
  |true =>
   rw[hle]at e;simp only[cG]at e;have h3:=(h2.drop off).take n;cases ha:y.agg with
   |true=>rw[ha]at e;obtain⟨hp,rfl⟩:=Ir e;refine⟨V (.agg ((vs.drop off).take n).toArray),?_,_,rfl,h3⟩;unfold dV;simp_all
   |false =>
    rw[ha]at e;obtain⟨z,hz,rfl⟩:=Iq e;have hg:l[off]?=some z:=by have:=b8 (λl=>l[0]?) hz;grind
    obtain⟨v,g1,g2⟩:=h2.get off z hg;exact⟨V v,by unfold dV;simp only[h1,hl,hff,hy,ha,eQ,g1],g2.1⟩
 .cases e
end
end
end Go.Te
namespace Go.Te
open Go Go.Sv
section
section
variable{P:Program}{pre ops:Array Oper}{Q Q':Exit->Act->World->Prop}{m:Nat}
structure Two (pre ops:Array Oper) (m:Nat):Prop where
 le:m<=ops.size
 YL:∀j,j<m->pre[j]?=ops[j]?
 at2:∀j,m<=j->pre[j]?=none
 back:∀(j:Nat) o,ops[j]?=some o->∀e∈o.after,Region.binds .any e=true->e.on<j
 late:∀(j:Nat) o,ops[j]?=some o->m<=j->∀k,k<j->∃e∈o.after,Region.binds .any e=true/\e.on=k
 grd:∀(j:Nat) o g b,j<m->ops[j]?=some o->o.guard=some (g,b)->g<m
theorem tR{li:Array Bool}{j:Nat}(h:j<li.size)(b c:Bool):li.getD j b=li.getD j c:=by simp[Array.getD,h]
theorem vu{li:Array Bool}{j i:Nat}(h:j<li.size)(b:Bool):(li.setIfInBounds i true).getD j b=if i=j then true else li.getD j b:=by
 simp[Array.getD,h,Array.getElem_setIfInBounds]
theorem ID(H:Two pre ops m):∀(r q fuel:Nat)(li:Array Bool)(a:Act)(w:World),q+r=ops.size->m<=q->r<=fuel->li.size=ops.size->(∀j,j<q->li.getD j true=true)->(∀j,q<=j->j<ops.size->li.getD j true=false)->wpList P ops Q (ops.toList.drop q) a w->wpAny P .any ops Q fuel li a w
 |0,q,fuel,li,a,w,hq,hm,hf,hs,h1,h2,h=>by
  refine wpAny_done ?_ ?_ fuel
  .refine List.eq_nil_iff_forall_not_mem.2 λi hi=>?_;obtain⟨g1,o,g2,_⟩:=mem_ready.1 hi;have:=(gw.1 g2).1;rw[h1 i (by omega)]at g1;cases g1
  .rw[dT (by rw[cm];omega)]at h;exact h
 |r+1,q,fuel,li,a,w,hq,hm,hf,hs,h1,h2,h=>by
  obtain⟨fuel,rfl⟩:∃f,fuel=f+1:=⟨fuel-1,by omega⟩
  have eB:q<ops.size:=by omega
  have ho:ops[q]?=some ops[q]:=sK eB;have hin:q∈Region.ready .any ops li:=mem_ready.2 ⟨h2 q (aK _) eB,_,ho,λe he hb=>by
   have:=H.back q _ ho e he hb;rw[tR (by omega) false true];exact h1 _ this⟩
  refine⟨λe=>(by rw[e]at hin;cases hin),λi hi=>?_⟩;obtain⟨g1,o,g2,g3⟩:=mem_ready.1 hi;have hi1:q<=i:=Nat.le_of_not_lt λhl=>by rw[h1 i hl]at g1;cases g1
  have hi2:i<=q:=Nat.le_of_not_lt λhl=>by obtain⟨e,e1,e2,e3⟩:=H.late i o g2 (by omega) q hl;have:=g3 e e1 e2;rw[e3,tR (by omega) false true,h2 q (aK _) eB]at this;cases this
  obtain rfl:i=q:=by omega
  have hd:ops.toList.drop i=ops[i]::ops.toList.drop (i+1):=by rw[sR (by rw[cm];omega)];rfl
  rw[hd]at h;have next:∀a w,wpList P ops Q (ops.toList.drop (i+1)) a w->wpAny P .any ops Q fuel (li.setIfInBounds i true) a w:=λa w h=>ID H r (i+1) fuel _ a w (by omega) (by omega) (by omega) (by simpa using hs) (λj hj=>by
   rw[vu (by omega)];split
   .rfl
   .exact h1 j (by omega)) (λj hj hl=>by
   rw[vu (by omega),if_neg (by omega)];exact h2 j (by omega) hl) h
  unfold wpOp;rw[ho];dsimp only;unfold wpList at h;split
  .rename_i hw;rw[if_pos hw]at h;exact h.imp (Oper.wp_mono next) id
  .rename_i hw;rw[if_neg hw]at h;exact next _ _ h
theorem least{p:Nat->Prop}:∀(n:Nat),(∀j,j<n->p j)∨∃j,j<n/\¬p j/\∀k,k<j->p k
 |0=>.inl λj h=>absurd h (pD j)
 |n+1=>by
  rcases least (p:=p) n with h|⟨j,h1,h2,h3⟩
  .by_cases hn:p n
   .exact .inl λj hj=>(Nat.lt_or_ge j n).elim (h j) λhg=>(show n=j by omega)▸hn
   .exact .inr ⟨n,Nat.lt_succ_self n,hn,h⟩
  .exact .inr ⟨j,Nat.lt_succ_of_lt h1,h2,h3⟩
theorem Wf{o:Oper}{a:Act}{K:Act->World->Prop}(hQ:∀c a w,Q' (.panic c) a w->Q (.panic c) a w)(hL:LetsOut Q'->LetsOut Q){r:Go.Result Next}(h:o.upon P a K Q' r):o.upon P a K Q r:=by
 cases r with
 |ok n w' =>
  cases n<;>simp only[Oper.upon]at h ⊢
  case enter f args =>
   refine Calls.mono h λe BH he=>?_;cases e with
   |returned u=>exact he
   |panicked c=>exact hQ _ _ _ he
   |outgrown=>exact hL he
  all_goals exact h
 |halt x w' =>
  cases x<;>simp only[Oper.upon]at h ⊢
  case panic u=>exact hQ _ _ _ h
theorem Wh(H:Two pre ops m)(hQ:∀c a w,Q' (.panic c) a w->Q (.panic c) a w)(hL:LetsOut Q'->LetsOut Q)(hN:∀a w,Q' .normal a w->wpList P ops Q (ops.toList.drop m) a w):
  ∀(fuel:Nat)(li' li:Array Bool)(a:Act)(w:World),li'.size=m->li.size=ops.size->(∀j,j<m->li'.getD j true=li.getD j true)->(∀j,m<=j->j<ops.size->li.getD j true=false)->wpAny P .any pre Q' fuel li' a w->wpAny P .any ops Q (fuel+(ops.size-m)) li a w:=by
 have full:∀(li' li:Array Bool)(a:Act)(w:World)(f:Nat),ops.size-m<=f->li'.size=m->li.size=ops.size->(∀j,j<m->li'.getD j true=li.getD j true)->(∀j,m<=j->j<ops.size->li.getD j true=false)->(∀j,j<m->li'.getD j true=true)->Q' .normal a w->wpAny P .any ops Q f li a w:=λli' li a w f hf s1 s2 e1 e2 z7 h=>ID H (ops.size-m) m f li a w (by have:=H.le;omega) (aK _) hf s2 (λj hj=>(e1 j hj).symm.trans (z7 j hj)) e2 (hN a w h)
 have rdy:∀(li' li:Array Bool) {j:Nat},li'.size=m->li.size=ops.size->(∀j,j<m->li'.getD j true=li.getD j true)->j<m->li'.getD j true=false->(∀k,k<j->li'.getD k true=true)->j∈Region.ready .any pre li':=λli' li j s1 s2 e1 hj h0 hk=>by have eB:j<ops.size:=dH hj H.le;have ho:ops[j]?=some ops[j]:=sK eB;refine mem_ready.2 ⟨h0,_,(H.YL j hj).trans ho,λe he hb=>?_⟩;have:=H.back j _ ho e he hb;rw[tR (by omega) false true];exact hk _ this
 have low:∀(li' li:Array Bool) {i:Nat},li'.size=m->li.size=ops.size->(∀j,j<m->li'.getD j true=li.getD j true)->(∃j,j<m/\li'.getD j true=false)->i∈Region.ready .any ops li->i<m/\i∈Region.ready .any pre li':=λli' li i s1 s2 e1 ⟨j,hj,h0⟩ hi=>by
  obtain⟨g1,o,g2,g3⟩:=mem_ready.1 hi;have him:i<m:=Nat.lt_of_not_le λhl=>by obtain⟨e,Fm,e2,e3⟩:=H.late i o g2 hl j (by omega);have:=g3 e Fm e2;have hle:=H.le;rw[e3,tR (by omega) false true,←e1 j hj,h0]at this;cases this
  refine⟨him,mem_ready.2 ⟨(e1 i him).trans g1,o,(H.YL i him).trans g2,λe he hb=>?_⟩⟩;have eB:=H.back i o g2 e he hb;have hle:=H.le;rw[tR (by omega) false true,e1 _ (by omega),tR (by omega) true false];exact g3 e he hb
 intro fuel
 induction fuel with
 |zero =>
  intro li' li a w s1 s2 e1 e2 h;rcases least (p:=λj=>li'.getD j true=true) m with z7|⟨j,h1,h2,h3⟩
  .exact full li' li a w _ (by omega) s1 s2 e1 e2 z7 h.2
  .have:=rdy li' li s1 s2 e1 h1 (by simpa using h2) h3;rw[h.1]at this;cases this
 |succ fuel ih =>
  intro li' li a w s1 s2 e1 e2 h;rcases least (p:=λj=>li'.getD j true=true) m with z7|⟨j,h1,h2,h3⟩
  .refine full li' li a w _ (by omega) s1 s2 e1 e2 z7 (h.1 (List.eq_nil_iff_forall_not_mem.2 λi hi=>?_));obtain⟨g1,o,g2,_⟩:=mem_ready.1 hi;have:i<m:=Nat.lt_of_not_le λhl=>by rw[H.at2 i hl]at g2;cases g2
   rw[z7 i this]at g1;cases g1
  .have h2:li'.getD j true=false:=by simpa using h2
   have hr:=rdy li' li s1 s2 e1 h1 h2 h3;rw[show fuel+1+(ops.size-m)=(fuel+(ops.size-m))+1 by omega];refine⟨λe=>?_,λi hi=>?_⟩
   .have eB:j<ops.size:=dH h1 H.le;have ho:ops[j]?=some ops[j]:=sK eB;have:j∈Region.ready .any ops li:=mem_ready.2 ⟨(e1 j h1).symm.trans h2,_,ho,λe he hb=>by
     have:=H.back j _ ho e he hb;rw[tR (by omega) false true,←e1 _ (by omega)];exact h3 _ this⟩
    rw[e]at this;cases this
   .obtain⟨him,lg⟩:=low li' li s1 s2 e1 ⟨j,h1,h2⟩ hi;have h4:=h.2 i lg;have hle:=H.le;have next:∀a w,wpAny P .any pre Q' fuel (li'.setIfInBounds i true) a w->wpAny P .any ops Q (fuel+(ops.size-m)) (li.setIfInBounds i true) a w:=λa w h=>ih _ _ a w (by simpa using s1) (by simpa using s2) (λj hj=>by rw[vu (by omega),vu (by omega),e1 j hj]) (λj hj hl=>by rw[vu (by omega),if_neg (by omega)];exact e2 j hj hl) h
    have eB:i<ops.size:=dH him H.le;have ho:ops[i]?=some ops[i]:=sK eB;have hp:=(H.YL i him).trans ho;unfold wpOp at h4 ⊢; rw[hp]at h4;rw[ho];dsimp only at h4 ⊢; have hw:Region.wanted ops[i] (yielded pre a.tmps)=Region.wanted ops[i] (yielded ops a.tmps):=by
     unfold Region.wanted;split
     .rfl
     .rename_i g b hg;unfold yielded;rw[H.YL g (H.grd i _ g b him ho hg)]
    rw[hw]at h4;split
    .rename_i hwt;rw[if_pos hwt]at h4;exact h4.imp (λh=>Oper.wp_mono next (Wf hQ hL h)) λh=>⟨h.1,hL h.2⟩
    .rename_i hwt;rw[if_neg hwt]at h4;exact next _ _ h4
theorem aao{ops:Array Oper}{m:Nat}(h:Rf ops m=true):Two (ops.toList.take m).toArray ops m:=by
 unfold Rf at h;rw[ak]at h;have hm:=aB h.1;have one:∀(j:Nat) o,ops[j]?=some o->(o.after.toList.all (λe=>!Region.binds .any e||Nat.blt e.on j)&&(match o.guard with|some (g,_)=>Nat.blt g j|none=>true)&&(Nat.blt j m||lateAt o j))=true:=λj o ho=>by have eB:j<ops.size:=(gw.1 ho).1;have:=aO.1 h.2 j (bM.2 eB);rw[iD,ho]at this;exact this
 simp only[ak]at one;refine⟨hm,λj hj=>?_,λj hj=>?_,λj o ho e he hb=>?_,λj o ho hj k hk=>?_,λj o g b hj ho hg=>?_⟩
 .rw[mP,bQ,if_pos hj,iD]
 .rw[mP,bQ,if_neg (by omega)]
 .have:=aO.1 (one j o ho).1.1 e (Array.mem_toList_iff.2 he);rw[hb]at this;exact aB this
 .have h1:=(one j o ho).2;rw[show Nat.blt j m=false from by
   cases hb:Nat.blt j m with
   |true=>exact absurd (aB hb) (by omega)
   |false=>rfl]at h1
  have h2:=aO.1 (show(List.range j).all (λk=>o.after.toList.any (λe=>Region.binds .any e&&Nat.beq e.on k))=true from h1) k (bM.2 hk);obtain⟨e,h3,h4⟩:=nM.1 h2;rw[ak]at h4;exact⟨e,Array.mem_toList_iff.1 h3,h4.1,aD h4.2⟩
 .have h1:=(one j o ho).1.2;rw[hg]at h1;exact Nat.lt_trans (aB h1) hj
end
end
noncomputable section
def B4(n:Nat)(s:TS)(d:Option Nat)(vs:List RV)(k:TS->Prop):Prop:=match vs with
 |[.s (.f f [] [.p id 0])]=>bif Nat.beq f n then(match bx s id with
  |some [.sl (.i .i64) l]=>∀q:List Int,newO s d 3 (.i .i64) q k
  |_=>Er 110)else Er 110
 |_=>Er 111
def B5(n:Nat)(s:TS)(d:Option Nat)(vs:List RV)(k:TS->Prop):Prop:=match vs with
 |[.s (.f f [] [.p id 0])]=>bif Nat.beq f n then(match bx s id with
  |some [.m j]=>match aa s.aZ j with
   |some ⟨_,l⟩=>(l.length<=10000000/\∀p∈l,zl .i64 p.1)/\∀q:List Int,(q.Pairwise (· < ·)/\∀x,x∈q↔(bB l x).isSome=true)->newO s d 3 (.i .i64) q k
   |none=>Er 112
  |_=>Er 113)else Er 113
 |_=>Er 114
def Gf(s:TS)(d:Option Nat)(vs:List RV)(k:TS->Prop):Prop:=match vs with
 |[.s (.o j)]=>match aa s.own j with
  |some ⟨3,.i .i64,l⟩=>∀q:List Int,newO (hU [j] s) d 3 (.i .i64) q k
  |_=>Er 115
 |_=>Er 116
end
end Go.Te
