/- Lemmas. Conditions: their own. -/
import Derived.Test.YtmgahplojkmcaaaGreatExQ
import Derived.Test.YtmgahplojkmcaaaGreatTe15
set_option linter.all false
namespace Go.Ex
open Go Go.Sv Go.Proofs.Y
noncomputable section
def Wj:oQ:=Mm [1,2,3,4,5,6,7,8,9,10,11,12,13,14,15,22,24,26,27,28,30,35,42,44,45,52,54,57,65,67,79,86,90,96,97,101,103,106,110,115,116,122,123,124,142,145,148,151,153,155,158,170,174,177,179,181,183,184,191,203,205,206,212,218,226,228,234,238,240,249,253,254,261,263,264,280,283,286,289,292,294,296,308,314,320,333,335,337,339,341,343,352,361,372,376,380,392,394,397,399,403,405,418,421,423,425,428,444,455,458]
def ofL{α:Type}(l:List (Nat×α)):Tr α:=l.foldr (λq t=>set 12 t q.1 (some q.2)) .e
def HB:Tr sX:=ofL Wj
def Zv:List (Nat×Nat×Nat×Value):=[(122,(3,42,.slice none 0 0)),(170,(3,3,.int .i64 0)),(314,(3,86,.agg #[.int .i64 0,.int .i64 0,.int .i64 0,.int .i64 0,.int .i64 0])),(341,(3,392,.pointer none)),(421,(425,3,.int .i64 0))]
def DW:Tr (Nat×Nat×Value):=ofL Zv
def HG:oQ:=Wj.filter (λq=>[3,4,5,234,308,110,425].any (Nat.beq q.1))
def pl0:List (Nat×Bool):=[(15,true),(67,true),(177,true),(218,true),(280,true),(283,true),(286,true),(289,true),(372,true),(392,true),(397,true),(403,true)]
def Zj:Tr Bool:=ofL pl0
def BW:Nat:=425
def Pz:Nat:=287
def kaP:Option Bool->Bool
 |some _=>true
 |none=>false
def E9(m k:Nat):Bool:=Bool.rec (kaP (get Zj k)) (Nat.beq k BW) (Nat.beq m 0)
def K0:List (Value×V1×Nat):=[(.int .i64 0,.s (.v (.int .i64 1)),0),(.int .i64 4,.s (.v (.int .i64 1)),1),(.int .i64 8,.s (.v (.int .i64 1)),2),(.int .i64 12,.s (.v (.int .i64 1)),3),(.int .i64 16,.s (.v (.int .i64 1)),4),(.int .i64 20,.s (.v (.int .i64 1)),5)]
def KB:List S:=[.v (.int .i64 0),.v (.int .i64 4),.v (.int .i64 8),.v (.int .i64 12),.v (.int .i64 16),.v (.int .i64 20)]
def RN(x y:Value×V1×Nat):Bool:=sameVal x.1 y.1&&(sameV1 x.2.1 y.2.1&&Nat.beq x.2.2 y.2.2)
def hkS3(z:Z):Option Bk->Option Ld
 |some (.m es c)=>bif sameL RN es K0&&Nat.beq c 6 then some (some (.o (.s (.sl z.n 0 1 6)),new z (.c KB)))else none
 |_=>none
def agv(z:Z):Option Bk->Option Ld
 |some (.c [.m k])=>hkS3 z (get z.h k)
 |_=>none
def hkS1(z:Z):Option Bk->Option Ld
 |some (.f f [] [.s (.p j o)])=>bif Nat.beq f 419&&Nat.beq o 0 then agv z (get z.h j)else none
 |_=>none
def hkS(z:Z):List V1->Option Ld
 |[.s (.c i)]=>hkS1 z (get z.h i)
 |_=>none
def hN:List (Nat×Bk):=[(1199,.c [.sl 1177 0 1 1,.sl 1181 0 1 1,.sl 1185 0 1 1,.sl 1189 0 1 1,.sl 1193 0 1 1,.sl 1197 0 1 3]),(1177,.c [.v (.int .i64 1)]),(1181,.c [.v (.int .i64 3)]),(1185,.c [.v (.int .i64 3)]),(1189,.c [.v (.int .i64 4)]),(1193,.c [.v (.int .i64 2)]),(1197,.c [.v (.int .i64 (-1)),.v (.int .i64 (-2)),.v (.int .i64 (-3))])]
def hkC(z:Z):List V1->Option Ld
 |[x]=>bif sameV1 x (.g [.v (.int .i64 4),.sl 1199 0 1 6])&&Rv sameBk z.h hN then some (some (.t [.s (.v (.int .i64 0)),.s (.v (.int .i64 0))],z))else none
 |_=>none
def Ul(f:FuncId)(vs:List V1)(z:Z):Option Ld:=bif Nat.beq f 113 then hkS z vs else bif Nat.beq f 16 then hkC z vs else none
def wM(f:FuncId):Bool:=Nat.beq f Pz
def X9:Nat->List Func->Tr Func
 |_,[]=>.e
 |i,f::l=>set 12 (X9 (i+1) l) i (some f)
def Z0:Tr Func:=X9 0 Go.Proofs.Tryz.prog.funcs.toList
end
end Go.Ex
namespace Go.Ex
open Go Go.Sv
noncomputable section
def flat:Code->List Code
 |.seq a b=>flat a++flat b
 |c=>[c]
def ze:FuncId->List V1->Z->Ld:=FB Go.Proofs.Tryz.prog HB DW HG E9 Z0 wM Ul 100
def fY(nt:Nat):List Code->R->Z->Option (X×R×Z)
 |[],r,z=>some (.n,r,z)
 |c::l,r,z=>sqK (fY nt l) (j9 Go.Proofs.Tryz.prog HB DW HG E9 wM ze nt 10 none c r z)
def f5:List Code:=match get Z0 6 with
 |some fn=>(match fn.body with
  |some c=>flat c
  |none=>[])
 |none=>[]
def rA:List (Nat×AV):=[(0,.o (.s (.v (.bool false)))),(1,.o (.s (.p 875 0)))]
def hA:List (Nat×Bk):=[(875,.c [.v (.int .i64 5),.v (.int .i64 0),.v (.int .i64 0),.v (.slice none 0 0),.sl 684 0 4 1]),(684,.c [.v (.int .i64 1),.v (.int .i64 7),.v (.slice none 0 0),.sl 687 0 1 4]),(687,.c [.v (.int .i64 1),.v (.int .i64 2),.v (.int .i64 5),.v (.int .i64 6)])]
def nA:Nat:=876
def rB:List (Nat×AV):=[(0,.o (.s (.v (.bool false)))),(1,.o (.s (.p 875 0))),(2,.o (.s (.p 1205 0))),(3,.o (.s (.v (.int .i64 0)))),(4,.o (.s (.v (.int .i64 1)))),(5,.o (.s (.v (.int .i64 0))))]
def hB:List (Nat×Bk):=[(875,.c [.v (.int .i64 5),.v (.int .i64 0),.v (.int .i64 0),.v (.slice none 0 0),.sl 684 0 4 1]),(684,.c [.v (.int .i64 1),.v (.int .i64 7),.v (.slice none 0 0),.sl 687 0 1 4]),(687,.c [.v (.int .i64 1),.v (.int .i64 2),.v (.int .i64 5),.v (.int .i64 6)]),(1205,.c [.v (.int .i64 4),.sl 1199 0 1 6]),(1199,.c [.sl 1177 0 1 1,.sl 1181 0 1 1,.sl 1185 0 1 1,.sl 1189 0 1 1,.sl 1193 0 1 1,.sl 1197 0 1 3]),(1177,.c [.v (.int .i64 1)]),(1181,.c [.v (.int .i64 3)]),(1185,.c [.v (.int .i64 3)]),(1189,.c [.v (.int .i64 4)]),(1193,.c [.v (.int .i64 2)]),(1197,.c [.v (.int .i64 (-1)),.v (.int .i64 (-2)),.v (.int .i64 (-3))])]
def nB:Nat:=1375
def rC:List (Nat×AV):=[(0,.o (.s (.v (.bool false)))),(1,.o (.s (.p 875 0))),(2,.o (.s (.p 1205 0))),(3,.o (.s (.v (.int .i64 0)))),(4,.o (.s (.v (.int .i64 1)))),(5,.o (.s (.v (.int .i64 0)))),(8,.o (.s (.v (.int .i64 0)))),(9,.o (.s (.p 1693 0))),(10,.o (.s (.v (.int .i64 0)))),(11,.o (.s (.v (.int .i64 0)))),(12,.o (.s (.v (.int .i64 0))))]
def hC:List (Nat×Bk):=[(875,.c [.v (.int .i64 5),.v (.int .i64 0),.v (.int .i64 0),.v (.slice none 0 0),.sl 684 0 4 1]),(684,.c [.v (.int .i64 1),.v (.int .i64 7),.v (.slice none 0 0),.sl 687 0 1 4]),(687,.c [.v (.int .i64 1),.v (.int .i64 2),.v (.int .i64 5),.v (.int .i64 6)]),(1205,.c [.v (.int .i64 4),.sl 1199 0 1 6]),(1199,.c [.sl 1177 0 1 1,.sl 1181 0 1 1,.sl 1185 0 1 1,.sl 1189 0 1 1,.sl 1193 0 1 1,.sl 1197 0 1 3]),(1177,.c [.v (.int .i64 1)]),(1181,.c [.v (.int .i64 3)]),(1185,.c [.v (.int .i64 3)]),(1189,.c [.v (.int .i64 4)]),(1193,.c [.v (.int .i64 2)]),(1197,.c [.v (.int .i64 (-1)),.v (.int .i64 (-2)),.v (.int .i64 (-3))]),(1693,.c [.v (.int .i64 1),.v (.int .i64 1),.v (.int .i64 0),.sl 1628 0 4 1,.sl 1630 0 3 2]),(1628,.c [.v (.int .i64 0),.v (.int .i64 0),.v (.int .i64 0),.v (.int .i64 7)]),(1630,.c [.v (.int .i64 1),.v (.int .i64 1),.v (.int .i64 0),.v (.int .i64 2),.v (.int .i64 1),.v (.int .i64 6)])]
def nC:Nat:=1694
def rD:List (Nat×AV):=[(0,.o (.s (.v (.bool true))))]
def hD:List (Nat×Bk):=[]
def nD:Nat:=2203
end
end Go.Ex
