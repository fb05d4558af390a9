/- The tables of the evaluator, and what is live between the pieces of its run. Definitions. -/
import Derived.Test.YtobeanopikjkeaaGreatProg
import Derived.Test.YtobeanopikjkeaaGreatExQ
namespace Go.Ex
open Go Go.Sv
def HT:Tab:=[(1,⟨1,8,[.nilFunc],false,.other⟩),
 (2,⟨1,8,[.int .i64 0],false,.int .i64⟩),
 (3,⟨1,8,[.int .i64 0],false,.int .i64⟩),
 (4,⟨1,1,[.bool false],false,.bool⟩),
 (5,⟨1,1,[.int .u8 0],false,.int .u8⟩),
 (6,⟨1,1,[.int .u8 0],false,.int .u8⟩),
 (7,⟨4,24,[.int .i64 0,.int .i64 0,.bool false,.int .u8 0],true,.struct [(0,1,2),(1,1,3),(2,1,4),(3,1,6)]⟩),
 (8,⟨4,24,[.int .i64 0,.int .i64 0,.bool false,.int .u8 0],true,.struct [(0,1,2),(1,1,3),(2,1,4),(3,1,6)]⟩),
 (9,⟨1,16,[.string ⟨#[]⟩],false,.str⟩),
 (10,⟨1,16,[.string ⟨#[]⟩],false,.str⟩),
 (11,⟨1,16,[.string ⟨#[]⟩],false,.str⟩),
 (12,⟨1,8,[.int .u64 0],false,.int .u64⟩),
 (13,⟨2,24,[.string ⟨#[]⟩,.int .u64 0],true,.struct [(0,1,9),(1,1,12)]⟩),
 (14,⟨2,24,[.string ⟨#[]⟩,.int .u64 0],true,.struct [(0,1,9),(1,1,12)]⟩),
 (15,⟨1,8,[.pointer none],false,.other⟩),
 (22,⟨1,24,[.slice none 0 0],false,.slice 123⟩),
 (24,⟨4,48,[.int .i64 0,.int .i64 0,.int .i64 0,.slice none 0 0],true,.struct [(0,1,3),(1,1,3),(2,1,3),(3,1,22)]⟩),
 (25,⟨1,24,[.slice none 0 0],false,.slice 91⟩),
 (28,⟨1,24,[.slice none 0 0],false,.slice 79⟩),
 (30,⟨2,32,[.int .i64 0,.slice none 0 0],true,.struct [(0,1,3),(1,1,28)]⟩),
 (31,⟨1,8,[.int .i64 0],false,.int .i64⟩),
 (38,⟨1,24,[.slice none 0 0],false,.slice 4⟩),
 (41,⟨1,24,[.slice none 0 0],false,.slice 93⟩),
 (46,⟨1,24,[.slice none 0 0],false,.slice 106⟩),
 (48,⟨5,72,[.int .i64 0,.int .i64 0,.int .i64 0,.slice none 0 0,.slice none 0 0],true,.struct [(0,1,3),(1,1,3),(2,1,31),(3,1,41),(4,1,46)]⟩),
 (52,⟨1,24,[.slice none 0 0],false,.slice 116⟩),
 (54,⟨5,72,[.int .i64 0,.int .i64 0,.int .i64 0,.slice none 0 0,.slice none 0 0],true,.struct [(0,4,24),(4,1,52)]⟩),
 (61,⟨2,16,[.int .i64 0,.int .i64 0],true,.struct [(0,1,3),(1,1,3)]⟩),
 (67,⟨1,24,[.slice none 0 0],false,.slice 142⟩),
 (72,⟨1,8,[.nilFunc],false,.other⟩),
 (73,⟨1,8,[.nilFunc],false,.other⟩),
 (79,⟨1,24,[.slice none 0 0],false,.slice 3⟩),
 (81,⟨1,4,[.int .u32 0],false,.int .u32⟩),
 (91,⟨5,40,[.int .i64 0,.int .i64 0,.int .i64 0,.int .i64 0,.int .i64 0],true,.struct [(0,1,3),(1,1,3),(2,1,3),(3,1,3),(4,1,3)]⟩),
 (93,⟨2,16,[.int .i64 0,.int .i64 0],true,.struct [(0,1,3),(1,1,3)]⟩),
 (98,⟨3,24,[.int .i64 0,.int .i64 0,.int .i64 0],true,.struct [(0,1,3),(1,1,3),(2,1,3)]⟩),
 (100,⟨11,152,[.int .i64 0,.int .i64 0,.int .i64 0,.slice none 0 0,.slice none 0 0,.slice none 0 0,.int .i64 0,.slice none 0 0,.int .i64 0,.int .i64 0,.bool false],true,.struct [(0,5,54),(5,1,25),(6,2,30),(8,1,3),(9,1,31),(10,1,4)]⟩),
 (102,⟨1,8,[.pointer none],false,.other⟩),
 (106,⟨4,64,[.int .i64 0,.int .i64 0,.slice none 0 0,.slice none 0 0],true,.struct [(0,1,3),(1,1,3),(2,1,79),(3,1,79)]⟩),
 (108,⟨1,24,[.slice none 0 0],false,.slice 114⟩),
 (112,⟨1,8,[.nilFunc],false,.other⟩),
 (114,⟨1,24,[.slice none 0 0],false,.slice 119⟩),
 (116,⟨3,24,[.int .i64 0,.int .i64 0,.int .i64 0],true,.struct [(0,1,3),(1,1,3),(2,1,3)]⟩),
 (119,⟨3,32,[.int .i64 0,.int .i64 0,.string ⟨#[]⟩],true,.struct [(0,1,3),(1,1,3),(2,1,9)]⟩),
 (123,⟨4,32,[.int .i64 0,.int .i64 0,.int .i64 0,.int .i64 0],true,.struct [(0,1,3),(1,1,3),(2,1,3),(3,1,3)]⟩),
 (132,⟨1,24,[.slice none 0 0],false,.slice 28⟩),
 (137,⟨3,24,[.int .i64 0,.int .i64 0,.int .i64 0],true,.struct [(0,1,3),(1,1,3),(2,1,3)]⟩),
 (138,⟨1,8,[.nilFunc],false,.other⟩),
 (141,⟨1,8,[.nilFunc],false,.other⟩),
 (142,⟨2,16,[.int .i64 0,.int .i64 0],true,.array 2 3 1⟩),
 (147,⟨1,8,[.nilFunc],false,.other⟩),
 (148,⟨1,8,[.nilFunc],false,.other⟩),
 (150,⟨1,8,[.nilFunc],false,.other⟩),
 (152,⟨4,48,[.int .i64 0,.int .i64 0,.int .i64 0,.slice none 0 0],true,.struct [(0,4,24)]⟩),
 (155,⟨1,8,[.nilFunc],false,.other⟩),
 (157,⟨1,24,[.slice none 0 0],false,.slice 160⟩),
 (160,⟨2,8,[.int .u32 0,.int .u32 0],true,.struct [(0,1,81),(1,1,81)]⟩),
 (161,⟨1,8,[.nilFunc],false,.other⟩),
 (168,⟨1,8,[.nilFunc],false,.other⟩),
 (170,⟨1,8,[.nilFunc],false,.other⟩),
 (173,⟨4,64,[.int .i64 0,.int .i64 0,.slice none 0 0,.slice none 0 0],true,.struct [(0,1,3),(1,1,3),(2,1,38),(3,1,46)]⟩),
 (177,⟨1,8,[.map none],false,.other⟩),
 (179,⟨3,24,[.map none,.int .i64 0,.bool false],true,.struct [(0,1,177),(1,1,3),(2,1,4)]⟩),
 (192,⟨1,8,[.map none],false,.other⟩),
 (196,⟨1,8,[.nilFunc],false,.other⟩),
 (199,⟨1,8,[.pointer none],false,.other⟩),
 (205,⟨1,8,[.nilFunc],false,.other⟩),
 (207,⟨1,8,[.map none],false,.other⟩),
 (220,⟨1,8,[.int .u64 0],false,.int .u64⟩),
 (223,⟨1,8,[.pointer none],false,.other⟩),
 (229,⟨1,8,[.nilFunc],false,.other⟩),
 (231,⟨1,8,[.nilFunc],false,.other⟩),
 (232,⟨1,8,[.nilFunc],false,.other⟩),
 (235,⟨1,8,[.nilFunc],false,.other⟩),
 (242,⟨1,24,[.slice none 0 0],false,.slice 9⟩),
 (244,⟨1,8,[.nilFunc],false,.other⟩),
 (254,⟨4,32,[.int .i64 0,.int .i64 0,.int .i64 0,.int .i64 0],true,.array 4 3 1⟩),
 (255,⟨1,8,[.nilFunc],false,.other⟩),
 (261,⟨1,8,[.int .u64 0],false,.int .u64⟩),
 (264,⟨1,8,[.pointer none],false,.other⟩),
 (267,⟨1,8,[.pointer none],false,.other⟩),
 (270,⟨1,8,[.pointer none],false,.other⟩),
 (273,⟨1,8,[.pointer none],false,.other⟩),
 (276,⟨17,184,[.pointer none,.int .i64 0,.slice none 0 0,.pointer none,.pointer none,.pointer none,.slice none 0 0,.int .i64 0,.int .i64 0,.int .i64 0,.int .i64 0,.int .i64 0,.bool false,.int .i64 0,.bool false,.slice none 0 0,.map none],true,.struct [(0,1,264),(1,2,30),(3,1,270),(4,1,273),(5,1,267),(6,1,38),(7,1,3),(8,1,3),(9,1,3),(10,1,3),(11,1,3),(12,1,4),(13,1,3),(14,1,4),(15,1,46),(16,1,192)]⟩),
 (278,⟨1,8,[.nilFunc],false,.other⟩),
 (280,⟨1,8,[.nilFunc],false,.other⟩),
 (300,⟨1,8,[.int .i64 0],false,.int .i64⟩),
 (302,⟨1,24,[.slice none 0 0],false,.slice 373⟩),
 (304,⟨4,80,[.slice none 0 0,.slice none 0 0,.slice none 0 0,.bool false],true,.struct [(0,1,302),(1,1,79),(2,1,79),(3,1,4)]⟩),
 (306,⟨3,72,[.slice none 0 0,.slice none 0 0,.slice none 0 0],true,.struct [(0,1,79),(1,1,79),(2,1,79)]⟩),
 (308,⟨2,32,[.slice none 0 0,.map none],true,.struct [(0,1,79),(1,1,192)]⟩),
 (310,⟨1,8,[.map none],false,.other⟩),
 (312,⟨7,72,[.pointer none,.pointer none,.map none,.map none,.map none,.int .i64 0,.slice none 0 0],true,.struct [(0,1,270),(1,1,264),(2,1,310),(3,1,177),(4,1,192),(5,1,3),(6,1,79)]⟩),
 (341,⟨1,8,[.pointer none],false,.other⟩),
 (344,⟨1,8,[.nilFunc],false,.other⟩),
 (347,⟨1,8,[.pointer none],false,.other⟩),
 (349,⟨3,40,[.slice none 0 0,.int .i64 0,.int .i64 0],true,.struct [(0,1,79),(1,2,142)]⟩),
 (352,⟨1,8,[.pointer none],false,.other⟩),
 (354,⟨5,56,[.pointer none,.pointer none,.map none,.slice none 0 0,.int .i64 0],true,.struct [(0,1,270),(1,1,264),(2,1,192),(3,1,79),(4,1,3)]⟩),
 (358,⟨1,8,[.pointer none],false,.other⟩),
 (360,⟨5,40,[.pointer none,.pointer none,.map none,.map none,.bool false],true,.struct [(0,1,270),(1,1,264),(2,1,192),(3,1,192),(4,1,4)]⟩),
 (373,⟨4,32,[.int .i64 0,.int .i64 0,.int .i64 0,.int .i64 0],true,.struct [(0,1,3),(1,1,3),(2,1,3),(3,1,3)]⟩),
 (386,⟨1,8,[.map none],false,.other⟩),
 (388,⟨7,104,[.int .i64 0,.int .i64 0,.int .i64 0,.slice none 0 0,.slice none 0 0,.slice none 0 0,.map none],true,.struct [(0,4,24),(4,1,25),(5,1,38),(6,1,386)]⟩),
 (390,⟨2,16,[.int .u32 0,.int .i64 0],true,.struct [(0,1,81),(1,1,3)]⟩),
 (393,⟨1,8,[.nilFunc],false,.other⟩),
 (401,⟨1,8,[.nilFunc],false,.other⟩),
 (419,⟨2,32,[.bool false,.slice none 0 0],true,.struct [(0,1,4),(1,1,79)]⟩),
 (431,⟨3,24,[.int .i64 0,.int .i64 0,.int .i64 0],true,.array 3 3 1⟩)]
noncomputable def O8 {α:Type} (l:List (Nat × α)):Tr α:=l.foldr (fun q t=>set 12 t q.1 (some q.2)) .e
noncomputable def yT:Tr TyS:=O8 HT
noncomputable def J8:List (Nat × Nat × Nat × Value):=[(177,(3,79,.slice none 0 0)),(192,(3,3,.int .i64 0)),(207,(3,91,.agg #[.int .i64 0,.int .i64 0,.int .i64 0,.int .i64 0,.int .i64 0])),(310,(3,347,.pointer none)),(386,(390,3,.int .i64 0))]
noncomputable def xN:Tr (Nat × Nat × Value):=O8 J8
noncomputable def yU:Tab:=HT.filter (fun q=>[3,4,5,220,261,123,390].any (Nat.beq q.1))
noncomputable def Tf:List (Nat × Bool):=[(15,true),(102,true),(199,true),(223,true),(264,true),(267,true),(270,true),(273,true),(341,true),(347,true),(352,true),(358,true)]
noncomputable def RY:Tr Bool:=O8 Tf
def sJ:Nat:=390
def Dk:Nat:=261
noncomputable def Wq:Option Bool→Bool
 | some _=>true
 | none=>false
noncomputable def wm (m k:Nat):Bool:=Bool.rec (Wq (get RY k)) (Nat.beq k sJ) (Nat.beq m 0)
noncomputable def K0:List (Value × V1 × Nat):=[(.int .i64 0,.s (.v (.int .i64 1)),0),(.int .i64 4,.s (.v (.int .i64 1)),1),(.int .i64 8,.s (.v (.int .i64 1)),2),(.int .i64 12,.s (.v (.int .i64 1)),3),(.int .i64 16,.s (.v (.int .i64 1)),4),(.int .i64 20,.s (.v (.int .i64 1)),5)]
noncomputable def KB:List S:=[.v (.int .i64 0),.v (.int .i64 4),.v (.int .i64 8),.v (.int .i64 12),.v (.int .i64 16),.v (.int .i64 20)]
noncomputable def E1 (x y:Value × V1 × Nat):Bool:=sameVal x.1 y.1 && (sameV1 x.2.1 y.2.1 && Nat.beq x.2.2 y.2.2)
noncomputable def hkS3 (z:Z):Option Bk→Option Ld
 | some (.m es c)=>bif sameL E1 es K0 && Nat.beq c 6 then some (some (.o (.s (.sl z.n 0 1 6)),new z (.c KB))) else none
 | _=>none
noncomputable def P4 (z:Z):Option Bk→Option Ld
 | some (.c [.m k])=>hkS3 z (get z.h k)
 | _=>none
noncomputable def hkS1 (z:Z):Option Bk→Option Ld
 | some (.f f [] [.s (.p j o)])=>bif Nat.beq f 378 && Nat.beq o 0 then P4 z (get z.h j) else none
 | _=>none
noncomputable def Sn (z:Z):List V1→Option Ld
 | [.s (.c i)]=>hkS1 z (get z.h i)
 | _=>none
noncomputable def hN:List (Nat × Bk):=[(1199,.c [.sl 1177 0 1 1,.sl 1181 0 1 1,.sl 1185 0 1 1,.sl 1189 0 1 1,.sl 1193 0 1 1,.sl 1197 0 1 3]),(1177,.c [.v (.int .i64 1)]),(1181,.c [.v (.int .i64 3)]),(1185,.c [.v (.int .i64 3)]),(1189,.c [.v (.int .i64 4)]),(1193,.c [.v (.int .i64 2)]),(1197,.c [.v (.int .i64 (-1)),.v (.int .i64 (-2)),.v (.int .i64 (-3))])]
noncomputable def P5 (z:Z):List V1→Option Ld
 | [x]=>bif sameV1 x (.g [.v (.int .i64 4),.sl 1199 0 1 6]) && EV sameBk z.h hN then some (some (.t [.s (.v (.int .i64 0)),.s (.v (.int .i64 0))],z)) else none
 | _=>none
noncomputable def Gf (f:FuncId) (vs:List V1) (z:Z):Option Ld:=bif Nat.beq f 136 then Sn z vs else bif Nat.beq f 7 then P5 z vs else none
def oI (f:FuncId):Bool:=Nat.beq f Dk
noncomputable def IZ:Nat→List Func→Tr Func
 | _,[]=>.e
 | i,f :: l=>set 12 (IZ (i+1) l) i (some f)
noncomputable def Nc:Tr Func:=IZ 0 Go.Proofs.Tryz.prog.funcs.toList
end Go.Ex
namespace Go.Ex
open Go Go.Sv
noncomputable def flat:Code→List Code
 | .seq a b=>flat a++flat b
 | c=>[c]
noncomputable def pZ:FuncId→List V1→Z→Ld:=vj Go.Proofs.Tryz.prog yT xN yU wm Nc oI Gf 100
noncomputable def eK (nt:Nat):List Code→R→Z→Option (X × R × Z)
 | [],r,z=>some (.n,r,z)
 | c :: l,r,z=>sqK (eK nt l) (fY Go.Proofs.Tryz.prog yT xN yU wm oI pZ nt 10 none c r z)
noncomputable def f5:List Code:=match get Nc 5 with
 | some fn=>(match fn.body with
  | some c=>flat c
  | none=>[])
 | none=>[]
def rA:List (Nat × AV):=[(0,.o (.s (.v (.bool false)))),(1,.o (.s (.p 875 0)))]
def hA:List (Nat × Bk):=[(875,.c [.v (.int .i64 5),.v (.int .i64 0),.v (.int .i64 0),.v (.slice none 0 0),.sl 684 0 4 1]),(684,.c [.v (.int .i64 1),.v (.int .i64 7),.v (.slice none 0 0),.sl 687 0 1 4]),(687,.c [.v (.int .i64 1),.v (.int .i64 2),.v (.int .i64 5),.v (.int .i64 6)])]
def nA:Nat:=876
def rB:List (Nat × AV):=[(0,.o (.s (.v (.bool false)))),(1,.o (.s (.p 875 0))),(2,.o (.s (.p 1205 0))),(3,.o (.s (.v (.int .i64 0)))),(4,.o (.s (.v (.int .i64 1)))),(5,.o (.s (.v (.int .i64 0))))]
def hB:List (Nat × Bk):=[(875,.c [.v (.int .i64 5),.v (.int .i64 0),.v (.int .i64 0),.v (.slice none 0 0),.sl 684 0 4 1]),(684,.c [.v (.int .i64 1),.v (.int .i64 7),.v (.slice none 0 0),.sl 687 0 1 4]),(687,.c [.v (.int .i64 1),.v (.int .i64 2),.v (.int .i64 5),.v (.int .i64 6)]),(1205,.c [.v (.int .i64 4),.sl 1199 0 1 6]),(1199,.c [.sl 1177 0 1 1,.sl 1181 0 1 1,.sl 1185 0 1 1,.sl 1189 0 1 1,.sl 1193 0 1 1,.sl 1197 0 1 3]),(1177,.c [.v (.int .i64 1)]),(1181,.c [.v (.int .i64 3)]),(1185,.c [.v (.int .i64 3)]),(1189,.c [.v (.int .i64 4)]),(1193,.c [.v (.int .i64 2)]),(1197,.c [.v (.int .i64 (-1)),.v (.int .i64 (-2)),.v (.int .i64 (-3))])]
def nB:Nat:=1375
def rC:List (Nat × AV):=[(0,.o (.s (.v (.bool false)))),(1,.o (.s (.p 875 0))),(2,.o (.s (.p 1205 0))),(3,.o (.s (.v (.int .i64 0)))),(4,.o (.s (.v (.int .i64 1)))),(5,.o (.s (.v (.int .i64 0)))),(8,.o (.s (.v (.int .i64 0)))),(9,.o (.s (.p 1693 0))),(10,.o (.s (.v (.int .i64 0)))),(11,.o (.s (.v (.int .i64 0)))),(12,.o (.s (.v (.int .i64 0))))]
def hC:List (Nat × Bk):=[(875,.c [.v (.int .i64 5),.v (.int .i64 0),.v (.int .i64 0),.v (.slice none 0 0),.sl 684 0 4 1]),(684,.c [.v (.int .i64 1),.v (.int .i64 7),.v (.slice none 0 0),.sl 687 0 1 4]),(687,.c [.v (.int .i64 1),.v (.int .i64 2),.v (.int .i64 5),.v (.int .i64 6)]),(1205,.c [.v (.int .i64 4),.sl 1199 0 1 6]),(1199,.c [.sl 1177 0 1 1,.sl 1181 0 1 1,.sl 1185 0 1 1,.sl 1189 0 1 1,.sl 1193 0 1 1,.sl 1197 0 1 3]),(1177,.c [.v (.int .i64 1)]),(1181,.c [.v (.int .i64 3)]),(1185,.c [.v (.int .i64 3)]),(1189,.c [.v (.int .i64 4)]),(1193,.c [.v (.int .i64 2)]),(1197,.c [.v (.int .i64 (-1)),.v (.int .i64 (-2)),.v (.int .i64 (-3))]),(1693,.c [.v (.int .i64 1),.v (.int .i64 1),.v (.int .i64 0),.sl 1628 0 4 1,.sl 1630 0 3 2]),(1628,.c [.v (.int .i64 0),.v (.int .i64 0),.v (.int .i64 0),.v (.int .i64 7)]),(1630,.c [.v (.int .i64 1),.v (.int .i64 1),.v (.int .i64 0),.v (.int .i64 2),.v (.int .i64 1),.v (.int .i64 6)])]
def nC:Nat:=1694
def rD:List (Nat × AV):=[(0,.o (.s (.v (.bool true))))]
def hD:List (Nat × Bk):=[]
def nD:Nat:=2203
end Go.Ex
