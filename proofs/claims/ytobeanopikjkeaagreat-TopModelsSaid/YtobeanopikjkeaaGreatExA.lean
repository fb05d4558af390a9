/- An evaluator of closed calls over numbered blocks. Definitions. -/
import Derived.Test.YtobeanopikjkeaaGreatSv
set_option linter.all false
namespace Go.Ex
open Go Go.Sv
inductive Tr (α:Type) where
 | e
 | n (l:Tr α) (v:Option α) (r:Tr α)
noncomputable def get {α:Type} (t:Tr α):Nat→Option α :=
 Tr.rec (fun _=>none) (fun _ v _ gl gr k=>Bool.rec (Bool.rec (gr (Nat.div k 2)) (gl (Nat.div k 2)) (Nat.beq (Nat.mod k 2) 0)) v (Nat.beq k 0)) t
noncomputable def set {α:Type} (f:Nat):Tr α→Nat→Option α→Tr α :=
 Nat.rec (fun _ _ _=>.e) (fun _ g t k x=>Tr.rec
  (Bool.rec (Bool.rec (.n .e none (g .e (Nat.div k 2) x)) (.n (g .e (Nat.div k 2) x) none .e) (Nat.beq (Nat.mod k 2) 0)) (.n .e x .e) (Nat.beq k 0))
  (fun l v r _ _=>Bool.rec (Bool.rec (.n l v (g r (Nat.div k 2) x)) (.n (g l (Nat.div k 2) x) v r) (Nat.beq (Nat.mod k 2) 0)) (.n l x r) (Nat.beq k 0)) t) f
inductive S where
 | v (x:Value)
 | p (i o:Nat)
 | sl (i o m n:Nat)
 | m (i:Nat)
 | c (i:Nat)
inductive V1 where
 | s (x:S)
 | g (l:List S)
inductive AV where
 | o (x:V1)
 | t (l:List V1)
inductive Bk where
 | c (l:List S)
 | m (es:List (Value × V1 × Nat)) (k:Nat)
 | f (fn:FuncId) (a b:List V1)
structure Z where
 h:Tr Bk
 n:Nat
abbrev R:=Tr AV
noncomputable def Fq:Value→AV
 | .agg cs=>.o (.g (cs.toList.map .v))
 | .tuple vs=>.t (vs.toList.map fun v=>.s (.v v))
 | v=>.o (.s (.v v))
noncomputable def ev (r:R):Operand→Option AV
 | .tmp t=>get r t
 | .const v=>some (Fq v)
 | .func f=>some (.o (.s (.v (.func (.func f) #[] #[]))))
 | .global _=>none
noncomputable def consO:Option AV→Option (List AV)→Option (List AV)
 | some v,some q=>some (v :: q)
 | _,_=>none
noncomputable def evs (r:R) (l:List Operand):Option (List AV):=List.rec (some []) (fun x _ q=>consO (ev r x) q) l
noncomputable def fW:Op→List Operand
 | .move x | .assign x | .box _ x | .load _ x | .nilCheck x | .unOp _ _ x | .convert _ _ x | .fieldAddr _ x _ | .field _ x _ | .extract x _=>[x]
 | .pick c a b=>[c,a,b]
 | .build _ ps | .buildSlice _ _ ps=>ps.toList.map (·.2)
 | .store _ a v | .binOp _ _ a v _ | .makeSlice _ a v | .indexAddr _ a v | .index _ a v | .lookup _ a v _=>[a,v]
 | .makeFunc _ f c=>f.toList++c.toList
 | .makeMap _ r=>r.toList
 | .slice _ x l h m=>x :: (l.toList++(h.toList++m.toList))
 | .mapUpdate _ m k v=>[m,k,v]
 | .call ⟨.value f,args,_⟩=>f :: args.toList
 | .call ⟨.builtin _,args,_⟩=>args.toList
 | _=>[]
noncomputable def Fo:S→Bool
 | .v (.agg _)=>false
 | .v (.tuple _)=>false
 | _=>true
noncomputable def cellsOf:V1→Option (List S)
 | .g l=>bif l.all Fo then some l else none
 | .s x=>bif Fo x then some [x] else none
noncomputable def mkv (agg:Bool) (l:List S):Option V1 :=
 bif agg then some (.g l) else match l with | [x]=>some (.s x) | _=>none
noncomputable def ld (h:Tr Bk) (i o n:Nat):Option (List S) :=
 match get h i with
 | some (.c l)=>bif Nat.ble (o+n) l.length then some ((l.drop o).take n) else none
 | _=>none
def depth:Nat:=40
noncomputable def new (z:Z) (b:Bk):Z:=⟨set depth z.h z.n (some b),Nat.succ z.n⟩
noncomputable def upd (z:Z) (i:Nat) (b:Option Bk):Z:=⟨set depth z.h i b,z.n⟩
noncomputable def vb (place:Nat→Option (Nat × Nat)):List (Nat × List S)→List S→Option (List S)
 | [],cs=>some cs
 | (i,v) :: rest,cs =>
  match place i with
  | some (off,size)=>bif Nat.beq v.length size && Nat.ble (off+size) cs.length then vb place rest (cs.take off++v++cs.drop (off+size)) else none
  | none=>none
noncomputable def JT:List AV→Option (List V1)
 | []=>some []
 | .o x :: l=>match JT l with
  | some q=>some (x :: q)
  | none=>none
 | _=>none
noncomputable def tJ:List V1→Option (List (List S))
 | []=>some []
 | x :: l=>match cellsOf x,tJ l with
  | some c,some q=>some (c :: q)
  | _,_=>none
noncomputable def plainR:List Operand→List AV→Option (List (Nat × SV))
 | [],[]=>some []
 | .tmp t :: l,.o (.s (.v x)) :: q=>match plainR l q with
  | some r=>some ((t,V x) :: r)
  | none=>none
 | .const _ :: l,_ :: q=>plainR l q
 | _,_=>none
noncomputable def plainOp (tb:Tab) (o:Oper) (vs:List AV):Option AV :=
 match plainR (fW o.op) vs with
 | some r=>match jO tb ⟨r,[]⟩ o with
  | some (.s (.v x))=>match x with
   | .agg _=>none
   | .tuple _=>none
   | _=>some (.o (.s (.v x)))
  | _=>none
 | none=>none
noncomputable def oH:Value→Bool
 | .pointer none=>true
 | _=>false
noncomputable def lj:Value→Bool
 | .slice none 0 0=>true
 | _=>false
noncomputable def wv:Value→Bool
 | .map none=>true
 | _=>false
noncomputable def OZ:List S→List S→Option Bool
 | [],[]=>some true
 | .v (.int k a) :: l,.v (.int k' b) :: q=>bif sameKind k k' then (match OZ l q with
  | some r=>some (decide (a=b) && r)
  | none=>none) else none
 | _,_=>none
noncomputable def K4 (op:BinOp) (b:Bool):Option AV :=
 match op with
 | .eql=>some (.o (.s (.v (.bool b))))
 | .neq=>some (.o (.s (.v (.bool (!b)))))
 | _=>none
noncomputable def toNat?:Int→Option Nat
 | .ofNat n=>some n
 | _=>none
noncomputable def intOf:AV→Option Nat
 | .o (.s (.v (.int _ i)))=>toNat? i
 | _=>none
noncomputable def uV:Value→Value→Option Bool
 | .int k a,.int k' b=>bif sameKind k k' then some (decide (a=b)) else none
 | _,_=>none
noncomputable def findE (k:Value):List (Value × V1 × Nat)→Option (Option V1)
 | []=>some none
 | (x,v,_) :: l=>match uV k x with
  | some true=>some (some v)
  | some false=>findE k l
  | none=>none
noncomputable def putC (e:Value × V1 × Nat):Option (List (Value × V1 × Nat) × Bool)→Option (List (Value × V1 × Nat) × Bool)
 | some (q,b)=>some (e :: q,b)
 | none=>none
noncomputable def CW (k:Value) (v:V1) (ck:Nat):List (Value × V1 × Nat)→Option (List (Value × V1 × Nat) × Bool)
 | []=>some ([(k,v,ck)],true)
 | (x,u,b) :: l=>match uV k x with
  | some true=>some ((k,v,b) :: l,false)
  | some false=>putC (x,u,b) (CW k v ck l)
  | none=>none
noncomputable def Fk (b:Bool):List AV→Option (Option Nat × List AV)
 | []=>bif b then none else some (none,[])
 | x :: l=>bif b then (match intOf x with
  | some n=>some (some n,l)
  | none=>none) else some (none,x :: l)
noncomputable def ret (v:Option AV) (z:Z):Option (AV × Z):=match v with
 | some x=>some (x,z)
 | none=>none
noncomputable def bounds (n:Nat) (lo hi:Option Nat):Option (Nat × Nat) :=
 match hi.getD n with
 | h=>match lo.getD 0 with
  | l=>bif Nat.ble l h && Nat.ble h n then some (l,h) else none
section
variable (P:Program) (tt:Tr TyS) (mt:Tr (Nat × Nat × Value)) (tb:Tab) (ka:Nat→Nat→Bool)
noncomputable def szOf (t:Nat):Option Nat:=match get tt t with | some s=>some s.size | none=>none
noncomputable def jA (t:Nat):Option Nat:=match get tt t with | some ⟨_,_,_,_,.slice e⟩=>some e | _=>none
noncomputable def lX (h:Tr Bk) (m:Nat):V1→Option (List S)
 | .s (.v x)=>bif lj x then some [] else none
 | .s (.sl i o m' n)=>bif Nat.beq m' m then (bif Nat.beq n 0 then some [] else ld h i o (n * m)) else none
 | _=>none
noncomputable def pMove (vs:List AV):Option AV:=match vs with
 | [x]=>some x
 | _=>none
noncomputable def pPick (vs:List AV):Option AV:=match vs with
 | [.o (.s (.v (.bool b))),x,y]=>some (bif b then x else y)
 | _=>none
noncomputable def pBuild (t:Nat) (ps:Array (Nat × Operand)) (vs:List AV):Option AV:=match get tt t,JT vs with
  | some ty,some q=>match tJ q with
   | some cs=>match ty.d with
    | .struct fs=>match vb (fun i=>(fs[i]?).map (fun q=>(q.1,q.2.1))) ((ps.toList.map (·.1)).zip cs) (ty.zero.map .v) with
     | some l=>some (.o (.g l))
     | none=>none
    | .array _ _ es=>match vb (fun i=>some (i * es,es)) ((ps.toList.map (·.1)).zip cs) (ty.zero.map .v) with
     | some l=>some (.o (.g l))
     | none=>none
    | _=>none
   | none=>none
  | _,_=>none
noncomputable def pLoad (t:Nat) (vs:List AV) (h:Tr Bk):Option AV:=match vs with
 | [.o (.s (.p i o))]=>match get tt t with
  | some ty=>match ld h i o ty.size with
   | some l=>match mkv ty.agg l with
    | some v=>some (.o v)
    | none=>none
   | none=>none
  | none=>none
 | _=>none
noncomputable def pNil (vs:List AV):Option AV:=match vs with
 | [.o (.s (.p i o))]=>some (.o (.s (.p i o)))
 | _=>none
noncomputable def quoE (q:Bool) (x y:Value):Option AV:=match x,y with
 | .int k a,.int k' b=>bif sameKind k k' && !(b == 0) then some (.o (.s (.v (.int k (bif q then k.wrap (a.tdiv b) else a.tmod b))))) else none
 | _,_=>none
noncomputable def pUn (o:Oper) (u:UnOp) (vs:List AV):Option AV:=match u with
 | .xor=>match vs with
  | [.o (.s (.v (.int k n)))]=>match arith .xor k (if k.signed then -1 else k.max) n with
   | some v=>some (.o (.s (.v v)))
   | none=>none
  | _=>none
 | _=>plainOp tb o vs
noncomputable def lf:List S→Option (List Value)
 | []=>some []
 | .v x :: l=>match lf l with
  | some q=>some (x :: q)
  | none=>none
 | _=>none
noncomputable def xR (t:Nat):Bool:=match jA tt t with
 | some _=>true
 | none=>false
noncomputable def FX (t:Nat):Bool:=match get mt t with
 | some _=>true
 | none=>false
noncomputable def pBin (o:Oper) (op:BinOp) (t:Nat) (vs:List AV):Option AV:=match vs with
 | [.o (.s x),.o (.s y)]=>match x,y with
  | .p _ _,.v n=>bif oH n && ka 1 t then K4 op false else none
  | .sl _ _ _ _,.v n=>bif lj n && xR tt t then K4 op false else none
  | .m _,.v n=>bif wv n && FX mt t then K4 op false else none
  | .v n,.v n'=>bif oH n && oH n' && ka 1 t then K4 op true else bif lj n && lj n' && xR tt t then K4 op true else match op with
   | .quo=>quoE true n n'
   | .rem=>quoE false n n'
   | _=>plainOp tb o vs
  | _,_=>none
 | [.o (.g x),.o (.g y)]=>match lf x,lf y with
  | some xs,some ys=>match gq xs ys with
   | some b=>bif pP P t xs && Nat.beq xs.length ys.length && (match nf tb t with | some k=>Nat.beq k xs.length | none=>false) then K4 op b else none
   | none=>none
  | _,_=>none
 | _=>none
noncomputable def pFieldA (s f:Nat) (vs:List AV):Option AV:=match vs with
 | [.o (.s (.p i o))]=>match get tt s with
  | some ⟨_,_,_,_,.struct fs⟩=>match fs[f]? with
   | some (ll,kX,_)=>bif Nat.ble 1 kX then some (.o (.s (.p i (o+ll)))) else none
   | none=>none
  | _=>none
 | _=>none
noncomputable def pField (s f:Nat) (vs:List AV):Option AV:=match vs with
 | [.o (.g l)]=>match get tt s with
  | some ⟨_,_,_,_,.struct fs⟩=>match fs[f]? with
   | some (ll,kX,ft)=>match get tt ft with
    | some ty=>bif Nat.beq ty.size kX && Nat.ble (ll+kX) l.length then (match mkv ty.agg ((l.drop ll).take kX) with
     | some v=>some (.o v)
     | none=>none) else none
    | none=>none
   | none=>none
  | _=>none
 | _=>none
noncomputable def pIndexA (t:Nat) (vs:List AV):Option AV:=match vs with
 | [.o (.s (.sl i o m n)),k]=>match jA tt t with
  | some e=>match szOf tt e,intOf k with
   | some m',some j=>bif Nat.beq m m' && Nat.blt j n then some (.o (.s (.p i (o+j * m)))) else none
   | _,_=>none
  | none=>none
 | [.o (.s (.p i o)),k]=>match get tt t,intOf k with
  | some ⟨_,_,_,_,.array n _ es⟩,some j=>bif Nat.blt j n then some (.o (.s (.p i (o+j * es)))) else none
  | _,_=>none
 | _=>none
noncomputable def pIndex (t:Nat) (vs:List AV):Option AV:=match vs with
 | [.o (.s (.v (.string s))),k]=>match get tt t,intOf k with
  | some ⟨_,_,_,_,.str⟩,some j=>match s.data.toList[j]? with
   | some b=>some (.o (.s (.v (.int .u8 b.toNat))))
   | none=>none
  | _,_=>none
 | [.o (.g l),k]=>match get tt t,intOf k with
  | some ⟨_,_,_,_,.array n e es⟩,some j=>bif Nat.blt j n then (match get tt e with
   | some ty=>bif Nat.beq ty.size es && Nat.ble (j * es+es) l.length then (match mkv ty.agg ((l.drop (j * es)).take es) with
    | some v=>some (.o v)
    | none=>none) else none
   | none=>none) else none
  | _,_=>none
 | _=>none
noncomputable def pExtract (i:Nat) (vs:List AV):Option AV:=match vs with
 | [.t l]=>match l[i]? with
  | some v=>some (.o v)
  | none=>none
 | _=>none
noncomputable def sliceV (t:Nat) (l h m:Option Nat) (y:Value):Option AV:=match y with
 | .string s=>match get tt t,m with
  | some ⟨_,_,_,_,.str⟩,none=>match bounds s.data.toList.length l h with
   | some (a,b)=>some (.o (.s (.v (.string ⟨((s.data.toList.take b).drop a).toArray⟩))))
   | none=>none
  | _,_=>none
 | _=>match (match jA tt t with
   | some e=>szOf tt e
   | none=>none) with
  | some _=>bif Nat.beq (l.getD 0) 0 && (Nat.beq (h.getD 0) 0 && (Nat.beq (m.getD 0) 0 && (lj y && (m.isNone || h.isSome)))) then some (.o (.s (.v y))) else none
  | none=>none
noncomputable def sliceL (t:Nat) (l h m:Option Nat) (i o m' n:Nat):Option AV:=match jA tt t with
 | some e=>match szOf tt e,bounds n l h with
  | some s,some (a,b)=>bif Nat.beq s m' && (match m with | none=>true | some c=>Nat.ble b c && (Nat.ble c n && h.isSome)) then some (.o (.s (.sl i (o+a * m') m' (b - a)))) else none
  | _,_=>none
 | none=>none
noncomputable def pSlice (t:Nat) (lo hi mx:Option Operand) (vs:List AV):Option AV:=match vs with
 | .o (.s x) :: q=>match Fk lo.isSome q with
  | some (l,q)=>match Fk hi.isSome q with
   | some (h,q)=>match Fk mx.isSome q with
    | some (m,_)=>match x with
     | .v y=>sliceV tt t l h m y
     | .sl i o m' n=>sliceL tt t l h m i o m' n
     | _=>none
    | none=>none
   | none=>none
  | none=>none
 | _=>none
noncomputable def entries (x:S) (h:Tr Bk):Option (List (Value × V1 × Nat)):=match x with
 | .v n=>bif wv n then some [] else none
 | .m i=>match get h i with
  | some (.m es _)=>some es
  | _=>none
 | _=>none
noncomputable def u9 (kt:Nat) (k:V1) (es:List (Value × V1 × Nat)):Option (Option V1):=match k with
 | .s (.v (.int .i64 a))=>bif ka 0 kt then none else findE (.int .i64 a) es
 | .g l=>match lf l,es with
  | some [.int .u32 _,.int .i64 _],[]=>bif ka 0 kt then some none else none
  | _,_=>none
 | _=>none
noncomputable def pLook (t:Nat) (ok:Bool) (vs:List AV) (h:Tr Bk):Option AV:=match vs with
 | [.o (.s x),.o k]=>match get mt t,entries x h with
  | some (kt,_,zv),some es=>match u9 ka kt k es,Fq zv with
   | some (some v),_=>some (bif ok then .t [v,.s (.v (.bool true))] else .o v)
   | some none,.o v=>some (bif ok then .t [v,.s (.v (.bool false))] else .o v)
   | _,_=>none
  | _,_=>none
 | _=>none
noncomputable def vI (n:Nat):AV:=.o (.s (.v (.int .i64 n)))
noncomputable def pLen (t:Nat) (x:V1) (h:Tr Bk):Option AV:=match get tt t with
 | some ⟨_,_,_,_,.slice _⟩=>(match x with
  | .s (.sl _ _ _ n)=>some (vI n)
  | .s (.v y)=>bif lj y then some (vI 0) else none
  | _=>none)
 | some ⟨_,_,_,_,.str⟩=>(match x with
  | .s (.v (.string s))=>some (vI s.data.toList.length)
  | _=>none)
 | _=>match get mt t,x with
  | some _,.s y=>(match entries y h with
   | some es=>some (vI es.length)
   | none=>none)
  | _,_=>none
noncomputable def pBlt (o:Oper) (b:Builtin) (lR:List Nat) (vs:List AV) (h:Tr Bk):Option AV:=match b with
 | .len=>match lR,vs with
  | [t],[.o x]=>pLen tt mt t x h
  | _,_=>none
 | .min=>plainOp tb o vs
 | .max=>plainOp tb o vs
 | _=>none
noncomputable def pCall (o:Oper) (c:Call) (vs:List AV) (h:Tr Bk):Option AV:=match c.callee with
 | .builtin b=>pBlt tt mt tb o b c.argTypes.toList vs h
 | _=>none
noncomputable def qY (o:Oper) (vs:List AV) (h:Tr Bk):Option AV :=
 match o.op with
 | .move _=>pMove vs
 | .assign _=>pMove vs
 | .pick ..=>pPick vs
 | .build t ps=>pBuild tt t ps vs
 | .load t _=>pLoad tt t vs h
 | .nilCheck _=>pNil vs
 | .binOp op t _ _ _=>pBin P tt mt tb ka o op t vs
 | .unOp u _ _=>pUn tb o u vs
 | .convert ..=>plainOp tb o vs
 | .fieldAddr s _ f=>pFieldA tt s f vs
 | .field s _ f=>pField tt s f vs
 | .indexAddr t _ _=>pIndexA tt t vs
 | .index t _ _=>pIndex tt t vs
 | .extract _ i=>pExtract i vs
 | .slice t _ lo hi mx=>pSlice tt t lo hi mx vs
 | .lookup t _ _ ok=>pLook mt ka t ok vs h
 | .call c=>pCall tt mt tb o c vs h
 | _=>none
abbrev Nw:=Option ((Nat→S) × Bk)
noncomputable def AW (t:Nat) (k:Nat):Option (Nat × Nat × List S):=match jA tt t with
 | some e=>match get tt e with
  | some ty=>bif Nat.ble 1 ty.zero.length then some (ty.size,ty.bytes,((List.range (k * ty.size)).map (fun i=>ty.zero.getD (i % ty.zero.length) undef)).map .v) else none
  | none=>none
 | none=>none
noncomputable def nAlloc (t:Nat):Nw:=match get tt t with
 | some ty=>some (fun k=>.p k 0,.c (ty.zero.map .v))
 | none=>none
noncomputable def nBox (vs:List AV):Nw:=match vs with
 | [.o x]=>match cellsOf x with
  | some l=>some (fun k=>.p k 0,.c l)
  | none=>none
 | _=>none
noncomputable def nBuildS (t len:Nat) (ps:Array (Nat × Operand)) (vs:List AV):Nw:=match AW tt t len,JT vs with
  | some (m,_,z0),some q=>match tJ q with
   | some cs=>match vb (fun i=>some (i * m,m)) ((ps.toList.map (·.1)).zip cs) z0 with
    | some l=>bif Nat.ble (len * m) 10000 && Nat.ble 1 m then some (fun k=>.sl k 0 m len,.c l) else none
    | none=>none
   | none=>none
  | _,_=>none
noncomputable def nFunc (fn:Fn) (k:Nat) (vs:List AV):Nw:=match fn,JT vs with
 | .func f,some q=>some (fun k=>.c k,.f f (q.take k) (q.drop k))
 | _,_=>none
noncomputable def nMap (t:Nat) (vs:List AV):Nw:=match vs with
 | []=>some (fun k=>.m k,.m [] 0)
 | [.o (.s (.v (.int _ _)))]=>match get mt t with
  | some _=>some (fun k=>.m k,.m [] 0)
  | none=>none
 | _=>none
noncomputable def nMake (t:Nat) (vs:List AV):Nw:=match vs with
 | [l,c]=>match intOf l,intOf c with
  | some n,some k=>bif Nat.beq n k && Nat.ble k 1000 then (match AW tt t n with
   | some (m,oS,z0)=>bif Nat.ble oS 1000 && Nat.ble 1 m then some (fun k=>.sl k 0 m n,.c z0) else none
   | none=>none) else none
  | _,_=>none
 | _=>none
noncomputable def rI (o:Oper) (vs:List AV):Nw :=
 match o.op with
 | .alloc t=>nAlloc tt t
 | .box _ _=>nBox vs
 | .buildSlice t len ps=>nBuildS tt t len ps vs
 | .makeFunc fn a _=>nFunc fn a.size vs
 | .makeMap t _=>nMap mt t vs
 | .makeSlice t _ _=>nMake tt t vs
 | _=>none
abbrev Ld:=Option (AV × Z)
noncomputable def JW (l:List S) (o:Nat) (q:List S):List S:=l.take o++(q++l.drop (o+q.length))
noncomputable def lStore (t:Nat) (vs:List AV) (z:Z):Ld:=match vs with
 | [.o (.s (.p i o)),.o x]=>match get tt t,cellsOf x,get z.h i with
  | some ty,some q,some (.c l)=>bif Nat.beq q.length ty.size && Nat.ble (o+q.length) l.length then some (.t [],upd z i (some (.c (JW l o q)))) else none
  | _,_,_=>none
 | _=>none
noncomputable def lPut (t:Nat) (vs:List AV) (z:Z):Ld:=match vs with
 | [.o (.s (.m i)),.o (.s (.v (.int .i64 a))),.o v]=>match get mt t,get z.h i with
  | some (kt,_),some (.m es ck)=>match (bif ka 0 kt then none else CW (.int .i64 a) v ck es) with
   | some (q,Dx)=>some (.t [],upd z i (some (.m q (bif Dx then Nat.succ ck else ck))))
   | none=>none
  | _,_=>none
 | _=>none
noncomputable def Lc (z:Z) (m oS:Nat) (x:V1) (n:Nat) (l:List S):Ld:=match x with
 | .s (.v _)=>bif Nat.ble 1 n && (Nat.ble n 100000 && Nat.ble oS 1000) then some (.o (.s (.sl z.n 0 m n)),new z (.c l)) else none
 | .s (.sl i o q k)=>bif Nat.beq n 0 then some (.o (.s (.sl i o q k)),z) else
   bif Nat.ble (k+n) 100000 && Nat.ble oS 1000 then (match get z.h i with
    | some (.c _)=>some (.o (.s (.sl z.n 0 m (k+n))),new (upd z i none) (.c l))
    | _=>none) else none
 | _=>none
noncomputable def LY (t:Nat) (x y:V1) (z:Z):Ld:=match jA tt t with
 | some e=>match get tt e with
  | some ty=>match lX z.h ty.size x,lX z.h ty.size y with
   | some te,some news=>match y with
    | .s (.sl _ _ _ n)=>bif news.all Fo && Nat.beq ty.zero.length ty.size then Lc z ty.size ty.bytes x n (te++news) else none
    | _=>(match x with
     | .s (.sl i o m k)=>some (.o (.s (.sl i o m k)),z)
     | _=>none)
   | _,_=>none
  | none=>none
 | none=>none
noncomputable def lCopy (t:Nat) (x y:V1) (z:Z):Ld:=match x,y with
 | .s (.sl i o m n),.s (.sl i' o' m' n')=>match jA tt t with
  | some e=>match szOf tt e,get z.h i with
   | some s,some (.c l)=>bif Nat.beq s m && Nat.beq s m' then (match Nat.min n' n with
    | k=>bif Nat.beq k 0 then some (vI 0,z) else match ld z.h i' o' (k * m) with
     | some q=>bif Nat.ble (o+k * m) l.length && q.all Fo then some (vI k,upd z i (some (.c (JW l o q)))) else none
     | none=>none) else none
   | _,_=>none
  | none=>none
 | _,_=>none
noncomputable def lBlt (b:Builtin) (lR:List Nat) (vs:List AV) (z:Z):Ld:=match b with
 | .append=>match lR,vs with
  | [t,t'],[.o x,.o y]=>bif Nat.beq t t' then LY tt t x y z else none
  | _,_=>none
 | .copy=>match lR,vs with
  | [t,_],[.o x,.o y]=>lCopy tt t x y z
  | _,_=>none
 | _=>none
inductive X where
 | n
 | x (id:Nat)
 | g (l:Nat)
 | r
section
variable (idx:FuncId→Bool) (call:FuncId→List V1→Z→Option (AV × Z))
noncomputable def va (b:Nat):Nat→List UInt8→Int
 | _,[]=>-1
 | i,x :: l=>bif Nat.beq x.toNat b then .ofNat i else va b (Nat.succ i) l
noncomputable def MB (q:List V1) (z:Z):Ld:=match q with
 | [.s (.v (.string s)),.s (.v (.int .u8 (.ofNat n)))]=>bif Nat.blt n 256 then some (.o (.s (.v (.int .i64 (va n 0 s.data.toList)))),z) else none
 | _=>none
noncomputable def cFn (f:FuncId) (a b:List Value) (q:Option (List V1)) (z:Z):Ld:=match a,b,q with
 | [],[],some q=>bif idx f then MB q z else call f q z
 | _,_,_=>none
noncomputable def cClo (x:Option Bk) (q:Option (List V1)) (z:Z):Ld:=match x,q with
 | some (.f f a b),some q=>call f (a++(q++b)) z
 | _,_=>none
noncomputable def callV (vs:List AV) (z:Z):Ld:=match vs with
 | .o (.s (.v (.func (.func f) a b))) :: q=>cFn idx call f a.toList b.toList (JT q) z
 | .o (.s (.c i)) :: q=>cClo call (get z.h i) (JT q) z
 | _=>none
noncomputable def lCall (c:Call) (vs:List AV) (z:Z):Ld:=match c.callee with
 | .value _=>callV idx call vs z
 | .builtin b=>lBlt tt b c.argTypes.toList vs z
 | _=>none
noncomputable def loudE (o:Oper) (vs:List AV) (z:Z):Ld :=
 match o.op with
 | .store t _ _=>lStore tt t vs z
 | .mapUpdate t _ _ _=>lPut mt ka t vs z
 | .call c=>lCall tt idx call c vs z
 | _=>none
noncomputable def kindB:Builtin→Nat
 | .len=>0
 | .min=>0
 | .max=>0
 | _=>2
noncomputable def kindC:Callee→Nat
 | .builtin b=>kindB b
 | _=>2
noncomputable def m8:Op→Nat
 | .alloc _=>1
 | .box _ _=>1
 | .buildSlice ..=>1
 | .makeFunc ..=>1
 | .makeMap ..=>1
 | .makeSlice ..=>1
 | .store ..=>2
 | .mapUpdate ..=>2
 | .call c=>kindC c.callee
 | _=>0
noncomputable def pK (z:Z):Option AV→Ld
 | some v=>some (v,z)
 | none=>none
noncomputable def nK (z:Z):Nw→Ld
 | some (f,b)=>some (.o (.s (f z.n)),new z b)
 | none=>none
noncomputable def Ih (o:Oper) (vs:List AV) (z:Z) (k:Nat):Ld:=match k with
 | 0=>pK z (qY P tt mt tb ka o vs z.h)
 | 1=>nK z (rI tt mt o vs)
 | _=>loudE tt mt ka idx call o vs z
noncomputable def oneE (o:Oper) (vs:List AV) (z:Z):Ld:=Ih P tt mt tb ka idx call o vs z (m8 o.op)
noncomputable def gV:Option AV→Bool→Option Bool
 | some (.o (.s (.v (.bool b)))),want=>some (b == want)
 | some (.t []),_=>some false
 | _,_=>none
noncomputable def gD (r:R) (want:Bool):Option Oper→Option Bool
 | some o=>match o.dst with
  | some d=>gV (get r d) want
  | none=>none
 | none=>none
noncomputable def guardE (all:List Oper) (r:R):Option (Nat × Bool)→Option Bool
 | none=>some true
 | some (j,want)=>gD r want all[j]?
noncomputable def putE' (nt:Nat) (r:R) (z:Z) (d:Option Nat) (v:AV):Option (R × Z) :=
 match d with
 | some d=>bif Nat.blt d nt then some (set 12 r d (some v),z) else none
 | none=>some (r,z)
noncomputable def Td (nt:Nat) (r:R) (d:Option Nat):Option (AV × Z)→Option (R × Z)
 | some (v,z)=>putE' nt r z d v
 | none=>none
noncomputable def LH (o:Oper) (z:Z):Option (List AV)→Option (AV × Z)
 | some vs=>oneE P tt mt tb ka idx call o vs z
 | none=>none
noncomputable def stepG (nt:Nat) (o:Oper) (r:R) (z:Z):Option Bool→Option (R × Z)
 | some b=>Bool.rec (putE' nt r z o.dst (.t [])) (Td nt r o.dst (LH P tt mt tb ka idx call o z (evs r (fW o.op)))) b
 | none=>none
noncomputable def xn (nt:Nat) (all:List Oper) (o:Oper) (r:R) (z:Z):Option (R × Z):=stepG P tt mt tb ka idx call nt o r z (guardE all r o.guard)
noncomputable def regK (k:R→Z→Option (R × Z)):Option (R × Z)→Option (R × Z)
 | some (r,z)=>k r z
 | none=>none
noncomputable def H5 (nt:Nat) (all l:List Oper):R→Z→Option (R × Z) :=
 List.rec (fun r z=>some (r,z)) (fun o _ k r z=>regK k (xn P tt mt tb ka idx call nt all o r z)) l
noncomputable def Od (e:Edge):Bool:=match e.ground with
 | .textOnly _=>false
 | .gcOnly _=>false
 | _=>true
noncomputable def bit (i:Nat):Nat:=Nat.shiftLeft 1 i
noncomputable def pW (l:List Edge):Nat:=List.rec 0 (fun e _ m=>Bool.rec m (Nat.lor m (bit e.on)) (Od e)) l
structure Pt where
 i:Nat
 o:Oper
 k:Nat
 dm:Nat
 c:Nat
 hi:Nat
noncomputable def nU (l:List Oper):Nat→List Pt:=List.rec (fun _=>[]) (fun o _ g i=>⟨i,o,m8 o.op,pW o.after.toList,0,0⟩ :: g (Nat.succ i)) l
noncomputable def isIn (i m:Nat):Bool:=Nat.testBit m i
noncomputable def sub (a b:Nat):Bool:=Nat.beq (Nat.land a b) a
noncomputable def wD (f:Pt→Bool) (l:List Pt):Option Pt:=List.rec none (fun p _ r=>Bool.rec r (some p) (f p)) l
noncomputable def orE:Option Pt→Option Pt→Option Pt
 | some p,_=>some p
 | none,y=>y
noncomputable def xF (l:List Pt) (m:Nat):Option Pt :=
 orE (wD (fun p=>!(isIn p.i m) && sub p.dm m && !(Nat.beq p.k 2)) l) (wD (fun p=>!(isIn p.i m) && sub p.dm m) l)
noncomputable def orderK (g:Nat→Nat→Option (List Pt)) (m c:Nat):Option Pt→Option (List Pt)
 | some p=>(match g (Nat.lor m (bit p.i)) (bif Nat.beq p.k 2 then Nat.succ c else c) with
  | some q=>some (⟨p.i,p.o,p.k,p.dm,c,0⟩ :: q)
  | none=>none)
 | none=>none
noncomputable def order (l:List Pt) (n:Nat):Nat→Nat→Option (List Pt) :=
 Nat.rec (fun _ _=>some []) (fun _ g m c=>orderK g m c (xF l m)) n
noncomputable def Af (i d:Nat) (l:List Pt):Nat:=List.rec d (fun p _ r=>Bool.rec r p.c (Nat.beq p.k 2 && isIn i p.dm)) l
noncomputable def hX (l:List Pt):Nat:=List.rec 0 (fun p _ r=>Bool.rec r (Nat.succ r) (Nat.beq p.k 2)) l
noncomputable def tmps:List Operand→List Nat
 | []=>[]
 | .tmp t :: l=>t :: tmps l
 | _ :: l=>tmps l
noncomputable def writer (t:Nat) (l:List Pt):Option Pt:=List.rec none (fun p _ r=>match p.o.dst with
 | some d=>Bool.rec r (some p) (Nat.beq d t)
 | none=>r) l
noncomputable def okT (l:List Pt) (p:Pt) (ts:List Nat):Bool:=List.rec true (fun t _ r=>match writer t l with
 | some q=>(isIn q.i p.dm || isIn p.i q.dm) && r
 | none=>r) ts
noncomputable def Tj (dm:Nat):Option (Nat × Bool)→Bool
 | none=>true
 | some (j,_)=>isIn j dm
noncomputable def R6 (l:List Pt) (p:Pt):Bool:=match p.o.dst with
 | some d=>(match writer d l with
  | some q=>Nat.beq q.i p.i
  | none=>false)
 | none=>true
noncomputable def Fp (l q:List Pt):Bool:=List.rec true (fun p _ r=>okT l p (tmps (fW p.o.op)) && (Tj p.dm p.o.guard && (R6 l p && r))) q
noncomputable def U7 (l:List Pt) (p:Pt):Bool:=Nat.beq p.c 0 || List.rec false (fun q _ r=>(isIn q.i p.dm && (Nat.beq (bif Nat.beq q.k 2 then Nat.succ q.c else q.c) p.c)) || r) l
noncomputable def oq (l:List Pt) (C:Nat) (q:List Pt):List Pt:=q.map (fun p=>⟨p.i,p.o,p.k,p.dm,p.c,Af p.i C l⟩)
noncomputable def xD (all:List Oper):Option (List Pt) :=
 match nU all 0 with
 | l=>match order l all.length 0 0 with
  | some q=>bif Fp l l && (q.all (U7 q) ) then some (oq q (hX q) q) else none
  | none=>none
structure Tk where
 p:Pt
 w:Bool
 vs:List AV
 v:AV
 n:Nat
structure Dr where
 r:R
 z:Z
 hs:List Z
 tk:List Tk
noncomputable def drPut (nt:Nat) (d:Dr) (p:Pt) (w:Bool) (vs:List AV):Ld→Option Dr
 | some (v,z)=>(match putE' nt d.r z p.o.dst v with
  | some (r,z')=>some ⟨r,z',Bool.rec d.hs (d.z :: d.hs) (Nat.beq p.k 2),⟨p,w,vs,v,d.z.n⟩ :: d.tk⟩
  | none=>none)
 | none=>none
noncomputable def K8 (nt:Nat) (d:Dr) (p:Pt):Option (List AV)→Option Dr
 | some vs=>drPut nt d p true vs (Ih P tt mt tb ka idx call p.o vs d.z p.k)
 | none=>none
noncomputable def SC (nt:Nat) (d:Dr) (p:Pt):Option Bool→Option Dr
 | some b=>Bool.rec (drPut nt d p false [] (some (.t [],d.z))) (K8 P tt mt tb ka idx call nt d p (evs d.r (fW p.o.op))) b
 | none=>none
noncomputable def drK (k:Dr→Option Dr):Option Dr→Option Dr
 | some d=>k d
 | none=>none
noncomputable def yq (nt:Nat) (all:List Oper) (l:List Pt):Dr→Option Dr :=
 List.rec (fun d=>some d) (fun p _ k d=>drK k (SC P tt mt tb ka idx call nt d p (guardE all d.r p.o.guard))) l
noncomputable def sameVal:Value→Value→Bool
 | .int k a,.int k' b=>sameKind k k' && decide (a=b)
 | .bool a,.bool b=>a == b
 | .string a,.string b=>a.data.toList == b.data.toList
 | .pointer none,.pointer none=>true
 | .slice none 0 0,.slice none 0 0=>true
 | .map none,.map none=>true
 | .nilFunc,.nilFunc=>true
 | .func (.func f) a b,.func (.func f') a' b'=>Nat.beq f f' && (match a.toList,b.toList,a'.toList,b'.toList with
  | [],[],[],[]=>true
  | _,_,_,_=>false)
 | _,_=>false
noncomputable def sameS:S→S→Bool
 | .v x,.v y=>sameVal x y
 | .p i o,.p i' o'=>Nat.beq i i' && Nat.beq o o'
 | .sl i o m n,.sl i' o' m' n'=>Nat.beq i i' && Nat.beq o o' && Nat.beq m m' && Nat.beq n n'
 | .m i,.m i'=>Nat.beq i i'
 | .c i,.c i'=>Nat.beq i i'
 | _,_=>false
noncomputable def sameL {α:Type} (f:α→α→Bool):List α→List α→Bool
 | [],[]=>true
 | x :: l,y :: q=>f x y && sameL f l q
 | _,_=>false
noncomputable def sameV1:V1→V1→Bool
 | .s x,.s y=>sameS x y
 | .g l,.g q=>sameL sameS l q
 | _,_=>false
noncomputable def sameAV:AV→AV→Bool
 | .o x,.o y=>sameV1 x y
 | .t l,.t q=>sameL sameV1 l q
 | _,_=>false
noncomputable def sameBk:Bk→Bk→Bool
 | .c l,.c q=>sameL sameS l q
 | .m [] k,.m [] k'=>Nat.beq k k'
 | .f fn a b,.f fn' a' b'=>Nat.beq fn fn' && sameL sameV1 a a' && sameL sameV1 b b'
 | _,_=>false
noncomputable def stays (t:Tk) (z:Z):Bool:=match t.w,t.p.k with
 | true,0=>(match qY P tt mt tb ka t.p.o t.vs z.h with
  | some v=>sameAV v t.v
  | none=>false)
 | true,1=>(match rI tt mt t.p.o t.vs,get z.h t.n with
  | some (_,b),some b'=>sameBk b b' && Nat.blt t.n z.n
  | _,_=>false)
 | _,_=>true
noncomputable def mS (t:Tk) (lo hi:Nat) (hs:List Z):Bool :=
 List.rec (fun _=>true) (fun z _ g c=>Bool.rec (g (Nat.succ c)) (stays P tt mt tb ka t z && g (Nat.succ c)) (Nat.ble lo c && Nat.ble c hi)) hs 0
noncomputable def lK (t:Tk):Bool:=t.w && Nat.beq t.p.k 1
noncomputable def DE (l:List Tk):Nat→Bool:=List.rec (fun _=>true) (fun t _ g b=>Bool.rec (g b) (Nat.blt t.n b && g t.n) (lK t)) l
noncomputable def Cl (d:Dr) (hs:List Z):Bool:=List.rec true (fun t _ r=>(mS P tt mt tb ka t t.p.c t.p.hi hs && r)) d.tk && DE d.tk d.z.n
noncomputable def drFin:Option Dr→Option (R × Z)
 | some d=>Bool.rec none (some (d.r,d.z)) (Cl P tt mt tb ka d (List.reverse (d.z :: d.hs)))
 | none=>none
noncomputable def QN (nt:Nat) (all:List Oper) (r:R) (z:Z):Option (List Pt)→Option (R × Z)
 | some l=>drFin P tt mt tb ka (yq P tt mt tb ka idx call nt all l ⟨r,z,[],[]⟩)
 | none=>none
noncomputable def K7 (nt:Nat) (all:List Oper) (r:R) (z:Z):Option (R × Z):=QN P tt mt tb ka idx call nt all r z (xD all)
abbrev Out:=Option (X × R × Z)
noncomputable def outN:Option (R × Z)→Out
 | some (r,z)=>some (.n,r,z)
 | none=>none
noncomputable def sqK (k:R→Z→Out):Out→Out
 | some (.n,r,z)=>k r z
 | some (.x i,r,z)=>some (.x i,r,z)
 | some (.g i,r,z)=>some (.g i,r,z)
 | some (.r,r,z)=>some (.r,r,z)
 | none=>none
noncomputable def bkK (id:Nat):Out→Out
 | some (.n,r,z)=>some (.n,r,z)
 | some (.x j,r,z)=>bif Nat.beq j id then some (.n,r,z) else some (.x j,r,z)
 | some (.g i,r,z)=>some (.g i,r,z)
 | some (.r,r,z)=>some (.r,r,z)
 | none=>none
noncomputable def scF (k:Code→R→Z→Out) (l:Nat) (r:R) (z:Z):Option Code→Out
 | some q=>k q r z
 | none=>some (.g l,r,z)
noncomputable def scK (s:Code) (k:Code→R→Z→Out):Out→Out
 | some (.n,r,z)=>some (.n,r,z)
 | some (.x j,r,z)=>some (.x j,r,z)
 | some (.g l,r,z)=>scF k l r z (findLabel s l)
 | some (.r,r,z)=>some (.r,r,z)
 | none=>none
noncomputable def cdK (a b:Out):Option AV→Out
 | some (.o (.s (.v (.bool t))))=>Bool.rec b a t
 | _=>none
noncomputable def codeC (nt:Nat) (ih:Option Code→Code→R→Z→Out) (c:Code) (r:R) (z:Z):Out :=
 match c with
 | .skip=>some (.n,r,z)
 | .label _=>some (.n,r,z)
 | .region _ ops dr=>outN (Bool.rec (H5 P tt mt tb ka idx call nt ops.toList ops.toList r z) (K7 P tt mt tb ka idx call nt ops.toList r z) dr)
 | .seq a b=>sqK (ih none b) (ih none a r z)
 | .cond c a b=>cdK (ih none a r z) (ih none b r z) (ev r c)
 | .block id c=>bkK id (ih none c r z)
 | .loop c=>sqK (ih none (.loop c)) (ih none c r z)
 | .scope c=>ih (some c) c r z
 | .exit id=>some (.x id,r,z)
 | .goto l=>some (.g l,r,z)
 | .ret=>some (.r,r,z)
 | _=>none
noncomputable def codeS (nt:Nat) (ih:Option Code→Code→R→Z→Out) (sc:Option Code) (c:Code) (r:R) (z:Z):Out :=
 match sc with
 | none=>codeC P tt mt tb ka idx call nt ih c r z
 | some s=>scK s (ih (some s)) (ih none c r z)
noncomputable def fY (nt:Nat) (n:Nat):Option Code→Code→R→Z→Out :=
 Nat.rec (fun _ _ _ _=>none) (fun _ ih=>codeS P tt mt tb ka idx call nt ih) n
end
noncomputable def args:Nat→List V1→R→R
 | _,[],r=>r
 | i,v :: l,r=>args (Nat.succ i) l (set 12 r i (some (.o v)))
noncomputable def Ta (agg:Bool):Option (List S)→Option V1
 | some c=>mkv agg c
 | none=>none
noncomputable def tY (r:R) (z:Z):List ResultVar→Option (List V1)
 | []=>some []
 | .tmp t :: l=>match get r t,tY r z l with
  | some (.o v),some q=>some (v :: q)
  | _,_=>none
 | .cell a t :: l=>match get r a,get tt t,tY r z l with
  | some (.o (.s (.p i o))),some ty,some q=>match Ta ty.agg (ld z.h i o ty.size) with
   | some v=>some (v :: q)
   | none=>none
  | _,_,_=>none
noncomputable def Ig:List V1→AV
 | [v]=>.o v
 | l=>.t l
noncomputable def LM (fn:Func):Out→Option (AV × Z)
 | some (.n,r,z)=>match tY tt r z fn.results.toList with
  | some q=>some (Ig q,z)
  | none=>none
 | some (.r,r,z)=>match tY tt r z fn.results.toList with
  | some q=>some (Ig q,z)
  | none=>none
 | _=>none
noncomputable def Cn (ih:FuncId→List V1→Z→Option (AV × Z)) (idx:FuncId→Bool) (as:List V1) (z:Z):Option Func→Option (AV × Z)
 | some fn=>match fn.body with
  | some c=>bif Nat.ble as.length fn.ntmps then LM tt fn (fY P tt mt tb ka idx ih fn.ntmps 100000 none c (args 0 as .e) z) else none
  | none=>none
 | none=>none
noncomputable def hkK (y:Option (AV × Z)):Option (Option (AV × Z))→Option (AV × Z)
 | some x=>x
 | none=>y
noncomputable def vj (ft:Tr Func) (idx:FuncId→Bool) (rN:FuncId→List V1→Z→Option (Option (AV × Z))) (n:Nat):FuncId→List V1→Z→Option (AV × Z) :=
 Nat.rec (fun _ _ _=>none) (fun _ ih f as z=>hkK (Cn P tt mt tb ka ih idx as z (get ft f)) (rN f as z)) n
end
end Go.Ex
