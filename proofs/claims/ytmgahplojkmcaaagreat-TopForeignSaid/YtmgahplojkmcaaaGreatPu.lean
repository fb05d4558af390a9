/- Lemmas. Conditions: their own. -/
import Derived.WalkKit
import Derived.OrdersHeld
import Derived.MapKept
import Derived.Scope
import Derived.Laws.BytesString
import Derived.Lib.Builder
import Derived.Lib.UnsafeStr
import Derived.Lib.AppendStr
import Derived.Lib.ConvBytes
import Derived.Lib.AppendZeros
set_option linter.all false
namespace Go
abbrev ak:=@Bool.and_eq_true
abbrev aB:=@Nat.le_of_ble_eq_true
abbrev aw:=@List.mem_cons_of_mem
abbrev aD:=@Nat.eq_of_beq_eq_true
abbrev aG:=@List.mem_append_right
abbrev aF:=@of_decide_eq_true
abbrev aI:=@List.mem_cons_self
abbrev aN:=@List.mem_append_left
abbrev aq:=@List.mem_map
abbrev aE:=@List.mem_cons
abbrev aL:=@of_decide_eq_false
abbrev aH:=@run_underlying
abbrev bp:=@decide_eq_false_iff_not
abbrev aS:=@List.length_append
abbrev aO:=@List.all_eq_true
abbrev aR:=@decide_eq_true_eq
abbrev aY:=@List.mem_singleton
abbrev bc:=@List.length_cons
abbrev bR:=@Option.isSome_iff_exists
abbrev aK:=@Nat.le_refl
abbrev aV:=@List.mem_append
abbrev bQ:=@List.getElem?_take
abbrev bM:=@List.mem_range
abbrev bH:=@List.length_take
abbrev ba:=@List.map_cons
abbrev dz:=@List.getElem?_eq_some_iff
abbrev cm:=@Array.length_toList
abbrev bW:=@Result.andThen_ok
abbrev bV:=@List.append_assoc
abbrev cP:=@Nat.mul_le_mul_right
abbrev cO:=@Bool.or_eq_false_iff
abbrev bh:=@Nat.zero_add
abbrev eS:=@List.getElem?_append_right
abbrev cN:=@List.length_nil
abbrev dT:=@List.drop_eq_nil_of_le
abbrev gw:=@Array.getElem?_eq_some_iff
abbrev cf:=@List.mem_flatMap
abbrev dI:=@Array.toArray_toList
abbrev fD:=@List.getElem?_eq_getElem
abbrev b8:=@congrArg
abbrev dH:=@Nat.lt_of_lt_of_le
abbrev fC:=@Classical.byContradiction
abbrev bP:=@Nat.le_trans
abbrev fc:=@List.take_of_length_le
abbrev fU:=@List.getElem?_append_left
abbrev bU:=@Sem.run_bind
abbrev eR:=@List.mem_of_getElem?
abbrev cd:=@List.all_cons
abbrev da:=@List.length_map
abbrev dy:=@List.length_drop
abbrev fq:=@Nat.ble_eq_true_of_le
abbrev gv:=@List.size_toArray
abbrev eJ:=@List.getElem?_drop
abbrev dx:=@List.mem_filter
abbrev jL:=@Array.getElem?_setIfInBounds_ne
abbrev eI:=@Bool.not_eq_true'
abbrev dS:=@Bool.or_eq_true
abbrev cM:=@Sem.run_pure
abbrev gU:=@List.nil_append
abbrev gu:=@Bool.and_eq_true_iff
abbrev c9:=@Nat.add_zero
abbrev iE:=@MapKept.run_getObj_map
abbrev jK:=@List.cons_append
abbrev gq:=@bne_eq_false_iff_eq
abbrev lD:=@List.take_append_of_le_length
abbrev iD:=@Array.getElem?_toList
abbrev jJ:=@List.length_eq_zero_iff
abbrev bC:=@Ne.symm
abbrev gT:=@List.take_length
abbrev gS:=@List.nodup_cons
abbrev fT:=@List.append_nil
abbrev eH:=@Nat.beq_refl
abbrev cG:=@cond_true
abbrev qq:=@List.eq_nil_of_length_eq_zero
abbrev gp:=@List.map_append
abbrev eu:=@Int.le_refl
abbrev fB:=@List.any_cons
abbrev gn:=@Nat.mul_le_mul
abbrev lC:=@List.take_append_drop
abbrev jI:=@List.flatMap_cons
abbrev mP:=@List.getElem?_toArray
abbrev mO:=@List.getElem?_eq_none
abbrev mN:=@Bool.and_eq_false_iff
abbrev lB:=@List.length_pos_iff
abbrev lA:=@List.flatMap_append
abbrev eQ:=@cond_false
abbrev oF:=@Int.eq_ofNat_of_zero_le
abbrev sN:=@List.drop_append_of_le_length
abbrev oE:=@List.length_replicate
abbrev qp:=@Option.bind_eq_some_iff
abbrev ahA:=@Array.replicate_zero
abbrev ahz:=@Array.replicate_succ
abbrev ky:=@Nat.min_eq_left
abbrev iC:=@List.map_nil
abbrev sM:=@Option.isNone_iff_eq_none
abbrev sK:=@Array.getElem?_eq_getElem
abbrev ahy:=@List.append_toArray
abbrev mM:=@List.ext_getElem?
abbrev jH:=@Nat.add_assoc
abbrev kx:=@List.drop_drop
abbrev jS:=@List.range_succ
abbrev jR:=@List.all_append
abbrev jQ:=@Bool.eq_iff_iff
abbrev pI:=@Nat.add_sub_cancel_left
abbrev jg:=@Bool.true_and
abbrev fK:=@forall_eq'
abbrev jP:=@decide_eq_true
abbrev fJ:=@bne_iff_ne
abbrev pH:=@Option.map_eq_some_iff
abbrev wD:=@List.take_succ_eq_append_getElem
abbrev ad6:=@List.push_toArray
abbrev nO:=@List.getElem_of_mem
abbrev kY:=@decide_eq_false
abbrev sR:=@List.drop_eq_getElem_cons
abbrev nN:=@Bool.not_eq_false'
abbrev jO:=@Bool.or_false
abbrev kX:=@List.mapM_cons
abbrev gJ:=@beq_iff_eq
abbrev pG:=@beq_eq_false_iff_ne
abbrev pE:=@Array.toList_append
abbrev jf:=@Nat.one_mul
abbrev nM:=@List.any_eq_true
abbrev wC:=@List.getD_eq_getElem?_getD
abbrev sQ:=@List.length_singleton
abbrev pD:=@Nat.not_lt_zero
abbrev kW:=@Nat.succ_mul
abbrev kV:=@List.map_map
abbrev kU:=@List.any_nil
abbrev pC:=@List.any_eq_false
abbrev pB:=@Array.size_append
abbrev pA:=@List.not_mem_nil
abbrev nL:=@List.drop_zero
abbrev mb:=@Nat.zero_le
abbrev gI:=@if_false
abbrev pz:=@List.filter_map
abbrev sO:=@List.length_range
abbrev py:=@List.drop_take
abbrev px:=@Bool.and_false
end Go
namespace Go.Sv
open Go
section
def aa{α:Type}:List (Nat×α)->Nat->Option α
 |[],_=>none
 |(k,v)::l,t=>bif Nat.beq k t then some v else aa l t
inductive S0 where
 |v (x:Value)
 |p (id off:Nat)
inductive SV where
 |s (x:S0)
 |f (fn:Fn) (first cap:List S0)
@[reducible] def V(x:Value):SV:=.s (.v x)
@[reducible] def I(n:Int):SV:=.s (.v (.int .i64 n))
@[reducible] def B(b:Bool):SV:=.s (.v (.bool b))
@[reducible] def Pt(id off:Nat):SV:=.s (.p id off)
def bT(ρ:Nat->Nat):S0->Value
 |.v x=>x
 |.p id off=>.pointer (some ⟨ρ id,off,none⟩)
def aP(ρ:Nat->Nat):SV->Value
 |.s x=>bT ρ x
 |.f fn first cap=>.func fn (first.map (bT ρ)).toArray (cap.map (bT ρ)).toArray
structure Sy where
 al:List (Nat×SV)
 boxes:List (Nat×(Nat×List SV))
inductive TD where
 |int (k:IntKind)
 |slice (e:Nat)
 |str
 |bool
 |struct (fs:List (Nat×Nat×Nat))   -- offset,size,type
 |array (n e aog:Nat)
 |other
structure sX where
 size:Nat
 bytes:Nat
 zero:List Value
 agg:Bool
 d:TD
def Wg(P:Program)(t:Nat):Option sX :=
 match P.info? t,P.underlying t with
 |some i,some d =>
  match i.zero with
  |some z =>
   match d with
   |.struct fs =>
    match fs.toList.mapM (λf=>(P.info? f.type).map (λj=>(f.offset,j.size,f.type)))with
    |some l=>some ⟨i.size,i.bytes,z.cells.toList,true,.struct l⟩
    |none=>none
   |.array n e=>match P.info? e with
    |some j=>some ⟨i.size,i.bytes,z.cells.toList,true,.array n e j.size⟩
    |none=>none
   |.int k=>some ⟨i.size,i.bytes,z.cells.toList,false,.int k⟩
   |.slice e=>some ⟨i.size,i.bytes,z.cells.toList,false,.slice e⟩
   |.string=>some ⟨i.size,i.bytes,z.cells.toList,false,.str⟩
   |.bool=>some ⟨i.size,i.bytes,z.cells.toList,false,.bool⟩
   |_=>some ⟨i.size,i.bytes,z.cells.toList,false,.other⟩
  |none=>none
 |_,_=>none
abbrev oQ:=List (Nat×sX)
def dD(P:Program)(bj:oQ):Prop:=∀t s,aa bj t=some s->Wg P t=some s
def plain:List SV->Option (List Value)
 |[]=>some []
 |.s (.v x)::l=>match plain l with
  |some r=>some (x::r)
  |none=>none
 |_=>none
def cellsOf:SV->List SV
 |.s (.v (.agg cs))=>cs.toList.map V
 |x=>[x]
def QF:List SV->Option (List S0)
 |[]=>some []
 |.s x::l=>match QF l with
  |some r=>some (x::r)
  |none=>none
 |_=>none
section sym
variable(bj:oQ)
def cu(sy:Sy):Operand->Option SV
 |.tmp t=>aa sy.al t
 |.const v=>some (V v)
 |.func f=>some (.f (.func f) [] [])
 |.global _=>none
def j7(sy:Sy):List Operand->Option (List SV)
 |[]=>some []
 |x::l=>match cu sy x,j7 sy l with
  |some v,some r=>some (v::r)
  |_,_=>none
def wr(lS:List SV)(off:Nat)(new:List SV):List SV:=lS.take off++new++lS.drop (off+new.length)
def qY(fs:Nat->Option (Nat×Nat)):List (Nat×Value)->List Value->Option (List Value)
 |[],cs=>some cs
 |(i,v)::rest,cs =>
  match fs i with
  |some (off,size)=>bif Nat.beq v.cells.size size&&Nat.ble (off+size) cs.length then qY fs rest (cs.take off++v.cells.toList++cs.drop (off+size))else none
  |none=>none
def cmp(op:BinOp)(a b:Int):Option Bool :=
 match op with
 |.eql=>some (a==b)
 |.neq=>some (a !=b)
 |.lss=>some (decide (a<b))
 |.leq=>some (decide (a<=b))
 |.gtr=>some (decide (a>b))
 |.geq=>some (decide (a≥b))
 |_=>none
def arith(op:BinOp)(k:IntKind)(a b:Int):Option Value :=
 match op with
 |.add=>some (.int k (k.wrap (a+b)))
 |.sub=>some (.int k (k.wrap (a-b)))
 |.mul=>some (.int k (k.wrap (a*b)))
 |.and=>some (.int k (k.wrap (BitVec.ofInt k.bits a &&& BitVec.ofInt k.bits b).toNat))
 |.or=>some (.int k (k.wrap (BitVec.ofInt k.bits a ||| BitVec.ofInt k.bits b).toNat))
 |.xor=>some (.int k (k.wrap (BitVec.ofInt k.bits a ^^^ BitVec.ofInt k.bits b).toNat))
 |.andNot=>some (.int k (k.wrap (BitVec.ofInt k.bits a &&& ~~~BitVec.ofInt k.bits b).toNat))
 |_=>match cmp op a b with
  |some r=>some (.bool r)
  |none=>none
def sameKind:IntKind->IntKind->Bool
 |.i8,.i8 | .i16,.i16 | .i32,.i32 | .i64,.i64 | .u8,.u8 | .u16,.u16 | .u32,.u32 | .u64,.u64=>true
 |_,_=>false
def ym(op:BinOp)(k:IntKind)(a b:Int):Option Value :=
 match op with
 |.shl=>(match b with | .ofNat n=>some (.int k (k.wrap (a*2^(min n k.bits))))|_=>none)
 |.shr=>(match b with | .ofNat n=>some (.int k (a.fdiv (2^(min n k.bits))))|_=>none)
 |_=>none
def dV(sy:Sy)(o:Oper):Option SV :=
 match o.op with
 |.move x=>cu sy x
 |.assign x=>cu sy x
 |.pick c a b =>
  match cu sy c with
  |some (.s (.v (.bool true)))=>cu sy a
  |some (.s (.v (.bool false)))=>cu sy b
  |_=>none
 |.nilCheck x =>
  match cu sy x with
  |some (.s (.p id off))=>some (Pt id off)
  |_=>none
 |.load t x =>
  match cu sy x,aa bj t with
  |some (.s (.p id off)),some ty =>
   match aa sy.boxes id with
   |some (_,cs) =>
    bif ty.agg then
     (bif Nat.ble (off+ty.size) cs.length then
      (match plain ((cs.drop off).take ty.size)with
       |some vs=>some (V (.agg vs.toArray))
       |none=>none)
      else none)
    else cs[off]?
   |none=>none
  |_,_=>none
 |.fieldAddr s x f =>
  match cu sy x,aa bj s with
  |some (.s (.p id off)),some ⟨_,_,_,_,.struct fs⟩ =>
   match fs[f]? with
   |some (ru,qX,_)=>bif Nat.ble 1 qX then some (Pt id (off+ru))else none
   |none=>none
  |_,_=>none
 |.field s x f =>
  match cu sy x,aa bj s with
  |some (.s (.v (.agg cs))),some ⟨_,_,_,_,.struct fs⟩ =>
   match fs[f]? with
   |some (ru,qX,ft) =>
    match aa bj ft with
    |some ty=>bif ty.agg then(bif Nat.beq ty.size qX then some (V (.agg (cs.extract ru (ru+qX))))else none)else
     (match cs.toList[ru]? with|some v=>some (V v)|none=>none)
    |none=>none
   |none=>none
  |_,_=>none
 |.build t parts =>
  match aa bj t,plain ((parts.toList.map (λq=>(cu sy q.2).getD (Pt 0 0))))with
  |some ⟨_,_,z,_,.struct fs⟩,some vs =>
   match qY (λi=>(fs[i]?).map (λq=>(q.1,q.2.1))) ((parts.toList.map (·.1)).zip vs) z with
   |some cs=>some (V (.agg cs.toArray))
   |none=>none
  |some ⟨_,_,z,_,.array _ _ es⟩,some vs =>
   match qY (λi=>some (i*es,es)) ((parts.toList.map (·.1)).zip vs) z with
   |some cs=>some (V (.agg cs.toArray))
   |none=>none
  |_,_=>none
 |.extract t i =>
  match cu sy t with
  |some (.s (.v (.tuple vs)))=>match vs.toList[i]? with|some v=>some (V v)|none=>none
  |_=>none
 |.binOp op t x y _ =>
  match cu sy x,cu sy y with
  |some (.s (.v (.int k a))),some (.s (.v (.int k' b)))=>(match ym op k a b with|some v=>some (V v)|none=>bif sameKind k k' then(match arith op k a b with|some v=>some (V v)|none=>none)else none)
  |some (.s (.v (.bool a))),some (.s (.v (.bool b))) =>
   (match aa bj t with
    |some ⟨_,_,_,_,.bool⟩=>(match op with | .eql=>some (B (a==b)) | .neq=>some (B (a !=b))|_=>none)
    |_=>none)
  |some (.s (.v (.string a))),some (.s (.v (.string b)))=>(match op with | .eql=>some (B (a.data.toList==b.data.toList)) | .neq=>some (B (!(a.data.toList==b.data.toList)))|_=>none)
  |_,_=>none
 |.indexAddr t x y =>
  match cu sy x,cu sy y,aa bj t with
  |some (.s (.p id off)),some (.s (.v (.int _ (.ofNat i)))),some ⟨_,_,_,_,.array m _ es⟩=>bif Nat.blt i m then some (Pt id (off+i*es))else none
  |_,_,_=>none
 |.unOp op _ x =>
  match op,cu sy x with
  |.not,some (.s (.v (.bool b)))=>some (B (!b))
  |.neg,some (.s (.v (.int k n)))=>some (V (.int k (k.wrap (0-n))))
  |.xor,some (.s (.v (.int k n)))=>some (V (.int k (k.wrap (BitVec.ofInt k.bits (bif k.signed then -1 else k.max) ^^^ BitVec.ofInt k.bits n).toNat)))
  |_,_=>none
 |.convert src dst x =>
  match cu sy x,aa bj dst with
  |some (.s (.v (.int _ n))),some ⟨_,_,_,_,.int k⟩=>(match aa bj src with|some _=>some (V (.int k (k.wrap n)))|none=>none)
  |_,_=>none
 |.makeFunc fn first cap =>
  match j7 sy first.toList,j7 sy cap.toList with
  |some l,some m=>match QF l,QF m with
   |some l,some m=>some (.f fn l m)
   |_,_=>none
  |_,_=>none
 |.call { callee:=.builtin .len,args:=args,argTypes:=qo } =>
  match args.toList,qo.toList with
  |[x],[t] =>
   match cu sy x,aa bj t with
   |some (.s (.v (.slice _ n _))),some ⟨_,_,_,_,.slice _⟩=>some (I n)
   |some (.s (.v (.string s))),some ⟨_,_,_,_,.str⟩=>some (I s.size)
   |_,_=>none
  |_,_=>none
 |.call { callee:=.builtin .min,args:=args,argTypes:=qo } =>
  match args.toList with
  |[x,y] =>
   match cu sy x,cu sy y with
   |some (.s (.v (.int k a))),some (.s (.v (.int _ b)))=>some (V (.int k (if b<a then b else a)))
   |_,_=>none
  |_=>none
 |.call { callee:=.builtin .max,args:=args,argTypes:=qo } =>
  match args.toList with
  |[x,y] =>
   match cu sy x,cu sy y with
   |some (.s (.v (.int k a))),some (.s (.v (.int _ b)))=>some (V (.int k (if b>a then b else a)))
   |_,_=>none
  |_=>none
 |_=>none
def mD(id:Nat):S0->Bool
 |.p i _=>Nat.beq i id
 |_=>false
def names(id:Nat):SV->Bool
 |.s x=>mD id x
 |.f _ l m=>l.any (mD id)||m.any (mD id)
def CF(id:Nat)(sy:Sy):Bool :=
 sy.al.all (λq=>!names id q.2)&&sy.boxes.all (λq=>!Nat.beq q.1 id&&q.2.2.all (λc=>!names id c))
def GB(sy:Sy)(j d t:Nat)(cs:List SV):Option Sy :=
 bif CF j sy then some ⟨(d,Pt j 0)::sy.al,(j,(t,cs))::sy.boxes⟩else none
def Li(sy:Sy)(d t:Nat)(cs:List SV):Option Sy :=
 bif CF (d+1) sy then some ⟨(d,Pt (d+1) 0)::sy.al,(d+1,(t,cs))::sy.boxes⟩else none
def uK(mem:Bool)(sy:Sy)(o:Oper):Option Sy :=
 match dV bj sy o with
 |some v=>match o.dst with
  |some d=>some ⟨(d,v)::sy.al,sy.boxes⟩
  |none=>some sy
 |none =>
  bif mem then
   match o.op,o.dst with
   |.box t x,some d =>
    match cu sy x with
    |some v=>Li sy d t (cellsOf v)
    |none=>none
   |.alloc t,some d =>
    match aa bj t with
    |some ty=>Li sy d t (ty.zero.map V)
    |none=>none
   |.store t x y,none =>
    match cu sy x,cu sy y,aa bj t with
    |some (.s (.p id off)),some v,some ty =>
     match aa sy.boxes id with
     |some (bt,cs) =>
      bif Nat.beq (cellsOf v).length ty.size&&Nat.ble (off+(cellsOf v).length) cs.length&&(cellsOf v).all (λc=>match c with | .s (.v (.agg _))=>false | .s (.v (.tuple _))=>false|_=>true)then
       some ⟨sy.al,(id,(bt,wr cs off (cellsOf v)))::sy.boxes⟩else none
     |none=>none
    |_,_,_=>none
   |_,_=>none
  else none
def oT(all:List Oper)(j:Nat):Option Nat :=
 match all[j]? with
 |some o=>o.dst
 |none=>none
def th(mem:Bool)(all:List Oper):List Oper->Sy->Option Sy
 |[],sy=>some sy
 |o::rest,sy =>
  match o.guard with
  |none=>match uK bj mem sy o with
   |some sy'=>th mem all rest sy'
   |none=>none
  |some (j,want) =>
   match oT all j with
   |some tc =>
    match aa sy.al tc with
    |some (.s (.v (.bool b))) =>
     bif b==want then(match uK bj mem sy o with
      |some sy'=>th mem all rest sy'
      |none=>none)
     else(match o.dst with
      |some d=>th mem all rest ⟨(d,V undef)::sy.al,sy.boxes⟩
      |none=>th mem all rest sy)
    |some (.s (.v (.tuple _))) =>
     (match o.dst with
      |some d=>th mem all rest ⟨(d,V undef)::sy.al,sy.boxes⟩
      |none=>th mem all rest sy)
    |_=>none
   |none=>none
end sym
structure Ev (p:Nat->Bool) (w:World) (χ:Nat->Nat) (w':World) (χ':Nat->Nat):Prop where
 os:w'.os=w.os
 tape:w'.tape=w.tape
 output:w'.output=w.output
 size:w.heap.size<=w'.heap.size
 keep:∀b,b<w.heap.size->p (χ b)=false->w'.heap[b]?=w.heap[b]?/\χ' b=χ b
theorem Ev.refl(p:Nat->Bool)(w:World)(χ:Nat->Nat):Ev p w χ w χ:=⟨rfl,rfl,rfl,aK _,λ_ _ _=>⟨rfl,rfl⟩⟩
theorem Ev.trans{p:Nat->Bool}{w w1 w2:World}{χ χ1 χ2:Nat->Nat}(h:Ev p w χ w1 χ1)(k:Ev p w1 χ1 w2 χ2):Ev p w χ w2 χ2 :=
 ⟨k.os.trans h.os,k.tape.trans h.tape,k.output.trans h.output,bP h.size k.size,λb hb hp=>by
  obtain⟨h1,h2⟩:=h.keep b hb hp;obtain⟨k1,k2⟩:=k.keep b (dH hb h.size) (by rw[h2];exact hp);exact⟨k1.trans h1,k2.trans h2⟩⟩
def jo(c:Nat):Bool:=Nat.ble 1 c&&Nat.ble c 999
def eN(_:Nat):Bool:=false
def gK(k c:Nat):Bool:=Nat.beq c k
structure St (n:Nat) (sy:Sy) (ρ:Nat->Nat) (a:Act) (w:World) (χ:Nat->Nat):Prop where
 size:a.tmps.size=n
 defers:a.defers=[]
 al:∀t sv,aa sy.al t=some sv->a.tmps[t]?=some (aP ρ sv)
 boxes:∀id q,aa sy.boxes id=some q->χ (ρ id)=id/\jo id=true/\w.heap[ρ id]?=some (.cells (q.2.map (aP ρ)).toArray q.1 (0,0))
section
variable{P:Program}{bj:oQ}{n:Nat}{sy:Sy}{ρ:Nat->Nat}{a:Act}{w:World}{χ:Nat->Nat}
theorem St.cu(h:St n sy ρ a w χ){x:Operand}{sv:SV}(e:cu sy x=some sv):a.eval x=aP ρ sv:=by
 cases x with
 |tmp t=>have:=h.al t sv e;simp[Act.eval,Array.getD_eq_getD_getElem?,this]
 |const v=>simp[Sv.cu]at e;subst e;rfl
 |global g=>simp[Sv.cu]at e
 |func f=>simp[Sv.cu]at e;subst e;rfl
theorem St.j7(h:St n sy ρ a w χ):∀{l:List Operand} {r:List SV},j7 sy l=some r->l.map a.eval=r.map (aP ρ)
 |[],r,e=>by simp[Sv.j7]at e;subst e;rfl
 |x::l,r,e=>by
  simp only[Sv.j7]at e;cases h1:Sv.cu sy x with
  |none=>simp[h1]at e
  |some v =>
   cases h2:Sv.j7 sy l with
   |none=>simp[h1,h2]at e
   |some q=>simp[h1,h2]at e;subst e;simp[h.cu h1,h.j7 h2]
theorem xw:∀{l:List SV} {vs:List Value},plain l=some vs->l=vs.map V
 |[],vs,e=>by simp[plain]at e;subst e;rfl
 |.s (.v x)::l,vs,e=>by
  simp only[plain]at e;cases h:plain l with
  |none=>simp[h]at e
  |some r=>simp[h]at e;subst e;rw[xw h];rfl
 |.s (.p _ _)::l,vs,e=>by simp[plain]at e
 |.f _ _ _::l,vs,e=>by simp[plain]at e
theorem B1:∀{l:List SV} {r:List S0},QF l=some r->l.map (aP ρ)=r.map (bT ρ)
 |[],r,e=>by simp[QF]at e;subst e;rfl
 |.s x::l,r,e=>by
  simp only[QF]at e;cases h:QF l with
  |none=>simp[h]at e
  |some q=>simp[h]at e;subst e;simp[B1 h,aP]
 |.f _ _ _::l,r,e=>by simp[QF]at e
@[simp] theorem lV(ρ:Nat->Nat)(vs:List Value):(vs.map V).map (aP ρ)=vs:=by
 induction vs with
 |nil=>rfl
 |cons x l ih=>rw[ba,ba,ih];rfl
theorem dw{α:Type}{b:Bool}{x y:α}(h:(bif b then some x else none)=some y):b=true/\x=y:=by
 cases b<;>simp_all
def isA:TypeDesc->Bool
 |.struct _=>true
 |.array _ _=>true
 |_=>false
theorem a8{t:Nat}{s:sX}(h:Wg P t=some s):∃i d z,P.info? t=some i/\P.underlying t=some d/\i.zero=some z/\i.size=s.size/\i.bytes=s.bytes/\z.cells.toList=s.zero /\
  s.agg=(isA d) /\
  (∀fs,s.d=.struct fs->∃l,d=.struct l/\l.toList.mapM (λf=>(P.info? f.type).map (λj=>(f.offset,j.size,f.type)))=some fs) /\
  (∀n e es,s.d=.array n e es->d=.array n e/\∃j,P.info? e=some j/\j.size=es) /\
  (∀k,s.d=.int k->d=.int k)/\(∀e,s.d=.slice e->d=.slice e)/\(s.d=.str->d=.string)/\(s.d=.bool->d=.bool):=by
 unfold Wg at h;cases hi:P.info? t with
 |none=>simp[hi]at h
 |some i =>
  cases hd:P.underlying t with
  |none=>simp[hi,hd]at h
  |some d =>
   cases hz:i.zero with
   |none=>simp[hi,hd,hz]at h
   |some z =>
    simp only[hi,hd,hz]at h;refine⟨i,d,z,rfl,rfl,hz,?_⟩;cases d with
    |struct fs =>
     simp only[]at h;split at h
     .rename_i l hl;simp at h;subst h;refine⟨rfl,rfl,rfl,rfl,?_,by simp,by simp,by simp,by simp,by simp⟩;intro fs' hf;simp at hf;subst hf;exact⟨fs,rfl,hl⟩
     .simp at h
    |array n e =>
     simp only[]at h;split at h
     .rename_i j hj;simp at h;subst h;refine⟨rfl,rfl,rfl,rfl,by simp,?_,by simp,by simp,by simp,by simp⟩;intro n' e' es hf;simp at hf;obtain⟨rfl,rfl,rfl⟩:=hf;exact⟨rfl,j,hj,rfl⟩
     .simp at h
    |_=>simp at h;subst h;simp_all[isA]
theorem sj{α β:Type}{f:α->Option β}:∀{l:List α} {r:List β},l.mapM f=some r->∀(i:Nat)(y:β),r[i]?=some y->∃x,l[i]?=some x/\f x=some y
 |[],r,h,i,y,hy=>by simp at h;subst h;simp at hy
 |x::l,r,h,i,y,hy=>by
  simp only[kX,bind,qp,pure]at h;obtain⟨b,hb,q,hq,hr⟩:=h;simp at hr;subst hr;cases i with
  |zero=>simp at hy;subst hy;exact⟨x,by simp,hb⟩
  |succ i=>simp at hy;obtain⟨x',h1,h2⟩:=sj hq i y hy;exact⟨x',by simpa using h1,h2⟩
theorem aA{α:Type}{k:Nat}{v:α}{l:List (Nat×α)}{t:Nat}{x:α}(h:aa ((k,v)::l) t=some x):(k=t/\v=x)∨(k≠t/\aa l t=some x):=by
 simp only[aa]at h;cases hb:Nat.beq k t with
 |true=>rw[hb]at h;simp at h;exact .inl ⟨aD hb,h⟩
 |false=>rw[hb]at h;simp at h;exact .inr ⟨λe=>by rw[e]at hb;simp at hb,h⟩
theorem St.put(h:St n sy ρ a w χ){d:Nat}(hd:d<n){sv:SV}:St n ⟨(d,sv)::sy.al,sy.boxes⟩ ρ (a.put (some d) (aP ρ sv)) w χ:=by
 refine⟨by simp[Act.put,h.size],h.defers,?_,h.boxes⟩;intro t sv' e;rcases aA e with⟨rfl,rfl⟩|⟨hne,e'⟩
 .simp[Act.put,h.size,hd]
 .simp only[Act.put];rw[jL hne];exact h.al t sv' e'
theorem run_sizeOf{t:Nat}{i:TypeInfo}(h:P.info? t=some i):(sizeOf t).run P w=.ok i.size w:=by simp[sizeOf,typeInfo,h]
theorem ig{t:Nat}{d:TypeDesc}(h:P.underlying t=some d):(isAgg t).run P w=.ok (isA d) w:=by
 simp only[isAgg,bU,aH h,bW];cases d<;>rfl
theorem JN{b:Nat}{cs:List Value}{t:Nat}(h:w.heap[b]?=some (.cells cs.toArray t (0,0)))(off:Nat):w.cell? ⟨b,off,none⟩=cs[off]?:=by
 simp[World.cell?,h]
theorem lH{t b off:Nat}{i:TypeInfo}{d:TypeDesc}{cs:List Value}{bt:Nat}(hi:P.info? t=some i)(hd:P.underlying t=some d)
  (ha:isA d=true) (hb:w.heap[b]?=some (.cells cs.toArray bt (0,0))) (hl:off+i.size<=cs.length) :
  (loadVar t ⟨b,off,none⟩).run P w=.ok (.agg ((cs.drop off).take i.size).toArray) w:=by
 simp only[loadVar,bU,ig hd,ha,bW,if_true,run_sizeOf hi];have hlen:((cs.drop off).take i.size).length=i.size:=by simp;omega
 have:=run_loadCells_list (P:=P) w ⟨b,off,none⟩ ((cs.drop off).take i.size) (λj v hj=>by
  rw[Addr.add_lit,JN hb];rw[bQ]at hj;split at hj
  .simpa[Nat.add_comm]using hj
  .cases hj)
 rw[hlen]at this;simp[this]
theorem lG{t b off:Nat}{d:TypeDesc}{cs:List Value}{bt:Nat}{v:Value}(hd:P.underlying t=some d)
  (ha:isA d=false) (hb:w.heap[b]?=some (.cells cs.toArray bt (0,0))) (hl:cs[off]?=some v) :
  (loadVar t ⟨b,off,none⟩).run P w=.ok v w:=by
 simp only[loadVar,bU,ig hd,ha,bW];have:=JN hb off;rw[hl]at this;simp[this]
theorem fQ{k k':IntKind}(h:sameKind k k'=true):k=k':=by
 cases k<;>cases k'<;>first|rfl|(simp[sameKind]at h)
theorem OJ{op:BinOp}{k:IntKind}{p q:Int}{v:Value}(t:Nat)(h:arith op k p q=some v):(binOp op t (.int k p) (.int k q)).run P w=.ok v w:=by
 cases op<;>simp[arith,cmp]at h<;>subst h<;>simp[binOp,Op.intArith,Op.intCmp,Op.intBits]
theorem HR{op:BinOp}{k k':IntKind}{p q:Int}{v:Value}(t:Nat)(h:ym op k p q=some v):(binOp op t (.int k p) (.int k' q)).run P w=.ok v w:=by
 cases op<;>simp only[ym]at h<;>try (cases h;done)
 all_goals
  split at h
  .rename_i n;simp at h;subst h;simp[binOp,Op.shift];intro h;omega
  .cases h
theorem ik(op:BinOp)(t:Nat)(x y:Operand)(k:IntKind)(p:Int)(v:Value):(eqGuard op t x y (.int k p) v).run P w=.ok () w:=by
 rw[eqGuard_at_int];rfl
theorem lW(place:Nat->Option (Nat×Nat)):∀(l:List (Nat×Value)) (cs r:List Value),qY place l cs=some r->Instr.fill place cs.toArray l=some r.toArray
 |[],cs,r,h=>by simp[qY]at h;subst h;rfl
 |(i,v)::rest,cs,r,h=>by
  simp only[qY]at h;simp only[Instr.fill];cases hp:place i with
  |none=>simp[hp]at h
  |some q =>
   obtain⟨off,size⟩:=q;simp only[hp]at h ⊢; cases hc:(Nat.beq v.cells.size size&&Nat.ble (off+size) cs.length)with
   |false=>simp[hc]at h
   |true =>
    simp only[hc,cG]at h;rw[ak]at hc;have h1:v.cells.size=size:=aD hc.1;have h2:off+size<=cs.length:=aB hc.2;subst h1;have hw:(decide (v.cells.size≠v.cells.size)||decide (off+v.cells.size>cs.toArray.size))=false:=by simp;omega
    rw[if_neg (by simpa using h2)];have key:(v.cells.zipIdx.foldl (λcs (c,j)=>cs.setIfInBounds (off+j) c) cs.toArray)=(cs.take off++v.cells.toList++cs.drop (off+v.cells.size)).toArray:=by
     have gen:∀(l:List Value)(j:Nat)(cur:List Value),off+j+l.length<=cur.length ->
      (l.zipIdx j).foldl (λ(cs:Array Value)(c:Value×Nat)=>cs.setIfInBounds (off+c.2) c.1) cur.toArray=(cur.take (off+j)++l++cur.drop (off+j+l.length)).toArray:=by
      intro l
      induction l with
      |nil=>intro j cur _;simp
      |cons c l ih =>
       intro j cur hl;simp only[List.zipIdx_cons,List.foldl_cons,bc]at hl ⊢; have e:cur.toArray.setIfInBounds (off+j) c=(cur.set (off+j) c).toArray:=by simp
       rw[e,ih (j+1) (cur.set (off+j) c) (by simp;omega)];congr 1;apply mM;intro m;simp only[bV,List.getElem?_append,bH,List.length_set,bQ,List.getElem?_set,eJ,List.getElem?_cons,bc];have hlen:off+j<cur.length:=by omega
       by_cases c1:m<off+j
       .simp[show m<min (off+(j+1)) cur.length by omega,show m<min (off+j) cur.length by omega,c1,show m<off+(j+1) by omega,show ¬off+j=m by omega]
       .by_cases c2:m=off+j
        .subst c2;simp[show off+j<min (off+(j+1)) cur.length by omega,hlen,show min (off+j) cur.length=off+j by omega,show off+j<off+(j+1) by omega]
        .have c3:¬m<min (off+(j+1)) cur.length:=by omega
         have c4:¬m<min (off+j) cur.length:=by omega
         simp only[c3,c4,gI];rw[show min (off+(j+1)) cur.length=off+j+1 by omega,show min (off+j) cur.length=off+j by omega];by_cases c5:m-(off+j+1)<l.length
         .simp[c5,show m-(off+j)<l.length+1 by omega,show ¬m-(off+j)=0 by omega,show m-(off+j)-1=m-(off+j+1) by omega]
         .simp only[c5,gI];rw[if_neg (by omega)];rw[if_neg (by omega)];congr 1;omega
     have:=gen v.cells.toList 0 cs (by simpa using h2);simp only[c9,cm]at this;rw[←this];rw[←Array.foldl_toList];simp[Array.toList_zipIdx]
    rw[key];exact lW place rest _ r h
theorem wW(h:St n sy ρ a w χ):∀(l:List (Nat×Operand)) (vs:List Value),plain (l.map (λq=>(cu sy q.2).getD (Pt 0 0)))=some vs ->
  l.map (λq=>(q.1,a.eval q.2))=(l.map (·.1)).zip vs
 |[],vs,e=>by simp[plain]at e;subst e;rfl
 |q::l,vs,e=>by
  simp only[ba]at e;cases hq:cu sy q.2 with
  |none=>simp[hq,plain,Pt]at e
  |some sv =>
   rw[hq]at e;simp only[Option.getD_some]at e
   match sv,hq,e with
   |.s (.v x),hq,e =>
    simp only[plain]at e;cases hr:plain (l.map (λq=>(cu sy q.2).getD (Pt 0 0)))with
    |none=>simp[hr]at e
    |some r=>simp[hr]at e;subst e;simp[wW h l r hr,h.cu hq,aP,bT]
   |.s (.p _ _),hq,e=>simp[plain]at e
   |.f _ _ _,hq,e=>simp[plain]at e
theorem AJ{fs:Array Field}{l:List (Nat×Nat×Nat)}(h:fs.toList.mapM (λf=>(P.info? f.type).map (λj=>(f.offset,j.size,f.type)))=some l):
  (fs.mapM (λf=>(do pure (f.offset,←sizeOf f.type):Sem (Nat×Nat)))).run P w=.ok (l.map (λq=>(q.1,q.2.1))).toArray w:=by
 have gen:∀(fl:List Field)(l:List (Nat×Nat×Nat)),fl.mapM (λf=>(P.info? f.type).map (λj=>(f.offset,j.size,f.type)))=some l ->
  (fl.mapM (λf=>(do pure (f.offset,←sizeOf f.type):Sem (Nat×Nat)))).run P w=.ok (l.map (λq=>(q.1,q.2.1))) w:=by
  intro fl
  induction fl with
  |nil=>intro l h;simp at h;subst h;rfl
  |cons f fl ih=>intro l h;simp only[kX,bind,qp,pure]at h;obtain⟨b,hb,q,hq,hr⟩:=h;simp at hr;subst hr;simp only[pH]at hb;obtain⟨j,hj,rfl⟩:=hb;simp only[kX,bU,run_sizeOf hj,bW,cM,ih q hq,ba]
 rw[Array.mapM_eq_mapM_toList,Sem.run_map,gen _ _ h];rfl
theorem yh(hT:dD P bj)(h:St n sy ρ a w χ){o:Oper}{sv:SV}(e:dV bj sy o=some sv):(execOp a.eval o).run P w=.ok (.value (aP ρ sv)) w:=by
 obtain⟨dst,op,ty,pos,after,guard⟩:=o;cases op with
 |move x=>simp only[dV]at e;simp[execOp,h.cu e]
 |assign x=>simp only[dV]at e;simp[execOp,h.cu e]
 |pick c x y =>
  simp only[dV]at e;split at e
  .rename_i hc;simp[execOp,h.cu hc,h.cu e,aP,bT,asBool]
  .rename_i hc;simp[execOp,h.cu hc,h.cu e,aP,bT,asBool]
  .cases e
 |nilCheck x =>
  simp only[dV]at e;split at e
  .rename_i id off hx;simp at e;subst e;simp[execOp,h.cu hx,aP,bT]
  .cases e
 |load t x =>
  simp only[dV]at e;split at e
  .rename_i id off tyq hx ht;split at e
   .rename_i bt cs hb;obtain⟨i,d,z,hi,hd,hz,hs,lZ,lx,iA,_⟩:=a8 (hT _ _ ht);obtain⟨_,_,gk⟩:=h.boxes _ _ hb;cases ha:tyq.agg with
    |true =>
     simp only[ha,cG]at e;cases hle:Nat.ble (off+tyq.size) cs.length with
     |false=>simp[hle]at e
     |true =>
      simp only[hle,cG]at e;split at e
      .rename_i vs hp;simp at e;subst e;have A9:=xw hp;have:=lH (P:=P) (w:=w) (off:=off) hi hd (by rw[←iA,ha]) gk (by simp[hs];exact aB hle);rw[←List.map_drop,←List.map_take,hs,A9,lV]at this;simp[execOp,h.cu hx,aP,bT,Instr.loadAt,Instr.sureAddr,this]
      .cases e
    |false=>simp only[ha,eQ]at e;have:=lG (P:=P) (w:=w) (off:=off) (v:=aP ρ sv) hd (by rw[←iA,ha]) gk (by simp[e]);simp[execOp,h.cu hx,aP,bT,Instr.loadAt,Instr.sureAddr,this]
   .cases e
  .cases e
 |fieldAddr s x f =>
  simp only[dV]at e;split at e
  .rename_i id off sz xS z ag fs hx ht;split at e
   .rename_i ru qX ft hf;obtain⟨i,d,z,hi,hd,hz,hs,lZ,lx,iA,im,_⟩:=a8 (hT _ _ ht);obtain⟨acw,Fe⟩:=dw e;subst Fe;obtain⟨l,rfl,hm⟩:=im fs rfl;obtain⟨fd,GY,Ki⟩:=sj hm f _ hf;simp only[pH,Prod.mk.injEq]at Ki;obtain⟨j,hj,rfl,rfl,rfl⟩:=Ki;have hne:¬j.size=0:=by have:=aB acw;omega
    simp only[iD]at GY;simp[execOp,h.cu hx,aP,bT,Instr.fieldAt,aH hd,GY,Instr.sureAddr,fieldPlace,run_sizeOf hj,hne,Addr.add_lit]
   .cases e
  .cases e
 |field s x f =>
  simp only[dV]at e;split at e
  .rename_i cs sz xS z ag fs hx ht;split at e
   .rename_i ru qX ft hf;obtain⟨i,d,z,hi,hd,hz,hs,lZ,lx,iA,im,_⟩:=a8 (hT _ _ ht);obtain⟨l,rfl,hm⟩:=im fs rfl;obtain⟨fd,GY,Ki⟩:=sj hm f _ hf;simp only[pH,Prod.mk.injEq]at Ki;obtain⟨j,hj,rfl,rfl,rfl⟩:=Ki;simp only[iD]at GY;split at e
    .rename_i tyf hft;obtain⟨i2,d2,z2,hi2,ZW,IW,hs2,amm,alC,yW,_⟩:=a8 (hT _ _ hft);cases ha:tyf.agg with
     |true=>simp only[ha,cG]at e;obtain⟨asd,Fe⟩:=dw e;subst Fe;rw[hj]at hi2;cases hi2;rw[ha]at yW;simp[execOp,h.cu hx,aP,bT,Instr.field,aH hd,GY,asAgg,part,ig ZW,←yW,run_sizeOf hj]
     |false =>
      simp only[ha,eQ]at e;split at e
      .rename_i v hv;simp at e;subst e;rw[ha]at yW;simp only[iD]at hv;simp[execOp,h.cu hx,aP,bT,Instr.field,aH hd,GY,asAgg,part,ig ZW,←yW,hv]
      .cases e
    .cases e
   .cases e
  .cases e
 |build t parts =>
  simp only[dV]at e;have I7:∀vs,plain (parts.toList.map (λq=>(cu sy q.2).getD (Pt 0 0)))=some vs->(parts.map λ(i,x)=>(i,a.eval x)).toList=(parts.toList.map (·.1)).zip vs:=by intro vs hv;rw[←wW h _ _ hv];simp
  split at e
  .rename_i sz xS z ag fs vs ht hp;obtain⟨i,d,zv,hi,hd,hz,hs,lZ,lx,iA,im,_⟩:=a8 (hT _ _ ht);obtain⟨l,rfl,hm⟩:=im fs rfl;split at e
   .rename_i cs hf;simp at e;subst e;have qV:=lW _ _ _ _ hf;have hzero:(zeroValue t).run P w=.ok zv w:=by simp[zeroValue,typeInfo,hi,hz]
    have jZ:zv.cells=z.toArray:=by simp only[]at lx;rw[←lx]
    have A9:=AJ (P:=P) (w:=w) hm;have Uu:(λ(i:Nat)=>(List.map (λq:Nat×Nat×Nat=>(q.1,q.2.1)) fs).toArray[i]?)=(λ(i:Nat)=>(fs[i]?).map (λq:Nat×Nat×Nat=>(q.1,q.2.1))):=by funext i;simp
    simp only[execOp,Instr.build,bU,hzero,bW,aH hd,A9,cM,I7 _ hp,jZ,Uu,qV,aP,bT]
   .cases e
  .rename_i sz xS z ag nn ee es vs ht hp;obtain⟨i,d,zv,hi,hd,hz,hs,lZ,lx,iA,_,PU,_⟩:=a8 (hT _ _ ht);obtain⟨rfl,j,hj,rfl⟩:=PU _ _ _ rfl;split at e
   .rename_i cs hf;simp at e;subst e;have qV:=lW _ _ _ _ hf;have hzero:(zeroValue t).run P w=.ok zv w:=by simp[zeroValue,typeInfo,hi,hz]
    have jZ:zv.cells=z.toArray:=by simp only[]at lx;rw[←lx]
    simp only[execOp,Instr.build,bU,hzero,bW,aH hd,run_sizeOf hj,cM,I7 _ hp,jZ,qV,aP,bT]
   .cases e
  .cases e
 |extract t i =>
  simp only[dV]at e;split at e
  .rename_i vs hx;split at e
   .rename_i v hv;simp at e;subst e;simp only[iD]at hv;simp[execOp,h.cu hx,aP,bT,Instr.extract,hv]
   .cases e
  .cases e
 |binOp op t x y yt =>
  simp only[dV]at e;split at e
  .rename_i k p k' q hx hy;split at e
   .rename_i v hv;simp at e;subst e;simp[execOp,h.cu hx,h.cu hy,aP,bT,ik,HR t hv]
   cases hk:sameKind k k' with
   |false=>simp[hk]at e
   |true =>
    have:=fQ hk;subst this;simp only[hk,cG]at e;split at e
    .rename_i v hv;simp at e;subst e;simp[execOp,h.cu hx,h.cu hy,aP,bT,ik,OJ t hv]
    .cases e
  .rename_i p q hx hy;split at e
   .rename_i sz xS z ag ht;obtain⟨i,d,zv,hi,hd,hz,hs,lZ,lx,iA,_,_,_,_,_,hbo⟩:=a8 (hT _ _ ht);obtain rfl:=hbo rfl;have hg:(eqGuard op t x y (.bool p) (.bool q)).run P w=.ok () w:=by rw[eqGuard_at_bool];rfl
    have hq:(Op.equal t (.bool p) (.bool q)).run P w=.ok (p==q) w:=by simp[Op.equal,Op.maxDepth,run_equalIn_bool' w 9999 t p q hd]
    split at e
    .simp at e;subst e;simp[execOp,h.cu hx,h.cu hy,aP,bT,hg,binOp,hq]
    .simp at e;subst e;simp[execOp,h.cu hx,h.cu hy,aP,bT,hg,binOp,hq,bne]
    .cases e
   .cases e
  .rename_i p q hx hy;have hg:(eqGuard op t x y (.string p) (.string q)).run P w=.ok () w:=by rw[eqGuard_at_string];rfl
   split at e
   .simp at e;subst e;simp[execOp,h.cu hx,h.cu hy,aP,bT,hg,binOp,Op.stringOp,ByteArray.toList_eq]
   .simp at e;subst e;simp[execOp,h.cu hx,h.cu hy,aP,bT,hg,binOp,Op.stringOp,ByteArray.toList_eq]
   .cases e
  .cases e
 |indexAddr t x y =>
  simp only[dV]at e;split at e
  .rename_i id off k i sz xS z ag m el es hx hy ht;obtain⟨inf,d,zv,hi,hd,hz,hs,lZ,lx,iA,_,PU,_⟩:=a8 (hT _ _ ht);obtain⟨rfl,j,hj,rfl⟩:=PU _ _ _ rfl;obtain⟨eB,Fe⟩:=dw e;subst Fe;have XQ:i<m:=aB eB;simp[execOp,h.cu hx,h.cu hy,aP,bT,Instr.indexAt,asIntOf,aH hd,Instr.sureAddr,XQ,run_sizeOf hj,Addr.add_lit]
  .cases e
 |unOp op t x =>
  simp only[dV]at e;split at e
  .rename_i b hx;simp at e;subst e;simp[execOp,h.cu hx,aP,bT,Op.unary]
  .rename_i k m hx;simp at e;subst e;simp[execOp,h.cu hx,aP,bT,Op.unary,Op.intArith]
  .rename_i k m hx;simp at e;subst e;have hc:(if k.signed=true then(-1:Int)else k.max)=(bif k.signed then -1 else k.max):=by cases k.signed<;>rfl
   simp[execOp,h.cu hx,aP,bT,Op.unary,Op.intBits,hc]
  .cases e
 |convert src dst x =>
  simp only[dV]at e;split at e
  .rename_i k0 m sz xS z ag k hx ht;obtain⟨i,d,zv,hi,hd,hz,hs,lZ,lx,iA,_,_,hk,_⟩:=a8 (hT _ _ ht);obtain rfl:=hk _ rfl;split at e
   .rename_i ts QN;obtain⟨i',d',zv',lg,hd',_⟩:=a8 (hT _ _ QN);simp at e;subst e;simp[execOp,h.cu hx,aP,bT,convert,aH hd,aH hd',Conv.intToInt]
   .cases e
  .cases e
 |makeFunc fn first cap =>
  simp only[dV]at e;split at e
  .rename_i l m hl hm;split at e
   .rename_i l' m' hl' PJ;simp at e;subst e;have e1:first.map a.eval=(l'.map (bT ρ)).toArray:=by rw[←B1 hl',←h.j7 hl,←Array.toList_map]
    have e2:cap.map a.eval=(m'.map (bT ρ)).toArray:=by rw[←B1 PJ,←h.j7 hm,←Array.toList_map]
    simp[execOp,aP,Instr.makeFunc,e1,e2]
   .cases e
  .cases e
 |call c =>
  obtain⟨callee,args,qo⟩:=c;cases callee with
  |builtin b =>
   cases b<;>simp only[dV]at e<;>try (cases e;done)
   case min =>
    split at e
    .rename_i x y Fh;have ha:args=#[x,y]:=by rw[←dI (xs:=args),Fh]
     subst ha;split at e
     .rename_i k p k' q hx hy;simp at e;subst e;simp[execOp,resolve,invoke,builtin,h.cu hx,h.cu hy,aP,bT,Builtin.min_,Builtin.min2]
     .cases e
    .cases e
   case max =>
    split at e
    .rename_i x y Fh;have ha:args=#[x,y]:=by rw[←dI (xs:=args),Fh]
     subst ha;split at e
     .rename_i k p k' q hx hy;simp at e;subst e;simp[execOp,resolve,invoke,builtin,h.cu hx,h.cu hy,aP,bT,Builtin.max_,Builtin.max2]
     .cases e
    .cases e
   split at e
   .rename_i x t Fh LD;have ha:args=#[x]:=by rw[←dI (xs:=args),Fh]
    have hb:qo=#[t]:=by rw[←dI (xs:=qo),LD]
    subst ha;subst hb;split at e
    .rename_i ad m cp sz xS z ag el hx ht;obtain⟨i,d,zv,hi,hd,hz,hs,lZ,lx,iA,_,_,_,Uf,_⟩:=a8 (hT _ _ ht);obtain rfl:=Uf _ rfl;simp at e;subst e;simp[execOp,resolve,invoke,builtin,h.cu hx,aP,bT,Builtin.len_,aH hd,goInt]
    .rename_i s sz xS z ag hx ht;obtain⟨i,d,zv,hi,hd,hz,hs,lZ,lx,iA,_,_,_,_,im,_⟩:=a8 (hT _ _ ht);obtain rfl:=im rfl;simp at e;subst e;simp[execOp,resolve,invoke,builtin,h.cu hx,aP,bT,Builtin.len_,aH hd,goInt]
    .cases e
   .cases e
  |_=>simp[dV]at e
 |_=>simp[dV]at e
theorem Fv{id b:Nat}{x:S0}(h:mD id x=false):bT (λi=>if i=id then b else ρ i) x=bT ρ x:=by
 cases x with
 |v x=>rfl
 |p i off =>
  have:i≠id:=λe=>by subst e;simp[mD]at h
  simp[bT,this]
theorem xU{id b:Nat}:∀{l:List S0},l.any (mD id)=false->l.map (bT (λi=>if i=id then b else ρ i))=l.map (bT ρ)
 |[],_=>rfl
 |x::l,h=>by simp only[fB,cO]at h;simp[Fv h.1,xU h.2]
theorem JG{id b:Nat}{x:SV}(h:names id x=false):aP (λi=>if i=id then b else ρ i) x=aP ρ x:=by
 cases x with
 |s x=>exact Fv h
 |f fn l m=>simp only[names,cO]at h;simp[aP,xU h.1,xU h.2]
theorem ct{α:Type}:∀{l:List (Nat×α)} {t:Nat} {x:α},aa l t=some x->(t,x)∈l
 |[],_,_,h=>by cases h
 |(k,v)::l,t,x,h=>by
  rcases aA h with⟨rfl,rfl⟩|⟨_,h'⟩
  .simp
  .exact aw _ (ct h')
theorem St.aht(h:St n sy ρ a w χ){j d t:Nat}{cs:List SV}{sy':Sy}(hd:d<n)(hx:jo j=true)(e:GB sy j d t cs=some sy')(sU:∀c∈cs,names (j) c=false):
  St n sy' (λi=>if i=j then w.heap.size else ρ i) (a.put (some d) (.pointer (some ⟨w.heap.size,0,none⟩))) (w.alloc (.cells (cs.map (aP ρ)).toArray t))
   (λb=>if b=w.heap.size then j else if χ b=j then 999 else χ b) /\
  Ev jo w χ (w.alloc (.cells (cs.map (aP ρ)).toArray t)) (λb=>if b=w.heap.size then j else if χ b=j then 999 else χ b):=by
 unfold GB at e;obtain⟨hno,rfl⟩:=dw e;simp only[CF,ak,aO]at hno;obtain⟨hr,hb⟩:=hno;have I7:∀l:List SV,(∀c∈l,names (j) c=false)->l.map (aP (λi=>if i=j then w.heap.size else ρ i))=l.map (aP ρ):=λl hl=>List.map_congr_left λc hc=>JG (hl c hc);refine⟨⟨by simp[Act.put,h.size],h.defers,?_,?_⟩,⟨rfl,rfl,rfl,by simp,?_⟩⟩
 .intro t' sv' e';rcases aA e' with⟨rfl,rfl⟩|⟨hne,xZ⟩
  .simp[Act.put,h.size,hd,aP,bT]
  .have XO:=hr _ (ct xZ);simp only[eI]at XO;rw[JG XO];simp only[Act.put];rw[jL hne];exact h.al t' sv' xZ
 .intro id q e';rcases aA e' with⟨rfl,rfl⟩|⟨hne,xZ⟩
  .refine⟨by simp,hx,?_⟩;simp only[if_true];rw[I7 cs sU];exact heap_alloc_new w _
  .obtain⟨h1,h2,h3⟩:=h.boxes id q xZ;have agm:id≠j:=λe=>hne e.symm;have XO:=hb _ (ct xZ);simp only[eI]at XO;have eB:ρ id<w.heap.size:=(gw.1 h3).1;refine⟨?_,h2,?_⟩
   .simp[agm,h1,Nat.ne_of_lt eB]
   .simp only[agm,gI];rw[I7 _ XO.2,heap_alloc_old w _ eB];exact h3
 .intro b rr hp;refine⟨heap_alloc_old w _ rr,?_⟩;have:χ b≠j:=λe=>by rw[e,hx]at hp;cases hp
  simp[Nat.ne_of_lt rr,this]
theorem St.box(h:St n sy ρ a w χ){d t:Nat}{cs:List SV}{sy':Sy}(hd:d<n)(hx:jo (d+1)=true)(e:Li sy d t cs=some sy')(sU:∀c∈cs,names (d+1) c=false):
  St n sy' (λi=>if i=d+1 then w.heap.size else ρ i) (a.put (some d) (.pointer (some ⟨w.heap.size,0,none⟩))) (w.alloc (.cells (cs.map (aP ρ)).toArray t))
   (λb=>if b=w.heap.size then d+1 else if χ b=d+1 then 999 else χ b) /\
  Ev jo w χ (w.alloc (.cells (cs.map (aP ρ)).toArray t)) (λb=>if b=w.heap.size then d+1 else if χ b=d+1 then 999 else χ b):=h.aht hd hx e sU
theorem pg(v:SV):(aP ρ v).cells.toList=(cellsOf v).map (aP ρ):=by
 match v with
 |.s (.v (.agg cs))=>simp only[cellsOf,lV];rfl
 |.s (.v (.bool _)) | .s (.v (.int _ _)) | .s (.v (.float _ _)) | .s (.v (.complex _ _ _)) | .s (.v (.string _)) | .s (.v (.pointer _)) | .s (.v (.slice _ _ _)) | .s (.v (.map _)) | .s (.v (.chan _))
 |.s (.v (.func _ _ _)) | .s (.v .nilFunc) | .s (.v (.iface _ _)) | .s (.v .nilIface) | .s (.v (.tuple _))=>rfl
 |.s (.p _ _)=>rfl
 |.f _ _ _=>rfl
theorem St.wr(h:St n sy ρ a w χ){id off bt:Nat}{cs new:List SV}(hb:aa sy.boxes id=some (bt,cs)):
  St n ⟨sy.al,(id,(bt,wr cs off new))::sy.boxes⟩ ρ a (w.setRow (ρ id) ((cs.map (aP ρ)).take off++new.map (aP ρ)++(cs.map (aP ρ)).drop (off+new.length)).toArray) χ /\
  Ev jo w χ (w.setRow (ρ id) ((cs.map (aP ρ)).take off++new.map (aP ρ)++(cs.map (aP ρ)).drop (off+new.length)).toArray) χ:=by
 obtain⟨h1,h2,h3⟩:=h.boxes id _ hb;refine⟨⟨h.size,h.defers,h.al,?_⟩,⟨rfl,rfl,rfl,by simp,?_⟩⟩
 .intro kO q e';rcases aA e' with⟨rfl,rfl⟩|⟨hne,xZ⟩
  .refine⟨h1,h2,?_⟩;rw[setRow_heap w _ _ _ bt _ h3];simp[Sv.wr,gp,List.map_take,List.map_drop]
  .obtain⟨k1,k2,k3⟩:=h.boxes kO q xZ;refine⟨k1,k2,?_⟩;rw[setRow_other]
   .exact k3
   .intro e;apply hne;rw[←h1,←k1,e]
 .intro b _ hp;refine⟨setRow_other _ _ _ _ ?_,rfl⟩;intro e;rw[e,h1,h2]at hp;cases hp
theorem Wn(hT:dD P bj)(h:St n sy ρ a w χ){mem:Bool}{o:Oper}{sy':Sy}(hd:∀d,o.dst=some d->d<n)(hn:n<=999)(e:uK bj mem sy o=some sy'){K:Act->World->Prop}{Q:Exit->Act->World->Prop}
  (k:∀ρ' a' w' χ',St n sy' ρ' a' w' χ'->Ev jo w χ w' χ'->((mem=false->w'=w/\χ'=χ/\ρ'=ρ)/\∀id,n<id->ρ' id=ρ id)->(∀t,o.dst≠some t->a'.tmps[t]?=a.tmps[t]?)->K a' w'):o.wp P a w K Q:=by
 have A8:∀(v:Value)(od:Option Tmp),od=o.dst->∀t,o.dst≠some t->(a.put od v).tmps[t]?=a.tmps[t]?:=by
  intro v od hod t ht;subst hod;cases fp:o.dst with
  |none=>rfl
  |some d=>simp only[Act.put];rw[jL (by intro e;subst e;exact ht fp)]
 unfold uK at e;cases hv:dV bj sy o with
 |some v =>
  simp only[hv]at e;have nz:=yh (P:=P) hT h hv;unfold Oper.wp;rw[nz];simp only[Oper.upon];cases fp:o.dst with
  |some d=>simp only[fp]at e;simp at e;subst e;exact k ρ _ w χ (h.put (hd d fp)) (Ev.refl _ _ _) ⟨λ_=>⟨rfl,rfl,rfl⟩,λ_ _=>rfl⟩ (A8 _ _ fp.symm)
  |none=>simp only[fp]at e;simp at e;subst e;exact k ρ _ w χ h (Ev.refl _ _ _) ⟨λ_=>⟨rfl,rfl,rfl⟩,λ_ _=>rfl⟩ (A8 undef _ fp.symm)
 |none =>
  simp only[hv]at e;cases mem with
  |false=>simp at e
  |true =>
   simp only[cG]at e;have xb:∀d,d<n->jo (d+1)=true:=λd hd=>by simp[jo];omega
   split at e
   .rename_i t x d Kf fp;split at e
    .rename_i v hx;have XO:∀c∈cellsOf v,names (d+1) c=false:=by
      have hno:CF (d+1) sy=true:=(dw e).1;simp only[CF,ak,aO]at hno;intro c hc
      match v,hx,hc with
      |.s (.v (.agg cs)),_,hc=>simp only[cellsOf,aq]at hc;obtain⟨y,_,rfl⟩:=hc;rfl
      |.s (.v (.bool _)),_,hc | .s (.v (.int _ _)),_,hc | .s (.v (.float _ _)),_,hc | .s (.v (.complex _ _ _)),_,hc | .s (.v (.string _)),_,hc | .s (.v (.pointer _)),_,hc | .s (.v (.slice _ _ _)),_,hc | .s (.v (.map _)),_,hc
      |.s (.v (.chan _)),_,hc | .s (.v (.func _ _ _)),_,hc | .s (.v .nilFunc),_,hc | .s (.v (.iface _ _)),_,hc | .s (.v .nilIface),_,hc | .s (.v (.tuple _)),_,hc=>simp[cellsOf]at hc;subst hc;rfl
      |.s (.p i off),hx,hc =>
       simp[cellsOf]at hc;subst hc;cases x with
       |tmp t'=>have:=hno.1 _ (ct hx);simpa using this
       |const v'=>simp[Sv.cu,V]at hx
       |global g=>simp[Sv.cu]at hx
       |func f=>simp[Sv.cu]at hx
      |.f fn l m,hx,hc =>
       simp[cellsOf]at hc;subst hc;cases x with
       |tmp t'=>have:=hno.1 _ (ct hx);simpa using this
       |const v'=>simp[Sv.cu,V]at hx
       |global g=>simp[Sv.cu]at hx
       |func f=>simp[Sv.cu]at hx;obtain⟨rfl,rfl,rfl⟩:=hx;rfl
     obtain⟨s1,s2⟩:=h.box (hd d fp) (xb d (hd d fp)) e XO;have hr:(execOp a.eval o).run P w=.ok (.value (.pointer (some ⟨w.heap.size,0,none⟩))) (w.alloc (.cells ((cellsOf v).map (aP ρ)).toArray t)):=by
      have hc:=pg (ρ:=ρ) v;have Bb:(aP ρ v).cells=((cellsOf v).map (aP ρ)).toArray:=by rw[←hc]
      simp[execOp,Kf,h.cu hx,Instr.box,newVar,newRow,Bb]
     unfold Oper.wp;rw[hr];simp only[Oper.upon];rw[fp];exact k _ _ _ _ s1 s2 ⟨by simp,by intro id hid;have h5:=hd d fp;have h6:id≠d+1:=by { intro e;rw[e]at hid;exact absurd hid (Nat.not_lt.2 h5) };simp[h6]⟩ (A8 _ _ fp.symm)
    .cases e
   .rename_i t d Kf fp;split at e
    .rename_i ty ht;obtain⟨i,dd,zv,hi,z6,hz,hs,lZ,lx,iA,_⟩:=a8 (hT _ _ ht);obtain⟨s1,s2⟩:=h.box (hd d fp) (xb d (hd d fp)) e (by intro c hc;obtain⟨y,_,rfl⟩:=aq.1 hc;rfl);have hr:(execOp a.eval o).run P w=.ok (.value (.pointer (some ⟨w.heap.size,0,none⟩))) (w.alloc (.cells ((ty.zero.map V).map (aP ρ)).toArray t)):=by
      rw[lV];have Bb:zv.cells=ty.zero.toArray:=by rw[←lx]
      simp[execOp,Kf,Instr.alloc,newVar,newRow,zeroValue,typeInfo,hi,hz,Bb]
     unfold Oper.wp;rw[hr];simp only[Oper.upon];rw[fp];exact k _ _ _ _ s1 s2 ⟨by simp,by intro id hid;have h5:=hd d fp;have h6:id≠d+1:=by { intro e;rw[e]at hid;exact absurd hid (Nat.not_lt.2 h5) };simp[h6]⟩ (A8 _ _ fp.symm)
    .cases e
   .rename_i t x y Kf fp;split at e
    .rename_i id off v ty hx hy ht;split at e
     .rename_i bt cs hb;obtain⟨hc,rfl⟩:=dw e;simp only[ak,aO]at hc;obtain⟨⟨c1,c2⟩,c3⟩:=hc;have c1:=aD c1;have c2:=aB c2;obtain⟨i,dd,zv,hi,z6,hz,hs,lZ,lx,iA,_⟩:=a8 (hT _ _ ht);obtain⟨s1,s2⟩:=h.wr (off:=off) (new:=cellsOf v) hb;obtain⟨_,_,gk⟩:=h.boxes id _ hb;have hcl:=pg (ρ:=ρ) v;have jh:(aP ρ v).cells.size=i.size:=by rw[←cm,hcl,da,hs,c1]
      have GV:∀u∈(cellsOf v).map (aP ρ),u.oneCell'=true:=by
       intro u hu;obtain⟨c,hc,rfl⟩:=aq.1 hu;have:=c3 c hc
       match c,this with
       |.s (.v (.bool _)),_ | .s (.v (.int _ _)),_ | .s (.v (.float _ _)),_ | .s (.v (.complex _ _ _)),_ | .s (.v (.string _)),_ | .s (.v (.pointer _)),_ | .s (.v (.slice _ _ _)),_ | .s (.v (.map _)),_ | .s (.v (.chan _)),_
       |.s (.v (.func _ _ _)),_ | .s (.v .nilFunc),_ | .s (.v (.iface _ _)),_ | .s (.v .nilIface),_=>rfl
       |.s (.p _ _),_=>rfl
       |.f _ _ _,_=>rfl
      have im:=run_storeCells_at P (ρ id) off bt ((cellsOf v).map (aP ρ)) 0 _ w gk (by simp;omega) GV;simp only[c9,da]at im;have hr:(execOp a.eval o).run P w=.ok .skip (w.setRow (ρ id) ((cs.map (aP ρ)).take off++(cellsOf v).map (aP ρ)++(cs.map (aP ρ)).drop (off+(cellsOf v).length)).toArray):=by
       have Fe:(storeVar t ⟨ρ id,off,none⟩ (aP ρ v)).run P w=.ok () (w.setRow (ρ id) ((cs.map (aP ρ)).take off++(cellsOf v).map (aP ρ)++(cs.map (aP ρ)).drop (off+(cellsOf v).length)).toArray):=by simp only[storeVar,bU,run_sizeOf hi,bW,jh,ne_eq,not_true_eq_false,gI,hcl];exact im
       have Ub:a.eval x=.pointer (some ⟨ρ id,off,none⟩):=h.cu hx;simp only[execOp,Kf,Ub,h.cu hy,Instr.storeAt,Instr.sureAddr,bU,cM,bW,Fe]
      unfold Oper.wp;rw[hr];simp only[Oper.upon];rw[fp];exact k _ _ _ _ s1 s2 ⟨by simp,λ_ _=>rfl⟩ (A8 undef _ fp.symm)
     .cases e
    .cases e
   .cases e
theorem qz(h:St n sy ρ a w χ){all:List Oper}{j tc:Nat}{want b:Bool}{o:Oper}(hg:o.guard=some (j,want))(ht:oT all j=some tc)(hl:aa sy.al tc=some (B b)):
  Region.wanted o (yielded all.toArray a.tmps)=(b==want):=by
 have:=h.al _ _ hl;unfold oT at ht;split at ht
 .rename_i oj hoj;simp only[Region.wanted,hg,yielded,mP,hoj,Option.bind_some,ht,this,aP,bT];cases b<;>cases want<;>rfl
 .cases ht
theorem oU(h:St n sy ρ a w χ){all:List Oper}{j tc:Nat}{want:Bool}{o:Oper}(hg:o.guard=some (j,want))(ht:oT all j=some tc){vs:Array Value}(hl:aa sy.al tc=some (V (.tuple vs))):
  Region.wanted o (yielded all.toArray a.tmps)=false:=by
 have:=h.al _ _ hl;unfold oT at ht;split at ht
 .rename_i oj hoj;simp only[Region.wanted,hg,yielded,mP,hoj,Option.bind_some,ht,this,aP,bT];cases want<;>rfl
 .cases ht
def ku(n:Nat):List Oper->Bool
 |[]=>true
 |o::l=>(match o.dst with|some d=>Nat.blt d n|none=>true)&&ku n l
theorem AQ{o:Oper}{l:List Oper}(h:ku n (o::l)=true):(∀d,o.dst=some d->d<n)/\ku n l=true:=by
 simp only[ku,ak]at h;refine⟨λd hd=>?_,h.2⟩;have:=h.1;rw[hd]at this;exact aB this
theorem re{ops:Array Oper}{Q:Exit->Act->World->Prop}{o:Oper}{rest:List Oper}(hw:Region.wanted o (yielded ops a.tmps)=true)(h:o.wp P a w (wpList P ops Q rest) Q):wpList P ops Q (o::rest) a w:=by
 unfold wpList;rw[if_pos hw];exact .inl h
theorem wpList_skip{ops:Array Oper}{Q:Exit->Act->World->Prop}{o:Oper}{rest:List Oper}(hw:Region.wanted o (yielded ops a.tmps)=false)(h:wpList P ops Q rest (a.put o.dst undef) w):wpList P ops Q (o::rest) a w:=by
 unfold wpList;rw[if_neg (by simp[hw])];exact h
theorem St.undef(h:St n sy ρ a w χ){o:Oper}(hd:∀d,o.dst=some d->d<n):
  St n (match o.dst with|some d=>⟨(d,V Go.undef)::sy.al,sy.boxes⟩|none=>sy) ρ (a.put o.dst Go.undef) w χ:=by
 cases fp:o.dst with
 |none=>exact h
 |some d=>exact h.put (sv:=V Go.undef) (hd d fp)
theorem St.sub(h:St n sy ρ a w χ){sy':Sy}(hr:∀t sv,aa sy'.al t=some sv->aa sy.al t=some sv)(hb:∀id q,aa sy'.boxes id=some q->aa sy.boxes id=some q):St n sy' ρ a w χ :=
 ⟨h.size,h.defers,λt sv e=>h.al t sv (hr t sv e),λid q e=>h.boxes id q (hb id q e)⟩
def qL{α:Type}:List Nat->List (Nat×α)->List (Nat×α)
 |[],_=>[]
 |k::ks,l=>match aa l k with
  |some v=>(k,v)::qL ks l
  |none=>qL ks l
def keep(ks bs:List Nat)(sy:Sy):Sy:=⟨qL ks sy.al,qL bs sy.boxes⟩
theorem nq{α:Type}{l:List (Nat×α)}:∀{ks:List Nat} {t:Nat} {x:α},aa (qL ks l) t=some x->aa l t=some x
 |[],_,_,h=>by cases h
 |k::ks,t,x,h=>by
  simp only[qL]at h;split at h
  .rename_i v hv;rcases aA h with⟨rfl,rfl⟩|⟨_,h'⟩
   .exact hv
   .exact nq h'
  .exact nq h
theorem qQ{α:Type}{ks:List Nat}:∀{l:List (Nat×α)} {t:Nat} {x:α},aa (l.filter (λq=>ks.any (Nat.beq q.1))) t=some x->aa l t=some x
 |[],_,_,h=>h
 |(k,v)::l,t,x,h=>by
  rw[List.filter_cons]at h;split at h
  .rcases aA h with⟨rfl,rfl⟩|⟨hne,h'⟩
   .simp[aa]
   .have hb:Nat.beq k t=false:=by cases hb:Nat.beq k t with
     |true=>exact absurd (aD hb) hne
     |false=>rfl
    simp only[aa,hb,eQ];exact qQ h'
  .rename_i hk;have ih:=qQ h;simp only[aa];cases hb:Nat.beq k t with
   |false=>exact ih
   |true=>exfalso;have:=aD hb;subst this;have hm:=ct h;simp only[dx]at hm;exact hk hm.2
theorem St.keep(h:St n sy ρ a w χ)(ks bs:List Nat):St n (Sv.keep ks bs sy) ρ a w χ :=
 h.sub (λ_ _ e=>nq e) (λ_ _ e=>nq e)
theorem St.lit(h:St n sy ρ a w χ){t:Nat}{b b':Bool}(hl:aa sy.al t=some (B b))(hb:b=b'):St n ⟨(t,B b')::sy.al,sy.boxes⟩ ρ a w χ:=by
 subst hb;refine⟨h.size,h.defers,?_,h.boxes⟩;intro t' sv e;rcases aA e with⟨rfl,rfl⟩|⟨_,e'⟩
 .exact h.al _ _ hl
 .exact h.al _ _ e'
def mZ(tc:Nat):List Oper->Option (List Oper×Oper×List Oper)
 |[]=>none
 |o::l =>
  match o.op with
  |.pick (.tmp t) _ _=>bif Nat.beq t tc then some ([],o,l)else(match mZ tc l with|some (x,p,y)=>some (o::x,p,y)|none=>none)
  |_=>match mZ tc l with|some (x,p,y)=>some (o::x,p,y)|none=>none
theorem yj{tc:Nat}:∀{l x y:List Oper} {p:Oper},mZ tc l=some (x,p,y)->l=x++p::y
 |[],_,_,_,h=>by cases h
 |o::l,x,y,p,h=>by
  have go:∀q,(match mZ tc l with|some (x,p,y)=>some (o::x,p,y)|none=>none)=some q->o::l=q.1++q.2.1::q.2.2:=by
   intro q hq;cases hs:mZ tc l with
   |none=>rw[hs]at hq;cases hq
   |some r=>obtain⟨x',p',y'⟩:=r;rw[hs]at hq;cases hq;simp[yj hs]
  simp only[mZ]at h;split at h
  .rename_i t a b _;cases hb:Nat.beq t tc with
   |true=>rw[hb]at h;cases h;rfl
   |false=>rw[hb]at h;exact go _ h
  .exact go _ h
def dstsOf:List Oper->List Nat
 |[]=>[]
 |o::l=>match o.dst with|some d=>d::dstsOf l|none=>dstsOf l
def forget(ds:List Nat)(al:List (Nat×SV)):List (Nat×SV):=al.filter (λq=>!ds.any (Nat.beq q.1))
theorem vg{ds:List Nat}:∀{l:List (Nat×SV)} {t:Nat} {x:SV},aa (forget ds l) t=some x->aa l t=some x/\ds.any (Nat.beq t)=false
 |[],_,_,h=>by cases h
 |(k,v)::l,t,x,h=>by
  unfold forget at h;rw[List.filter_cons]at h;split at h
  .rename_i hk;rcases aA h with⟨rfl,rfl⟩|⟨hne,h'⟩
   .exact⟨by simp[aa],by simpa using hk⟩
   .have hb:Nat.beq k t=false:=by cases hb:Nat.beq k t with
     |true=>exact absurd (aD hb) hne
     |false=>rfl
    obtain⟨h1,h2⟩:=vg (ds:=ds) h';exact⟨by simp only[aa,hb,eQ];exact h1,h2⟩
  .rename_i hk;obtain⟨h1,h2⟩:=vg (ds:=ds) h;refine⟨?_,h2⟩;simp only[aa];cases hb:Nat.beq k t with
   |false=>exact h1
   |true=>exfalso;have:=aD hb;subst this;simp[h2]at hk
def rK(bj:oQ)(all:List Oper):Nat->Bool->List Nat->List Oper->Sy->Option Sy
 |0,_,_,_,_=>none
 |_+1,_,_,[],sy=>some sy
 |f+1,mem,sp,o::rest,sy =>
  match o.guard with
  |none=>match uK bj mem sy o with
   |some sy'=>rK bj all f mem sp rest sy'
   |none=>none
  |some (j,want) =>
   match oT all j with
   |some tc =>
    bif sp.any (Nat.beq tc)then
     match aa sy.al tc with
     |some (.s (.v (.bool b))) =>
      match mZ tc (o::rest)with
      |some (m9,pk,after) =>
       match pk.dst,rK bj all f false (sp.filter (λs=>!Nat.beq s tc)) (m9++[pk]) ⟨(tc,B true)::sy.al,sy.boxes⟩,rK bj all f false (sp.filter (λs=>!Nat.beq s tc)) (m9++[pk]) ⟨(tc,B false)::sy.al,sy.boxes⟩with
       |some d,some sT,some sF =>
        match aa sT.al d,aa sF.al d with
        |some (.s (.v (.bool cT))),some (.s (.v (.bool cF)))=>rK bj all f mem sp after ⟨(d,B (bif b then cT else cF))::forget (dstsOf m9) sy.al,sy.boxes⟩
        |_,_=>none
       |_,_,_=>none
      |none=>none
     |some (.s (.v (.tuple _))) =>
      (match o.dst with
       |some d=>rK bj all f mem sp rest ⟨(d,V undef)::sy.al,sy.boxes⟩
       |none=>rK bj all f mem sp rest sy)
     |_=>none
    else
    match aa sy.al tc with
    |some (.s (.v (.bool b))) =>
     bif b==want then(match uK bj mem sy o with
      |some sy'=>rK bj all f mem sp rest sy'
      |none=>none)
     else(match o.dst with
      |some d=>rK bj all f mem sp rest ⟨(d,V undef)::sy.al,sy.boxes⟩
      |none=>rK bj all f mem sp rest sy)
    |some (.s (.v (.tuple _))) =>
     (match o.dst with
      |some d=>rK bj all f mem sp rest ⟨(d,V undef)::sy.al,sy.boxes⟩
      |none=>rK bj all f mem sp rest sy)
    |_=>none
   |none=>none
theorem Ee{x y:List Oper}(h:ku n (x++y)=true):ku n x=true/\ku n y=true:=by
 induction x with
 |nil=>exact⟨rfl,h⟩
 |cons o x ih=>simp only[jK,ku,ak]at h ⊢; exact⟨⟨h.1,(ih h.2).1⟩,(ih h.2).2⟩
theorem LO{x y:List Oper}{p:Oper}(h:ku n (x++p::y)=true):ku n (x++[p])=true/\ku n y=true:=by
 have e:x++p::y=(x++[p])++y:=by simp
 rw[e]at h;exact Ee h
theorem CE{o:Oper}{l:List Oper}{t:Nat}(h:(dstsOf (o::l)).any (Nat.beq t)=false):o.dst≠some t/\(dstsOf l).any (Nat.beq t)=false:=by
 simp only[dstsOf]at h;cases hd:o.dst with
 |none=>rw[hd]at h;exact⟨by simp,h⟩
 |some d=>rw[hd]at h;simp only[fB,cO]at h;exact⟨by intro e;cases e;simp at h,h.2⟩
theorem xa(x y:List Oper):dstsOf (x++y)=dstsOf x++dstsOf y:=by
 induction x with
 |nil=>rfl
 |cons o x ih=>simp only[jK,dstsOf];cases o.dst<;>simp[ih]
theorem Mr(hT:dD P bj){all:List Oper}(hn:n<=999){Q:Exit->Act->World->Prop}:∀(f:Nat)(mem:Bool)(sp:List Nat)(l rest:List Oper)(sy sy':Sy)(ρ:Nat->Nat)(a:Act)(w:World)(χ:Nat->Nat),
  rK bj all f mem sp l sy=some sy'->ku n l=true->St n sy ρ a w χ ->
  (∀ρ' a' w' χ',St n sy' ρ' a' w' χ'->Ev jo w χ w' χ'->((mem=false->w'=w/\χ'=χ/\ρ'=ρ)/\∀id,n<id->ρ' id=ρ id)->(∀t,(dstsOf l).any (Nat.beq t)=false->a'.tmps[t]?=a.tmps[t]?)->wpList P all.toArray Q rest a' w')->wpList P all.toArray Q (l++rest) a w:=by
 intro f
 induction f with
 |zero=>intro mem sp l rest sy sy' ρ a w χ e;cases e
 |succ f ih =>
  intro mem sp l rest sy sy' ρ a w χ e hd h k;cases l with
  |nil=>simp[rK]at e;subst e;exact k ρ a w χ h (Ev.refl _ _ _) ⟨λ_=>⟨rfl,rfl,rfl⟩,λ_ _=>rfl⟩ (λ_ _=>rfl)
  |cons o l =>
   obtain⟨hd1,ZW⟩:=AQ hd;have go:∀DS,uK bj mem sy o=some DS->rK bj all f mem sp l DS=some sy'->o.wp P a w (wpList P all.toArray Q (l++rest)) Q:=by
    intro DS e1 e2;refine Wn hT h hd1 hn e1 λρ1 a1 w1 χ1 h1 ev1 q1 s1=>?_;refine ih mem sp l rest DS sy' ρ1 a1 w1 χ1 e2 ZW h1 λρ2 a2 w2 χ2 h2 ev2 q2 s2=>?_;exact k ρ2 a2 w2 χ2 h2 (ev1.trans ev2) ⟨λhm=>by
     obtain⟨r1,r2,r3⟩:=q1.1 hm;obtain⟨s1,s2,s3⟩:=q2.1 hm;exact⟨s1.trans r1,s2.trans r2,s3.trans r3⟩,λid hid=>(q2.2 id hid).trans (q1.2 id hid)⟩ (λt ht=>by
     obtain⟨t1,t2⟩:=CE ht;exact(s2 t t2).trans (s1 t t1))
   have skip:rK bj all f mem sp l (match o.dst with|some d=>⟨(d,V Go.undef)::sy.al,sy.boxes⟩|none=>sy)=some sy'->wpList P all.toArray Q (l++rest) (a.put o.dst Go.undef) w:=by
    intro e1;refine ih mem sp l rest _ sy' ρ _ w χ e1 ZW (h.undef hd1) λρ2 a2 w2 χ2 h2 ev2 q2 s2=>?_;refine k ρ2 a2 w2 χ2 h2 ev2 q2 (λt ht=>?_);obtain⟨t1,t2⟩:=CE ht;rw[s2 t t2];cases fp:o.dst with
    |none=>rfl
    |some d=>simp only[Act.put];rw[jL (by intro e;subst e;exact t1 fp)]
   simp only[rK]at e;rw[jK];cases hg:o.guard with
   |none =>
    simp only[hg]at e;refine re (by simp[Region.wanted,hg]) ?_;cases e1:uK bj mem sy o with
    |none=>simp[e1]at e
    |some DS=>simp only[e1]at e;exact go DS e1 e
   |some g =>
    obtain⟨j,want⟩:=g;simp only[hg]at e;cases ht:oT all j with
    |none=>simp[ht]at e
    |some tc =>
     simp only[ht]at e;cases QO:sp.any (Nat.beq tc)with
     |true =>
      simp only[QO,cG]at e;split at e
      .rename_i b hl;split at e
       .rename_i m9 pk after alH;split at e
        .rename_i d sT sF hpd hT1 hF1;split at e
         .rename_i cT cF hcT hcF;have ZS:=yj alH;rw[←jK,ZS];rw[ZS]at hd;obtain⟨hdm,hda⟩:=LO hd;have e3:m9++pk::after++rest=(m9++[pk])++(after++rest):=by simp
          rw[e3];have fin:∀(lit:Bool)(sL:Sy)(cL:Bool),b=lit->rK bj all f false (sp.filter (λs=>!Nat.beq s tc)) (m9++[pk]) ⟨(tc,B lit)::sy.al,sy.boxes⟩=some sL->aa sL.al d=some (B cL)->(bif b then cT else cF)=cL ->
           wpList P all.toArray Q ((m9++[pk])++(after++rest)) a w:=by
           intro lit sL cL hb hS Ny hv;refine ih false _ (m9++[pk]) (after++rest) _ sL ρ a w χ hS hdm (h.lit hl hb) λρ1 a1 w1 χ1 h1 ev1 q1 s1=>?_;obtain⟨r1,r2,r3⟩:=q1.1 rfl;rw[r1,r2,r3]at h1;rw[r1];have agE:dstsOf (m9++[pk])=dstsOf m9++[d]:=by rw[xa];simp[dstsOf,hpd]
           have ab6:St n ⟨(d,B (bif b then cT else cF))::forget (dstsOf m9) sy.al,sy.boxes⟩ ρ a1 w χ:=by
            refine⟨h1.size,h1.defers,?_,h.boxes⟩;intro t sv hq;rcases aA hq with⟨rfl,rfl⟩|⟨hne,zV⟩
            .rw[hv];exact h1.al _ _ Ny
            .obtain⟨g1,g2⟩:=vg zV;rw[s1 t (by
              rw[agE,List.any_append,g2,Bool.false_or];simp only[fB,kU,jO];cases hb:Nat.beq t d with
              |false=>rfl
              |true=>exact absurd (aD hb).symm hne)]
             exact h.al t sv g1
           refine ih mem sp after rest _ sy' ρ a1 w χ e hda ab6 λρ2 a2 w2 χ2 h2 ev2 q2 s2=>?_;refine k ρ2 a2 w2 χ2 h2 ev2 q2 (λt ht=>?_);rw[ZS,show m9++pk::after=(m9++[pk])++after by simp,xa,List.any_append,cO]at ht;exact(s2 t ht.2).trans (s1 t ht.1)
          cases hbb:b with
          |true=>exact fin true sT cT hbb hT1 hcT (by rw[hbb];rfl)
          |false=>exact fin false sF cF hbb hF1 hcF (by rw[hbb];rfl)
         .cases e
        .cases e
       .cases e
      .rename_i vs hl;have hw:=oU h hg ht hl;refine wpList_skip hw (skip ?_);cases fp:o.dst with
       |none=>simpa only[fp]using e
       |some d=>simpa only[fp]using e
      .cases e
     |false =>
      simp only[QO,eQ]at e;split at e
      .rename_i b hl;have hw:=qz h hg ht hl;cases hb:(b==want)with
       |true =>
        simp only[hb,cG]at e;refine re (hw.trans hb) ?_;cases e1:uK bj mem sy o with
        |none=>simp[e1]at e
        |some DS=>simp only[e1]at e;exact go DS e1 e
       |false =>
        simp only[hb,eQ]at e;refine wpList_skip (hw.trans hb) (skip ?_);cases fp:o.dst with
        |none=>simpa only[fp]using e
        |some d=>simpa only[fp]using e
      .rename_i vs hl;have hw:=oU h hg ht hl;refine wpList_skip hw (skip ?_);cases fp:o.dst with
       |none=>simpa only[fp]using e
       |some d=>simpa only[fp]using e
      .cases e
end
def qs(nrm ret:Act->World->Prop)(exs:List (Nat×(Act->World->Prop))):Exit->Act->World->Prop
 |.normal,a,w=>nrm a w
 |.ret,a,w=>ret a w
 |.exit id,a,w=>match aa exs (2*id)with|some K=>K a w|none=>False
 |.goto l,a,w=>match aa exs (2*l+1)with|some K=>K a w|none=>False
 |_,_,_=>False
section
variable{P:Program}{nrm ret:Act->World->Prop}{exs:List (Nat×(Act->World->Prop))}{a:Act}{w:World}
theorem xd{x y:Code}(h:x.wp P (qs (y.wp P (qs nrm ret exs)) ret exs) a w):(Code.seq x y).wp P (qs nrm ret exs) a w :=
 wp_seq (wp_mono h λe a w q=>by cases e<;>exact q)
theorem Pg{α:Type}{id l:Nat}{K:α}{exs:List (Nat×α)}:aa ((2*id,K)::exs) (2*l+1)=aa exs (2*l+1):=by
 simp only[aa];cases hb:Nat.beq (2*id) (2*l+1)with
 |true=>have:=aD hb;omega
 |false=>rfl
theorem zo{id:Nat}{c:Code}(h:c.wp P (qs nrm ret ((2*id,nrm)::exs)) a w):(Code.block id c).wp P (qs nrm ret exs) a w:=by
 refine wp_block (wp_mono h λe a w q=>?_);cases e with
 |exit i =>
  simp only[qs,aa]at q;simp only[Exit.inBlock];cases hb:Nat.beq (2*id) (2*i)with
  |true =>
   rw[hb]at q;have:id=i:=by have:=aD hb;omega
   subst this;simpa[qs]using q
  |false =>
   rw[hb]at q;have:¬i=id:=λe=>by subst e;simp at hb
   simp only[this,gI];exact q
 |goto l=>simp only[qs]at q;rw[Pg]at q;exact q
 |_=>exact q
theorem wR(h:nrm a w):Code.skip.wp P (qs nrm ret exs) a w:=wp_skip h
theorem QW(h:ret a w):Code.ret.wp P (qs nrm ret exs) a w:=wp_ret h
theorem Q8{id:Nat}{K:Act->World->Prop}(hk:aa exs (2*id)=some K)(h:K a w):(Code.exit id).wp P (qs nrm ret exs) a w:=by
 refine wp_exit ?_;simp only[qs,hk];exact h
theorem Q2{σ:Type}{c:Code}(I:σ->Act->World->Prop)(μ:σ->Nat)(s0:σ)(h0:I s0 a w)
  (round:∀s a w,I s a w->c.wp P (qs (λa' w'=>∃s',I s' a' w'/\μ s'<μ s) ret exs) a w):(Code.loop c).wp P (qs nrm ret exs) a w:=by
 intro b k cs;have key:∀m s a w,μ s=m->I s a w ->
  ∃e a' w',qs nrm ret exs e a' w'/\Arrives P (lone (b.at a (.code c :: .inLoop c::k)) cs w) b k cs e a' w':=by
  intro m
  induction m using Nat.strongRecOn with
  |_ m ih =>
   intro s a w hm hI;obtain⟨e,a₁,w₁,hq,harr⟩:=round s a w hI b (.inLoop c::k) cs;cases e with
   |normal=>obtain⟨s',hI₁,eB⟩:=hq;obtain⟨e₂,a₂,w₂,hq₂,Je⟩:=ih (μ s') (hm▸eB) s' a₁ w₁ rfl hI₁;exact⟨e₂,a₂,w₂,hq₂,.of_steps (Steps.trans harr (.one step_inLoop)) Je⟩
   |exit id=>exact⟨.exit id,a₁,w₁,hq,.pass (x:=.inLoop c) rfl (λ_ _=>.inl (by simp)) harr⟩
   |ret=>exact⟨.ret,a₁,w₁,hq,.pass (x:=.inLoop c) rfl (λ_ _=>.inl (by simp)) harr⟩
   |goto l=>exact⟨.goto l,a₁,w₁,hq,.pass (x:=.inLoop c) rfl (λ_ _=>.inl (by simp)) harr⟩
   |panic ch=>exact hq.elim
   |outgrown=>exact hq.elim
 obtain⟨e,a',w',hq,harr⟩:=key _ s0 a w rfl h0;exact⟨e,a',w',hq,.of_steps (.one step_loop) harr⟩
theorem Q9{x y:Code}(K:Act->World->Prop)(h:x.wp P (qs K ret exs) a w)(k:∀a w,K a w->y.wp P (qs nrm ret exs) a w):(Code.seq x y).wp P (qs nrm ret exs) a w :=
 xd (wp_mono h λe a w q=>by cases e<;>first|exact k _ _ q|exact q)
variable{bj:oQ}{n:Nat}{sy:Sy}{ρ:Nat->Nat}{χ:Nat->Nat}
theorem qy(h:St n sy ρ a w χ){c:Operand}{b:Bool}(hc:cu sy c=some (B b)){x y:Code}(ht:b=true->x.wp P (qs nrm ret exs) a w)(hf:b=false->y.wp P (qs nrm ret exs) a w):(Code.cond c x y).wp P (qs nrm ret exs) a w :=
 wp_cond_split (h.cu hc) ht hf
def run(bj:oQ)(mem:Bool)(sp:List Nat)(n:Nat)(all l:List Oper)(ks bs:List Nat)(sy:Sy):Option Sy :=
 bif ku n l&&Nat.ble n 999 then(match rK bj all (l.length+l.length+1) mem sp l sy with|some s=>some (keep ks bs s)|none=>none)else none
theorem rO{mem:Bool}{sp:List Nat}{all l:List Oper}{ks bs:List Nat}{sy sy':Sy}(e:run bj mem sp n all l ks bs sy=some sy'):ku n l=true/\n<=999/\∃s,rK bj all (l.length+l.length+1) mem sp l sy=some s/\sy'=keep ks bs s:=by
 unfold run at e;cases hc:(ku n l&&Nat.ble n 999)with
 |false=>simp[hc]at e
 |true =>
  simp only[hc,cG]at e;rw[ak]at hc;cases hs:rK bj all (l.length+l.length+1) mem sp l sy with
  |none=>simp[hs]at e
  |some s=>simp[hs]at e;exact⟨hc.1,aB hc.2,s,rfl,e.symm⟩
theorem ajo{all l:List Oper}{Q:Exit->Act->World->Prop}(T:dD P bj)(h:St n sy ρ a w χ)(m:Nat){sp ks bs:List Nat}{sy':Sy}(e:run bj false sp n all (l.take m) ks bs sy=some sy')
  (k:∀a,St n sy' ρ a w χ->wpList P all.toArray Q (l.drop m) a w):wpList P all.toArray Q l a w:=by
 obtain⟨e1,e2,s,e3,rfl⟩:=rO e;have:=Mr (Q:=Q) T e2 _ _ _ (l.take m) (l.drop m) sy s ρ a w χ e3 e1 h (λρ' a' w' χ' h' _ q _=>by
  obtain⟨r1,r2,r3⟩:=q.1 rfl;rw[r1,r2,r3]at h';rw[r1];exact k a' (h'.keep ks bs))
 rwa[lC]at this
theorem Hy{ops:Array Oper}{Q:Exit->Act->World->Prop}(h:Q .normal a w):wpList P ops Q [] a w:=h
theorem ahb{all l:List Oper}{K:Act->World->Prop}(T:dD P bj)(h:St n sy ρ a w χ){sp ks bs:List Nat}{sy':Sy}(e:run bj false sp n all l ks bs sy=some sy')
  (k:∀a,St n sy' ρ a w χ->K a w):wpList P all.toArray (qs K ret exs) l a w:=by
 obtain⟨e1,e2,s,e3,rfl⟩:=rO e;have:=Mr (Q:=qs K ret exs) T e2 _ _ _ l [] sy s ρ a w χ e3 e1 h (λρ' a' w' χ' h' _ q _=>by
  obtain⟨r1,r2,r3⟩:=q.1 rfl;rw[r1,r2,r3]at h';rw[r1];exact k a' (h'.keep ks bs))
 rwa[fT]at this
theorem ahf{ops:Array Oper}{K:Act->World->Prop}(h:K a w):wpList P ops (qs K ret exs) [] a w:=h
theorem region{id:Nat}{l:List Oper}{Q:Exit->Act->World->Prop}(h:wpList P l.toArray Q l a w):(Code.region id l.toArray false).wp P Q a w:=wp_region_lit h
theorem aje{id:Nat}{l:List Oper}{y:Code}(T:dD P bj)(h:St n sy ρ a w χ){sp ks bs:List Nat}{sy':Sy}(e:run bj false sp n l l ks bs sy=some sy')
  (k:∀a,St n sy' ρ a w χ->y.wp P (qs nrm ret exs) a w):(Code.seq (Code.region id l.toArray false) y).wp P (qs nrm ret exs) a w :=
 xd (region (ahb T h e k))
theorem ON{id:Nat}{l:List Oper}{y:Code}(h:wpList P l.toArray (qs (y.wp P (qs nrm ret exs)) ret exs) l a w):(Code.seq (Code.region id l.toArray false) y).wp P (qs nrm ret exs) a w :=
 xd (region h)
theorem St.conv(h:St n sy ρ a w χ){t:Nat}{x y:Value}(hl:aa sy.al t=some (V x))(hb:x=y):St n ⟨(t,V y)::sy.al,sy.boxes⟩ ρ a w χ:=by
 subst hb;refine⟨h.size,h.defers,?_,h.boxes⟩;intro t' sv e;rcases aA e with⟨rfl,rfl⟩|⟨_,e'⟩
 .exact h.al _ _ hl
 .exact h.al _ _ e'
theorem St.sS(h:St n sy ρ a w χ)(ks bs:List Nat){sy':Sy}(e:Sv.keep ks bs sy=sy'):St n sy' ρ a w χ:=e▸h.keep ks bs
theorem St.ev{p:Nat->Bool}(h:St n sy ρ a w χ){w':World}{χ':Nat->Nat}(e:Ev p w χ w' χ')(hp:∀c,jo c=true->p c=false):St n sy ρ a w' χ':=by
 refine⟨h.size,h.defers,h.al,?_⟩;intro id q hq;obtain⟨h1,h2,h3⟩:=h.boxes id q hq;have eB:ρ id<w.heap.size:=(gw.1 h3).1;obtain⟨k1,k2⟩:=e.keep _ eB (by rw[h1];exact hp _ h2);exact⟨k2.trans h1,h2,k1.trans h3⟩
end
structure M0 (w:World) (χ:Nat->Nat) (w':World) (χ':Nat->Nat):Prop where
 size:w.heap.size<=w'.heap.size
 keep:∀b,b<w.heap.size->χ b=0->w'.heap[b]?=w.heap[b]?/\χ' b=0
theorem Ev.m0{p:Nat->Bool}{w:World}{χ:Nat->Nat}{w':World}{χ':Nat->Nat}(e:Ev p w χ w' χ')(hp:p 0=false):M0 w χ w' χ' :=
 ⟨e.size,λb hb h0=>by
  obtain⟨k1,k2⟩:=e.keep b hb (by rw[h0];exact hp);exact⟨k1,k2.trans h0⟩⟩
theorem M0.refl(w:World)(χ:Nat->Nat):M0 w χ w χ:=⟨aK _,λ_ _ h=>⟨rfl,h⟩⟩
structure b9 (α:Type) where
 n:Nat
 bytes:Nat
 R:World->(Nat->Nat)->List Value->α->Prop
 pos:1<=n
 len:∀{w χ cs x},R w χ cs x->cs.length=n
 one:∀{w χ cs x},R w χ cs x->∀c∈cs,c.oneCell'=true
 mono:∀{w χ w' χ' cs x},M0 w χ w' χ'->R w χ cs x->R w' χ' cs x
def zl(k:IntKind)(x:Int):Prop:=k.min<=x/\x<=k.max
def sm{α:Type}(l:List α):Prop:=l.length<=140737488355328
def Rs(k:IntKind)(bytes:Nat):b9 Int where
 n:=1
 bytes:=bytes
 R:=λ_ _ cs x=>cs=[.int k x]
 pos:=aK _
 len:=by rintro _ _ _ _ rfl;rfl
 one:=by rintro _ _ _ _ rfl c hc;simp at hc;subst hc;rfl
 mono:=λ_ h=>h
@[reducible] def tI:b9 Int:=Rs .i64 8
def aev:b9 Bool where
 n:=1
 bytes:=1
 R:=λ_ _ cs x=>cs=[.bool x]
 pos:=aK _
 len:=by rintro _ _ _ _ rfl;rfl
 one:=by rintro _ _ _ _ rfl c hc;simp at hc;subst hc;rfl
 mono:=λ_ h=>h
def bs(l:List UInt8):ByteArray:=⟨l.toArray⟩
def aem:b9 (List UInt8) where
 n:=1
 bytes:=16
 R:=λ_ _ cs x=>cs=[.string (bs x)]
 pos:=aK _
 len:=by rintro _ _ _ _ rfl;rfl
 one:=by rintro _ _ _ _ rfl c hc;simp at hc;subst hc;rfl
 mono:=λ_ h=>h
def chunk(cells:Array Value)(o n i:Nat):List Value:=(cells.toList.drop (o+i*n)).take n
structure RS {α:Type} (T:b9 α) (w:World) (χ:Nat->Nat) (a:Option Addr) (xs:List α) (c:Nat):Prop where
 cap:xs.length<=c
 JS:xs.length*T.bytes<=140737488355328
 nil:a=none->xs=[]/\c=0
 cells:xs≠[]->∃b o cells e fr,a=some ⟨b,o,none⟩/\χ b=0/\w.heap[b]?=some (.cells cells e fr)/\∀(i:Nat)(x:α),xs[i]?=some x->T.R w χ (chunk cells o T.n i) x
theorem gF{w:World}{b:Nat}{o:Obj}(h:w.heap[b]?=some o):b<w.heap.size:=(gw.1 h).1
theorem RS.m0{α:Type}{T:b9 α}{w w':World}{χ χ':Nat->Nat}{a:Option Addr}{xs:List α}{c:Nat}(h:RS T w χ a xs c)(m:M0 w χ w' χ'):RS T w' χ' a xs c :=
 ⟨h.cap,h.JS,h.nil,λhne=>by
  obtain⟨b,o,cells,e,fr,h1,h2,h3,h4⟩:=h.cells hne;obtain⟨k1,k2⟩:=m.keep b (gF h3) h2;exact⟨b,o,cells,e,fr,h1,k2,k1.trans h3,λi x hx=>T.mono m (h4 i x hx)⟩⟩
theorem RS.sm{α:Type}{T:b9 α}{w:World}{χ:Nat->Nat}{a:Option Addr}{xs:List α}{c:Nat}(h:RS T w χ a xs c)(hb:Nat.ble 1 T.bytes=true):Sv.sm xs:=by
 have h1:=h.JS;have h2:=Nat.mul_le_mul_left xs.length (aB hb);unfold Sv.sm;omega
theorem RS.mv{α:Type}{T:b9 α}{w w':World}{χ χ':Nat->Nat}{a:Option Addr}{xs:List α}{c:Nat}{p:Nat->Bool}(h:RS T w χ a xs c)(e:Ev p w χ w' χ')(hp:p 0=false):RS T w' χ' a xs c:=h.m0 (e.m0 hp)
theorem RS.empty{α:Type}(T:b9 α)(w:World)(χ:Nat->Nat):RS T w χ none [] 0:=⟨aK _,by simp,λ_=>⟨rfl,rfl⟩,λh=>absurd rfl h⟩
def tg{α:Type}(T:b9 α):b9 (List α) where
 n:=1
 bytes:=24
 R:=λw χ cs xs=>∃a c,cs=[.slice a xs.length c]/\RS T w χ a xs c
 pos:=aK _
 len:=by rintro _ _ _ _ ⟨a,c,rfl,_⟩;rfl
 one:=by rintro _ _ _ _ ⟨a,c,rfl,_⟩ u hu;simp at hu;subst hu;rfl
 mono:=by rintro _ _ _ _ _ _ m ⟨a,c,rfl,h⟩;exact⟨a,c,rfl,h.m0 m⟩
def Pa(fr:Nat×Nat)(n:Nat):Prop:=fr.2<=fr.1∨n<=fr.1
def Row(w:World)(b:Nat)(cells:Array Value)(E:Nat):Prop:=∃fr,w.heap[b]?=some (.cells cells E fr)/\Pa fr cells.size
theorem Row.zero{w:World}{b:Nat}{cells:Array Value}{E:Nat}(h:w.heap[b]?=some (.cells cells E (0,0))):Row w b cells E:=⟨(0,0),h,.inl (aK _)⟩
theorem Row.same{w w':World}{b:Nat}{cells:Array Value}{E:Nat}(h:Row w b cells E)(k:w'.heap[b]?=w.heap[b]?):Row w' b cells E:=by obtain⟨fr,h1,h2⟩:=h;exact⟨fr,k.trans h1,h2⟩
theorem Row.set{w:World}{b:Nat}{cells jA:Array Value}{E:Nat}(h:Row w b cells E)(hs:jA.size=cells.size):Row (w.setRow b jA) b jA E:=by obtain⟨fr,h1,h2⟩:=h;exact⟨fr,setRow_heap w b cells _ E _ h1,hs▸h2⟩
theorem Row.lt{w:World}{b:Nat}{cells:Array Value}{E:Nat}(h:Row w b cells E):b<w.heap.size:=by obtain⟨fr,h1,h2⟩:=h;exact gF h1
theorem dW(P:Program)(g o:Nat)(t:TypeId)(fz:Nat×Nat):∀(vs:List Value)(i:Nat)(cur:Array Value)(w:World),w.heap[g]?=some (.cells cur t fz)->Pa fz cur.size->o+i+vs.length<=cur.size->(∀v∈vs,v.oneCell'=true) ->
  (storeCells ⟨g,o,none⟩ vs i).run P w=.ok () (w.setRow g (cur.toList.take (o+i)++vs++cur.toList.drop (o+i+vs.length)).toArray)
 |[],i,cur,w,hg,_,_,_=>by simp only[storeCells,fT,cN,c9,lC,dI];rw[setRow_self w g cur t fz hg];rfl
 |v::rest,i,cur,w,hg,Ja,hl,h1=>by
  have hi:o+i<cur.size:=by simp at hl;omega
  have X4:(⟨g,o,none⟩:Addr).add i=⟨g,o+i,none⟩:=by unfold Addr.add;split<;>simp_all
  have jZ:w.cell? ⟨g,o+i,none⟩=some cur[o+i]:=by simp[World.cell?,hg,hi]
  have amb:w.frozen? ⟨g,o+i,none⟩=false:=by obtain⟨lo,lg⟩:=fz;simp only[World.frozen?,hg,mN,bp];unfold Pa at Ja;simp only at Ja;omega
  have im:(store ((⟨g,o,none⟩:Addr).add i) v).run P w=.ok () (w.setRow g (cur.setIfInBounds (o+i) v)):=by rw[X4,run_store P w _ v _ (h1 v (by simp)),jZ];simp[amb,setCell_eq_setRow w g (o+i) cur t fz v hg]
  have ih:=dW P g o t fz rest (i+1) (cur.setIfInBounds (o+i) v) (w.setRow g (cur.setIfInBounds (o+i) v)) (setRow_heap w g cur _ t _ hg) (by simpa using Ja) (by simp at hl ⊢; omega) (λx hx=>h1 x (by simp[hx]));simp only[storeCells,bU,im,bW,ih,setRow_setRow];congr 3;have e:=list_seg_step cur.toList (o+i) v rest (by simp at hl ⊢; omega);simpa[Array.toList_setIfInBounds,jH]using e
structure OS {α:Type} (T:b9 α) (E:Nat) (w:World) (χ:Nat->Nat) (dt:Nat) (a:Option Addr) (xs:List α) (c:Nat):Prop where
 JS:xs.length*T.bytes<=140737488355328
 row:(a=none/\xs=[]/\c=0)∨∃b cells,a=some ⟨b,0,none⟩/\χ b=dt/\Row w b cells E/\xs.length<=c/\c<=maxLen/\cells.size=c*T.n /\
  ∀(i:Nat)(x:α),xs[i]?=some x->T.R w χ (chunk cells 0 T.n i) x
theorem OS.nil{α:Type}(T:b9 α)(E:Nat)(w:World)(χ:Nat->Nat)(dt:Nat):OS T E w χ dt none [] 0:=⟨by simp,.inl ⟨rfl,rfl,rfl⟩⟩
theorem OS.sm{α:Type}{T:b9 α}{E:Nat}{w:World}{χ:Nat->Nat}{dt:Nat}{a:Option Addr}{xs:List α}{c:Nat}(h:OS T E w χ dt a xs c)(hb:Nat.ble 1 T.bytes=true):Sv.sm xs:=by
 have h1:=h.JS;have h2:=Nat.mul_le_mul_left xs.length (aB hb);unfold Sv.sm;omega
theorem OS.rs0{α:Type}{T:b9 α}{E:Nat}{w:World}{χ:Nat->Nat}{a:Option Addr}{xs:List α}{c:Nat}(h:OS T E w χ 0 a xs c):RS T w χ a xs c:=by
 rcases h.row with⟨rfl,rfl,rfl⟩|⟨b,cells,rfl,hc,hh,hle,hcm,jh,ll⟩
 .exact RS.empty T w χ
 .obtain⟨fr,hh,_⟩:=hh;exact⟨hle,h.JS,(by intro e;cases e),λ_=>⟨b,0,cells,E,fr,rfl,hc,hh,ll⟩⟩
theorem room{len b:Nat}(h:len<=1099511627776)(hb:Nat.ble b 128=true):len*b<=140737488355328:=by
 have h1:=gn h (aB hb);omega
theorem OS.mv{α:Type}{T:b9 α}{E:Nat}{w w':World}{χ χ':Nat->Nat}{dt:Nat}{a:Option Addr}{xs:List α}{c:Nat}{p:Nat->Bool}(h:OS T E w χ dt a xs c)(e:Ev p w χ w' χ')(hp:p dt=false)(h0:p 0=false):OS T E w' χ' dt a xs c:=by
 refine⟨h.JS,?_⟩;rcases h.row with h|⟨b,cells,h1,h2,h3,h4,h5,h6,h7⟩
 .exact .inl h
 .obtain⟨k1,k2⟩:=e.keep b h3.lt (by rw[h2];exact hp);exact .inr ⟨b,cells,h1,k2.trans h2,h3.same k1,h4,h5,h6,λi x hx=>T.mono (e.m0 h0) (h7 i x hx)⟩
structure Old (w0:World) (χc:Nat->Nat) (w:World) (χ:Nat->Nat):Prop where
 os:w.os=w0.os
 tape:w.tape=w0.tape
 output:w.output=w0.output
 size:w0.heap.size<=w.heap.size
 keep:∀b,b<w0.heap.size->w.heap[b]?=w0.heap[b]?/\χ b=if χc b=0 then 0 else 1000
theorem Old.mv{p:Nat->Bool}{w0 w w':World}{χc χ χ':Nat->Nat}(h:Old w0 χc w χ)(e:Ev p w χ w' χ')(h0:p 0=false)(h1:p 1000=false):Old w0 χc w' χ' :=
 ⟨e.os.trans h.os,e.tape.trans h.tape,e.output.trans h.output,bP h.size e.size,λb hb=>by
  obtain⟨k1,k2⟩:=h.keep b hb;have:p (χ b)=false:=by rw[k2];split<;>assumption
  obtain⟨l1,l2⟩:=e.keep b (dH hb h.size) this;exact⟨l1.trans k1,l2.trans k2⟩⟩
def Qe(χc:Nat->Nat)(b:Nat):Nat:=if χc b=0 then 0 else 1000
theorem Old.start(w:World)(χc:Nat->Nat):Old w χc w (Qe χc):=⟨rfl,rfl,rfl,aK _,λ_ _=>⟨rfl,rfl⟩⟩
theorem M0.start(w:World)(χc:Nat->Nat):M0 w χc w (Qe χc):=⟨aK _,λb _ h=>⟨rfl,by simp[Qe,h]⟩⟩
theorem Old.leave{w0 w:World}{χc χ:Nat->Nat}(h:Old w0 χc w χ)(f:Nat->Nat)(h0:f 0=0):∃χ',Ev eN w0 χc w χ'/\M0 w χ w χ'/\(∀b,χ b≠0->χ b≠1000->χ' b=f (χ b)):=by
 refine⟨λb=>if b<w0.heap.size then χc b else f (χ b),⟨h.os,h.tape,h.output,h.size,λb hb _=>⟨(h.keep b hb).1,by simp[hb]⟩⟩,⟨aK _,λb _ hz=>⟨rfl,?_⟩⟩,?_⟩
 .show(if b<w0.heap.size then χc b else f (χ b))=0;split
  .rename_i hb;have:=(h.keep b hb).2;rw[hz]at this;split at this
   .assumption
   .omega
  .rw[hz,h0]
 .intro b hb hb1;have:¬b<w0.heap.size:=by
   intro eB;have:=(h.keep b eB).2;split at this
   .exact hb this
   .exact hb1 this
  simp[this]
def Bf(P:Program)(f:FuncId)(vals:Array Value)(p:Nat->Bool)(w:World)(χ:Nat->Nat)(post:World->(Nat->Nat)->Value->Prop):Prop :=
 Calls P f vals w λe w'=>∃v χ',e=.returned v/\Ev p w χ w' χ'/\post w' χ' v
theorem Bf.mono{P:Program}{f:FuncId}{vals:Array Value}{p:Nat->Bool}{w:World}{χ:Nat->Nat}{post Zm:World->(Nat->Nat)->Value->Prop}(h:Bf P f vals p w χ post)
  (k:∀w' χ' v,Ev p w χ w' χ'->post w' χ' v->Zm w' χ' v):Bf P f vals p w χ Zm :=
 Calls.mono h λ_ _ ⟨v,χ',h1,h2,h3⟩=>⟨v,χ',h1,h2,k _ _ _ h2 h3⟩
def DF:Nat->List Value->List (Nat×SV)
 |_,[]=>[]
 |i,v::l=>(i,V v)::DF (i+1) l
theorem w5:∀(l:List Value)(i t:Nat)(sv:SV),aa (DF i l) t=some sv->∃v,sv=V v/\i<=t/\l[t-i]?=some v
 |[],_,_,_,h=>by cases h
 |x::l,i,t,sv,h=>by
  rcases aA h with⟨rfl,rfl⟩|⟨hne,h'⟩
  .exact⟨x,rfl,aK _,by simp⟩
  .obtain⟨v,h1,h2,h3⟩:=w5 l (i+1) t sv h';refine⟨v,h1,by omega,?_⟩;rw[show t-i=(t-(i+1))+1 by omega];simpa using h3
section
variable{P:Program}
theorem enter{f:FuncId}{F:Func}{c:Code}(hf:P.funcs[f]?=some F)(hb:F.body=some c){vals:List Value}{w:World}{χ:Nat->Nat}{post:World->(Nat->Nat)->Value->Prop}
  (hn:Nat.ble vals.length F.ntmps=true)
  (k:∀ρ a,St F.ntmps ⟨DF 0 vals,[]⟩ ρ a w (Qe χ)->Old w χ w (Qe χ)->M0 w χ w (Qe χ) ->
   c.wp P (qs (λa' w'=>bodyPost P F (λe BH=>∃v χ',e=.returned v/\Ev eN w χ BH χ'/\post BH χ' v) .ret a' w') (λa' w'=>bodyPost P F (λe BH=>∃v χ',e=.returned v/\Ev eN w χ BH χ'/\post BH χ' v) .ret a' w') []) a w) :
  Bf P f vals.toArray eN w χ post:=by
 unfold Bf;refine calls_of_wp hf hb ?_;have hle:=aB hn;refine wp_mono (k (λ_=>0) { tmps:=vals.toArray++Array.replicate (F.ntmps-vals.toArray.size) undef,defers:=[] } ⟨by simp;omega,rfl,?_,λid q h=>by cases h⟩ (Old.start w χ) (M0.start w χ)) ?_
 .intro t sv h;obtain⟨v,rfl,_,h3⟩:=w5 _ _ _ _ h;have eB:=(dz.1 h3).1;simp only[Nat.sub_zero]at h3 eB;rw[Array.getElem?_append_left (by simpa using eB)];simpa[aP,bT]using h3
 .intro e a w q;cases e with
  |normal=>exact q
  |ret=>exact q
  |exit id=>exact absurd q (by simp[qs,aa])
  |_=>exact q.elim
def zy(bj:oQ)(sy:Sy)(ρ:Nat->Nat):List ResultVar->Option (List Value)
 |[]=>some []
 |.tmp t::l=>match aa sy.al t,zy bj sy ρ l with
  |some v,some r=>some (aP ρ v::r)
  |_,_=>none
 |.cell t ty::l =>
  match aa sy.al t,zy bj sy ρ l,aa bj ty with
  |some (.s (.p id off)),some r,some Re =>
   match aa sy.boxes id with
   |some (_,cs) =>
    bif Re.agg then
     (bif Nat.ble (off+Re.size) cs.length then
      (match plain ((cs.drop off).take Re.size)with
       |some vs=>some (.agg vs.toArray::r)
       |none=>none)
      else none)
    else(match cs[off]? with|some v=>some (aP ρ v::r)|none=>none)
   |none=>none
  |_,_,_=>none
def one(l:List Value):Value:=match l with|[v]=>v|l=>.tuple l.toArray
def rv(tmps:Array Value):ResultVar->Sem Value
 |.tmp t=>pure (tmps.getD t undef)
 |.cell b t=>do loadVar t (←asAddr (tmps.getD b undef))
theorem xp(F:Func)(tmps:Array Value):results F tmps=(do let vs←F.results.mapM (rv tmps);pure (if h:vs.size=1 then vs[0]else .tuple vs)):=by
 unfold results;congr 1
theorem uR{bj:oQ}(T:dD P bj){n:Nat}{sy:Sy}{ρ:Nat->Nat}{a:Act}{w:World}{χ:Nat->Nat}(h:St n sy ρ a w χ):∀(l:List ResultVar)(r:List Value),zy bj sy ρ l=some r ->
  (l.mapM (rv a.tmps)).run P w=.ok r w
 |[],r,e=>by simp[zy]at e;subst e;rfl
 |.tmp t::l,r,e=>by
  simp only[zy]at e;split at e
  .rename_i v q hv hq;simp at e;subst e;have hg:=h.al _ _ hv;have ih:=uR T h l q hq;simp only[kX,bU,cM,bW,ih,rv];simp[hg]
  .cases e
 |.cell t ty::l,r,e=>by
  simp only[zy]at e;split at e
  .rename_i id off q Re hv hq ht;have hg:=h.al _ _ hv;have ih:=uR T h l q hq;have uB:a.tmps.getD t undef=.pointer (some ⟨ρ id,off,none⟩):=by simp[hg,aP,bT]
   split at e
   .rename_i bt cs hb;obtain⟨i,d,z,hi,hd,hz,hs,lZ,lx,iA,_⟩:=a8 (T _ _ ht);obtain⟨_,_,gk⟩:=h.boxes _ _ hb;cases ha:Re.agg with
    |true =>
     simp only[ha,cG]at e;cases hle:Nat.ble (off+Re.size) cs.length with
     |false=>simp[hle]at e
     |true =>
      simp only[hle,cG]at e;split at e
      .rename_i vs hp;simp at e;subst e;have A9:=xw hp;have:=lH (P:=P) (w:=w) (off:=off) hi hd (by rw[←iA,ha]) gk (by simp[hs];exact aB hle);rw[←List.map_drop,←List.map_take,hs,A9,lV]at this;simp only[kX,bU,cM,bW,ih,rv,uB,asAddr,this]
      .cases e
    |false =>
     simp only[ha,eQ]at e;split at e
     .rename_i v sU;simp at e;subst e;have:=lG (P:=P) (w:=w) (off:=off) (v:=aP ρ v) hd (by rw[←iA,ha]) gk (by simp[sU]);simp only[kX,bU,cM,bW,ih,rv,uB,asAddr,this]
     .cases e
   .cases e
  .cases e
theorem Lo{bj:oQ}(T:dD P bj){F:Func}{n:Nat}{sy:Sy}{ρ:Nat->Nat}{a:Act}{w:World}{χ:Nat->Nat}{R:Ending->World->Prop}(h:St n sy ρ a w χ){r:List Value}(e:zy bj sy ρ F.results.toList=some r)
  (hR:R (.returned (one r)) w):bodyPost P F R .ret a w:=by
 refine⟨h.defers,one r,?_,hR⟩;have:=uR (P:=P) T h _ _ e;rw[xp];rw[Array.mapM_eq_mapM_toList,bU,Sem.run_map,this];simp only[bW,cM];congr 1
 match r with
 |[]=>rfl
 |[v]=>rfl
 |v::u::l=>simp[one]
theorem fin{bj:oQ}(T:dD P bj){F:Func}{n:Nat}{sy:Sy}{ρ:Nat->Nat}{a:Act}{w0 w:World}{χc χ:Nat->Nat}{post:World->(Nat->Nat)->Value->Prop}(h:St n sy ρ a w χ)(hO:Old w0 χc w χ)(f:Nat->Nat)(h0:f 0=0){r:List Value}(e:zy bj sy ρ F.results.toList=some r)
  (hp:∀χ',M0 w χ w χ'->(∀b,χ b≠0->χ b≠1000->χ' b=f (χ b))->post w χ' (one r)):bodyPost P F (λe BH=>∃v χ',e=.returned v/\Ev eN w0 χc BH χ'/\post BH χ' v) .ret a w:=by
 obtain⟨χ',h1,h2,h3⟩:=hO.leave f h0;exact Lo T h e ⟨_,χ',rfl,h1,hp χ' h2 h3⟩
def bK(all:List Oper)(sy:Sy):Option (Nat×Bool)->Bool
 |none=>true
 |some (j,want)=>match oT all j with
  |some tc=>match aa sy.al tc with
   |some (.s (.v (.bool b)))=>b==want
   |_=>false
  |none=>false
section ops
variable{bj:oQ}{n:Nat}{sy:Sy}{ρ:Nat->Nat}{a:Act}{w:World}{χ:Nat->Nat}{all:List Oper}{Q:Exit->Act->World->Prop}{K:Act->World->Prop}
variable{d ty:Nat}{pos:String}{af:Array Edge}{g:Option (Nat×Bool)}
theorem de(h:St n sy ρ a w χ){o:Oper}(hw:bK all sy o.guard=true):Region.wanted o (yielded all.toArray a.tmps)=true:=by
 cases hg:o.guard with
 |none=>simp[Region.wanted,hg]
 |some q =>
  obtain⟨j,want⟩:=q;rw[hg]at hw;simp only[bK]at hw;split at hw
  .rename_i tc ht;split at hw
   .rename_i b hl;exact(qz h hg ht hl).trans hw
   .cases hw
  .cases hw
def pJ(P:Program)(ops:Array Oper)(Q:Exit->Act->World->Prop)(o:Oper)(K:Act->World->Prop)(a:Act)(w:World):Prop :=
 if Region.wanted o (yielded ops a.tmps)then o.wp P a w K Q∨(o.asks P a w/\LetsOut Q)else K (a.put o.dst undef) w
theorem A6{ops:Array Oper}{o:Oper}{rest:List Oper}(h:pJ P ops Q o (wpList P ops Q rest) a w):wpList P ops Q (o::rest) a w:=by
 unfold wpList;exact h
theorem iG{ops:Array Oper}{o:Oper}(hw:Region.wanted o (yielded ops a.tmps)=true)(h:o.wp P a w K Q):pJ P ops Q o K a w:=by
 unfold pJ;rw[if_pos hw];exact .inl h
theorem qD(h:St n sy ρ a w χ){op:Op}(hw:bK all sy g=true)(hd:Nat.blt d n=true){v:Value}{w':World}{χ':Nat->Nat}{p:Nat->Bool}(ev:Ev p w χ w' χ')(hp:∀c,jo c=true->p c=false)
  (nz:(execOp a.eval ⟨some d,op,ty,pos,af,g⟩).run P w=.ok (.value v) w')
  (k:∀a',St n ⟨(d,V v)::sy.al,sy.boxes⟩ ρ a' w' χ'->K a' w'):pJ P all.toArray Q ⟨some d,op,ty,pos,af,g⟩ K a w:=by
 refine iG (de h (o:=⟨some d,op,ty,pos,af,g⟩) hw) ?_;unfold Oper.wp;rw[nz];simp only[Oper.upon];exact k _ ((h.ev ev hp).put (sv:=V v) (aB hd))
def ub(sy:Sy)(ρ:Nat->Nat)(l:List Operand):Option (List Value) :=
 match j7 sy l with
 |some r=>some (r.map (aP ρ))
 |none=>none
theorem J1(h:St n sy ρ a w χ){as:List Operand}{vals:List Value}(e:ub sy ρ as=some vals):as.map a.eval=vals:=by
 unfold ub at e;cases hr:j7 sy as with
 |none=>simp[hr]at e
 |some r=>simp[hr]at e;rw[h.j7 hr,e]
def eX(P:Program)(f:Nat):Bool:=match P.funcs[f]? with|some fn=>fn.body.isSome&&!(fn.name == "runtime.NumGoroutine")|none=>false
theorem oW{f:Nat}(hb:eX P f=true)(vals:Array Value):(callFunc f vals).run P w=.ok (.enter f vals) w:=by
 unfold eX at hb;split at hb
 .rename_i fn hf;simp only[ak,eI]at hb;have h2:¬fn.name = "runtime.NumGoroutine" := by simpa using hb.2
  have h1:¬fn.body=none:=by intro e;rw[e]at hb;simp at hb
  simp[callFunc,hf,h1,h2]
 .cases hb
theorem sY(h:St n sy ρ a w χ){op:Op}{od:Option Nat}(hw:bK all sy g=true){f:Nat}{vals:Array Value}{w1:World}(nz:(execOp a.eval ⟨od,op,ty,pos,af,g⟩).run P w=.ok (.enter f vals) w1)
  {p:Nat->Bool} {post:World->(Nat->Nat)->Value->Prop} {χ1:Nat->Nat} (hc:Bf P f vals p w1 χ1 post)
  (k:∀v w' χ',Ev p w1 χ1 w' χ'->post w' χ' v->K (a.put od v) w'):pJ P all.toArray Q ⟨od,op,ty,pos,af,g⟩ K a w:=by
 refine iG (de h (o:=⟨od,op,ty,pos,af,g⟩) hw) ?_;unfold Oper.wp;rw[nz];simp only[Oper.upon];refine Calls.mono hc ?_;rintro e w' ⟨v,χ',rfl,h2,h3⟩;exact k v w' χ' h2 h3
theorem call{f:Nat}{as:Array Operand}{qo:Array TypeId}{vals:List Value}{p:Nat->Bool}{post:World->(Nat->Nat)->Value->Prop}(h:St n sy ρ a w χ)(hw:bK all sy g=true)(hd:Nat.blt d n=true)(hb:eX P f=true)
  (hv:ub sy ρ as.toList=some vals) (hp:∀c,jo c=true->p c=false) (hc:Bf P f vals.toArray p w χ post)
  (k:∀v a' w' χ',Ev p w χ w' χ'->post w' χ' v->St n ⟨(d,V v)::sy.al,sy.boxes⟩ ρ a' w' χ'->K a' w') :
  pJ P all.toArray Q ⟨some d,.call ⟨.value (.func f),as,qo⟩,ty,pos,af,g⟩ K a w:=by
 refine sY h hw (f:=f) (vals:=vals.toArray) (w1:=w) ?_ hc ?_
 .have:as.map a.eval=vals.toArray:=by rw[←J1 h hv,←Array.toList_map]
  simp[execOp,resolve,Act.eval,Deferred.ofValue,invoke,this,oW hb]
 .intro v w' χ' h2 h3;exact k v _ w' χ' h2 h3 ((h.ev h2 hp).put (sv:=V v) (aB hd))
def At{α:Type}(T:b9 α)(w:World)(χ:Nat->Nat)(A:Addr)(x:α):Prop :=
 ∃b o cells e fr,A=⟨b,o,none⟩/\χ b=0/\w.heap[b]?=some (.cells cells e fr)/\T.R w χ ((cells.toList.drop o).take T.n) x
def gi{α:Type}[Inhabited α](xs:List α)(i:Int):α:=xs.getD i.toNat default
theorem qW{α:Type}[Inhabited α]{xs:List α}{i:Int}(h0:0<=i)(h1:i<xs.length):xs[i.toNat]?=some (gi xs i):=by
 have:i.toNat<xs.length:=by omega
 simp[gi,wC,this]
def wL(bj:oQ)(t e:Nat):Bool:=match aa bj t with|some ⟨_,_,_,_,.slice e'⟩=>Nat.beq e' e|_=>false
def xj(bj:oQ)(t m:Nat):Bool:=match aa bj t with|some s=>Nat.beq s.size m|none=>false
theorem ny(T:dD P bj){t e:Nat}(h:wL bj t e=true):P.underlying t=some (.slice e):=by
 unfold wL at h;split at h
 .rename_i ht;obtain⟨i,d,z,hi,hd,hz,hs,lZ,lx,iA,_,_,_,Uf,_⟩:=a8 (T _ _ ht);rw[hd,Uf _ rfl,aD h]
 .cases h
theorem pN(T:dD P bj){t m:Nat}(h:xj bj t m=true):∃i,P.info? t=some i/\i.size=m:=by
 unfold xj at h;split at h
 .rename_i s ht;obtain⟨i,d,z,hi,hd,hz,hs,_⟩:=a8 (T _ _ ht);exact⟨i,hi,hs.trans (aD h)⟩
 .cases h
theorem qH{t e m:Nat}{ad:Option Addr}{b o len c:Nat}{k:IntKind}{i:Int}(hu:P.underlying t=some (.slice e)){inf:TypeInfo}(hi:P.info? e=some inf)(hm:inf.size=m)(Ht:ad=some ⟨b,o,none⟩)(h0:0<=i)(h1:i<len):
  (Instr.indexAt t (.slice ad len c) (.int k i)).run P w=.ok (.pointer (some ⟨b,o+i.toNat*m,none⟩)) w:=by
 subst Ht;simp[Instr.indexAt,aH hu,asIntOf,h0,h1,run_sizeOf hi,hm,Addr.add_lit]
theorem index{α:Type}[Inhabited α]{T:b9 α}(TT:dD P bj){t e:Nat}{x y:Operand}{ad:Option Addr}{xs:List α}{c:Nat}{k:IntKind}{i:Int}(h:St n sy ρ a w χ)(hw:bK all sy g=true)(hd:Nat.blt d n=true)
  (hx:cu sy x=some (V (.slice ad xs.length c))) (hy:cu sy y=some (V (.int k i))) (hR:RS T w χ ad xs c) (ht:wL bj t e=true) (hs:xj bj e T.n=true) (h0:0<=i) (h1:i<xs.length)
  (kk:∀A a',At T w χ A (gi xs i)->St n ⟨(d,V (.pointer (some A)))::sy.al,sy.boxes⟩ ρ a' w χ->K a' w) :
  pJ P all.toArray Q ⟨some d,.indexAddr t x y,ty,pos,af,g⟩ K a w:=by
 have hne:xs≠[]:=by intro e;subst e;simp at h1;omega
 obtain⟨b,o,cells,e',fr,Ht,DX,hh,ll⟩:=hR.cells hne;obtain⟨inf,hi,hm⟩:=pN TT hs;have hr:=qH (P:=P) (w:=w) (c:=c) (k:=k) (ny TT ht) hi hm Ht h0 h1;refine qD h hw hd (Ev.refl eN w χ) (λ_ _=>rfl) (v:=.pointer (some ⟨b,o+i.toNat*T.n,none⟩)) (w':=w) ?_ (λa' h'=>kk _ a' ⟨b,o+i.toNat*T.n,cells,e',fr,rfl,DX,hh,ll _ _ (qW h0 h1)⟩ h');have ex:a.eval x=.slice ad xs.length c:=h.cu hx;have ey:a.eval y=.int k i:=h.cu hy;simp[execOp,ex,ey,hr]
def DI(bj:oQ)(t:Nat)(b:Bool):Bool:=match aa bj t with|some s=>s.agg==b|none=>false
theorem BC(T:dD P bj){t:Nat}{b:Bool}(h:DI bj t b=true):∃d,P.underlying t=some d/\isA d=b:=by
 unfold DI at h;split at h
 .rename_i s ht;obtain⟨i,d,z,hi,hd,hz,hs,lZ,lx,iA,_⟩:=a8 (T _ _ ht);exact⟨d,hd,by rw[←iA];simpa using h⟩
 .cases h
theorem afj{α:Type}{T:b9 α}(TT:dD P bj){t s:Nat}{A:Addr}{x:α}(h:St n sy ρ a w χ)(hw:bK all sy g=true)(hd:Nat.blt d n=true)(hs:aa sy.al s=some (V (.pointer (some A))))(hA:At T w χ A x)(hn:T.n=1)
  (ht:DI bj t false=true) (k:∀v a',T.R w χ [v] x->St n ⟨(d,V v)::sy.al,sy.boxes⟩ ρ a' w χ->K a' w) :
  pJ P all.toArray Q ⟨some d,.load t (.tmp s),ty,pos,af,g⟩ K a w:=by
 obtain⟨b,o,cells,e',fr,rfl,DX,hh,ll⟩:=hA;obtain⟨dd,z6,V2⟩:=BC TT ht;have hlen:=T.len ll;rw[hn]at hlen ll
 match hl:(cells.toList.drop o).take 1,hlen with
 |[v],_ =>
  rw[hl]at ll;have jZ:w.cell? ⟨b,o,none⟩=some v:=by
   have:(cells.toList.drop o)[0]?=some v:=by have:=b8 (λl=>l[0]?) hl;simpa[bQ]using this
   simp only[World.cell?,hh];simpa using this
  refine qD h hw hd (Ev.refl eN w χ) (λ_ _=>rfl) (v:=v) (w':=w) ?_ (λa' h'=>k v a' ll h');have es:a.eval (.tmp s)=.pointer (some ⟨b,o,none⟩):=h.cu (x:=.tmp s) hs;simp[execOp,es,Instr.loadAt,Instr.sureAddr,loadVar,ig z6,V2,jZ]
theorem tY{cells:Array Value}{L m i:Nat}{cs:List Value}(h:cells.toList.take L=cs)(hi:(i+1)*m<=L):chunk cells 0 m i=(cs.drop (i*m)).take m:=by
 subst h;unfold chunk;rw[py,List.take_take,bh];congr 1;rw[Nat.add_mul]at hi;omega
theorem dZ{i len m:Nat}(h:i<len):(i+1)*m<=len*m:=cP m h
structure Src {α:Type} (T:b9 α) (w:World) (χ:Nat->Nat) (ad:Option Addr) (ys:List α) (c:Nat) (news:List Value):Prop where
 len:news.length=ys.length*T.n
 nil:ad=none->ys=[]/\c=0
 cell:∀A,ad=some A->∀j u,news[j]?=some u->w.cell? (A.add j)=some u
 one:∀u∈news,u.oneCell'=true
 el:∀(i:Nat)(y:α),ys[i]?=some y->T.R w χ ((news.drop (i*T.n)).take T.n) y
theorem yY{α:Type}{T:b9 α}{ys:List α}{news:List Value}(hlen:news.length=ys.length*T.n)(ll:∀(i:Nat)(y:α),ys[i]?=some y->T.R w χ ((news.drop (i*T.n)).take T.n) y):∀u∈news,u.oneCell'=true:=by
 intro u hu;obtain⟨j,hj⟩:=List.getElem?_of_mem hu;have hjl:j<news.length:=(dz.1 hj).1;have hp:=T.pos;have hq:j/T.n<ys.length:=by rw[hlen]at hjl;exact Nat.div_lt_of_lt_mul (by rw[Nat.mul_comm];exact hjl)
 have hR:=ll (j/T.n) _ (fD hq);refine T.one hR u ?_;have hm:=Nat.div_add_mod j T.n;have eB:=Nat.mod_lt j (show 0<T.n by omega);have:((news.drop (j/T.n*T.n)).take T.n)[j%T.n]?=some u:=by rw[bQ,if_pos eB,eJ];rw[show j/T.n*T.n+j%T.n=j by rw[Nat.mul_comm];exact hm];exact hj
 exact eR this
theorem RS.src{α:Type}{T:b9 α}{ad:Option Addr}{ys:List α}{c:Nat}(h:RS T w χ ad ys c):∃news,Src T w χ ad ys c news:=by
 by_cases hne:ys=[]
 .subst hne;exact⟨[],by simp,h.nil,by intro A _ j u hu;simp at hu,by simp,by intro i y hy;simp at hy⟩
 .obtain⟨b,o,cells,e,fr,Ht,DX,hh,ll⟩:=h.cells hne;have hp:=T.pos;have agq:∀(i:Nat)(y:α),ys[i]?=some y->(chunk cells o T.n i).length=T.n:=λi y hy=>T.len (ll i y hy);have aq9:o+ys.length*T.n<=cells.size:=by
   have hl:ys.length≠0:=by simpa using hne
   have eB:ys.length-1<ys.length:=by omega
   have:=agq (ys.length-1) _ (fD eB);simp only[chunk,bH,dy,cm]at this;have e1:ys.length*T.n=(ys.length-1)*T.n+T.n:=by rw[←kW];congr 1;omega
   omega
  have hlen:((cells.toList.drop o).take (ys.length*T.n)).length=ys.length*T.n:=by simp;omega
  have Uw:∀(i:Nat)(y:α),ys[i]?=some y->T.R w χ ((((cells.toList.drop o).take (ys.length*T.n)).drop (i*T.n)).take T.n) y:=by intro i y hy;have hi:i<ys.length:=(dz.1 hy).1;have:=dZ (m:=T.n) hi;rw[Nat.add_mul,jf]at this;rw[py,List.take_take,kx,ky (by omega)];exact ll i y hy
  refine⟨(cells.toList.drop o).take (ys.length*T.n),hlen,h.nil,?_,yY hlen Uw,Uw⟩;intro A hA j u hu;rw[Ht]at hA;cases hA;rw[Addr.add_lit];simp only[World.cell?,hh];rw[bQ]at hu;split at hu
  .simpa using hu
  .cases hu
theorem OS.src{α:Type}{T:b9 α}{E dt:Nat}{ad:Option Addr}{ys:List α}{c:Nat}(h:OS T E w χ dt ad ys c):∃news,Src T w χ ad ys c news:=by
 rcases h.row with⟨rfl,rfl,rfl⟩|⟨b,cells,Ht,DX,hh,hle,hcm,jh,ll⟩
 .exact⟨[],by simp,λ_=>⟨rfl,rfl⟩,(by intro A hA;cases hA),by simp,by intro i y hy;simp at hy⟩
 .have arI:ys.length*T.n<=cells.size:=by rw[jh];exact cP _ hle
  have hlen:(cells.toList.take (ys.length*T.n)).length=ys.length*T.n:=by simp;omega
  have Uw:∀(i:Nat)(y:α),ys[i]?=some y->T.R w χ (((cells.toList.take (ys.length*T.n)).drop (i*T.n)).take T.n) y:=by intro i y hy;have hi:i<ys.length:=(dz.1 hy).1;rw[←tY (cells:=cells) rfl (dZ hi)];exact ll i y hy
  refine⟨cells.toList.take (ys.length*T.n),hlen,(by rintro rfl;cases Ht),?_,yY hlen Uw,Uw⟩;obtain⟨fr,hh,_⟩:=hh;intro A hA j u hu;rw[Ht]at hA;cases hA;rw[Addr.add_lit];simp only[World.cell?,hh];rw[bQ]at hu;split at hu
  .simpa using hu
  .cases hu
theorem zx(t ty e:TypeId)(i:TypeInfo)(ht:P.underlying t=some (.slice e))(hi:P.info? e=some i)
  (g xm KF:Nat) (cur:Array Value) (fz:Nat×Nat) (hg:w.heap[g]?=some (.cells cur e fz)) (Ja:Pa fz cur.size)
  (a:Addr) (m c:Nat) (news:List Value) (hl:news.length=m*i.size) (I6:∀j u,news[j]?=some u->w.cell? (a.add j)=some u) (h1:∀u∈news,u.oneCell'=true)
  (uo:xm+m<=KF) (xI:xm*i.size+news.length<=cur.size) :
  (Builtin.append_ #[t,t] ty #[.slice (some ⟨g,0,none⟩) xm KF,.slice (some a) m c]).run P w =
   .ok (.slice (some ⟨g,0,none⟩) (xm+m) KF) (w.setRow g (cur.toList.take (xm*i.size)++news++cur.toList.drop (xm*i.size+news.length)).toArray):=by
 have hf:=run_firstCells_some (P:=P) w i.size m a m c news hl I6;have im:=dW P g (xm*i.size) e fz news 0 cur w hg Ja (by simpa using xI) h1;simp only[c9]at im;simp[Builtin.append_,aH ht,sizeOf,typeInfo,hi,Builtin.lenOf,uo,hf,Addr.add_lit,im]
theorem KG{α:Type}{T:b9 α}{E dt:Nat}{inf:TypeInfo}{z:Value}{t u:Nat}(hu:P.underlying t=some (.slice E))(hi:P.info? E=some inf)(hz:inf.zero=some z)(jh:inf.size=T.n)(lZ:inf.bytes=T.bytes)(lx:z.cells.size=T.n)
  {ad zg:Option Addr} {xs ys:List α} {c c2:Nat} {news:List Value} (h:OS T E w χ dt ad xs c) (hs:Src T w χ zg ys c2 news) (nE:dt≠0) (hb:(xs.length+ys.length)*T.bytes<=140737488355328) (h63:xs.length+ys.length<=9223372036854775807) :
  ∃sW c' w' χ',(Builtin.append_ #[t,t] u #[.slice ad xs.length c,.slice zg ys.length c2]).run P w=.ok (.slice sW (xs++ys).length c') w'/\OS T E w' χ' dt sW (xs++ys) c'/\Ev (gK dt) w χ w' χ':=by
 have PB:(xs++ys).length=xs.length+ys.length:=by simp
 have uA:=T.pos;have Z4:∀(w':World),w'.os=w.os->w'.tape=w.tape->w'.output=w.output->w.heap.size<=w'.heap.size->(∀b,b<w.heap.size->χ b≠dt->w'.heap[b]?=w.heap[b]?)->Ev (gK dt) w χ w' (λb=>if w.heap.size<=b then dt else χ b):=by
  intro w' h1 h2 h3 h4 h5;refine⟨h1,h2,h3,h4,λb hb hp=>⟨h5 b hb ?_,?_⟩⟩
  .intro e;rw[e]at hp;simp[gK]at hp
  .have:¬w.heap.size<=b:=by omega
   simp[this]
 have elN:∀(w':World)(jA:Array Value)(r8:List Value),(xs.length=r8.length/T.n)->r8.length=xs.length*T.n->jA.toList.take ((xs.length+ys.length)*T.n)=r8++news ->
  (∀(i:Nat)(x:α),xs[i]?=some x->T.R w χ ((r8.drop (i*T.n)).take T.n) x)->Ev (gK dt) w χ w' (λb=>if w.heap.size<=b then dt else χ b) ->
  ∀(i:Nat)(x:α),(xs++ys)[i]?=some x->T.R w' (λb=>if w.heap.size<=b then dt else χ b) (chunk jA 0 T.n i) x:=by
  intro w' jA r8 _ XN Ud XW ev i x hx;have hi:i<xs.length+ys.length:=by have:=(dz.1 hx).1;simpa using this
  rw[tY Ud (dZ hi)];have m:=ev.m0 (show gK dt 0=false by cases h:gK dt 0 with|false=>rfl|true=>exact absurd (aD h).symm nE);by_cases eB:i<xs.length
  .rw[fU eB]at hx;have:=dZ (m:=T.n) eB;rw[Nat.add_mul,jf]at this;rw[sN (by omega),lD (by simp;omega)];exact T.mono m (XW i x hx)
  .rw[eS (by omega)]at hx;have e1:i*T.n=r8.length+(i-xs.length)*T.n:=by rw[XN,←Nat.add_mul];congr 1;omega
   rw[e1,List.drop_append,dT (by omega),gU,pI];exact T.mono m (hs.el _ x hx)
 have xG:news.length=ys.length*inf.size:=by rw[hs.len,jh]
 have rr:(xs.length+ys.length)*inf.bytes<=140737488355328:=by rw[lZ];exact hb
 rcases h.row with⟨rfl,rfl,rfl⟩|⟨b,cells,rfl,hc,hh,hle,hcm,sU,ll⟩
 ·
  cases zg with
  |none=>obtain⟨rfl,rfl⟩:=hs.nil rfl;refine⟨none,0,w,χ,?_,OS.nil T E w χ dt,Ev.refl _ _ _⟩;simp[Builtin.append_,aH hu,sizeOf,typeInfo,hi,Builtin.lenOf,Builtin.firstCells]
  |some A =>
   by_cases hm:ys.length=0
   .have:ys=[]:=qq hm;subst this;refine⟨none,0,w,χ,?_,OS.nil T E w χ dt,Ev.refl _ _ _⟩;simp[Builtin.append_,aH hu,sizeOf,typeInfo,hi,Builtin.lenOf,Builtin.firstCells,loadCells,loadCellsFrom]
   .simp only[cN,bh]at rr h63;have hr:=run_append_nil (P:=P) w t u E inf z hu hi hz A ys.length c2 news xG (hs.cell A rfl) (by omega) (by omega) (by omega);have hge:=grownCap_ge w ys.length 0 E;have Lz:=grownCap_le_maxLen w ys.length 0 E (by unfold maxLen;omega);have ev:=Z4 (w.drew.alloc (.cells (news.toArray++Builtin.zeroCells z.cells (grownCap w ys.length 0 E-ys.length)) E)) rfl rfl rfl (by simp) (λb hb _=>heap_alloc_old w.drew _ hb);refine⟨_,_,_,λb=>if w.heap.size<=b then dt else χ b,by simpa using hr,⟨by simpa[lZ]using rr,.inr ⟨w.heap.size,_,rfl,by simp,.zero (heap_alloc_new w.drew _),by simpa using hge,Lz,?_,?_⟩⟩,ev⟩
    .simp only[pB,gv,size_zeroCells,lx,hs.len,←Nat.add_mul];congr 1;omega
    .refine elN _ _ [] (by simp) (by simp) ?_ (by intro i x hx;simp at hx) ev;simp only[cN,bh,pE,gU];rw[←hs.len];exact List.take_left
 .have gk:=hh;obtain⟨fr,hh,Ja⟩:=hh;have GW:(cells.toList.take (xs.length*T.n)).length=xs.length*T.n:=by
   have:xs.length*T.n<=cells.size:=by rw[sU];exact cP _ hle
   simp;omega
  have XW:∀(i:Nat)(x:α),xs[i]?=some x->T.R w χ (((cells.toList.take (xs.length*T.n)).drop (i*T.n)).take T.n) x:=by intro i x hx;have hi:i<xs.length:=(dz.1 hx).1;rw[←tY (cells:=cells) rfl (dZ hi)];exact ll i x hx
  have hdiv:xs.length=(cells.toList.take (xs.length*T.n)).length/T.n:=by rw[GW,Nat.mul_div_cancel _ (by omega)]
  have XX:∀j v,(cells.toList.take (xs.length*T.n))[j]?=some v->w.cell? ((⟨b,0,none⟩:Addr).add j)=some v:=by
   intro j v hj;rw[Addr.add_lit];simp only[World.cell?,hh];rw[bQ]at hj;split at hj
   .simpa using hj
   .cases hj
  by_cases uo:xs.length+ys.length<=c
  .have xI:xs.length*inf.size+news.length<=cells.size:=by rw[xG,jh,sU,←Nat.add_mul];exact cP _ uo
   have key:∃w',(Builtin.append_ #[t,t] u #[.slice (some ⟨b,0,none⟩) xs.length c,.slice zg ys.length c2]).run P w=.ok (.slice (some ⟨b,0,none⟩) (xs++ys).length c) w' /\
    w'=w.setRow b (cells.toList.take (xs.length*inf.size)++news++cells.toList.drop (xs.length*inf.size+news.length)).toArray:=by
    cases zg with
    |none =>
     obtain⟨rfl,rfl⟩:=hs.nil rfl;have hn0:news=[]:=qq (by simpa using hs.len);subst hn0;refine⟨w,?_,?_⟩
     .simp[Builtin.append_,aH hu,sizeOf,typeInfo,hi,Builtin.lenOf,Builtin.firstCells,hle,storeCells]
     .simp only[fT,cN,c9,lC];exact(setRow_self w b cells E fr hh).symm
    |some A=>have hr:=zx (P:=P) (w:=w) t u E inf hu hi b xs.length c cells fr hh Ja A ys.length c2 news xG (hs.cell A rfl) hs.one uo xI;exact⟨_,by rw[hr,PB],rfl⟩
   obtain⟨w',hr,rfl⟩:=key;have ev:=Z4 (w.setRow b (cells.toList.take (xs.length*inf.size)++news++cells.toList.drop (xs.length*inf.size+news.length)).toArray) rfl rfl rfl (by simp) (λk hk hne=>setRow_other w b k _ (λe=>hne (e▸hc)));have eB:=gF hh;refine⟨_,_,_,λb=>if w.heap.size<=b then dt else χ b,hr,⟨by rw[PB];exact hb,.inr ⟨b,_,rfl,?_,gk.set (by simp only[gv,aS,bH,dy,cm];omega),by rw[PB];exact uo,hcm,?_,?_⟩⟩,ev⟩
   .have:¬w.heap.size<=b:=by omega
    simp[this,hc]
   .simp only[gv,aS,bH,dy,cm];omega
   .refine elN _ _ _ hdiv GW ?_ XW ev;rw[jh];show((cells.toList.take (xs.length*T.n)++news)++_).take _=_;rw[lD (by simp only[aS,GW,hs.len,←Nat.add_mul];omega)];rw[fc (by simp only[aS,GW,hs.len,←Nat.add_mul];omega)]
  .have key:∃A,zg=some A:=by
    cases zg with
    |none=>obtain⟨rfl,rfl⟩:=hs.nil rfl;simp at uo;omega
    |some A=>exact⟨A,rfl⟩
   obtain⟨A,rfl⟩:=key;have hr:=run_append_grow (P:=P) w t u E inf z hu hi hz ⟨b,0,none⟩ xs.length c (cells.toList.take (xs.length*T.n)) (by rw[GW,jh]) XX A ys.length c2 news xG (hs.cell A rfl) (by omega) (by omega) (growslice_fits (by omega) rr);have hge:=grownCap_ge w (xs.length+ys.length) c E;have Lz:=grownCap_le_maxLen w (xs.length+ys.length) c E (by unfold maxLen;omega);have ev:=Z4 (w.drew.alloc (.cells ((cells.toList.take (xs.length*T.n)).toArray++news.toArray++Builtin.zeroCells z.cells (grownCap w (xs.length+ys.length) c E-(xs.length+ys.length))) E)) rfl rfl rfl (by simp) (λb hb _=>heap_alloc_old w.drew _ hb);refine⟨_,_,_,λb=>if w.heap.size<=b then dt else χ b,by rw[PB];exact hr,⟨by rw[PB];exact hb,.inr ⟨w.heap.size,_,rfl,by simp,.zero (heap_alloc_new w.drew _),by rw[PB];exact hge,Lz,?_,?_⟩⟩,ev⟩
   .simp only[pB,gv,size_zeroCells,lx,hs.len,GW,←Nat.add_mul];congr 1;omega
   .refine elN _ _ _ hdiv GW ?_ XW ev;simp only[pE];rw[lD (by simp only[aS,GW,hs.len,←Nat.add_mul];omega)];rw[fc (by simp only[aS,GW,hs.len,←Nat.add_mul];omega)]
theorem jC{dt:Nat}(h:Nat.ble 1000 dt=true):∀c,jo c=true->gK dt c=false:=by
 intro c hc;simp only[jo,ak]at hc;have h1:=aB hc.2;have h2:=aB h;cases he:gK dt c with
 |false=>rfl
 |true=>have:=aD he;omega
def Bc(bj:oQ)(E n xS:Nat):Bool:=match aa bj E with|some s=>Nat.beq s.size n&&Nat.beq s.bytes xS&&Nat.beq s.zero.length n|none=>false
theorem LN(T:dD P bj){E m b:Nat}(h:Bc bj E m b=true):∃i z,P.info? E=some i/\i.zero=some z/\i.size=m/\i.bytes=b/\z.cells.size=m:=by
 unfold Bc at h;split at h
 .rename_i s ht;obtain⟨i,d,z,hi,hd,hz,hs,lZ,lx,_⟩:=a8 (T _ _ ht);simp only[ak]at h;exact⟨i,z,hi,hz,hs.trans (aD h.1.1),lZ.trans (aD h.1.2),by rw[←cm,lx];exact aD h.2⟩
 .cases h
theorem append{α:Type}{T:b9 α}(TT:dD P bj){t E dt:Nat}{x y:Operand}{ad zg:Option Addr}{xs ys:List α}{c c2:Nat}{news:List Value}(h:St n sy ρ a w χ)(hw:bK all sy g=true)(hd:Nat.blt d n=true)
  (hx:cu sy x=some (V (.slice ad xs.length c))) (hy:cu sy y=some (V (.slice zg ys.length c2))) (hO:OS T E w χ dt ad xs c) (hs:Src T w χ zg ys c2 news) (ht:wL bj t E=true) (he:Bc bj E T.n T.bytes=true) (nE:Nat.ble 1000 dt=true)
  (ZX:Nat.ble T.bytes 128=true) (Uo:xs.length+ys.length<=1099511627776)
  (k:∀sW c' a' w' χ',Ev (gK dt) w χ w' χ'->OS T E w' χ' dt sW (xs++ys) c'->St n ⟨(d,V (.slice sW (xs++ys).length c'))::sy.al,sy.boxes⟩ ρ a' w' χ'->K a' w') :
  pJ P all.toArray Q ⟨some d,.call ⟨.builtin .append,#[x,y],#[t,t]⟩,ty,pos,af,g⟩ K a w:=by
 obtain⟨inf,z,hi,hz,jh,lZ,lx⟩:=LN TT he;have DX:dt≠0:=by have:=aB nE;omega
 obtain⟨sW,c',w',χ',hr,hO',ev⟩:=KG (u:=ty) (ny TT ht) hi hz jh lZ lx hO hs DX (room Uo ZX) (by omega);refine qD h hw hd ev (jC nE) (v:=.slice sW (xs++ys).length c') (w':=w') ?_ (λa' h'=>k sW c' a' w' χ' ev hO' h');have ex:a.eval x=.slice ad xs.length c:=h.cu hx;have ey:a.eval y=.slice zg ys.length c2:=h.cu hy;simp[execOp,resolve,invoke,builtin,ex,ey,hr]
def RL{α:Type}(T:b9 α)(w:World)(χ:Nat->Nat):List Value->List α->Prop
 |[],[]=>True
 |v::vs,y::ys=>T.R w χ v.cells.toList y/\RL T w χ vs ys
 |_,_=>False
theorem RL.len{α:Type}{T:b9 α}:∀{vs:List Value} {ys:List α},RL T w χ vs ys->vs.length=ys.length
 |[],[],_=>rfl
 |_::_,_::_,h=>by simp[RL.len h.2]
 |[],_::_,h=>h.elim
 |_::_,[],h=>h.elim
def counts:Nat->List (Nat×Operand)->Bool
 |_,[]=>true
 |i,q::l=>Nat.beq q.1 i&&counts (i+1) l
theorem JA{m:Nat}:∀(vs:List Value)(i:Nat)(done left:List Value),done.length=i*m->left.length=vs.length*m->(∀v∈vs,v.cells.size=m) ->
  Instr.fill (λi=>some (i*m,m)) (done++left).toArray ((vs.zipIdx i).map (λq=>(q.2,q.1)))=some (done++vs.flatMap (λv=>v.cells.toList)).toArray
 |[],i,done,left,h1,h2,_=>by simp at h2;have:left=[]:=h2;subst this;simp[Instr.fill]
 |v::vs,i,done,left,h1,h2,h3=>by
  have hv:v.cells.size=m:=h3 v (by simp);have hl:left.length=m+vs.length*m:=by rw[h2,bc,kW];omega
  have hf:=lW (λi=>some (i*m,m)) [(i,v)] (done++left) (done++v.cells.toList++left.drop m) (by
   simp only[qY];rw[show(Nat.beq v.cells.size m&&Nat.ble (i*m+m) (done++left).length)=true by
    rw[ak];exact⟨by simp[hv],by simp[h1,hl]⟩]
   simp only[cG,Option.some.injEq];rw[lD (by omega),fc (by omega),←h1,List.drop_append];rw[dT (by omega),gU,pI])
  have ih:=JA vs (i+1) (done++v.cells.toList) (left.drop m) (by simp[h1,hv,kW]) (by simp;omega) (λu hu=>h3 u (by simp[hu]));simp only[List.zipIdx_cons,ba];simp only[Instr.fill]at hf ⊢; split at hf
  .cases hf
  .rename_i Jd;rw[if_neg Jd];have:∀{x y:Array Value},some x=some y->x=y:=λh=>Option.some.inj h;rw[this hf,ih];simp
theorem LS(h:St n sy ρ a w χ):∀(l:List (Nat×Operand)) (i:Nat) (vals:List Value),counts i l=true->ub sy ρ (l.map (·.2))=some vals->l.map (λq=>(q.1,a.eval q.2))=(vals.zipIdx i).map (λq=>(q.2,q.1)):=by
 intro l
 induction l with
 |nil=>intro i vals _ e;simp[ub,j7]at e;subst e;rfl
 |cons q l ih =>
  intro i vals hc e;simp only[counts,ak]at hc;unfold ub at e;simp only[ba,j7]at e;cases h1:cu sy q.2 with
  |none=>simp[h1]at e
  |some v =>
   cases h2:j7 sy (l.map (·.2))with
   |none=>simp[h1,h2]at e
   |some r=>simp[h1,h2]at e;subst e;have:=ih (i+1) (r.map (aP ρ)) hc.2 (by simp[ub,h2]);simp[this,h.cu h1,aD hc.1]
theorem RL.Zb{α:Type}{T:b9 α}:∀{vs:List Value} {ys:List α},RL T w χ vs ys->∀v∈vs,v.cells.size=T.n
 |[],[],_=>by simp
 |v::vs,y::ys,h=>by
  intro u hu;rcases aE.1 hu with rfl|hu
  .rw[←cm];exact T.len h.1
  .exact RL.Zb h.2 u hu
 |[],_::_,h=>h.elim
 |_::_,[],h=>h.elim
theorem RL.get{α:Type}{T:b9 α}:∀{vs:List Value} {ys:List α},RL T w χ vs ys->∀(i:Nat)(y:α),ys[i]?=some y->T.R w χ (((vs.flatMap (λv=>v.cells.toList)).drop (i*T.n)).take T.n) y
 |[],[],_,i,y,hy=>by simp at hy
 |v::vs,z::ys,h,i,y,hy=>by
  have hv:v.cells.toList.length=T.n:=T.len h.1;cases i with
  |zero=>simp at hy;subst hy;simp only[jI,Nat.zero_mul,nL];rw[lD (by omega),fc (by omega)];exact h.1
  |succ i=>simp only[List.getElem?_cons_succ]at hy;rw[jI,kW,Nat.add_comm,←kx,←hv,List.drop_left,hv];exact RL.get h.2 i y hy
 |[],_::_,h,_,_,_=>h.elim
 |_::_,[],h,_,_,_=>h.elim
theorem yZ{m:Nat}:∀(vs:List Value),(∀v∈vs,v.cells.size=m)->(vs.flatMap (λv=>v.cells.toList)).length=vs.length*m
 |[],_=>by simp
 |v::vs,h=>by rw[jI,aS,yZ vs (λu hu=>h u (by simp[hu])),bc,kW,cm,h v (by simp),Nat.add_comm]
theorem Bz(w:World)(χ:Nat->Nat)(o:Obj)(dt:Nat):Ev eN w χ (w.alloc o) (λb=>if w.heap.size<=b then dt else χ b) :=
 ⟨rfl,rfl,rfl,by simp,λb hb _=>⟨heap_alloc_old w o hb,if_neg (Nat.not_le.2 hb)⟩⟩
theorem lit{α:Type}{T:b9 α}(TT:dD P bj){t E m dt:Nat}{parts:Array (Nat×Operand)}{vals:List Value}{ys:List α}(h:St n sy ρ a w χ)(hw:bK all sy g=true)(hd:Nat.blt d n=true)(hcn:counts 0 parts.toList=true)
  (hv:ub sy ρ (parts.toList.map (·.2))=some vals) (hR:RL T w χ vals ys) (hm:m=ys.length) (ht:wL bj t E=true) (he:Bc bj E T.n T.bytes=true) (X1:Nat.ble (m*T.n) 16777216=true) (lZ:Nat.ble (m*T.bytes) 16777216=true)
  (k:∀b a' w' χ',Ev eN w χ w' χ'->OS T E w' χ' dt (some ⟨b,0,none⟩) ys m->w.heap.size<=b->St n ⟨(d,V (.slice (some ⟨b,0,none⟩) m m))::sy.al,sy.boxes⟩ ρ a' w' χ'->K a' w') :
  pJ P all.toArray Q ⟨some d,.buildSlice t m parts,ty,pos,af,g⟩ K a w:=by
 obtain⟨inf,z,hi,hz,jh,ar9,lx⟩:=LN TT he;have hlen:=hR.len;have Ug:=hR.Zb;have an4:=aB X1;have amn:=aB lZ;have Uj:(parts.map λ(i,x)=>(i,a.eval x)).toList=(vals.zipIdx 0).map (λq=>(q.2,q.1)):=by rw[←LS h _ 0 vals hcn hv];simp
 have QK:∀(z:Array Value),((Array.range (m*T.n)).map (z[· % z.size]!))=(([]:List Value)++((Array.range (m*T.n)).map (z[· % z.size]!)).toList).toArray:=λz=>by rw[gU,dI]
 have qV:∀(zz:Array Value),Instr.fill (λi=>some (i*T.n,T.n)) ((Array.range (m*T.n)).map (zz[· % zz.size]!)) ((vals.zipIdx 0).map (λq=>(q.2,q.1)))=some (vals.flatMap (λv=>v.cells.toList)).toArray:=by intro zz;rw[QK zz,JA vals 0 [] _ (by simp) (by simp[hlen,hm]) Ug];simp
 have Ur:(Instr.buildSlice t m (parts.map λ(i,x)=>(i,a.eval x))).run P w=.ok (.slice (some ⟨w.heap.size,0,none⟩) m m) (w.alloc (.cells (vals.flatMap (λv=>v.cells.toList)).toArray E)):=by
  have hnb:¬(m*T.n>2^24):=by omega
  by_cases h0:m*T.n=0
  .simp only[Instr.buildSlice,bU,aH (ny TT ht),bW,run_sizeOf hi,jh,Uj,if_neg hnb,if_pos h0,cM,qV];rfl
  .simp only[Instr.buildSlice,bU,aH (ny TT ht),bW,run_sizeOf hi,jh,Uj,if_neg hnb,if_neg h0,cM,zeroValue,typeInfo,run_program,hi,hz,qV];rfl
 have nz:(execOp a.eval ⟨some d,.buildSlice t m parts,ty,pos,af,g⟩).run P w=.ok (.value (.slice (some ⟨w.heap.size,0,none⟩) m m)) (w.alloc (.cells (vals.flatMap (λv=>v.cells.toList)).toArray E)):=by simp only[execOp,bU,Ur,bW,cM]
 have ev:=Bz w χ (.cells (vals.flatMap (λv=>v.cells.toList)).toArray E) dt;have Lu:=ev.m0 rfl;have hfl:=yZ (m:=T.n) vals Ug;refine qD h hw hd ev (λ_ _=>rfl) nz (λa' h'=>k w.heap.size a' _ _ ev ⟨by rw[←hm];omega,.inr ⟨w.heap.size,_,rfl,by simp,.zero (heap_alloc_new w _),by omega,by unfold maxLen;have:=T.pos;have:m<=m*T.n:=Nat.le_mul_of_pos_right m (by omega);omega,?_,?_⟩⟩ (aK _) h')
 .simp only[gv,hfl,hlen,hm]
 .intro i x hx;have:=T.mono Lu (hR.get i x hx);unfold chunk;simpa using this
theorem OS.freeze{α:Type}{T:b9 α}{E dt:Nat}{ad:Option Addr}{xs:List α}{c:Nat}(h:OS T E w χ dt ad xs c)(nE:dt≠0):∃χ',Ev (gK dt) w χ w χ'/\RS T w χ' ad xs c:=by
 have ev:Ev (gK dt) w χ w (λb=>if χ b=dt then 0 else χ b):=⟨rfl,rfl,rfl,aK _,λb _ hp=>⟨rfl,by
  have:χ b≠dt:=by intro e;rw[e]at hp;simp[gK]at hp
  simp[this]⟩⟩
 have m:=ev.m0 (show gK dt 0=false by cases h:gK dt 0 with|false=>rfl|true=>exact absurd (aD h).symm nE);refine⟨_,ev,?_⟩;rcases h.row with⟨rfl,rfl,rfl⟩|⟨b,cells,rfl,hc,hh,hle,hcm,jh,ll⟩
 .exact RS.empty T w _
 .obtain⟨fr,hh,_⟩:=hh;exact⟨hle,h.JS,(by intro e;cases e),λ_=>⟨b,0,cells,E,fr,rfl,by simp[hc],hh,λi x hx=>T.mono m (ll i x hx)⟩⟩
theorem OS.Sa{α:Type}{T:b9 α}{E dt:Nat}{ad:Option Addr}{xs:List α}{c:Nat}{χ':Nat->Nat}(h:OS T E w χ dt ad xs c)(m:M0 w χ w χ'){col':Nat}(Bb:∀b,χ b=dt->χ' b=col'):OS T E w χ' col' ad xs c:=by
 refine⟨h.JS,?_⟩;rcases h.row with h|⟨b,cells,rfl,hc,hh,hle,hcm,jh,ll⟩
 .exact .inl h
 .exact .inr ⟨b,cells,rfl,Bb b hc,hh,hle,hcm,jh,λi x hx=>T.mono m (ll i x hx)⟩
theorem OS.out{α:Type}{T:b9 α}{E k:Nat}{ad:Option Addr}{xs:List α}{c:Nat}{χ':Nat->Nat}{f:Nat->Nat}(h:OS T E w χ k ad xs c)(m:M0 w χ w χ')(hC:∀b,χ b≠0->χ b≠1000->χ' b=f (χ b))(h0:Nat.ble 1001 k=true):OS T E w χ' (f k) ad xs c :=
 h.Sa m (λb hb=>by
  have:=aB h0;rw[hC b (by omega) (by omega),hb])
def Pl(dt:Nat)(χ:Nat->Nat)(b:Nat):Nat:=if χ b=dt then 0 else χ b
theorem OS.Pl{α:Type}{T:b9 α}{E dt:Nat}{ad:Option Addr}{xs:List α}{c:Nat}(h:OS T E w χ dt ad xs c):RS T w (Sv.Pl dt χ) ad xs c:=by
 have m:M0 w χ w (Sv.Pl dt χ):=⟨aK _,λb _ h0=>⟨rfl,by simp[Sv.Pl,h0]⟩⟩
 rcases h.row with⟨rfl,rfl,rfl⟩|⟨b,cells,rfl,hc,hh,hle,hcm,jh,ll⟩
 .exact RS.empty T w _
 .obtain⟨fr,hh,_⟩:=hh;exact⟨hle,h.JS,(by intro e;cases e),λ_=>⟨b,0,cells,E,fr,rfl,by simp[Sv.Pl,hc],hh,λi x hx=>T.mono m (ll i x hx)⟩⟩
def AtO{α:Type}(T:b9 α)(E:Nat)(w:World)(χ:Nat->Nat)(dt:Nat)(ad:Option Addr)(i:Nat)(A:Addr):Prop :=
 ∃b cells,ad=some ⟨b,0,none⟩/\A=⟨b,i*T.n,none⟩/\χ b=dt/\Row w b cells E
theorem BP{α:Type}{T:b9 α}(TT:dD P bj){t E dt s:Nat}{y:Operand}{ad:Option Addr}{xs:List α}{c i:Nat}{A:Addr}{x:α}{v:SV}(h:St n sy ρ a w χ)(hw:bK all sy g=true)(nE:Nat.ble 1000 dt=true)
  (hs:aa sy.al s=some (V (.pointer (some A)))) (hy:cu sy y=some v) (hO:OS T E w χ dt ad xs c) (hA:AtO T E w χ dt ad i A) (hi:i<xs.length) (jh:xj bj t T.n=true) (hR:∀w' χ',M0 w χ w' χ'->T.R w' χ' (aP ρ v).cells.toList x)
  (k:∀a' w',Ev (gK dt) w χ w' χ->OS T E w' χ dt ad (xs.set i x) c->St n sy ρ a' w' χ->K a' w') :
  pJ P all.toArray Q ⟨none,.store t (.tmp s) y,ty,pos,af,g⟩ K a w:=by
 obtain⟨b',jA,Ht,rfl,ar7,hh'⟩:=hA;rcases hO.row with⟨rfl,rfl,rfl⟩|⟨b,cells,X4,hc,hh,hle,hcm,Ue,ll⟩
 .simp at hi
 .rw[X4]at Ht;simp only[Option.some.injEq,Addr.mk.injEq,and_true]at Ht;subst Ht;obtain⟨inf,Us,hm⟩:=pN TT jh;have hR0:=hR w χ (M0.refl w χ);have hlen:=T.len hR0;have Uh:(aP ρ v).cells.size=inf.size:=by rw[←cm,hlen,hm]
  have xI:i*T.n+(aP ρ v).cells.toList.length<=cells.size:=by rw[hlen,Ue];have h1:=dZ (m:=T.n) hi;have h2:=cP T.n hle;rw[Nat.add_mul,jf]at h1;omega
  have gk:=hh;obtain⟨fr,hh,Ja⟩:=hh;have im:=dW P b (i*T.n) E fr (aP ρ v).cells.toList 0 cells w hh Ja (by simpa using xI) (T.one hR0);simp only[c9]at im;have ev:Ev (gK dt) w χ (w.setRow b (cells.toList.take (i*T.n)++(aP ρ v).cells.toList++cells.toList.drop (i*T.n+(aP ρ v).cells.toList.length)).toArray) χ :=
   ⟨rfl,rfl,rfl,by simp,λb' _ hp=>⟨setRow_other _ _ _ _ (by intro e;rw[e,hc]at hp;simp[gK]at hp),rfl⟩⟩
  have DX:dt≠0:=by have:=aB nE;omega
  have m:=ev.m0 (show gK dt 0=false by cases h:gK dt 0 with|false=>rfl|true=>exact absurd (aD h).symm DX);refine iG (de h (o:=⟨none,.store t (.tmp s) y,ty,pos,af,g⟩) hw) ?_;have es:a.eval (.tmp s)=.pointer (some ⟨b,i*T.n,none⟩):=h.cu (x:=.tmp s) hs;have Fe:(storeVar t ⟨b,i*T.n,none⟩ (aP ρ v)).run P w=.ok () (w.setRow b (cells.toList.take (i*T.n)++(aP ρ v).cells.toList++cells.toList.drop (i*T.n+(aP ρ v).cells.toList.length)).toArray):=by simp only[storeVar,bU,run_sizeOf Us,bW,Uh,ne_eq,not_true_eq_false,gI];exact im
  have hr:(execOp a.eval ⟨none,.store t (.tmp s) y,ty,pos,af,g⟩).run P w=.ok .skip (w.setRow b (cells.toList.take (i*T.n)++(aP ρ v).cells.toList++cells.toList.drop (i*T.n+(aP ρ v).cells.toList.length)).toArray):=by simp only[execOp,es,h.cu hy,Instr.storeAt,Instr.sureAddr,bU,cM,bW,Fe]
  unfold Oper.wp;rw[hr];simp only[Oper.upon];refine k _ _ ev ⟨by simpa using hO.JS,.inr ⟨b,_,X4,hc,gk.set (by simp only[gv,aS,bH,dy,cm];omega),by simpa using hle,hcm,?_,?_⟩⟩ (h.ev ev (jC nE))
  .simp only[gv,aS,bH,dy,cm];omega
  .intro j z hz;have hjl:j<xs.length:=by have:=(dz.1 hz).1;simpa using this
   rw[List.getElem?_set]at hz;have Up:(aP ρ v).cells.toList.length=T.n:=hlen;have h1:=dZ (m:=T.n) hi;have h1j:=dZ (m:=T.n) hjl;have h2:=cP T.n hle;rw[Nat.add_mul,jf]at h1 h1j;have Ke:(cells.toList.take (i*T.n)).length=i*T.n:=by simp;omega
   unfold chunk;simp only[bh];by_cases NB:i=j
   .subst NB;rw[if_pos rfl]at hz;split at hz
    .cases hz;have hx:=hR _ χ m;have e:List.take T.n (List.drop (i*T.n) (cells.toList.take (i*T.n)++(aP ρ v).cells.toList++cells.toList.drop (i*T.n+(aP ρ v).cells.toList.length)))=(aP ρ v).cells.toList:=by rw[bV,List.drop_left' Ke,List.take_left' Up]
     show T.R _ _ (List.take T.n (List.drop (i*T.n) (cells.toList.take (i*T.n)++(aP ρ v).cells.toList++cells.toList.drop (i*T.n+(aP ρ v).cells.toList.length)))) x;rw[e];exact hx
    .omega
   .rw[if_neg NB]at hz;have hx:=T.mono m (ll j z hz);unfold chunk at hx;rw[bh]at hx;have:List.take T.n (List.drop (j*T.n) (cells.toList.take (i*T.n)++(aP ρ v).cells.toList++cells.toList.drop (i*T.n+(aP ρ v).cells.toList.length)))=List.take T.n (List.drop (j*T.n) cells.toList):=by
     apply mM;intro q;rw[bQ,bQ];by_cases hq:q<T.n
     .rw[if_pos hq,if_pos hq,eJ,eJ];rcases Nat.lt_or_gt_of_ne NB with eB|hgt
      .have h3:=cP T.n eB;rw[kW]at h3;rw[eS (by rw[aS,Ke,Up];omega),aS,Ke,Up,eJ];congr 1;omega
      .have h3:=cP T.n hgt;rw[kW]at h3;rw[bV,fU (by omega),bQ,if_pos (by omega)]
     .rw[if_neg hq,if_neg hq]
    show T.R _ _ (List.take T.n (List.drop (j*T.n) (cells.toList.take (i*T.n)++(aP ρ v).cells.toList++cells.toList.drop (i*T.n+(aP ρ v).cells.toList.length)))) z;rw[this];exact hx
theorem make{α:Type}{T:b9 α}(TT:dD P bj){t E dt:Nat}{x y:Operand}{kl kc:IntKind}{l c:Int}(zz:α)(h:St n sy ρ a w χ)(hw:bK all sy g=true)(hd:Nat.blt d n=true)
  (hx:cu sy x=some (V (.int kl l))) (hy:cu sy y=some (V (.int kc c))) (ht:wL bj t E=true) (he:Bc bj E T.n T.bytes=true) (h0:0<=l) (XR:l<=c) (hb:T.bytes*c<=140737488355328) (h63:c<=9223372036854775807)
  (hz:∀w' χ',(match aa bj E with|some s=>T.R w' χ' s.zero zz|none=>False))
  (k:∀b a' w' χ',Ev eN w χ w' χ'->OS T E w' χ' dt (some ⟨b,0,none⟩) (List.replicate l.toNat zz) c.toNat->w.heap.size<=b->St n ⟨(d,V (.slice (some ⟨b,0,none⟩) l.toNat c.toNat))::sy.al,sy.boxes⟩ ρ a' w' χ'->K a' w') :
  pJ P all.toArray Q ⟨some d,.makeSlice t x y,ty,pos,af,g⟩ K a w:=by
 have PS:=he;unfold Bc at PS;cases hE:aa bj E with
 |none=>rw[hE]at PS;cases PS
 |some s =>
  obtain⟨i,dd,z,hi,z6,QJ,hs,lZ,lx,_⟩:=a8 (TT _ _ hE);rw[hE]at PS;simp only[ak]at PS;have e1:=aD PS.1.1;have e2:=aD PS.1.2;have e3:=aD PS.2;have acm:i.size=T.n:=hs.trans e1;have alA:z.cells.size=T.n:=by rw[←cm,lx,e3]
  have hr:=run_make (P:=P) w t E i z (ny TT ht) hi QJ kl kc l c h0 XR (by rw[lZ,e2];omega) h63;have ev:=Bz w χ (.cells (madeCells z.cells (c.toNat*i.size)) E) dt;refine qD h hw hd ev (λ_ _=>rfl) (v:=.slice (some ⟨w.heap.size,0,none⟩) l.toNat c.toNat) (w':=w.alloc (.cells (madeCells z.cells (c.toNat*i.size)) E)) ?_ (λa' h'=>k _ a' _ _ ev ⟨?_,.inr ⟨w.heap.size,_,rfl,by simp,.zero (heap_alloc_new w _),?_,?_,?_,?_⟩⟩ (aK _) h')
  .have ex:a.eval x=.int kl l:=h.cu hx;have ey:a.eval y=.int kc c:=h.cu hy;simp[execOp,ex,ey,hr]
  .rw[oE];have h1:(l.toNat:Int)*T.bytes<=T.bytes*c:=by rw[Int.toNat_of_nonneg h0,Int.mul_comm];exact Int.mul_le_mul_of_nonneg_left XR (Int.natCast_nonneg _)
   have h2:((l.toNat*T.bytes:Nat):Int)<=140737488355328:=by rw[Int.natCast_mul];omega
   omega
  .rw[oE];omega
  .unfold maxLen;omega
  .rw[size_madeCells,acm]
  .intro j q hq;have hj:j<l.toNat:=by have:=(dz.1 hq).1;simpa using this
   have zV:q=zz:=by simp[List.getElem?_replicate]at hq;exact hq.2.symm
   subst zV;have hzr:=hz (w.alloc (.cells (madeCells z.cells (c.toNat*i.size)) E)) (λb=>if w.heap.size<=b then dt else χ b);rw[hE]at hzr;simp only[]at hzr;have:chunk (madeCells z.cells (c.toNat*i.size)) 0 T.n j=s.zero:=by
    rw[←lx];have hjc:(j+1)*T.n<=c.toNat*T.n:=cP _ (by omega);have jh:(madeCells z.cells (c.toNat*i.size)).size=c.toNat*T.n:=by rw[size_madeCells,acm]
    rw[Nat.add_mul,jf]at hjc;apply mM;intro q;unfold chunk;rw[bQ,bh];by_cases hq:q<T.n
    .rw[if_pos hq,eJ];have eB:j*T.n+q<c.toNat*i.size:=by rw[acm];omega
     have alY:(j*T.n+q)%z.cells.size=q:=by rw[alA,Nat.mul_comm,Nat.mul_add_mod,Nat.mod_eq_of_lt hq]
     have hq2:q<z.cells.size:=by omega
     simp[madeCells,eB,alY,hq2]
    .rw[if_neg hq];symm;rw[List.getElem?_eq_none_iff,cm];omega
   rw[this];exact hzr
theorem RS.cut{α:Type}{T:b9 α}{ad:Option Addr}{xs:List α}{c:Nat}(hR:RS T w χ ad xs c){l h:Nat}(h1:l<=h)(h2:h<=xs.length):RS T w χ (if c=l then ad else ad.map (·.add (l*T.n))) ((xs.take h).drop l) (c-l):=by
 have XY:=hR.cap;have hlen:((xs.take h).drop l).length=h-l:=by simp;omega
 refine⟨by rw[hlen];omega,?_,?_,?_⟩
 .rw[hlen];have:=cP T.bytes (show h-l<=xs.length by omega);have:=hR.JS;omega
 .intro hn;have XP:ad=none:=by
   split at hn
   .exact hn
   .cases ad with
    |none=>rfl
    |some A=>simp at hn
  obtain⟨rfl,rfl⟩:=hR.nil XP;simp
 .intro hne;have eB:l<h:=by
   rcases Nat.lt_or_ge l h with eB|hge
   .exact eB
   .exact absurd (qq (by rw[hlen];omega)) hne
  obtain⟨b,o,cells,e,fr,rfl,DX,hh,ll⟩:=hR.cells (by intro e;subst e;simp at h2;omega);refine⟨b,o+l*T.n,cells,e,fr,?_,DX,hh,?_⟩
  .have hcl:¬c=l:=by omega
   simp[hcl,Addr.add_lit]
  .intro i x hx;rw[eJ,bQ]at hx;split at hx
   .have:=ll _ _ hx;unfold chunk at this ⊢; rw[Nat.add_mul,←jH]at this;exact this
   .cases hx
def isStr(bj:oQ)(t:Nat):Bool:=match aa bj t with|some ⟨_,_,_,_,.str⟩=>true|_=>false
theorem yQ(T:dD P bj){t:Nat}(h:isStr bj t=true):P.underlying t=some .string:=by
 unfold isStr at h;split at h
 .rename_i ht;obtain⟨i,d,z,hi,hd,hz,hs,lZ,lx,iA,_,_,_,_,im,_⟩:=a8 (T _ _ ht);rw[hd,im rfl]
 .cases h
theorem Vi(s:List UInt8)(i:Nat):(bs s)[i]?=s[i]?:=by
 show(if h:i<(bs s).size then some ((bs s)[i])else none)=_;by_cases h:i<s.length
 .rw[dif_pos (show i<(bs s).size from h),fD h];rfl
 .rw[dif_neg (show ¬i<(bs s).size from h),mO (by omega)]
theorem q9(s:List UInt8):(bs s).size=s.length:=rfl
theorem RE(TT:dD P bj){t:Nat}{x y:Operand}{s:List UInt8}{k:IntKind}{i:Int}(h:St n sy ρ a w χ)(hw:bK all sy g=true)(hd:Nat.blt d n=true)
  (hx:cu sy x=some (V (.string (bs s)))) (hy:cu sy y=some (V (.int k i))) (ht:isStr bj t=true) (h0:0<=i) (h1:i<s.length)
  (kk:∀a',St n ⟨(d,V (.int .u8 (gi s i).toNat))::sy.al,sy.boxes⟩ ρ a' w χ->K a' w) :
  pJ P all.toArray Q ⟨some d,.index t x y,ty,pos,af,g⟩ K a w:=by
 refine qD h hw hd (Ev.refl eN w χ) (λ_ _=>rfl) (w':=w) ?_ (λa' h'=>kk a' h');have ex:a.eval x=.string (bs s):=h.cu hx;have ey:a.eval y=.int k i:=h.cu hy;have uB:(bs s)[i.toNat]?=some (gi s i):=by rw[Vi];exact qW h0 h1
 simp[execOp,ex,ey,Instr.index,asIntOf,aH (yQ TT ht),h0,uB]
def j8:List Value->List Value->Option Bool
 |[],[]=>some true
 |.int k p::l,.int k' q::m=>match j8 l m with|some r=>bif sameKind k k' then some (p==q&&r)else none|none=>none
 |.string p::l,.string q::m=>match j8 l m with|some r=>some ((p.data.toList==q.data.toList)&&r)|none=>none
 |_,_=>none
def oB(P:Program)(t:Nat)(xs:List Value):Bool :=
 match P.underlying t with
 |some (.struct fs)=>!P.stoodInHeld t&&!P.eqGuardType P.depth t&&Jr P 0 fs.toList xs
 |_=>false
where Jr (P:Program):Nat->List Field->List Value->Bool
 |_,[],[]=>true
 |i,f::fs,v::vs=>!(f.name == "_")&&Nat.beq f.offset i&&(match P.underlying f.type,v with|some (.int _),.int _ _=>true|some .string,.string _=>true|_,_=>false)&&Jr P (i+1) fs vs
 |_,_,_=>false
theorem yr:∀(fs:List Field)(i:Nat)(xs ys:List Value)(r:Bool)(e:Nat),oB.Jr P i fs (xs.drop i)=true->j8 (xs.drop i) (ys.drop i)=some r->xs.length=i+fs.length->(Op.eqFields (e+1) xs.toArray ys.toArray fs).run P w=.ok r w
 |[],i,xs,ys,r,e,_,he,hl=>by
  have h1:xs.drop i=[]:=dT (by simp at hl;omega);rw[h1]at he;cases h2:ys.drop i with
  |nil=>rw[h2]at he;simp[j8]at he;subst he;rfl
  |cons _ _=>rw[h2]at he;simp[j8]at he
 |f::fs,i,xs,ys,r,e,hf,he,hl=>by
  have eB:i<xs.length:=by rw[hl];simp
  have hx:xs.drop i=xs[i]::xs.drop (i+1):=sR eB;rw[hx]at he hf;simp only[oB.Jr,ak]at hf;obtain⟨⟨⟨hn,ho⟩,ht⟩,hfs⟩:=hf;have ho:=aD ho;have hn':f.name ≠ "_" := by intro h;rw[h]at hn;simp at hn
  have I5:∀(zs:List Value)(v:Value)(d:TypeDesc),P.underlying f.type=some d->isA d=false->zs[i]?=some v->(part f.type zs.toArray f.offset).run P w=.ok v w:=by intro zs v d hd V2 hv;simp[part,ig hd,V2,ho,hv]
  cases hy:ys.drop i with
  |nil=>rw[hy]at he;cases hxv:xs[i]<;>rw[hxv]at he<;>simp[j8]at he
  |cons v m =>
   rw[hy]at he;have ZF:ys[i]?=some v:=by have:=b8 (λl=>l[0]?) hy;simpa using this
   have hym:ys.drop (i+1)=m:=by have:=b8 List.tail hy;simpa using this
   have Hr:xs[i]?=some xs[i]:=fD eB;have ih:=λr' h'=>yr fs (i+1) xs ys r' e hfs h' (by rw[hl];simp;omega);cases hxv:xs[i]with
   |int k p =>
    rw[hxv]at he Hr ht;cases v with
    |int k' q =>
     simp only[j8]at he;split at he
     .rename_i r' hr';cases hk:sameKind k k' with
      |false=>simp[hk]at he
      |true =>
       simp only[hk,cG,Option.some.injEq]at he;have:=fQ hk;subst this;split at ht
       .rename_i kk _ _ hd hv';have h1:=I5 xs _ _ hd rfl Hr;have h2:=I5 ys _ _ hd rfl ZF;have h3:=ih r' (by rw[hym];exact hr');simp only[Op.eqFields,ne_eq,hn',not_false_eq_true,if_true,bU,h1,h2,bW,run_equalIn_int _ _ _ _ _ _ _ hd,Sem.run_ite,h3,cM];subst he;cases hpq:(p==q)<;>simp
       .rename_i hv';cases hv'
       .cases ht
     .cases he
    |_=>simp[j8]at he
   |string p =>
    rw[hxv]at he Hr ht;cases v with
    |string q =>
     simp only[j8]at he;split at he
     .rename_i r' hr';simp only[Option.some.injEq]at he;split at ht
      .rename_i hv';cases hv'
      .rename_i _ hd hv';have h1:=I5 xs _ _ hd rfl Hr;have h2:=I5 ys _ _ hd rfl ZF;have h3:=ih r' (by rw[hym];exact hr');simp only[Op.eqFields,ne_eq,hn',not_false_eq_true,if_true,bU,h1,h2,bW,run_equalIn_string _ _ _ _ _ hd,Sem.run_ite,h3,cM,ByteArray.toList_eq];subst he;cases hpq:(p.data.toList==q.data.toList)<;>simp
      .cases ht
     .cases he
    |_=>simp[j8]at he
   |_=>rw[hxv]at he;simp[j8]at he
theorem G5{t:Nat}{xs:List Value}(h:oB P t xs=true):∃fs,P.underlying t=some (.struct fs)/\P.stoodInHeld t=false/\P.eqGuardType P.depth t=false/\oB.Jr P 0 fs.toList xs=true:=by
 unfold oB at h;split at h
 .rename_i fs hfs;simp only[ak,eI]at h;exact⟨fs,hfs,h.1.1,h.1.2,h.2⟩
 .cases h
theorem tj{t:Nat}{xs ys:List Value}{r:Bool}(h:oB P t xs=true)(he:j8 xs ys=some r)(hl:∀fs,P.underlying t=some (.struct fs)->xs.length=fs.size):(Op.equalIn 10000 t (.agg xs.toArray) (.agg ys.toArray)).run P w=.ok r w:=by
 obtain⟨fs,hu,h1,h2,h3⟩:=G5 h;have hf:P.fieldsOf t=fs:=by simp[Program.fieldsOf,hu]
 rw[run_equalIn_struct w 9999 t xs.toArray ys.toArray (by rw[hf];exact hu) h1,hf];exact yr fs.toList 0 xs ys r 9998 h3 (by simpa using he) (by simpa using hl fs hu)
def nf(bj:oQ)(t:Nat):Option Nat:=match aa bj t with|some ⟨_,_,_,_,.struct fs⟩=>some fs.length|_=>none
theorem CP{α β:Type}{f:α->Option β}:∀{l:List α} {r:List β},l.mapM f=some r->r.length=l.length
 |[],r,h=>by simp at h;subst h;rfl
 |x::l,r,h=>by simp only[kX,bind,qp,pure]at h;obtain⟨b,hb,q,hq,hr⟩:=h;simp at hr;subst hr;simp[CP hq]
def oG(w0:World)(χ0:Nat->Nat)(bxs:List (Nat×(Nat×List SV)))(ρ:Nat->Nat)(w:World):Prop :=
 (∀id q,aa bxs id=some q->w.heap[ρ id]?=some (.cells (q.2.map (aP ρ)).toArray q.1 (0,0)))/\∀b,b<w0.heap.size->χ0 b=0->w.heap[b]?=w0.heap[b]?
def Bo(all:List Oper)(listed:Array Bool)(i:Nat):Bool:=!listed.getD i true&&(match all[i]? with|some o=>o.after.all (λe=>!Region.binds .any e||listed.getD e.on false)|none=>false)
theorem Gk{all:List Oper}{listed:Array Bool}{i:Nat}(h:Bo all listed i=true):(Region.ready .any all.toArray listed).contains i=true:=by
 unfold Bo at h;rw[ak]at h;obtain⟨h1,h2⟩:=h;cases ho:all[i]? with
 |none=>rw[ho]at h2;cases h2
 |some o=>rw[ho]at h2;have hi:i<all.length:=(dz.1 ho).1;rw[List.contains_iff_mem];unfold Region.ready;rw[dx,bM];refine⟨by simpa using hi,?_⟩;rw[ak];refine⟨h1,?_⟩;rw[mP,ho];simpa using h2
def qC(bj:oQ)(n:Nat)(all:List Oper)(bks:List Nat):List Nat->Array Bool->Sy->Option (Array Bool×Sy)
 |[],listed,sy=>some (listed,sy)
 |i::is,listed,sy =>
  match all[i]? with
  |some o =>
   bif Region.free .any all.toArray listed i&&Bo all listed i&&ku n [o]then
    match th bj false all [o] ⟨sy.al,sy.boxes.filter (λq=>bks.any (Nat.beq q.1))⟩with
    |some s=>qC bj n all bks is (listed.setIfInBounds i true) ⟨s.al,sy.boxes⟩
    |none=>none
   else none
  |none=>none
theorem oG.st(h:St n sy ρ a w χ){bxs:List (Nat×(Nat×List SV))}(hb:∀id q,aa bxs id=some q->aa sy.boxes id=some q){w0 w1:World}{χ0:Nat->Nat}(H:oG w0 χ0 bxs ρ w1):St n ⟨sy.al,bxs⟩ ρ a w1 χ :=
 ⟨h.size,h.defers,h.al,λid q hq=>by
  obtain⟨h1,h2,_⟩:=h.boxes id q (hb id q hq);exact⟨h1,h2,H.1 id q hq⟩⟩
def Dr(P:Program)(all:List Oper)(Q:Exit->Act->World->Prop)(S:World->Prop)(listed:Array Bool)(fuel:Nat)(a:Act)(w:World):Prop :=
 wpAnyH P .any all.toArray Q S fuel listed a w
theorem BN(TT:dD P bj)(Bv:Region.noSelect all.toArray=true)(hn:n<=999){bks:List Nat}{w0:World}{χ0:Nat->Nat}{nrm ret:Act->World->Prop}{exs:List (Nat×(Act->World->Prop))}:
  ∀(is:List Nat) {listed jY:Array Bool} {sy sy':Sy} {fuel:Nat} {a:Act},qC bj n all bks is listed sy=some (jY,sy')->St n sy ρ a w χ->oG w0 χ0 (sy.boxes.filter (λq=>bks.any (Nat.beq q.1))) ρ w ->
   (∀a',St n sy' ρ a' w χ->sy'.boxes=sy.boxes->Dr P all (qs nrm ret exs) (oG w0 χ0 (sy.boxes.filter (λq=>bks.any (Nat.beq q.1))) ρ) jY fuel a' w)->Dr P all (qs nrm ret exs) (oG w0 χ0 (sy.boxes.filter (λq=>bks.any (Nat.beq q.1))) ρ) listed (fuel+is.length) a w
 |[],listed,jY,sy,sy',fuel,a,e,h,H,k=>by simp[qC]at e;obtain⟨rfl,rfl⟩:=e;exact k a h rfl
 |i::is,listed,jY,sy,sy',fuel,a,e,h,H,k=>by
  simp only[qC]at e;cases ho:all[i]? with
  |none=>simp[ho]at e
  |some o =>
   simp only[ho]at e;cases hc:(Region.free .any all.toArray listed i&&Bo all listed i&&ku n [o])with
   |false=>rw[hc]at e;cases e
   |true =>
    simp only[hc,cG]at e;simp only[ak]at hc;obtain⟨⟨hf,hr⟩,hd⟩:=hc;replace hr:=Gk hr;cases hs:th bj false all [o] ⟨sy.al,sy.boxes.filter (λq=>bks.any (Nat.beq q.1))⟩with
    |none=>simp[hs]at e
    |some s =>
     simp only[hs]at e;have hb:∀id q,aa (sy.boxes.filter (λq=>bks.any (Nat.beq q.1))) id=some q->aa sy.boxes id=some q:=λid q hq=>qQ hq;have key:∃v,YieldsIf P all.toArray (oG w0 χ0 (sy.boxes.filter (λq=>bks.any (Nat.beq q.1))) ρ) o v a/\(St n ⟨s.al,sy.boxes⟩ ρ (a.put o.dst v) w χ):=by
      have hd1:=(AQ hd).1;have put:∀sv,s.al=(match o.dst with|some d=>(d,sv)::sy.al|none=>sy.al)->St n ⟨s.al,sy.boxes⟩ ρ (a.put o.dst (aP ρ sv)) w χ:=by
       intro sv Fe;rw[Fe];cases fp:o.dst with
       |none=>exact⟨h.size,h.defers,h.al,h.boxes⟩
       |some d=>exact h.put (hd1 d fp)
      have Rb:∀DS,uK bj false ⟨sy.al,sy.boxes.filter (λq=>bks.any (Nat.beq q.1))⟩ o=some DS->some DS=some s->(Region.wanted o (yielded all.toArray a.tmps)=true) ->
       ∃v,YieldsIf P all.toArray (oG w0 χ0 (sy.boxes.filter (λq=>bks.any (Nat.beq q.1))) ρ) o v a/\(St n ⟨s.al,sy.boxes⟩ ρ (a.put o.dst v) w χ):=by
       intro DS h1 h2 hw;cases h2;unfold uK at h1;cases hv:dV bj ⟨sy.al,sy.boxes.filter (λq=>bks.any (Nat.beq q.1))⟩ o with
       |none=>simp[hv]at h1
       |some sv =>
        simp only[hv]at h1;refine⟨aP ρ sv,.inl ⟨hw,λw1 H1=>yh TT (oG.st h hb H1) hv⟩,put sv ?_⟩;cases fp:o.dst with
        |none=>simp only[fp]at h1;cases h1;rfl
        |some d=>simp only[fp]at h1;cases h1;rfl
      have Mh:(match o.dst with|some d=>(⟨(d,V Go.undef)::sy.al,sy.boxes.filter (λq=>bks.any (Nat.beq q.1))⟩:Sy)|none=>⟨sy.al,sy.boxes.filter (λq=>bks.any (Nat.beq q.1))⟩)=s->(Region.wanted o (yielded all.toArray a.tmps)=false) ->
       ∃v,YieldsIf P all.toArray (oG w0 χ0 (sy.boxes.filter (λq=>bks.any (Nat.beq q.1))) ρ) o v a/\(St n ⟨s.al,sy.boxes⟩ ρ (a.put o.dst v) w χ):=by
       intro h1 hw;refine⟨Go.undef,.inr ⟨hw,rfl⟩,put (V Go.undef) ?_⟩;rw[←h1];cases fp:o.dst<;>rfl
      simp only[th]at hs;cases hg:o.guard with
      |none =>
       simp only[hg]at hs;cases h1:uK bj false ⟨sy.al,sy.boxes.filter (λq=>bks.any (Nat.beq q.1))⟩ o with
       |none=>simp[h1]at hs
       |some DS=>simp only[h1]at hs;exact Rb DS h1 hs (by simp[Region.wanted,hg])
      |some q =>
       obtain⟨j,want⟩:=q;simp only[hg]at hs;cases ht:oT all j with
       |none=>simp[ht]at hs
       |some tc =>
        simp only[ht]at hs;split at hs
        .rename_i b hl;have hw:=qz (o:=o) h hg ht hl;cases PT:(b==want)with
         |true =>
          simp only[PT,cG]at hs;cases h1:uK bj false ⟨sy.al,sy.boxes.filter (λq=>bks.any (Nat.beq q.1))⟩ o with
          |none=>simp[h1]at hs
          |some DS=>simp only[h1]at hs;exact Rb DS h1 hs (hw.trans PT)
         |false =>
          simp only[PT,eQ]at hs;refine Mh ?_ (hw.trans PT);cases fp:o.dst with
          |none=>simp only[fp]at hs;exact Option.some.inj hs
          |some d=>simp only[fp]at hs;exact Option.some.inj hs
        .rename_i vs hl;have hw:=oU (o:=o) h hg ht hl;refine Mh ?_ hw;cases fp:o.dst with
         |none=>simp only[fp]at hs;exact Option.some.inj hs
         |some d=>simp only[fp]at hs;exact Option.some.inj hs
        .cases hs
     obtain⟨v,hy,h'⟩:=key;have ih:=BN TT Bv hn is (fuel:=fuel) e h' H k;unfold Dr at *; exact wpAnyH_take (v:=v) (oi:=o) (by simp[ho]) Bv hf hr (λc a w hq=>hq.elim) hy H ih
end ops
end
end
section
section
variable{P:Program}{w:World}{χ:Nat->Nat}
theorem R6{α:Type}{T:b9 α}{E dt:Nat}{inf:TypeInfo}{z:Value}{t u:Nat}(hu:P.underlying t=some (.slice E))(hi:P.info? E=some inf)(hz:inf.zero=some z)(jh:inf.size=T.n)(lZ:inf.bytes=T.bytes)(lx:z.cells.size=T.n)
  {ad zg:Option Addr} {xs ys:List α} {c2:Nat} {r8 news:List Value} (h:Src T w χ ad xs xs.length r8) (hs:Src T w χ zg ys c2 news) (hne:ys≠[]) (hb:(xs.length+ys.length)*T.bytes<=140737488355328) (h63:xs.length+ys.length<=9223372036854775807) :
  ∃sW c' w' χ',(Builtin.append_ #[t,t] u #[.slice ad xs.length xs.length,.slice zg ys.length c2]).run P w=.ok (.slice sW (xs++ys).length c') w'/\OS T E w' χ' dt sW (xs++ys) c'/\Ev eN w χ w' χ':=by
 have PB:(xs++ys).length=xs.length+ys.length:=by simp
 have uA:=T.pos;have hyl:0<ys.length:=lB.2 hne;obtain⟨A,rfl⟩:∃A,zg=some A:=by
  cases zg with
  |none=>exact absurd (hs.nil rfl).1 hne
  |some A=>exact⟨A,rfl⟩
 have Z4:∀(cells:Array Value),Ev eN w χ (w.drew.alloc (.cells cells E)) (λb=>if w.heap.size<=b then dt else χ b):=λcells =>
  ⟨rfl,rfl,rfl,by simp,λb hb _=>⟨heap_alloc_old w.drew _ hb,by simp[show ¬w.heap.size<=b by omega]⟩⟩
 have elN:∀(w':World)(χ':Nat->Nat)(jA:Array Value),jA.toList.take ((xs.length+ys.length)*T.n)=r8++news->M0 w χ w' χ' ->
  ∀(i:Nat)(x:α),(xs++ys)[i]?=some x->T.R w' χ' (chunk jA 0 T.n i) x:=by
  intro w' χ' jA Ud m i x hx;have hi:i<xs.length+ys.length:=by have:=(dz.1 hx).1;simpa using this
  rw[tY Ud (dZ hi)];by_cases eB:i<xs.length
  .rw[fU eB]at hx;have:=dZ (m:=T.n) eB;rw[Nat.add_mul,jf]at this;have hl:=h.len;rw[sN (by omega),lD (by simp;omega)];exact T.mono m (h.el i x hx)
  .rw[eS (by omega)]at hx;have e1:i*T.n=r8.length+(i-xs.length)*T.n:=by rw[h.len,←Nat.add_mul];congr 1;omega
   rw[e1,List.drop_append,dT (by omega),gU,pI];exact T.mono m (hs.el _ x hx)
 have xG:news.length=ys.length*inf.size:=by rw[hs.len,jh]
 have rr:(xs.length+ys.length)*inf.bytes<=140737488355328:=by rw[lZ];exact hb
 cases ad with
 |none =>
  obtain⟨rfl,_⟩:=h.nil rfl;have ho:r8=[]:=qq (by rw[h.len];simp);subst ho;simp only[cN,bh]at rr h63 ⊢; have hr:=run_append_nil (P:=P) w t u E inf z hu hi hz A ys.length c2 news xG (hs.cell A rfl) (by omega) (by omega) (by omega);have hge:=grownCap_ge w ys.length 0 E;have Lz:=grownCap_le_maxLen w ys.length 0 E (by unfold maxLen;omega);refine⟨_,_,_,λb=>if w.heap.size<=b then dt else χ b,by simpa using hr,⟨by simpa[lZ]using rr,.inr ⟨w.heap.size,_,rfl,by simp,.zero (heap_alloc_new w.drew _),by simpa using hge,Lz,?_,elN _ _ _ ?_ ((Z4 _).m0 rfl)⟩⟩,Z4 _⟩
  .simp only[pB,gv,size_zeroCells,lx,hs.len,←Nat.add_mul];congr 1;omega
  .simp only[cN,bh,pE,gU];rw[←hs.len];exact List.take_left
 |some A0 =>
  have hr:=run_append_grow (P:=P) w t u E inf z hu hi hz A0 xs.length xs.length r8 (by rw[h.len,jh]) (h.cell A0 rfl) A ys.length c2 news xG (hs.cell A rfl) (by omega) (by omega) (growslice_fits (by omega) rr);have hge:=grownCap_ge w (xs.length+ys.length) xs.length E;have Lz:=grownCap_le_maxLen w (xs.length+ys.length) xs.length E (by unfold maxLen;omega);refine⟨_,_,_,λb=>if w.heap.size<=b then dt else χ b,by rw[PB];exact hr,⟨by rw[PB];exact hb,.inr ⟨w.heap.size,_,rfl,by simp,.zero (heap_alloc_new w.drew _),by rw[PB];exact hge,Lz,?_,elN _ _ _ ?_ ((Z4 _).m0 rfl)⟩⟩,Z4 _⟩
  .simp only[pB,gv,size_zeroCells,lx,hs.len,h.len,←Nat.add_mul];congr 1;omega
  .simp only[pE];rw[lD (by simp only[aS,h.len,hs.len,←Nat.add_mul];omega)];rw[fc (by simp only[aS,h.len,hs.len,←Nat.add_mul];omega)]
end
section ops
variable{P:Program}{bj:oQ}{n:Nat}{sy:Sy}{ρ:Nat->Nat}{a:Act}{w:World}{χ:Nat->Nat}{all:List Oper}{Q:Exit->Act->World->Prop}{K:Act->World->Prop}
variable{d ty:Nat}{pos:String}{af:Array Edge}{g:Option (Nat×Bool)}
theorem YO{α:Type}{T:b9 α}(TT:dD P bj){t E dt:Nat}{x y:Operand}{ad zg:Option Addr}{xs ys:List α}{c2:Nat}{r8 news:List Value}(h:St n sy ρ a w χ)(hw:bK all sy g=true)(hd:Nat.blt d n=true)
  (hx:cu sy x=some (V (.slice ad xs.length xs.length))) (hy:cu sy y=some (V (.slice zg ys.length c2))) (hO:Src T w χ ad xs xs.length r8) (hs:Src T w χ zg ys c2 news) (hne:ys≠[]) (ht:wL bj t E=true) (he:Bc bj E T.n T.bytes=true)
  (ZX:Nat.ble T.bytes 128=true) (Uo:xs.length+ys.length<=1099511627776)
  (k:∀sW c' a' w' χ',Ev eN w χ w' χ'->OS T E w' χ' dt sW (xs++ys) c'->St n ⟨(d,V (.slice sW (xs++ys).length c'))::sy.al,sy.boxes⟩ ρ a' w' χ'->K a' w') :
  pJ P all.toArray Q ⟨some d,.call ⟨.builtin .append,#[x,y],#[t,t]⟩,ty,pos,af,g⟩ K a w:=by
 obtain⟨inf,z,hi,hz,jh,lZ,lx⟩:=LN TT he;obtain⟨sW,c',w',χ',hr,hO',ev⟩:=R6 (u:=ty) (dt:=dt) (ny TT ht) hi hz jh lZ lx hO hs hne (room Uo ZX) (by omega);refine qD h hw hd ev (λ_ _=>rfl) (v:=.slice sW (xs++ys).length c') (w':=w') ?_ (λa' h'=>k sW c' a' w' χ' ev hO' h');have ex:a.eval x=.slice ad xs.length xs.length:=h.cu hx;have ey:a.eval y=.slice zg ys.length c2:=h.cu hy;simp[execOp,resolve,invoke,builtin,ex,ey,hr]
end ops
end
end Go.Sv
namespace Go.Pu
open Go Go.Sv
section
theorem Ko(n:Int):IntKind.i64.wrap n=(n+9223372036854775808)%18446744073709551616-9223372036854775808:=by
 simp[IntKind.wrap,IntKind.signed,IntKind.bits];try omega
theorem dj{n:Int}(h0:-9223372036854775808<=n)(h1:n<=9223372036854775807):IntKind.i64.wrap n=n:=by
 rw[Ko];omega
theorem yI{a b A B:Int}(h0:0<=a)(h1:a<=A)(h2:0<=b)(h3:b<=B):0<=a*b/\a*b<=A*B :=
 ⟨Int.mul_nonneg h0 h2,Int.mul_le_mul h1 h3 h2 (by omega)⟩
theorem dM{α:Type}[Inhabited α](xs:List α)(i:Nat)(h:i<xs.length):gi xs (i:Int)=xs[i]:=by
 simp[gi,h]
theorem kR{α:Type}[Inhabited α]{xs:List α}{i:Int}(h0:0<=i)(h1:i<xs.length):gi xs i=xs[i.toNat]'(by omega):=by
 have:i.toNat<xs.length:=by omega
 simp[gi,this]
end
end Go.Pu
