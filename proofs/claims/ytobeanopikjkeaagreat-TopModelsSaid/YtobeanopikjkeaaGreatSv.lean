/- The base of the walks. No condition. -/
import Derived.WalkKit
import Derived.OrdersHeld
import Derived.MapKept
import Derived.Scope
import Derived.Laws.BytesString
import Derived.Lib.Builder
import Derived.Lib.UnsafeStr
import Derived.Lib.AppendStr
import Derived.Lib.ConvBytes
import Derived.Lib.AppendZeros
namespace Go.Sv
open Go
def look {α:Type}:List (Nat × α)→Nat→Option α
 | [],_=>none
 | (k,v) :: l,t=>bif Nat.beq k t then some v else look l t
inductive S0 where
 | v (x:Value)
 | p (id off:Nat)
inductive SV where
 | s (x:S0)
 | f (fn:Fn) (first cap:List S0)
@[reducible] def V (x:Value):SV:=.s (.v x)
@[reducible] def I (n:Int):SV:=.s (.v (.int .i64 n))
@[reducible] def B (b:Bool):SV:=.s (.v (.bool b))
@[reducible] def Pt (id off:Nat):SV:=.s (.p id off)
def cM (ρ:Nat→Nat):S0→Value
 | .v x=>x
 | .p id off=>.pointer (some ⟨ρ id,off,none⟩)
def bj (ρ:Nat→Nat):SV→Value
 | .s x=>cM ρ x
 | .f fn first cap=>.func fn (first.map (cM ρ)).toArray (cap.map (cM ρ)).toArray
structure Sy where
 bc:List (Nat × SV)
 boxes:List (Nat × (Nat × List SV))
inductive TD where
 | int (k:IntKind)
 | slice (e:Nat)
 | str
 | bool
 | struct (fs:List (Nat × Nat × Nat))   -- offset,size,type
 | array (n e Xa:Nat)
 | other
structure TyS where
 size:Nat
 bytes:Nat
 zero:List Value
 agg:Bool
 d:TD
def tyS (P:Program) (t:Nat):Option TyS :=
 match P.info? t,P.underlying t with
 | some i,some d =>
  match i.zero with
  | some z =>
   match d with
   | .struct fs =>
    match fs.toList.mapM (fun f=>(P.info? f.type).map (fun j=>(f.offset,j.size,f.type))) with
    | some l=>some ⟨i.size,i.bytes,z.cells.toList,true,.struct l⟩
    | none=>none
   | .array n e=>match P.info? e with
    | some j=>some ⟨i.size,i.bytes,z.cells.toList,true,.array n e j.size⟩
    | none=>none
   | .int k=>some ⟨i.size,i.bytes,z.cells.toList,false,.int k⟩
   | .slice e=>some ⟨i.size,i.bytes,z.cells.toList,false,.slice e⟩
   | .string=>some ⟨i.size,i.bytes,z.cells.toList,false,.str⟩
   | .bool=>some ⟨i.size,i.bytes,z.cells.toList,false,.bool⟩
   | _=>some ⟨i.size,i.bytes,z.cells.toList,false,.other⟩
  | none=>none
 | _,_=>none
abbrev Tab:=List (Nat × TyS)
def bh (P:Program) (tab:Tab):Prop:=∀ t s,look tab t=some s→tyS P t=some s
theorem bh.nil (P:Program):bh P []:=fun _ _ h=>by cases h
theorem bh.cons {P:Program} {t:Nat} {s:TyS} {tab:Tab} (h:tyS P t=some s) (r:bh P tab):bh P ((t,s) :: tab):=by
 intro t' s' h'
 simp only [look] at h'
 cases hb:Nat.beq t t' with
 | true=>rw [hb] at h'; simp at h'; subst h'; rw [← Nat.eq_of_beq_eq_true hb]; exact h
 | false=>rw [hb] at h'; simp at h'; exact r _ _ h'
def plain:List SV→Option (List Value)
 | []=>some []
 | .s (.v x) :: l=>match plain l with
  | some r=>some (x :: r)
  | none=>none
 | _=>none
def cellsOf:SV→List SV
 | .s (.v (.agg cs))=>cs.toList.map V
 | x=>[x]
def s0s:List SV→Option (List S0)
 | []=>some []
 | .s x :: l=>match s0s l with
  | some r=>some (x :: r)
  | none=>none
 | _=>none
section sym
variable (tab:Tab)
def evo (sy:Sy):Operand→Option SV
 | .tmp t=>look sy.bc t
 | .const v=>some (V v)
 | .func f=>some (.f (.func f) [] [])
 | .global _=>none
def evs (sy:Sy):List Operand→Option (List SV)
 | []=>some []
 | x :: l=>match evo sy x,evs sy l with
  | some v,some r=>some (v :: r)
  | _,_=>none
def wr (old:List SV) (off:Nat) (new:List SV):List SV:=old.take off++new++old.drop (off+new.length)
def nb (fs:Nat→Option (Nat × Nat)):List (Nat × Value)→List Value→Option (List Value)
 | [],cs=>some cs
 | (i,v) :: rest,cs =>
  match fs i with
  | some (off,size) =>
   bif Nat.beq v.cells.size size && Nat.ble (off+size) cs.length then nb fs rest (cs.take off++v.cells.toList++cs.drop (off+size)) else none
  | none=>none
def cmp (op:BinOp) (a b:Int):Option Bool :=
 match op with
 | .eql=>some (a == b)
 | .neq=>some (a != b)
 | .lss=>some (decide (a < b))
 | .leq=>some (decide (a≤b))
 | .gtr=>some (decide (a > b))
 | .geq=>some (decide (a≥b))
 | _=>none
def arith (op:BinOp) (k:IntKind) (a b:Int):Option Value :=
 match op with
 | .add=>some (.int k (k.wrap (a+b)))
 | .sub=>some (.int k (k.wrap (a - b)))
 | .mul=>some (.int k (k.wrap (a * b)))
 | .and=>some (.int k (k.wrap (BitVec.ofInt k.bits a &&& BitVec.ofInt k.bits b).toNat))
 | .or=>some (.int k (k.wrap (BitVec.ofInt k.bits a ||| BitVec.ofInt k.bits b).toNat))
 | .xor=>some (.int k (k.wrap (BitVec.ofInt k.bits a ^^^ BitVec.ofInt k.bits b).toNat))
 | .andNot=>some (.int k (k.wrap (BitVec.ofInt k.bits a &&& ~~~BitVec.ofInt k.bits b).toNat))
 | _=>match cmp op a b with
  | some r=>some (.bool r)
  | none=>none
def sameKind:IntKind→IntKind→Bool
 | .i8,.i8 | .i16,.i16 | .i32,.i32 | .i64,.i64 | .u8,.u8 | .u16,.u16 | .u32,.u32 | .u64,.u64=>true
 | _,_=>false
def vM (op:BinOp) (k:IntKind) (a b:Int):Option Value :=
 match op with
 | .shl=>(match b with | .ofNat n=>some (.int k (k.wrap (a * 2 ^ (min n k.bits)))) | _=>none)
 | .shr=>(match b with | .ofNat n=>some (.int k (a.fdiv (2 ^ (min n k.bits)))) | _=>none)
 | _=>none
def jO (sy:Sy) (o:Oper):Option SV :=
 match o.op with
 | .move x=>evo sy x
 | .assign x=>evo sy x
 | .pick c a b =>
  match evo sy c with
  | some (.s (.v (.bool true)))=>evo sy a
  | some (.s (.v (.bool false)))=>evo sy b
  | _=>none
 | .nilCheck x =>
  match evo sy x with
  | some (.s (.p id off))=>some (Pt id off)
  | _=>none
 | .load t x =>
  match evo sy x,look tab t with
  | some (.s (.p id off)),some ty =>
   match look sy.boxes id with
   | some (_,cs) =>
    bif ty.agg then
     (bif Nat.ble (off+ty.size) cs.length then
      (match plain ((cs.drop off).take ty.size) with
       | some vs=>some (V (.agg vs.toArray))
       | none=>none)
      else none)
    else cs[off]?
   | none=>none
  | _,_=>none
 | .fieldAddr s x f =>
  match evo sy x,look tab s with
  | some (.s (.p id off)),some ⟨_,_,_,_,.struct fs⟩ =>
   match fs[f]? with
   | some (ll,kX,_)=>bif Nat.ble 1 kX then some (Pt id (off+ll)) else none
   | none=>none
  | _,_=>none
 | .field s x f =>
  match evo sy x,look tab s with
  | some (.s (.v (.agg cs))),some ⟨_,_,_,_,.struct fs⟩ =>
   match fs[f]? with
   | some (ll,kX,ft) =>
    match look tab ft with
    | some ty=>bif ty.agg then (bif Nat.beq ty.size kX then some (V (.agg (cs.extract ll (ll+kX)))) else none) else
      (match cs.toList[ll]? with | some v=>some (V v) | none=>none)
    | none=>none
   | none=>none
  | _,_=>none
 | .build t parts =>
  match look tab t,plain ((parts.toList.map (fun q=>(evo sy q.2).getD (Pt 0 0)))) with
  | some ⟨_,_,z,_,.struct fs⟩,some vs =>
   match nb (fun i=>(fs[i]?).map (fun q=>(q.1,q.2.1))) ((parts.toList.map (·.1)).zip vs) z with
   | some cs=>some (V (.agg cs.toArray))
   | none=>none
  | some ⟨_,_,z,_,.array _ _ es⟩,some vs =>
   match nb (fun i=>some (i * es,es)) ((parts.toList.map (·.1)).zip vs) z with
   | some cs=>some (V (.agg cs.toArray))
   | none=>none
  | _,_=>none
 | .extract t i =>
  match evo sy t with
  | some (.s (.v (.tuple vs)))=>match vs.toList[i]? with | some v=>some (V v) | none=>none
  | _=>none
 | .binOp op t x y _ =>
  match evo sy x,evo sy y with
  | some (.s (.v (.int k a))),some (.s (.v (.int k' b)))=>(match vM op k a b with | some v=>some (V v) | none=>bif sameKind k k' then (match arith op k a b with | some v=>some (V v) | none=>none) else none)
  | some (.s (.v (.bool a))),some (.s (.v (.bool b))) =>
   (match look tab t with
    | some ⟨_,_,_,_,.bool⟩=>(match op with | .eql=>some (B (a == b)) | .neq=>some (B (a != b)) | _=>none)
    | _=>none)
  | some (.s (.v (.string a))),some (.s (.v (.string b)))=>(match op with | .eql=>some (B (a.data.toList == b.data.toList)) | .neq=>some (B (!(a.data.toList == b.data.toList))) | _=>none)
  | _,_=>none
 | .indexAddr t x y =>
  match evo sy x,evo sy y,look tab t with
  | some (.s (.p id off)),some (.s (.v (.int _ (.ofNat i)))),some ⟨_,_,_,_,.array m _ es⟩=>bif Nat.blt i m then some (Pt id (off+i * es)) else none
  | _,_,_=>none
 | .unOp op _ x =>
  match op,evo sy x with
  | .not,some (.s (.v (.bool b)))=>some (B (!b))
  | .neg,some (.s (.v (.int k n)))=>some (V (.int k (k.wrap (0 - n))))
  | .xor,some (.s (.v (.int k n)))=>some (V (.int k (k.wrap (BitVec.ofInt k.bits (bif k.signed then -1 else k.max) ^^^ BitVec.ofInt k.bits n).toNat)))
  | _,_=>none
 | .convert src dst x =>
  match evo sy x,look tab dst with
  | some (.s (.v (.int _ n))),some ⟨_,_,_,_,.int k⟩=>(match look tab src with | some _=>some (V (.int k (k.wrap n))) | none=>none)
  | _,_=>none
 | .makeFunc fn first cap =>
  match evs sy first.toList,evs sy cap.toList with
  | some l,some m=>match s0s l,s0s m with
   | some l,some m=>some (.f fn l m)
   | _,_=>none
  | _,_=>none
 | .call { callee:=.builtin .len,args:=args,argTypes:=lR } =>
  match args.toList,lR.toList with
  | [x],[t] =>
   match evo sy x,look tab t with
   | some (.s (.v (.slice _ n _))),some ⟨_,_,_,_,.slice _⟩=>some (I n)
   | some (.s (.v (.string s))),some ⟨_,_,_,_,.str⟩=>some (I s.size)
   | _,_=>none
  | _,_=>none
 | .call { callee:=.builtin .min,args:=args,argTypes:=lR } =>
  match args.toList with
  | [x,y] =>
   match evo sy x,evo sy y with
   | some (.s (.v (.int k a))),some (.s (.v (.int _ b)))=>some (V (.int k (if b < a then b else a)))
   | _,_=>none
  | _=>none
 | .call { callee:=.builtin .max,args:=args,argTypes:=lR } =>
  match args.toList with
  | [x,y] =>
   match evo sy x,evo sy y with
   | some (.s (.v (.int k a))),some (.s (.v (.int _ b)))=>some (V (.int k (if b > a then b else a)))
   | _,_=>none
  | _=>none
 | _=>none
def kx (id:Nat):S0→Bool
 | .p i _=>Nat.beq i id
 | _=>false
def names (id:Nat):SV→Bool
 | .s x=>kx id x
 | .f _ l m=>l.any (kx id) || m.any (kx id)
def nW (id:Nat) (sy:Sy):Bool :=
 sy.bc.all (fun q=>!names id q.2) && sy.boxes.all (fun q=>!Nat.beq q.1 id && q.2.2.all (fun c=>!names id c))
def we (sy:Sy) (d t:Nat) (cs:List SV):Option Sy :=
 bif nW (d+1) sy then some ⟨(d,Pt (d+1) 0) :: sy.bc,(d+1,(t,cs)) :: sy.boxes⟩ else none
def mH (mem:Bool) (sy:Sy) (o:Oper):Option Sy :=
 match jO tab sy o with
 | some v=>match o.dst with
  | some d=>some ⟨(d,v) :: sy.bc,sy.boxes⟩
  | none=>some sy
 | none =>
  bif mem then
   match o.op,o.dst with
   | .box t x,some d =>
    match evo sy x with
    | some v=>we sy d t (cellsOf v)
    | none=>none
   | .alloc t,some d =>
    match look tab t with
    | some ty=>we sy d t (ty.zero.map V)
    | none=>none
   | .store t x y,none =>
    match evo sy x,evo sy y,look tab t with
    | some (.s (.p id off)),some v,some ty =>
     match look sy.boxes id with
     | some (bt,cs) =>
      bif Nat.beq (cellsOf v).length ty.size && Nat.ble (off+(cellsOf v).length) cs.length && (cellsOf v).all (fun c=>match c with | .s (.v (.agg _))=>false | .s (.v (.tuple _))=>false | _=>true) then
       some ⟨sy.bc,(id,(bt,wr cs off (cellsOf v))) :: sy.boxes⟩ else none
     | none=>none
    | _,_,_=>none
   | _,_=>none
  else none
def pV (all:List Oper) (j:Nat):Option Nat :=
 match all[j]? with
 | some o=>o.dst
 | none=>none
def lW (mem:Bool) (all:List Oper):List Oper→Sy→Option Sy
 | [],sy=>some sy
 | o :: rest,sy =>
  match o.guard with
  | none=>match mH tab mem sy o with
   | some sy'=>lW mem all rest sy'
   | none=>none
  | some (j,want) =>
   match pV all j with
   | some tc =>
    match look sy.bc tc with
    | some (.s (.v (.bool b))) =>
     bif b == want then (match mH tab mem sy o with
      | some sy'=>lW mem all rest sy'
      | none=>none)
     else (match o.dst with
      | some d=>lW mem all rest ⟨(d,V undef) :: sy.bc,sy.boxes⟩
      | none=>lW mem all rest sy)
    | some (.s (.v (.tuple _))) =>
     (match o.dst with
      | some d=>lW mem all rest ⟨(d,V undef) :: sy.bc,sy.boxes⟩
      | none=>lW mem all rest sy)
    | _=>none
   | none=>none
end sym
structure Ev (p:Nat→Bool) (w:World) (χ:Nat→Nat) (w':World) (χ':Nat→Nat):Prop where
 os:w'.os=w.os
 tape:w'.tape=w.tape
 output:w'.output=w.output
 size:w.heap.size≤w'.heap.size
 bW:∀ b,b < w.heap.size→p (χ b)=false→w'.heap[b]?=w.heap[b]?∧χ' b=χ b
theorem Ev.refl (p:Nat→Bool) (w:World) (χ:Nat→Nat):Ev p w χ w χ:=⟨rfl,rfl,rfl,Nat.le_refl _,fun _ _ _=>⟨rfl,rfl⟩⟩
theorem Ev.trans {p:Nat→Bool} {w w1 w2:World} {χ χ1 χ2:Nat→Nat} (h:Ev p w χ w1 χ1) (k:Ev p w1 χ1 w2 χ2):Ev p w χ w2 χ2 :=
 ⟨k.os.trans h.os,k.tape.trans h.tape,k.output.trans h.output,Nat.le_trans h.size k.size,fun b hb hp=>by
  obtain ⟨h1,h2⟩:=h.bW b hb hp
  obtain ⟨k1,k2⟩:=k.bW b (Nat.lt_of_lt_of_le hb h.size) (by rw [h2]; exact hp)
  exact ⟨k1.trans h1,k2.trans h2⟩⟩
def ia (c:Nat):Bool:=Nat.ble 1 c && Nat.ble c 999
def aB (_:Nat):Bool:=false
def gO (k c:Nat):Bool:=Nat.beq c k
structure St (n:Nat) (sy:Sy) (ρ:Nat→Nat) (a:Act) (w:World) (χ:Nat→Nat):Prop where
 size:a.tmps.size=n
 defers:a.defers=[]
 bc:∀ t sv,look sy.bc t=some sv→a.tmps[t]?=some (bj ρ sv)
 boxes:∀ id q,look sy.boxes id=some q→χ (ρ id)=id∧ia id=true∧w.heap[ρ id]?=some (.cells (q.2.map (bj ρ)).toArray q.1 (0,0))
section
variable {P:Program} {tab:Tab} {n:Nat} {sy:Sy} {ρ:Nat→Nat} {a:Act} {w:World} {χ:Nat→Nat}
theorem St.evo (h:St n sy ρ a w χ) {x:Operand} {sv:SV} (e:evo sy x=some sv):a.eval x=bj ρ sv:=by
 cases x with
 | tmp t =>
  have:=h.bc t sv e
  simp [Act.eval,Array.getD_eq_getD_getElem?,this]
 | const v=>simp [Sv.evo] at e; subst e; rfl
 | global g=>simp [Sv.evo] at e
 | func f=>simp [Sv.evo] at e; subst e; rfl
theorem St.evs (h:St n sy ρ a w χ):∀ {l:List Operand} {r:List SV},evs sy l=some r→l.map a.eval=r.map (bj ρ)
 | [],r,e=>by simp [Sv.evs] at e; subst e; rfl
 | x :: l,r,e=>by
  simp only [Sv.evs] at e
  cases h1:Sv.evo sy x with
  | none=>simp [h1] at e
  | some v =>
   cases h2:Sv.evs sy l with
   | none=>simp [h1,h2] at e
   | some q =>
    simp [h1,h2] at e
    subst e
    simp [h.evo h1,h.evs h2]
theorem oz:∀ {l:List SV} {vs:List Value},plain l=some vs→l=vs.map V
 | [],vs,e=>by simp [plain] at e; subst e; rfl
 | .s (.v x) :: l,vs,e=>by
  simp only [plain] at e
  cases h:plain l with
  | none=>simp [h] at e
  | some r=>simp [h] at e; subst e; rw [oz h]; rfl
 | .s (.p _ _) :: l,vs,e=>by simp [plain] at e
 | .f _ _ _ :: l,vs,e=>by simp [plain] at e
theorem sN:∀ {l:List SV} {r:List S0},s0s l=some r→l.map (bj ρ)=r.map (cM ρ)
 | [],r,e=>by simp [s0s] at e; subst e; rfl
 | .s x :: l,r,e=>by
  simp only [s0s] at e
  cases h:s0s l with
  | none=>simp [h] at e
  | some q=>simp [h] at e; subst e; simp [sN h,bj]
 | .f _ _ _ :: l,r,e=>by simp [s0s] at e
@[simp] theorem ky (ρ:Nat→Nat) (vs:List Value):(vs.map V).map (bj ρ)=vs:=by
 induction vs with
 | nil=>rfl
 | cons x l ih=>rw [List.map_cons,List.map_cons,ih]; rfl
theorem kF {α:Type} {b:Bool} {x y:α} (h:(bif b then some x else none)=some y):b=true∧x=y:=by
 cases b <;> simp_all
def isA:TypeDesc→Bool
 | .struct _=>true
 | .array _ _=>true
 | _=>false
theorem bl {t:Nat} {s:TyS} (h:tyS P t=some s):∃ i d z,P.info? t=some i∧P.underlying t=some d∧i.zero=some z∧i.size=s.size∧i.bytes=s.bytes∧z.cells.toList=s.zero ∧
  s.agg=(isA d) ∧
  (∀ fs,s.d=.struct fs→∃ l,d=.struct l∧l.toList.mapM (fun f=>(P.info? f.type).map (fun j=>(f.offset,j.size,f.type)))=some fs) ∧
  (∀ n e es,s.d=.array n e es→d=.array n e∧∃ j,P.info? e=some j∧j.size=es) ∧
  (∀ k,s.d=.int k→d=.int k)∧(∀ e,s.d=.slice e→d=.slice e)∧(s.d=.str→d=.string)∧(s.d=.bool→d=.bool):=by
 unfold tyS at h
 cases hi:P.info? t with
 | none=>simp [hi] at h
 | some i =>
  cases hd:P.underlying t with
  | none=>simp [hi,hd] at h
  | some d =>
   cases hz:i.zero with
   | none=>simp [hi,hd,hz] at h
   | some z =>
    simp only [hi,hd,hz] at h
    refine ⟨i,d,z,rfl,rfl,hz,?_⟩
    cases d with
    | struct fs =>
     simp only [] at h
     split at h
     ·rename_i l hl
      simp at h; subst h
      refine ⟨rfl,rfl,rfl,rfl,?_,by simp,by simp,by simp,by simp,by simp⟩
      intro UQ hf; simp at hf; subst hf; exact ⟨fs,rfl,hl⟩
     ·simp at h
    | array n e =>
     simp only [] at h
     split at h
     ·rename_i j hj
      simp at h; subst h
      refine ⟨rfl,rfl,rfl,rfl,by simp,?_,by simp,by simp,by simp,by simp⟩
      intro n' e' es hf; simp at hf; obtain ⟨rfl,rfl,rfl⟩:=hf; exact ⟨rfl,j,hj,rfl⟩
     ·simp at h
    | _=>simp at h; subst h; simp_all [isA]
theorem ja {α β:Type} {f:α→Option β}:∀ {l:List α} {r:List β},l.mapM f=some r→∀ (i:Nat) (y:β),r[i]?=some y→∃ x,l[i]?=some x∧f x=some y
 | [],r,h,i,y,hy=>by simp at h; subst h; simp at hy
 | x :: l,r,h,i,y,hy=>by
  simp only [List.mapM_cons,bind,Option.bind_eq_some_iff,pure] at h
  obtain ⟨b,hb,q,hq,hr⟩:=h
  simp at hr; subst hr
  cases i with
  | zero=>simp at hy; subst hy; exact ⟨x,by simp,hb⟩
  | succ i=>simp at hy; obtain ⟨x',h1,h2⟩:=ja hq i y hy; exact ⟨x',by simpa using h1,h2⟩
theorem dv {α:Type} {k:Nat} {v:α} {l:List (Nat × α)} {t:Nat} {x:α} (h:look ((k,v) :: l) t=some x):(k=t∧v=x)∨(k≠t∧look l t=some x):=by
 simp only [look] at h
 cases hb:Nat.beq k t with
 | true=>rw [hb] at h; simp at h; exact .inl ⟨Nat.eq_of_beq_eq_true hb,h⟩
 | false=>rw [hb] at h; simp at h; exact .inr ⟨fun e=>by rw [e] at hb; simp at hb,h⟩
theorem St.put (h:St n sy ρ a w χ) {d:Nat} (hd:d < n) {sv:SV}:St n ⟨(d,sv) :: sy.bc,sy.boxes⟩ ρ (a.put (some d) (bj ρ sv)) w χ:=by
 refine ⟨by simp [Act.put,h.size],h.defers,?_,h.boxes⟩
 intro t SY e
 rcases dv e with ⟨rfl,rfl⟩ | ⟨hne,e'⟩
 ·simp [Act.put,h.size,hd]
 ·simp only [Act.put]
  rw [Array.getElem?_setIfInBounds_ne hne]
  exact h.bc t SY e'
theorem run_sizeOf {t:Nat} {i:TypeInfo} (h:P.info? t=some i):(sizeOf t).run P w=.ok i.size w:=by simp [sizeOf,typeInfo,h]
theorem fh {t:Nat} {d:TypeDesc} (h:P.underlying t=some d):(isAgg t).run P w=.ok (isA d) w:=by
 simp only [isAgg,Sem.run_bind,run_underlying h,Result.andThen_ok]
 cases d <;> rfl
theorem yx {b:Nat} {cs:List Value} {t:Nat} (h:w.heap[b]?=some (.cells cs.toArray t (0,0))) (off:Nat):w.cell? ⟨b,off,none⟩=cs[off]?:=by
 simp [World.cell?,h]
theorem iu {t b off:Nat} {i:TypeInfo} {d:TypeDesc} {cs:List Value} {bt:Nat} (hi:P.info? t=some i) (hd:P.underlying t=some d)
  (ha:isA d=true) (hb:w.heap[b]?=some (.cells cs.toArray bt (0,0))) (hl:off+i.size≤cs.length) :
  (loadVar t ⟨b,off,none⟩).run P w=.ok (.agg ((cs.drop off).take i.size).toArray) w:=by
 simp only [loadVar,Sem.run_bind,fh hd,ha,Result.andThen_ok,if_true,run_sizeOf hi]
 have hlen:((cs.drop off).take i.size).length=i.size:=by simp; omega
 have:=run_loadCells_list (P:=P) w ⟨b,off,none⟩ ((cs.drop off).take i.size) (fun j v hj=>by
  rw [Addr.add_lit,yx hb]
  rw [List.getElem?_take] at hj
  split at hj
  ·simpa [Nat.add_comm] using hj
  ·cases hj)
 rw [hlen] at this
 simp [this]
theorem ir {t b off:Nat} {d:TypeDesc} {cs:List Value} {bt:Nat} {v:Value} (hd:P.underlying t=some d)
  (ha:isA d=false) (hb:w.heap[b]?=some (.cells cs.toArray bt (0,0))) (hl:cs[off]?=some v) :
  (loadVar t ⟨b,off,none⟩).run P w=.ok v w:=by
 simp only [loadVar,Sem.run_bind,fh hd,ha,Result.andThen_ok]
 have:=yx hb off
 rw [hl] at this
 simp [this]
theorem iH {k k':IntKind} (h:sameKind k k'=true):k=k':=by
 cases k <;> cases k' <;> first | rfl | (simp [sameKind] at h)
theorem CO {op:BinOp} {k:IntKind} {p q:Int} {v:Value} (t:Nat) (h:arith op k p q=some v):(binOp op t (.int k p) (.int k q)).run P w=.ok v w:=by
 cases op <;> simp [arith,cmp] at h <;> subst h <;> simp [binOp,Op.intArith,Op.intCmp,Op.intBits]
theorem xu {op:BinOp} {k k':IntKind} {p q:Int} {v:Value} (t:Nat) (h:vM op k p q=some v):(binOp op t (.int k p) (.int k' q)).run P w=.ok v w:=by
 cases op <;> simp only [vM] at h <;> try (cases h; done)
 all_goals
  split at h
  ·rename_i n
   simp at h; subst h
   simp [binOp,Op.shift]
   intro h
   omega
  ·cases h
theorem eD (op:BinOp) (t:Nat) (x y:Operand) (k:IntKind) (p:Int) (v:Value):(eqGuard op t x y (.int k p) v).run P w=.ok () w:=by
 rw [eqGuard_at_int]; rfl
theorem iD (place:Nat→Option (Nat × Nat)):∀ (l:List (Nat × Value)) (cs r:List Value),nb place l cs=some r→Instr.fill place cs.toArray l=some r.toArray
 | [],cs,r,h=>by simp [nb] at h; subst h; rfl
 | (i,v) :: rest,cs,r,h=>by
  simp only [nb] at h
  simp only [Instr.fill]
  cases hp:place i with
  | none=>simp [hp] at h
  | some q =>
   obtain ⟨off,size⟩:=q
   simp only [hp] at h ⊢
   cases hc:(Nat.beq v.cells.size size && Nat.ble (off+size) cs.length) with
   | false=>simp [hc] at h
   | true =>
    simp only [hc,cond_true] at h
    rw [Bool.and_eq_true] at hc
    have h1:v.cells.size=size:=Nat.eq_of_beq_eq_true hc.1
    have h2:off+size≤cs.length:=Nat.le_of_ble_eq_true hc.2
    subst h1
    have hw:(decide (v.cells.size≠v.cells.size) || decide (off+v.cells.size > cs.toArray.size))=false:=by simp; omega
    rw [if_neg (by simpa using h2)]
    have key:(v.cells.zipIdx.foldl (fun cs (c,j)=>cs.setIfInBounds (off+j) c) cs.toArray)=(cs.take off++v.cells.toList++cs.drop (off+v.cells.size)).toArray:=by
     have gen:∀ (l:List Value) (j:Nat) (cur:List Value),off+j+l.length≤cur.length →
       (l.zipIdx j).foldl (fun (cs:Array Value) (c:Value × Nat)=>cs.setIfInBounds (off+c.2) c.1) cur.toArray=(cur.take (off+j)++l++cur.drop (off+j+l.length)).toArray:=by
      intro l
      induction l with
      | nil=>intro j cur _; simp
      | cons c l ih =>
       intro j cur hl
       simp only [List.zipIdx_cons,List.foldl_cons,List.length_cons] at hl ⊢
       have e:cur.toArray.setIfInBounds (off+j) c=(cur.set (off+j) c).toArray:=by simp
       rw [e,ih (j+1) (cur.set (off+j) c) (by simp; omega)]
       congr 1
       apply List.ext_getElem?
       intro m
       simp only [List.append_assoc,List.getElem?_append,List.length_take,List.length_set,List.getElem?_take,List.getElem?_set,List.getElem?_drop,List.getElem?_cons,List.length_cons]
       have hlen:off+j < cur.length:=by omega
       by_cases c1:m < off+j
       ·simp [show m < min (off+(j+1)) cur.length by omega,show m < min (off+j) cur.length by omega,c1,show m < off+(j+1) by omega,show ¬ off+j=m by omega]
       ·by_cases c2:m=off+j
        ·subst c2
         simp [show off+j < min (off+(j+1)) cur.length by omega,hlen,show min (off+j) cur.length=off+j by omega,show off+j < off+(j+1) by omega]
        ·have c3:¬ m < min (off+(j+1)) cur.length:=by omega
         have c4:¬ m < min (off+j) cur.length:=by omega
         simp only [c3,c4,if_false]
         rw [show min (off+(j+1)) cur.length=off+j+1 by omega,show min (off+j) cur.length=off+j by omega]
         by_cases c5:m - (off+j+1) < l.length
         ·simp [c5,show m - (off+j) < l.length+1 by omega,show ¬ m - (off+j)=0 by omega,show m - (off+j) - 1=m - (off+j+1) by omega]
         ·simp only [c5,if_false]
          rw [if_neg (by omega)]
          rw [if_neg (by omega)]
          congr 1
          omega
     have:=gen v.cells.toList 0 cs (by simpa using h2)
     simp only [Nat.add_zero,Array.length_toList] at this
     rw [← this]
     rw [← Array.foldl_toList]
     simp [Array.toList_zipIdx]
    rw [key]
    exact iD place rest _ r h
theorem nT (h:St n sy ρ a w χ):∀ (l:List (Nat × Operand)) (vs:List Value),plain (l.map (fun q=>(evo sy q.2).getD (Pt 0 0)))=some vs →
  l.map (fun q=>(q.1,a.eval q.2))=(l.map (·.1)).zip vs
 | [],vs,e=>by simp [plain] at e; subst e; rfl
 | q :: l,vs,e=>by
  simp only [List.map_cons] at e
  cases hq:evo sy q.2 with
  | none=>simp [hq,plain,Pt] at e
  | some sv =>
   rw [hq] at e
   simp only [Option.getD_some] at e
   match sv,hq,e with
   | .s (.v x),hq,e =>
    simp only [plain] at e
    cases hr:plain (l.map (fun q=>(evo sy q.2).getD (Pt 0 0))) with
    | none=>simp [hr] at e
    | some r =>
     simp [hr] at e
     subst e
     simp [nT h l r hr,h.evo hq,bj,cM]
   | .s (.p _ _),hq,e=>simp [plain] at e
   | .f _ _ _,hq,e=>simp [plain] at e
theorem rh {fs:Array Field} {l:List (Nat × Nat × Nat)} (h:fs.toList.mapM (fun f=>(P.info? f.type).map (fun j=>(f.offset,j.size,f.type)))=some l) :
  (fs.mapM (fun f=>(do pure (f.offset,← sizeOf f.type):Sem (Nat × Nat)))).run P w=.ok (l.map (fun q=>(q.1,q.2.1))).toArray w:=by
 have gen:∀ (fl:List Field) (l:List (Nat × Nat × Nat)),fl.mapM (fun f=>(P.info? f.type).map (fun j=>(f.offset,j.size,f.type)))=some l →
   (fl.mapM (fun f=>(do pure (f.offset,← sizeOf f.type):Sem (Nat × Nat)))).run P w=.ok (l.map (fun q=>(q.1,q.2.1))) w:=by
  intro fl
  induction fl with
  | nil=>intro l h; simp at h; subst h; rfl
  | cons f fl ih =>
   intro l h
   simp only [List.mapM_cons,bind,Option.bind_eq_some_iff,pure] at h
   obtain ⟨b,hb,q,hq,hr⟩:=h
   simp at hr; subst hr
   simp only [Option.map_eq_some_iff] at hb
   obtain ⟨j,hj,rfl⟩:=hb
   simp only [List.mapM_cons,Sem.run_bind,run_sizeOf hj,Result.andThen_ok,Sem.run_pure,ih q hq,List.map_cons]
 rw [Array.mapM_eq_mapM_toList,Sem.run_map,gen _ _ h]
 rfl
theorem sC (hT:bh P tab) (h:St n sy ρ a w χ) {o:Oper} {sv:SV} (e:jO tab sy o=some sv):(execOp a.eval o).run P w=.ok (.value (bj ρ sv)) w:=by
 obtain ⟨dst,op,ty,pos,after,guard⟩:=o
 cases op with
 | move x=>simp only [jO] at e; simp [execOp,h.evo e]
 | assign x=>simp only [jO] at e; simp [execOp,h.evo e]
 | pick c x y =>
  simp only [jO] at e
  split at e
  ·rename_i hc; simp [execOp,h.evo hc,h.evo e,bj,cM,asBool]
  ·rename_i hc; simp [execOp,h.evo hc,h.evo e,bj,cM,asBool]
  ·cases e
 | nilCheck x =>
  simp only [jO] at e
  split at e
  ·rename_i id off hx
   simp at e; subst e
   simp [execOp,h.evo hx,bj,cM]
  ·cases e
 | load t x =>
  simp only [jO] at e
  split at e
  ·rename_i id off Wc hx ht
   split at e
   ·rename_i bt cs hb
    obtain ⟨i,d,z,hi,hd,hz,hs,jz,iS,fG,_⟩:=bl (hT _ _ ht)
    obtain ⟨_,_,jH⟩:=h.boxes _ _ hb
    cases ha:Wc.agg with
    | true =>
     simp only [ha,cond_true] at e
     cases hle:Nat.ble (off+Wc.size) cs.length with
     | false=>simp [hle] at e
     | true =>
      simp only [hle,cond_true] at e
      split at e
      ·rename_i vs hp
       simp at e; subst e
       have Ad:=oz hp
       have:=iu (P:=P) (w:=w) (off:=off) hi hd (by rw [← fG,ha]) jH (by simp [hs]; exact Nat.le_of_ble_eq_true hle)
       rw [← List.map_drop,← List.map_take,hs,Ad,ky] at this
       simp [execOp,h.evo hx,bj,cM,Instr.loadAt,Instr.sureAddr,this]
      ·cases e
    | false =>
     simp only [ha,cond_false] at e
     have:=ir (P:=P) (w:=w) (off:=off) (v:=bj ρ sv) hd (by rw [← fG,ha]) jH (by simp [e])
     simp [execOp,h.evo hx,bj,cM,Instr.loadAt,Instr.sureAddr,this]
   ·cases e
  ·cases e
 | fieldAddr s x f =>
  simp only [jO] at e
  split at e
  ·rename_i id off sz oS z ag fs hx ht
   split at e
   ·rename_i ll kX ft hf
    obtain ⟨i,d,z,hi,hd,hz,hs,jz,iS,fG,gP,_⟩:=bl (hT _ _ ht)
    obtain ⟨M7,Ac⟩:=kF e
    subst Ac
    obtain ⟨l,rfl,hm⟩:=gP fs rfl
    obtain ⟨fd,sg,tz⟩:=ja hm f _ hf
    simp only [Option.map_eq_some_iff,Prod.mk.injEq] at tz
    obtain ⟨j,hj,rfl,rfl,rfl⟩:=tz
    have hne:¬ j.size=0:=by have:=Nat.le_of_ble_eq_true M7; omega
    simp only [Array.getElem?_toList] at sg
    simp [execOp,h.evo hx,bj,cM,Instr.fieldAt,run_underlying hd,sg,Instr.sureAddr,fieldPlace,run_sizeOf hj,hne,Addr.add_lit]
   ·cases e
  ·cases e
 | field s x f =>
  simp only [jO] at e
  split at e
  ·rename_i cs sz oS z ag fs hx ht
   split at e
   ·rename_i ll kX ft hf
    obtain ⟨i,d,z,hi,hd,hz,hs,jz,iS,fG,gP,_⟩:=bl (hT _ _ ht)
    obtain ⟨l,rfl,hm⟩:=gP fs rfl
    obtain ⟨fd,sg,tz⟩:=ja hm f _ hf
    simp only [Option.map_eq_some_iff,Prod.mk.injEq] at tz
    obtain ⟨j,hj,rfl,rfl,rfl⟩:=tz
    simp only [Array.getElem?_toList] at sg
    split at e
    ·rename_i YX Z0
     obtain ⟨i2,d2,z2,Sq,Kt,Ea,hs2,UD,TX,pM,_⟩:=bl (hT _ _ Z0)
     cases ha:YX.agg with
     | true =>
      simp only [ha,cond_true] at e
      obtain ⟨aai,Ac⟩:=kF e
      subst Ac
      rw [hj] at Sq
      cases Sq
      rw [ha] at pM
      simp [execOp,h.evo hx,bj,cM,Instr.field,run_underlying hd,sg,asAgg,part,fh Kt,← pM,run_sizeOf hj]
     | false =>
      simp only [ha,cond_false] at e
      split at e
      ·rename_i v hv
       simp at e; subst e
       rw [ha] at pM
       simp only [Array.getElem?_toList] at hv
       simp [execOp,h.evo hx,bj,cM,Instr.field,run_underlying hd,sg,asAgg,part,fh Kt,← pM,hv]
      ·cases e
    ·cases e
   ·cases e
  ·cases e
 | build t parts =>
  simp only [jO] at e
  have xY:∀ vs,plain (parts.toList.map (fun q=>(evo sy q.2).getD (Pt 0 0)))=some vs→(parts.map fun (i,x)=>(i,a.eval x)).toList=(parts.toList.map (·.1)).zip vs:=by
   intro vs hv
   rw [← nT h _ _ hv]
   simp
  split at e
  ·rename_i sz oS z ag fs vs ht hp
   obtain ⟨i,d,zv,hi,hd,hz,hs,jz,iS,fG,gP,_⟩:=bl (hT _ _ ht)
   obtain ⟨l,rfl,hm⟩:=gP fs rfl
   split at e
   ·rename_i cs hf
    simp at e; subst e
    have kU:=iD _ _ _ _ hf
    have hzero:(zeroValue t).run P w=.ok zv w:=by simp [zeroValue,typeInfo,hi,hz]
    have jc:zv.cells=z.toArray:=by simp only [] at iS; rw [← iS]
    have Ad:=rh (P:=P) (w:=w) hm
    have IU:(fun (i:Nat)=>(List.map (fun q:Nat × Nat × Nat=>(q.1,q.2.1)) fs).toArray[i]?)=(fun (i:Nat)=>(fs[i]?).map (fun q:Nat × Nat × Nat=>(q.1,q.2.1))):=by
     funext i; simp
    simp only [execOp,Instr.build,Sem.run_bind,hzero,Result.andThen_ok,run_underlying hd,Ad,Sem.run_pure,xY _ hp,jc,IU,kU,bj,cM]
   ·cases e
  ·rename_i sz oS z ag nn ee es vs ht hp
   obtain ⟨i,d,zv,hi,hd,hz,hs,jz,iS,fG,_,Gx,_⟩:=bl (hT _ _ ht)
   obtain ⟨rfl,j,hj,rfl⟩:=Gx _ _ _ rfl
   split at e
   ·rename_i cs hf
    simp at e; subst e
    have kU:=iD _ _ _ _ hf
    have hzero:(zeroValue t).run P w=.ok zv w:=by simp [zeroValue,typeInfo,hi,hz]
    have jc:zv.cells=z.toArray:=by simp only [] at iS; rw [← iS]
    simp only [execOp,Instr.build,Sem.run_bind,hzero,Result.andThen_ok,run_underlying hd,run_sizeOf hj,Sem.run_pure,xY _ hp,jc,kU,bj,cM]
   ·cases e
  ·cases e
 | extract t i =>
  simp only [jO] at e
  split at e
  ·rename_i vs hx
   split at e
   ·rename_i v hv
    simp at e; subst e
    simp only [Array.getElem?_toList] at hv
    simp [execOp,h.evo hx,bj,cM,Instr.extract,hv]
   ·cases e
  ·cases e
 | binOp op t x y yt =>
  simp only [jO] at e
  split at e
  ·rename_i k p k' q hx hy
   split at e
   ·rename_i v hv
    simp at e; subst e
    simp [execOp,h.evo hx,h.evo hy,bj,cM,eD,xu t hv]
   cases hk:sameKind k k' with
   | false=>simp [hk] at e
   | true =>
    have:=iH hk
    subst this
    simp only [hk,cond_true] at e
    split at e
    ·rename_i v hv
     simp at e; subst e
     simp [execOp,h.evo hx,h.evo hy,bj,cM,eD,CO t hv]
    ·cases e
  ·rename_i p q hx hy
   split at e
   ·rename_i sz oS z ag ht
    obtain ⟨i,d,zv,hi,hd,hz,hs,jz,iS,fG,_,_,_,_,_,UE⟩:=bl (hT _ _ ht)
    obtain rfl:=UE rfl
    have hg:(eqGuard op t x y (.bool p) (.bool q)).run P w=.ok () w:=by rw [eqGuard_at_bool]; rfl
    have hq:(Op.equal t (.bool p) (.bool q)).run P w=.ok (p == q) w:=by simp [Op.equal,Op.maxDepth,run_equalIn_bool' w 9999 t p q hd]
    split at e
    ·simp at e; subst e
     simp [execOp,h.evo hx,h.evo hy,bj,cM,hg,binOp,hq]
    ·simp at e; subst e
     simp [execOp,h.evo hx,h.evo hy,bj,cM,hg,binOp,hq,bne]
    ·cases e
   ·cases e
  ·rename_i p q hx hy
   have hg:(eqGuard op t x y (.string p) (.string q)).run P w=.ok () w:=by rw [eqGuard_at_string]; rfl
   split at e
   ·simp at e; subst e
    simp [execOp,h.evo hx,h.evo hy,bj,cM,hg,binOp,Op.stringOp,ByteArray.toList_eq]
   ·simp at e; subst e
    simp [execOp,h.evo hx,h.evo hy,bj,cM,hg,binOp,Op.stringOp,ByteArray.toList_eq]
   ·cases e
  ·cases e
 | indexAddr t x y =>
  simp only [jO] at e
  split at e
  ·rename_i id off k i sz oS z ag m el es hx hy ht
   obtain ⟨inf,d,zv,hi,hd,hz,hs,jz,iS,fG,_,Gx,_⟩:=bl (hT _ _ ht)
   obtain ⟨rfl,j,hj,rfl⟩:=Gx _ _ _ rfl
   obtain ⟨eS,Ac⟩:=kF e
   subst Ac
   have PV:i < m:=Nat.le_of_ble_eq_true eS
   simp [execOp,h.evo hx,h.evo hy,bj,cM,Instr.indexAt,asIntOf,run_underlying hd,Instr.sureAddr,PV,run_sizeOf hj,Addr.add_lit]
  ·cases e
 | unOp op t x =>
  simp only [jO] at e
  split at e
  ·rename_i b hx
   simp at e; subst e
   simp [execOp,h.evo hx,bj,cM,Op.unary]
  ·rename_i k m hx
   simp at e; subst e
   simp [execOp,h.evo hx,bj,cM,Op.unary,Op.intArith]
  ·rename_i k m hx
   simp at e; subst e
   have hc:(if k.signed=true then (-1:Int) else k.max)=(bif k.signed then -1 else k.max):=by cases k.signed <;> rfl
   simp [execOp,h.evo hx,bj,cM,Op.unary,Op.intBits,hc]
  ·cases e
 | convert src dst x =>
  simp only [jO] at e
  split at e
  ·rename_i k0 m sz oS z ag k hx ht
   obtain ⟨i,d,zv,hi,hd,hz,hs,jz,iS,fG,_,_,hk,_⟩:=bl (hT _ _ ht)
   obtain rfl:=hk _ rfl
   split at e
   ·rename_i ts T3
    obtain ⟨i',d',zv',wC,hd',_⟩:=bl (hT _ _ T3)
    simp at e; subst e
    simp [execOp,h.evo hx,bj,cM,convert,run_underlying hd,run_underlying hd',Conv.intToInt]
   ·cases e
  ·cases e
 | makeFunc fn first cap =>
  simp only [jO] at e
  split at e
  ·rename_i l m hl hm
   split at e
   ·rename_i l' m' Kr MO
    simp at e; subst e
    have e1:first.map a.eval=(l'.map (cM ρ)).toArray:=by
     rw [← sN Kr,← h.evs hl,← Array.toList_map]
    have e2:cap.map a.eval=(m'.map (cM ρ)).toArray:=by
     rw [← sN MO,← h.evs hm,← Array.toList_map]
    simp [execOp,bj,Instr.makeFunc,e1,e2]
   ·cases e
  ·cases e
 | call c =>
  obtain ⟨callee,args,lR⟩:=c
  cases callee with
  | builtin b =>
   cases b <;> simp only [jO] at e <;> try (cases e; done)
   case min =>
    split at e
    ·rename_i x y u6
     have ha:args=#[x,y]:=by rw [← Array.toArray_toList (xs:=args),u6]
     subst ha
     split at e
     ·rename_i k p k' q hx hy
      simp at e; subst e
      simp [execOp,resolve,invoke,builtin,h.evo hx,h.evo hy,bj,cM,Builtin.min_,Builtin.min2]
     ·cases e
    ·cases e
   case max =>
    split at e
    ·rename_i x y u6
     have ha:args=#[x,y]:=by rw [← Array.toArray_toList (xs:=args),u6]
     subst ha
     split at e
     ·rename_i k p k' q hx hy
      simp at e; subst e
      simp [execOp,resolve,invoke,builtin,h.evo hx,h.evo hy,bj,cM,Builtin.max_,Builtin.max2]
     ·cases e
    ·cases e
   split at e
   ·rename_i x t u6 Ah
    have ha:args=#[x]:=by rw [← Array.toArray_toList (xs:=args),u6]
    have hb:lR=#[t]:=by rw [← Array.toArray_toList (xs:=lR),Ah]
    subst ha; subst hb
    split at e
    ·rename_i ad m cp sz oS z ag el hx ht
     obtain ⟨i,d,zv,hi,hd,hz,hs,jz,iS,fG,_,_,_,Ki,_⟩:=bl (hT _ _ ht)
     obtain rfl:=Ki _ rfl
     simp at e; subst e
     simp [execOp,resolve,invoke,builtin,h.evo hx,bj,cM,Builtin.len_,run_underlying hd,goInt]
    ·rename_i s sz oS z ag hx ht
     obtain ⟨i,d,zv,hi,hd,hz,hs,jz,iS,fG,_,_,_,_,gP,_⟩:=bl (hT _ _ ht)
     obtain rfl:=gP rfl
     simp at e; subst e
     simp [execOp,resolve,invoke,builtin,h.evo hx,bj,cM,Builtin.len_,run_underlying hd,goInt]
    ·cases e
   ·cases e
  | _=>simp [jO] at e
 | _=>simp [jO] at e
theorem vi {id b:Nat} {x:S0} (h:kx id x=false):cM (fun i=>if i=id then b else ρ i) x=cM ρ x:=by
 cases x with
 | v x=>rfl
 | p i off =>
  have:i≠id:=fun e=>by subst e; simp [kx] at h
  simp [cM,this]
theorem oT {id b:Nat}:∀ {l:List S0},l.any (kx id)=false→l.map (cM (fun i=>if i=id then b else ρ i))=l.map (cM ρ)
 | [],_=>rfl
 | x :: l,h=>by
  simp only [List.any_cons,Bool.or_eq_false_iff] at h
  simp [vi h.1,oT h.2]
theorem yu {id b:Nat} {x:SV} (h:names id x=false):bj (fun i=>if i=id then b else ρ i) x=bj ρ x:=by
 cases x with
 | s x=>exact vi h
 | f fn l m =>
  simp only [names,Bool.or_eq_false_iff] at h
  simp [bj,oT h.1,oT h.2]
theorem il {α:Type}:∀ {l:List (Nat × α)} {t:Nat} {x:α},look l t=some x→(t,x)∈l
 | [],_,_,h=>by cases h
 | (k,v) :: l,t,x,h=>by
  rcases dv h with ⟨rfl,rfl⟩ | ⟨_,h'⟩
  ·simp
  ·exact List.mem_cons_of_mem _ (il h')
theorem St.box (h:St n sy ρ a w χ) {d t:Nat} {cs:List SV} {sy':Sy} (hd:d < n) (hx:ia (d+1)=true) (e:we sy d t cs=some sy') (Du:∀ c∈cs,names (d+1) c=false) :
  St n sy' (fun i=>if i=d+1 then w.heap.size else ρ i) (a.put (some d) (.pointer (some ⟨w.heap.size,0,none⟩))) (w.alloc (.cells (cs.map (bj ρ)).toArray t))
   (fun b=>if b=w.heap.size then d+1 else if χ b=d+1 then 999 else χ b) ∧
  Ev ia w χ (w.alloc (.cells (cs.map (bj ρ)).toArray t)) (fun b=>if b=w.heap.size then d+1 else if χ b=d+1 then 999 else χ b):=by
 unfold we at e
 obtain ⟨hno,rfl⟩:=kF e
 simp only [nW,Bool.and_eq_true,List.all_eq_true] at hno
 obtain ⟨hr,hb⟩:=hno
 have xY:∀ l:List SV,(∀ c∈l,names (d+1) c=false)→l.map (bj (fun i=>if i=d+1 then w.heap.size else ρ i))=l.map (bj ρ):=fun l hl=>List.map_congr_left fun c hc=>yu (hl c hc)
 refine ⟨⟨by simp [Act.put,h.size],h.defers,?_,?_⟩,⟨rfl,rfl,rfl,by simp,?_⟩⟩
 ·intro t' SY e'
  rcases dv e' with ⟨rfl,rfl⟩ | ⟨hne,K5⟩
  ·simp [Act.put,h.size,hd,bj,cM]
  ·have IK:=hr _ (il K5)
   simp only [Bool.not_eq_true'] at IK
   rw [yu IK]
   simp only [Act.put]
   rw [Array.getElem?_setIfInBounds_ne hne]
   exact h.bc t' SY K5
 ·intro id q e'
  rcases dv e' with ⟨rfl,rfl⟩ | ⟨hne,K5⟩
  ·refine ⟨by simp,hx,?_⟩
   simp only [if_true]
   rw [xY cs Du]
   exact heap_alloc_new w _
  ·obtain ⟨h1,h2,h3⟩:=h.boxes id q K5
   have PT:id≠d+1:=fun e=>hne e.symm
   have IK:=hb _ (il K5)
   simp only [Bool.not_eq_true'] at IK
   have eS:ρ id < w.heap.size:=(Array.getElem?_eq_some_iff.1 h3).1
   refine ⟨?_,h2,?_⟩
   ·simp [PT,h1,Nat.ne_of_lt eS]
   ·simp only [PT,if_false]
    rw [xY _ IK.2,heap_alloc_old w _ eS]
    exact h3
 ·intro b KQ hp
  refine ⟨heap_alloc_old w _ KQ,?_⟩
  have:χ b≠d+1:=fun e=>by rw [e,hx] at hp; cases hp
  simp [Nat.ne_of_lt KQ,this]
theorem mr (v:SV):(bj ρ v).cells.toList=(cellsOf v).map (bj ρ):=by
 match v with
 | .s (.v (.agg cs))=>simp only [cellsOf,ky]; rfl
 | .s (.v (.bool _)) | .s (.v (.int _ _)) | .s (.v (.float _ _)) | .s (.v (.complex _ _ _)) | .s (.v (.string _)) | .s (.v (.pointer _)) | .s (.v (.slice _ _ _)) | .s (.v (.map _)) | .s (.v (.chan _))
 | .s (.v (.func _ _ _)) | .s (.v .nilFunc) | .s (.v (.iface _ _)) | .s (.v .nilIface) | .s (.v (.tuple _))=>rfl
 | .s (.p _ _)=>rfl
 | .f _ _ _=>rfl
theorem St.wr (h:St n sy ρ a w χ) {id off bt:Nat} {cs new:List SV} (hb:look sy.boxes id=some (bt,cs)) :
  St n ⟨sy.bc,(id,(bt,wr cs off new)) :: sy.boxes⟩ ρ a (w.setRow (ρ id) ((cs.map (bj ρ)).take off++new.map (bj ρ)++(cs.map (bj ρ)).drop (off+new.length)).toArray) χ ∧
  Ev ia w χ (w.setRow (ρ id) ((cs.map (bj ρ)).take off++new.map (bj ρ)++(cs.map (bj ρ)).drop (off+new.length)).toArray) χ:=by
 obtain ⟨h1,h2,h3⟩:=h.boxes id _ hb
 refine ⟨⟨h.size,h.defers,h.bc,?_⟩,⟨rfl,rfl,rfl,by simp,?_⟩⟩
 ·intro D8 q e'
  rcases dv e' with ⟨rfl,rfl⟩ | ⟨hne,K5⟩
  ·refine ⟨h1,h2,?_⟩
   rw [setRow_heap w _ _ _ bt _ h3]
   simp [Sv.wr,List.map_append,List.map_take,List.map_drop]
  ·obtain ⟨k1,k2,k3⟩:=h.boxes D8 q K5
   refine ⟨k1,k2,?_⟩
   rw [setRow_other]
   ·exact k3
   ·intro e; apply hne; rw [← h1,← k1,e]
 ·intro b _ hp
  refine ⟨setRow_other _ _ _ _ ?_,rfl⟩
  intro e; rw [e,h1,h2] at hp; cases hp
theorem Bc (hT:bh P tab) (h:St n sy ρ a w χ) {mem:Bool} {o:Oper} {sy':Sy} (hd:∀ d,o.dst=some d→d < n) (hn:n≤999) (e:mH tab mem sy o=some sy') {K:Act→World→Prop} {Q:Exit→Act→World→Prop}
  (k:∀ ρ' a' w' χ',St n sy' ρ' a' w' χ'→Ev ia w χ w' χ'→((mem=false→w'=w∧χ'=χ∧ρ'=ρ)∧∀ id,n < id→ρ' id=ρ id)→(∀ t,o.dst≠some t→a'.tmps[t]?=a.tmps[t]?)→K a' w'):o.wp P a w K Q:=by
 have rL:∀ (v:Value) (od:Option Tmp),od=o.dst→∀ t,o.dst≠some t→(a.put od v).tmps[t]?=a.tmps[t]?:=by
  intro v od ZD t ht
  subst ZD
  cases fp:o.dst with
  | none=>rfl
  | some d =>
   simp only [Act.put]
   rw [Array.getElem?_setIfInBounds_ne (by intro e; subst e; exact ht fp)]
 unfold mH at e
 cases hv:jO tab sy o with
 | some v =>
  simp only [hv] at e
  have jZ:=sC (P:=P) hT h hv
  unfold Oper.wp
  rw [jZ]
  simp only [Oper.upon]
  cases fp:o.dst with
  | some d =>
   simp only [fp] at e
   simp at e; subst e
   exact k ρ _ w χ (h.put (hd d fp)) (Ev.refl _ _ _) ⟨fun _=>⟨rfl,rfl,rfl⟩,fun _ _=>rfl⟩ (rL _ _ fp.symm)
  | none =>
   simp only [fp] at e
   simp at e; subst e
   exact k ρ _ w χ h (Ev.refl _ _ _) ⟨fun _=>⟨rfl,rfl,rfl⟩,fun _ _=>rfl⟩ (rL undef _ fp.symm)
 | none =>
  simp only [hv] at e
  cases mem with
  | false=>simp at e
  | true =>
   simp only [cond_true] at e
   have xb:∀ d,d < n→ia (d+1)=true:=fun d hd=>by simp [ia]; omega
   split at e
   ·rename_i t x d PL fp
    split at e
    ·rename_i v hx
     have IK:∀ c∈cellsOf v,names (d+1) c=false:=by
      have hno:nW (d+1) sy=true:=(kF e).1
      simp only [nW,Bool.and_eq_true,List.all_eq_true] at hno
      intro c hc
      match v,hx,hc with
      | .s (.v (.agg cs)),_,hc =>
       simp only [cellsOf,List.mem_map] at hc
       obtain ⟨y,_,rfl⟩:=hc
       rfl
      | .s (.v (.bool _)),_,hc | .s (.v (.int _ _)),_,hc | .s (.v (.float _ _)),_,hc | .s (.v (.complex _ _ _)),_,hc | .s (.v (.string _)),_,hc | .s (.v (.pointer _)),_,hc | .s (.v (.slice _ _ _)),_,hc | .s (.v (.map _)),_,hc
      | .s (.v (.chan _)),_,hc | .s (.v (.func _ _ _)),_,hc | .s (.v .nilFunc),_,hc | .s (.v (.iface _ _)),_,hc | .s (.v .nilIface),_,hc | .s (.v (.tuple _)),_,hc =>
       simp [cellsOf] at hc; subst hc; rfl
      | .s (.p i off),hx,hc =>
       simp [cellsOf] at hc; subst hc
       cases x with
       | tmp t'=>have:=hno.1 _ (il hx); simpa using this
       | const v'=>simp [Sv.evo,V] at hx
       | global g=>simp [Sv.evo] at hx
       | func f=>simp [Sv.evo] at hx
      | .f fn l m,hx,hc =>
       simp [cellsOf] at hc; subst hc
       cases x with
       | tmp t'=>have:=hno.1 _ (il hx); simpa using this
       | const v'=>simp [Sv.evo,V] at hx
       | global g=>simp [Sv.evo] at hx
       | func f=>simp [Sv.evo] at hx; obtain ⟨rfl,rfl,rfl⟩:=hx; rfl
     obtain ⟨s1,s2⟩:=h.box (hd d fp) (xb d (hd d fp)) e IK
     have hr:(execOp a.eval o).run P w=.ok (.value (.pointer (some ⟨w.heap.size,0,none⟩))) (w.alloc (.cells ((cellsOf v).map (bj ρ)).toArray t)):=by
      have hc:=mr (ρ:=ρ) v
      have Gt:(bj ρ v).cells=((cellsOf v).map (bj ρ)).toArray:=by rw [← hc]
      simp [execOp,PL,h.evo hx,Instr.box,newVar,newRow,Gt]
     unfold Oper.wp
     rw [hr]
     simp only [Oper.upon]
     rw [fp]
     exact k _ _ _ _ s1 s2 ⟨by simp,by intro id Hy; have h5:=hd d fp; have h6:id≠d+1:=by { intro e; rw [e] at Hy; exact absurd Hy (Nat.not_lt.2 h5) }; simp [h6]⟩ (rL _ _ fp.symm)
    ·cases e
   ·rename_i t d PL fp
    split at e
    ·rename_i ty ht
     obtain ⟨i,dd,zv,hi,o0,hz,hs,jz,iS,fG,_⟩:=bl (hT _ _ ht)
     obtain ⟨s1,s2⟩:=h.box (hd d fp) (xb d (hd d fp)) e (by intro c hc; obtain ⟨y,_,rfl⟩:=List.mem_map.1 hc; rfl)
     have hr:(execOp a.eval o).run P w=.ok (.value (.pointer (some ⟨w.heap.size,0,none⟩))) (w.alloc (.cells ((ty.zero.map V).map (bj ρ)).toArray t)):=by
      rw [ky]
      have Gt:zv.cells=ty.zero.toArray:=by rw [← iS]
      simp [execOp,PL,Instr.alloc,newVar,newRow,zeroValue,typeInfo,hi,hz,Gt]
     unfold Oper.wp
     rw [hr]
     simp only [Oper.upon]
     rw [fp]
     exact k _ _ _ _ s1 s2 ⟨by simp,by intro id Hy; have h5:=hd d fp; have h6:id≠d+1:=by { intro e; rw [e] at Hy; exact absurd Hy (Nat.not_lt.2 h5) }; simp [h6]⟩ (rL _ _ fp.symm)
    ·cases e
   ·rename_i t x y PL fp
    split at e
    ·rename_i id off v ty hx hy ht
     split at e
     ·rename_i bt cs hb
      obtain ⟨hc,rfl⟩:=kF e
      simp only [Bool.and_eq_true,List.all_eq_true] at hc
      obtain ⟨⟨c1,c2⟩,c3⟩:=hc
      have c1:=Nat.eq_of_beq_eq_true c1
      have c2:=Nat.le_of_ble_eq_true c2
      obtain ⟨i,dd,zv,hi,o0,hz,hs,jz,iS,fG,_⟩:=bl (hT _ _ ht)
      obtain ⟨s1,s2⟩:=h.wr (off:=off) (new:=cellsOf v) hb
      obtain ⟨_,_,jH⟩:=h.boxes id _ hb
      have hcl:=mr (ρ:=ρ) v
      have gB:(bj ρ v).cells.size=i.size:=by rw [← Array.length_toList,hcl,List.length_map,hs,c1]
      have rO:∀ u∈(cellsOf v).map (bj ρ),u.oneCell'=true:=by
       intro u hu
       obtain ⟨c,hc,rfl⟩:=List.mem_map.1 hu
       have:=c3 c hc
       match c,this with
       | .s (.v (.bool _)),_ | .s (.v (.int _ _)),_ | .s (.v (.float _ _)),_ | .s (.v (.complex _ _ _)),_ | .s (.v (.string _)),_ | .s (.v (.pointer _)),_ | .s (.v (.slice _ _ _)),_ | .s (.v (.map _)),_ | .s (.v (.chan _)),_
       | .s (.v (.func _ _ _)),_ | .s (.v .nilFunc),_ | .s (.v (.iface _ _)),_ | .s (.v .nilIface),_=>rfl
       | .s (.p _ _),_=>rfl
       | .f _ _ _,_=>rfl
      have gP:=run_storeCells_at P (ρ id) off bt ((cellsOf v).map (bj ρ)) 0 _ w jH (by simp; omega) rO
      simp only [Nat.add_zero,List.length_map] at gP
      have hr:(execOp a.eval o).run P w=.ok .skip (w.setRow (ρ id) ((cs.map (bj ρ)).take off++(cellsOf v).map (bj ρ)++(cs.map (bj ρ)).drop (off+(cellsOf v).length)).toArray):=by
       have Ac:(storeVar t ⟨ρ id,off,none⟩ (bj ρ v)).run P w=.ok () (w.setRow (ρ id) ((cs.map (bj ρ)).take off++(cellsOf v).map (bj ρ)++(cs.map (bj ρ)).drop (off+(cellsOf v).length)).toArray):=by
        simp only [storeVar,Sem.run_bind,run_sizeOf hi,Result.andThen_ok,gB,ne_eq,not_true_eq_false,if_false,hcl]
        exact gP
       have TZ:a.eval x=.pointer (some ⟨ρ id,off,none⟩):=h.evo hx
       simp only [execOp,PL,TZ,h.evo hy,Instr.storeAt,Instr.sureAddr,Sem.run_bind,Sem.run_pure,Result.andThen_ok,Ac]
      unfold Oper.wp
      rw [hr]
      simp only [Oper.upon]
      rw [fp]
      exact k _ _ _ _ s1 s2 ⟨by simp,fun _ _=>rfl⟩ (rL undef _ fp.symm)
     ·cases e
    ·cases e
   ·cases e
theorem mQ (h:St n sy ρ a w χ) {all:List Oper} {j tc:Nat} {want b:Bool} {o:Oper} (hg:o.guard=some (j,want)) (ht:pV all j=some tc) (hl:look sy.bc tc=some (B b)) :
  Region.wanted o (yielded all.toArray a.tmps)=(b == want):=by
 have:=h.bc _ _ hl
 unfold pV at ht
 split at ht
 ·rename_i oj Ud
  simp only [Region.wanted,hg,yielded,List.getElem?_toArray,Ud,Option.bind_some,ht,this,bj,cM]
  cases b <;> cases want <;> rfl
 ·cases ht
theorem lU (h:St n sy ρ a w χ) {all:List Oper} {j tc:Nat} {want:Bool} {o:Oper} (hg:o.guard=some (j,want)) (ht:pV all j=some tc) {vs:Array Value} (hl:look sy.bc tc=some (V (.tuple vs))) :
  Region.wanted o (yielded all.toArray a.tmps)=false:=by
 have:=h.bc _ _ hl
 unfold pV at ht
 split at ht
 ·rename_i oj Ud
  simp only [Region.wanted,hg,yielded,List.getElem?_toArray,Ud,Option.bind_some,ht,this,bj,cM]
  cases want <;> rfl
 ·cases ht
def gT (n:Nat):List Oper→Bool
 | []=>true
 | o :: l=>(match o.dst with | some d=>Nat.blt d n | none=>true) && gT n l
theorem rp {o:Oper} {l:List Oper} (h:gT n (o :: l)=true):(∀ d,o.dst=some d→d < n)∧gT n l=true:=by
 simp only [gT,Bool.and_eq_true] at h
 refine ⟨fun d hd=>?_,h.2⟩
 have:=h.1
 rw [hd] at this
 exact Nat.le_of_ble_eq_true this
theorem nO {ops:Array Oper} {Q:Exit→Act→World→Prop} {o:Oper} {rest:List Oper} (hw:Region.wanted o (yielded ops a.tmps)=true) (h:o.wp P a w (wpList P ops Q rest) Q):wpList P ops Q (o :: rest) a w:=by
 unfold wpList; rw [if_pos hw]; exact .inl h
theorem wpList_skip {ops:Array Oper} {Q:Exit→Act→World→Prop} {o:Oper} {rest:List Oper} (hw:Region.wanted o (yielded ops a.tmps)=false) (h:wpList P ops Q rest (a.put o.dst undef) w):wpList P ops Q (o :: rest) a w:=by
 unfold wpList; rw [if_neg (by simp [hw])]; exact h
theorem St.undef (h:St n sy ρ a w χ) {o:Oper} (hd:∀ d,o.dst=some d→d < n) :
  St n (match o.dst with | some d=>⟨(d,V Go.undef) :: sy.bc,sy.boxes⟩ | none=>sy) ρ (a.put o.dst Go.undef) w χ:=by
 cases fp:o.dst with
 | none=>exact h
 | some d=>exact h.put (sv:=V Go.undef) (hd d fp)
theorem St.sub (h:St n sy ρ a w χ) {sy':Sy} (hr:∀ t sv,look sy'.bc t=some sv→look sy.bc t=some sv) (hb:∀ id q,look sy'.boxes id=some q→look sy.boxes id=some q):St n sy' ρ a w χ :=
 ⟨h.size,h.defers,fun t sv e=>h.bc t sv (hr t sv e),fun id q e=>h.boxes id q (hb id q e)⟩
def uJ {α:Type}:List Nat→List (Nat × α)→List (Nat × α)
 | [],_=>[]
 | k :: ks,l=>match look l k with
  | some v=>(k,v) :: uJ ks l
  | none=>uJ ks l
def bW (ks bs:List Nat) (sy:Sy):Sy:=⟨uJ ks sy.bc,uJ bs sy.boxes⟩
theorem lI {α:Type} {l:List (Nat × α)}:∀ {ks:List Nat} {t:Nat} {x:α},look (uJ ks l) t=some x→look l t=some x
 | [],_,_,h=>by cases h
 | k :: ks,t,x,h=>by
  simp only [uJ] at h
  split at h
  ·rename_i v hv
   rcases dv h with ⟨rfl,rfl⟩ | ⟨_,h'⟩
   ·exact hv
   ·exact lI h'
  ·exact lI h
theorem kS {α:Type} {ks:List Nat}:∀ {l:List (Nat × α)} {t:Nat} {x:α},look (l.filter (fun q=>ks.any (Nat.beq q.1))) t=some x→look l t=some x
 | [],_,_,h=>h
 | (k,v) :: l,t,x,h=>by
  rw [List.filter_cons] at h
  split at h
  ·rcases dv h with ⟨rfl,rfl⟩ | ⟨hne,h'⟩
   ·simp [look]
   ·have hb:Nat.beq k t=false:=by cases hb:Nat.beq k t with
     | true=>exact absurd (Nat.eq_of_beq_eq_true hb) hne
     | false=>rfl
    simp only [look,hb,cond_false]
    exact kS h'
  ·rename_i hk
   have ih:=kS h
   simp only [look]
   cases hb:Nat.beq k t with
   | false=>exact ih
   | true =>
    exfalso
    have:=Nat.eq_of_beq_eq_true hb
    subst this
    have hm:=il h
    simp only [List.mem_filter] at hm
    exact hk hm.2
theorem St.bW (h:St n sy ρ a w χ) (ks bs:List Nat):St n (Sv.bW ks bs sy) ρ a w χ :=
 h.sub (fun _ _ e=>lI e) (fun _ _ e=>lI e)
theorem St.lit (h:St n sy ρ a w χ) {t:Nat} {b b':Bool} (hl:look sy.bc t=some (B b)) (hb:b=b'):St n ⟨(t,B b') :: sy.bc,sy.boxes⟩ ρ a w χ:=by
 subst hb
 refine ⟨h.size,h.defers,?_,h.boxes⟩
 intro t' sv e
 rcases dv e with ⟨rfl,rfl⟩ | ⟨_,e'⟩
 ·exact h.bc _ _ hl
 ·exact h.bc _ _ e'
def jl (tc:Nat):List Oper→Option (List Oper × Oper × List Oper)
 | []=>none
 | o :: l =>
  match o.op with
  | .pick (.tmp t) _ _=>bif Nat.beq t tc then some ([],o,l) else (match jl tc l with | some (x,p,y)=>some (o :: x,p,y) | none=>none)
  | _=>match jl tc l with | some (x,p,y)=>some (o :: x,p,y) | none=>none
theorem pg {tc:Nat}:∀ {l x y:List Oper} {p:Oper},jl tc l=some (x,p,y)→l=x++p :: y
 | [],_,_,_,h=>by cases h
 | o :: l,x,y,p,h=>by
  have go:∀ q,(match jl tc l with | some (x,p,y)=>some (o :: x,p,y) | none=>none)=some q→o :: l=q.1++q.2.1 :: q.2.2:=by
   intro q hq
   cases hs:jl tc l with
   | none=>rw [hs] at hq; cases hq
   | some r =>
    obtain ⟨x',p',y'⟩:=r
    rw [hs] at hq
    cases hq
    simp [pg hs]
  simp only [jl] at h
  split at h
  ·rename_i t a b _
   cases hb:Nat.beq t tc with
   | true=>rw [hb] at h; cases h; rfl
   | false=>rw [hb] at h; exact go _ h
  ·exact go _ h
def dstsOf:List Oper→List Nat
 | []=>[]
 | o :: l=>match o.dst with | some d=>d :: dstsOf l | none=>dstsOf l
def forget (ds:List Nat) (bc:List (Nat × SV)):List (Nat × SV):=bc.filter (fun q=>!ds.any (Nat.beq q.1))
theorem m6 {ds:List Nat}:∀ {l:List (Nat × SV)} {t:Nat} {x:SV},look (forget ds l) t=some x→look l t=some x∧ds.any (Nat.beq t)=false
 | [],_,_,h=>by cases h
 | (k,v) :: l,t,x,h=>by
  unfold forget at h
  rw [List.filter_cons] at h
  split at h
  ·rename_i hk
   rcases dv h with ⟨rfl,rfl⟩ | ⟨hne,h'⟩
   ·exact ⟨by simp [look],by simpa using hk⟩
   ·have hb:Nat.beq k t=false:=by cases hb:Nat.beq k t with
     | true=>exact absurd (Nat.eq_of_beq_eq_true hb) hne
     | false=>rfl
    obtain ⟨h1,h2⟩:=m6 (ds:=ds) h'
    exact ⟨by simp only [look,hb,cond_false]; exact h1,h2⟩
  ·rename_i hk
   obtain ⟨h1,h2⟩:=m6 (ds:=ds) h
   refine ⟨?_,h2⟩
   simp only [look]
   cases hb:Nat.beq k t with
   | false=>exact h1
   | true =>
    exfalso
    have:=Nat.eq_of_beq_eq_true hb
    subst this
    simp [h2] at hk
def lE (tab:Tab) (all:List Oper):Nat→Bool→List Nat→List Oper→Sy→Option Sy
 | 0,_,_,_,_=>none
 | _+1,_,_,[],sy=>some sy
 | f+1,mem,sp,o :: rest,sy =>
  match o.guard with
  | none=>match mH tab mem sy o with
   | some sy'=>lE tab all f mem sp rest sy'
   | none=>none
  | some (j,want) =>
   match pV all j with
   | some tc =>
    bif sp.any (Nat.beq tc) then
     match look sy.bc tc with
     | some (.s (.v (.bool b))) =>
      match jl tc (o :: rest) with
      | some (Be,pk,after) =>
       match pk.dst,lE tab all f false (sp.filter (fun s=>!Nat.beq s tc)) (Be++[pk]) ⟨(tc,B true) :: sy.bc,sy.boxes⟩,lE tab all f false (sp.filter (fun s=>!Nat.beq s tc)) (Be++[pk]) ⟨(tc,B false) :: sy.bc,sy.boxes⟩ with
       | some d,some sT,some sF =>
        match look sT.bc d,look sF.bc d with
        | some (.s (.v (.bool cT))),some (.s (.v (.bool cF))) =>
         lE tab all f mem sp after ⟨(d,B (bif b then cT else cF)) :: forget (dstsOf Be) sy.bc,sy.boxes⟩
        | _,_=>none
       | _,_,_=>none
      | none=>none
     | some (.s (.v (.tuple _))) =>
      (match o.dst with
       | some d=>lE tab all f mem sp rest ⟨(d,V undef) :: sy.bc,sy.boxes⟩
       | none=>lE tab all f mem sp rest sy)
     | _=>none
    else
    match look sy.bc tc with
    | some (.s (.v (.bool b))) =>
     bif b == want then (match mH tab mem sy o with
      | some sy'=>lE tab all f mem sp rest sy'
      | none=>none)
     else (match o.dst with
      | some d=>lE tab all f mem sp rest ⟨(d,V undef) :: sy.bc,sy.boxes⟩
      | none=>lE tab all f mem sp rest sy)
    | some (.s (.v (.tuple _))) =>
     (match o.dst with
      | some d=>lE tab all f mem sp rest ⟨(d,V undef) :: sy.bc,sy.boxes⟩
      | none=>lE tab all f mem sp rest sy)
    | _=>none
   | none=>none
theorem ue {x y:List Oper} (h:gT n (x++y)=true):gT n x=true∧gT n y=true:=by
 induction x with
 | nil=>exact ⟨rfl,h⟩
 | cons o x ih =>
  simp only [List.cons_append,gT,Bool.and_eq_true] at h ⊢
  exact ⟨⟨h.1,(ih h.2).1⟩,(ih h.2).2⟩
theorem Aq {x y:List Oper} {p:Oper} (h:gT n (x++p :: y)=true):gT n (x++[p])=true∧gT n y=true:=by
 have e:x++p :: y=(x++[p])++y:=by simp
 rw [e] at h
 exact ue h
theorem tg {o:Oper} {l:List Oper} {t:Nat} (h:(dstsOf (o :: l)).any (Nat.beq t)=false):o.dst≠some t∧(dstsOf l).any (Nat.beq t)=false:=by
 simp only [dstsOf] at h
 cases hd:o.dst with
 | none=>rw [hd] at h; exact ⟨by simp,h⟩
 | some d =>
  rw [hd] at h
  simp only [List.any_cons,Bool.or_eq_false_iff] at h
  exact ⟨by intro e; cases e; simp at h,h.2⟩
theorem og (x y:List Oper):dstsOf (x++y)=dstsOf x++dstsOf y:=by
 induction x with
 | nil=>rfl
 | cons o x ih =>
  simp only [List.cons_append,dstsOf]
  cases o.dst <;> simp [ih]
theorem vK (hT:bh P tab) {all:List Oper} (hn:n≤999) {Q:Exit→Act→World→Prop}:∀ (f:Nat) (mem:Bool) (sp:List Nat) (l rest:List Oper) (sy sy':Sy) (ρ:Nat→Nat) (a:Act) (w:World) (χ:Nat→Nat),
  lE tab all f mem sp l sy=some sy'→gT n l=true→St n sy ρ a w χ →
  (∀ ρ' a' w' χ',St n sy' ρ' a' w' χ'→Ev ia w χ w' χ'→((mem=false→w'=w∧χ'=χ∧ρ'=ρ)∧∀ id,n < id→ρ' id=ρ id)→(∀ t,(dstsOf l).any (Nat.beq t)=false→a'.tmps[t]?=a.tmps[t]?)→wpList P all.toArray Q rest a' w')→wpList P all.toArray Q (l++rest) a w:=by
 intro f
 induction f with
 | zero=>intro mem sp l rest sy sy' ρ a w χ e; cases e
 | succ f ih =>
  intro mem sp l rest sy sy' ρ a w χ e hd h k
  cases l with
  | nil =>
   simp [lE] at e; subst e
   exact k ρ a w χ h (Ev.refl _ _ _) ⟨fun _=>⟨rfl,rfl,rfl⟩,fun _ _=>rfl⟩ (fun _ _=>rfl)
  | cons o l =>
   obtain ⟨Dt,Kt⟩:=rp hd
   have go:∀ yV,mH tab mem sy o=some yV→lE tab all f mem sp l yV=some sy'→o.wp P a w (wpList P all.toArray Q (l++rest)) Q:=by
    intro yV e1 e2
    refine Bc hT h Dt hn e1 fun ρ1 a1 w1 χ1 h1 W9 q1 s1=>?_
    refine ih mem sp l rest yV sy' ρ1 a1 w1 χ1 e2 Kt h1 fun ρ2 a2 w2 χ2 h2 QG q2 s2=>?_
    exact k ρ2 a2 w2 χ2 h2 (W9.trans QG) ⟨fun hm=>by
     obtain ⟨r1,r2,r3⟩:=q1.1 hm
     obtain ⟨s1,s2,s3⟩:=q2.1 hm
     exact ⟨s1.trans r1,s2.trans r2,s3.trans r3⟩,fun id Hy=>(q2.2 id Hy).trans (q1.2 id Hy)⟩ (fun t ht=>by
     obtain ⟨t1,t2⟩:=tg ht
     exact (s2 t t2).trans (s1 t t1))
   have skip:lE tab all f mem sp l (match o.dst with | some d=>⟨(d,V Go.undef) :: sy.bc,sy.boxes⟩ | none=>sy)=some sy'→wpList P all.toArray Q (l++rest) (a.put o.dst Go.undef) w:=by
    intro e1
    refine ih mem sp l rest _ sy' ρ _ w χ e1 Kt (h.undef Dt) fun ρ2 a2 w2 χ2 h2 QG q2 s2=>?_
    refine k ρ2 a2 w2 χ2 h2 QG q2 (fun t ht=>?_)
    obtain ⟨t1,t2⟩:=tg ht
    rw [s2 t t2]
    cases fp:o.dst with
    | none=>rfl
    | some d =>
     simp only [Act.put]
     rw [Array.getElem?_setIfInBounds_ne (by intro e; subst e; exact t1 fp)]
   simp only [lE] at e
   rw [List.cons_append]
   cases hg:o.guard with
   | none =>
    simp only [hg] at e
    refine nO (by simp [Region.wanted,hg]) ?_
    cases e1:mH tab mem sy o with
    | none=>simp [e1] at e
    | some yV=>simp only [e1] at e; exact go yV e1 e
   | some g =>
    obtain ⟨j,want⟩:=g
    simp only [hg] at e
    cases ht:pV all j with
    | none=>simp [ht] at e
    | some tc =>
     simp only [ht] at e
     cases PA:sp.any (Nat.beq tc) with
     | true =>
      simp only [PA,cond_true] at e
      split at e
      ·rename_i b hl
       split at e
       ·rename_i Be pk after T4
        split at e
        ·rename_i d sT sF Zy hT1 hF1
         split at e
         ·rename_i cT cF Z9 hcF
          have Ol:=pg T4
          rw [← List.cons_append,Ol] 
          rw [Ol] at hd
          obtain ⟨WM,Z3⟩:=Aq hd
          have e3:Be++pk :: after++rest=(Be++[pk])++(after++rest):=by simp
          rw [e3]
          have fin:∀ (lit:Bool) (sL:Sy) (cL:Bool),b=lit→lE tab all f false (sp.filter (fun s=>!Nat.beq s tc)) (Be++[pk]) ⟨(tc,B lit) :: sy.bc,sy.boxes⟩=some sL→look sL.bc d=some (B cL)→(bif b then cT else cF)=cL →
            wpList P all.toArray Q ((Be++[pk])++(after++rest)) a w:=by
           intro lit sL cL hb hS Ul hv
           refine ih false _ (Be++[pk]) (after++rest) _ sL ρ a w χ hS WM (h.lit hl hb) fun ρ1 a1 w1 χ1 h1 W9 q1 s1=>?_
           obtain ⟨r1,r2,r3⟩:=q1.1 rfl
           rw [r1,r2,r3] at h1
           rw [r1]
           have Qa:dstsOf (Be++[pk])=dstsOf Be++[d]:=by rw [og]; simp [dstsOf,Zy]
           have ML:St n ⟨(d,B (bif b then cT else cF)) :: forget (dstsOf Be) sy.bc,sy.boxes⟩ ρ a1 w χ:=by
            refine ⟨h1.size,h1.defers,?_,h.boxes⟩
            intro t sv hq
            rcases dv hq with ⟨rfl,rfl⟩ | ⟨hne,BT⟩
            ·rw [hv]; exact h1.bc _ _ Ul
            ·obtain ⟨g1,g2⟩:=m6 BT
             rw [s1 t (by
      rw [Qa,List.any_append,g2,Bool.false_or]
      simp only [List.any_cons,List.any_nil,Bool.or_false]
      cases hb:Nat.beq t d with
      | false=>rfl
      | true=>exact absurd (Nat.eq_of_beq_eq_true hb).symm hne)]
             exact h.bc t sv g1
           refine ih mem sp after rest _ sy' ρ a1 w χ e Z3 ML fun ρ2 a2 w2 χ2 h2 QG q2 s2=>?_
           refine k ρ2 a2 w2 χ2 h2 QG q2 (fun t ht=>?_)
           rw [Ol,show Be++pk :: after=(Be++[pk])++after by simp,og,List.any_append,Bool.or_eq_false_iff] at ht
           exact (s2 t ht.2).trans (s1 t ht.1)
          cases Su:b with
          | true=>exact fin true sT cT Su hT1 Z9 (by rw [Su]; rfl)
          | false=>exact fin false sF cF Su hF1 hcF (by rw [Su]; rfl)
         ·cases e
        ·cases e
       ·cases e
      ·rename_i vs hl
       have hw:=lU h hg ht hl
       refine wpList_skip hw (skip ?_)
       cases fp:o.dst with
       | none=>simpa only [fp] using e
       | some d=>simpa only [fp] using e
      ·cases e
     | false =>
      simp only [PA,cond_false] at e
      split at e
      ·rename_i b hl
       have hw:=mQ h hg ht hl
       cases hb:(b == want) with
       | true =>
        simp only [hb,cond_true] at e
        refine nO (hw.trans hb) ?_
        cases e1:mH tab mem sy o with
        | none=>simp [e1] at e
        | some yV=>simp only [e1] at e; exact go yV e1 e
       | false =>
        simp only [hb,cond_false] at e
        refine wpList_skip (hw.trans hb) (skip ?_)
        cases fp:o.dst with
        | none=>simpa only [fp] using e
        | some d=>simpa only [fp] using e
      ·rename_i vs hl
       have hw:=lU h hg ht hl
       refine wpList_skip hw (skip ?_)
       cases fp:o.dst with
       | none=>simpa only [fp] using e
       | some d=>simpa only [fp] using e
      ·cases e
end
def qs (nrm ret:Act→World→Prop) (exs:List (Nat × (Act→World→Prop))):Exit→Act→World→Prop
 | .normal,a,w=>nrm a w
 | .ret,a,w=>ret a w
 | .exit id,a,w=>match look exs (2 * id) with | some K=>K a w | none=>False
 | .goto l,a,w=>match look exs (2 * l+1) with | some K=>K a w | none=>False
 | _,_,_=>False
section
variable {P:Program} {nrm ret:Act→World→Prop} {exs:List (Nat × (Act→World→Prop))} {a:Act} {w:World}
theorem a8 {x y:Code} (h:x.wp P (qs (y.wp P (qs nrm ret exs)) ret exs) a w):(Code.seq x y).wp P (qs nrm ret exs) a w :=
 wp_seq (wp_mono h fun e a w q=>by cases e <;> exact q)
theorem Df {α:Type} {id l:Nat} {K:α} {exs:List (Nat × α)}:look ((2 * id,K) :: exs) (2 * l+1)=look exs (2 * l+1):=by
 simp only [look]
 cases hb:Nat.beq (2 * id) (2 * l+1) with
 | true=>have:=Nat.eq_of_beq_eq_true hb; omega
 | false=>rfl
theorem aH {id:Nat} {c:Code} (h:c.wp P (qs nrm ret ((2 * id,nrm) :: exs)) a w):(Code.block id c).wp P (qs nrm ret exs) a w:=by
 refine wp_block (wp_mono h fun e a w q=>?_)
 cases e with
 | exit i =>
  simp only [qs,look] at q
  simp only [Exit.inBlock]
  cases hb:Nat.beq (2 * id) (2 * i) with
  | true =>
   rw [hb] at q
   have:id=i:=by have:=Nat.eq_of_beq_eq_true hb; omega
   subst this
   simpa [qs] using q
  | false =>
   rw [hb] at q
   have:¬ i=id:=fun e=>by subst e; simp at hb
   simp only [this,if_false]
   exact q
 | goto l =>
  simp only [qs] at q
  rw [Df] at q
  exact q
 | _=>exact q
theorem aI (h:nrm a w):Code.skip.wp P (qs nrm ret exs) a w:=wp_skip h
theorem aR (h:ret a w):Code.ret.wp P (qs nrm ret exs) a w:=wp_ret h
theorem cl {id:Nat} {K:Act→World→Prop} (hk:look exs (2 * id)=some K) (h:K a w):(Code.exit id).wp P (qs nrm ret exs) a w:=by
 refine wp_exit ?_
 simp only [qs,hk]
 exact h
theorem cu {σ:Type} {c:Code} (I:σ→Act→World→Prop) (μ:σ→Nat) (s0:σ) (h0:I s0 a w)
  (round:∀ s a w,I s a w→c.wp P (qs (fun a' w'=>∃ s',I s' a' w'∧μ s' < μ s) ret exs) a w):(Code.loop c).wp P (qs nrm ret exs) a w:=by
 intro b k cs
 have key:∀ m s a w,μ s=m→I s a w →
   ∃ e a' w',qs nrm ret exs e a' w'∧Arrives P (lone (b.at a (.code c :: .inLoop c :: k)) cs w) b k cs e a' w':=by
  intro m
  induction m using Nat.strongRecOn with
  | _ m ih =>
   intro s a w hm hI
   obtain ⟨e,a₁,w₁,hq,harr⟩:=round s a w hI b (.inLoop c :: k) cs
   cases e with
   | normal =>
    obtain ⟨s',hI₁,eS⟩:=hq
    obtain ⟨e₂,a₂,w₂,Zt,Qd⟩:=ih (μ s') (hm ▸ eS) s' a₁ w₁ rfl hI₁
    exact ⟨e₂,a₂,w₂,Zt,.of_steps (Steps.trans harr (.one step_inLoop)) Qd⟩
   | exit id=>exact ⟨.exit id,a₁,w₁,hq,.pass (x:=.inLoop c) rfl (fun _ _=>.inl (by simp)) harr⟩
   | ret=>exact ⟨.ret,a₁,w₁,hq,.pass (x:=.inLoop c) rfl (fun _ _=>.inl (by simp)) harr⟩
   | goto l=>exact ⟨.goto l,a₁,w₁,hq,.pass (x:=.inLoop c) rfl (fun _ _=>.inl (by simp)) harr⟩
   | panic ch=>exact hq.elim
   | outgrown=>exact hq.elim
 obtain ⟨e,a',w',hq,harr⟩:=key _ s0 a w rfl h0
 exact ⟨e,a',w',hq,.of_steps (.one step_loop) harr⟩
theorem cg {x y:Code} (K:Act→World→Prop) (h:x.wp P (qs K ret exs) a w) (k:∀ a w,K a w→y.wp P (qs nrm ret exs) a w):(Code.seq x y).wp P (qs nrm ret exs) a w :=
 a8 (wp_mono h fun e a w q=>by cases e <;> first | exact k _ _ q | exact q)
variable {tab:Tab} {n:Nat} {sy:Sy} {ρ:Nat→Nat} {χ:Nat→Nat}
theorem aC (h:St n sy ρ a w χ) {c:Operand} {b:Bool} (hc:evo sy c=some (B b)) {x y:Code} (ht:b=true→x.wp P (qs nrm ret exs) a w) (hf:b=false→y.wp P (qs nrm ret exs) a w):(Code.cond c x y).wp P (qs nrm ret exs) a w :=
 wp_cond_split (h.evo hc) ht hf
def run (tab:Tab) (mem:Bool) (sp:List Nat) (n:Nat) (all l:List Oper) (ks bs:List Nat) (sy:Sy):Option Sy :=
 bif gT n l && Nat.ble n 999 then (match lE tab all (l.length+l.length+1) mem sp l sy with | some s=>some (bW ks bs s) | none=>none) else none
theorem kb {mem:Bool} {sp:List Nat} {all l:List Oper} {ks bs:List Nat} {sy sy':Sy} (e:run tab mem sp n all l ks bs sy=some sy'):gT n l=true∧n≤999∧∃ s,lE tab all (l.length+l.length+1) mem sp l sy=some s∧sy'=bW ks bs s:=by
 unfold run at e
 cases hc:(gT n l && Nat.ble n 999) with
 | false=>simp [hc] at e
 | true =>
  simp only [hc,cond_true] at e
  rw [Bool.and_eq_true] at hc
  cases hs:lE tab all (l.length+l.length+1) mem sp l sy with
  | none=>simp [hs] at e
  | some s=>simp [hs] at e; exact ⟨hc.1,Nat.le_of_ble_eq_true hc.2,s,rfl,e.symm⟩
theorem Ti {all l:List Oper} {Q:Exit→Act→World→Prop} (T:bh P tab) (h:St n sy ρ a w χ) (m:Nat) {sp ks bs:List Nat} {sy':Sy} (e:run tab false sp n all (l.take m) ks bs sy=some sy')
  (k:∀ a,St n sy' ρ a w χ→wpList P all.toArray Q (l.drop m) a w):wpList P all.toArray Q l a w:=by
 obtain ⟨e1,e2,s,e3,rfl⟩:=kb e
 have:=vK (Q:=Q) T e2 _ _ _ (l.take m) (l.drop m) sy s ρ a w χ e3 e1 h (fun ρ' a' w' χ' h' _ q _=>by
  obtain ⟨r1,r2,r3⟩:=q.1 rfl
  rw [r1,r2,r3] at h'
  rw [r1]
  exact k a' (h'.bW ks bs))
 rwa [List.take_append_drop] at this
theorem QJ {all l:List Oper} {K:Act→World→Prop} (T:bh P tab) (h:St n sy ρ a w χ) {sp ks bs:List Nat} {sy':Sy} (e:run tab false sp n all l ks bs sy=some sy')
  (k:∀ a,St n sy' ρ a w χ→K a w):wpList P all.toArray (qs K ret exs) l a w:=by
 obtain ⟨e1,e2,s,e3,rfl⟩:=kb e
 have:=vK (Q:=qs K ret exs) T e2 _ _ _ l [] sy s ρ a w χ e3 e1 h (fun ρ' a' w' χ' h' _ q _=>by
  obtain ⟨r1,r2,r3⟩:=q.1 rfl
  rw [r1,r2,r3] at h'
  rw [r1]
  exact k a' (h'.bW ks bs))
 rwa [List.append_nil] at this
theorem QK {all l:List Oper} {K:Act→World→Prop} (T:bh P tab) (h:St n sy ρ a w χ) {sp ks bs:List Nat} {sy':Sy} (e:run tab true sp n all l ks bs sy=some sy')
  (k:∀ ρ' a' w' χ',St n sy' ρ' a' w' χ'→Ev ia w χ w' χ'→(∀ id,n < id→ρ' id=ρ id)→K a' w'):wpList P all.toArray (qs K ret exs) l a w:=by
 obtain ⟨e1,e2,s,e3,rfl⟩:=kb e
 have:=vK (Q:=qs K ret exs) T e2 _ _ _ l [] sy s ρ a w χ e3 e1 h (fun ρ' a' w' χ' h' ev q _=>k ρ' a' w' χ' (h'.bW ks bs) ev q.2)
 rwa [List.append_nil] at this
theorem gM {ops:Array Oper} {K:Act→World→Prop} (h:K a w):wpList P ops (qs K ret exs) [] a w:=h
theorem region {id:Nat} {l:List Oper} {Q:Exit→Act→World→Prop} (h:wpList P l.toArray Q l a w):(Code.region id l.toArray false).wp P Q a w:=wp_region_lit h
theorem Tb {id:Nat} {l:List Oper} {y:Code} (T:bh P tab) (h:St n sy ρ a w χ) {sp ks bs:List Nat} {sy':Sy} (e:run tab false sp n l l ks bs sy=some sy')
  (k:∀ a,St n sy' ρ a w χ→y.wp P (qs nrm ret exs) a w):(Code.seq (Code.region id l.toArray false) y).wp P (qs nrm ret exs) a w :=
 a8 (region (QJ T h e k))
theorem Tc {id:Nat} {l:List Oper} {y:Code} (T:bh P tab) (h:St n sy ρ a w χ) {sp ks bs:List Nat} {sy':Sy} (e:run tab true sp n l l ks bs sy=some sy')
  (k:∀ ρ' a' w' χ',St n sy' ρ' a' w' χ'→Ev ia w χ w' χ'→(∀ id,n < id→ρ' id=ρ id)→y.wp P (qs nrm ret exs) a' w'):(Code.seq (Code.region id l.toArray false) y).wp P (qs nrm ret exs) a w :=
 a8 (region (QK T h e k))
theorem bk {id:Nat} {l:List Oper} {y:Code} (h:wpList P l.toArray (qs (y.wp P (qs nrm ret exs)) ret exs) l a w):(Code.seq (Code.region id l.toArray false) y).wp P (qs nrm ret exs) a w :=
 a8 (region h)
theorem St.conv (h:St n sy ρ a w χ) {t:Nat} {x y:Value} (hl:look sy.bc t=some (V x)) (hb:x=y):St n ⟨(t,V y) :: sy.bc,sy.boxes⟩ ρ a w χ:=by
 subst hb
 refine ⟨h.size,h.defers,?_,h.boxes⟩
 intro t' sv e
 rcases dv e with ⟨rfl,rfl⟩ | ⟨_,e'⟩
 ·exact h.bc _ _ hl
 ·exact h.bc _ _ e'
theorem St.sel (h:St n sy ρ a w χ) (ks bs:List Nat) {sy':Sy} (e:Sv.bW ks bs sy=sy'):St n sy' ρ a w χ:=e ▸ h.bW ks bs
theorem St.ev {p:Nat→Bool} (h:St n sy ρ a w χ) {w':World} {χ':Nat→Nat} (e:Ev p w χ w' χ') (hp:∀ c,ia c=true→p c=false):St n sy ρ a w' χ':=by
 refine ⟨h.size,h.defers,h.bc,?_⟩
 intro id q hq
 obtain ⟨h1,h2,h3⟩:=h.boxes id q hq
 have eS:ρ id < w.heap.size:=(Array.getElem?_eq_some_iff.1 h3).1
 obtain ⟨k1,k2⟩:=e.bW _ eS (by rw [h1]; exact hp _ h2)
 exact ⟨k2.trans h1,h2,k1.trans h3⟩
end
structure M0 (w:World) (χ:Nat→Nat) (w':World) (χ':Nat→Nat):Prop where
 size:w.heap.size≤w'.heap.size
 bW:∀ b,b < w.heap.size→χ b=0→w'.heap[b]?=w.heap[b]?∧χ' b=0
theorem Ev.m0 {p:Nat→Bool} {w:World} {χ:Nat→Nat} {w':World} {χ':Nat→Nat} (e:Ev p w χ w' χ') (hp:p 0=false):M0 w χ w' χ' :=
 ⟨e.size,fun b hb h0=>by
  obtain ⟨k1,k2⟩:=e.bW b hb (by rw [h0]; exact hp)
  exact ⟨k1,k2.trans h0⟩⟩
theorem M0.refl (w:World) (χ:Nat→Nat):M0 w χ w χ:=⟨Nat.le_refl _,fun _ _ h=>⟨rfl,h⟩⟩
structure ct (α:Type) where
 n:Nat
 bytes:Nat
 R:World→(Nat→Nat)→List Value→α→Prop
 pos:1≤n
 len:∀ {w χ cs x},R w χ cs x→cs.length=n
 one:∀ {w χ cs x},R w χ cs x→∀ c∈cs,c.oneCell'=true
 mono:∀ {w χ w' χ' cs x},M0 w χ w' χ'→R w χ cs x→R w' χ' cs x
def inR (k:IntKind) (x:Int):Prop:=k.min≤x∧x≤k.max
def sm {α:Type} (l:List α):Prop:=l.length≤140737488355328
def xl (k:IntKind) (bytes:Nat):ct Int where
 n:=1
 bytes:=bytes
 R:=fun _ _ cs x=>cs=[.int k x]
 pos:=Nat.le_refl _
 len:=by rintro _ _ _ _ rfl; rfl
 one:=by rintro _ _ _ _ rfl c hc; simp at hc; subst hc; rfl
 mono:=fun _ h=>h
@[reducible] def tI:ct Int:=xl .i64 8
def tP2:ct (Int × Int) where
 n:=2
 bytes:=16
 R:=fun _ _ cs x=>cs=[.int .i64 x.1,.int .i64 x.2]
 pos:=by decide
 len:=by rintro _ _ _ _ rfl; rfl
 one:=by rintro _ _ _ _ rfl c hc; simp at hc; rcases hc with rfl | rfl <;> rfl
 mono:=fun _ h=>h
def cD:ct Bool where
 n:=1
 bytes:=1
 R:=fun _ _ cs x=>cs=[.bool x]
 pos:=Nat.le_refl _
 len:=by rintro _ _ _ _ rfl; rfl
 one:=by rintro _ _ _ _ rfl c hc; simp at hc; subst hc; rfl
 mono:=fun _ h=>h
def bs (l:List UInt8):ByteArray:=⟨l.toArray⟩
def chunk (cells:Array Value) (o n i:Nat):List Value:=(cells.toList.drop (o+i * n)).take n
structure RS {α:Type} (T:ct α) (w:World) (χ:Nat→Nat) (a:Option Addr) (xs:List α) (c:Nat):Prop where
 cap:xs.length≤c
 bnd:xs.length * T.bytes≤140737488355328
 nil:a=none→xs=[]∧c=0
 cells:xs≠[]→∃ b o cells e fr,a=some ⟨b,o,none⟩∧χ b=0∧w.heap[b]?=some (.cells cells e fr)∧∀ (i:Nat) (x:α),xs[i]?=some x→T.R w χ (chunk cells o T.n i) x
theorem cQ {w:World} {b:Nat} {o:Obj} (h:w.heap[b]?=some o):b < w.heap.size:=(Array.getElem?_eq_some_iff.1 h).1
theorem RS.m0 {α:Type} {T:ct α} {w w':World} {χ χ':Nat→Nat} {a:Option Addr} {xs:List α} {c:Nat} (h:RS T w χ a xs c) (m:M0 w χ w' χ'):RS T w' χ' a xs c :=
 ⟨h.cap,h.bnd,h.nil,fun hne=>by
  obtain ⟨b,o,cells,e,fr,h1,h2,h3,h4⟩:=h.cells hne
  obtain ⟨k1,k2⟩:=m.bW b (cQ h3) h2
  exact ⟨b,o,cells,e,fr,h1,k2,k1.trans h3,fun i x hx=>T.mono m (h4 i x hx)⟩⟩
theorem RS.sm {α:Type} {T:ct α} {w:World} {χ:Nat→Nat} {a:Option Addr} {xs:List α} {c:Nat} (h:RS T w χ a xs c) (hb:Nat.ble 1 T.bytes=true):Sv.sm xs:=by
 have h1:=h.bnd
 have h2:=Nat.mul_le_mul_left xs.length (Nat.le_of_ble_eq_true hb)
 unfold Sv.sm
 omega
theorem RS.mv {α:Type} {T:ct α} {w w':World} {χ χ':Nat→Nat} {a:Option Addr} {xs:List α} {c:Nat} {p:Nat→Bool} (h:RS T w χ a xs c) (e:Ev p w χ w' χ') (hp:p 0=false):RS T w' χ' a xs c:=h.m0 (e.m0 hp)
theorem RS.empty {α:Type} (T:ct α) (w:World) (χ:Nat→Nat):RS T w χ none [] 0:=⟨Nat.le_refl _,by simp,fun _=>⟨rfl,rfl⟩,fun h=>absurd rfl h⟩
def aA {α:Type} (T:ct α):ct (List α) where
 n:=1
 bytes:=24
 R:=fun w χ cs xs=>∃ a c,cs=[.slice a xs.length c]∧RS T w χ a xs c
 pos:=Nat.le_refl _
 len:=by rintro _ _ _ _ ⟨a,c,rfl,_⟩; rfl
 one:=by rintro _ _ _ _ ⟨a,c,rfl,_⟩ u hu; simp at hu; subst hu; rfl
 mono:=by rintro _ _ _ _ _ _ m ⟨a,c,rfl,h⟩; exact ⟨a,c,rfl,h.m0 m⟩
def Fx (fr:Nat × Nat) (n:Nat):Prop:=fr.2≤fr.1∨n≤fr.1
def Row (w:World) (b:Nat) (cells:Array Value) (E:Nat):Prop:=∃ fr,w.heap[b]?=some (.cells cells E fr)∧Fx fr cells.size
theorem Row.zero {w:World} {b:Nat} {cells:Array Value} {E:Nat} (h:w.heap[b]?=some (.cells cells E (0,0))):Row w b cells E:=⟨(0,0),h,.inl (Nat.le_refl _)⟩
theorem Row.same {w w':World} {b:Nat} {cells:Array Value} {E:Nat} (h:Row w b cells E) (k:w'.heap[b]?=w.heap[b]?):Row w' b cells E:=by obtain ⟨fr,h1,h2⟩:=h; exact ⟨fr,k.trans h1,h2⟩
theorem Row.set {w:World} {b:Nat} {cells mu:Array Value} {E:Nat} (h:Row w b cells E) (hs:mu.size=cells.size):Row (w.setRow b mu) b mu E:=by obtain ⟨fr,h1,h2⟩:=h; exact ⟨fr,setRow_heap w b cells _ E _ h1,hs ▸ h2⟩
theorem Row.lt {w:World} {b:Nat} {cells:Array Value} {E:Nat} (h:Row w b cells E):b < w.heap.size:=by obtain ⟨fr,h1,h2⟩:=h; exact cQ h1
theorem dx (P:Program) (g o:Nat) (t:TypeId) (fz:Nat × Nat):∀ (vs:List Value) (i:Nat) (cur:Array Value) (w:World),w.heap[g]?=some (.cells cur t fz)→Fx fz cur.size→o+i+vs.length≤cur.size→(∀ v∈vs,v.oneCell'=true) →
  (storeCells ⟨g,o,none⟩ vs i).run P w=.ok () (w.setRow g (cur.toList.take (o+i)++vs++cur.toList.drop (o+i+vs.length)).toArray)
 | [],i,cur,w,hg,_,_,_=>by
  simp only [storeCells,List.append_nil,List.length_nil,Nat.add_zero,List.take_append_drop,Array.toArray_toList]
  rw [setRow_self w g cur t fz hg]
  rfl
 | v :: rest,i,cur,w,hg,BZ,hl,h1=>by
  have hi:o+i < cur.size:=by simp at hl; omega
  have Ai:(⟨g,o,none⟩:Addr).add i=⟨g,o+i,none⟩:=by unfold Addr.add; split <;> simp_all
  have jc:w.cell? ⟨g,o+i,none⟩=some cur[o+i]:=by simp [World.cell?,hg,hi]
  have Uv:w.frozen? ⟨g,o+i,none⟩=false:=by
   obtain ⟨lo,wC⟩:=fz
   simp only [World.frozen?,hg,Bool.and_eq_false_iff,decide_eq_false_iff_not]
   unfold Fx at BZ
   simp only at BZ
   omega
  have gP:(store ((⟨g,o,none⟩:Addr).add i) v).run P w=.ok () (w.setRow g (cur.setIfInBounds (o+i) v)):=by
   rw [Ai,run_store P w _ v _ (h1 v (by simp)),jc]
   simp [Uv,setCell_eq_setRow w g (o+i) cur t fz v hg]
  have ih:=dx P g o t fz rest (i+1) (cur.setIfInBounds (o+i) v) (w.setRow g (cur.setIfInBounds (o+i) v)) (setRow_heap w g cur _ t _ hg) (by simpa using BZ) (by simp at hl ⊢; omega) (fun x hx=>h1 x (by simp [hx]))
  simp only [storeCells,Sem.run_bind,gP,Result.andThen_ok,ih,setRow_setRow]
  congr 3
  have e:=list_seg_step cur.toList (o+i) v rest (by simp at hl ⊢; omega)
  simpa [Array.toList_setIfInBounds,Nat.add_assoc] using e
structure OS {α:Type} (T:ct α) (E:Nat) (w:World) (χ:Nat→Nat) (col:Nat) (a:Option Addr) (xs:List α) (c:Nat):Prop where
 bnd:xs.length * T.bytes≤140737488355328
 row:(a=none∧xs=[]∧c=0)∨∃ b cells,a=some ⟨b,0,none⟩∧χ b=col∧Row w b cells E∧xs.length≤c∧c≤maxLen∧cells.size=c * T.n ∧
  ∀ (i:Nat) (x:α),xs[i]?=some x→T.R w χ (chunk cells 0 T.n i) x
theorem OS.nil {α:Type} (T:ct α) (E:Nat) (w:World) (χ:Nat→Nat) (col:Nat):OS T E w χ col none [] 0:=⟨by simp,.inl ⟨rfl,rfl,rfl⟩⟩
theorem OS.sm {α:Type} {T:ct α} {E:Nat} {w:World} {χ:Nat→Nat} {col:Nat} {a:Option Addr} {xs:List α} {c:Nat} (h:OS T E w χ col a xs c) (hb:Nat.ble 1 T.bytes=true):Sv.sm xs:=by
 have h1:=h.bnd
 have h2:=Nat.mul_le_mul_left xs.length (Nat.le_of_ble_eq_true hb)
 unfold Sv.sm
 omega
theorem OS.rs0 {α:Type} {T:ct α} {E:Nat} {w:World} {χ:Nat→Nat} {a:Option Addr} {xs:List α} {c:Nat} (h:OS T E w χ 0 a xs c):RS T w χ a xs c:=by
 rcases h.row with ⟨rfl,rfl,rfl⟩ | ⟨b,cells,rfl,hc,hh,hle,hcm,gB,gd⟩
 ·exact RS.empty T w χ
 ·obtain ⟨fr,hh,_⟩:=hh; exact ⟨hle,h.bnd,(by intro e; cases e),fun _=>⟨b,0,cells,E,fr,rfl,hc,hh,gd⟩⟩
theorem room {len b:Nat} (h:len≤1099511627776) (hb:Nat.ble b 128=true):len * b≤140737488355328:=by
 have h1:=Nat.mul_le_mul h (Nat.le_of_ble_eq_true hb)
 omega
theorem OS.mv {α:Type} {T:ct α} {E:Nat} {w w':World} {χ χ':Nat→Nat} {col:Nat} {a:Option Addr} {xs:List α} {c:Nat} {p:Nat→Bool} (h:OS T E w χ col a xs c) (e:Ev p w χ w' χ') (hp:p col=false) (h0:p 0=false):OS T E w' χ' col a xs c:=by
 refine ⟨h.bnd,?_⟩
 rcases h.row with h | ⟨b,cells,h1,h2,h3,h4,h5,h6,h7⟩
 ·exact .inl h
 ·obtain ⟨k1,k2⟩:=e.bW b h3.lt (by rw [h2]; exact hp)
  exact .inr ⟨b,cells,h1,k2.trans h2,h3.same k1,h4,h5,h6,fun i x hx=>T.mono (e.m0 h0) (h7 i x hx)⟩
structure Old (w0:World) (χc:Nat→Nat) (w:World) (χ:Nat→Nat):Prop where
 os:w.os=w0.os
 tape:w.tape=w0.tape
 output:w.output=w0.output
 size:w0.heap.size≤w.heap.size
 bW:∀ b,b < w0.heap.size→w.heap[b]?=w0.heap[b]?∧χ b=if χc b=0 then 0 else 1000
theorem Old.mv {p:Nat→Bool} {w0 w w':World} {χc χ χ':Nat→Nat} (h:Old w0 χc w χ) (e:Ev p w χ w' χ') (h0:p 0=false) (h1:p 1000=false):Old w0 χc w' χ' :=
 ⟨e.os.trans h.os,e.tape.trans h.tape,e.output.trans h.output,Nat.le_trans h.size e.size,fun b hb=>by
  obtain ⟨k1,k2⟩:=h.bW b hb
  have:p (χ b)=false:=by rw [k2]; split <;> assumption
  obtain ⟨l1,l2⟩:=e.bW b (Nat.lt_of_lt_of_le hb h.size) this
  exact ⟨l1.trans k1,l2.trans k2⟩⟩
def lO (χc:Nat→Nat) (b:Nat):Nat:=if χc b=0 then 0 else 1000
theorem Old.start (w:World) (χc:Nat→Nat):Old w χc w (lO χc):=⟨rfl,rfl,rfl,Nat.le_refl _,fun _ _=>⟨rfl,rfl⟩⟩
theorem M0.start (w:World) (χc:Nat→Nat):M0 w χc w (lO χc):=⟨Nat.le_refl _,fun b _ h=>⟨rfl,by simp [lO,h]⟩⟩
theorem Old.leave {w0 w:World} {χc χ:Nat→Nat} (h:Old w0 χc w χ) (f:Nat→Nat) (h0:f 0=0):∃ χ',Ev aB w0 χc w χ'∧M0 w χ w χ'∧(∀ b,χ b≠0→χ b≠1000→χ' b=f (χ b)):=by
 refine ⟨fun b=>if b < w0.heap.size then χc b else f (χ b),⟨h.os,h.tape,h.output,h.size,fun b hb _=>⟨(h.bW b hb).1,by simp [hb]⟩⟩,⟨Nat.le_refl _,fun b _ hz=>⟨rfl,?_⟩⟩,?_⟩
 ·show (if b < w0.heap.size then χc b else f (χ b))=0
  split
  ·rename_i hb
   have:=(h.bW b hb).2
   rw [hz] at this
   split at this
   ·assumption
   ·omega
  ·rw [hz,h0]
 ·intro b hb hb1
  have:¬ b < w0.heap.size:=by
   intro eS
   have:=(h.bW b eS).2
   split at this
   ·exact hb this
   ·exact hb1 this
  simp [this]
def Ret (P:Program) (f:FuncId) (vals:Array Value) (p:Nat→Bool) (w:World) (χ:Nat→Nat) (post:World→(Nat→Nat)→Value→Prop):Prop :=
 Calls P f vals w fun e w'=>∃ v χ',e=.returned v∧Ev p w χ w' χ'∧post w' χ' v
theorem Ret.mono {P:Program} {f:FuncId} {vals:Array Value} {p:Nat→Bool} {w:World} {χ:Nat→Nat} {post J2:World→(Nat→Nat)→Value→Prop} (h:Ret P f vals p w χ post)
  (k:∀ w' χ' v,Ev p w χ w' χ'→post w' χ' v→J2 w' χ' v):Ret P f vals p w χ J2 :=
 Calls.mono h fun _ _ ⟨v,χ',h1,h2,h3⟩=>⟨v,χ',h1,h2,k _ _ _ h2 h3⟩
def tK:Nat→List Value→List (Nat × SV)
 | _,[]=>[]
 | i,v :: l=>(i,V v) :: tK (i+1) l
theorem nX:∀ (l:List Value) (i t:Nat) (sv:SV),look (tK i l) t=some sv→∃ v,sv=V v∧i≤t∧l[t - i]?=some v
 | [],_,_,_,h=>by cases h
 | x :: l,i,t,sv,h=>by
  rcases dv h with ⟨rfl,rfl⟩ | ⟨hne,h'⟩
  ·exact ⟨x,rfl,Nat.le_refl _,by simp⟩
  ·obtain ⟨v,h1,h2,h3⟩:=nX l (i+1) t sv h'
   refine ⟨v,h1,by omega,?_⟩
   rw [show t - i=(t - (i+1))+1 by omega]
   simpa using h3
section
variable {P:Program}
theorem enter {f:FuncId} {F:Func} {c:Code} (hf:P.funcs[f]?=some F) (hb:F.body=some c) {vals:List Value} {w:World} {χ:Nat→Nat} {post:World→(Nat→Nat)→Value→Prop}
  (hn:Nat.ble vals.length F.ntmps=true)
  (k:∀ ρ a,St F.ntmps ⟨tK 0 vals,[]⟩ ρ a w (lO χ)→Old w χ w (lO χ)→M0 w χ w (lO χ) →
   c.wp P (qs (fun a' w'=>bodyPost P F (fun e sA=>∃ v χ',e=.returned v∧Ev aB w χ sA χ'∧post sA χ' v) .ret a' w') (fun a' w'=>bodyPost P F (fun e sA=>∃ v χ',e=.returned v∧Ev aB w χ sA χ'∧post sA χ' v) .ret a' w') []) a w) :
  Ret P f vals.toArray aB w χ post:=by
 unfold Ret
 refine calls_of_wp hf hb ?_
 have hle:=Nat.le_of_ble_eq_true hn
 refine wp_mono (k (fun _=>0) { tmps:=vals.toArray++Array.replicate (F.ntmps - vals.toArray.size) undef,defers:=[] } ⟨by simp; omega,rfl,?_,fun id q h=>by cases h⟩ (Old.start w χ) (M0.start w χ)) ?_
 ·intro t sv h
  obtain ⟨v,rfl,_,h3⟩:=nX _ _ _ _ h
  have eS:=(List.getElem?_eq_some_iff.1 h3).1
  simp only [Nat.sub_zero] at h3 eS
  rw [Array.getElem?_append_left (by simpa using eS)]
  simpa [bj,cM] using h3
 ·intro e a w q
  cases e with
  | normal=>exact q
  | ret=>exact q
  | exit id=>exact absurd q (by simp [qs,look])
  | _=>exact q.elim
def vP (tab:Tab) (sy:Sy) (ρ:Nat→Nat):List ResultVar→Option (List Value)
 | []=>some []
 | .tmp t :: l=>match look sy.bc t,vP tab sy ρ l with
  | some v,some r=>some (bj ρ v :: r)
  | _,_=>none
 | .cell t ty :: l =>
  match look sy.bc t,vP tab sy ρ l,look tab ty with
  | some (.s (.p id off)),some r,some Hs =>
   match look sy.boxes id with
   | some (_,cs) =>
    bif Hs.agg then
     (bif Nat.ble (off+Hs.size) cs.length then
      (match plain ((cs.drop off).take Hs.size) with
       | some vs=>some (.agg vs.toArray :: r)
       | none=>none)
      else none)
    else (match cs[off]? with | some v=>some (bj ρ v :: r) | none=>none)
   | none=>none
  | _,_,_=>none
def one (l:List Value):Value:=match l with | [v]=>v | l=>.tuple l.toArray
def rv (tmps:Array Value):ResultVar→Sem Value
 | .tmp t=>pure (tmps.getD t undef)
 | .cell b t=>do loadVar t (← asAddr (tmps.getD b undef))
theorem ow (F:Func) (tmps:Array Value):results F tmps=(do let vs ← F.results.mapM (rv tmps); pure (if h:vs.size=1 then vs[0] else .tuple vs)):=by
 unfold results
 congr 1
theorem mT {tab:Tab} (T:bh P tab) {n:Nat} {sy:Sy} {ρ:Nat→Nat} {a:Act} {w:World} {χ:Nat→Nat} (h:St n sy ρ a w χ):∀ (l:List ResultVar) (r:List Value),vP tab sy ρ l=some r →
  (l.mapM (rv a.tmps)).run P w=.ok r w
 | [],r,e=>by simp [vP] at e; subst e; rfl
 | .tmp t :: l,r,e=>by
  simp only [vP] at e
  split at e
  ·rename_i v q hv hq
   simp at e; subst e
   have hg:=h.bc _ _ hv
   have ih:=mT T h l q hq
   simp only [List.mapM_cons,Sem.run_bind,Sem.run_pure,Result.andThen_ok,ih,rv]
   simp [hg]
  ·cases e
 | .cell t ty :: l,r,e=>by
  simp only [vP] at e
  split at e
  ·rename_i id off q Hs hv hq ht
   have hg:=h.bc _ _ hv
   have ih:=mT T h l q hq
   have lL:a.tmps.getD t undef=.pointer (some ⟨ρ id,off,none⟩):=by simp [hg,bj,cM]
   split at e
   ·rename_i bt cs hb
    obtain ⟨i,d,z,hi,hd,hz,hs,jz,iS,fG,_⟩:=bl (T _ _ ht)
    obtain ⟨_,_,jH⟩:=h.boxes _ _ hb
    cases ha:Hs.agg with
    | true =>
     simp only [ha,cond_true] at e
     cases hle:Nat.ble (off+Hs.size) cs.length with
     | false=>simp [hle] at e
     | true =>
      simp only [hle,cond_true] at e
      split at e
      ·rename_i vs hp
       simp at e; subst e
       have Ad:=oz hp
       have:=iu (P:=P) (w:=w) (off:=off) hi hd (by rw [← fG,ha]) jH (by simp [hs]; exact Nat.le_of_ble_eq_true hle)
       rw [← List.map_drop,← List.map_take,hs,Ad,ky] at this
       simp only [List.mapM_cons,Sem.run_bind,Sem.run_pure,Result.andThen_ok,ih,rv,lL,asAddr,this]
      ·cases e
    | false =>
     simp only [ha,cond_false] at e
     split at e
     ·rename_i v Du
      simp at e; subst e
      have:=ir (P:=P) (w:=w) (off:=off) (v:=bj ρ v) hd (by rw [← fG,ha]) jH (by simp [Du])
      simp only [List.mapM_cons,Sem.run_bind,Sem.run_pure,Result.andThen_ok,ih,rv,lL,asAddr,this]
     ·cases e
   ·cases e
  ·cases e
theorem m7 {tab:Tab} (T:bh P tab) {F:Func} {n:Nat} {sy:Sy} {ρ:Nat→Nat} {a:Act} {w:World} {χ:Nat→Nat} {R:Ending→World→Prop} (h:St n sy ρ a w χ) {r:List Value} (e:vP tab sy ρ F.results.toList=some r)
  (hR:R (.returned (one r)) w):bodyPost P F R .ret a w:=by
 refine ⟨h.defers,one r,?_,hR⟩
 have:=mT (P:=P) T h _ _ e
 rw [ow]
 rw [Array.mapM_eq_mapM_toList,Sem.run_bind,Sem.run_map,this]
 simp only [Result.andThen_ok,Sem.run_pure]
 congr 1
 match r with
 | []=>rfl
 | [v]=>rfl
 | v :: u :: l=>simp [one]
theorem fin {tab:Tab} (T:bh P tab) {F:Func} {n:Nat} {sy:Sy} {ρ:Nat→Nat} {a:Act} {w0 w:World} {χc χ:Nat→Nat} {post:World→(Nat→Nat)→Value→Prop} (h:St n sy ρ a w χ) (hO:Old w0 χc w χ) (f:Nat→Nat) (h0:f 0=0) {r:List Value} (e:vP tab sy ρ F.results.toList=some r)
  (hp:∀ χ',M0 w χ w χ'→(∀ b,χ b≠0→χ b≠1000→χ' b=f (χ b))→post w χ' (one r)):bodyPost P F (fun e sA=>∃ v χ',e=.returned v∧Ev aB w0 χc sA χ'∧post sA χ' v) .ret a w:=by
 obtain ⟨χ',h1,h2,h3⟩:=hO.leave f h0
 exact m7 T h e ⟨_,χ',rfl,h1,hp χ' h2 h3⟩
def bK (all:List Oper) (sy:Sy):Option (Nat × Bool)→Bool
 | none=>true
 | some (j,want)=>match pV all j with
  | some tc=>match look sy.bc tc with
   | some (.s (.v (.bool b)))=>b == want
   | _=>false
  | none=>false
section ops
variable {tab:Tab} {n:Nat} {sy:Sy} {ρ:Nat→Nat} {a:Act} {w:World} {χ:Nat→Nat} {all:List Oper} {Q:Exit→Act→World→Prop} {K:Act→World→Prop}
variable {d ty:Nat} {pos:String} {af:Array Edge} {g:Option (Nat × Bool)}
theorem dE (h:St n sy ρ a w χ) {o:Oper} (hw:bK all sy o.guard=true):Region.wanted o (yielded all.toArray a.tmps)=true:=by
 cases hg:o.guard with
 | none=>simp [Region.wanted,hg]
 | some q =>
  obtain ⟨j,want⟩:=q
  rw [hg] at hw
  simp only [bK] at hw
  split at hw
  ·rename_i tc ht
   split at hw
   ·rename_i b hl
    exact (mQ h hg ht hl).trans hw
   ·cases hw
  ·cases hw
def wp1 (P:Program) (ops:Array Oper) (Q:Exit→Act→World→Prop) (o:Oper) (K:Act→World→Prop) (a:Act) (w:World):Prop :=
 if Region.wanted o (yielded ops a.tmps) then o.wp P a w K Q∨(o.asks P a w∧LetsOut Q) else K (a.put o.dst undef) w
theorem op1 {ops:Array Oper} {o:Oper} {rest:List Oper} (h:wp1 P ops Q o (wpList P ops Q rest) a w):wpList P ops Q (o :: rest) a w:=by
 unfold wpList; exact h
theorem gR {ops:Array Oper} {o:Oper} (hw:Region.wanted o (yielded ops a.tmps)=true) (h:o.wp P a w K Q):wp1 P ops Q o K a w:=by
 unfold wp1; rw [if_pos hw]; exact .inl h
theorem fU (h:St n sy ρ a w χ) {op:Op} (hw:bK all sy g=true) (hd:Nat.blt d n=true) {v:Value} {w':World} {χ':Nat→Nat} {p:Nat→Bool} (ev:Ev p w χ w' χ') (hp:∀ c,ia c=true→p c=false)
  (jZ:(execOp a.eval ⟨some d,op,ty,pos,af,g⟩).run P w=.ok (.value v) w')
  (k:∀ a',St n ⟨(d,V v) :: sy.bc,sy.boxes⟩ ρ a' w' χ'→K a' w'):wp1 P all.toArray Q ⟨some d,op,ty,pos,af,g⟩ K a w:=by
 refine gR (dE h (o:=⟨some d,op,ty,pos,af,g⟩) hw) ?_
 unfold Oper.wp
 rw [jZ]
 simp only [Oper.upon]
 exact k _ ((h.ev ev hp).put (sv:=V v) (Nat.le_of_ble_eq_true hd))
def jv (sy:Sy) (ρ:Nat→Nat) (l:List Operand):Option (List Value) :=
 match evs sy l with
 | some r=>some (r.map (bj ρ))
 | none=>none
theorem kZ (h:St n sy ρ a w χ) {as:List Operand} {vals:List Value} (e:jv sy ρ as=some vals):as.map a.eval=vals:=by
 unfold jv at e
 cases hr:evs sy as with
 | none=>simp [hr] at e
 | some r=>simp [hr] at e; rw [h.evs hr,e]
def aD (P:Program) (f:Nat):Bool:=match P.funcs[f]? with | some fn=>fn.body.isSome && !(fn.name == "runtime.NumGoroutine") | none=>false
theorem gj {f:Nat} (hb:aD P f=true) (vals:Array Value):(callFunc f vals).run P w=.ok (.enter f vals) w:=by
 unfold aD at hb
 split at hb
 ·rename_i fn hf
  simp only [Bool.and_eq_true,Bool.not_eq_true'] at hb
  have h2:¬ fn.name = "runtime.NumGoroutine" := by simpa using hb.2
  have h1:¬ fn.body=none:=by intro e; rw [e] at hb; simp at hb
  simp [callFunc,hf,h1,h2]
 ·cases hb
theorem jQ (h:St n sy ρ a w χ) {op:Op} {od:Option Nat} (hw:bK all sy g=true) {f:Nat} {vals:Array Value} {w1:World} (jZ:(execOp a.eval ⟨od,op,ty,pos,af,g⟩).run P w=.ok (.enter f vals) w1)
  {p:Nat→Bool} {post:World→(Nat→Nat)→Value→Prop} {χ1:Nat→Nat} (hc:Ret P f vals p w1 χ1 post)
  (k:∀ v w' χ',Ev p w1 χ1 w' χ'→post w' χ' v→K (a.put od v) w'):wp1 P all.toArray Q ⟨od,op,ty,pos,af,g⟩ K a w:=by
 refine gR (dE h (o:=⟨od,op,ty,pos,af,g⟩) hw) ?_
 unfold Oper.wp
 rw [jZ]
 simp only [Oper.upon]
 refine Calls.mono hc ?_
 rintro e w' ⟨v,χ',rfl,h2,h3⟩
 exact k v w' χ' h2 h3
theorem call {f:Nat} {as:Array Operand} {lR:Array TypeId} {vals:List Value} {p:Nat→Bool} {post:World→(Nat→Nat)→Value→Prop} (h:St n sy ρ a w χ) (hw:bK all sy g=true) (hd:Nat.blt d n=true) (hb:aD P f=true)
  (hv:jv sy ρ as.toList=some vals) (hp:∀ c,ia c=true→p c=false) (hc:Ret P f vals.toArray p w χ post)
  (k:∀ v a' w' χ',Ev p w χ w' χ'→post w' χ' v→St n ⟨(d,V v) :: sy.bc,sy.boxes⟩ ρ a' w' χ'→K a' w') :
  wp1 P all.toArray Q ⟨some d,.call ⟨.value (.func f),as,lR⟩,ty,pos,af,g⟩ K a w:=by
 refine jQ h hw (f:=f) (vals:=vals.toArray) (w1:=w) ?_ hc ?_
 ·have:as.map a.eval=vals.toArray:=by rw [← kZ h hv,← Array.toList_map]
  simp [execOp,resolve,Act.eval,Deferred.ofValue,invoke,this,gj hb]
 ·intro v w' χ' h2 h3
  exact k v _ w' χ' h2 h3 ((h.ev h2 hp).put (sv:=V v) (Nat.le_of_ble_eq_true hd))
theorem GR {f t:Nat} {as:Array Operand} {lR:Array TypeId} {fi cp:List S0} {vals:List Value} {p:Nat→Bool} {post:World→(Nat→Nat)→Value→Prop} (h:St n sy ρ a w χ) (hw:bK all sy g=true) (hd:Nat.blt d n=true) (hb:aD P f=true)
  (hf:look sy.bc t=some (.f (.func f) fi cp)) (hv:(match jv sy ρ as.toList with | some r=>some (fi.map (cM ρ)++r++cp.map (cM ρ)) | none=>none)=some vals) (hp:∀ c,ia c=true→p c=false) (hc:Ret P f vals.toArray p w χ post)
  (k:∀ v a' w' χ',Ev p w χ w' χ'→post w' χ' v→St n ⟨(d,V v) :: sy.bc,sy.boxes⟩ ρ a' w' χ'→K a' w') :
  wp1 P all.toArray Q ⟨some d,.call ⟨.value (.tmp t),as,lR⟩,ty,pos,af,g⟩ K a w:=by
 refine jQ h hw (f:=f) (vals:=vals.toArray) (w1:=w) ?_ hc ?_
 ·cases hr:jv sy ρ as.toList with
  | none=>simp [hr] at hv
  | some r =>
   simp [hr] at hv
   have h1:as.map a.eval=r.toArray:=by rw [← kZ h hr,← Array.toList_map]
   have h2:a.eval (.tmp t)=.func (.func f) (fi.map (cM ρ)).toArray (cp.map (cM ρ)).toArray:=h.evo (x:=.tmp t) hf
   subst hv
   simp [execOp,resolve,h2,Deferred.ofValue,invoke,h1,gj hb]
 ·intro v w' χ' h2 h3
  exact k v _ w' χ' h2 h3 ((h.ev h2 hp).put (sv:=V v) (Nat.le_of_ble_eq_true hd))
def At {α:Type} (T:ct α) (w:World) (χ:Nat→Nat) (A:Addr) (x:α):Prop :=
 ∃ b o cells e fr,A=⟨b,o,none⟩∧χ b=0∧w.heap[b]?=some (.cells cells e fr)∧T.R w χ ((cells.toList.drop o).take T.n) x
theorem At.mv {α:Type} {T:ct α} {w':World} {χ':Nat→Nat} {A:Addr} {x:α} {p:Nat→Bool} (h:At T w χ A x) (e:Ev p w χ w' χ') (hp:p 0=false):At T w' χ' A x:=by
 obtain ⟨b,o,cells,e',fr,rfl,h2,h3,h4⟩:=h
 obtain ⟨k1,k2⟩:=(e.m0 hp).bW b (cQ h3) h2
 exact ⟨b,o,cells,e',fr,rfl,k2,k1.trans h3,T.mono (e.m0 hp) h4⟩
def gi {α:Type} [Inhabited α] (xs:List α) (i:Int):α:=xs.getD i.toNat default
theorem si {α:Type} [Inhabited α] {xs:List α} {i:Int} (h0:0≤i) (h1:i < xs.length):xs[i.toNat]?=some (gi xs i):=by
 have:i.toNat < xs.length:=by omega
 simp [gi,List.getD_eq_getElem?_getD,this]
def rK (tab:Tab) (t e:Nat):Bool:=match look tab t with | some ⟨_,_,_,_,.slice e'⟩=>Nat.beq e' e | _=>false
def ql (tab:Tab) (t m:Nat):Bool:=match look tab t with | some s=>Nat.beq s.size m | none=>false
theorem kA (T:bh P tab) {t e:Nat} (h:rK tab t e=true):P.underlying t=some (.slice e):=by
 unfold rK at h
 split at h
 ·rename_i ht
  obtain ⟨i,d,z,hi,hd,hz,hs,jz,iS,fG,_,_,_,Ki,_⟩:=bl (T _ _ ht)
  rw [hd,Ki _ rfl,Nat.eq_of_beq_eq_true h]
 ·cases h
theorem kh (T:bh P tab) {t m:Nat} (h:ql tab t m=true):∃ i,P.info? t=some i∧i.size=m:=by
 unfold ql at h
 split at h
 ·rename_i s ht
  obtain ⟨i,d,z,hi,hd,hz,hs,_⟩:=bl (T _ _ ht)
  exact ⟨i,hi,hs.trans (Nat.eq_of_beq_eq_true h)⟩
 ·cases h
theorem kM {t e m:Nat} {ad:Option Addr} {b o len c:Nat} {k:IntKind} {i:Int} (hu:P.underlying t=some (.slice e)) {inf:TypeInfo} (hi:P.info? e=some inf) (hm:inf.size=m) (sh:ad=some ⟨b,o,none⟩) (h0:0≤i) (h1:i < len) :
  (Instr.indexAt t (.slice ad len c) (.int k i)).run P w=.ok (.pointer (some ⟨b,o+i.toNat * m,none⟩)) w:=by
 subst sh
 simp [Instr.indexAt,run_underlying hu,asIntOf,h0,h1,run_sizeOf hi,hm,Addr.add_lit]
theorem index {α:Type} [Inhabited α] {T:ct α} (TT:bh P tab) {t e:Nat} {x y:Operand} {ad:Option Addr} {xs:List α} {c:Nat} {k:IntKind} {i:Int} (h:St n sy ρ a w χ) (hw:bK all sy g=true) (hd:Nat.blt d n=true)
  (hx:evo sy x=some (V (.slice ad xs.length c))) (hy:evo sy y=some (V (.int k i))) (hR:RS T w χ ad xs c) (ht:rK tab t e=true) (hs:ql tab e T.n=true) (h0:0≤i) (h1:i < xs.length)
  (kk:∀ A a',At T w χ A (gi xs i)→St n ⟨(d,V (.pointer (some A))) :: sy.bc,sy.boxes⟩ ρ a' w χ→K a' w) :
  wp1 P all.toArray Q ⟨some d,.indexAddr t x y,ty,pos,af,g⟩ K a w:=by
 have hne:xs≠[]:=by intro e; subst e; simp at h1; omega
 obtain ⟨b,o,cells,e',fr,sh,oL,hh,gd⟩:=hR.cells hne
 obtain ⟨inf,hi,hm⟩:=kh TT hs
 have hr:=kM (P:=P) (w:=w) (c:=c) (k:=k) (kA TT ht) hi hm sh h0 h1
 refine fU h hw hd (Ev.refl aB w χ) (fun _ _=>rfl) (v:=.pointer (some ⟨b,o+i.toNat * T.n,none⟩)) (w':=w) ?_ (fun a' h'=>kk _ a' ⟨b,o+i.toNat * T.n,cells,e',fr,rfl,oL,hh,gd _ _ (si h0 h1)⟩ h')
 have ex:a.eval x=.slice ad xs.length c:=h.evo hx
 have ey:a.eval y=.int k i:=h.evo hy
 simp [execOp,ex,ey,hr]
def ry (tab:Tab) (t:Nat) (b:Bool):Bool:=match look tab t with | some s=>s.agg == b | none=>false
theorem nI (T:bh P tab) {t:Nat} {b:Bool} (h:ry tab t b=true):∃ d,P.underlying t=some d∧isA d=b:=by
 unfold ry at h
 split at h
 ·rename_i s ht
  obtain ⟨i,d,z,hi,hd,hz,hs,jz,iS,fG,_⟩:=bl (T _ _ ht)
  exact ⟨d,hd,by rw [← fG]; simpa using h⟩
 ·cases h
theorem fc {α:Type} {T:ct α} (TT:bh P tab) {t s:Nat} {A:Addr} {x:α} (h:St n sy ρ a w χ) (hw:bK all sy g=true) (hd:Nat.blt d n=true) (hs:look sy.bc s=some (V (.pointer (some A)))) (hA:At T w χ A x) (hn:T.n=1)
  (ht:ry tab t false=true) (k:∀ v a',T.R w χ [v] x→St n ⟨(d,V v) :: sy.bc,sy.boxes⟩ ρ a' w χ→K a' w) :
  wp1 P all.toArray Q ⟨some d,.load t (.tmp s),ty,pos,af,g⟩ K a w:=by
 obtain ⟨b,o,cells,e',fr,rfl,oL,hh,gd⟩:=hA
 obtain ⟨dd,o0,Dp⟩:=nI TT ht
 have hlen:=T.len gd
 rw [hn] at hlen gd
 match hl:(cells.toList.drop o).take 1,hlen with
 | [v],_ =>
  rw [hl] at gd
  have jc:w.cell? ⟨b,o,none⟩=some v:=by
   have:(cells.toList.drop o)[0]?=some v:=by
    have:=congrArg (fun l=>l[0]?) hl
    simpa [List.getElem?_take] using this
   simp only [World.cell?,hh]
   simpa using this
  refine fU h hw hd (Ev.refl aB w χ) (fun _ _=>rfl) (v:=v) (w':=w) ?_ (fun a' h'=>k v a' gd h')
  have es:a.eval (.tmp s)=.pointer (some ⟨b,o,none⟩):=h.evo (x:=.tmp s) hs
  simp [execOp,es,Instr.loadAt,Instr.sureAddr,loadVar,fh o0,Dp,jc]
theorem lJ {α:Type} {T:ct α} (TT:bh P tab) {t s:Nat} {A:Addr} {x:α} (h:St n sy ρ a w χ) (hw:bK all sy g=true) (hd:Nat.blt d n=true) (hs:look sy.bc s=some (V (.pointer (some A)))) (hA:At T w χ A x)
  (ht:ry tab t true=true) (gB:ql tab t T.n=true) (k:∀ cs a',T.R w χ cs x→St n ⟨(d,V (.agg cs.toArray)) :: sy.bc,sy.boxes⟩ ρ a' w χ→K a' w) :
  wp1 P all.toArray Q ⟨some d,.load t (.tmp s),ty,pos,af,g⟩ K a w:=by
 obtain ⟨b,o,cells,e',fr,rfl,oL,hh,gd⟩:=hA
 obtain ⟨dd,o0,Dp⟩:=nI TT ht
 obtain ⟨inf,hi,hm⟩:=kh TT gB
 have hlen:=T.len gd
 refine fU h hw hd (Ev.refl aB w χ) (fun _ _=>rfl) (v:=.agg ((cells.toList.drop o).take T.n).toArray) (w':=w) ?_ (fun a' h'=>k _ a' gd h')
 have es:a.eval (.tmp s)=.pointer (some ⟨b,o,none⟩):=h.evo (x:=.tmp s) hs
 have hl:=run_loadCells_list (P:=P) w ⟨b,o,none⟩ ((cells.toList.drop o).take T.n) (fun j v hj=>by
  rw [Addr.add_lit]
  simp only [World.cell?,hh]
  rw [List.getElem?_take] at hj
  split at hj
  ·simpa [Nat.add_comm] using hj
  ·cases hj)
 rw [hlen] at hl
 simp [execOp,es,Instr.loadAt,Instr.sureAddr,loadVar,fh o0,Dp,run_sizeOf hi,hm,hl]
theorem wE {α β:Type} {T:ct α} {TF:ct β} (TT:bh P tab) {t s f off fsz ft:Nat} {A:Addr} {x:α} {y:β} (h:St n sy ρ a w χ) (hw:bK all sy g=true) (hd:Nat.blt d n=true) (hs:look sy.bc s=some (V (.pointer (some A)))) (hA:At T w χ A x)
  (ht:(match look tab t with | some ⟨_,_,_,_,.struct fs⟩=>fs[f]? | _=>none)=some (off,fsz,ft)) (gB:Nat.beq fsz TF.n=true) (hle:Nat.ble (off+TF.n) T.n=true) (hF:∀ cs,T.R w χ cs x→TF.R w χ ((cs.drop off).take TF.n) y)
  (k:∀ A' a',At TF w χ A' y→St n ⟨(d,V (.pointer (some A'))) :: sy.bc,sy.boxes⟩ ρ a' w χ→K a' w) :
  wp1 P all.toArray Q ⟨some d,.fieldAddr t (.tmp s) f,ty,pos,af,g⟩ K a w:=by
 obtain ⟨b,o,cells,e',fr,rfl,oL,hh,gd⟩:=hA
 have es:a.eval (.tmp s)=.pointer (some ⟨b,o,none⟩):=h.evo (x:=.tmp s) hs
 split at ht
 ·rename_i fs oJ
  obtain ⟨i,dd,z,hi,o0,hz,Oh,jz,iS,fG,gP,_⟩:=bl (TT _ _ oJ)
  obtain ⟨l,rfl,hm⟩:=gP _ rfl
  obtain ⟨fd,sg,tz⟩:=ja hm f _ ht
  simp only [Option.map_eq_some_iff,Prod.mk.injEq] at tz
  obtain ⟨j,hj,rfl,rfl,rfl⟩:=tz
  have Up:=Nat.eq_of_beq_eq_true gB
  have hne:¬ j.size=0:=by have:=TF.pos; omega
  have PY:=Nat.le_of_ble_eq_true hle
  simp only [Array.getElem?_toList] at sg
  refine fU h hw hd (Ev.refl aB w χ) (fun _ _=>rfl) (v:=.pointer (some ⟨b,o+fd.offset,none⟩)) (w':=w) ?_ (fun a' h'=>k _ a' ⟨b,o+fd.offset,cells,e',fr,rfl,oL,hh,?_⟩ h')
  ·simp [execOp,es,Instr.fieldAt,run_underlying o0,sg,Instr.sureAddr,fieldPlace,run_sizeOf hj,hne,Addr.add_lit]
  ·have:=hF _ gd
   rw [List.drop_take,List.take_take,List.drop_drop,Nat.min_eq_left (by omega)] at this
   exact this
 ·cases ht
theorem oQ {cells:Array Value} {L m i:Nat} {cs:List Value} (h:cells.toList.take L=cs) (hi:(i+1) * m≤L):chunk cells 0 m i=(cs.drop (i * m)).take m:=by
 subst h
 unfold chunk
 rw [List.drop_take,List.take_take,Nat.zero_add]
 congr 1
 rw [Nat.add_mul] at hi
 omega
theorem dR {i len m:Nat} (h:i < len):(i+1) * m≤len * m:=Nat.mul_le_mul_right m h
structure Src {α:Type} (T:ct α) (w:World) (χ:Nat→Nat) (ad:Option Addr) (ys:List α) (c:Nat) (news:List Value):Prop where
 len:news.length=ys.length * T.n
 nil:ad=none→ys=[]∧c=0
 cell:∀ A,ad=some A→∀ j u,news[j]?=some u→w.cell? (A.add j)=some u
 one:∀ u∈news,u.oneCell'=true
 el:∀ (i:Nat) (y:α),ys[i]?=some y→T.R w χ ((news.drop (i * T.n)).take T.n) y
theorem pO {α:Type} {T:ct α} {ys:List α} {news:List Value} (hlen:news.length=ys.length * T.n) (gd:∀ (i:Nat) (y:α),ys[i]?=some y→T.R w χ ((news.drop (i * T.n)).take T.n) y):∀ u∈news,u.oneCell'=true:=by
 intro u hu
 obtain ⟨j,hj⟩:=List.getElem?_of_mem hu
 have hjl:j < news.length:=(List.getElem?_eq_some_iff.1 hj).1
 have hp:=T.pos
 have hq:j / T.n < ys.length:=by
  rw [hlen] at hjl
  exact Nat.div_lt_of_lt_mul (by rw [Nat.mul_comm]; exact hjl)
 have hR:=gd (j / T.n) _ (List.getElem?_eq_getElem hq)
 refine T.one hR u ?_
 have hm:=Nat.div_add_mod j T.n
 have eS:=Nat.mod_lt j (show 0 < T.n by omega)
 have:((news.drop (j / T.n * T.n)).take T.n)[j % T.n]?=some u:=by
  rw [List.getElem?_take,if_pos eS,List.getElem?_drop]
  rw [show j / T.n * T.n+j % T.n=j by rw [Nat.mul_comm]; exact hm]
  exact hj
 exact List.mem_of_getElem? this
theorem RS.src {α:Type} {T:ct α} {ad:Option Addr} {ys:List α} {c:Nat} (h:RS T w χ ad ys c):∃ news,Src T w χ ad ys c news:=by
 by_cases hne:ys=[]
 ·subst hne
  exact ⟨[],by simp,h.nil,by intro A _ j u hu; simp at hu,by simp,by intro i y hy; simp at hy⟩
 ·obtain ⟨b,o,cells,e,fr,sh,oL,hh,gd⟩:=h.cells hne
  have hp:=T.pos
  have PX:∀ (i:Nat) (y:α),ys[i]?=some y→(chunk cells o T.n i).length=T.n:=fun i y hy=>T.len (gd i y hy)
  have Zl:o+ys.length * T.n≤cells.size:=by
   have hl:ys.length≠0:=by simpa using hne
   have eS:ys.length - 1 < ys.length:=by omega
   have:=PX (ys.length - 1) _ (List.getElem?_eq_getElem eS)
   simp only [chunk,List.length_take,List.length_drop,Array.length_toList] at this
   have e1:ys.length * T.n=(ys.length - 1) * T.n+T.n:=by
    rw [← Nat.succ_mul]; congr 1; omega
   omega
  have hlen:((cells.toList.drop o).take (ys.length * T.n)).length=ys.length * T.n:=by simp; omega
  have Gm:∀ (i:Nat) (y:α),ys[i]?=some y→T.R w χ ((((cells.toList.drop o).take (ys.length * T.n)).drop (i * T.n)).take T.n) y:=by
   intro i y hy
   have hi:i < ys.length:=(List.getElem?_eq_some_iff.1 hy).1
   have:=dR (m:=T.n) hi
   rw [Nat.add_mul,Nat.one_mul] at this
   rw [List.drop_take,List.take_take,List.drop_drop,Nat.min_eq_left (by omega)]
   exact gd i y hy
  refine ⟨(cells.toList.drop o).take (ys.length * T.n),hlen,h.nil,?_,pO hlen Gm,Gm⟩
  intro A hA j u hu
  rw [sh] at hA
  cases hA
  rw [Addr.add_lit]
  simp only [World.cell?,hh]
  rw [List.getElem?_take] at hu
  split at hu
  ·simpa using hu
  ·cases hu
theorem OS.src {α:Type} {T:ct α} {E col:Nat} {ad:Option Addr} {ys:List α} {c:Nat} (h:OS T E w χ col ad ys c):∃ news,Src T w χ ad ys c news:=by
 rcases h.row with ⟨rfl,rfl,rfl⟩ | ⟨b,cells,sh,oL,hh,hle,hcm,gB,gd⟩
 ·exact ⟨[],by simp,fun _=>⟨rfl,rfl⟩,(by intro A hA; cases hA),by simp,by intro i y hy; simp at hy⟩
 ·have ZK:ys.length * T.n≤cells.size:=by rw [gB]; exact Nat.mul_le_mul_right _ hle
  have hlen:(cells.toList.take (ys.length * T.n)).length=ys.length * T.n:=by simp; omega
  have Gm:∀ (i:Nat) (y:α),ys[i]?=some y→T.R w χ (((cells.toList.take (ys.length * T.n)).drop (i * T.n)).take T.n) y:=by
   intro i y hy
   have hi:i < ys.length:=(List.getElem?_eq_some_iff.1 hy).1
   rw [← oQ (cells:=cells) rfl (dR hi)]
   exact gd i y hy
  refine ⟨cells.toList.take (ys.length * T.n),hlen,(by rintro rfl; cases sh),?_,pO hlen Gm,Gm⟩
  obtain ⟨fr,hh,_⟩:=hh
  intro A hA j u hu
  rw [sh] at hA
  cases hA
  rw [Addr.add_lit]
  simp only [World.cell?,hh]
  rw [List.getElem?_take] at hu
  split at hu
  ·simpa using hu
  ·cases hu
theorem qp (t ty e:TypeId) (i:TypeInfo) (ht:P.underlying t=some (.slice e)) (hi:P.info? e=some i)
  (g ou zj:Nat) (cur:Array Value) (fz:Nat × Nat) (hg:w.heap[g]?=some (.cells cur e fz)) (BZ:Fx fz cur.size)
  (a:Addr) (m c:Nat) (news:List Value) (hl:news.length=m * i.size) (Gg:∀ j u,news[j]?=some u→w.cell? (a.add j)=some u) (h1:∀ u∈news,u.oneCell'=true)
  (mC:ou+m≤zj) (oK:ou * i.size+news.length≤cur.size) :
  (Builtin.append_ #[t,t] ty #[.slice (some ⟨g,0,none⟩) ou zj,.slice (some a) m c]).run P w =
   .ok (.slice (some ⟨g,0,none⟩) (ou+m) zj) (w.setRow g (cur.toList.take (ou * i.size)++news++cur.toList.drop (ou * i.size+news.length)).toArray):=by
 have hf:=run_firstCells_some (P:=P) w i.size m a m c news hl Gg
 have gP:=dx P g (ou * i.size) e fz news 0 cur w hg BZ (by simpa using oK) h1
 simp only [Nat.add_zero] at gP
 simp [Builtin.append_,run_underlying ht,sizeOf,typeInfo,hi,Builtin.lenOf,mC,hf,Addr.add_lit,gP]
theorem zk {α:Type} {T:ct α} {E col:Nat} {inf:TypeInfo} {z:Value} {t u:Nat} (hu:P.underlying t=some (.slice E)) (hi:P.info? E=some inf) (hz:inf.zero=some z) (gB:inf.size=T.n) (jz:inf.bytes=T.bytes) (iS:z.cells.size=T.n)
  {ad wZ:Option Addr} {xs ys:List α} {c c2:Nat} {news:List Value} (h:OS T E w χ col ad xs c) (hs:Src T w χ wZ ys c2 news) (iq:col≠0) (hb:(xs.length+ys.length) * T.bytes≤140737488355328) (h63:xs.length+ys.length≤9223372036854775807) :
  ∃ vw c' w' χ',(Builtin.append_ #[t,t] u #[.slice ad xs.length c,.slice wZ ys.length c2]).run P w=.ok (.slice vw (xs++ys).length c') w'∧OS T E w' χ' col vw (xs++ys) c'∧Ev (gO col) w χ w' χ':=by
 have Of:(xs++ys).length=xs.length+ys.length:=by simp
 have ud:=T.pos
 have US:∀ (w':World),w'.os=w.os→w'.tape=w.tape→w'.output=w.output→w.heap.size≤w'.heap.size→(∀ b,b < w.heap.size→χ b≠col→w'.heap[b]?=w.heap[b]?)→Ev (gO col) w χ w' (fun b=>if w.heap.size≤b then col else χ b):=by
  intro w' h1 h2 h3 h4 h5
  refine ⟨h1,h2,h3,h4,fun b hb hp=>⟨h5 b hb ?_,?_⟩⟩
  ·intro e; rw [e] at hp; simp [gO] at hp
  ·have:¬ w.heap.size≤b:=by omega
   simp [this]
 have UT:∀ (w':World) (mu:Array Value) (te:List Value),(xs.length=te.length / T.n)→te.length=xs.length * T.n→mu.toList.take ((xs.length+ys.length) * T.n)=te++news →
   (∀ (i:Nat) (x:α),xs[i]?=some x→T.R w χ ((te.drop (i * T.n)).take T.n) x)→Ev (gO col) w χ w' (fun b=>if w.heap.size≤b then col else χ b) →
   ∀ (i:Nat) (x:α),(xs++ys)[i]?=some x→T.R w' (fun b=>if w.heap.size≤b then col else χ b) (chunk mu 0 T.n i) x:=by
  intro w' mu te _ Oi Pw IV ev i x hx
  have hi:i < xs.length+ys.length:=by have:=(List.getElem?_eq_some_iff.1 hx).1; simpa using this
  rw [oQ Pw (dR hi)]
  have m:=ev.m0 (show gO col 0=false by cases h:gO col 0 with | false=>rfl | true=>exact absurd (Nat.eq_of_beq_eq_true h).symm iq)
  by_cases eS:i < xs.length
  ·rw [List.getElem?_append_left eS] at hx
   have:=dR (m:=T.n) eS
   rw [Nat.add_mul,Nat.one_mul] at this
   rw [List.drop_append_of_le_length (by omega),List.take_append_of_le_length (by simp; omega)]
   exact T.mono m (IV i x hx)
  ·rw [List.getElem?_append_right (by omega)] at hx
   have e1:i * T.n=te.length+(i - xs.length) * T.n:=by
    rw [Oi,← Nat.add_mul]; congr 1; omega
   rw [e1,List.drop_append,List.drop_eq_nil_of_le (by omega),List.nil_append,Nat.add_sub_cancel_left]
   exact T.mono m (hs.el _ x hx)
 have wB:news.length=ys.length * inf.size:=by rw [hs.len,gB]
 have KQ:(xs.length+ys.length) * inf.bytes≤140737488355328:=by rw [jz]; exact hb
 rcases h.row with ⟨rfl,rfl,rfl⟩ | ⟨b,cells,rfl,hc,hh,hle,hcm,Du,gd⟩
 ·
  cases wZ with
  | none =>
   obtain ⟨rfl,rfl⟩:=hs.nil rfl
   refine ⟨none,0,w,χ,?_,OS.nil T E w χ col,Ev.refl _ _ _⟩
   simp [Builtin.append_,run_underlying hu,sizeOf,typeInfo,hi,Builtin.lenOf,Builtin.firstCells]
  | some A =>
   by_cases hm:ys.length=0
   ·have:ys=[]:=List.eq_nil_of_length_eq_zero hm
    subst this
    refine ⟨none,0,w,χ,?_,OS.nil T E w χ col,Ev.refl _ _ _⟩
    simp [Builtin.append_,run_underlying hu,sizeOf,typeInfo,hi,Builtin.lenOf,Builtin.firstCells,loadCells,loadCellsFrom]
   ·simp only [List.length_nil,Nat.zero_add] at KQ h63
    have hr:=run_append_nil (P:=P) w t u E inf z hu hi hz A ys.length c2 news wB (hs.cell A rfl) (by omega) (by omega) (by omega)
    have hge:=grownCap_ge w ys.length 0 E
    have MY:=grownCap_le_maxLen w ys.length 0 E (by unfold maxLen; omega)
    have ev:=US (w.drew.alloc (.cells (news.toArray++Builtin.zeroCells z.cells (grownCap w ys.length 0 E - ys.length)) E)) rfl rfl rfl (by simp) (fun b hb _=>heap_alloc_old w.drew _ hb)
    refine ⟨_,_,_,fun b=>if w.heap.size≤b then col else χ b,by simpa using hr,⟨by simpa [jz] using KQ,.inr ⟨w.heap.size,_,rfl,by simp,.zero (heap_alloc_new w.drew _),by simpa using hge,MY,?_,?_⟩⟩,ev⟩
    ·simp only [Array.size_append,List.size_toArray,size_zeroCells,iS,hs.len,← Nat.add_mul]
     congr 1; omega
    ·refine UT _ _ [] (by simp) (by simp) ?_ (by intro i x hx; simp at hx) ev
     simp only [List.length_nil,Nat.zero_add,Array.toList_append,List.nil_append]
     rw [← hs.len]; exact List.take_left
 ·have jH:=hh
  obtain ⟨fr,hh,BZ⟩:=hh
  have wA:(cells.toList.take (xs.length * T.n)).length=xs.length * T.n:=by
   have:xs.length * T.n≤cells.size:=by rw [Du]; exact Nat.mul_le_mul_right _ hle
   simp; omega
  have IV:∀ (i:Nat) (x:α),xs[i]?=some x→T.R w χ (((cells.toList.take (xs.length * T.n)).drop (i * T.n)).take T.n) x:=by
   intro i x hx
   have hi:i < xs.length:=(List.getElem?_eq_some_iff.1 hx).1
   rw [← oQ (cells:=cells) rfl (dR hi)]
   exact gd i x hx
  have hdiv:xs.length=(cells.toList.take (xs.length * T.n)).length / T.n:=by rw [wA,Nat.mul_div_cancel _ (by omega)]
  have IW:∀ j v,(cells.toList.take (xs.length * T.n))[j]?=some v→w.cell? ((⟨b,0,none⟩:Addr).add j)=some v:=by
   intro j v hj
   rw [Addr.add_lit]
   simp only [World.cell?,hh]
   rw [List.getElem?_take] at hj
   split at hj
   ·simpa using hj
   ·cases hj
  by_cases mC:xs.length+ys.length≤c
  ·have oK:xs.length * inf.size+news.length≤cells.size:=by rw [wB,gB,Du,← Nat.add_mul]; exact Nat.mul_le_mul_right _ mC
   have key:∃ w',(Builtin.append_ #[t,t] u #[.slice (some ⟨b,0,none⟩) xs.length c,.slice wZ ys.length c2]).run P w=.ok (.slice (some ⟨b,0,none⟩) (xs++ys).length c) w' ∧
     w'=w.setRow b (cells.toList.take (xs.length * inf.size)++news++cells.toList.drop (xs.length * inf.size+news.length)).toArray:=by
    cases wZ with
    | none =>
     obtain ⟨rfl,rfl⟩:=hs.nil rfl
     have MN:news=[]:=List.eq_nil_of_length_eq_zero (by simpa using hs.len)
     subst MN
     refine ⟨w,?_,?_⟩
     ·simp [Builtin.append_,run_underlying hu,sizeOf,typeInfo,hi,Builtin.lenOf,Builtin.firstCells,hle,storeCells]
     ·simp only [List.append_nil,List.length_nil,Nat.add_zero,List.take_append_drop]
      exact (setRow_self w b cells E fr hh).symm
    | some A =>
     have hr:=qp (P:=P) (w:=w) t u E inf hu hi b xs.length c cells fr hh BZ A ys.length c2 news wB (hs.cell A rfl) hs.one mC oK
     exact ⟨_,by rw [hr,Of],rfl⟩
   obtain ⟨w',hr,rfl⟩:=key
   have ev:=US (w.setRow b (cells.toList.take (xs.length * inf.size)++news++cells.toList.drop (xs.length * inf.size+news.length)).toArray) rfl rfl rfl (by simp) (fun k hk hne=>setRow_other w b k _ (fun e=>hne (e ▸ hc)))
   have eS:=cQ hh
   refine ⟨_,_,_,fun b=>if w.heap.size≤b then col else χ b,hr,⟨by rw [Of]; exact hb,.inr ⟨b,_,rfl,?_,jH.set (by simp only [List.size_toArray,List.length_append,List.length_take,List.length_drop,Array.length_toList]; omega),by rw [Of]; exact mC,hcm,?_,?_⟩⟩,ev⟩
   ·have:¬ w.heap.size≤b:=by omega
    simp [this,hc]
   ·simp only [List.size_toArray,List.length_append,List.length_take,List.length_drop,Array.length_toList]
    omega
   ·refine UT _ _ _ hdiv wA ?_ IV ev
    rw [gB]
    show ((cells.toList.take (xs.length * T.n)++news)++_).take _=_
    rw [List.take_append_of_le_length (by simp only [List.length_append,wA,hs.len,← Nat.add_mul]; omega)]
    rw [List.take_of_length_le (by simp only [List.length_append,wA,hs.len,← Nat.add_mul]; omega)]
  ·have key:∃ A,wZ=some A:=by
    cases wZ with
    | none=>obtain ⟨rfl,rfl⟩:=hs.nil rfl; simp at mC; omega
    | some A=>exact ⟨A,rfl⟩
   obtain ⟨A,rfl⟩:=key
   have hr:=run_append_grow (P:=P) w t u E inf z hu hi hz ⟨b,0,none⟩ xs.length c (cells.toList.take (xs.length * T.n)) (by rw [wA,gB]) IW A ys.length c2 news wB (hs.cell A rfl) (by omega) (by omega) (growslice_fits (by omega) KQ)
   have hge:=grownCap_ge w (xs.length+ys.length) c E
   have MY:=grownCap_le_maxLen w (xs.length+ys.length) c E (by unfold maxLen; omega)
   have ev:=US (w.drew.alloc (.cells ((cells.toList.take (xs.length * T.n)).toArray++news.toArray++Builtin.zeroCells z.cells (grownCap w (xs.length+ys.length) c E - (xs.length+ys.length))) E)) rfl rfl rfl (by simp) (fun b hb _=>heap_alloc_old w.drew _ hb)
   refine ⟨_,_,_,fun b=>if w.heap.size≤b then col else χ b,by rw [Of]; exact hr,⟨by rw [Of]; exact hb,.inr ⟨w.heap.size,_,rfl,by simp,.zero (heap_alloc_new w.drew _),by rw [Of]; exact hge,MY,?_,?_⟩⟩,ev⟩
   ·simp only [Array.size_append,List.size_toArray,size_zeroCells,iS,hs.len,wA,← Nat.add_mul]
    congr 1; omega
   ·refine UT _ _ _ hdiv wA ?_ IV ev
    simp only [Array.toList_append]
    rw [List.take_append_of_le_length (by simp only [List.length_append,wA,hs.len,← Nat.add_mul]; omega)]
    rw [List.take_of_length_le (by simp only [List.length_append,wA,hs.len,← Nat.add_mul]; omega)]
theorem cq {col:Nat} (h:Nat.ble 1000 col=true):∀ c,ia c=true→gO col c=false:=by
 intro c hc
 simp only [ia,Bool.and_eq_true] at hc
 have h1:=Nat.le_of_ble_eq_true hc.2
 have h2:=Nat.le_of_ble_eq_true h
 cases he:gO col c with
 | false=>rfl
 | true=>have:=Nat.eq_of_beq_eq_true he; omega
def DC (tab:Tab) (E n oS:Nat):Bool:=match look tab E with | some s=>Nat.beq s.size n && Nat.beq s.bytes oS && Nat.beq s.zero.length n | none=>false
theorem GM (T:bh P tab) {E m b:Nat} (h:DC tab E m b=true):∃ i z,P.info? E=some i∧i.zero=some z∧i.size=m∧i.bytes=b∧z.cells.size=m:=by
 unfold DC at h
 split at h
 ·rename_i s ht
  obtain ⟨i,d,z,hi,hd,hz,hs,jz,iS,_⟩:=bl (T _ _ ht)
  simp only [Bool.and_eq_true] at h
  exact ⟨i,z,hi,hz,hs.trans (Nat.eq_of_beq_eq_true h.1.1),jz.trans (Nat.eq_of_beq_eq_true h.1.2),by rw [← Array.length_toList,iS]; exact Nat.eq_of_beq_eq_true h.2⟩
 ·cases h
theorem append {α:Type} {T:ct α} (TT:bh P tab) {t E col:Nat} {x y:Operand} {ad wZ:Option Addr} {xs ys:List α} {c c2:Nat} {news:List Value} (h:St n sy ρ a w χ) (hw:bK all sy g=true) (hd:Nat.blt d n=true)
  (hx:evo sy x=some (V (.slice ad xs.length c))) (hy:evo sy y=some (V (.slice wZ ys.length c2))) (hO:OS T E w χ col ad xs c) (hs:Src T w χ wZ ys c2 news) (ht:rK tab t E=true) (he:DC tab E T.n T.bytes=true) (iq:Nat.ble 1000 col=true)
  (hbt:Nat.ble T.bytes 128=true) (Um:xs.length+ys.length≤1099511627776)
  (k:∀ vw c' a' w' χ',Ev (gO col) w χ w' χ'→OS T E w' χ' col vw (xs++ys) c'→St n ⟨(d,V (.slice vw (xs++ys).length c')) :: sy.bc,sy.boxes⟩ ρ a' w' χ'→K a' w') :
  wp1 P all.toArray Q ⟨some d,.call ⟨.builtin .append,#[x,y],#[t,t]⟩,ty,pos,af,g⟩ K a w:=by
 obtain ⟨inf,z,hi,hz,gB,jz,iS⟩:=GM TT he
 have oL:col≠0:=by have:=Nat.le_of_ble_eq_true iq; omega
 obtain ⟨vw,c',w',χ',hr,hO',ev⟩:=zk (u:=ty) (kA TT ht) hi hz gB jz iS hO hs oL (room Um hbt) (by omega)
 refine fU h hw hd ev (cq iq) (v:=.slice vw (xs++ys).length c') (w':=w') ?_ (fun a' h'=>k vw c' a' w' χ' ev hO' h')
 have ex:a.eval x=.slice ad xs.length c:=h.evo hx
 have ey:a.eval y=.slice wZ ys.length c2:=h.evo hy
 simp [execOp,resolve,invoke,builtin,ex,ey,hr]
def RL {α:Type} (T:ct α) (w:World) (χ:Nat→Nat):List Value→List α→Prop
 | [],[]=>True
 | v :: vs,y :: ys=>T.R w χ v.cells.toList y∧RL T w χ vs ys
 | _,_=>False
theorem RL.len {α:Type} {T:ct α}:∀ {vs:List Value} {ys:List α},RL T w χ vs ys→vs.length=ys.length
 | [],[],_=>rfl
 | _ :: _,_ :: _,h=>by simp [RL.len h.2]
 | [],_ :: _,h=>h.elim
 | _ :: _,[],h=>h.elim
def counts:Nat→List (Nat × Operand)→Bool
 | _,[]=>true
 | i,q :: l=>Nat.beq q.1 i && counts (i+1) l
theorem yn {m:Nat}:∀ (vs:List Value) (i:Nat) (done left:List Value),done.length=i * m→left.length=vs.length * m→(∀ v∈vs,v.cells.size=m) →
  Instr.fill (fun i=>some (i * m,m)) (done++left).toArray ((vs.zipIdx i).map (fun q=>(q.2,q.1)))=some (done++vs.flatMap (fun v=>v.cells.toList)).toArray
 | [],i,done,left,h1,h2,_=>by
  simp at h2; have:left=[]:=h2; subst this
  simp [Instr.fill]
 | v :: vs,i,done,left,h1,h2,h3=>by
  have hv:v.cells.size=m:=h3 v (by simp)
  have hl:left.length=m+vs.length * m:=by rw [h2,List.length_cons,Nat.succ_mul]; omega
  have hf:=iD (fun i=>some (i * m,m)) [(i,v)] (done++left) (done++v.cells.toList++left.drop m) (by
   simp only [nb]
   rw [show (Nat.beq v.cells.size m && Nat.ble (i * m+m) (done++left).length)=true by
    rw [Bool.and_eq_true]; exact ⟨by simp [hv],by simp [h1,hl]⟩]
   simp only [cond_true,Option.some.injEq]
   rw [List.take_append_of_le_length (by omega),List.take_of_length_le (by omega),← h1,List.drop_append]
   rw [List.drop_eq_nil_of_le (by omega),List.nil_append,Nat.add_sub_cancel_left])
  have ih:=yn vs (i+1) (done++v.cells.toList) (left.drop m) (by simp [h1,hv,Nat.succ_mul]) (by simp; omega) (fun u hu=>h3 u (by simp [hu]))
  simp only [List.zipIdx_cons,List.map_cons]
  simp only [Instr.fill] at hf ⊢
  split at hf
  ·cases hf
  ·rename_i x4
   rw [if_neg x4]
   have:∀ {x y:Array Value},some x=some y→x=y:=fun h=>Option.some.inj h
   rw [this hf,ih]
   simp
theorem Ar (h:St n sy ρ a w χ):∀ (l:List (Nat × Operand)) (i:Nat) (vals:List Value),counts i l=true→jv sy ρ (l.map (·.2))=some vals→l.map (fun q=>(q.1,a.eval q.2))=(vals.zipIdx i).map (fun q=>(q.2,q.1)):=by
 intro l
 induction l with
 | nil=>intro i vals _ e; simp [jv,evs] at e; subst e; rfl
 | cons q l ih =>
  intro i vals hc e
  simp only [counts,Bool.and_eq_true] at hc
  unfold jv at e
  simp only [List.map_cons,evs] at e
  cases h1:evo sy q.2 with
  | none=>simp [h1] at e
  | some v =>
   cases h2:evs sy (l.map (·.2)) with
   | none=>simp [h1,h2] at e
   | some r =>
    simp [h1,h2] at e
    subst e
    have:=ih (i+1) (r.map (bj ρ)) hc.2 (by simp [jv,h2])
    simp [this,h.evo h1,Nat.eq_of_beq_eq_true hc.1]
theorem RL.J0 {α:Type} {T:ct α}:∀ {vs:List Value} {ys:List α},RL T w χ vs ys→∀ v∈vs,v.cells.size=T.n
 | [],[],_=>by simp
 | v :: vs,y :: ys,h=>by
  intro u hu
  rcases List.mem_cons.1 hu with rfl | hu
  ·rw [← Array.length_toList]; exact T.len h.1
  ·exact RL.J0 h.2 u hu
 | [],_ :: _,h=>h.elim
 | _ :: _,[],h=>h.elim
theorem RL.get {α:Type} {T:ct α}:∀ {vs:List Value} {ys:List α},RL T w χ vs ys→∀ (i:Nat) (y:α),ys[i]?=some y→T.R w χ (((vs.flatMap (fun v=>v.cells.toList)).drop (i * T.n)).take T.n) y
 | [],[],_,i,y,hy=>by simp at hy
 | v :: vs,z :: ys,h,i,y,hy=>by
  have hv:v.cells.toList.length=T.n:=T.len h.1
  cases i with
  | zero =>
   simp at hy; subst hy
   simp only [List.flatMap_cons,Nat.zero_mul,List.drop_zero]
   rw [List.take_append_of_le_length (by omega),List.take_of_length_le (by omega)]
   exact h.1
  | succ i =>
   simp only [List.getElem?_cons_succ] at hy
   rw [List.flatMap_cons,Nat.succ_mul,Nat.add_comm,← List.drop_drop,← hv,List.drop_left,hv]
   exact RL.get h.2 i y hy
 | [],_ :: _,h,_,_,_=>h.elim
 | _ :: _,[],h,_,_,_=>h.elim
theorem pQ {m:Nat}:∀ (vs:List Value),(∀ v∈vs,v.cells.size=m)→(vs.flatMap (fun v=>v.cells.toList)).length=vs.length * m
 | [],_=>by simp
 | v :: vs,h=>by
  rw [List.flatMap_cons,List.length_append,pQ vs (fun u hu=>h u (by simp [hu])),List.length_cons,Nat.succ_mul,Array.length_toList,h v (by simp),Nat.add_comm]
theorem sn (w:World) (χ:Nat→Nat) (o:Obj) (col:Nat):Ev aB w χ (w.alloc o) (fun b=>if w.heap.size≤b then col else χ b) :=
 ⟨rfl,rfl,rfl,by simp,fun b hb _=>⟨heap_alloc_old w o hb,if_neg (Nat.not_le.2 hb)⟩⟩
theorem lit {α:Type} {T:ct α} (TT:bh P tab) {t E m col:Nat} {parts:Array (Nat × Operand)} {vals:List Value} {ys:List α} (h:St n sy ρ a w χ) (hw:bK all sy g=true) (hd:Nat.blt d n=true) (Om:counts 0 parts.toList=true)
  (hv:jv sy ρ (parts.toList.map (·.2))=some vals) (hR:RL T w χ vals ys) (hm:m=ys.length) (ht:rK tab t E=true) (he:DC tab E T.n T.bytes=true) (UG:Nat.ble (m * T.n) 16777216=true) (jz:Nat.ble (m * T.bytes) 16777216=true)
  (k:∀ b a' w' χ',Ev aB w χ w' χ'→OS T E w' χ' col (some ⟨b,0,none⟩) ys m→w.heap.size≤b→St n ⟨(d,V (.slice (some ⟨b,0,none⟩) m m)) :: sy.bc,sy.boxes⟩ ρ a' w' χ'→K a' w') :
  wp1 P all.toArray Q ⟨some d,.buildSlice t m parts,ty,pos,af,g⟩ K a w:=by
 obtain ⟨inf,z,hi,hz,gB,aac,iS⟩:=GM TT he
 have hlen:=hR.len
 have F9:=hR.J0
 have WQ:=Nat.le_of_ble_eq_true UG
 have aae:=Nat.le_of_ble_eq_true jz
 have Gc:(parts.map fun (i,x)=>(i,a.eval x)).toList=(vals.zipIdx 0).map (fun q=>(q.2,q.1)):=by
  rw [← Ar h _ 0 vals Om hv]; simp
 have Hv:∀ (z:Array Value),((Array.range (m * T.n)).map (z[· % z.size]!))=(([]:List Value)++((Array.range (m * T.n)).map (z[· % z.size]!)).toList).toArray:=fun z=>by rw [List.nil_append,Array.toArray_toList]
 have kU:∀ (zz:Array Value),Instr.fill (fun i=>some (i * T.n,T.n)) ((Array.range (m * T.n)).map (zz[· % zz.size]!)) ((vals.zipIdx 0).map (fun q=>(q.2,q.1)))=some (vals.flatMap (fun v=>v.cells.toList)).toArray:=by
  intro zz
  rw [Hv zz,yn vals 0 [] _ (by simp) (by simp [hlen,hm]) F9]
  simp
 have Gk:(Instr.buildSlice t m (parts.map fun (i,x)=>(i,a.eval x))).run P w=.ok (.slice (some ⟨w.heap.size,0,none⟩) m m) (w.alloc (.cells (vals.flatMap (fun v=>v.cells.toList)).toArray E)):=by
  have PU:¬ (m * T.n > 2 ^ 24):=by omega
  by_cases h0:m * T.n=0
  ·simp only [Instr.buildSlice,Sem.run_bind,run_underlying (kA TT ht),Result.andThen_ok,run_sizeOf hi,gB,Gc,if_neg PU,if_pos h0,Sem.run_pure,kU]
   rfl
  ·simp only [Instr.buildSlice,Sem.run_bind,run_underlying (kA TT ht),Result.andThen_ok,run_sizeOf hi,gB,Gc,if_neg PU,if_neg h0,Sem.run_pure,zeroValue,typeInfo,run_program,hi,hz,kU]
   rfl
 have jZ:(execOp a.eval ⟨some d,.buildSlice t m parts,ty,pos,af,g⟩).run P w=.ok (.value (.slice (some ⟨w.heap.size,0,none⟩) m m)) (w.alloc (.cells (vals.flatMap (fun v=>v.cells.toList)).toArray E)):=by
  simp only [execOp,Sem.run_bind,Gk,Result.andThen_ok,Sem.run_pure]
 have ev:=sn w χ (.cells (vals.flatMap (fun v=>v.cells.toList)).toArray E) col
 have cC:=ev.m0 rfl
 have P8:=pQ (m:=T.n) vals F9
 refine fU h hw hd ev (fun _ _=>rfl) jZ (fun a' h'=>k w.heap.size a' _ _ ev ⟨by rw [← hm]; omega,.inr ⟨w.heap.size,_,rfl,by simp,.zero (heap_alloc_new w _),by omega,by unfold maxLen; have:=T.pos; have:m≤m * T.n:=Nat.le_mul_of_pos_right m (by omega); omega,?_,?_⟩⟩ (Nat.le_refl _) h')
 ·simp only [List.size_toArray,P8,hlen,hm]
 ·intro i x hx
  have:=T.mono cC (hR.get i x hx)
  unfold chunk
  simpa using this
theorem OS.freeze {α:Type} {T:ct α} {E col:Nat} {ad:Option Addr} {xs:List α} {c:Nat} (h:OS T E w χ col ad xs c) (iq:col≠0):∃ χ',Ev (gO col) w χ w χ'∧RS T w χ' ad xs c:=by
 have ev:Ev (gO col) w χ w (fun b=>if χ b=col then 0 else χ b):=⟨rfl,rfl,rfl,Nat.le_refl _,fun b _ hp=>⟨rfl,by
  have:χ b≠col:=by intro e; rw [e] at hp; simp [gO] at hp
  simp [this]⟩⟩
 have m:=ev.m0 (show gO col 0=false by cases h:gO col 0 with | false=>rfl | true=>exact absurd (Nat.eq_of_beq_eq_true h).symm iq)
 refine ⟨_,ev,?_⟩
 rcases h.row with ⟨rfl,rfl,rfl⟩ | ⟨b,cells,rfl,hc,hh,hle,hcm,gB,gd⟩
 ·exact RS.empty T w _
 ·obtain ⟨fr,hh,_⟩:=hh; exact ⟨hle,h.bnd,(by intro e; cases e),fun _=>⟨b,0,cells,E,fr,rfl,by simp [hc],hh,fun i x hx=>T.mono m (gd i x hx)⟩⟩
theorem OS.J1 {α:Type} {T:ct α} {E col:Nat} {ad:Option Addr} {xs:List α} {c:Nat} {χ':Nat→Nat} (h:OS T E w χ col ad xs c) (m:M0 w χ w χ') {QW:Nat} (Gt:∀ b,χ b=col→χ' b=QW):OS T E w χ' QW ad xs c:=by
 refine ⟨h.bnd,?_⟩
 rcases h.row with h | ⟨b,cells,rfl,hc,hh,hle,hcm,gB,gd⟩
 ·exact .inl h
 ·exact .inr ⟨b,cells,rfl,Gt b hc,hh,hle,hcm,gB,fun i x hx=>T.mono m (gd i x hx)⟩
theorem OS.out {α:Type} {T:ct α} {E k:Nat} {ad:Option Addr} {xs:List α} {c:Nat} {χ':Nat→Nat} {f:Nat→Nat} (h:OS T E w χ k ad xs c) (m:M0 w χ w χ') (hC:∀ b,χ b≠0→χ b≠1000→χ' b=f (χ b)) (h0:Nat.ble 1001 k=true):OS T E w χ' (f k) ad xs c :=
 h.J1 m (fun b hb=>by
  have:=Nat.le_of_ble_eq_true h0
  rw [hC b (by omega) (by omega),hb])
def pJ (col:Nat) (χ:Nat→Nat) (b:Nat):Nat:=if χ b=col then 0 else χ b
theorem OS.pJ {α:Type} {T:ct α} {E col:Nat} {ad:Option Addr} {xs:List α} {c:Nat} (h:OS T E w χ col ad xs c):RS T w (Sv.pJ col χ) ad xs c:=by
 have m:M0 w χ w (Sv.pJ col χ):=⟨Nat.le_refl _,fun b _ h0=>⟨rfl,by simp [Sv.pJ,h0]⟩⟩
 rcases h.row with ⟨rfl,rfl,rfl⟩ | ⟨b,cells,rfl,hc,hh,hle,hcm,gB,gd⟩
 ·exact RS.empty T w _
 ·obtain ⟨fr,hh,_⟩:=hh; exact ⟨hle,h.bnd,(by intro e; cases e),fun _=>⟨b,0,cells,E,fr,rfl,by simp [Sv.pJ,hc],hh,fun i x hx=>T.mono m (gd i x hx)⟩⟩
theorem M0.pJ (col:Nat):M0 w χ w (Sv.pJ col χ):=⟨Nat.le_refl _,fun b _ h0=>⟨rfl,by simp [Sv.pJ,h0]⟩⟩
theorem Ev.y8 {col:Nat} {w':World} {χ':Nat→Nat} (e:Ev aB w (Sv.pJ col χ) w' χ'):Ev aB w χ w' (fun b=>if b < w.heap.size then χ b else χ' b) :=
 ⟨e.os,e.tape,e.output,e.size,fun b hb _=>⟨(e.bW b hb rfl).1,by simp [hb]⟩⟩
def AtO {α:Type} (T:ct α) (E:Nat) (w:World) (χ:Nat→Nat) (col:Nat) (ad:Option Addr) (i:Nat) (A:Addr):Prop :=
 ∃ b cells,ad=some ⟨b,0,none⟩∧A=⟨b,i * T.n,none⟩∧χ b=col∧Row w b cells E
theorem mR {α:Type} {T:ct α} (TT:bh P tab) {t E col s:Nat} {y:Operand} {ad:Option Addr} {xs:List α} {c i:Nat} {A:Addr} {x:α} {v:SV} (h:St n sy ρ a w χ) (hw:bK all sy g=true) (iq:Nat.ble 1000 col=true)
  (hs:look sy.bc s=some (V (.pointer (some A)))) (hy:evo sy y=some v) (hO:OS T E w χ col ad xs c) (hA:AtO T E w χ col ad i A) (hi:i < xs.length) (gB:ql tab t T.n=true) (hR:∀ w' χ',M0 w χ w' χ'→T.R w' χ' (bj ρ v).cells.toList x)
  (k:∀ a' w',Ev (gO col) w χ w' χ→OS T E w' χ col ad (xs.set i x) c→St n sy ρ a' w' χ→K a' w') :
  wp1 P all.toArray Q ⟨none,.store t (.tmp s) y,ty,pos,af,g⟩ K a w:=by
 obtain ⟨b',mu,sh,rfl,Z7,Us⟩:=hA
 rcases hO.row with ⟨rfl,rfl,rfl⟩ | ⟨b,cells,Ai,hc,hh,hle,hcm,II,gd⟩
 ·simp at hi
 ·rw [Ai] at sh
  simp only [Option.some.injEq,Addr.mk.injEq,and_true] at sh
  subst sh
  obtain ⟨inf,MV,hm⟩:=kh TT gB
  have Hz:=hR w χ (M0.refl w χ)
  have hlen:=T.len Hz
  have Ga:(bj ρ v).cells.size=inf.size:=by rw [← Array.length_toList,hlen,hm]
  have oK:i * T.n+(bj ρ v).cells.toList.length≤cells.size:=by
   rw [hlen,II]
   have h1:=dR (m:=T.n) hi
   have h2:=Nat.mul_le_mul_right T.n hle
   rw [Nat.add_mul,Nat.one_mul] at h1
   omega
  have jH:=hh
  obtain ⟨fr,hh,BZ⟩:=hh
  have gP:=dx P b (i * T.n) E fr (bj ρ v).cells.toList 0 cells w hh BZ (by simpa using oK) (T.one Hz)
  simp only [Nat.add_zero] at gP
  have ev:Ev (gO col) w χ (w.setRow b (cells.toList.take (i * T.n)++(bj ρ v).cells.toList++cells.toList.drop (i * T.n+(bj ρ v).cells.toList.length)).toArray) χ :=
   ⟨rfl,rfl,rfl,by simp,fun b' _ hp=>⟨setRow_other _ _ _ _ (by intro e; rw [e,hc] at hp; simp [gO] at hp),rfl⟩⟩
  have oL:col≠0:=by have:=Nat.le_of_ble_eq_true iq; omega
  have m:=ev.m0 (show gO col 0=false by cases h:gO col 0 with | false=>rfl | true=>exact absurd (Nat.eq_of_beq_eq_true h).symm oL)
  refine gR (dE h (o:=⟨none,.store t (.tmp s) y,ty,pos,af,g⟩) hw) ?_
  have es:a.eval (.tmp s)=.pointer (some ⟨b,i * T.n,none⟩):=h.evo (x:=.tmp s) hs
  have Ac:(storeVar t ⟨b,i * T.n,none⟩ (bj ρ v)).run P w=.ok () (w.setRow b (cells.toList.take (i * T.n)++(bj ρ v).cells.toList++cells.toList.drop (i * T.n+(bj ρ v).cells.toList.length)).toArray):=by
   simp only [storeVar,Sem.run_bind,run_sizeOf MV,Result.andThen_ok,Ga,ne_eq,not_true_eq_false,if_false]
   exact gP
  have hr:(execOp a.eval ⟨none,.store t (.tmp s) y,ty,pos,af,g⟩).run P w=.ok .skip (w.setRow b (cells.toList.take (i * T.n)++(bj ρ v).cells.toList++cells.toList.drop (i * T.n+(bj ρ v).cells.toList.length)).toArray):=by
   simp only [execOp,es,h.evo hy,Instr.storeAt,Instr.sureAddr,Sem.run_bind,Sem.run_pure,Result.andThen_ok,Ac]
  unfold Oper.wp
  rw [hr]
  simp only [Oper.upon]
  refine k _ _ ev ⟨by simpa using hO.bnd,.inr ⟨b,_,Ai,hc,jH.set (by simp only [List.size_toArray,List.length_append,List.length_take,List.length_drop,Array.length_toList]; omega),by simpa using hle,hcm,?_,?_⟩⟩ (h.ev ev (cq iq))
  ·simp only [List.size_toArray,List.length_append,List.length_take,List.length_drop,Array.length_toList]
   omega
  ·intro j z hz
   have hjl:j < xs.length:=by have:=(List.getElem?_eq_some_iff.1 hz).1; simpa using this
   rw [List.getElem?_set] at hz
   have Gi:(bj ρ v).cells.toList.length=T.n:=hlen
   have h1:=dR (m:=T.n) hi
   have UP:=dR (m:=T.n) hjl
   have h2:=Nat.mul_le_mul_right T.n hle
   rw [Nat.add_mul,Nat.one_mul] at h1 UP
   have Dm:(cells.toList.take (i * T.n)).length=i * T.n:=by simp; omega
   unfold chunk
   simp only [Nat.zero_add]
   by_cases Hx:i=j
   ·subst Hx
    rw [if_pos rfl] at hz
    split at hz
    ·cases hz
     have hx:=hR _ χ m
     have e:List.take T.n (List.drop (i * T.n) (cells.toList.take (i * T.n)++(bj ρ v).cells.toList++cells.toList.drop (i * T.n+(bj ρ v).cells.toList.length)))=(bj ρ v).cells.toList:=by
      rw [List.append_assoc,List.drop_left' Dm,List.take_left' Gi]
     show T.R _ _ (List.take T.n (List.drop (i * T.n) (cells.toList.take (i * T.n)++(bj ρ v).cells.toList++cells.toList.drop (i * T.n+(bj ρ v).cells.toList.length)))) x
     rw [e]
     exact hx
    ·omega
   ·rw [if_neg Hx] at hz
    have hx:=T.mono m (gd j z hz)
    unfold chunk at hx
    rw [Nat.zero_add] at hx
    have:List.take T.n (List.drop (j * T.n) (cells.toList.take (i * T.n)++(bj ρ v).cells.toList++cells.toList.drop (i * T.n+(bj ρ v).cells.toList.length)))=List.take T.n (List.drop (j * T.n) cells.toList):=by
     apply List.ext_getElem?
     intro q
     rw [List.getElem?_take,List.getElem?_take]
     by_cases hq:q < T.n
     ·rw [if_pos hq,if_pos hq,List.getElem?_drop,List.getElem?_drop]
      rcases Nat.lt_or_gt_of_ne Hx with eS | hgt
      ·have h3:=Nat.mul_le_mul_right T.n eS
       rw [Nat.succ_mul] at h3
       rw [List.getElem?_append_right (by rw [List.length_append,Dm,Gi]; omega),List.length_append,Dm,Gi,List.getElem?_drop]
       congr 1
       omega
      ·have h3:=Nat.mul_le_mul_right T.n hgt
       rw [Nat.succ_mul] at h3
       rw [List.append_assoc,List.getElem?_append_left (by omega),List.getElem?_take,if_pos (by omega)]
     ·rw [if_neg hq,if_neg hq]
    show T.R _ _ (List.take T.n (List.drop (j * T.n) (cells.toList.take (i * T.n)++(bj ρ v).cells.toList++cells.toList.drop (i * T.n+(bj ρ v).cells.toList.length)))) z
    rw [this]
    exact hx
theorem Ret.y8 {f:FuncId} {vals:Array Value} {col:Nat} {post:World→(Nat→Nat)→Value→Prop} (h:Ret P f vals aB w (Sv.pJ col χ) post):Ret P f vals aB w χ (fun w' _ v=>∃ Xl,post w' Xl v) :=
 Calls.mono h fun _ _ ⟨v,χ',h1,h2,h3⟩=>⟨v,_,h1,h2.y8,χ',h3⟩
theorem make {α:Type} {T:ct α} (TT:bh P tab) {t E col:Nat} {x y:Operand} {kl kc:IntKind} {l c:Int} (zz:α) (h:St n sy ρ a w χ) (hw:bK all sy g=true) (hd:Nat.blt d n=true)
  (hx:evo sy x=some (V (.int kl l))) (hy:evo sy y=some (V (.int kc c))) (ht:rK tab t E=true) (he:DC tab E T.n T.bytes=true) (h0:0≤l) (PZ:l≤c) (hb:T.bytes * c≤140737488355328) (h63:c≤9223372036854775807)
  (hz:∀ w' χ',(match look tab E with | some s=>T.R w' χ' s.zero zz | none=>False))
  (k:∀ b a' w' χ',Ev aB w χ w' χ'→OS T E w' χ' col (some ⟨b,0,none⟩) (List.replicate l.toNat zz) c.toNat→w.heap.size≤b→St n ⟨(d,V (.slice (some ⟨b,0,none⟩) l.toNat c.toNat)) :: sy.bc,sy.boxes⟩ ρ a' w' χ'→K a' w') :
  wp1 P all.toArray Q ⟨some d,.makeSlice t x y,ty,pos,af,g⟩ K a w:=by
 have Ks:=he
 unfold DC at Ks
 cases hE:look tab E with
 | none=>rw [hE] at Ks; cases Ks
 | some s =>
  obtain ⟨i,dd,z,hi,o0,D9,hs,jz,iS,_⟩:=bl (TT _ _ hE)
  rw [hE] at Ks
  simp only [Bool.and_eq_true] at Ks
  have e1:=Nat.eq_of_beq_eq_true Ks.1.1
  have e2:=Nat.eq_of_beq_eq_true Ks.1.2
  have e3:=Nat.eq_of_beq_eq_true Ks.2
  have MU:i.size=T.n:=hs.trans e1
  have TV:z.cells.size=T.n:=by rw [← Array.length_toList,iS,e3]
  have hr:=run_make (P:=P) w t E i z (kA TT ht) hi D9 kl kc l c h0 PZ (by rw [jz,e2]; omega) h63
  have ev:=sn w χ (.cells (madeCells z.cells (c.toNat * i.size)) E) col
  refine fU h hw hd ev (fun _ _=>rfl) (v:=.slice (some ⟨w.heap.size,0,none⟩) l.toNat c.toNat) (w':=w.alloc (.cells (madeCells z.cells (c.toNat * i.size)) E)) ?_ (fun a' h'=>k _ a' _ _ ev ⟨?_,.inr ⟨w.heap.size,_,rfl,by simp,.zero (heap_alloc_new w _),?_,?_,?_,?_⟩⟩ (Nat.le_refl _) h')
  ·have ex:a.eval x=.int kl l:=h.evo hx
   have ey:a.eval y=.int kc c:=h.evo hy
   simp [execOp,ex,ey,hr]
  ·rw [List.length_replicate]
   have h1:(l.toNat:Int) * T.bytes≤T.bytes * c:=by
    rw [Int.toNat_of_nonneg h0,Int.mul_comm]
    exact Int.mul_le_mul_of_nonneg_left PZ (Int.natCast_nonneg _)
   have h2:((l.toNat * T.bytes:Nat):Int)≤140737488355328:=by
    rw [Int.natCast_mul]; omega
   omega
  ·rw [List.length_replicate]; omega
  ·unfold maxLen; omega
  ·rw [size_madeCells,MU]
  ·intro j q hq
   have hj:j < l.toNat:=by have:=(List.getElem?_eq_some_iff.1 hq).1; simpa using this
   have BT:q=zz:=by
    simp [List.getElem?_replicate] at hq; exact hq.2.symm
   subst BT
   have MC:=hz (w.alloc (.cells (madeCells z.cells (c.toNat * i.size)) E)) (fun b=>if w.heap.size≤b then col else χ b)
   rw [hE] at MC
   simp only [] at MC
   have:chunk (madeCells z.cells (c.toNat * i.size)) 0 T.n j=s.zero:=by
    rw [← iS]
    have ZR:(j+1) * T.n≤c.toNat * T.n:=Nat.mul_le_mul_right _ (by omega)
    have gB:(madeCells z.cells (c.toNat * i.size)).size=c.toNat * T.n:=by rw [size_madeCells,MU]
    rw [Nat.add_mul,Nat.one_mul] at ZR
    apply List.ext_getElem?
    intro q
    unfold chunk
    rw [List.getElem?_take,Nat.zero_add]
    by_cases hq:q < T.n
    ·rw [if_pos hq,List.getElem?_drop]
     have eS:j * T.n+q < c.toNat * i.size:=by rw [MU]; omega
     have Ug:(j * T.n+q) % z.cells.size=q:=by rw [TV,Nat.mul_comm,Nat.mul_add_mod,Nat.mod_eq_of_lt hq]
     have PF:q < z.cells.size:=by omega
     simp [madeCells,eS,Ug,PF]
    ·rw [if_neg hq]
     symm
     rw [List.getElem?_eq_none_iff,Array.length_toList]
     omega
   rw [this]
   exact MC
theorem RS.cut {α:Type} {T:ct α} {ad:Option Addr} {xs:List α} {c:Nat} (hR:RS T w χ ad xs c) {l h:Nat} (h1:l≤h) (h2:h≤xs.length):RS T w χ (if c=l then ad else ad.map (·.add (l * T.n))) ((xs.take h).drop l) (c - l):=by
 have MZ:=hR.cap
 have hlen:((xs.take h).drop l).length=h - l:=by simp; omega
 refine ⟨by rw [hlen]; omega,?_,?_,?_⟩
 ·rw [hlen]
  have:=Nat.mul_le_mul_right T.bytes (show h - l≤xs.length by omega)
  have:=hR.bnd
  omega
 ·intro hn
  have PS:ad=none:=by
   split at hn
   ·exact hn
   ·cases ad with
    | none=>rfl
    | some A=>simp at hn
  obtain ⟨rfl,rfl⟩:=hR.nil PS
  simp
 ·intro hne
  have eS:l < h:=by
   rcases Nat.lt_or_ge l h with eS | hge
   ·exact eS
   ·exact absurd (List.eq_nil_of_length_eq_zero (by rw [hlen]; omega)) hne
  obtain ⟨b,o,cells,e,fr,rfl,oL,hh,gd⟩:=hR.cells (by intro e; subst e; simp at h2; omega)
  refine ⟨b,o+l * T.n,cells,e,fr,?_,oL,hh,?_⟩
  ·have hcl:¬ c=l:=by omega
   simp [hcl,Addr.add_lit]
  ·intro i x hx
   rw [List.getElem?_drop,List.getElem?_take] at hx
   split at hx
   ·have:=gd _ _ hx
    unfold chunk at this ⊢
    rw [Nat.add_mul,← Nat.add_assoc] at this
    exact this
   ·cases hx
theorem LG {α:Type} {T:ct α} (TT:bh P tab) {t E:Nat} {x lo:Operand} {ad:Option Addr} {xs:List α} {c:Nat} {kl:IntKind} {l:Int} (h:St n sy ρ a w χ) (hw:bK all sy g=true) (hd:Nat.blt d n=true)
  (hx:evo sy x=some (V (.slice ad xs.length c))) (Oj:evo sy lo=some (V (.int kl l))) (hR:RS T w χ ad xs c) (ht:rK tab t E=true) (hs:ql tab E T.n=true) (h0:0≤l) (h2:l≤xs.length)
  (k:∀ vw c' a',RS T w χ vw (xs.drop l.toNat) c'→St n ⟨(d,V (.slice vw (xs.drop l.toNat).length c')) :: sy.bc,sy.boxes⟩ ρ a' w χ→K a' w) :
  wp1 P all.toArray Q ⟨some d,.slice t x (some lo) none none,ty,pos,af,g⟩ K a w:=by
 obtain ⟨inf,wC,hm⟩:=kh TT hs
 have hu:=kA TT ht
 have MZ:=hR.cap
 have WS:=hR.cut (l:=l.toNat) (h:=xs.length) (by omega) (by omega)
 rw [List.take_length] at WS
 refine fU h hw hd (Ev.refl aB w χ) (fun _ _=>rfl) (w':=w) ?_ (fun a' h'=>k _ _ a' WS h')
 have ex:a.eval x=.slice ad xs.length c:=h.evo hx
 have el:a.eval lo=.int kl l:=h.evo Oj
 have e3:l≤(xs.length:Int):=by omega
 simp [execOp,ex,el,Instr.sliceAt,Instr.slice,run_underlying hu,Instr.sliceBounds,Instr.sliceBound,asIntOf,h0,e3,run_sizeOf wC,hm]
theorem quo {x y:Operand} {t yt:Nat} {k:IntKind} {p q:Int} (h:St n sy ρ a w χ) (hw:bK all sy g=true) (hd:Nat.blt d n=true) (hx:evo sy x=some (V (.int k p))) (hy:evo sy y=some (V (.int k q))) (hq:q≠0)
  (kk:∀ a',St n ⟨(d,V (.int k (k.wrap (p.tdiv q)))) :: sy.bc,sy.boxes⟩ ρ a' w χ→K a' w):wp1 P all.toArray Q ⟨some d,.binOp .quo t x y yt,ty,pos,af,g⟩ K a w:=by
 refine fU h hw hd (Ev.refl aB w χ) (fun _ _=>rfl) (w':=w) ?_ (fun a' h'=>kk a' h')
 have ex:a.eval x=.int k p:=h.evo hx
 have ey:a.eval y=.int k q:=h.evo hy
 simp [execOp,ex,ey,binOp,Op.intDiv,hq,eD]
def gq:List Value→List Value→Option Bool
 | [],[]=>some true
 | .int k p :: l,.int k' q :: m=>match gq l m with | some r=>bif sameKind k k' then some (p == q && r) else none | none=>none
 | .string p :: l,.string q :: m=>match gq l m with | some r=>some ((p.data.toList == q.data.toList) && r) | none=>none
 | _,_=>none
def pP (P:Program) (t:Nat) (xs:List Value):Bool :=
 match P.underlying t with
 | some (.struct fs)=>!P.stoodInHeld t && !P.eqGuardType P.depth t && yg P 0 fs.toList xs
 | _=>false
where yg (P:Program):Nat→List Field→List Value→Bool
 | _,[],[]=>true
 | i,f :: fs,v :: vs=>!(f.name == "_") && Nat.beq f.offset i && (match P.underlying f.type,v with | some (.int _),.int _ _=>true | some .string,.string _=>true | _,_=>false) && yg P (i+1) fs vs
 | _,_,_=>false
theorem po:∀ (fs:List Field) (i:Nat) (xs ys:List Value) (r:Bool) (e:Nat),pP.yg P i fs (xs.drop i)=true→gq (xs.drop i) (ys.drop i)=some r→xs.length=i+fs.length→(Op.eqFields (e+1) xs.toArray ys.toArray fs).run P w=.ok r w
 | [],i,xs,ys,r,e,_,he,hl=>by
  have h1:xs.drop i=[]:=List.drop_eq_nil_of_le (by simp at hl; omega)
  rw [h1] at he
  cases h2:ys.drop i with
  | nil=>rw [h2] at he; simp [gq] at he; subst he; rfl
  | cons _ _=>rw [h2] at he; simp [gq] at he
 | f :: fs,i,xs,ys,r,e,hf,he,hl=>by
  have eS:i < xs.length:=by rw [hl]; simp
  have hx:xs.drop i=xs[i] :: xs.drop (i+1):=List.drop_eq_getElem_cons eS
  rw [hx] at he hf
  simp only [pP.yg,Bool.and_eq_true] at hf
  obtain ⟨⟨⟨hn,ho⟩,ht⟩,MX⟩:=hf
  have ho:=Nat.eq_of_beq_eq_true ho
  have Ue:f.name ≠ "_" := by intro h; rw [h] at hn; simp at hn
  have BU:∀ (zs:List Value) (v:Value) (d:TypeDesc),P.underlying f.type=some d→isA d=false→zs[i]?=some v→(part f.type zs.toArray f.offset).run P w=.ok v w:=by
   intro zs v d hd Dp hv
   simp [part,fh hd,Dp,ho,hv]
  cases hy:ys.drop i with
  | nil=>rw [hy] at he; cases Ps:xs[i] <;> rw [Ps] at he <;> simp [gq] at he
  | cons v m =>
   rw [hy] at he
   have Ke:ys[i]?=some v:=by
    have:=congrArg (fun l=>l[0]?) hy
    simpa using this
   have Wt:ys.drop (i+1)=m:=by
    have:=congrArg List.tail hy
    simpa using this
   have Hw:xs[i]?=some xs[i]:=List.getElem?_eq_getElem eS
   have ih:=fun r' h'=>po fs (i+1) xs ys r' e MX h' (by rw [hl]; simp; omega)
   cases Ps:xs[i] with
   | int k p =>
    rw [Ps] at he Hw ht
    cases v with
    | int k' q =>
     simp only [gq] at he
     split at he
     ·rename_i r' PE
      cases hk:sameKind k k' with
      | false=>simp [hk] at he
      | true =>
       simp only [hk,cond_true,Option.some.injEq] at he
       have:=iH hk
       subst this
       split at ht
       ·rename_i kk _ _ hd mM
        have h1:=BU xs _ _ hd rfl Hw
        have h2:=BU ys _ _ hd rfl Ke
        have h3:=ih r' (by rw [Wt]; exact PE)
        simp only [Op.eqFields,ne_eq,Ue,not_false_eq_true,if_true,Sem.run_bind,h1,h2,Result.andThen_ok,run_equalIn_int _ _ _ _ _ _ _ hd,Sem.run_ite,h3,Sem.run_pure]
        subst he
        cases Zu:(p == q) <;> simp
       ·rename_i mM; cases mM
       ·cases ht
     ·cases he
    | _=>simp [gq] at he
   | string p =>
    rw [Ps] at he Hw ht
    cases v with
    | string q =>
     simp only [gq] at he
     split at he
     ·rename_i r' PE
      simp only [Option.some.injEq] at he
      split at ht
      ·rename_i mM; cases mM
      ·rename_i _ hd mM
       have h1:=BU xs _ _ hd rfl Hw
       have h2:=BU ys _ _ hd rfl Ke
       have h3:=ih r' (by rw [Wt]; exact PE)
       simp only [Op.eqFields,ne_eq,Ue,not_false_eq_true,if_true,Sem.run_bind,h1,h2,Result.andThen_ok,run_equalIn_string _ _ _ _ _ hd,Sem.run_ite,h3,Sem.run_pure,ByteArray.toList_eq]
       subst he
       cases Zu:(p.data.toList == q.data.toList) <;> simp
      ·cases ht
     ·cases he
    | _=>simp [gq] at he
   | _=>rw [Ps] at he; simp [gq] at he
theorem NN (xs:List Int) (TT:bh P tab) {t e m:Nat} {x y:Operand} {cs:List Value} {k0 k:IntKind} {i:Int} (h:St n sy ρ a w χ) (hw:bK all sy g=true) (hd:Nat.blt d n=true)
  (hx:evo sy x=some (V (.agg cs.toArray))) (hy:evo sy y=some (V (.int k i))) (hc:cs=xs.map (Value.int k0)) (ht:(match look tab t with | some ⟨_,_,_,_,.array m' e' 1⟩=>some (m',e') | _=>none)=some (m,e)) (hag:ry tab e false=true) (h0:0≤i) (h1:i < m) (hm:m=xs.length)
  (kk:∀ a',St n ⟨(d,V (.int k0 (gi xs i))) :: sy.bc,sy.boxes⟩ ρ a' w χ→K a' w):wp1 P all.toArray Q ⟨some d,.index t x y,ty,pos,af,g⟩ K a w:=by
 refine fU h hw hd (Ev.refl aB w χ) (fun _ _=>rfl) (w':=w) ?_ (fun a' h'=>kk a' h')
 have ex:a.eval x=.agg cs.toArray:=h.evo hx
 have ey:a.eval y=.int k i:=h.evo hy
 obtain ⟨dd,o0,Dp⟩:=nI TT hag
 split at ht
 ·rename_i m' e' oJ
  simp only [Option.some.injEq,Prod.mk.injEq] at ht
  obtain ⟨rfl,rfl⟩:=ht
  obtain ⟨inf,d',z,hi,hd',hz,hs,jz,iS,fG,_,Gx,_⟩:=bl (TT _ _ oJ)
  obtain ⟨rfl,j,hj,ZS⟩:=Gx _ _ _ rfl
  have lL:cs[i.toNat]?=some (.int k0 (gi xs i)):=by
   rw [hc,List.getElem?_map,si h0 (by omega)]; rfl
  simp [execOp,ex,ey,Instr.index,asIntOf,run_underlying hd',h0,h1,part,fh o0,Dp,run_sizeOf hj,ZS,lL]
 ·cases ht
theorem sk {t:Nat} {xs:List Value} (h:pP P t xs=true):∃ fs,P.underlying t=some (.struct fs)∧P.stoodInHeld t=false∧P.eqGuardType P.depth t=false∧pP.yg P 0 fs.toList xs=true:=by
 unfold pP at h
 split at h
 ·rename_i fs MX
  simp only [Bool.and_eq_true,Bool.not_eq_true'] at h
  exact ⟨fs,MX,h.1.1,h.1.2,h.2⟩
 ·cases h
theorem lZ {t:Nat} {xs ys:List Value} {r:Bool} (h:pP P t xs=true) (he:gq xs ys=some r) (hl:∀ fs,P.underlying t=some (.struct fs)→xs.length=fs.size):(Op.equalIn 10000 t (.agg xs.toArray) (.agg ys.toArray)).run P w=.ok r w:=by
 obtain ⟨fs,hu,h1,h2,h3⟩:=sk h
 have hf:P.fieldsOf t=fs:=by simp [Program.fieldsOf,hu]
 rw [run_equalIn_struct w 9999 t xs.toArray ys.toArray (by rw [hf]; exact hu) h1,hf]
 exact po fs.toList 0 xs ys r 9998 h3 (by simpa using he) (by simpa using hl fs hu)
def nf (tab:Tab) (t:Nat):Option Nat:=match look tab t with | some ⟨_,_,_,_,.struct fs⟩=>some fs.length | _=>none
theorem pE {α β:Type} {f:α→Option β}:∀ {l:List α} {r:List β},l.mapM f=some r→r.length=l.length
 | [],r,h=>by simp at h; subst h; rfl
 | x :: l,r,h=>by
  simp only [List.mapM_cons,bind,Option.bind_eq_some_iff,pure] at h
  obtain ⟨b,hb,q,hq,hr⟩:=h
  simp at hr; subst hr
  simp [pE hq]
theorem structEq (TT:bh P tab) {op:BinOp} {x y:Operand} {t yt:Nat} {xs ys:List Value} {r b:Bool} (h:St n sy ρ a w χ) (hw:bK all sy g=true) (hd:Nat.blt d n=true) (hx:evo sy x=some (V (.agg xs.toArray))) (hy:evo sy y=some (V (.agg ys.toArray)))
  (hf:pP P t xs=true) (hn:nf tab t=some xs.length) (he:gq xs ys=some r) (ho:(match op with | .eql=>some r | .neq=>some (!r) | _=>none)=some b)
  (kk:∀ a',St n ⟨(d,V (.bool b)) :: sy.bc,sy.boxes⟩ ρ a' w χ→K a' w):wp1 P all.toArray Q ⟨some d,.binOp op t x y yt,ty,pos,af,g⟩ K a w:=by
 refine fU h hw hd (Ev.refl aB w χ) (fun _ _=>rfl) (w':=w) ?_ (fun a' h'=>kk a' h')
 have ex:a.eval x=.agg xs.toArray:=h.evo hx
 have ey:a.eval y=.agg ys.toArray:=h.evo hy
 obtain ⟨fs,hu,h1,h2,h3⟩:=sk hf
 have hlen:∀ fs,P.underlying t=some (.struct fs)→xs.length=fs.size:=by
  intro UQ hu'
  unfold nf at hn
  split at hn
  ·rename_i Qu oJ
   obtain ⟨i,dd,z,hi,o0,hz,Oh,jz,iS,fG,gP,_⟩:=bl (TT _ _ oJ)
   obtain ⟨l,rfl,hm⟩:=gP _ rfl
   rw [o0] at hu'
   cases hu'
   have:=pE hm
   simp at hn
   rw [← hn,this,Array.length_toList]
  ·cases hn
 have hq:=lZ (w:=w) hf he hlen
 cases op with
 | eql =>
  simp at ho; subst ho
  simp only [execOp,ex,ey,Sem.run_bind,run_eqGuard_agg w .eql t x y _ _ h2,Result.andThen_ok,run_eql_struct,hq,Sem.run_pure]
 | neq =>
  have hb:b=!r:=(Option.some.inj ho).symm
  subst hb
  simp only [execOp,ex,ey,Sem.run_bind,run_eqGuard_agg w .neq t x y _ _ h2,Result.andThen_ok,run_neq_struct,hq,Sem.run_pure]
 | _=>simp at ho
def br (w0:World) (χ0:Nat→Nat) (bxs:List (Nat × (Nat × List SV))) (ρ:Nat→Nat) (w:World):Prop :=
 (∀ id q,look bxs id=some q→w.heap[ρ id]?=some (.cells (q.2.map (bj ρ)).toArray q.1 (0,0)))∧∀ b,b < w0.heap.size→χ0 b=0→w.heap[b]?=w0.heap[b]?
def r6 (all:List Oper) (listed:Array Bool) (i:Nat):Bool:=!listed.getD i true && (match all[i]? with | some o=>o.after.all (fun e=>!Region.binds .any e || listed.getD e.on false) | none=>false)
theorem vR {all:List Oper} {listed:Array Bool} {i:Nat} (h:r6 all listed i=true):(Region.ready .any all.toArray listed).contains i=true:=by
 unfold r6 at h
 rw [Bool.and_eq_true] at h
 obtain ⟨h1,h2⟩:=h
 cases ho:all[i]? with
 | none=>rw [ho] at h2; cases h2
 | some o =>
  rw [ho] at h2
  have hi:i < all.length:=(List.getElem?_eq_some_iff.1 ho).1
  rw [List.contains_iff_mem]
  unfold Region.ready
  rw [List.mem_filter,List.mem_range]
  refine ⟨by simpa using hi,?_⟩
  rw [Bool.and_eq_true]
  refine ⟨h1,?_⟩
  rw [List.getElem?_toArray,ho]
  simpa using h2
def iV (tab:Tab) (n:Nat) (all:List Oper) (bks:List Nat):List Nat→Array Bool→Sy→Option (Array Bool × Sy)
 | [],listed,sy=>some (listed,sy)
 | i :: is,listed,sy =>
  match all[i]? with
  | some o =>
   bif Region.free .any all.toArray listed i && r6 all listed i && gT n [o] then
    match lW tab false all [o] ⟨sy.bc,sy.boxes.filter (fun q=>bks.any (Nat.beq q.1))⟩ with
    | some s=>iV tab n all bks is (listed.setIfInBounds i true) ⟨s.bc,sy.boxes⟩
    | none=>none
   else none
  | none=>none
theorem br.st (h:St n sy ρ a w χ) {bxs:List (Nat × (Nat × List SV))} (hb:∀ id q,look bxs id=some q→look sy.boxes id=some q) {w0 w1:World} {χ0:Nat→Nat} (H:br w0 χ0 bxs ρ w1):St n ⟨sy.bc,bxs⟩ ρ a w1 χ :=
 ⟨h.size,h.defers,h.bc,fun id q hq=>by
  obtain ⟨h1,h2,_⟩:=h.boxes id q (hb id q hq)
  exact ⟨h1,h2,H.1 id q hq⟩⟩
def Dr (P:Program) (all:List Oper) (Q:Exit→Act→World→Prop) (S:World→Prop) (listed:Array Bool) (fuel:Nat) (a:Act) (w:World):Prop :=
 wpAnyH P .any all.toArray Q S fuel listed a w
theorem sD (TT:bh P tab) (oe:Region.noSelect all.toArray=true) (hn:n≤999) {bks:List Nat} {w0:World} {χ0:Nat→Nat} {nrm ret:Act→World→Prop} {exs:List (Nat × (Act→World→Prop))} :
  ∀ (is:List Nat) {listed listed':Array Bool} {sy sy':Sy} {fuel:Nat} {a:Act},iV tab n all bks is listed sy=some (listed',sy')→St n sy ρ a w χ→br w0 χ0 (sy.boxes.filter (fun q=>bks.any (Nat.beq q.1))) ρ w →
   (∀ a',St n sy' ρ a' w χ→sy'.boxes=sy.boxes→Dr P all (qs nrm ret exs) (br w0 χ0 (sy.boxes.filter (fun q=>bks.any (Nat.beq q.1))) ρ) listed' fuel a' w)→Dr P all (qs nrm ret exs) (br w0 χ0 (sy.boxes.filter (fun q=>bks.any (Nat.beq q.1))) ρ) listed (fuel+is.length) a w
 | [],listed,listed',sy,sy',fuel,a,e,h,H,k=>by
  simp [iV] at e
  obtain ⟨rfl,rfl⟩:=e
  exact k a h rfl
 | i :: is,listed,listed',sy,sy',fuel,a,e,h,H,k=>by
  simp only [iV] at e
  cases ho:all[i]? with
  | none=>simp [ho] at e
  | some o =>
   simp only [ho] at e
   cases hc:(Region.free .any all.toArray listed i && r6 all listed i && gT n [o]) with
   | false=>rw [hc] at e; cases e
   | true =>
    simp only [hc,cond_true] at e
    simp only [Bool.and_eq_true] at hc
    obtain ⟨⟨hf,hr⟩,hd⟩:=hc
    replace hr:=vR hr
    cases hs:lW tab false all [o] ⟨sy.bc,sy.boxes.filter (fun q=>bks.any (Nat.beq q.1))⟩ with
    | none=>simp [hs] at e
    | some s =>
     simp only [hs] at e
     have hb:∀ id q,look (sy.boxes.filter (fun q=>bks.any (Nat.beq q.1))) id=some q→look sy.boxes id=some q:=fun id q hq=>kS hq
     have key:∃ v,YieldsIf P all.toArray (br w0 χ0 (sy.boxes.filter (fun q=>bks.any (Nat.beq q.1))) ρ) o v a∧(St n ⟨s.bc,sy.boxes⟩ ρ (a.put o.dst v) w χ):=by
      have Dt:=(rp hd).1
      have put:∀ sv,s.bc=(match o.dst with | some d=>(d,sv) :: sy.bc | none=>sy.bc)→St n ⟨s.bc,sy.boxes⟩ ρ (a.put o.dst (bj ρ sv)) w χ:=by
       intro sv Ac
       rw [Ac]
       cases fp:o.dst with
       | none=>exact ⟨h.size,h.defers,h.bc,h.boxes⟩
       | some d=>exact h.put (Dt d fp)
      have EI:∀ yV,mH tab false ⟨sy.bc,sy.boxes.filter (fun q=>bks.any (Nat.beq q.1))⟩ o=some yV→some yV=some s→(Region.wanted o (yielded all.toArray a.tmps)=true) →
        ∃ v,YieldsIf P all.toArray (br w0 χ0 (sy.boxes.filter (fun q=>bks.any (Nat.beq q.1))) ρ) o v a∧(St n ⟨s.bc,sy.boxes⟩ ρ (a.put o.dst v) w χ):=by
       intro yV h1 h2 hw
       cases h2
       unfold mH at h1
       cases hv:jO tab ⟨sy.bc,sy.boxes.filter (fun q=>bks.any (Nat.beq q.1))⟩ o with
       | none=>simp [hv] at h1
       | some sv =>
        simp only [hv] at h1
        refine ⟨bj ρ sv,.inl ⟨hw,fun w1 H1=>sC TT (br.st h hb H1) hv⟩,put sv ?_⟩
        cases fp:o.dst with
        | none=>simp only [fp] at h1; cases h1; rfl
        | some d=>simp only [fp] at h1; cases h1; rfl
      have A8:(match o.dst with | some d=>(⟨(d,V Go.undef) :: sy.bc,sy.boxes.filter (fun q=>bks.any (Nat.beq q.1))⟩:Sy) | none=>⟨sy.bc,sy.boxes.filter (fun q=>bks.any (Nat.beq q.1))⟩)=s→(Region.wanted o (yielded all.toArray a.tmps)=false) →
        ∃ v,YieldsIf P all.toArray (br w0 χ0 (sy.boxes.filter (fun q=>bks.any (Nat.beq q.1))) ρ) o v a∧(St n ⟨s.bc,sy.boxes⟩ ρ (a.put o.dst v) w χ):=by
       intro h1 hw
       refine ⟨Go.undef,.inr ⟨hw,rfl⟩,put (V Go.undef) ?_⟩
       rw [← h1]
       cases fp:o.dst <;> rfl
      simp only [lW] at hs
      cases hg:o.guard with
      | none =>
       simp only [hg] at hs
       cases h1:mH tab false ⟨sy.bc,sy.boxes.filter (fun q=>bks.any (Nat.beq q.1))⟩ o with
       | none=>simp [h1] at hs
       | some yV=>simp only [h1] at hs; exact EI yV h1 hs (by simp [Region.wanted,hg])
      | some q =>
       obtain ⟨j,want⟩:=q
       simp only [hg] at hs
       cases ht:pV all j with
       | none=>simp [ht] at hs
       | some tc =>
        simp only [ht] at hs
        split at hs
        ·rename_i b hl
         have hw:=mQ (o:=o) h hg ht hl
         cases Gu:(b == want) with
         | true =>
          simp only [Gu,cond_true] at hs
          cases h1:mH tab false ⟨sy.bc,sy.boxes.filter (fun q=>bks.any (Nat.beq q.1))⟩ o with
          | none=>simp [h1] at hs
          | some yV=>simp only [h1] at hs; exact EI yV h1 hs (hw.trans Gu)
         | false =>
          simp only [Gu,cond_false] at hs
          refine A8 ?_ (hw.trans Gu)
          cases fp:o.dst with
          | none=>simp only [fp] at hs; exact Option.some.inj hs
          | some d=>simp only [fp] at hs; exact Option.some.inj hs
        ·rename_i vs hl
         have hw:=lU (o:=o) h hg ht hl
         refine A8 ?_ hw
         cases fp:o.dst with
         | none=>simp only [fp] at hs; exact Option.some.inj hs
         | some d=>simp only [fp] at hs; exact Option.some.inj hs
        ·cases hs
     obtain ⟨v,hy,h'⟩:=key
     have ih:=sD TT oe hn is (fuel:=fuel) e h' H k
     unfold Dr at *
     exact wpAnyH_take (v:=v) (oi:=o) (by simp [ho]) oe hf hr (fun c a w hq=>hq.elim) hy H ih
end ops
end
end Go.Sv
