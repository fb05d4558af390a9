/- The base of the walks. No condition. -/
import Derived.WalkKit
import Derived.OrdersHeld
import Derived.MapKept
import Derived.Scope
import Derived.Laws.BytesString
import Derived.Lib.Builder
import Derived.Lib.UnsafeStr
import Derived.Lib.AppendStr
import Derived.Lib.ConvBytes
import Derived.Lib.AppendZeros
namespace Go.Sv
open Go
def look {α:Type}:List (Nat × α)→Nat→Option α
 | [],_=>none
 | (k,v) :: l,t=>bif Nat.beq k t then some v else look l t
inductive S0 where
 | v (x:Value)
 | p (id off:Nat)
inductive SV where
 | s (x:S0)
 | f (fn:Fn) (first cap:List S0)
@[reducible] def V (x:Value):SV:=.s (.v x)
@[reducible] def I (n:Int):SV:=.s (.v (.int .i64 n))
@[reducible] def B (b:Bool):SV:=.s (.v (.bool b))
@[reducible] def Pt (id off:Nat):SV:=.s (.p id off)
def dr (ρ:Nat→Nat):S0→Value
 | .v x=>x
 | .p id off=>.pointer (some ⟨ρ id,off,none⟩)
def bD (ρ:Nat→Nat):SV→Value
 | .s x=>dr ρ x
 | .f fn first cap=>.func fn (first.map (dr ρ)).toArray (cap.map (dr ρ)).toArray
structure Sy where
 bK:List (Nat × SV)
 boxes:List (Nat × (Nat × List SV))
inductive TD where
 | int (k:IntKind)
 | slice (e:Nat)
 | str
 | bool
 | struct (fs:List (Nat × Nat × Nat))   -- offset,size,type
 | array (n e OT:Nat)
 | other
structure TyS where
 size:Nat
 bytes:Nat
 zero:List Value
 agg:Bool
 d:TD
def tyS (P:Program) (t:Nat):Option TyS :=
 match P.info? t,P.underlying t with
 | some i,some d =>
  match i.zero with
  | some z =>
   match d with
   | .struct fs =>
    match fs.toList.mapM (fun f=>(P.info? f.type).map (fun j=>(f.offset,j.size,f.type))) with
    | some l=>some ⟨i.size,i.bytes,z.cells.toList,true,.struct l⟩
    | none=>none
   | .array n e=>match P.info? e with
    | some j=>some ⟨i.size,i.bytes,z.cells.toList,true,.array n e j.size⟩
    | none=>none
   | .int k=>some ⟨i.size,i.bytes,z.cells.toList,false,.int k⟩
   | .slice e=>some ⟨i.size,i.bytes,z.cells.toList,false,.slice e⟩
   | .string=>some ⟨i.size,i.bytes,z.cells.toList,false,.str⟩
   | .bool=>some ⟨i.size,i.bytes,z.cells.toList,false,.bool⟩
   | _=>some ⟨i.size,i.bytes,z.cells.toList,false,.other⟩
  | none=>none
 | _,_=>none
abbrev Tab:=List (Nat × TyS)
def aD (P:Program) (tab:Tab):Prop:=∀ t s,look tab t=some s→tyS P t=some s
theorem aD.nil (P:Program):aD P []:=fun _ _ h=>by cases h
theorem aD.cons {P:Program} {t:Nat} {s:TyS} {tab:Tab} (h:tyS P t=some s) (r:aD P tab):aD P ((t,s) :: tab):=by
 intro t' s' h'
 simp only [look] at h'
 cases hb:Nat.beq t t' with
 | true=>rw [hb] at h'; simp at h'; subst h'; rw [← Nat.eq_of_beq_eq_true hb]; exact h
 | false=>rw [hb] at h'; simp at h'; exact r _ _ h'
def plain:List SV→Option (List Value)
 | []=>some []
 | .s (.v x) :: l=>match plain l with
  | some r=>some (x :: r)
  | none=>none
 | _=>none
def cellsOf:SV→List SV
 | .s (.v (.agg cs))=>cs.toList.map V
 | x=>[x]
def s0s:List SV→Option (List S0)
 | []=>some []
 | .s x :: l=>match s0s l with
  | some r=>some (x :: r)
  | none=>none
 | _=>none
section sym
variable (tab:Tab)
def evo (sy:Sy):Operand→Option SV
 | .tmp t=>look sy.bK t
 | .const v=>some (V v)
 | .func f=>some (.f (.func f) [] [])
 | .global _=>none
def evs (sy:Sy):List Operand→Option (List SV)
 | []=>some []
 | x :: l=>match evo sy x,evs sy l with
  | some v,some r=>some (v :: r)
  | _,_=>none
def wr (Ok:List SV) (off:Nat) (new:List SV):List SV:=Ok.take off++new++Ok.drop (off+new.length)
def ry (fs:Nat→Option (Nat × Nat)):List (Nat × Value)→List Value→Option (List Value)
 | [],cs=>some cs
 | (i,v) :: rest,cs =>
  match fs i with
  | some (off,size) =>
   bif Nat.beq v.cells.size size && Nat.ble (off+size) cs.length then ry fs rest (cs.take off++v.cells.toList++cs.drop (off+size)) else none
  | none=>none
def cmp (op:BinOp) (a b:Int):Option Bool :=
 match op with
 | .eql=>some (a == b)
 | .neq=>some (a != b)
 | .lss=>some (decide (a < b))
 | .leq=>some (decide (a≤b))
 | .gtr=>some (decide (a > b))
 | .geq=>some (decide (a≥b))
 | _=>none
def arith (op:BinOp) (k:IntKind) (a b:Int):Option Value :=
 match op with
 | .add=>some (.int k (k.wrap (a+b)))
 | .sub=>some (.int k (k.wrap (a - b)))
 | .mul=>some (.int k (k.wrap (a * b)))
 | .and=>some (.int k (k.wrap (BitVec.ofInt k.bits a &&& BitVec.ofInt k.bits b).toNat))
 | .or=>some (.int k (k.wrap (BitVec.ofInt k.bits a ||| BitVec.ofInt k.bits b).toNat))
 | .xor=>some (.int k (k.wrap (BitVec.ofInt k.bits a ^^^ BitVec.ofInt k.bits b).toNat))
 | .andNot=>some (.int k (k.wrap (BitVec.ofInt k.bits a &&& ~~~BitVec.ofInt k.bits b).toNat))
 | _=>match cmp op a b with
  | some r=>some (.bool r)
  | none=>none
def sameKind:IntKind→IntKind→Bool
 | .i8,.i8 | .i16,.i16 | .i32,.i32 | .i64,.i64 | .u8,.u8 | .u16,.u16 | .u32,.u32 | .u64,.u64=>true
 | _,_=>false
def tw (op:BinOp) (k:IntKind) (a b:Int):Option Value :=
 match op with
 | .shl=>(match b with | .ofNat n=>some (.int k (k.wrap (a * 2 ^ (min n k.bits)))) | _=>none)
 | .shr=>(match b with | .ofNat n=>some (.int k (a.fdiv (2 ^ (min n k.bits)))) | _=>none)
 | _=>none
def jQ (sy:Sy) (o:Oper):Option SV :=
 match o.op with
 | .move x=>evo sy x
 | .assign x=>evo sy x
 | .pick c a b =>
  match evo sy c with
  | some (.s (.v (.bool true)))=>evo sy a
  | some (.s (.v (.bool false)))=>evo sy b
  | _=>none
 | .nilCheck x =>
  match evo sy x with
  | some (.s (.p id off))=>some (Pt id off)
  | _=>none
 | .load t x =>
  match evo sy x,look tab t with
  | some (.s (.p id off)),some ty =>
   match look sy.boxes id with
   | some (_,cs) =>
    bif ty.agg then
     (bif Nat.ble (off+ty.size) cs.length then
      (match plain ((cs.drop off).take ty.size) with
       | some vs=>some (V (.agg vs.toArray))
       | none=>none)
      else none)
    else cs[off]?
   | none=>none
  | _,_=>none
 | .fieldAddr s x f =>
  match evo sy x,look tab s with
  | some (.s (.p id off)),some ⟨_,_,_,_,.struct fs⟩ =>
   match fs[f]? with
   | some (xO,sX,_)=>bif Nat.ble 1 sX then some (Pt id (off+xO)) else none
   | none=>none
  | _,_=>none
 | .field s x f =>
  match evo sy x,look tab s with
  | some (.s (.v (.agg cs))),some ⟨_,_,_,_,.struct fs⟩ =>
   match fs[f]? with
   | some (xO,sX,ft) =>
    match look tab ft with
    | some ty=>bif ty.agg then (bif Nat.beq ty.size sX then some (V (.agg (cs.extract xO (xO+sX)))) else none) else
      (match cs.toList[xO]? with | some v=>some (V v) | none=>none)
    | none=>none
   | none=>none
  | _,_=>none
 | .build t parts =>
  match look tab t,plain ((parts.toList.map (fun q=>(evo sy q.2).getD (Pt 0 0)))) with
  | some ⟨_,_,z,_,.struct fs⟩,some vs =>
   match ry (fun i=>(fs[i]?).map (fun q=>(q.1,q.2.1))) ((parts.toList.map (·.1)).zip vs) z with
   | some cs=>some (V (.agg cs.toArray))
   | none=>none
  | some ⟨_,_,z,_,.array _ _ es⟩,some vs =>
   match ry (fun i=>some (i * es,es)) ((parts.toList.map (·.1)).zip vs) z with
   | some cs=>some (V (.agg cs.toArray))
   | none=>none
  | _,_=>none
 | .extract t i =>
  match evo sy t with
  | some (.s (.v (.tuple vs)))=>match vs.toList[i]? with | some v=>some (V v) | none=>none
  | _=>none
 | .binOp op t x y _ =>
  match evo sy x,evo sy y with
  | some (.s (.v (.int k a))),some (.s (.v (.int k' b)))=>(match tw op k a b with | some v=>some (V v) | none=>bif sameKind k k' then (match arith op k a b with | some v=>some (V v) | none=>none) else none)
  | some (.s (.v (.bool a))),some (.s (.v (.bool b))) =>
   (match look tab t with
    | some ⟨_,_,_,_,.bool⟩=>(match op with | .eql=>some (B (a == b)) | .neq=>some (B (a != b)) | _=>none)
    | _=>none)
  | some (.s (.v (.string a))),some (.s (.v (.string b)))=>(match op with | .eql=>some (B (a.data.toList == b.data.toList)) | .neq=>some (B (!(a.data.toList == b.data.toList))) | _=>none)
  | _,_=>none
 | .indexAddr t x y =>
  match evo sy x,evo sy y,look tab t with
  | some (.s (.p id off)),some (.s (.v (.int _ (.ofNat i)))),some ⟨_,_,_,_,.array m _ es⟩=>bif Nat.blt i m then some (Pt id (off+i * es)) else none
  | _,_,_=>none
 | .unOp op _ x =>
  match op,evo sy x with
  | .not,some (.s (.v (.bool b)))=>some (B (!b))
  | .neg,some (.s (.v (.int k n)))=>some (V (.int k (k.wrap (0 - n))))
  | _,_=>none
 | .convert src dst x =>
  match evo sy x,look tab dst with
  | some (.s (.v (.int _ n))),some ⟨_,_,_,_,.int k⟩=>(match look tab src with | some _=>some (V (.int k (k.wrap n))) | none=>none)
  | _,_=>none
 | .makeFunc fn first cap =>
  match evs sy first.toList,evs sy cap.toList with
  | some l,some m=>match s0s l,s0s m with
   | some l,some m=>some (.f fn l m)
   | _,_=>none
  | _,_=>none
 | .call { callee:=.builtin .len,args:=args,argTypes:=zx } =>
  match args.toList,zx.toList with
  | [x],[t] =>
   match evo sy x,look tab t with
   | some (.s (.v (.slice _ n _))),some ⟨_,_,_,_,.slice _⟩=>some (I n)
   | some (.s (.v (.string s))),some ⟨_,_,_,_,.str⟩=>some (I s.size)
   | _,_=>none
  | _,_=>none
 | .call { callee:=.builtin .min,args:=args,argTypes:=zx } =>
  match args.toList with
  | [x,y] =>
   match evo sy x,evo sy y with
   | some (.s (.v (.int k a))),some (.s (.v (.int _ b)))=>some (V (.int k (if b < a then b else a)))
   | _,_=>none
  | _=>none
 | .call { callee:=.builtin .max,args:=args,argTypes:=zx } =>
  match args.toList with
  | [x,y] =>
   match evo sy x,evo sy y with
   | some (.s (.v (.int k a))),some (.s (.v (.int _ b)))=>some (V (.int k (if b > a then b else a)))
   | _,_=>none
  | _=>none
 | _=>none
def lM (id:Nat):S0→Bool
 | .p i _=>Nat.beq i id
 | _=>false
def names (id:Nat):SV→Bool
 | .s x=>lM id x
 | .f _ l m=>l.any (lM id) || m.any (lM id)
def ni (id:Nat) (sy:Sy):Bool :=
 sy.bK.all (fun q=>!names id q.2) && sy.boxes.all (fun q=>!Nat.beq q.1 id && q.2.2.all (fun c=>!names id c))
def ra (sy:Sy) (d t:Nat) (cs:List SV):Option Sy :=
 bif ni (d+1) sy then some ⟨(d,Pt (d+1) 0) :: sy.bK,(d+1,(t,cs)) :: sy.boxes⟩ else none
def mf (mem:Bool) (sy:Sy) (o:Oper):Option Sy :=
 match jQ tab sy o with
 | some v=>match o.dst with
  | some d=>some ⟨(d,v) :: sy.bK,sy.boxes⟩
  | none=>some sy
 | none =>
  bif mem then
   match o.op,o.dst with
   | .box t x,some d =>
    match evo sy x with
    | some v=>ra sy d t (cellsOf v)
    | none=>none
   | .alloc t,some d =>
    match look tab t with
    | some ty=>ra sy d t (ty.zero.map V)
    | none=>none
   | .store t x y,none =>
    match evo sy x,evo sy y,look tab t with
    | some (.s (.p id off)),some v,some ty =>
     match look sy.boxes id with
     | some (bt,cs) =>
      bif Nat.beq (cellsOf v).length ty.size && Nat.ble (off+(cellsOf v).length) cs.length && (cellsOf v).all (fun c=>match c with | .s (.v (.agg _))=>false | .s (.v (.tuple _))=>false | _=>true) then
       some ⟨sy.bK,(id,(bt,wr cs off (cellsOf v))) :: sy.boxes⟩ else none
     | none=>none
    | _,_,_=>none
   | _,_=>none
  else none
def oC (all:List Oper) (j:Nat):Option Nat :=
 match all[j]? with
 | some o=>o.dst
 | none=>none
def lH (mem:Bool) (all:List Oper):List Oper→Sy→Option Sy
 | [],sy=>some sy
 | o :: rest,sy =>
  match o.guard with
  | none=>match mf tab mem sy o with
   | some sy'=>lH mem all rest sy'
   | none=>none
  | some (j,want) =>
   match oC all j with
   | some tc =>
    match look sy.bK tc with
    | some (.s (.v (.bool b))) =>
     bif b == want then (match mf tab mem sy o with
      | some sy'=>lH mem all rest sy'
      | none=>none)
     else (match o.dst with
      | some d=>lH mem all rest ⟨(d,V undef) :: sy.bK,sy.boxes⟩
      | none=>lH mem all rest sy)
    | some (.s (.v (.tuple _))) =>
     (match o.dst with
      | some d=>lH mem all rest ⟨(d,V undef) :: sy.bK,sy.boxes⟩
      | none=>lH mem all rest sy)
    | _=>none
   | none=>none
end sym
structure Ev (p:Nat→Bool) (w:World) (χ:Nat→Nat) (w':World) (χ':Nat→Nat):Prop where
 os:w'.os=w.os
 tape:w'.tape=w.tape
 output:w'.output=w.output
 size:w.heap.size≤w'.heap.size
 eT:∀ b,b < w.heap.size→p (χ b)=false→w'.heap[b]?=w.heap[b]?∧χ' b=χ b
theorem Ev.refl (p:Nat→Bool) (w:World) (χ:Nat→Nat):Ev p w χ w χ:=⟨rfl,rfl,rfl,Nat.le_refl _,fun _ _ _=>⟨rfl,rfl⟩⟩
theorem Ev.trans {p:Nat→Bool} {w w1 w2:World} {χ χ1 χ2:Nat→Nat} (h:Ev p w χ w1 χ1) (k:Ev p w1 χ1 w2 χ2):Ev p w χ w2 χ2 :=
 ⟨k.os.trans h.os,k.tape.trans h.tape,k.output.trans h.output,Nat.le_trans h.size k.size,fun b hb hp=>by
  obtain ⟨h1,h2⟩:=h.eT b hb hp
  obtain ⟨k1,k2⟩:=k.eT b (Nat.lt_of_lt_of_le hb h.size) (by rw [h2]; exact hp)
  exact ⟨k1.trans h1,k2.trans h2⟩⟩
def iM (c:Nat):Bool:=Nat.ble 1 c && Nat.ble c 999
def aL (_:Nat):Bool:=false
def fZ (k c:Nat):Bool:=Nat.beq c k
structure St (n:Nat) (sy:Sy) (ρ:Nat→Nat) (a:Act) (w:World) (χ:Nat→Nat):Prop where
 size:a.tmps.size=n
 defers:a.defers=[]
 bK:∀ t sv,look sy.bK t=some sv→a.tmps[t]?=some (bD ρ sv)
 boxes:∀ id q,look sy.boxes id=some q→χ (ρ id)=id∧iM id=true∧w.heap[ρ id]?=some (.cells (q.2.map (bD ρ)).toArray q.1 (0,0))
section
variable {P:Program} {tab:Tab} {n:Nat} {sy:Sy} {ρ:Nat→Nat} {a:Act} {w:World} {χ:Nat→Nat}
theorem St.evo (h:St n sy ρ a w χ) {x:Operand} {sv:SV} (e:evo sy x=some sv):a.eval x=bD ρ sv:=by
 cases x with
 | tmp t =>
  have:=h.bK t sv e
  simp [Act.eval,Array.getD_eq_getD_getElem?,this]
 | const v=>simp [Sv.evo] at e; subst e; rfl
 | global g=>simp [Sv.evo] at e
 | func f=>simp [Sv.evo] at e; subst e; rfl
theorem St.evs (h:St n sy ρ a w χ):∀ {l:List Operand} {r:List SV},evs sy l=some r→l.map a.eval=r.map (bD ρ)
 | [],r,e=>by simp [Sv.evs] at e; subst e; rfl
 | x :: l,r,e=>by
  simp only [Sv.evs] at e
  cases h1:Sv.evo sy x with
  | none=>simp [h1] at e
  | some v =>
   cases h2:Sv.evs sy l with
   | none=>simp [h1,h2] at e
   | some q =>
    simp [h1,h2] at e
    subst e
    simp [h.evo h1,h.evs h2]
theorem nD:∀ {l:List SV} {vs:List Value},plain l=some vs→l=vs.map V
 | [],vs,e=>by simp [plain] at e; subst e; rfl
 | .s (.v x) :: l,vs,e=>by
  simp only [plain] at e
  cases h:plain l with
  | none=>simp [h] at e
  | some r=>simp [h] at e; subst e; rw [nD h]; rfl
 | .s (.p _ _) :: l,vs,e=>by simp [plain] at e
 | .f _ _ _ :: l,vs,e=>by simp [plain] at e
theorem qB:∀ {l:List SV} {r:List S0},s0s l=some r→l.map (bD ρ)=r.map (dr ρ)
 | [],r,e=>by simp [s0s] at e; subst e; rfl
 | .s x :: l,r,e=>by
  simp only [s0s] at e
  cases h:s0s l with
  | none=>simp [h] at e
  | some q=>simp [h] at e; subst e; simp [qB h,bD]
 | .f _ _ _ :: l,r,e=>by simp [s0s] at e
@[simp] theorem ki (ρ:Nat→Nat) (vs:List Value):(vs.map V).map (bD ρ)=vs:=by
 induction vs with
 | nil=>rfl
 | cons x l ih=>rw [List.map_cons,List.map_cons,ih]; rfl
theorem kC {α:Type} {b:Bool} {x y:α} (h:(bif b then some x else none)=some y):b=true∧x=y:=by
 cases b <;> simp_all
def isA:TypeDesc→Bool
 | .struct _=>true
 | .array _ _=>true
 | _=>false
theorem cB {t:Nat} {s:TyS} (h:tyS P t=some s):∃ i d z,P.info? t=some i∧P.underlying t=some d∧i.zero=some z∧i.size=s.size∧i.bytes=s.bytes∧z.cells.toList=s.zero ∧
  s.agg=(isA d) ∧
  (∀ fs,s.d=.struct fs→∃ l,d=.struct l∧l.toList.mapM (fun f=>(P.info? f.type).map (fun j=>(f.offset,j.size,f.type)))=some fs) ∧
  (∀ n e es,s.d=.array n e es→d=.array n e∧∃ j,P.info? e=some j∧j.size=es) ∧
  (∀ k,s.d=.int k→d=.int k)∧(∀ e,s.d=.slice e→d=.slice e)∧(s.d=.str→d=.string)∧(s.d=.bool→d=.bool):=by
 unfold tyS at h
 cases hi:P.info? t with
 | none=>simp [hi] at h
 | some i =>
  cases hd:P.underlying t with
  | none=>simp [hi,hd] at h
  | some d =>
   cases hz:i.zero with
   | none=>simp [hi,hd,hz] at h
   | some z =>
    simp only [hi,hd,hz] at h
    refine ⟨i,d,z,rfl,rfl,hz,?_⟩
    cases d with
    | struct fs =>
     simp only [] at h
     split at h
     ·rename_i l hl
      simp at h; subst h
      refine ⟨rfl,rfl,rfl,rfl,?_,by simp,by simp,by simp,by simp,by simp⟩
      intro OP hf; simp at hf; subst hf; exact ⟨fs,rfl,hl⟩
     ·simp at h
    | array n e =>
     simp only [] at h
     split at h
     ·rename_i j hj
      simp at h; subst h
      refine ⟨rfl,rfl,rfl,rfl,by simp,?_,by simp,by simp,by simp,by simp⟩
      intro n' e' es hf; simp at hf; obtain ⟨rfl,rfl,rfl⟩:=hf; exact ⟨rfl,j,hj,rfl⟩
     ·simp at h
    | _=>simp at h; subst h; simp_all [isA]
theorem lv {α β:Type} {f:α→Option β}:∀ {l:List α} {r:List β},l.mapM f=some r→∀ (i:Nat) (y:β),r[i]?=some y→∃ x,l[i]?=some x∧f x=some y
 | [],r,h,i,y,hy=>by simp at h; subst h; simp at hy
 | x :: l,r,h,i,y,hy=>by
  simp only [List.mapM_cons,bind,Option.bind_eq_some_iff,pure] at h
  obtain ⟨b,hb,q,hq,hr⟩:=h
  simp at hr; subst hr
  cases i with
  | zero=>simp at hy; subst hy; exact ⟨x,by simp,hb⟩
  | succ i=>simp at hy; obtain ⟨x',h1,h2⟩:=lv hq i y hy; exact ⟨x',by simpa using h1,h2⟩
theorem dQ {α:Type} {k:Nat} {v:α} {l:List (Nat × α)} {t:Nat} {x:α} (h:look ((k,v) :: l) t=some x):(k=t∧v=x)∨(k≠t∧look l t=some x):=by
 simp only [look] at h
 cases hb:Nat.beq k t with
 | true=>rw [hb] at h; simp at h; exact .inl ⟨Nat.eq_of_beq_eq_true hb,h⟩
 | false=>rw [hb] at h; simp at h; exact .inr ⟨fun e=>by rw [e] at hb; simp at hb,h⟩
theorem St.put (h:St n sy ρ a w χ) {d:Nat} (hd:d < n) {sv:SV}:St n ⟨(d,sv) :: sy.bK,sy.boxes⟩ ρ (a.put (some d) (bD ρ sv)) w χ:=by
 refine ⟨by simp [Act.put,h.size],h.defers,?_,h.boxes⟩
 intro t Lh e
 rcases dQ e with ⟨rfl,rfl⟩ | ⟨hne,e'⟩
 ·simp [Act.put,h.size,hd]
 ·simp only [Act.put]
  rw [Array.getElem?_setIfInBounds_ne hne]
  exact h.bK t Lh e'
theorem run_sizeOf {t:Nat} {i:TypeInfo} (h:P.info? t=some i):(sizeOf t).run P w=.ok i.size w:=by simp [sizeOf,typeInfo,h]
theorem gb {t:Nat} {d:TypeDesc} (h:P.underlying t=some d):(isAgg t).run P w=.ok (isA d) w:=by
 simp only [isAgg,Sem.run_bind,run_underlying h,Result.andThen_ok]
 cases d <;> rfl
theorem v5 {b:Nat} {cs:List Value} {t:Nat} (h:w.heap[b]?=some (.cells cs.toArray t (0,0))) (off:Nat):w.cell? ⟨b,off,none⟩=cs[off]?:=by
 simp [World.cell?,h]
theorem l0 {t b off:Nat} {i:TypeInfo} {d:TypeDesc} {cs:List Value} {bt:Nat} (hi:P.info? t=some i) (hd:P.underlying t=some d)
  (ha:isA d=true) (hb:w.heap[b]?=some (.cells cs.toArray bt (0,0))) (hl:off+i.size≤cs.length) :
  (loadVar t ⟨b,off,none⟩).run P w=.ok (.agg ((cs.drop off).take i.size).toArray) w:=by
 simp only [loadVar,Sem.run_bind,gb hd,ha,Result.andThen_ok,if_true,run_sizeOf hi]
 have hlen:((cs.drop off).take i.size).length=i.size:=by simp; omega
 have:=run_loadCells_list (P:=P) w ⟨b,off,none⟩ ((cs.drop off).take i.size) (fun j v hj=>by
  rw [Addr.add_lit,v5 hb]
  rw [List.getElem?_take] at hj
  split at hj
  ·simpa [Nat.add_comm] using hj
  ·cases hj)
 rw [hlen] at this
 simp [this]
theorem lZ {t b off:Nat} {d:TypeDesc} {cs:List Value} {bt:Nat} {v:Value} (hd:P.underlying t=some d)
  (ha:isA d=false) (hb:w.heap[b]?=some (.cells cs.toArray bt (0,0))) (hl:cs[off]?=some v) :
  (loadVar t ⟨b,off,none⟩).run P w=.ok v w:=by
 simp only [loadVar,Sem.run_bind,gb hd,ha,Result.andThen_ok]
 have:=v5 hb off
 rw [hl] at this
 simp [this]
theorem pA {k k':IntKind} (h:sameKind k k'=true):k=k':=by
 cases k <;> cases k' <;> first | rfl | (simp [sameKind] at h)
theorem zV {op:BinOp} {k:IntKind} {p q:Int} {v:Value} (t:Nat) (h:arith op k p q=some v):(binOp op t (.int k p) (.int k q)).run P w=.ok v w:=by
 cases op <;> simp [arith,cmp] at h <;> subst h <;> simp [binOp,Op.intArith,Op.intCmp,Op.intBits]
theorem uU {op:BinOp} {k k':IntKind} {p q:Int} {v:Value} (t:Nat) (h:tw op k p q=some v):(binOp op t (.int k p) (.int k' q)).run P w=.ok v w:=by
 cases op <;> simp only [tw] at h <;> try (cases h; done)
 all_goals
  split at h
  ·rename_i n
   simp at h; subst h
   simp [binOp,Op.shift]
   intro h
   omega
  ·cases h
theorem jC (op:BinOp) (t:Nat) (x y:Operand) (k:IntKind) (p:Int) (v:Value):(eqGuard op t x y (.int k p) v).run P w=.ok () w:=by
 rw [eqGuard_at_int]; rfl
theorem lT (place:Nat→Option (Nat × Nat)):∀ (l:List (Nat × Value)) (cs r:List Value),ry place l cs=some r→Instr.fill place cs.toArray l=some r.toArray
 | [],cs,r,h=>by simp [ry] at h; subst h; rfl
 | (i,v) :: rest,cs,r,h=>by
  simp only [ry] at h
  simp only [Instr.fill]
  cases hp:place i with
  | none=>simp [hp] at h
  | some q =>
   obtain ⟨off,size⟩:=q
   simp only [hp] at h ⊢
   cases hc:(Nat.beq v.cells.size size && Nat.ble (off+size) cs.length) with
   | false=>simp [hc] at h
   | true =>
    simp only [hc,cond_true] at h
    rw [Bool.and_eq_true] at hc
    have h1:v.cells.size=size:=Nat.eq_of_beq_eq_true hc.1
    have h2:off+size≤cs.length:=Nat.le_of_ble_eq_true hc.2
    subst h1
    have hw:(decide (v.cells.size≠v.cells.size) || decide (off+v.cells.size > cs.toArray.size))=false:=by simp; omega
    rw [if_neg (by simpa using h2)]
    have key:(v.cells.zipIdx.foldl (fun cs (c,j)=>cs.setIfInBounds (off+j) c) cs.toArray)=(cs.take off++v.cells.toList++cs.drop (off+v.cells.size)).toArray:=by
     have gen:∀ (l:List Value) (j:Nat) (cur:List Value),off+j+l.length≤cur.length →
       (l.zipIdx j).foldl (fun (cs:Array Value) (c:Value × Nat)=>cs.setIfInBounds (off+c.2) c.1) cur.toArray=(cur.take (off+j)++l++cur.drop (off+j+l.length)).toArray:=by
      intro l
      induction l with
      | nil=>intro j cur _; simp
      | cons c l ih =>
       intro j cur hl
       simp only [List.zipIdx_cons,List.foldl_cons,List.length_cons] at hl ⊢
       have e:cur.toArray.setIfInBounds (off+j) c=(cur.set (off+j) c).toArray:=by simp
       rw [e,ih (j+1) (cur.set (off+j) c) (by simp; omega)]
       congr 1
       apply List.ext_getElem?
       intro m
       simp only [List.append_assoc,List.getElem?_append,List.length_take,List.length_set,List.getElem?_take,List.getElem?_set,List.getElem?_drop,List.getElem?_cons,List.length_cons]
       have hlen:off+j < cur.length:=by omega
       by_cases c1:m < off+j
       ·simp [show m < min (off+(j+1)) cur.length by omega,show m < min (off+j) cur.length by omega,c1,show m < off+(j+1) by omega,show ¬ off+j=m by omega]
       ·by_cases c2:m=off+j
        ·subst c2
         simp [show off+j < min (off+(j+1)) cur.length by omega,hlen,show min (off+j) cur.length=off+j by omega,show off+j < off+(j+1) by omega]
        ·have c3:¬ m < min (off+(j+1)) cur.length:=by omega
         have c4:¬ m < min (off+j) cur.length:=by omega
         simp only [c3,c4,if_false]
         rw [show min (off+(j+1)) cur.length=off+j+1 by omega,show min (off+j) cur.length=off+j by omega]
         by_cases c5:m - (off+j+1) < l.length
         ·simp [c5,show m - (off+j) < l.length+1 by omega,show ¬ m - (off+j)=0 by omega,show m - (off+j) - 1=m - (off+j+1) by omega]
         ·simp only [c5,if_false]
          rw [if_neg (by omega)]
          rw [if_neg (by omega)]
          congr 1
          omega
     have:=gen v.cells.toList 0 cs (by simpa using h2)
     simp only [Nat.add_zero,Array.length_toList] at this
     rw [← this]
     rw [← Array.foldl_toList]
     simp [Array.toList_zipIdx]
    rw [key]
    exact lT place rest _ r h
theorem nh (h:St n sy ρ a w χ):∀ (l:List (Nat × Operand)) (vs:List Value),plain (l.map (fun q=>(evo sy q.2).getD (Pt 0 0)))=some vs →
  l.map (fun q=>(q.1,a.eval q.2))=(l.map (·.1)).zip vs
 | [],vs,e=>by simp [plain] at e; subst e; rfl
 | q :: l,vs,e=>by
  simp only [List.map_cons] at e
  cases hq:evo sy q.2 with
  | none=>simp [hq,plain,Pt] at e
  | some sv =>
   rw [hq] at e
   simp only [Option.getD_some] at e
   match sv,hq,e with
   | .s (.v x),hq,e =>
    simp only [plain] at e
    cases hr:plain (l.map (fun q=>(evo sy q.2).getD (Pt 0 0))) with
    | none=>simp [hr] at e
    | some r =>
     simp [hr] at e
     subst e
     simp [nh h l r hr,h.evo hq,bD,dr]
   | .s (.p _ _),hq,e=>simp [plain] at e
   | .f _ _ _,hq,e=>simp [plain] at e
theorem vp {fs:Array Field} {l:List (Nat × Nat × Nat)} (h:fs.toList.mapM (fun f=>(P.info? f.type).map (fun j=>(f.offset,j.size,f.type)))=some l) :
  (fs.mapM (fun f=>(do pure (f.offset,← sizeOf f.type):Sem (Nat × Nat)))).run P w=.ok (l.map (fun q=>(q.1,q.2.1))).toArray w:=by
 have gen:∀ (fl:List Field) (l:List (Nat × Nat × Nat)),fl.mapM (fun f=>(P.info? f.type).map (fun j=>(f.offset,j.size,f.type)))=some l →
   (fl.mapM (fun f=>(do pure (f.offset,← sizeOf f.type):Sem (Nat × Nat)))).run P w=.ok (l.map (fun q=>(q.1,q.2.1))) w:=by
  intro fl
  induction fl with
  | nil=>intro l h; simp at h; subst h; rfl
  | cons f fl ih =>
   intro l h
   simp only [List.mapM_cons,bind,Option.bind_eq_some_iff,pure] at h
   obtain ⟨b,hb,q,hq,hr⟩:=h
   simp at hr; subst hr
   simp only [Option.map_eq_some_iff] at hb
   obtain ⟨j,hj,rfl⟩:=hb
   simp only [List.mapM_cons,Sem.run_bind,run_sizeOf hj,Result.andThen_ok,Sem.run_pure,ih q hq,List.map_cons]
 rw [Array.mapM_eq_mapM_toList,Sem.run_map,gen _ _ h]
 rfl
theorem uQ (hT:aD P tab) (h:St n sy ρ a w χ) {o:Oper} {sv:SV} (e:jQ tab sy o=some sv):(execOp a.eval o).run P w=.ok (.value (bD ρ sv)) w:=by
 obtain ⟨dst,op,ty,pos,after,guard⟩:=o
 cases op with
 | move x=>simp only [jQ] at e; simp [execOp,h.evo e]
 | assign x=>simp only [jQ] at e; simp [execOp,h.evo e]
 | pick c x y =>
  simp only [jQ] at e
  split at e
  ·rename_i hc; simp [execOp,h.evo hc,h.evo e,bD,dr,asBool]
  ·rename_i hc; simp [execOp,h.evo hc,h.evo e,bD,dr,asBool]
  ·cases e
 | nilCheck x =>
  simp only [jQ] at e
  split at e
  ·rename_i id off hx
   simp at e; subst e
   simp [execOp,h.evo hx,bD,dr]
  ·cases e
 | load t x =>
  simp only [jQ] at e
  split at e
  ·rename_i id off Of hx ht
   split at e
   ·rename_i bt cs hb
    obtain ⟨i,d,z,hi,hd,hz,hs,mN,lz,ju,_⟩:=cB (hT _ _ ht)
    obtain ⟨_,_,kM⟩:=h.boxes _ _ hb
    cases ha:Of.agg with
    | true =>
     simp only [ha,cond_true] at e
     cases hle:Nat.ble (off+Of.size) cs.length with
     | false=>simp [hle] at e
     | true =>
      simp only [hle,cond_true] at e
      split at e
      ·rename_i vs hp
       simp at e; subst e
       have Ci:=nD hp
       have:=l0 (P:=P) (w:=w) (off:=off) hi hd (by rw [← ju,ha]) kM (by simp [hs]; exact Nat.le_of_ble_eq_true hle)
       rw [← List.map_drop,← List.map_take,hs,Ci,ki] at this
       simp [execOp,h.evo hx,bD,dr,Instr.loadAt,Instr.sureAddr,this]
      ·cases e
    | false =>
     simp only [ha,cond_false] at e
     have:=lZ (P:=P) (w:=w) (off:=off) (v:=bD ρ sv) hd (by rw [← ju,ha]) kM (by simp [e])
     simp [execOp,h.evo hx,bD,dr,Instr.loadAt,Instr.sureAddr,this]
   ·cases e
  ·cases e
 | fieldAddr s x f =>
  simp only [jQ] at e
  split at e
  ·rename_i id off sz DG z ag fs hx ht
   split at e
   ·rename_i xO sX ft hf
    obtain ⟨i,d,z,hi,hd,hz,hs,mN,lz,ju,kp,_⟩:=cB (hT _ _ ht)
    obtain ⟨MT,xI⟩:=kC e
    subst xI
    obtain ⟨l,rfl,hm⟩:=kp fs rfl
    obtain ⟨fd,xM,zc⟩:=lv hm f _ hf
    simp only [Option.map_eq_some_iff,Prod.mk.injEq] at zc
    obtain ⟨j,hj,rfl,rfl,rfl⟩:=zc
    have hne:¬ j.size=0:=by have:=Nat.le_of_ble_eq_true MT; omega
    simp only [Array.getElem?_toList] at xM
    simp [execOp,h.evo hx,bD,dr,Instr.fieldAt,run_underlying hd,xM,Instr.sureAddr,fieldPlace,run_sizeOf hj,hne,Addr.add_lit]
   ·cases e
  ·cases e
 | field s x f =>
  simp only [jQ] at e
  split at e
  ·rename_i cs sz DG z ag fs hx ht
   split at e
   ·rename_i xO sX ft hf
    obtain ⟨i,d,z,hi,hd,hz,hs,mN,lz,ju,kp,_⟩:=cB (hT _ _ ht)
    obtain ⟨l,rfl,hm⟩:=kp fs rfl
    obtain ⟨fd,xM,zc⟩:=lv hm f _ hf
    simp only [Option.map_eq_some_iff,Prod.mk.injEq] at zc
    obtain ⟨j,hj,rfl,rfl,rfl⟩:=zc
    simp only [Array.getElem?_toList] at xM
    split at e
    ·rename_i PK KI
     obtain ⟨i2,d2,z2,Cn,Fu,SS,hs2,QY,PR,zh,_⟩:=cB (hT _ _ KI)
     cases ha:PK.agg with
     | true =>
      simp only [ha,cond_true] at e
      obtain ⟨Q3,xI⟩:=kC e
      subst xI
      rw [hj] at Cn
      cases Cn
      rw [ha] at zh
      simp [execOp,h.evo hx,bD,dr,Instr.field,run_underlying hd,xM,asAgg,part,gb Fu,← zh,run_sizeOf hj]
     | false =>
      simp only [ha,cond_false] at e
      split at e
      ·rename_i v hv
       simp at e; subst e
       rw [ha] at zh
       simp only [Array.getElem?_toList] at hv
       simp [execOp,h.evo hx,bD,dr,Instr.field,run_underlying hd,xM,asAgg,part,gb Fu,← zh,hv]
      ·cases e
    ·cases e
   ·cases e
  ·cases e
 | build t parts =>
  simp only [jQ] at e
  have Ck:∀ vs,plain (parts.toList.map (fun q=>(evo sy q.2).getD (Pt 0 0)))=some vs→(parts.map fun (i,x)=>(i,a.eval x)).toList=(parts.toList.map (·.1)).zip vs:=by
   intro vs hv
   rw [← nh h _ _ hv]
   simp
  split at e
  ·rename_i sz DG z ag fs vs ht hp
   obtain ⟨i,d,zv,hi,hd,hz,hs,mN,lz,ju,kp,_⟩:=cB (hT _ _ ht)
   obtain ⟨l,rfl,hm⟩:=kp fs rfl
   split at e
   ·rename_i cs hf
    simp at e; subst e
    have sQ:=lT _ _ _ _ hf
    have hzero:(zeroValue t).run P w=.ok zv w:=by simp [zeroValue,typeInfo,hi,hz]
    have kV:zv.cells=z.toArray:=by simp only [] at lz; rw [← lz]
    have Ci:=vp (P:=P) (w:=w) hm
    have QM:(fun (i:Nat)=>(List.map (fun q:Nat × Nat × Nat=>(q.1,q.2.1)) fs).toArray[i]?)=(fun (i:Nat)=>(fs[i]?).map (fun q:Nat × Nat × Nat=>(q.1,q.2.1))):=by
     funext i; simp
    simp only [execOp,Instr.build,Sem.run_bind,hzero,Result.andThen_ok,run_underlying hd,Ci,Sem.run_pure,Ck _ hp,kV,QM,sQ,bD,dr]
   ·cases e
  ·rename_i sz DG z ag nn ee es vs ht hp
   obtain ⟨i,d,zv,hi,hd,hz,hs,mN,lz,ju,_,MY,_⟩:=cB (hT _ _ ht)
   obtain ⟨rfl,j,hj,rfl⟩:=MY _ _ _ rfl
   split at e
   ·rename_i cs hf
    simp at e; subst e
    have sQ:=lT _ _ _ _ hf
    have hzero:(zeroValue t).run P w=.ok zv w:=by simp [zeroValue,typeInfo,hi,hz]
    have kV:zv.cells=z.toArray:=by simp only [] at lz; rw [← lz]
    simp only [execOp,Instr.build,Sem.run_bind,hzero,Result.andThen_ok,run_underlying hd,run_sizeOf hj,Sem.run_pure,Ck _ hp,kV,sQ,bD,dr]
   ·cases e
  ·cases e
 | extract t i =>
  simp only [jQ] at e
  split at e
  ·rename_i vs hx
   split at e
   ·rename_i v hv
    simp at e; subst e
    simp only [Array.getElem?_toList] at hv
    simp [execOp,h.evo hx,bD,dr,Instr.extract,hv]
   ·cases e
  ·cases e
 | binOp op t x y yt =>
  simp only [jQ] at e
  split at e
  ·rename_i k p k' q hx hy
   split at e
   ·rename_i v hv
    simp at e; subst e
    simp [execOp,h.evo hx,h.evo hy,bD,dr,jC,uU t hv]
   cases hk:sameKind k k' with
   | false=>simp [hk] at e
   | true =>
    have:=pA hk
    subst this
    simp only [hk,cond_true] at e
    split at e
    ·rename_i v hv
     simp at e; subst e
     simp [execOp,h.evo hx,h.evo hy,bD,dr,jC,zV t hv]
    ·cases e
  ·rename_i p q hx hy
   split at e
   ·rename_i sz DG z ag ht
    obtain ⟨i,d,zv,hi,hd,hz,hs,mN,lz,ju,_,_,_,_,_,Q1⟩:=cB (hT _ _ ht)
    obtain rfl:=Q1 rfl
    have hg:(eqGuard op t x y (.bool p) (.bool q)).run P w=.ok () w:=by rw [eqGuard_at_bool]; rfl
    have hq:(Op.equal t (.bool p) (.bool q)).run P w=.ok (p == q) w:=by simp [Op.equal,Op.maxDepth,run_equalIn_bool' w 9999 t p q hd]
    split at e
    ·simp at e; subst e
     simp [execOp,h.evo hx,h.evo hy,bD,dr,hg,binOp,hq]
    ·simp at e; subst e
     simp [execOp,h.evo hx,h.evo hy,bD,dr,hg,binOp,hq,bne]
    ·cases e
   ·cases e
  ·rename_i p q hx hy
   have hg:(eqGuard op t x y (.string p) (.string q)).run P w=.ok () w:=by rw [eqGuard_at_string]; rfl
   split at e
   ·simp at e; subst e
    simp [execOp,h.evo hx,h.evo hy,bD,dr,hg,binOp,Op.stringOp,ByteArray.toList_eq]
   ·simp at e; subst e
    simp [execOp,h.evo hx,h.evo hy,bD,dr,hg,binOp,Op.stringOp,ByteArray.toList_eq]
   ·cases e
  ·cases e
 | indexAddr t x y =>
  simp only [jQ] at e
  split at e
  ·rename_i id off k i sz DG z ag m el es hx hy ht
   obtain ⟨inf,d,zv,hi,hd,hz,hs,mN,lz,ju,_,MY,_⟩:=cB (hT _ _ ht)
   obtain ⟨rfl,j,hj,rfl⟩:=MY _ _ _ rfl
   obtain ⟨ik,xI⟩:=kC e
   subst xI
   have ME:i < m:=Nat.le_of_ble_eq_true ik
   simp [execOp,h.evo hx,h.evo hy,bD,dr,Instr.indexAt,asIntOf,run_underlying hd,Instr.sureAddr,ME,run_sizeOf hj,Addr.add_lit]
  ·cases e
 | unOp op t x =>
  simp only [jQ] at e
  split at e
  ·rename_i b hx
   simp at e; subst e
   simp [execOp,h.evo hx,bD,dr,Op.unary]
  ·rename_i k m hx
   simp at e; subst e
   simp [execOp,h.evo hx,bD,dr,Op.unary,Op.intArith]
  ·cases e
 | convert src dst x =>
  simp only [jQ] at e
  split at e
  ·rename_i k0 m sz DG z ag k hx ht
   obtain ⟨i,d,zv,hi,hd,hz,hs,mN,lz,ju,_,_,hk,_⟩:=cB (hT _ _ ht)
   obtain rfl:=hk _ rfl
   split at e
   ·rename_i ts HV
    obtain ⟨i',d',SP,HZ,Hk,_⟩:=cB (hT _ _ HV)
    simp at e; subst e
    simp [execOp,h.evo hx,bD,dr,convert,run_underlying hd,run_underlying Hk,Conv.intToInt]
   ·cases e
  ·cases e
 | makeFunc fn first cap =>
  simp only [jQ] at e
  split at e
  ·rename_i l m hl hm
   split at e
   ·rename_i l' m' HW Qv
    simp at e; subst e
    have e1:first.map a.eval=(l'.map (dr ρ)).toArray:=by
     rw [← qB HW,← h.evs hl,← Array.toList_map]
    have e2:cap.map a.eval=(m'.map (dr ρ)).toArray:=by
     rw [← qB Qv,← h.evs hm,← Array.toList_map]
    simp [execOp,bD,Instr.makeFunc,e1,e2]
   ·cases e
  ·cases e
 | call c =>
  obtain ⟨callee,args,zx⟩:=c
  cases callee with
  | builtin b =>
   cases b <;> simp only [jQ] at e <;> try (cases e; done)
   case min =>
    split at e
    ·rename_i x y sV
     have ha:args=#[x,y]:=by rw [← Array.toArray_toList (xs:=args),sV]
     subst ha
     split at e
     ·rename_i k p k' q hx hy
      simp at e; subst e
      simp [execOp,resolve,invoke,builtin,h.evo hx,h.evo hy,bD,dr,Builtin.min_,Builtin.min2]
     ·cases e
    ·cases e
   case max =>
    split at e
    ·rename_i x y sV
     have ha:args=#[x,y]:=by rw [← Array.toArray_toList (xs:=args),sV]
     subst ha
     split at e
     ·rename_i k p k' q hx hy
      simp at e; subst e
      simp [execOp,resolve,invoke,builtin,h.evo hx,h.evo hy,bD,dr,Builtin.max_,Builtin.max2]
     ·cases e
    ·cases e
   split at e
   ·rename_i x t sV MW
    have ha:args=#[x]:=by rw [← Array.toArray_toList (xs:=args),sV]
    have hb:zx=#[t]:=by rw [← Array.toArray_toList (xs:=zx),MW]
    subst ha; subst hb
    split at e
    ·rename_i ad m cp sz DG z ag el hx ht
     obtain ⟨i,d,zv,hi,hd,hz,hs,mN,lz,ju,_,_,_,DA,_⟩:=cB (hT _ _ ht)
     obtain rfl:=DA _ rfl
     simp at e; subst e
     simp [execOp,resolve,invoke,builtin,h.evo hx,bD,dr,Builtin.len_,run_underlying hd,goInt]
    ·rename_i s sz DG z ag hx ht
     obtain ⟨i,d,zv,hi,hd,hz,hs,mN,lz,ju,_,_,_,_,kp,_⟩:=cB (hT _ _ ht)
     obtain rfl:=kp rfl
     simp at e; subst e
     simp [execOp,resolve,invoke,builtin,h.evo hx,bD,dr,Builtin.len_,run_underlying hd,goInt]
    ·cases e
   ·cases e
  | _=>simp [jQ] at e
 | _=>simp [jQ] at e
theorem s5 {id b:Nat} {x:S0} (h:lM id x=false):dr (fun i=>if i=id then b else ρ i) x=dr ρ x:=by
 cases x with
 | v x=>rfl
 | p i off =>
  have:i≠id:=fun e=>by subst e; simp [lM] at h
  simp [dr,this]
theorem nQ {id b:Nat}:∀ {l:List S0},l.any (lM id)=false→l.map (dr (fun i=>if i=id then b else ρ i))=l.map (dr ρ)
 | [],_=>rfl
 | x :: l,h=>by
  simp only [List.any_cons,Bool.or_eq_false_iff] at h
  simp [s5 h.1,nQ h.2]
theorem vZ {id b:Nat} {x:SV} (h:names id x=false):bD (fun i=>if i=id then b else ρ i) x=bD ρ x:=by
 cases x with
 | s x=>exact s5 h
 | f fn l m =>
  simp only [names,Bool.or_eq_false_iff] at h
  simp [bD,nQ h.1,nQ h.2]
theorem kj {α:Type}:∀ {l:List (Nat × α)} {t:Nat} {x:α},look l t=some x→(t,x)∈l
 | [],_,_,h=>by cases h
 | (k,v) :: l,t,x,h=>by
  rcases dQ h with ⟨rfl,rfl⟩ | ⟨_,h'⟩
  ·simp
  ·exact List.mem_cons_of_mem _ (kj h')
theorem St.box (h:St n sy ρ a w χ) {d t:Nat} {cs:List SV} {sy':Sy} (hd:d < n) (hx:iM (d+1)=true) (e:ra sy d t cs=some sy') (Fv:∀ c∈cs,names (d+1) c=false) :
  St n sy' (fun i=>if i=d+1 then w.heap.size else ρ i) (a.put (some d) (.pointer (some ⟨w.heap.size,0,none⟩))) (w.alloc (.cells (cs.map (bD ρ)).toArray t))
   (fun b=>if b=w.heap.size then d+1 else if χ b=d+1 then 999 else χ b) ∧
  Ev iM w χ (w.alloc (.cells (cs.map (bD ρ)).toArray t)) (fun b=>if b=w.heap.size then d+1 else if χ b=d+1 then 999 else χ b):=by
 unfold ra at e
 obtain ⟨hno,rfl⟩:=kC e
 simp only [ni,Bool.and_eq_true,List.all_eq_true] at hno
 obtain ⟨hr,hb⟩:=hno
 have Ck:∀ l:List SV,(∀ c∈l,names (d+1) c=false)→l.map (bD (fun i=>if i=d+1 then w.heap.size else ρ i))=l.map (bD ρ):=fun l hl=>List.map_congr_left fun c hc=>vZ (hl c hc)
 refine ⟨⟨by simp [Act.put,h.size],h.defers,?_,?_⟩,⟨rfl,rfl,rfl,by simp,?_⟩⟩
 ·intro t' Lh e'
  rcases dQ e' with ⟨rfl,rfl⟩ | ⟨hne,F2⟩
  ·simp [Act.put,h.size,hd,bD,dr]
  ·have Er:=hr _ (kj F2)
   simp only [Bool.not_eq_true'] at Er
   rw [vZ Er]
   simp only [Act.put]
   rw [Array.getElem?_setIfInBounds_ne hne]
   exact h.bK t' Lh F2
 ·intro id q e'
  rcases dQ e' with ⟨rfl,rfl⟩ | ⟨hne,F2⟩
  ·refine ⟨by simp,hx,?_⟩
   simp only [if_true]
   rw [Ck cs Fv]
   exact heap_alloc_new w _
  ·obtain ⟨h1,h2,h3⟩:=h.boxes id q F2
   have IY:id≠d+1:=fun e=>hne e.symm
   have Er:=hb _ (kj F2)
   simp only [Bool.not_eq_true'] at Er
   have ik:ρ id < w.heap.size:=(Array.getElem?_eq_some_iff.1 h3).1
   refine ⟨?_,h2,?_⟩
   ·simp [IY,h1,Nat.ne_of_lt ik]
   ·simp only [IY,if_false]
    rw [Ck _ Er.2,heap_alloc_old w _ ik]
    exact h3
 ·intro b H0 hp
  refine ⟨heap_alloc_old w _ H0,?_⟩
  have:χ b≠d+1:=fun e=>by rw [e,hx] at hp; cases hp
  simp [Nat.ne_of_lt H0,this]
theorem jV (v:SV):(bD ρ v).cells.toList=(cellsOf v).map (bD ρ):=by
 match v with
 | .s (.v (.agg cs))=>simp only [cellsOf,ki]; rfl
 | .s (.v (.bool _)) | .s (.v (.int _ _)) | .s (.v (.float _ _)) | .s (.v (.complex _ _ _)) | .s (.v (.string _)) | .s (.v (.pointer _)) | .s (.v (.slice _ _ _)) | .s (.v (.map _)) | .s (.v (.chan _))
 | .s (.v (.func _ _ _)) | .s (.v .nilFunc) | .s (.v (.iface _ _)) | .s (.v .nilIface) | .s (.v (.tuple _))=>rfl
 | .s (.p _ _)=>rfl
 | .f _ _ _=>rfl
theorem St.wr (h:St n sy ρ a w χ) {id off bt:Nat} {cs new:List SV} (hb:look sy.boxes id=some (bt,cs)) :
  St n ⟨sy.bK,(id,(bt,wr cs off new)) :: sy.boxes⟩ ρ a (w.setRow (ρ id) ((cs.map (bD ρ)).take off++new.map (bD ρ)++(cs.map (bD ρ)).drop (off+new.length)).toArray) χ ∧
  Ev iM w χ (w.setRow (ρ id) ((cs.map (bD ρ)).take off++new.map (bD ρ)++(cs.map (bD ρ)).drop (off+new.length)).toArray) χ:=by
 obtain ⟨h1,h2,h3⟩:=h.boxes id _ hb
 refine ⟨⟨h.size,h.defers,h.bK,?_⟩,⟨rfl,rfl,rfl,by simp,?_⟩⟩
 ·intro Dz q e'
  rcases dQ e' with ⟨rfl,rfl⟩ | ⟨hne,F2⟩
  ·refine ⟨h1,h2,?_⟩
   rw [setRow_heap w _ _ _ bt _ h3]
   simp [Sv.wr,List.map_append,List.map_take,List.map_drop]
  ·obtain ⟨k1,k2,k3⟩:=h.boxes Dz q F2
   refine ⟨k1,k2,?_⟩
   rw [setRow_other]
   ·exact k3
   ·intro e; apply hne; rw [← h1,← k1,e]
 ·intro b _ hp
  refine ⟨setRow_other _ _ _ _ ?_,rfl⟩
  intro e; rw [e,h1,h2] at hp; cases hp
theorem yf (hT:aD P tab) (h:St n sy ρ a w χ) {mem:Bool} {o:Oper} {sy':Sy} (hd:∀ d,o.dst=some d→d < n) (hn:n≤999) (e:mf tab mem sy o=some sy') {K:Act→World→Prop} {Q:Exit→Act→World→Prop}
  (k:∀ ρ' a' w' χ',St n sy' ρ' a' w' χ'→Ev iM w χ w' χ'→((mem=false→w'=w∧χ'=χ∧ρ'=ρ)∧∀ id,n < id→ρ' id=ρ id)→(∀ t,o.dst≠some t→a'.tmps[t]?=a.tmps[t]?)→K a' w'):o.wp P a w K Q:=by
 have Ch:∀ (v:Value) (od:Option Tmp),od=o.dst→∀ t,o.dst≠some t→(a.put od v).tmps[t]?=a.tmps[t]?:=by
  intro v od Qp t ht
  subst Qp
  cases fv:o.dst with
  | none=>rfl
  | some d =>
   simp only [Act.put]
   rw [Array.getElem?_setIfInBounds_ne (by intro e; subst e; exact ht fv)]
 unfold mf at e
 cases hv:jQ tab sy o with
 | some v =>
  simp only [hv] at e
  have lA:=uQ (P:=P) hT h hv
  unfold Oper.wp
  rw [lA]
  simp only [Oper.upon]
  cases fv:o.dst with
  | some d =>
   simp only [fv] at e
   simp at e; subst e
   exact k ρ _ w χ (h.put (hd d fv)) (Ev.refl _ _ _) ⟨fun _=>⟨rfl,rfl,rfl⟩,fun _ _=>rfl⟩ (Ch _ _ fv.symm)
  | none =>
   simp only [fv] at e
   simp at e; subst e
   exact k ρ _ w χ h (Ev.refl _ _ _) ⟨fun _=>⟨rfl,rfl,rfl⟩,fun _ _=>rfl⟩ (Ch undef _ fv.symm)
 | none =>
  simp only [hv] at e
  cases mem with
  | false=>simp at e
  | true =>
   simp only [cond_true] at e
   have xb:∀ d,d < n→iM (d+1)=true:=fun d hd=>by simp [iM]; omega
   split at e
   ·rename_i t x d wI fv
    split at e
    ·rename_i v hx
     have Er:∀ c∈cellsOf v,names (d+1) c=false:=by
      have hno:ni (d+1) sy=true:=(kC e).1
      simp only [ni,Bool.and_eq_true,List.all_eq_true] at hno
      intro c hc
      match v,hx,hc with
      | .s (.v (.agg cs)),_,hc =>
       simp only [cellsOf,List.mem_map] at hc
       obtain ⟨y,_,rfl⟩:=hc
       rfl
      | .s (.v (.bool _)),_,hc | .s (.v (.int _ _)),_,hc | .s (.v (.float _ _)),_,hc | .s (.v (.complex _ _ _)),_,hc | .s (.v (.string _)),_,hc | .s (.v (.pointer _)),_,hc | .s (.v (.slice _ _ _)),_,hc | .s (.v (.map _)),_,hc
      | .s (.v (.chan _)),_,hc | .s (.v (.func _ _ _)),_,hc | .s (.v .nilFunc),_,hc | .s (.v (.iface _ _)),_,hc | .s (.v .nilIface),_,hc | .s (.v (.tuple _)),_,hc =>
       simp [cellsOf] at hc; subst hc; rfl
      | .s (.p i off),hx,hc =>
       simp [cellsOf] at hc; subst hc
       cases x with
       | tmp t'=>have:=hno.1 _ (kj hx); simpa using this
       | const v'=>simp [Sv.evo,V] at hx
       | global g=>simp [Sv.evo] at hx
       | func f=>simp [Sv.evo] at hx
      | .f fn l m,hx,hc =>
       simp [cellsOf] at hc; subst hc
       cases x with
       | tmp t'=>have:=hno.1 _ (kj hx); simpa using this
       | const v'=>simp [Sv.evo,V] at hx
       | global g=>simp [Sv.evo] at hx
       | func f=>simp [Sv.evo] at hx; obtain ⟨rfl,rfl,rfl⟩:=hx; rfl
     obtain ⟨s1,s2⟩:=h.box (hd d fv) (xb d (hd d fv)) e Er
     have hr:(execOp a.eval o).run P w=.ok (.value (.pointer (some ⟨w.heap.size,0,none⟩))) (w.alloc (.cells ((cellsOf v).map (bD ρ)).toArray t)):=by
      have hc:=jV (ρ:=ρ) v
      have Cv:(bD ρ v).cells=((cellsOf v).map (bD ρ)).toArray:=by rw [← hc]
      simp [execOp,wI,h.evo hx,Instr.box,newVar,newRow,Cv]
     unfold Oper.wp
     rw [hr]
     simp only [Oper.upon]
     rw [fv]
     exact k _ _ _ _ s1 s2 ⟨by simp,by intro id DE; have h5:=hd d fv; have h6:id≠d+1:=by { intro e; rw [e] at DE; exact absurd DE (Nat.not_lt.2 h5) }; simp [h6]⟩ (Ch _ _ fv.symm)
    ·cases e
   ·rename_i t d wI fv
    split at e
    ·rename_i ty ht
     obtain ⟨i,dd,zv,hi,o5,hz,hs,mN,lz,ju,_⟩:=cB (hT _ _ ht)
     obtain ⟨s1,s2⟩:=h.box (hd d fv) (xb d (hd d fv)) e (by intro c hc; obtain ⟨y,_,rfl⟩:=List.mem_map.1 hc; rfl)
     have hr:(execOp a.eval o).run P w=.ok (.value (.pointer (some ⟨w.heap.size,0,none⟩))) (w.alloc (.cells ((ty.zero.map V).map (bD ρ)).toArray t)):=by
      rw [ki]
      have Cv:zv.cells=ty.zero.toArray:=by rw [← lz]
      simp [execOp,wI,Instr.alloc,newVar,newRow,zeroValue,typeInfo,hi,hz,Cv]
     unfold Oper.wp
     rw [hr]
     simp only [Oper.upon]
     rw [fv]
     exact k _ _ _ _ s1 s2 ⟨by simp,by intro id DE; have h5:=hd d fv; have h6:id≠d+1:=by { intro e; rw [e] at DE; exact absurd DE (Nat.not_lt.2 h5) }; simp [h6]⟩ (Ch _ _ fv.symm)
    ·cases e
   ·rename_i t x y wI fv
    split at e
    ·rename_i id off v ty hx hy ht
     split at e
     ·rename_i bt cs hb
      obtain ⟨hc,rfl⟩:=kC e
      simp only [Bool.and_eq_true,List.all_eq_true] at hc
      obtain ⟨⟨c1,c2⟩,c3⟩:=hc
      have c1:=Nat.eq_of_beq_eq_true c1
      have c2:=Nat.le_of_ble_eq_true c2
      obtain ⟨i,dd,zv,hi,o5,hz,hs,mN,lz,ju,_⟩:=cB (hT _ _ ht)
      obtain ⟨s1,s2⟩:=h.wr (off:=off) (new:=cellsOf v) hb
      obtain ⟨_,_,kM⟩:=h.boxes id _ hb
      have As:=jV (ρ:=ρ) v
      have kJ:(bD ρ v).cells.size=i.size:=by rw [← Array.length_toList,As,List.length_map,hs,c1]
      have vv:∀ u∈(cellsOf v).map (bD ρ),u.oneCell'=true:=by
       intro u hu
       obtain ⟨c,hc,rfl⟩:=List.mem_map.1 hu
       have:=c3 c hc
       match c,this with
       | .s (.v (.bool _)),_ | .s (.v (.int _ _)),_ | .s (.v (.float _ _)),_ | .s (.v (.complex _ _ _)),_ | .s (.v (.string _)),_ | .s (.v (.pointer _)),_ | .s (.v (.slice _ _ _)),_ | .s (.v (.map _)),_ | .s (.v (.chan _)),_
       | .s (.v (.func _ _ _)),_ | .s (.v .nilFunc),_ | .s (.v (.iface _ _)),_ | .s (.v .nilIface),_=>rfl
       | .s (.p _ _),_=>rfl
       | .f _ _ _,_=>rfl
      have kp:=run_storeCells_at P (ρ id) off bt ((cellsOf v).map (bD ρ)) 0 _ w kM (by simp; omega) vv
      simp only [Nat.add_zero,List.length_map] at kp
      have hr:(execOp a.eval o).run P w=.ok .skip (w.setRow (ρ id) ((cs.map (bD ρ)).take off++(cellsOf v).map (bD ρ)++(cs.map (bD ρ)).drop (off+(cellsOf v).length)).toArray):=by
       have xI:(storeVar t ⟨ρ id,off,none⟩ (bD ρ v)).run P w=.ok () (w.setRow (ρ id) ((cs.map (bD ρ)).take off++(cellsOf v).map (bD ρ)++(cs.map (bD ρ)).drop (off+(cellsOf v).length)).toArray):=by
        simp only [storeVar,Sem.run_bind,run_sizeOf hi,Result.andThen_ok,kJ,ne_eq,not_true_eq_false,if_false,As]
        exact kp
       have Mn:a.eval x=.pointer (some ⟨ρ id,off,none⟩):=h.evo hx
       simp only [execOp,wI,Mn,h.evo hy,Instr.storeAt,Instr.sureAddr,Sem.run_bind,Sem.run_pure,Result.andThen_ok,xI]
      unfold Oper.wp
      rw [hr]
      simp only [Oper.upon]
      rw [fv]
      exact k _ _ _ _ s1 s2 ⟨by simp,fun _ _=>rfl⟩ (Ch undef _ fv.symm)
     ·cases e
    ·cases e
   ·cases e
theorem mn (h:St n sy ρ a w χ) {all:List Oper} {j tc:Nat} {want b:Bool} {o:Oper} (hg:o.guard=some (j,want)) (ht:oC all j=some tc) (hl:look sy.bK tc=some (B b)) :
  Region.wanted o (yielded all.toArray a.tmps)=(b == want):=by
 have:=h.bK _ _ hl
 unfold oC at ht
 split at ht
 ·rename_i oj My
  simp only [Region.wanted,hg,yielded,List.getElem?_toArray,My,Option.bind_some,ht,this,bD,dr]
  cases b <;> cases want <;> rfl
 ·cases ht
theorem lF (h:St n sy ρ a w χ) {all:List Oper} {j tc:Nat} {want:Bool} {o:Oper} (hg:o.guard=some (j,want)) (ht:oC all j=some tc) {vs:Array Value} (hl:look sy.bK tc=some (V (.tuple vs))) :
  Region.wanted o (yielded all.toArray a.tmps)=false:=by
 have:=h.bK _ _ hl
 unfold oC at ht
 split at ht
 ·rename_i oj My
  simp only [Region.wanted,hg,yielded,List.getElem?_toArray,My,Option.bind_some,ht,this,bD,dr]
  cases want <;> rfl
 ·cases ht
def gX (n:Nat):List Oper→Bool
 | []=>true
 | o :: l=>(match o.dst with | some d=>Nat.blt d n | none=>true) && gX n l
theorem pK {o:Oper} {l:List Oper} (h:gX n (o :: l)=true):(∀ d,o.dst=some d→d < n)∧gX n l=true:=by
 simp only [gX,Bool.and_eq_true] at h
 refine ⟨fun d hd=>?_,h.2⟩
 have:=h.1
 rw [hd] at this
 exact Nat.le_of_ble_eq_true this
theorem nb {ops:Array Oper} {Q:Exit→Act→World→Prop} {o:Oper} {rest:List Oper} (hw:Region.wanted o (yielded ops a.tmps)=true) (h:o.wp P a w (wpList P ops Q rest) Q):wpList P ops Q (o :: rest) a w:=by
 unfold wpList; rw [if_pos hw]; exact .inl h
theorem wpList_skip {ops:Array Oper} {Q:Exit→Act→World→Prop} {o:Oper} {rest:List Oper} (hw:Region.wanted o (yielded ops a.tmps)=false) (h:wpList P ops Q rest (a.put o.dst undef) w):wpList P ops Q (o :: rest) a w:=by
 unfold wpList; rw [if_neg (by simp [hw])]; exact h
theorem St.undef (h:St n sy ρ a w χ) {o:Oper} (hd:∀ d,o.dst=some d→d < n) :
  St n (match o.dst with | some d=>⟨(d,V Go.undef) :: sy.bK,sy.boxes⟩ | none=>sy) ρ (a.put o.dst Go.undef) w χ:=by
 cases fv:o.dst with
 | none=>exact h
 | some d=>exact h.put (sv:=V Go.undef) (hd d fv)
theorem St.sub (h:St n sy ρ a w χ) {sy':Sy} (hr:∀ t sv,look sy'.bK t=some sv→look sy.bK t=some sv) (hb:∀ id q,look sy'.boxes id=some q→look sy.boxes id=some q):St n sy' ρ a w χ :=
 ⟨h.size,h.defers,fun t sv e=>h.bK t sv (hr t sv e),fun id q e=>h.boxes id q (hb id q e)⟩
def sC {α:Type}:List Nat→List (Nat × α)→List (Nat × α)
 | [],_=>[]
 | k :: ks,l=>match look l k with
  | some v=>(k,v) :: sC ks l
  | none=>sC ks l
def eT (ks bs:List Nat) (sy:Sy):Sy:=⟨sC ks sy.bK,sC bs sy.boxes⟩
theorem lx {α:Type} {l:List (Nat × α)}:∀ {ks:List Nat} {t:Nat} {x:α},look (sC ks l) t=some x→look l t=some x
 | [],_,_,h=>by cases h
 | k :: ks,t,x,h=>by
  simp only [sC] at h
  split at h
  ·rename_i v hv
   rcases dQ h with ⟨rfl,rfl⟩ | ⟨_,h'⟩
   ·exact hv
   ·exact lx h'
  ·exact lx h
theorem kT {α:Type} {ks:List Nat}:∀ {l:List (Nat × α)} {t:Nat} {x:α},look (l.filter (fun q=>ks.any (Nat.beq q.1))) t=some x→look l t=some x
 | [],_,_,h=>h
 | (k,v) :: l,t,x,h=>by
  rw [List.filter_cons] at h
  split at h
  ·rcases dQ h with ⟨rfl,rfl⟩ | ⟨hne,h'⟩
   ·simp [look]
   ·have hb:Nat.beq k t=false:=by cases hb:Nat.beq k t with
     | true=>exact absurd (Nat.eq_of_beq_eq_true hb) hne
     | false=>rfl
    simp only [look,hb,cond_false]
    exact kT h'
  ·rename_i hk
   have ih:=kT h
   simp only [look]
   cases hb:Nat.beq k t with
   | false=>exact ih
   | true =>
    exfalso
    have:=Nat.eq_of_beq_eq_true hb
    subst this
    have hm:=kj h
    simp only [List.mem_filter] at hm
    exact hk hm.2
theorem St.eT (h:St n sy ρ a w χ) (ks bs:List Nat):St n (Sv.eT ks bs sy) ρ a w χ :=
 h.sub (fun _ _ e=>lx e) (fun _ _ e=>lx e)
theorem St.lit (h:St n sy ρ a w χ) {t:Nat} {b b':Bool} (hl:look sy.bK t=some (B b)) (hb:b=b'):St n ⟨(t,B b') :: sy.bK,sy.boxes⟩ ρ a w χ:=by
 subst hb
 refine ⟨h.size,h.defers,?_,h.boxes⟩
 intro t' sv e
 rcases dQ e with ⟨rfl,rfl⟩ | ⟨_,e'⟩
 ·exact h.bK _ _ hl
 ·exact h.bK _ _ e'
def je (tc:Nat):List Oper→Option (List Oper × Oper × List Oper)
 | []=>none
 | o :: l =>
  match o.op with
  | .pick (.tmp t) _ _=>bif Nat.beq t tc then some ([],o,l) else (match je tc l with | some (x,p,y)=>some (o :: x,p,y) | none=>none)
  | _=>match je tc l with | some (x,p,y)=>some (o :: x,p,y) | none=>none
theorem n3 {tc:Nat}:∀ {l x y:List Oper} {p:Oper},je tc l=some (x,p,y)→l=x++p :: y
 | [],_,_,_,h=>by cases h
 | o :: l,x,y,p,h=>by
  have go:∀ q,(match je tc l with | some (x,p,y)=>some (o :: x,p,y) | none=>none)=some q→o :: l=q.1++q.2.1 :: q.2.2:=by
   intro q hq
   cases hs:je tc l with
   | none=>rw [hs] at hq; cases hq
   | some r =>
    obtain ⟨x',p',y'⟩:=r
    rw [hs] at hq
    cases hq
    simp [n3 hs]
  simp only [je] at h
  split at h
  ·rename_i t a b _
   cases hb:Nat.beq t tc with
   | true=>rw [hb] at h; cases h; rfl
   | false=>rw [hb] at h; exact go _ h
  ·exact go _ h
def dstsOf:List Oper→List Nat
 | []=>[]
 | o :: l=>match o.dst with | some d=>d :: dstsOf l | none=>dstsOf l
def forget (ds:List Nat) (bK:List (Nat × SV)):List (Nat × SV):=bK.filter (fun q=>!ds.any (Nat.beq q.1))
theorem mB {ds:List Nat}:∀ {l:List (Nat × SV)} {t:Nat} {x:SV},look (forget ds l) t=some x→look l t=some x∧ds.any (Nat.beq t)=false
 | [],_,_,h=>by cases h
 | (k,v) :: l,t,x,h=>by
  unfold forget at h
  rw [List.filter_cons] at h
  split at h
  ·rename_i hk
   rcases dQ h with ⟨rfl,rfl⟩ | ⟨hne,h'⟩
   ·exact ⟨by simp [look],by simpa using hk⟩
   ·have hb:Nat.beq k t=false:=by cases hb:Nat.beq k t with
     | true=>exact absurd (Nat.eq_of_beq_eq_true hb) hne
     | false=>rfl
    obtain ⟨h1,h2⟩:=mB (ds:=ds) h'
    exact ⟨by simp only [look,hb,cond_false]; exact h1,h2⟩
  ·rename_i hk
   obtain ⟨h1,h2⟩:=mB (ds:=ds) h
   refine ⟨?_,h2⟩
   simp only [look]
   cases hb:Nat.beq k t with
   | false=>exact h1
   | true =>
    exfalso
    have:=Nat.eq_of_beq_eq_true hb
    subst this
    simp [h2] at hk
def ln (tab:Tab) (all:List Oper):Nat→Bool→List Nat→List Oper→Sy→Option Sy
 | 0,_,_,_,_=>none
 | _+1,_,_,[],sy=>some sy
 | f+1,mem,sp,o :: rest,sy =>
  match o.guard with
  | none=>match mf tab mem sy o with
   | some sy'=>ln tab all f mem sp rest sy'
   | none=>none
  | some (j,want) =>
   match oC all j with
   | some tc =>
    bif sp.any (Nat.beq tc) then
     match look sy.bK tc with
     | some (.s (.v (.bool b))) =>
      match je tc (o :: rest) with
      | some (yh,pk,after) =>
       match pk.dst,ln tab all f false (sp.filter (fun s=>!Nat.beq s tc)) (yh++[pk]) ⟨(tc,B true) :: sy.bK,sy.boxes⟩,ln tab all f false (sp.filter (fun s=>!Nat.beq s tc)) (yh++[pk]) ⟨(tc,B false) :: sy.bK,sy.boxes⟩ with
       | some d,some sT,some sF =>
        match look sT.bK d,look sF.bK d with
        | some (.s (.v (.bool cT))),some (.s (.v (.bool cF))) =>
         ln tab all f mem sp after ⟨(d,B (bif b then cT else cF)) :: forget (dstsOf yh) sy.bK,sy.boxes⟩
        | _,_=>none
       | _,_,_=>none
      | none=>none
     | some (.s (.v (.tuple _))) =>
      (match o.dst with
       | some d=>ln tab all f mem sp rest ⟨(d,V undef) :: sy.bK,sy.boxes⟩
       | none=>ln tab all f mem sp rest sy)
     | _=>none
    else
    match look sy.bK tc with
    | some (.s (.v (.bool b))) =>
     bif b == want then (match mf tab mem sy o with
      | some sy'=>ln tab all f mem sp rest sy'
      | none=>none)
     else (match o.dst with
      | some d=>ln tab all f mem sp rest ⟨(d,V undef) :: sy.bK,sy.boxes⟩
      | none=>ln tab all f mem sp rest sy)
    | some (.s (.v (.tuple _))) =>
     (match o.dst with
      | some d=>ln tab all f mem sp rest ⟨(d,V undef) :: sy.bK,sy.boxes⟩
      | none=>ln tab all f mem sp rest sy)
    | _=>none
   | none=>none
theorem rZ {x y:List Oper} (h:gX n (x++y)=true):gX n x=true∧gX n y=true:=by
 induction x with
 | nil=>exact ⟨rfl,h⟩
 | cons o x ih =>
  simp only [List.cons_append,gX,Bool.and_eq_true] at h ⊢
  exact ⟨⟨h.1,(ih h.2).1⟩,(ih h.2).2⟩
theorem xQ {x y:List Oper} {p:Oper} (h:gX n (x++p :: y)=true):gX n (x++[p])=true∧gX n y=true:=by
 have e:x++p :: y=(x++[p])++y:=by simp
 rw [e] at h
 exact rZ h
theorem q5 {o:Oper} {l:List Oper} {t:Nat} (h:(dstsOf (o :: l)).any (Nat.beq t)=false):o.dst≠some t∧(dstsOf l).any (Nat.beq t)=false:=by
 simp only [dstsOf] at h
 cases hd:o.dst with
 | none=>rw [hd] at h; exact ⟨by simp,h⟩
 | some d =>
  rw [hd] at h
  simp only [List.any_cons,Bool.or_eq_false_iff] at h
  exact ⟨by intro e; cases e; simp at h,h.2⟩
theorem nr (x y:List Oper):dstsOf (x++y)=dstsOf x++dstsOf y:=by
 induction x with
 | nil=>rfl
 | cons o x ih =>
  simp only [List.cons_append,dstsOf]
  cases o.dst <;> simp [ih]
theorem tr (hT:aD P tab) {all:List Oper} (hn:n≤999) {Q:Exit→Act→World→Prop}:∀ (f:Nat) (mem:Bool) (sp:List Nat) (l rest:List Oper) (sy sy':Sy) (ρ:Nat→Nat) (a:Act) (w:World) (χ:Nat→Nat),
  ln tab all f mem sp l sy=some sy'→gX n l=true→St n sy ρ a w χ →
  (∀ ρ' a' w' χ',St n sy' ρ' a' w' χ'→Ev iM w χ w' χ'→((mem=false→w'=w∧χ'=χ∧ρ'=ρ)∧∀ id,n < id→ρ' id=ρ id)→(∀ t,(dstsOf l).any (Nat.beq t)=false→a'.tmps[t]?=a.tmps[t]?)→wpList P all.toArray Q rest a' w')→wpList P all.toArray Q (l++rest) a w:=by
 intro f
 induction f with
 | zero=>intro mem sp l rest sy sy' ρ a w χ e; cases e
 | succ f ih =>
  intro mem sp l rest sy sy' ρ a w χ e hd h k
  cases l with
  | nil =>
   simp [ln] at e; subst e
   exact k ρ a w χ h (Ev.refl _ _ _) ⟨fun _=>⟨rfl,rfl,rfl⟩,fun _ _=>rfl⟩ (fun _ _=>rfl)
  | cons o l =>
   obtain ⟨KJ,Fu⟩:=pK hd
   have go:∀ wD,mf tab mem sy o=some wD→ln tab all f mem sp l wD=some sy'→o.wp P a w (wpList P all.toArray Q (l++rest)) Q:=by
    intro wD e1 e2
    refine yf hT h KJ hn e1 fun ρ1 a1 w1 χ1 h1 OQ q1 s1=>?_
    refine ih mem sp l rest wD sy' ρ1 a1 w1 χ1 e2 Fu h1 fun ρ2 a2 w2 χ2 h2 Jv q2 s2=>?_
    exact k ρ2 a2 w2 χ2 h2 (OQ.trans Jv) ⟨fun hm=>by
     obtain ⟨r1,r2,r3⟩:=q1.1 hm
     obtain ⟨s1,s2,s3⟩:=q2.1 hm
     exact ⟨s1.trans r1,s2.trans r2,s3.trans r3⟩,fun id DE=>(q2.2 id DE).trans (q1.2 id DE)⟩ (fun t ht=>by
     obtain ⟨t1,t2⟩:=q5 ht
     exact (s2 t t2).trans (s1 t t1))
   have skip:ln tab all f mem sp l (match o.dst with | some d=>⟨(d,V Go.undef) :: sy.bK,sy.boxes⟩ | none=>sy)=some sy'→wpList P all.toArray Q (l++rest) (a.put o.dst Go.undef) w:=by
    intro e1
    refine ih mem sp l rest _ sy' ρ _ w χ e1 Fu (h.undef KJ) fun ρ2 a2 w2 χ2 h2 Jv q2 s2=>?_
    refine k ρ2 a2 w2 χ2 h2 Jv q2 (fun t ht=>?_)
    obtain ⟨t1,t2⟩:=q5 ht
    rw [s2 t t2]
    cases fv:o.dst with
    | none=>rfl
    | some d =>
     simp only [Act.put]
     rw [Array.getElem?_setIfInBounds_ne (by intro e; subst e; exact t1 fv)]
   simp only [ln] at e
   rw [List.cons_append]
   cases hg:o.guard with
   | none =>
    simp only [hg] at e
    refine nb (by simp [Region.wanted,hg]) ?_
    cases e1:mf tab mem sy o with
    | none=>simp [e1] at e
    | some wD=>simp only [e1] at e; exact go wD e1 e
   | some g =>
    obtain ⟨j,want⟩:=g
    simp only [hg] at e
    cases ht:oC all j with
    | none=>simp [ht] at e
    | some tc =>
     simp only [ht] at e
     cases IT:sp.any (Nat.beq tc) with
     | true =>
      simp only [IT,cond_true] at e
      split at e
      ·rename_i b hl
       split at e
       ·rename_i yh pk after Mp
        split at e
        ·rename_i d sT sF Ql Q8 Rd
         split at e
         ·rename_i cT cF QV QW
          have MG:=n3 Mp
          rw [← List.cons_append,MG] 
          rw [MG] at hd
          obtain ⟨QO,QQ⟩:=xQ hd
          have e3:yh++pk :: after++rest=(yh++[pk])++(after++rest):=by simp
          rw [e3]
          have fin:∀ (lit:Bool) (sL:Sy) (cL:Bool),b=lit→ln tab all f false (sp.filter (fun s=>!Nat.beq s tc)) (yh++[pk]) ⟨(tc,B lit) :: sy.bK,sy.boxes⟩=some sL→look sL.bK d=some (B cL)→(bif b then cT else cF)=cL →
            wpList P all.toArray Q ((yh++[pk])++(after++rest)) a w:=by
           intro lit sL cL hb hS Qy hv
           refine ih false _ (yh++[pk]) (after++rest) _ sL ρ a w χ hS QO (h.lit hl hb) fun ρ1 a1 w1 χ1 h1 OQ q1 s1=>?_
           obtain ⟨r1,r2,r3⟩:=q1.1 rfl
           rw [r1,r2,r3] at h1
           rw [r1]
           have Jb:dstsOf (yh++[pk])=dstsOf yh++[d]:=by rw [nr]; simp [dstsOf,Ql]
           have MA:St n ⟨(d,B (bif b then cT else cF)) :: forget (dstsOf yh) sy.bK,sy.boxes⟩ ρ a1 w χ:=by
            refine ⟨h1.size,h1.defers,?_,h.boxes⟩
            intro t sv hq
            rcases dQ hq with ⟨rfl,rfl⟩ | ⟨hne,wG⟩
            ·rw [hv]; exact h1.bK _ _ Qy
            ·obtain ⟨g1,g2⟩:=mB wG
             rw [s1 t (by
      rw [Jb,List.any_append,g2,Bool.false_or]
      simp only [List.any_cons,List.any_nil,Bool.or_false]
      cases hb:Nat.beq t d with
      | false=>rfl
      | true=>exact absurd (Nat.eq_of_beq_eq_true hb).symm hne)]
             exact h.bK t sv g1
           refine ih mem sp after rest _ sy' ρ a1 w χ e QQ MA fun ρ2 a2 w2 χ2 h2 Jv q2 s2=>?_
           refine k ρ2 a2 w2 χ2 h2 Jv q2 (fun t ht=>?_)
           rw [MG,show yh++pk :: after=(yh++[pk])++after by simp,nr,List.any_append,Bool.or_eq_false_iff] at ht
           exact (s2 t ht.2).trans (s1 t ht.1)
          cases KM:b with
          | true=>exact fin true sT cT KM Q8 QV (by rw [KM]; rfl)
          | false=>exact fin false sF cF KM Rd QW (by rw [KM]; rfl)
         ·cases e
        ·cases e
       ·cases e
      ·rename_i vs hl
       have hw:=lF h hg ht hl
       refine wpList_skip hw (skip ?_)
       cases fv:o.dst with
       | none=>simpa only [fv] using e
       | some d=>simpa only [fv] using e
      ·cases e
     | false =>
      simp only [IT,cond_false] at e
      split at e
      ·rename_i b hl
       have hw:=mn h hg ht hl
       cases hb:(b == want) with
       | true =>
        simp only [hb,cond_true] at e
        refine nb (hw.trans hb) ?_
        cases e1:mf tab mem sy o with
        | none=>simp [e1] at e
        | some wD=>simp only [e1] at e; exact go wD e1 e
       | false =>
        simp only [hb,cond_false] at e
        refine wpList_skip (hw.trans hb) (skip ?_)
        cases fv:o.dst with
        | none=>simpa only [fv] using e
        | some d=>simpa only [fv] using e
      ·rename_i vs hl
       have hw:=lF h hg ht hl
       refine wpList_skip hw (skip ?_)
       cases fv:o.dst with
       | none=>simpa only [fv] using e
       | some d=>simpa only [fv] using e
      ·cases e
end
def qs (nrm ret:Act→World→Prop) (eH:List (Nat × (Act→World→Prop))):Exit→Act→World→Prop
 | .normal,a,w=>nrm a w
 | .ret,a,w=>ret a w
 | .exit id,a,w=>match look eH (2 * id) with | some K=>K a w | none=>False
 | .goto l,a,w=>match look eH (2 * l+1) with | some K=>K a w | none=>False
 | _,_,_=>False
section
variable {P:Program} {nrm ret:Act→World→Prop} {eH:List (Nat × (Act→World→Prop))} {a:Act} {w:World}
theorem bg {x y:Code} (h:x.wp P (qs (y.wp P (qs nrm ret eH)) ret eH) a w):(Code.seq x y).wp P (qs nrm ret eH) a w :=
 wp_seq (wp_mono h fun e a w q=>by cases e <;> exact q)
theorem Ah {α:Type} {id l:Nat} {K:α} {eH:List (Nat × α)}:look ((2 * id,K) :: eH) (2 * l+1)=look eH (2 * l+1):=by
 simp only [look]
 cases hb:Nat.beq (2 * id) (2 * l+1) with
 | true=>have:=Nat.eq_of_beq_eq_true hb; omega
 | false=>rfl
theorem aN {id:Nat} {c:Code} (h:c.wp P (qs nrm ret ((2 * id,nrm) :: eH)) a w):(Code.block id c).wp P (qs nrm ret eH) a w:=by
 refine wp_block (wp_mono h fun e a w q=>?_)
 cases e with
 | exit i =>
  simp only [qs,look] at q
  simp only [Exit.inBlock]
  cases hb:Nat.beq (2 * id) (2 * i) with
  | true =>
   rw [hb] at q
   have:id=i:=by have:=Nat.eq_of_beq_eq_true hb; omega
   subst this
   simpa [qs] using q
  | false =>
   rw [hb] at q
   have:¬ i=id:=fun e=>by subst e; simp at hb
   simp only [this,if_false]
   exact q
 | goto l =>
  simp only [qs] at q
  rw [Ah] at q
  exact q
 | _=>exact q
theorem aM (h:nrm a w):Code.skip.wp P (qs nrm ret eH) a w:=wp_skip h
theorem aY (h:ret a w):Code.ret.wp P (qs nrm ret eH) a w:=wp_ret h
theorem cm {id:Nat} {K:Act→World→Prop} (hk:look eH (2 * id)=some K) (h:K a w):(Code.exit id).wp P (qs nrm ret eH) a w:=by
 refine wp_exit ?_
 simp only [qs,hk]
 exact h
theorem ct {σ:Type} {c:Code} (I:σ→Act→World→Prop) (μ:σ→Nat) (s0:σ) (h0:I s0 a w)
  (round:∀ s a w,I s a w→c.wp P (qs (fun a' w'=>∃ s',I s' a' w'∧μ s' < μ s) ret eH) a w):(Code.loop c).wp P (qs nrm ret eH) a w:=by
 intro b k cs
 have key:∀ m s a w,μ s=m→I s a w →
   ∃ e a' w',qs nrm ret eH e a' w'∧Arrives P (lone (b.at a (.code c :: .inLoop c :: k)) cs w) b k cs e a' w':=by
  intro m
  induction m using Nat.strongRecOn with
  | _ m ih =>
   intro s a w hm hI
   obtain ⟨e,a₁,w₁,hq,Au⟩:=round s a w hI b (.inLoop c :: k) cs
   cases e with
   | normal =>
    obtain ⟨s',Rb,ik⟩:=hq
    obtain ⟨e₂,a₂,w₂,Qc,Je⟩:=ih (μ s') (hm ▸ ik) s' a₁ w₁ rfl Rb
    exact ⟨e₂,a₂,w₂,Qc,.of_steps (Steps.trans Au (.one step_inLoop)) Je⟩
   | exit id=>exact ⟨.exit id,a₁,w₁,hq,.pass (x:=.inLoop c) rfl (fun _ _=>.inl (by simp)) Au⟩
   | ret=>exact ⟨.ret,a₁,w₁,hq,.pass (x:=.inLoop c) rfl (fun _ _=>.inl (by simp)) Au⟩
   | goto l=>exact ⟨.goto l,a₁,w₁,hq,.pass (x:=.inLoop c) rfl (fun _ _=>.inl (by simp)) Au⟩
   | panic ch=>exact hq.elim
   | outgrown=>exact hq.elim
 obtain ⟨e,a',w',hq,Au⟩:=key _ s0 a w rfl h0
 exact ⟨e,a',w',hq,.of_steps (.one step_loop) Au⟩
theorem cb {x y:Code} (K:Act→World→Prop) (h:x.wp P (qs K ret eH) a w) (k:∀ a w,K a w→y.wp P (qs nrm ret eH) a w):(Code.seq x y).wp P (qs nrm ret eH) a w :=
 bg (wp_mono h fun e a w q=>by cases e <;> first | exact k _ _ q | exact q)
variable {tab:Tab} {n:Nat} {sy:Sy} {ρ:Nat→Nat} {χ:Nat→Nat}
theorem aJ (h:St n sy ρ a w χ) {c:Operand} {b:Bool} (hc:evo sy c=some (B b)) {x y:Code} (ht:b=true→x.wp P (qs nrm ret eH) a w) (hf:b=false→y.wp P (qs nrm ret eH) a w):(Code.cond c x y).wp P (qs nrm ret eH) a w :=
 wp_cond_split (h.evo hc) ht hf
def run (tab:Tab) (mem:Bool) (sp:List Nat) (n:Nat) (all l:List Oper) (ks bs:List Nat) (sy:Sy):Option Sy :=
 bif gX n l && Nat.ble n 999 then (match ln tab all (l.length+l.length+1) mem sp l sy with | some s=>some (eT ks bs s) | none=>none) else none
theorem oS {mem:Bool} {sp:List Nat} {all l:List Oper} {ks bs:List Nat} {sy sy':Sy} (e:run tab mem sp n all l ks bs sy=some sy'):gX n l=true∧n≤999∧∃ s,ln tab all (l.length+l.length+1) mem sp l sy=some s∧sy'=eT ks bs s:=by
 unfold run at e
 cases hc:(gX n l && Nat.ble n 999) with
 | false=>simp [hc] at e
 | true =>
  simp only [hc,cond_true] at e
  rw [Bool.and_eq_true] at hc
  cases hs:ln tab all (l.length+l.length+1) mem sp l sy with
  | none=>simp [hs] at e
  | some s=>simp [hs] at e; exact ⟨hc.1,Nat.le_of_ble_eq_true hc.2,s,rfl,e.symm⟩
theorem Lo {all l:List Oper} {Q:Exit→Act→World→Prop} (T:aD P tab) (h:St n sy ρ a w χ) (m:Nat) {sp ks bs:List Nat} {sy':Sy} (e:run tab false sp n all (l.take m) ks bs sy=some sy')
  (k:∀ a,St n sy' ρ a w χ→wpList P all.toArray Q (l.drop m) a w):wpList P all.toArray Q l a w:=by
 obtain ⟨e1,e2,s,e3,rfl⟩:=oS e
 have:=tr (Q:=Q) T e2 _ _ _ (l.take m) (l.drop m) sy s ρ a w χ e3 e1 h (fun ρ' a' w' χ' h' _ q _=>by
  obtain ⟨r1,r2,r3⟩:=q.1 rfl
  rw [r1,r2,r3] at h'
  rw [r1]
  exact k a' (h'.eT ks bs))
 rwa [List.take_append_drop] at this
theorem Jw {all l:List Oper} {K:Act→World→Prop} (T:aD P tab) (h:St n sy ρ a w χ) {sp ks bs:List Nat} {sy':Sy} (e:run tab false sp n all l ks bs sy=some sy')
  (k:∀ a,St n sy' ρ a w χ→K a w):wpList P all.toArray (qs K ret eH) l a w:=by
 obtain ⟨e1,e2,s,e3,rfl⟩:=oS e
 have:=tr (Q:=qs K ret eH) T e2 _ _ _ l [] sy s ρ a w χ e3 e1 h (fun ρ' a' w' χ' h' _ q _=>by
  obtain ⟨r1,r2,r3⟩:=q.1 rfl
  rw [r1,r2,r3] at h'
  rw [r1]
  exact k a' (h'.eT ks bs))
 rwa [List.append_nil] at this
theorem Jx {all l:List Oper} {K:Act→World→Prop} (T:aD P tab) (h:St n sy ρ a w χ) {sp ks bs:List Nat} {sy':Sy} (e:run tab true sp n all l ks bs sy=some sy')
  (k:∀ ρ' a' w' χ',St n sy' ρ' a' w' χ'→Ev iM w χ w' χ'→(∀ id,n < id→ρ' id=ρ id)→K a' w'):wpList P all.toArray (qs K ret eH) l a w:=by
 obtain ⟨e1,e2,s,e3,rfl⟩:=oS e
 have:=tr (Q:=qs K ret eH) T e2 _ _ _ l [] sy s ρ a w χ e3 e1 h (fun ρ' a' w' χ' h' ev q _=>k ρ' a' w' χ' (h'.eT ks bs) ev q.2)
 rwa [List.append_nil] at this
theorem gY {ops:Array Oper} {K:Act→World→Prop} (h:K a w):wpList P ops (qs K ret eH) [] a w:=h
theorem region {id:Nat} {l:List Oper} {Q:Exit→Act→World→Prop} (h:wpList P l.toArray Q l a w):(Code.region id l.toArray false).wp P Q a w:=wp_region_lit h
theorem Lk {id:Nat} {l:List Oper} {y:Code} (T:aD P tab) (h:St n sy ρ a w χ) {sp ks bs:List Nat} {sy':Sy} (e:run tab false sp n l l ks bs sy=some sy')
  (k:∀ a,St n sy' ρ a w χ→y.wp P (qs nrm ret eH) a w):(Code.seq (Code.region id l.toArray false) y).wp P (qs nrm ret eH) a w :=
 bg (region (Jw T h e k))
theorem Ll {id:Nat} {l:List Oper} {y:Code} (T:aD P tab) (h:St n sy ρ a w χ) {sp ks bs:List Nat} {sy':Sy} (e:run tab true sp n l l ks bs sy=some sy')
  (k:∀ ρ' a' w' χ',St n sy' ρ' a' w' χ'→Ev iM w χ w' χ'→(∀ id,n < id→ρ' id=ρ id)→y.wp P (qs nrm ret eH) a' w'):(Code.seq (Code.region id l.toArray false) y).wp P (qs nrm ret eH) a w :=
 bg (region (Jx T h e k))
theorem bq {id:Nat} {l:List Oper} {y:Code} (h:wpList P l.toArray (qs (y.wp P (qs nrm ret eH)) ret eH) l a w):(Code.seq (Code.region id l.toArray false) y).wp P (qs nrm ret eH) a w :=
 bg (region h)
theorem St.conv (h:St n sy ρ a w χ) {t:Nat} {x y:Value} (hl:look sy.bK t=some (V x)) (hb:x=y):St n ⟨(t,V y) :: sy.bK,sy.boxes⟩ ρ a w χ:=by
 subst hb
 refine ⟨h.size,h.defers,?_,h.boxes⟩
 intro t' sv e
 rcases dQ e with ⟨rfl,rfl⟩ | ⟨_,e'⟩
 ·exact h.bK _ _ hl
 ·exact h.bK _ _ e'
theorem St.sel (h:St n sy ρ a w χ) (ks bs:List Nat) {sy':Sy} (e:Sv.eT ks bs sy=sy'):St n sy' ρ a w χ:=e ▸ h.eT ks bs
theorem St.ev {p:Nat→Bool} (h:St n sy ρ a w χ) {w':World} {χ':Nat→Nat} (e:Ev p w χ w' χ') (hp:∀ c,iM c=true→p c=false):St n sy ρ a w' χ':=by
 refine ⟨h.size,h.defers,h.bK,?_⟩
 intro id q hq
 obtain ⟨h1,h2,h3⟩:=h.boxes id q hq
 have ik:ρ id < w.heap.size:=(Array.getElem?_eq_some_iff.1 h3).1
 obtain ⟨k1,k2⟩:=e.eT _ ik (by rw [h1]; exact hp _ h2)
 exact ⟨k2.trans h1,h2,k1.trans h3⟩
end
structure M0 (w:World) (χ:Nat→Nat) (w':World) (χ':Nat→Nat):Prop where
 size:w.heap.size≤w'.heap.size
 eT:∀ b,b < w.heap.size→χ b=0→w'.heap[b]?=w.heap[b]?∧χ' b=0
theorem Ev.m0 {p:Nat→Bool} {w:World} {χ:Nat→Nat} {w':World} {χ':Nat→Nat} (e:Ev p w χ w' χ') (hp:p 0=false):M0 w χ w' χ' :=
 ⟨e.size,fun b hb h0=>by
  obtain ⟨k1,k2⟩:=e.eT b hb (by rw [h0]; exact hp)
  exact ⟨k1,k2.trans h0⟩⟩
theorem M0.refl (w:World) (χ:Nat→Nat):M0 w χ w χ:=⟨Nat.le_refl _,fun _ _ h=>⟨rfl,h⟩⟩
structure bW (α:Type) where
 n:Nat
 bytes:Nat
 R:World→(Nat→Nat)→List Value→α→Prop
 pos:1≤n
 len:∀ {w χ cs x},R w χ cs x→cs.length=n
 one:∀ {w χ cs x},R w χ cs x→∀ c∈cs,c.oneCell'=true
 mono:∀ {w χ w' χ' cs x},M0 w χ w' χ'→R w χ cs x→R w' χ' cs x
def inR (k:IntKind) (x:Int):Prop:=k.min≤x∧x≤k.max
def sm {α:Type} (l:List α):Prop:=l.length≤140737488355328
def Ir (k:IntKind) (bytes:Nat):bW Int where
 n:=1
 bytes:=bytes
 R:=fun _ _ cs x=>cs=[.int k x]
 pos:=Nat.le_refl _
 len:=by rintro _ _ _ _ rfl; rfl
 one:=by rintro _ _ _ _ rfl c hc; simp at hc; subst hc; rfl
 mono:=fun _ h=>h
@[reducible] def tI:bW Int:=Ir .i64 8
def tP2:bW (Int × Int) where
 n:=2
 bytes:=16
 R:=fun _ _ cs x=>cs=[.int .i64 x.1,.int .i64 x.2]
 pos:=by decide
 len:=by rintro _ _ _ _ rfl; rfl
 one:=by rintro _ _ _ _ rfl c hc; simp at hc; rcases hc with rfl | rfl <;> rfl
 mono:=fun _ h=>h
def dP:bW Bool where
 n:=1
 bytes:=1
 R:=fun _ _ cs x=>cs=[.bool x]
 pos:=Nat.le_refl _
 len:=by rintro _ _ _ _ rfl; rfl
 one:=by rintro _ _ _ _ rfl c hc; simp at hc; subst hc; rfl
 mono:=fun _ h=>h
def bs (l:List UInt8):ByteArray:=⟨l.toArray⟩
def chunk (cells:Array Value) (o n i:Nat):List Value:=(cells.toList.drop (o+i * n)).take n
structure RS {α:Type} (T:bW α) (w:World) (χ:Nat→Nat) (a:Option Addr) (xs:List α) (c:Nat):Prop where
 cap:xs.length≤c
 bnd:xs.length * T.bytes≤140737488355328
 nil:a=none→xs=[]∧c=0
 cells:xs≠[]→∃ b o cells e fr,a=some ⟨b,o,none⟩∧χ b=0∧w.heap[b]?=some (.cells cells e fr)∧∀ (i:Nat) (x:α),xs[i]?=some x→T.R w χ (chunk cells o T.n i) x
theorem fH {w:World} {b:Nat} {o:Obj} (h:w.heap[b]?=some o):b < w.heap.size:=(Array.getElem?_eq_some_iff.1 h).1
theorem RS.m0 {α:Type} {T:bW α} {w w':World} {χ χ':Nat→Nat} {a:Option Addr} {xs:List α} {c:Nat} (h:RS T w χ a xs c) (m:M0 w χ w' χ'):RS T w' χ' a xs c :=
 ⟨h.cap,h.bnd,h.nil,fun hne=>by
  obtain ⟨b,o,cells,e,fr,h1,h2,h3,h4⟩:=h.cells hne
  obtain ⟨k1,k2⟩:=m.eT b (fH h3) h2
  exact ⟨b,o,cells,e,fr,h1,k2,k1.trans h3,fun i x hx=>T.mono m (h4 i x hx)⟩⟩
theorem RS.sm {α:Type} {T:bW α} {w:World} {χ:Nat→Nat} {a:Option Addr} {xs:List α} {c:Nat} (h:RS T w χ a xs c) (hb:Nat.ble 1 T.bytes=true):Sv.sm xs:=by
 have h1:=h.bnd
 have h2:=Nat.mul_le_mul_left xs.length (Nat.le_of_ble_eq_true hb)
 unfold Sv.sm
 omega
theorem RS.mv {α:Type} {T:bW α} {w w':World} {χ χ':Nat→Nat} {a:Option Addr} {xs:List α} {c:Nat} {p:Nat→Bool} (h:RS T w χ a xs c) (e:Ev p w χ w' χ') (hp:p 0=false):RS T w' χ' a xs c:=h.m0 (e.m0 hp)
theorem RS.empty {α:Type} (T:bW α) (w:World) (χ:Nat→Nat):RS T w χ none [] 0:=⟨Nat.le_refl _,by simp,fun _=>⟨rfl,rfl⟩,fun h=>absurd rfl h⟩
def cd {α:Type} (T:bW α):bW (List α) where
 n:=1
 bytes:=24
 R:=fun w χ cs xs=>∃ a c,cs=[.slice a xs.length c]∧RS T w χ a xs c
 pos:=Nat.le_refl _
 len:=by rintro _ _ _ _ ⟨a,c,rfl,_⟩; rfl
 one:=by rintro _ _ _ _ ⟨a,c,rfl,_⟩ u hu; simp at hu; subst hu; rfl
 mono:=by rintro _ _ _ _ _ _ m ⟨a,c,rfl,h⟩; exact ⟨a,c,rfl,h.m0 m⟩
def Ec (fr:Nat × Nat) (n:Nat):Prop:=fr.2≤fr.1∨n≤fr.1
def Row (w:World) (b:Nat) (cells:Array Value) (E:Nat):Prop:=∃ fr,w.heap[b]?=some (.cells cells E fr)∧Ec fr cells.size
theorem Row.zero {w:World} {b:Nat} {cells:Array Value} {E:Nat} (h:w.heap[b]?=some (.cells cells E (0,0))):Row w b cells E:=⟨(0,0),h,.inl (Nat.le_refl _)⟩
theorem Row.same {w w':World} {b:Nat} {cells:Array Value} {E:Nat} (h:Row w b cells E) (k:w'.heap[b]?=w.heap[b]?):Row w' b cells E:=by obtain ⟨fr,h1,h2⟩:=h; exact ⟨fr,k.trans h1,h2⟩
theorem Row.set {w:World} {b:Nat} {cells lV:Array Value} {E:Nat} (h:Row w b cells E) (hs:lV.size=cells.size):Row (w.setRow b lV) b lV E:=by obtain ⟨fr,h1,h2⟩:=h; exact ⟨fr,setRow_heap w b cells _ E _ h1,hs ▸ h2⟩
theorem Row.lt {w:World} {b:Nat} {cells:Array Value} {E:Nat} (h:Row w b cells E):b < w.heap.size:=by obtain ⟨fr,h1,h2⟩:=h; exact fH h1
theorem gu (P:Program) (g o:Nat) (t:TypeId) (fz:Nat × Nat):∀ (vs:List Value) (i:Nat) (cur:Array Value) (w:World),w.heap[g]?=some (.cells cur t fz)→Ec fz cur.size→o+i+vs.length≤cur.size→(∀ v∈vs,v.oneCell'=true) →
  (storeCells ⟨g,o,none⟩ vs i).run P w=.ok () (w.setRow g (cur.toList.take (o+i)++vs++cur.toList.drop (o+i+vs.length)).toArray)
 | [],i,cur,w,hg,_,_,_=>by
  simp only [storeCells,List.append_nil,List.length_nil,Nat.add_zero,List.take_append_drop,Array.toArray_toList]
  rw [setRow_self w g cur t fz hg]
  rfl
 | v :: rest,i,cur,w,hg,A7,hl,h1=>by
  have hi:o+i < cur.size:=by simp at hl; omega
  have xN:(⟨g,o,none⟩:Addr).add i=⟨g,o+i,none⟩:=by unfold Addr.add; split <;> simp_all
  have kV:w.cell? ⟨g,o+i,none⟩=some cur[o+i]:=by simp [World.cell?,hg,hi]
  have MO:w.frozen? ⟨g,o+i,none⟩=false:=by
   obtain ⟨lo,HZ⟩:=fz
   simp only [World.frozen?,hg,Bool.and_eq_false_iff,decide_eq_false_iff_not]
   unfold Ec at A7
   simp only at A7
   omega
  have kp:(store ((⟨g,o,none⟩:Addr).add i) v).run P w=.ok () (w.setRow g (cur.setIfInBounds (o+i) v)):=by
   rw [xN,run_store P w _ v _ (h1 v (by simp)),kV]
   simp [MO,setCell_eq_setRow w g (o+i) cur t fz v hg]
  have ih:=gu P g o t fz rest (i+1) (cur.setIfInBounds (o+i) v) (w.setRow g (cur.setIfInBounds (o+i) v)) (setRow_heap w g cur _ t _ hg) (by simpa using A7) (by simp at hl ⊢; omega) (fun x hx=>h1 x (by simp [hx]))
  simp only [storeCells,Sem.run_bind,kp,Result.andThen_ok,ih,setRow_setRow]
  congr 3
  have e:=list_seg_step cur.toList (o+i) v rest (by simp at hl ⊢; omega)
  simpa [Array.toList_setIfInBounds,Nat.add_assoc] using e
structure OS {α:Type} (T:bW α) (E:Nat) (w:World) (χ:Nat→Nat) (col:Nat) (a:Option Addr) (xs:List α) (c:Nat):Prop where
 bnd:xs.length * T.bytes≤140737488355328
 row:(a=none∧xs=[]∧c=0)∨∃ b cells,a=some ⟨b,0,none⟩∧χ b=col∧Row w b cells E∧xs.length≤c∧c≤maxLen∧cells.size=c * T.n ∧
  ∀ (i:Nat) (x:α),xs[i]?=some x→T.R w χ (chunk cells 0 T.n i) x
theorem OS.nil {α:Type} (T:bW α) (E:Nat) (w:World) (χ:Nat→Nat) (col:Nat):OS T E w χ col none [] 0:=⟨by simp,.inl ⟨rfl,rfl,rfl⟩⟩
theorem OS.sm {α:Type} {T:bW α} {E:Nat} {w:World} {χ:Nat→Nat} {col:Nat} {a:Option Addr} {xs:List α} {c:Nat} (h:OS T E w χ col a xs c) (hb:Nat.ble 1 T.bytes=true):Sv.sm xs:=by
 have h1:=h.bnd
 have h2:=Nat.mul_le_mul_left xs.length (Nat.le_of_ble_eq_true hb)
 unfold Sv.sm
 omega
theorem OS.rs0 {α:Type} {T:bW α} {E:Nat} {w:World} {χ:Nat→Nat} {a:Option Addr} {xs:List α} {c:Nat} (h:OS T E w χ 0 a xs c):RS T w χ a xs c:=by
 rcases h.row with ⟨rfl,rfl,rfl⟩ | ⟨b,cells,rfl,hc,hh,hle,wJ,kJ,gJ⟩
 ·exact RS.empty T w χ
 ·obtain ⟨fr,hh,_⟩:=hh; exact ⟨hle,h.bnd,(by intro e; cases e),fun _=>⟨b,0,cells,E,fr,rfl,hc,hh,gJ⟩⟩
theorem room {len b:Nat} (h:len≤1099511627776) (hb:Nat.ble b 128=true):len * b≤140737488355328:=by
 have h1:=Nat.mul_le_mul h (Nat.le_of_ble_eq_true hb)
 omega
theorem OS.mv {α:Type} {T:bW α} {E:Nat} {w w':World} {χ χ':Nat→Nat} {col:Nat} {a:Option Addr} {xs:List α} {c:Nat} {p:Nat→Bool} (h:OS T E w χ col a xs c) (e:Ev p w χ w' χ') (hp:p col=false) (h0:p 0=false):OS T E w' χ' col a xs c:=by
 refine ⟨h.bnd,?_⟩
 rcases h.row with h | ⟨b,cells,h1,h2,h3,h4,h5,h6,h7⟩
 ·exact .inl h
 ·obtain ⟨k1,k2⟩:=e.eT b h3.lt (by rw [h2]; exact hp)
  exact .inr ⟨b,cells,h1,k2.trans h2,h3.same k1,h4,h5,h6,fun i x hx=>T.mono (e.m0 h0) (h7 i x hx)⟩
structure Old (w0:World) (χc:Nat→Nat) (w:World) (χ:Nat→Nat):Prop where
 os:w.os=w0.os
 tape:w.tape=w0.tape
 output:w.output=w0.output
 size:w0.heap.size≤w.heap.size
 eT:∀ b,b < w0.heap.size→w.heap[b]?=w0.heap[b]?∧χ b=if χc b=0 then 0 else 1000
theorem Old.mv {p:Nat→Bool} {w0 w w':World} {χc χ χ':Nat→Nat} (h:Old w0 χc w χ) (e:Ev p w χ w' χ') (h0:p 0=false) (h1:p 1000=false):Old w0 χc w' χ' :=
 ⟨e.os.trans h.os,e.tape.trans h.tape,e.output.trans h.output,Nat.le_trans h.size e.size,fun b hb=>by
  obtain ⟨k1,k2⟩:=h.eT b hb
  have:p (χ b)=false:=by rw [k2]; split <;> assumption
  obtain ⟨l1,l2⟩:=e.eT b (Nat.lt_of_lt_of_le hb h.size) this
  exact ⟨l1.trans k1,l2.trans k2⟩⟩
def AD (χc:Nat→Nat) (b:Nat):Nat:=if χc b=0 then 0 else 1000
theorem Old.start (w:World) (χc:Nat→Nat):Old w χc w (AD χc):=⟨rfl,rfl,rfl,Nat.le_refl _,fun _ _=>⟨rfl,rfl⟩⟩
theorem M0.start (w:World) (χc:Nat→Nat):M0 w χc w (AD χc):=⟨Nat.le_refl _,fun b _ h=>⟨rfl,by simp [AD,h]⟩⟩
theorem Old.leave {w0 w:World} {χc χ:Nat→Nat} (h:Old w0 χc w χ) (f:Nat→Nat) (h0:f 0=0):∃ χ',Ev aL w0 χc w χ'∧M0 w χ w χ'∧(∀ b,χ b≠0→χ b≠1000→χ' b=f (χ b)):=by
 refine ⟨fun b=>if b < w0.heap.size then χc b else f (χ b),⟨h.os,h.tape,h.output,h.size,fun b hb _=>⟨(h.eT b hb).1,by simp [hb]⟩⟩,⟨Nat.le_refl _,fun b _ hz=>⟨rfl,?_⟩⟩,?_⟩
 ·show (if b < w0.heap.size then χc b else f (χ b))=0
  split
  ·rename_i hb
   have:=(h.eT b hb).2
   rw [hz] at this
   split at this
   ·assumption
   ·omega
  ·rw [hz,h0]
 ·intro b hb hb1
  have:¬ b < w0.heap.size:=by
   intro ik
   have:=(h.eT b ik).2
   split at this
   ·exact hb this
   ·exact hb1 this
  simp [this]
def Ret (P:Program) (f:FuncId) (vals:Array Value) (p:Nat→Bool) (w:World) (χ:Nat→Nat) (post:World→(Nat→Nat)→Value→Prop):Prop :=
 Calls P f vals w fun e w'=>∃ v χ',e=.returned v∧Ev p w χ w' χ'∧post w' χ' v
theorem Ret.mono {P:Program} {f:FuncId} {vals:Array Value} {p:Nat→Bool} {w:World} {χ:Nat→Nat} {post Fc:World→(Nat→Nat)→Value→Prop} (h:Ret P f vals p w χ post)
  (k:∀ w' χ' v,Ev p w χ w' χ'→post w' χ' v→Fc w' χ' v):Ret P f vals p w χ Fc :=
 Calls.mono h fun _ _ ⟨v,χ',h1,h2,h3⟩=>⟨v,χ',h1,h2,k _ _ _ h2 h3⟩
def rF:Nat→List Value→List (Nat × SV)
 | _,[]=>[]
 | i,v :: l=>(i,V v) :: rF (i+1) l
theorem nk:∀ (l:List Value) (i t:Nat) (sv:SV),look (rF i l) t=some sv→∃ v,sv=V v∧i≤t∧l[t - i]?=some v
 | [],_,_,_,h=>by cases h
 | x :: l,i,t,sv,h=>by
  rcases dQ h with ⟨rfl,rfl⟩ | ⟨hne,h'⟩
  ·exact ⟨x,rfl,Nat.le_refl _,by simp⟩
  ·obtain ⟨v,h1,h2,h3⟩:=nk l (i+1) t sv h'
   refine ⟨v,h1,by omega,?_⟩
   rw [show t - i=(t - (i+1))+1 by omega]
   simpa using h3
section
variable {P:Program}
theorem enter {f:FuncId} {F:Func} {c:Code} (hf:P.funcs[f]?=some F) (hb:F.body=some c) {vals:List Value} {w:World} {χ:Nat→Nat} {post:World→(Nat→Nat)→Value→Prop}
  (hn:Nat.ble vals.length F.ntmps=true)
  (k:∀ ρ a,St F.ntmps ⟨rF 0 vals,[]⟩ ρ a w (AD χ)→Old w χ w (AD χ)→M0 w χ w (AD χ) →
   c.wp P (qs (fun a' w'=>bodyPost P F (fun e uN=>∃ v χ',e=.returned v∧Ev aL w χ uN χ'∧post uN χ' v) .ret a' w') (fun a' w'=>bodyPost P F (fun e uN=>∃ v χ',e=.returned v∧Ev aL w χ uN χ'∧post uN χ' v) .ret a' w') []) a w) :
  Ret P f vals.toArray aL w χ post:=by
 unfold Ret
 refine calls_of_wp hf hb ?_
 have hle:=Nat.le_of_ble_eq_true hn
 refine wp_mono (k (fun _=>0) { tmps:=vals.toArray++Array.replicate (F.ntmps - vals.toArray.size) undef,defers:=[] } ⟨by simp; omega,rfl,?_,fun id q h=>by cases h⟩ (Old.start w χ) (M0.start w χ)) ?_
 ·intro t sv h
  obtain ⟨v,rfl,_,h3⟩:=nk _ _ _ _ h
  have ik:=(List.getElem?_eq_some_iff.1 h3).1
  simp only [Nat.sub_zero] at h3 ik
  rw [Array.getElem?_append_left (by simpa using ik)]
  simpa [bD,dr] using h3
 ·intro e a w q
  cases e with
  | normal=>exact q
  | ret=>exact q
  | exit id=>exact absurd q (by simp [qs,look])
  | _=>exact q.elim
def tB (tab:Tab) (sy:Sy) (ρ:Nat→Nat):List ResultVar→Option (List Value)
 | []=>some []
 | .tmp t :: l=>match look sy.bK t,tB tab sy ρ l with
  | some v,some r=>some (bD ρ v :: r)
  | _,_=>none
 | .cell t ty :: l =>
  match look sy.bK t,tB tab sy ρ l,look tab ty with
  | some (.s (.p id off)),some r,some Dw =>
   match look sy.boxes id with
   | some (_,cs) =>
    bif Dw.agg then
     (bif Nat.ble (off+Dw.size) cs.length then
      (match plain ((cs.drop off).take Dw.size) with
       | some vs=>some (.agg vs.toArray :: r)
       | none=>none)
      else none)
    else (match cs[off]? with | some v=>some (bD ρ v :: r) | none=>none)
   | none=>none
  | _,_,_=>none
def one (l:List Value):Value:=match l with | [v]=>v | l=>.tuple l.toArray
def rv (tmps:Array Value):ResultVar→Sem Value
 | .tmp t=>pure (tmps.getD t undef)
 | .cell b t=>do loadVar t (← asAddr (tmps.getD b undef))
theorem xd (F:Func) (tmps:Array Value):results F tmps=(do let vs ← F.results.mapM (rv tmps); pure (if h:vs.size=1 then vs[0] else .tuple vs)):=by
 unfold results
 congr 1
theorem mw {tab:Tab} (T:aD P tab) {n:Nat} {sy:Sy} {ρ:Nat→Nat} {a:Act} {w:World} {χ:Nat→Nat} (h:St n sy ρ a w χ):∀ (l:List ResultVar) (r:List Value),tB tab sy ρ l=some r →
  (l.mapM (rv a.tmps)).run P w=.ok r w
 | [],r,e=>by simp [tB] at e; subst e; rfl
 | .tmp t :: l,r,e=>by
  simp only [tB] at e
  split at e
  ·rename_i v q hv hq
   simp at e; subst e
   have hg:=h.bK _ _ hv
   have ih:=mw T h l q hq
   simp only [List.mapM_cons,Sem.run_bind,Sem.run_pure,Result.andThen_ok,ih,rv]
   simp [hg]
  ·cases e
 | .cell t ty :: l,r,e=>by
  simp only [tB] at e
  split at e
  ·rename_i id off q Dw hv hq ht
   have hg:=h.bK _ _ hv
   have ih:=mw T h l q hq
   have I7:a.tmps.getD t undef=.pointer (some ⟨ρ id,off,none⟩):=by simp [hg,bD,dr]
   split at e
   ·rename_i bt cs hb
    obtain ⟨i,d,z,hi,hd,hz,hs,mN,lz,ju,_⟩:=cB (T _ _ ht)
    obtain ⟨_,_,kM⟩:=h.boxes _ _ hb
    cases ha:Dw.agg with
    | true =>
     simp only [ha,cond_true] at e
     cases hle:Nat.ble (off+Dw.size) cs.length with
     | false=>simp [hle] at e
     | true =>
      simp only [hle,cond_true] at e
      split at e
      ·rename_i vs hp
       simp at e; subst e
       have Ci:=nD hp
       have:=l0 (P:=P) (w:=w) (off:=off) hi hd (by rw [← ju,ha]) kM (by simp [hs]; exact Nat.le_of_ble_eq_true hle)
       rw [← List.map_drop,← List.map_take,hs,Ci,ki] at this
       simp only [List.mapM_cons,Sem.run_bind,Sem.run_pure,Result.andThen_ok,ih,rv,I7,asAddr,this]
      ·cases e
    | false =>
     simp only [ha,cond_false] at e
     split at e
     ·rename_i v Fv
      simp at e; subst e
      have:=lZ (P:=P) (w:=w) (off:=off) (v:=bD ρ v) hd (by rw [← ju,ha]) kM (by simp [Fv])
      simp only [List.mapM_cons,Sem.run_bind,Sem.run_pure,Result.andThen_ok,ih,rv,I7,asAddr,this]
     ·cases e
   ·cases e
  ·cases e
theorem Cb {tab:Tab} (T:aD P tab) {F:Func} {n:Nat} {sy:Sy} {ρ:Nat→Nat} {a:Act} {w:World} {χ:Nat→Nat} {R:Ending→World→Prop} (h:St n sy ρ a w χ) {r:List Value} (e:tB tab sy ρ F.results.toList=some r)
  (hR:R (.returned (one r)) w):bodyPost P F R .ret a w:=by
 refine ⟨h.defers,one r,?_,hR⟩
 have:=mw (P:=P) T h _ _ e
 rw [xd]
 rw [Array.mapM_eq_mapM_toList,Sem.run_bind,Sem.run_map,this]
 simp only [Result.andThen_ok,Sem.run_pure]
 congr 1
 match r with
 | []=>rfl
 | [v]=>rfl
 | v :: u :: l=>simp [one]
theorem fin {tab:Tab} (T:aD P tab) {F:Func} {n:Nat} {sy:Sy} {ρ:Nat→Nat} {a:Act} {w0 w:World} {χc χ:Nat→Nat} {post:World→(Nat→Nat)→Value→Prop} (h:St n sy ρ a w χ) (hO:Old w0 χc w χ) (f:Nat→Nat) (h0:f 0=0) {r:List Value} (e:tB tab sy ρ F.results.toList=some r)
  (hp:∀ χ',M0 w χ w χ'→(∀ b,χ b≠0→χ b≠1000→χ' b=f (χ b))→post w χ' (one r)):bodyPost P F (fun e uN=>∃ v χ',e=.returned v∧Ev aL w0 χc uN χ'∧post uN χ' v) .ret a w:=by
 obtain ⟨χ',h1,h2,h3⟩:=hO.leave f h0
 exact Cb T h e ⟨_,χ',rfl,h1,hp χ' h2 h3⟩
def ca (all:List Oper) (sy:Sy):Option (Nat × Bool)→Bool
 | none=>true
 | some (j,want)=>match oC all j with
  | some tc=>match look sy.bK tc with
   | some (.s (.v (.bool b)))=>b == want
   | _=>false
  | none=>false
section ops
variable {tab:Tab} {n:Nat} {sy:Sy} {ρ:Nat→Nat} {a:Act} {w:World} {χ:Nat→Nat} {all:List Oper} {Q:Exit→Act→World→Prop} {K:Act→World→Prop}
variable {d ty:Nat} {pos:String} {af:Array Edge} {g:Option (Nat × Bool)}
theorem dH (h:St n sy ρ a w χ) {o:Oper} (hw:ca all sy o.guard=true):Region.wanted o (yielded all.toArray a.tmps)=true:=by
 cases hg:o.guard with
 | none=>simp [Region.wanted,hg]
 | some q =>
  obtain ⟨j,want⟩:=q
  rw [hg] at hw
  simp only [ca] at hw
  split at hw
  ·rename_i tc ht
   split at hw
   ·rename_i b hl
    exact (mn h hg ht hl).trans hw
   ·cases hw
  ·cases hw
def wp1 (P:Program) (ops:Array Oper) (Q:Exit→Act→World→Prop) (o:Oper) (K:Act→World→Prop) (a:Act) (w:World):Prop :=
 if Region.wanted o (yielded ops a.tmps) then o.wp P a w K Q∨(o.asks P a w∧LetsOut Q) else K (a.put o.dst undef) w
theorem op1 {ops:Array Oper} {o:Oper} {rest:List Oper} (h:wp1 P ops Q o (wpList P ops Q rest) a w):wpList P ops Q (o :: rest) a w:=by
 unfold wpList; exact h
theorem fL {ops:Array Oper} {o:Oper} (hw:Region.wanted o (yielded ops a.tmps)=true) (h:o.wp P a w K Q):wp1 P ops Q o K a w:=by
 unfold wp1; rw [if_pos hw]; exact .inl h
theorem fQ (h:St n sy ρ a w χ) {op:Op} (hw:ca all sy g=true) (hd:Nat.blt d n=true) {v:Value} {w':World} {χ':Nat→Nat} {p:Nat→Bool} (ev:Ev p w χ w' χ') (hp:∀ c,iM c=true→p c=false)
  (lA:(execOp a.eval ⟨some d,op,ty,pos,af,g⟩).run P w=.ok (.value v) w')
  (k:∀ a',St n ⟨(d,V v) :: sy.bK,sy.boxes⟩ ρ a' w' χ'→K a' w'):wp1 P all.toArray Q ⟨some d,op,ty,pos,af,g⟩ K a w:=by
 refine fL (dH h (o:=⟨some d,op,ty,pos,af,g⟩) hw) ?_
 unfold Oper.wp
 rw [lA]
 simp only [Oper.upon]
 exact k _ ((h.ev ev hp).put (sv:=V v) (Nat.le_of_ble_eq_true hd))
def jm (sy:Sy) (ρ:Nat→Nat) (l:List Operand):Option (List Value) :=
 match evs sy l with
 | some r=>some (r.map (bD ρ))
 | none=>none
theorem kW (h:St n sy ρ a w χ) {as:List Operand} {vals:List Value} (e:jm sy ρ as=some vals):as.map a.eval=vals:=by
 unfold jm at e
 cases hr:evs sy as with
 | none=>simp [hr] at e
 | some r=>simp [hr] at e; rw [h.evs hr,e]
def aQ (P:Program) (f:Nat):Bool:=match P.funcs[f]? with | some fn=>fn.body.isSome && !(fn.name == "runtime.NumGoroutine") | none=>false
theorem jR {f:Nat} (hb:aQ P f=true) (vals:Array Value):(callFunc f vals).run P w=.ok (.enter f vals) w:=by
 unfold aQ at hb
 split at hb
 ·rename_i fn hf
  simp only [Bool.and_eq_true,Bool.not_eq_true'] at hb
  have h2:¬ fn.name = "runtime.NumGoroutine" := by simpa using hb.2
  have h1:¬ fn.body=none:=by intro e; rw [e] at hb; simp at hb
  simp [callFunc,hf,h1,h2]
 ·cases hb
theorem jP (h:St n sy ρ a w χ) {op:Op} {od:Option Nat} (hw:ca all sy g=true) {f:Nat} {vals:Array Value} {w1:World} (lA:(execOp a.eval ⟨od,op,ty,pos,af,g⟩).run P w=.ok (.enter f vals) w1)
  {p:Nat→Bool} {post:World→(Nat→Nat)→Value→Prop} {χ1:Nat→Nat} (hc:Ret P f vals p w1 χ1 post)
  (k:∀ v w' χ',Ev p w1 χ1 w' χ'→post w' χ' v→K (a.put od v) w'):wp1 P all.toArray Q ⟨od,op,ty,pos,af,g⟩ K a w:=by
 refine fL (dH h (o:=⟨od,op,ty,pos,af,g⟩) hw) ?_
 unfold Oper.wp
 rw [lA]
 simp only [Oper.upon]
 refine Calls.mono hc ?_
 rintro e w' ⟨v,χ',rfl,h2,h3⟩
 exact k v w' χ' h2 h3
theorem call {f:Nat} {as:Array Operand} {zx:Array TypeId} {vals:List Value} {p:Nat→Bool} {post:World→(Nat→Nat)→Value→Prop} (h:St n sy ρ a w χ) (hw:ca all sy g=true) (hd:Nat.blt d n=true) (hb:aQ P f=true)
  (hv:jm sy ρ as.toList=some vals) (hp:∀ c,iM c=true→p c=false) (hc:Ret P f vals.toArray p w χ post)
  (k:∀ v a' w' χ',Ev p w χ w' χ'→post w' χ' v→St n ⟨(d,V v) :: sy.bK,sy.boxes⟩ ρ a' w' χ'→K a' w') :
  wp1 P all.toArray Q ⟨some d,.call ⟨.value (.func f),as,zx⟩,ty,pos,af,g⟩ K a w:=by
 refine jP h hw (f:=f) (vals:=vals.toArray) (w1:=w) ?_ hc ?_
 ·have:as.map a.eval=vals.toArray:=by rw [← kW h hv,← Array.toList_map]
  simp [execOp,resolve,Act.eval,Deferred.ofValue,invoke,this,jR hb]
 ·intro v w' χ' h2 h3
  exact k v _ w' χ' h2 h3 ((h.ev h2 hp).put (sv:=V v) (Nat.le_of_ble_eq_true hd))
theorem F4 {f t:Nat} {as:Array Operand} {zx:Array TypeId} {fi cp:List S0} {vals:List Value} {p:Nat→Bool} {post:World→(Nat→Nat)→Value→Prop} (h:St n sy ρ a w χ) (hw:ca all sy g=true) (hd:Nat.blt d n=true) (hb:aQ P f=true)
  (hf:look sy.bK t=some (.f (.func f) fi cp)) (hv:(match jm sy ρ as.toList with | some r=>some (fi.map (dr ρ)++r++cp.map (dr ρ)) | none=>none)=some vals) (hp:∀ c,iM c=true→p c=false) (hc:Ret P f vals.toArray p w χ post)
  (k:∀ v a' w' χ',Ev p w χ w' χ'→post w' χ' v→St n ⟨(d,V v) :: sy.bK,sy.boxes⟩ ρ a' w' χ'→K a' w') :
  wp1 P all.toArray Q ⟨some d,.call ⟨.value (.tmp t),as,zx⟩,ty,pos,af,g⟩ K a w:=by
 refine jP h hw (f:=f) (vals:=vals.toArray) (w1:=w) ?_ hc ?_
 ·cases hr:jm sy ρ as.toList with
  | none=>simp [hr] at hv
  | some r =>
   simp [hr] at hv
   have h1:as.map a.eval=r.toArray:=by rw [← kW h hr,← Array.toList_map]
   have h2:a.eval (.tmp t)=.func (.func f) (fi.map (dr ρ)).toArray (cp.map (dr ρ)).toArray:=h.evo (x:=.tmp t) hf
   subst hv
   simp [execOp,resolve,h2,Deferred.ofValue,invoke,h1,jR hb]
 ·intro v w' χ' h2 h3
  exact k v _ w' χ' h2 h3 ((h.ev h2 hp).put (sv:=V v) (Nat.le_of_ble_eq_true hd))
def At {α:Type} (T:bW α) (w:World) (χ:Nat→Nat) (A:Addr) (x:α):Prop :=
 ∃ b o cells e fr,A=⟨b,o,none⟩∧χ b=0∧w.heap[b]?=some (.cells cells e fr)∧T.R w χ ((cells.toList.drop o).take T.n) x
theorem At.mv {α:Type} {T:bW α} {w':World} {χ':Nat→Nat} {A:Addr} {x:α} {p:Nat→Bool} (h:At T w χ A x) (e:Ev p w χ w' χ') (hp:p 0=false):At T w' χ' A x:=by
 obtain ⟨b,o,cells,e',fr,rfl,h2,h3,h4⟩:=h
 obtain ⟨k1,k2⟩:=(e.m0 hp).eT b (fH h3) h2
 exact ⟨b,o,cells,e',fr,rfl,k2,k1.trans h3,T.mono (e.m0 hp) h4⟩
def gi {α:Type} [Inhabited α] (xs:List α) (i:Int):α:=xs.getD i.toNat default
theorem qf {α:Type} [Inhabited α] {xs:List α} {i:Int} (h0:0≤i) (h1:i < xs.length):xs[i.toNat]?=some (gi xs i):=by
 have:i.toNat < xs.length:=by omega
 simp [gi,List.getD_eq_getElem?_getD,this]
def pY (tab:Tab) (t e:Nat):Bool:=match look tab t with | some ⟨_,_,_,_,.slice e'⟩=>Nat.beq e' e | _=>false
def pW (tab:Tab) (t m:Nat):Bool:=match look tab t with | some s=>Nat.beq s.size m | none=>false
theorem ko (T:aD P tab) {t e:Nat} (h:pY tab t e=true):P.underlying t=some (.slice e):=by
 unfold pY at h
 split at h
 ·rename_i ht
  obtain ⟨i,d,z,hi,hd,hz,hs,mN,lz,ju,_,_,_,DA,_⟩:=cB (T _ _ ht)
  rw [hd,DA _ rfl,Nat.eq_of_beq_eq_true h]
 ·cases h
theorem kZ (T:aD P tab) {t m:Nat} (h:pW tab t m=true):∃ i,P.info? t=some i∧i.size=m:=by
 unfold pW at h
 split at h
 ·rename_i s ht
  obtain ⟨i,d,z,hi,hd,hz,hs,_⟩:=cB (T _ _ ht)
  exact ⟨i,hi,hs.trans (Nat.eq_of_beq_eq_true h)⟩
 ·cases h
theorem mr {t e m:Nat} {ad:Option Addr} {b o len c:Nat} {k:IntKind} {i:Int} (hu:P.underlying t=some (.slice e)) {inf:TypeInfo} (hi:P.info? e=some inf) (hm:inf.size=m) (rS:ad=some ⟨b,o,none⟩) (h0:0≤i) (h1:i < len) :
  (Instr.indexAt t (.slice ad len c) (.int k i)).run P w=.ok (.pointer (some ⟨b,o+i.toNat * m,none⟩)) w:=by
 subst rS
 simp [Instr.indexAt,run_underlying hu,asIntOf,h0,h1,run_sizeOf hi,hm,Addr.add_lit]
theorem index {α:Type} [Inhabited α] {T:bW α} (TT:aD P tab) {t e:Nat} {x y:Operand} {ad:Option Addr} {xs:List α} {c:Nat} {k:IntKind} {i:Int} (h:St n sy ρ a w χ) (hw:ca all sy g=true) (hd:Nat.blt d n=true)
  (hx:evo sy x=some (V (.slice ad xs.length c))) (hy:evo sy y=some (V (.int k i))) (hR:RS T w χ ad xs c) (ht:pY tab t e=true) (hs:pW tab e T.n=true) (h0:0≤i) (h1:i < xs.length)
  (kk:∀ A a',At T w χ A (gi xs i)→St n ⟨(d,V (.pointer (some A))) :: sy.bK,sy.boxes⟩ ρ a' w χ→K a' w) :
  wp1 P all.toArray Q ⟨some d,.indexAddr t x y,ty,pos,af,g⟩ K a w:=by
 have hne:xs≠[]:=by intro e; subst e; simp at h1; omega
 obtain ⟨b,o,cells,e',fr,rS,nq,hh,gJ⟩:=hR.cells hne
 obtain ⟨inf,hi,hm⟩:=kZ TT hs
 have hr:=mr (P:=P) (w:=w) (c:=c) (k:=k) (ko TT ht) hi hm rS h0 h1
 refine fQ h hw hd (Ev.refl aL w χ) (fun _ _=>rfl) (v:=.pointer (some ⟨b,o+i.toNat * T.n,none⟩)) (w':=w) ?_ (fun a' h'=>kk _ a' ⟨b,o+i.toNat * T.n,cells,e',fr,rfl,nq,hh,gJ _ _ (qf h0 h1)⟩ h')
 have ex:a.eval x=.slice ad xs.length c:=h.evo hx
 have ey:a.eval y=.int k i:=h.evo hy
 simp [execOp,ex,ey,hr]
def pL (tab:Tab) (t:Nat) (b:Bool):Bool:=match look tab t with | some s=>s.agg == b | none=>false
theorem mQ (T:aD P tab) {t:Nat} {b:Bool} (h:pL tab t b=true):∃ d,P.underlying t=some d∧isA d=b:=by
 unfold pL at h
 split at h
 ·rename_i s ht
  obtain ⟨i,d,z,hi,hd,hz,hs,mN,lz,ju,_⟩:=cB (T _ _ ht)
  exact ⟨d,hd,by rw [← ju]; simpa using h⟩
 ·cases h
theorem dW {α:Type} {T:bW α} (TT:aD P tab) {t s:Nat} {A:Addr} {x:α} (h:St n sy ρ a w χ) (hw:ca all sy g=true) (hd:Nat.blt d n=true) (hs:look sy.bK s=some (V (.pointer (some A)))) (hA:At T w χ A x) (hn:T.n=1)
  (ht:pL tab t false=true) (k:∀ v a',T.R w χ [v] x→St n ⟨(d,V v) :: sy.bK,sy.boxes⟩ ρ a' w χ→K a' w) :
  wp1 P all.toArray Q ⟨some d,.load t (.tmp s),ty,pos,af,g⟩ K a w:=by
 obtain ⟨b,o,cells,e',fr,rfl,nq,hh,gJ⟩:=hA
 obtain ⟨dd,o5,Aq⟩:=mQ TT ht
 have hlen:=T.len gJ
 rw [hn] at hlen gJ
 match hl:(cells.toList.drop o).take 1,hlen with
 | [v],_ =>
  rw [hl] at gJ
  have kV:w.cell? ⟨b,o,none⟩=some v:=by
   have:(cells.toList.drop o)[0]?=some v:=by
    have:=congrArg (fun l=>l[0]?) hl
    simpa [List.getElem?_take] using this
   simp only [World.cell?,hh]
   simpa using this
  refine fQ h hw hd (Ev.refl aL w χ) (fun _ _=>rfl) (v:=v) (w':=w) ?_ (fun a' h'=>k v a' gJ h')
  have es:a.eval (.tmp s)=.pointer (some ⟨b,o,none⟩):=h.evo (x:=.tmp s) hs
  simp [execOp,es,Instr.loadAt,Instr.sureAddr,loadVar,gb o5,Aq,kV]
theorem eU {α:Type} {T:bW α} (TT:aD P tab) {t s:Nat} {A:Addr} {x:α} (h:St n sy ρ a w χ) (hw:ca all sy g=true) (hd:Nat.blt d n=true) (hs:look sy.bK s=some (V (.pointer (some A)))) (hA:At T w χ A x)
  (ht:pL tab t true=true) (kJ:pW tab t T.n=true) (k:∀ cs a',T.R w χ cs x→St n ⟨(d,V (.agg cs.toArray)) :: sy.bK,sy.boxes⟩ ρ a' w χ→K a' w) :
  wp1 P all.toArray Q ⟨some d,.load t (.tmp s),ty,pos,af,g⟩ K a w:=by
 obtain ⟨b,o,cells,e',fr,rfl,nq,hh,gJ⟩:=hA
 obtain ⟨dd,o5,Aq⟩:=mQ TT ht
 obtain ⟨inf,hi,hm⟩:=kZ TT kJ
 have hlen:=T.len gJ
 refine fQ h hw hd (Ev.refl aL w χ) (fun _ _=>rfl) (v:=.agg ((cells.toList.drop o).take T.n).toArray) (w':=w) ?_ (fun a' h'=>k _ a' gJ h')
 have es:a.eval (.tmp s)=.pointer (some ⟨b,o,none⟩):=h.evo (x:=.tmp s) hs
 have hl:=run_loadCells_list (P:=P) w ⟨b,o,none⟩ ((cells.toList.drop o).take T.n) (fun j v hj=>by
  rw [Addr.add_lit]
  simp only [World.cell?,hh]
  rw [List.getElem?_take] at hj
  split at hj
  ·simpa [Nat.add_comm] using hj
  ·cases hj)
 rw [hlen] at hl
 simp [execOp,es,Instr.loadAt,Instr.sureAddr,loadVar,gb o5,Aq,run_sizeOf hi,hm,hl]
theorem fw {α β:Type} {T:bW α} {TF:bW β} (TT:aD P tab) {t s f off fsz ft:Nat} {A:Addr} {x:α} {y:β} (h:St n sy ρ a w χ) (hw:ca all sy g=true) (hd:Nat.blt d n=true) (hs:look sy.bK s=some (V (.pointer (some A)))) (hA:At T w χ A x)
  (ht:(match look tab t with | some ⟨_,_,_,_,.struct fs⟩=>fs[f]? | _=>none)=some (off,fsz,ft)) (kJ:Nat.beq fsz TF.n=true) (hle:Nat.ble (off+TF.n) T.n=true) (hF:∀ cs,T.R w χ cs x→TF.R w χ ((cs.drop off).take TF.n) y)
  (k:∀ A' a',At TF w χ A' y→St n ⟨(d,V (.pointer (some A'))) :: sy.bK,sy.boxes⟩ ρ a' w χ→K a' w) :
  wp1 P all.toArray Q ⟨some d,.fieldAddr t (.tmp s) f,ty,pos,af,g⟩ K a w:=by
 obtain ⟨b,o,cells,e',fr,rfl,nq,hh,gJ⟩:=hA
 have es:a.eval (.tmp s)=.pointer (some ⟨b,o,none⟩):=h.evo (x:=.tmp s) hs
 split at ht
 ·rename_i fs ua
  obtain ⟨i,dd,z,hi,o5,hz,IU,mN,lz,ju,kp,_⟩:=cB (TT _ _ ua)
  obtain ⟨l,rfl,hm⟩:=kp _ rfl
  obtain ⟨fd,xM,zc⟩:=lv hm f _ ht
  simp only [Option.map_eq_some_iff,Prod.mk.injEq] at zc
  obtain ⟨j,hj,rfl,rfl,rfl⟩:=zc
  have QD:=Nat.eq_of_beq_eq_true kJ
  have hne:¬ j.size=0:=by have:=TF.pos; omega
  have MF:=Nat.le_of_ble_eq_true hle
  simp only [Array.getElem?_toList] at xM
  refine fQ h hw hd (Ev.refl aL w χ) (fun _ _=>rfl) (v:=.pointer (some ⟨b,o+fd.offset,none⟩)) (w':=w) ?_ (fun a' h'=>k _ a' ⟨b,o+fd.offset,cells,e',fr,rfl,nq,hh,?_⟩ h')
  ·simp [execOp,es,Instr.fieldAt,run_underlying o5,xM,Instr.sureAddr,fieldPlace,run_sizeOf hj,hne,Addr.add_lit]
  ·have:=hF _ gJ
   rw [List.drop_take,List.take_take,List.drop_drop,Nat.min_eq_left (by omega)] at this
   exact this
 ·cases ht
theorem nM {cells:Array Value} {L m i:Nat} {cs:List Value} (h:cells.toList.take L=cs) (hi:(i+1) * m≤L):chunk cells 0 m i=(cs.drop (i * m)).take m:=by
 subst h
 unfold chunk
 rw [List.drop_take,List.take_take,Nat.zero_add]
 congr 1
 rw [Nat.add_mul] at hi
 omega
theorem e9 {i len m:Nat} (h:i < len):(i+1) * m≤len * m:=Nat.mul_le_mul_right m h
structure Src {α:Type} (T:bW α) (w:World) (χ:Nat→Nat) (ad:Option Addr) (ys:List α) (c:Nat) (news:List Value):Prop where
 len:news.length=ys.length * T.n
 nil:ad=none→ys=[]∧c=0
 cell:∀ A,ad=some A→∀ j u,news[j]?=some u→w.cell? (A.add j)=some u
 one:∀ u∈news,u.oneCell'=true
 el:∀ (i:Nat) (y:α),ys[i]?=some y→T.R w χ ((news.drop (i * T.n)).take T.n) y
theorem ow {α:Type} {T:bW α} {ys:List α} {news:List Value} (hlen:news.length=ys.length * T.n) (gJ:∀ (i:Nat) (y:α),ys[i]?=some y→T.R w χ ((news.drop (i * T.n)).take T.n) y):∀ u∈news,u.oneCell'=true:=by
 intro u hu
 obtain ⟨j,hj⟩:=List.getElem?_of_mem hu
 have HX:j < news.length:=(List.getElem?_eq_some_iff.1 hj).1
 have hp:=T.pos
 have hq:j / T.n < ys.length:=by
  rw [hlen] at HX
  exact Nat.div_lt_of_lt_mul (by rw [Nat.mul_comm]; exact HX)
 have hR:=gJ (j / T.n) _ (List.getElem?_eq_getElem hq)
 refine T.one hR u ?_
 have hm:=Nat.div_add_mod j T.n
 have ik:=Nat.mod_lt j (show 0 < T.n by omega)
 have:((news.drop (j / T.n * T.n)).take T.n)[j % T.n]?=some u:=by
  rw [List.getElem?_take,if_pos ik,List.getElem?_drop]
  rw [show j / T.n * T.n+j % T.n=j by rw [Nat.mul_comm]; exact hm]
  exact hj
 exact List.mem_of_getElem? this
theorem RS.src {α:Type} {T:bW α} {ad:Option Addr} {ys:List α} {c:Nat} (h:RS T w χ ad ys c):∃ news,Src T w χ ad ys c news:=by
 by_cases hne:ys=[]
 ·subst hne
  exact ⟨[],by simp,h.nil,by intro A _ j u hu; simp at hu,by simp,by intro i y hy; simp at hy⟩
 ·obtain ⟨b,o,cells,e,fr,rS,nq,hh,gJ⟩:=h.cells hne
  have hp:=T.pos
  have I0:∀ (i:Nat) (y:α),ys[i]?=some y→(chunk cells o T.n i).length=T.n:=fun i y hy=>T.len (gJ i y hy)
  have P6:o+ys.length * T.n≤cells.size:=by
   have hl:ys.length≠0:=by simpa using hne
   have ik:ys.length - 1 < ys.length:=by omega
   have:=I0 (ys.length - 1) _ (List.getElem?_eq_getElem ik)
   simp only [chunk,List.length_take,List.length_drop,Array.length_toList] at this
   have e1:ys.length * T.n=(ys.length - 1) * T.n+T.n:=by
    rw [← Nat.succ_mul]; congr 1; omega
   omega
  have hlen:((cells.toList.drop o).take (ys.length * T.n)).length=ys.length * T.n:=by simp; omega
  have Cp:∀ (i:Nat) (y:α),ys[i]?=some y→T.R w χ ((((cells.toList.drop o).take (ys.length * T.n)).drop (i * T.n)).take T.n) y:=by
   intro i y hy
   have hi:i < ys.length:=(List.getElem?_eq_some_iff.1 hy).1
   have:=e9 (m:=T.n) hi
   rw [Nat.add_mul,Nat.one_mul] at this
   rw [List.drop_take,List.take_take,List.drop_drop,Nat.min_eq_left (by omega)]
   exact gJ i y hy
  refine ⟨(cells.toList.drop o).take (ys.length * T.n),hlen,h.nil,?_,ow hlen Cp,Cp⟩
  intro A hA j u hu
  rw [rS] at hA
  cases hA
  rw [Addr.add_lit]
  simp only [World.cell?,hh]
  rw [List.getElem?_take] at hu
  split at hu
  ·simpa using hu
  ·cases hu
theorem OS.src {α:Type} {T:bW α} {E col:Nat} {ad:Option Addr} {ys:List α} {c:Nat} (h:OS T E w χ col ad ys c):∃ news,Src T w χ ad ys c news:=by
 rcases h.row with ⟨rfl,rfl,rfl⟩ | ⟨b,cells,rS,nq,hh,hle,wJ,kJ,gJ⟩
 ·exact ⟨[],by simp,fun _=>⟨rfl,rfl⟩,(by intro A hA; cases hA),by simp,by intro i y hy; simp at hy⟩
 ·have Qz:ys.length * T.n≤cells.size:=by rw [kJ]; exact Nat.mul_le_mul_right _ hle
  have hlen:(cells.toList.take (ys.length * T.n)).length=ys.length * T.n:=by simp; omega
  have Cp:∀ (i:Nat) (y:α),ys[i]?=some y→T.R w χ (((cells.toList.take (ys.length * T.n)).drop (i * T.n)).take T.n) y:=by
   intro i y hy
   have hi:i < ys.length:=(List.getElem?_eq_some_iff.1 hy).1
   rw [← nM (cells:=cells) rfl (e9 hi)]
   exact gJ i y hy
  refine ⟨cells.toList.take (ys.length * T.n),hlen,(by rintro rfl; cases rS),?_,ow hlen Cp,Cp⟩
  obtain ⟨fr,hh,_⟩:=hh
  intro A hA j u hu
  rw [rS] at hA
  cases hA
  rw [Addr.add_lit]
  simp only [World.cell?,hh]
  rw [List.getElem?_take] at hu
  split at hu
  ·simpa using hu
  ·cases hu
theorem oT (t ty e:TypeId) (i:TypeInfo) (ht:P.underlying t=some (.slice e)) (hi:P.info? e=some i)
  (g w6 Gn:Nat) (cur:Array Value) (fz:Nat × Nat) (hg:w.heap[g]?=some (.cells cur e fz)) (A7:Ec fz cur.size)
  (a:Addr) (m c:Nat) (news:List Value) (hl:news.length=m * i.size) (IX:∀ j u,news[j]?=some u→w.cell? (a.add j)=some u) (h1:∀ u∈news,u.oneCell'=true)
  (pI:w6+m≤Gn) (xL:w6 * i.size+news.length≤cur.size) :
  (Builtin.append_ #[t,t] ty #[.slice (some ⟨g,0,none⟩) w6 Gn,.slice (some a) m c]).run P w =
   .ok (.slice (some ⟨g,0,none⟩) (w6+m) Gn) (w.setRow g (cur.toList.take (w6 * i.size)++news++cur.toList.drop (w6 * i.size+news.length)).toArray):=by
 have hf:=run_firstCells_some (P:=P) w i.size m a m c news hl IX
 have kp:=gu P g (w6 * i.size) e fz news 0 cur w hg A7 (by simpa using xL) h1
 simp only [Nat.add_zero] at kp
 simp [Builtin.append_,run_underlying ht,sizeOf,typeInfo,hi,Builtin.lenOf,pI,hf,Addr.add_lit,kp]
theorem w8 {α:Type} {T:bW α} {E col:Nat} {inf:TypeInfo} {z:Value} {t u:Nat} (hu:P.underlying t=some (.slice E)) (hi:P.info? E=some inf) (hz:inf.zero=some z) (kJ:inf.size=T.n) (mN:inf.bytes=T.bytes) (lz:z.cells.size=T.n)
  {ad C1:Option Addr} {xs ys:List α} {c c2:Nat} {news:List Value} (h:OS T E w χ col ad xs c) (hs:Src T w χ C1 ys c2 news) (jF:col≠0) (hb:(xs.length+ys.length) * T.bytes≤140737488355328) (h63:xs.length+ys.length≤9223372036854775807) :
  ∃ zy c' w' χ',(Builtin.append_ #[t,t] u #[.slice ad xs.length c,.slice C1 ys.length c2]).run P w=.ok (.slice zy (xs++ys).length c') w'∧OS T E w' χ' col zy (xs++ys) c'∧Ev (fZ col) w χ w' χ':=by
 have HU:(xs++ys).length=xs.length+ys.length:=by simp
 have G9:=T.pos
 have M9:∀ (w':World),w'.os=w.os→w'.tape=w.tape→w'.output=w.output→w.heap.size≤w'.heap.size→(∀ b,b < w.heap.size→χ b≠col→w'.heap[b]?=w.heap[b]?)→Ev (fZ col) w χ w' (fun b=>if w.heap.size≤b then col else χ b):=by
  intro w' h1 h2 h3 h4 h5
  refine ⟨h1,h2,h3,h4,fun b hb hp=>⟨h5 b hb ?_,?_⟩⟩
  ·intro e; rw [e] at hp; simp [fZ] at hp
  ·have:¬ w.heap.size≤b:=by omega
   simp [this]
 have Na:∀ (w':World) (lV:Array Value) (Ad:List Value),(xs.length=Ad.length / T.n)→Ad.length=xs.length * T.n→lV.toList.take ((xs.length+ys.length) * T.n)=Ad++news →
   (∀ (i:Nat) (x:α),xs[i]?=some x→T.R w χ ((Ad.drop (i * T.n)).take T.n) x)→Ev (fZ col) w χ w' (fun b=>if w.heap.size≤b then col else χ b) →
   ∀ (i:Nat) (x:α),(xs++ys)[i]?=some x→T.R w' (fun b=>if w.heap.size≤b then col else χ b) (chunk lV 0 T.n i) x:=by
  intro w' lV Ad _ DC IS Ex ev i x hx
  have hi:i < xs.length+ys.length:=by have:=(List.getElem?_eq_some_iff.1 hx).1; simpa using this
  rw [nM IS (e9 hi)]
  have m:=ev.m0 (show fZ col 0=false by cases h:fZ col 0 with | false=>rfl | true=>exact absurd (Nat.eq_of_beq_eq_true h).symm jF)
  by_cases ik:i < xs.length
  ·rw [List.getElem?_append_left ik] at hx
   have:=e9 (m:=T.n) ik
   rw [Nat.add_mul,Nat.one_mul] at this
   rw [List.drop_append_of_le_length (by omega),List.take_append_of_le_length (by simp; omega)]
   exact T.mono m (Ex i x hx)
  ·rw [List.getElem?_append_right (by omega)] at hx
   have e1:i * T.n=Ad.length+(i - xs.length) * T.n:=by
    rw [DC,← Nat.add_mul]; congr 1; omega
   rw [e1,List.drop_append,List.drop_eq_nil_of_le (by omega),List.nil_append,Nat.add_sub_cancel_left]
   exact T.mono m (hs.el _ x hx)
 have uc:news.length=ys.length * inf.size:=by rw [hs.len,kJ]
 have H0:(xs.length+ys.length) * inf.bytes≤140737488355328:=by rw [mN]; exact hb
 rcases h.row with ⟨rfl,rfl,rfl⟩ | ⟨b,cells,rfl,hc,hh,hle,wJ,Fv,gJ⟩
 ·
  cases C1 with
  | none =>
   obtain ⟨rfl,rfl⟩:=hs.nil rfl
   refine ⟨none,0,w,χ,?_,OS.nil T E w χ col,Ev.refl _ _ _⟩
   simp [Builtin.append_,run_underlying hu,sizeOf,typeInfo,hi,Builtin.lenOf,Builtin.firstCells]
  | some A =>
   by_cases hm:ys.length=0
   ·have:ys=[]:=List.eq_nil_of_length_eq_zero hm
    subst this
    refine ⟨none,0,w,χ,?_,OS.nil T E w χ col,Ev.refl _ _ _⟩
    simp [Builtin.append_,run_underlying hu,sizeOf,typeInfo,hi,Builtin.lenOf,Builtin.firstCells,loadCells,loadCellsFrom]
   ·simp only [List.length_nil,Nat.zero_add] at H0 h63
    have hr:=run_append_nil (P:=P) w t u E inf z hu hi hz A ys.length c2 news uc (hs.cell A rfl) (by omega) (by omega) (by omega)
    have hge:=grownCap_ge w ys.length 0 E
    have Cq:=grownCap_le_maxLen w ys.length 0 E (by unfold maxLen; omega)
    have ev:=M9 (w.drew.alloc (.cells (news.toArray++Builtin.zeroCells z.cells (grownCap w ys.length 0 E - ys.length)) E)) rfl rfl rfl (by simp) (fun b hb _=>heap_alloc_old w.drew _ hb)
    refine ⟨_,_,_,fun b=>if w.heap.size≤b then col else χ b,by simpa using hr,⟨by simpa [mN] using H0,.inr ⟨w.heap.size,_,rfl,by simp,.zero (heap_alloc_new w.drew _),by simpa using hge,Cq,?_,?_⟩⟩,ev⟩
    ·simp only [Array.size_append,List.size_toArray,size_zeroCells,lz,hs.len,← Nat.add_mul]
     congr 1; omega
    ·refine Na _ _ [] (by simp) (by simp) ?_ (by intro i x hx; simp at hx) ev
     simp only [List.length_nil,Nat.zero_add,Array.toList_append,List.nil_append]
     rw [← hs.len]; exact List.take_left
 ·have kM:=hh
  obtain ⟨fr,hh,A7⟩:=hh
  have ub:(cells.toList.take (xs.length * T.n)).length=xs.length * T.n:=by
   have:xs.length * T.n≤cells.size:=by rw [Fv]; exact Nat.mul_le_mul_right _ hle
   simp; omega
  have Ex:∀ (i:Nat) (x:α),xs[i]?=some x→T.R w χ (((cells.toList.take (xs.length * T.n)).drop (i * T.n)).take T.n) x:=by
   intro i x hx
   have hi:i < xs.length:=(List.getElem?_eq_some_iff.1 hx).1
   rw [← nM (cells:=cells) rfl (e9 hi)]
   exact gJ i x hx
  have hdiv:xs.length=(cells.toList.take (xs.length * T.n)).length / T.n:=by rw [ub,Nat.mul_div_cancel _ (by omega)]
  have Ez:∀ j v,(cells.toList.take (xs.length * T.n))[j]?=some v→w.cell? ((⟨b,0,none⟩:Addr).add j)=some v:=by
   intro j v hj
   rw [Addr.add_lit]
   simp only [World.cell?,hh]
   rw [List.getElem?_take] at hj
   split at hj
   ·simpa using hj
   ·cases hj
  by_cases pI:xs.length+ys.length≤c
  ·have xL:xs.length * inf.size+news.length≤cells.size:=by rw [uc,kJ,Fv,← Nat.add_mul]; exact Nat.mul_le_mul_right _ pI
   have key:∃ w',(Builtin.append_ #[t,t] u #[.slice (some ⟨b,0,none⟩) xs.length c,.slice C1 ys.length c2]).run P w=.ok (.slice (some ⟨b,0,none⟩) (xs++ys).length c) w' ∧
     w'=w.setRow b (cells.toList.take (xs.length * inf.size)++news++cells.toList.drop (xs.length * inf.size+news.length)).toArray:=by
    cases C1 with
    | none =>
     obtain ⟨rfl,rfl⟩:=hs.nil rfl
     have Qt:news=[]:=List.eq_nil_of_length_eq_zero (by simpa using hs.len)
     subst Qt
     refine ⟨w,?_,?_⟩
     ·simp [Builtin.append_,run_underlying hu,sizeOf,typeInfo,hi,Builtin.lenOf,Builtin.firstCells,hle,storeCells]
     ·simp only [List.append_nil,List.length_nil,Nat.add_zero,List.take_append_drop]
      exact (setRow_self w b cells E fr hh).symm
    | some A =>
     have hr:=oT (P:=P) (w:=w) t u E inf hu hi b xs.length c cells fr hh A7 A ys.length c2 news uc (hs.cell A rfl) hs.one pI xL
     exact ⟨_,by rw [hr,HU],rfl⟩
   obtain ⟨w',hr,rfl⟩:=key
   have ev:=M9 (w.setRow b (cells.toList.take (xs.length * inf.size)++news++cells.toList.drop (xs.length * inf.size+news.length)).toArray) rfl rfl rfl (by simp) (fun k hk hne=>setRow_other w b k _ (fun e=>hne (e ▸ hc)))
   have ik:=fH hh
   refine ⟨_,_,_,fun b=>if w.heap.size≤b then col else χ b,hr,⟨by rw [HU]; exact hb,.inr ⟨b,_,rfl,?_,kM.set (by simp only [List.size_toArray,List.length_append,List.length_take,List.length_drop,Array.length_toList]; omega),by rw [HU]; exact pI,wJ,?_,?_⟩⟩,ev⟩
   ·have:¬ w.heap.size≤b:=by omega
    simp [this,hc]
   ·simp only [List.size_toArray,List.length_append,List.length_take,List.length_drop,Array.length_toList]
    omega
   ·refine Na _ _ _ hdiv ub ?_ Ex ev
    rw [kJ]
    show ((cells.toList.take (xs.length * T.n)++news)++_).take _=_
    rw [List.take_append_of_le_length (by simp only [List.length_append,ub,hs.len,← Nat.add_mul]; omega)]
    rw [List.take_of_length_le (by simp only [List.length_append,ub,hs.len,← Nat.add_mul]; omega)]
  ·have key:∃ A,C1=some A:=by
    cases C1 with
    | none=>obtain ⟨rfl,rfl⟩:=hs.nil rfl; simp at pI; omega
    | some A=>exact ⟨A,rfl⟩
   obtain ⟨A,rfl⟩:=key
   have hr:=run_append_grow (P:=P) w t u E inf z hu hi hz ⟨b,0,none⟩ xs.length c (cells.toList.take (xs.length * T.n)) (by rw [ub,kJ]) Ez A ys.length c2 news uc (hs.cell A rfl) (by omega) (by omega) (growslice_fits (by omega) H0)
   have hge:=grownCap_ge w (xs.length+ys.length) c E
   have Cq:=grownCap_le_maxLen w (xs.length+ys.length) c E (by unfold maxLen; omega)
   have ev:=M9 (w.drew.alloc (.cells ((cells.toList.take (xs.length * T.n)).toArray++news.toArray++Builtin.zeroCells z.cells (grownCap w (xs.length+ys.length) c E - (xs.length+ys.length))) E)) rfl rfl rfl (by simp) (fun b hb _=>heap_alloc_old w.drew _ hb)
   refine ⟨_,_,_,fun b=>if w.heap.size≤b then col else χ b,by rw [HU]; exact hr,⟨by rw [HU]; exact hb,.inr ⟨w.heap.size,_,rfl,by simp,.zero (heap_alloc_new w.drew _),by rw [HU]; exact hge,Cq,?_,?_⟩⟩,ev⟩
   ·simp only [Array.size_append,List.size_toArray,size_zeroCells,lz,hs.len,ub,← Nat.add_mul]
    congr 1; omega
   ·refine Na _ _ _ hdiv ub ?_ Ex ev
    simp only [Array.toList_append]
    rw [List.take_append_of_le_length (by simp only [List.length_append,ub,hs.len,← Nat.add_mul]; omega)]
    rw [List.take_of_length_le (by simp only [List.length_append,ub,hs.len,← Nat.add_mul]; omega)]
theorem cA {col:Nat} (h:Nat.ble 1000 col=true):∀ c,iM c=true→fZ col c=false:=by
 intro c hc
 simp only [iM,Bool.and_eq_true] at hc
 have h1:=Nat.le_of_ble_eq_true hc.2
 have h2:=Nat.le_of_ble_eq_true h
 cases he:fZ col c with
 | false=>rfl
 | true=>have:=Nat.eq_of_beq_eq_true he; omega
def vY (tab:Tab) (E n DG:Nat):Bool:=match look tab E with | some s=>Nat.beq s.size n && Nat.beq s.bytes DG && Nat.beq s.zero.length n | none=>false
theorem CI (T:aD P tab) {E m b:Nat} (h:vY tab E m b=true):∃ i z,P.info? E=some i∧i.zero=some z∧i.size=m∧i.bytes=b∧z.cells.size=m:=by
 unfold vY at h
 split at h
 ·rename_i s ht
  obtain ⟨i,d,z,hi,hd,hz,hs,mN,lz,_⟩:=cB (T _ _ ht)
  simp only [Bool.and_eq_true] at h
  exact ⟨i,z,hi,hz,hs.trans (Nat.eq_of_beq_eq_true h.1.1),mN.trans (Nat.eq_of_beq_eq_true h.1.2),by rw [← Array.length_toList,lz]; exact Nat.eq_of_beq_eq_true h.2⟩
 ·cases h
theorem append {α:Type} {T:bW α} (TT:aD P tab) {t E col:Nat} {x y:Operand} {ad C1:Option Addr} {xs ys:List α} {c c2:Nat} {news:List Value} (h:St n sy ρ a w χ) (hw:ca all sy g=true) (hd:Nat.blt d n=true)
  (hx:evo sy x=some (V (.slice ad xs.length c))) (hy:evo sy y=some (V (.slice C1 ys.length c2))) (hO:OS T E w χ col ad xs c) (hs:Src T w χ C1 ys c2 news) (ht:pY tab t E=true) (he:vY tab E T.n T.bytes=true) (jF:Nat.ble 1000 col=true)
  (KL:Nat.ble T.bytes 128=true) (IZ:xs.length+ys.length≤1099511627776)
  (k:∀ zy c' a' w' χ',Ev (fZ col) w χ w' χ'→OS T E w' χ' col zy (xs++ys) c'→St n ⟨(d,V (.slice zy (xs++ys).length c')) :: sy.bK,sy.boxes⟩ ρ a' w' χ'→K a' w') :
  wp1 P all.toArray Q ⟨some d,.call ⟨.builtin .append,#[x,y],#[t,t]⟩,ty,pos,af,g⟩ K a w:=by
 obtain ⟨inf,z,hi,hz,kJ,mN,lz⟩:=CI TT he
 have nq:col≠0:=by have:=Nat.le_of_ble_eq_true jF; omega
 obtain ⟨zy,c',w',χ',hr,Q9,ev⟩:=w8 (u:=ty) (ko TT ht) hi hz kJ mN lz hO hs nq (room IZ KL) (by omega)
 refine fQ h hw hd ev (cA jF) (v:=.slice zy (xs++ys).length c') (w':=w') ?_ (fun a' h'=>k zy c' a' w' χ' ev Q9 h')
 have ex:a.eval x=.slice ad xs.length c:=h.evo hx
 have ey:a.eval y=.slice C1 ys.length c2:=h.evo hy
 simp [execOp,resolve,invoke,builtin,ex,ey,hr]
def RL {α:Type} (T:bW α) (w:World) (χ:Nat→Nat):List Value→List α→Prop
 | [],[]=>True
 | v :: vs,y :: ys=>T.R w χ v.cells.toList y∧RL T w χ vs ys
 | _,_=>False
theorem RL.len {α:Type} {T:bW α}:∀ {vs:List Value} {ys:List α},RL T w χ vs ys→vs.length=ys.length
 | [],[],_=>rfl
 | _ :: _,_ :: _,h=>by simp [RL.len h.2]
 | [],_ :: _,h=>h.elim
 | _ :: _,[],h=>h.elim
def counts:Nat→List (Nat × Operand)→Bool
 | _,[]=>true
 | i,q :: l=>Nat.beq q.1 i && counts (i+1) l
theorem vW {m:Nat}:∀ (vs:List Value) (i:Nat) (done left:List Value),done.length=i * m→left.length=vs.length * m→(∀ v∈vs,v.cells.size=m) →
  Instr.fill (fun i=>some (i * m,m)) (done++left).toArray ((vs.zipIdx i).map (fun q=>(q.2,q.1)))=some (done++vs.flatMap (fun v=>v.cells.toList)).toArray
 | [],i,done,left,h1,h2,_=>by
  simp at h2; have:left=[]:=h2; subst this
  simp [Instr.fill]
 | v :: vs,i,done,left,h1,h2,h3=>by
  have hv:v.cells.size=m:=h3 v (by simp)
  have hl:left.length=m+vs.length * m:=by rw [h2,List.length_cons,Nat.succ_mul]; omega
  have hf:=lT (fun i=>some (i * m,m)) [(i,v)] (done++left) (done++v.cells.toList++left.drop m) (by
   simp only [ry]
   rw [show (Nat.beq v.cells.size m && Nat.ble (i * m+m) (done++left).length)=true by
    rw [Bool.and_eq_true]; exact ⟨by simp [hv],by simp [h1,hl]⟩]
   simp only [cond_true,Option.some.injEq]
   rw [List.take_append_of_le_length (by omega),List.take_of_length_le (by omega),← h1,List.drop_append]
   rw [List.drop_eq_nil_of_le (by omega),List.nil_append,Nat.add_sub_cancel_left])
  have ih:=vW vs (i+1) (done++v.cells.toList) (left.drop m) (by simp [h1,hv,Nat.succ_mul]) (by simp; omega) (fun u hu=>h3 u (by simp [hu]))
  simp only [List.zipIdx_cons,List.map_cons]
  simp only [Instr.fill] at hf ⊢
  split at hf
  ·cases hf
  ·rename_i Jc
   rw [if_neg Jc]
   have:∀ {x y:Array Value},some x=some y→x=y:=fun h=>Option.some.inj h
   rw [this hf,ih]
   simp
theorem xR (h:St n sy ρ a w χ):∀ (l:List (Nat × Operand)) (i:Nat) (vals:List Value),counts i l=true→jm sy ρ (l.map (·.2))=some vals→l.map (fun q=>(q.1,a.eval q.2))=(vals.zipIdx i).map (fun q=>(q.2,q.1)):=by
 intro l
 induction l with
 | nil=>intro i vals _ e; simp [jm,evs] at e; subst e; rfl
 | cons q l ih =>
  intro i vals hc e
  simp only [counts,Bool.and_eq_true] at hc
  unfold jm at e
  simp only [List.map_cons,evs] at e
  cases h1:evo sy q.2 with
  | none=>simp [h1] at e
  | some v =>
   cases h2:evs sy (l.map (·.2)) with
   | none=>simp [h1,h2] at e
   | some r =>
    simp [h1,h2] at e
    subst e
    have:=ih (i+1) (r.map (bD ρ)) hc.2 (by simp [jm,h2])
    simp [this,h.evo h1,Nat.eq_of_beq_eq_true hc.1]
theorem RL.Fb {α:Type} {T:bW α}:∀ {vs:List Value} {ys:List α},RL T w χ vs ys→∀ v∈vs,v.cells.size=T.n
 | [],[],_=>by simp
 | v :: vs,y :: ys,h=>by
  intro u hu
  rcases List.mem_cons.1 hu with rfl | hu
  ·rw [← Array.length_toList]; exact T.len h.1
  ·exact RL.Fb h.2 u hu
 | [],_ :: _,h=>h.elim
 | _ :: _,[],h=>h.elim
theorem RL.get {α:Type} {T:bW α}:∀ {vs:List Value} {ys:List α},RL T w χ vs ys→∀ (i:Nat) (y:α),ys[i]?=some y→T.R w χ (((vs.flatMap (fun v=>v.cells.toList)).drop (i * T.n)).take T.n) y
 | [],[],_,i,y,hy=>by simp at hy
 | v :: vs,z :: ys,h,i,y,hy=>by
  have hv:v.cells.toList.length=T.n:=T.len h.1
  cases i with
  | zero =>
   simp at hy; subst hy
   simp only [List.flatMap_cons,Nat.zero_mul,List.drop_zero]
   rw [List.take_append_of_le_length (by omega),List.take_of_length_le (by omega)]
   exact h.1
  | succ i =>
   simp only [List.getElem?_cons_succ] at hy
   rw [List.flatMap_cons,Nat.succ_mul,Nat.add_comm,← List.drop_drop,← hv,List.drop_left,hv]
   exact RL.get h.2 i y hy
 | [],_ :: _,h,_,_,_=>h.elim
 | _ :: _,[],h,_,_,_=>h.elim
theorem oz {m:Nat}:∀ (vs:List Value),(∀ v∈vs,v.cells.size=m)→(vs.flatMap (fun v=>v.cells.toList)).length=vs.length * m
 | [],_=>by simp
 | v :: vs,h=>by
  rw [List.flatMap_cons,List.length_append,oz vs (fun u hu=>h u (by simp [hu])),List.length_cons,Nat.succ_mul,Array.length_toList,h v (by simp),Nat.add_comm]
theorem oB (w:World) (χ:Nat→Nat) (o:Obj) (col:Nat):Ev aL w χ (w.alloc o) (fun b=>if w.heap.size≤b then col else χ b) :=
 ⟨rfl,rfl,rfl,by simp,fun b hb _=>⟨heap_alloc_old w o hb,if_neg (Nat.not_le.2 hb)⟩⟩
theorem lit {α:Type} {T:bW α} (TT:aD P tab) {t E m col:Nat} {parts:Array (Nat × Operand)} {vals:List Value} {ys:List α} (h:St n sy ρ a w χ) (hw:ca all sy g=true) (hd:Nat.blt d n=true) (QT:counts 0 parts.toList=true)
  (hv:jm sy ρ (parts.toList.map (·.2))=some vals) (hR:RL T w χ vals ys) (hm:m=ys.length) (ht:pY tab t E=true) (he:vY tab E T.n T.bytes=true) (MU:Nat.ble (m * T.n) 16777216=true) (mN:Nat.ble (m * T.bytes) 16777216=true)
  (k:∀ b a' w' χ',Ev aL w χ w' χ'→OS T E w' χ' col (some ⟨b,0,none⟩) ys m→w.heap.size≤b→St n ⟨(d,V (.slice (some ⟨b,0,none⟩) m m)) :: sy.bK,sy.boxes⟩ ρ a' w' χ'→K a' w') :
  wp1 P all.toArray Q ⟨some d,.buildSlice t m parts,ty,pos,af,g⟩ K a w:=by
 obtain ⟨inf,z,hi,hz,kJ,QX,lz⟩:=CI TT he
 have hlen:=hR.len
 have Cf:=hR.Fb
 have OJ:=Nat.le_of_ble_eq_true MU
 have MS:=Nat.le_of_ble_eq_true mN
 have Cj:(parts.map fun (i,x)=>(i,a.eval x)).toList=(vals.zipIdx 0).map (fun q=>(q.2,q.1)):=by
  rw [← xR h _ 0 vals QT hv]; simp
 have wF:∀ (z:Array Value),((Array.range (m * T.n)).map (z[· % z.size]!))=(([]:List Value)++((Array.range (m * T.n)).map (z[· % z.size]!)).toList).toArray:=fun z=>by rw [List.nil_append,Array.toArray_toList]
 have sQ:∀ (zz:Array Value),Instr.fill (fun i=>some (i * T.n,T.n)) ((Array.range (m * T.n)).map (zz[· % zz.size]!)) ((vals.zipIdx 0).map (fun q=>(q.2,q.1)))=some (vals.flatMap (fun v=>v.cells.toList)).toArray:=by
  intro zz
  rw [wF zz,vW vals 0 [] _ (by simp) (by simp [hlen,hm]) Cf]
  simp
 have I6:(Instr.buildSlice t m (parts.map fun (i,x)=>(i,a.eval x))).run P w=.ok (.slice (some ⟨w.heap.size,0,none⟩) m m) (w.alloc (.cells (vals.flatMap (fun v=>v.cells.toList)).toArray E)):=by
  have OB:¬ (m * T.n > 2 ^ 24):=by omega
  by_cases h0:m * T.n=0
  ·simp only [Instr.buildSlice,Sem.run_bind,run_underlying (ko TT ht),Result.andThen_ok,run_sizeOf hi,kJ,Cj,if_neg OB,if_pos h0,Sem.run_pure,sQ]
   rfl
  ·simp only [Instr.buildSlice,Sem.run_bind,run_underlying (ko TT ht),Result.andThen_ok,run_sizeOf hi,kJ,Cj,if_neg OB,if_neg h0,Sem.run_pure,zeroValue,typeInfo,run_program,hi,hz,sQ]
   rfl
 have lA:(execOp a.eval ⟨some d,.buildSlice t m parts,ty,pos,af,g⟩).run P w=.ok (.value (.slice (some ⟨w.heap.size,0,none⟩) m m)) (w.alloc (.cells (vals.flatMap (fun v=>v.cells.toList)).toArray E)):=by
  simp only [execOp,Sem.run_bind,I6,Result.andThen_ok,Sem.run_pure]
 have ev:=oB w χ (.cells (vals.flatMap (fun v=>v.cells.toList)).toArray E) col
 have cx:=ev.m0 rfl
 have hfl:=oz (m:=T.n) vals Cf
 refine fQ h hw hd ev (fun _ _=>rfl) lA (fun a' h'=>k w.heap.size a' _ _ ev ⟨by rw [← hm]; omega,.inr ⟨w.heap.size,_,rfl,by simp,.zero (heap_alloc_new w _),by omega,by unfold maxLen; have:=T.pos; have:m≤m * T.n:=Nat.le_mul_of_pos_right m (by omega); omega,?_,?_⟩⟩ (Nat.le_refl _) h')
 ·simp only [List.size_toArray,hfl,hlen,hm]
 ·intro i x hx
  have:=T.mono cx (hR.get i x hx)
  unfold chunk
  simpa using this
theorem OS.freeze {α:Type} {T:bW α} {E col:Nat} {ad:Option Addr} {xs:List α} {c:Nat} (h:OS T E w χ col ad xs c) (jF:col≠0):∃ χ',Ev (fZ col) w χ w χ'∧RS T w χ' ad xs c:=by
 have ev:Ev (fZ col) w χ w (fun b=>if χ b=col then 0 else χ b):=⟨rfl,rfl,rfl,Nat.le_refl _,fun b _ hp=>⟨rfl,by
  have:χ b≠col:=by intro e; rw [e] at hp; simp [fZ] at hp
  simp [this]⟩⟩
 have m:=ev.m0 (show fZ col 0=false by cases h:fZ col 0 with | false=>rfl | true=>exact absurd (Nat.eq_of_beq_eq_true h).symm jF)
 refine ⟨_,ev,?_⟩
 rcases h.row with ⟨rfl,rfl,rfl⟩ | ⟨b,cells,rfl,hc,hh,hle,wJ,kJ,gJ⟩
 ·exact RS.empty T w _
 ·obtain ⟨fr,hh,_⟩:=hh; exact ⟨hle,h.bnd,(by intro e; cases e),fun _=>⟨b,0,cells,E,fr,rfl,by simp [hc],hh,fun i x hx=>T.mono m (gJ i x hx)⟩⟩
theorem OS.u4 {α:Type} {T:bW α} {E col:Nat} {ad:Option Addr} {xs:List α} {c:Nat} {χ':Nat→Nat} (h:OS T E w χ col ad xs c) (m:M0 w χ w χ') {JB:Nat} (Cv:∀ b,χ b=col→χ' b=JB):OS T E w χ' JB ad xs c:=by
 refine ⟨h.bnd,?_⟩
 rcases h.row with h | ⟨b,cells,rfl,hc,hh,hle,wJ,kJ,gJ⟩
 ·exact .inl h
 ·exact .inr ⟨b,cells,rfl,Cv b hc,hh,hle,wJ,kJ,fun i x hx=>T.mono m (gJ i x hx)⟩
theorem OS.out {α:Type} {T:bW α} {E k:Nat} {ad:Option Addr} {xs:List α} {c:Nat} {χ':Nat→Nat} {f:Nat→Nat} (h:OS T E w χ k ad xs c) (m:M0 w χ w χ') (hC:∀ b,χ b≠0→χ b≠1000→χ' b=f (χ b)) (h0:Nat.ble 1001 k=true):OS T E w χ' (f k) ad xs c :=
 h.u4 m (fun b hb=>by
  have:=Nat.le_of_ble_eq_true h0
  rw [hC b (by omega) (by omega),hb])
def fb (col:Nat) (χ:Nat→Nat) (b:Nat):Nat:=if χ b=col then 0 else χ b
theorem OS.fb {α:Type} {T:bW α} {E col:Nat} {ad:Option Addr} {xs:List α} {c:Nat} (h:OS T E w χ col ad xs c):RS T w (Sv.fb col χ) ad xs c:=by
 have m:M0 w χ w (Sv.fb col χ):=⟨Nat.le_refl _,fun b _ h0=>⟨rfl,by simp [Sv.fb,h0]⟩⟩
 rcases h.row with ⟨rfl,rfl,rfl⟩ | ⟨b,cells,rfl,hc,hh,hle,wJ,kJ,gJ⟩
 ·exact RS.empty T w _
 ·obtain ⟨fr,hh,_⟩:=hh; exact ⟨hle,h.bnd,(by intro e; cases e),fun _=>⟨b,0,cells,E,fr,rfl,by simp [Sv.fb,hc],hh,fun i x hx=>T.mono m (gJ i x hx)⟩⟩
theorem M0.fb (col:Nat):M0 w χ w (Sv.fb col χ):=⟨Nat.le_refl _,fun b _ h0=>⟨rfl,by simp [Sv.fb,h0]⟩⟩
theorem Ev.oQ {col:Nat} {w':World} {χ':Nat→Nat} (e:Ev aL w (Sv.fb col χ) w' χ'):Ev aL w χ w' (fun b=>if b < w.heap.size then χ b else χ' b) :=
 ⟨e.os,e.tape,e.output,e.size,fun b hb _=>⟨(e.eT b hb rfl).1,by simp [hb]⟩⟩
def AtO {α:Type} (T:bW α) (E:Nat) (w:World) (χ:Nat→Nat) (col:Nat) (ad:Option Addr) (i:Nat) (A:Addr):Prop :=
 ∃ b cells,ad=some ⟨b,0,none⟩∧A=⟨b,i * T.n,none⟩∧χ b=col∧Row w b cells E
theorem wX {α:Type} {T:bW α} (TT:aD P tab) {t E col s:Nat} {y:Operand} {ad:Option Addr} {xs:List α} {c i:Nat} {A:Addr} {x:α} {v:SV} (h:St n sy ρ a w χ) (hw:ca all sy g=true) (jF:Nat.ble 1000 col=true)
  (hs:look sy.bK s=some (V (.pointer (some A)))) (hy:evo sy y=some v) (hO:OS T E w χ col ad xs c) (hA:AtO T E w χ col ad i A) (hi:i < xs.length) (kJ:pW tab t T.n=true) (hR:∀ w' χ',M0 w χ w' χ'→T.R w' χ' (bD ρ v).cells.toList x)
  (k:∀ a' w',Ev (fZ col) w χ w' χ→OS T E w' χ col ad (xs.set i x) c→St n sy ρ a' w' χ→K a' w') :
  wp1 P all.toArray Q ⟨none,.store t (.tmp s) y,ty,pos,af,g⟩ K a w:=by
 obtain ⟨b',lV,rS,rfl,QU,ML⟩:=hA
 rcases hO.row with ⟨rfl,rfl,rfl⟩ | ⟨b,cells,xN,hc,hh,hle,wJ,G8,gJ⟩
 ·simp at hi
 ·rw [xN] at rS
  simp only [Option.some.injEq,Addr.mk.injEq,and_true] at rS
  subst rS
  obtain ⟨inf,Hh,hm⟩:=kZ TT kJ
  have DF:=hR w χ (M0.refl w χ)
  have hlen:=T.len DF
  have Cg:(bD ρ v).cells.size=inf.size:=by rw [← Array.length_toList,hlen,hm]
  have xL:i * T.n+(bD ρ v).cells.toList.length≤cells.size:=by
   rw [hlen,G8]
   have h1:=e9 (m:=T.n) hi
   have h2:=Nat.mul_le_mul_right T.n hle
   rw [Nat.add_mul,Nat.one_mul] at h1
   omega
  have kM:=hh
  obtain ⟨fr,hh,A7⟩:=hh
  have kp:=gu P b (i * T.n) E fr (bD ρ v).cells.toList 0 cells w hh A7 (by simpa using xL) (T.one DF)
  simp only [Nat.add_zero] at kp
  have ev:Ev (fZ col) w χ (w.setRow b (cells.toList.take (i * T.n)++(bD ρ v).cells.toList++cells.toList.drop (i * T.n+(bD ρ v).cells.toList.length)).toArray) χ :=
   ⟨rfl,rfl,rfl,by simp,fun b' _ hp=>⟨setRow_other _ _ _ _ (by intro e; rw [e,hc] at hp; simp [fZ] at hp),rfl⟩⟩
  have nq:col≠0:=by have:=Nat.le_of_ble_eq_true jF; omega
  have m:=ev.m0 (show fZ col 0=false by cases h:fZ col 0 with | false=>rfl | true=>exact absurd (Nat.eq_of_beq_eq_true h).symm nq)
  refine fL (dH h (o:=⟨none,.store t (.tmp s) y,ty,pos,af,g⟩) hw) ?_
  have es:a.eval (.tmp s)=.pointer (some ⟨b,i * T.n,none⟩):=h.evo (x:=.tmp s) hs
  have xI:(storeVar t ⟨b,i * T.n,none⟩ (bD ρ v)).run P w=.ok () (w.setRow b (cells.toList.take (i * T.n)++(bD ρ v).cells.toList++cells.toList.drop (i * T.n+(bD ρ v).cells.toList.length)).toArray):=by
   simp only [storeVar,Sem.run_bind,run_sizeOf Hh,Result.andThen_ok,Cg,ne_eq,not_true_eq_false,if_false]
   exact kp
  have hr:(execOp a.eval ⟨none,.store t (.tmp s) y,ty,pos,af,g⟩).run P w=.ok .skip (w.setRow b (cells.toList.take (i * T.n)++(bD ρ v).cells.toList++cells.toList.drop (i * T.n+(bD ρ v).cells.toList.length)).toArray):=by
   simp only [execOp,es,h.evo hy,Instr.storeAt,Instr.sureAddr,Sem.run_bind,Sem.run_pure,Result.andThen_ok,xI]
  unfold Oper.wp
  rw [hr]
  simp only [Oper.upon]
  refine k _ _ ev ⟨by simpa using hO.bnd,.inr ⟨b,_,xN,hc,kM.set (by simp only [List.size_toArray,List.length_append,List.length_take,List.length_drop,Array.length_toList]; omega),by simpa using hle,wJ,?_,?_⟩⟩ (h.ev ev (cA jF))
  ·simp only [List.size_toArray,List.length_append,List.length_take,List.length_drop,Array.length_toList]
   omega
  ·intro j z hz
   have HX:j < xs.length:=by have:=(List.getElem?_eq_some_iff.1 hz).1; simpa using this
   rw [List.getElem?_set] at hz
   have Cm:(bD ρ v).cells.toList.length=T.n:=hlen
   have h1:=e9 (m:=T.n) hi
   have M7:=e9 (m:=T.n) HX
   have h2:=Nat.mul_le_mul_right T.n hle
   rw [Nat.add_mul,Nat.one_mul] at h1 M7
   have Am:(cells.toList.take (i * T.n)).length=i * T.n:=by simp; omega
   unfold chunk
   simp only [Nat.zero_add]
   by_cases xK:i=j
   ·subst xK
    rw [if_pos rfl] at hz
    split at hz
    ·cases hz
     have hx:=hR _ χ m
     have e:List.take T.n (List.drop (i * T.n) (cells.toList.take (i * T.n)++(bD ρ v).cells.toList++cells.toList.drop (i * T.n+(bD ρ v).cells.toList.length)))=(bD ρ v).cells.toList:=by
      rw [List.append_assoc,List.drop_left' Am,List.take_left' Cm]
     show T.R _ _ (List.take T.n (List.drop (i * T.n) (cells.toList.take (i * T.n)++(bD ρ v).cells.toList++cells.toList.drop (i * T.n+(bD ρ v).cells.toList.length)))) x
     rw [e]
     exact hx
    ·omega
   ·rw [if_neg xK] at hz
    have hx:=T.mono m (gJ j z hz)
    unfold chunk at hx
    rw [Nat.zero_add] at hx
    have:List.take T.n (List.drop (j * T.n) (cells.toList.take (i * T.n)++(bD ρ v).cells.toList++cells.toList.drop (i * T.n+(bD ρ v).cells.toList.length)))=List.take T.n (List.drop (j * T.n) cells.toList):=by
     apply List.ext_getElem?
     intro q
     rw [List.getElem?_take,List.getElem?_take]
     by_cases hq:q < T.n
     ·rw [if_pos hq,if_pos hq,List.getElem?_drop,List.getElem?_drop]
      rcases Nat.lt_or_gt_of_ne xK with ik | hgt
      ·have h3:=Nat.mul_le_mul_right T.n ik
       rw [Nat.succ_mul] at h3
       rw [List.getElem?_append_right (by rw [List.length_append,Am,Cm]; omega),List.length_append,Am,Cm,List.getElem?_drop]
       congr 1
       omega
      ·have h3:=Nat.mul_le_mul_right T.n hgt
       rw [Nat.succ_mul] at h3
       rw [List.append_assoc,List.getElem?_append_left (by omega),List.getElem?_take,if_pos (by omega)]
     ·rw [if_neg hq,if_neg hq]
    show T.R _ _ (List.take T.n (List.drop (j * T.n) (cells.toList.take (i * T.n)++(bD ρ v).cells.toList++cells.toList.drop (i * T.n+(bD ρ v).cells.toList.length)))) z
    rw [this]
    exact hx
theorem Ret.oQ {f:FuncId} {vals:Array Value} {col:Nat} {post:World→(Nat→Nat)→Value→Prop} (h:Ret P f vals aL w (Sv.fb col χ) post):Ret P f vals aL w χ (fun w' _ v=>∃ uF,post w' uF v) :=
 Calls.mono h fun _ _ ⟨v,χ',h1,h2,h3⟩=>⟨v,_,h1,h2.oQ,χ',h3⟩
theorem make {α:Type} {T:bW α} (TT:aD P tab) {t E col:Nat} {x y:Operand} {kl kc:IntKind} {l c:Int} (zz:α) (h:St n sy ρ a w χ) (hw:ca all sy g=true) (hd:Nat.blt d n=true)
  (hx:evo sy x=some (V (.int kl l))) (hy:evo sy y=some (V (.int kc c))) (ht:pY tab t E=true) (he:vY tab E T.n T.bytes=true) (h0:0≤l) (I5:l≤c) (hb:T.bytes * c≤140737488355328) (h63:c≤9223372036854775807)
  (hz:∀ w' χ',(match look tab E with | some s=>T.R w' χ' s.zero zz | none=>False))
  (k:∀ b a' w' χ',Ev aL w χ w' χ'→OS T E w' χ' col (some ⟨b,0,none⟩) (List.replicate l.toNat zz) c.toNat→w.heap.size≤b→St n ⟨(d,V (.slice (some ⟨b,0,none⟩) l.toNat c.toNat)) :: sy.bK,sy.boxes⟩ ρ a' w' χ'→K a' w') :
  wp1 P all.toArray Q ⟨some d,.makeSlice t x y,ty,pos,af,g⟩ K a w:=by
 have sR:=he
 unfold vY at sR
 cases hE:look tab E with
 | none=>rw [hE] at sR; cases sR
 | some s =>
  obtain ⟨i,dd,z,hi,o5,xG,hs,mN,lz,_⟩:=cB (TT _ _ hE)
  rw [hE] at sR
  simp only [Bool.and_eq_true] at sR
  have e1:=Nat.eq_of_beq_eq_true sR.1.1
  have e2:=Nat.eq_of_beq_eq_true sR.1.2
  have e3:=Nat.eq_of_beq_eq_true sR.2
  have Et:i.size=T.n:=hs.trans e1
  have Ce:z.cells.size=T.n:=by rw [← Array.length_toList,lz,e3]
  have hr:=run_make (P:=P) w t E i z (ko TT ht) hi xG kl kc l c h0 I5 (by rw [mN,e2]; omega) h63
  have ev:=oB w χ (.cells (madeCells z.cells (c.toNat * i.size)) E) col
  refine fQ h hw hd ev (fun _ _=>rfl) (v:=.slice (some ⟨w.heap.size,0,none⟩) l.toNat c.toNat) (w':=w.alloc (.cells (madeCells z.cells (c.toNat * i.size)) E)) ?_ (fun a' h'=>k _ a' _ _ ev ⟨?_,.inr ⟨w.heap.size,_,rfl,by simp,.zero (heap_alloc_new w _),?_,?_,?_,?_⟩⟩ (Nat.le_refl _) h')
  ·have ex:a.eval x=.int kl l:=h.evo hx
   have ey:a.eval y=.int kc c:=h.evo hy
   simp [execOp,ex,ey,hr]
  ·rw [List.length_replicate]
   have h1:(l.toNat:Int) * T.bytes≤T.bytes * c:=by
    rw [Int.toNat_of_nonneg h0,Int.mul_comm]
    exact Int.mul_le_mul_of_nonneg_left I5 (Int.natCast_nonneg _)
   have h2:((l.toNat * T.bytes:Nat):Int)≤140737488355328:=by
    rw [Int.natCast_mul]; omega
   omega
  ·rw [List.length_replicate]; omega
  ·unfold maxLen; omega
  ·rw [size_madeCells,Et]
  ·intro j q hq
   have hj:j < l.toNat:=by have:=(List.getElem?_eq_some_iff.1 hq).1; simpa using this
   have wG:q=zz:=by
    simp [List.getElem?_replicate] at hq; exact hq.2.symm
   subst wG
   have wE:=hz (w.alloc (.cells (madeCells z.cells (c.toNat * i.size)) E)) (fun b=>if w.heap.size≤b then col else χ b)
   rw [hE] at wE
   simp only [] at wE
   have:chunk (madeCells z.cells (c.toNat * i.size)) 0 T.n j=s.zero:=by
    rw [← lz]
    have MI:(j+1) * T.n≤c.toNat * T.n:=Nat.mul_le_mul_right _ (by omega)
    have kJ:(madeCells z.cells (c.toNat * i.size)).size=c.toNat * T.n:=by rw [size_madeCells,Et]
    rw [Nat.add_mul,Nat.one_mul] at MI
    apply List.ext_getElem?
    intro q
    unfold chunk
    rw [List.getElem?_take,Nat.zero_add]
    by_cases hq:q < T.n
    ·rw [if_pos hq,List.getElem?_drop]
     have ik:j * T.n+q < c.toNat * i.size:=by rw [Et]; omega
     have He:(j * T.n+q) % z.cells.size=q:=by rw [Ce,Nat.mul_comm,Nat.mul_add_mod,Nat.mod_eq_of_lt hq]
     have Ao:q < z.cells.size:=by omega
     simp [madeCells,ik,He,Ao]
    ·rw [if_neg hq]
     symm
     rw [List.getElem?_eq_none_iff,Array.length_toList]
     omega
   rw [this]
   exact wE
theorem RS.cut {α:Type} {T:bW α} {ad:Option Addr} {xs:List α} {c:Nat} (hR:RS T w χ ad xs c) {l h:Nat} (h1:l≤h) (h2:h≤xs.length):RS T w χ (if c=l then ad else ad.map (·.add (l * T.n))) ((xs.take h).drop l) (c - l):=by
 have Jd:=hR.cap
 have hlen:((xs.take h).drop l).length=h - l:=by simp; omega
 refine ⟨by rw [hlen]; omega,?_,?_,?_⟩
 ·rw [hlen]
  have:=Nat.mul_le_mul_right T.bytes (show h - l≤xs.length by omega)
  have:=hR.bnd
  omega
 ·intro hn
  have Es:ad=none:=by
   split at hn
   ·exact hn
   ·cases ad with
    | none=>rfl
    | some A=>simp at hn
  obtain ⟨rfl,rfl⟩:=hR.nil Es
  simp
 ·intro hne
  have ik:l < h:=by
   rcases Nat.lt_or_ge l h with ik | hge
   ·exact ik
   ·exact absurd (List.eq_nil_of_length_eq_zero (by rw [hlen]; omega)) hne
  obtain ⟨b,o,cells,e,fr,rfl,nq,hh,gJ⟩:=hR.cells (by intro e; subst e; simp at h2; omega)
  refine ⟨b,o+l * T.n,cells,e,fr,?_,nq,hh,?_⟩
  ·have As:¬ c=l:=by omega
   simp [As,Addr.add_lit]
  ·intro i x hx
   rw [List.getElem?_drop,List.getElem?_take] at hx
   split at hx
   ·have:=gJ _ _ hx
    unfold chunk at this ⊢
    rw [Nat.add_mul,← Nat.add_assoc] at this
    exact this
   ·cases hx
def gz:List Value→List Value→Option Bool
 | [],[]=>some true
 | .int k p :: l,.int k' q :: m=>match gz l m with | some r=>bif sameKind k k' then some (p == q && r) else none | none=>none
 | .string p :: l,.string q :: m=>match gz l m with | some r=>some ((p.data.toList == q.data.toList) && r) | none=>none
 | _,_=>none
def oy (P:Program) (t:Nat) (xs:List Value):Bool :=
 match P.underlying t with
 | some (.struct fs)=>!P.stoodInHeld t && !P.eqGuardType P.depth t && vS P 0 fs.toList xs
 | _=>false
where vS (P:Program):Nat→List Field→List Value→Bool
 | _,[],[]=>true
 | i,f :: fs,v :: vs=>!(f.name == "_") && Nat.beq f.offset i && (match P.underlying f.type,v with | some (.int _),.int _ _=>true | some .string,.string _=>true | _,_=>false) && vS P (i+1) fs vs
 | _,_,_=>false
theorem n7:∀ (fs:List Field) (i:Nat) (xs ys:List Value) (r:Bool) (e:Nat),oy.vS P i fs (xs.drop i)=true→gz (xs.drop i) (ys.drop i)=some r→xs.length=i+fs.length→(Op.eqFields (e+1) xs.toArray ys.toArray fs).run P w=.ok r w
 | [],i,xs,ys,r,e,_,he,hl=>by
  have h1:xs.drop i=[]:=List.drop_eq_nil_of_le (by simp at hl; omega)
  rw [h1] at he
  cases h2:ys.drop i with
  | nil=>rw [h2] at he; simp [gz] at he; subst he; rfl
  | cons _ _=>rw [h2] at he; simp [gz] at he
 | f :: fs,i,xs,ys,r,e,hf,he,hl=>by
  have ik:i < xs.length:=by rw [hl]; simp
  have hx:xs.drop i=xs[i] :: xs.drop (i+1):=List.drop_eq_getElem_cons ik
  rw [hx] at he hf
  simp only [oy.vS,Bool.and_eq_true] at hf
  obtain ⟨⟨⟨hn,ho⟩,ht⟩,MN⟩:=hf
  have ho:=Nat.eq_of_beq_eq_true ho
  have KG:f.name ≠ "_" := by intro h; rw [h] at hn; simp at hn
  have yZ:∀ (zs:List Value) (v:Value) (d:TypeDesc),P.underlying f.type=some d→isA d=false→zs[i]?=some v→(part f.type zs.toArray f.offset).run P w=.ok v w:=by
   intro zs v d hd Aq hv
   simp [part,gb hd,Aq,ho,hv]
  cases hy:ys.drop i with
  | nil=>rw [hy] at he; cases IK:xs[i] <;> rw [IK] at he <;> simp [gz] at he
  | cons v m =>
   rw [hy] at he
   have HT:ys[i]?=some v:=by
    have:=congrArg (fun l=>l[0]?) hy
    simpa using this
   have Oo:ys.drop (i+1)=m:=by
    have:=congrArg List.tail hy
    simpa using this
   have KD:xs[i]?=some xs[i]:=List.getElem?_eq_getElem ik
   have ih:=fun r' h'=>n7 fs (i+1) xs ys r' e MN h' (by rw [hl]; simp; omega)
   cases IK:xs[i] with
   | int k p =>
    rw [IK] at he KD ht
    cases v with
    | int k' q =>
     simp only [gz] at he
     split at he
     ·rename_i r' Mt
      cases hk:sameKind k k' with
      | false=>simp [hk] at he
      | true =>
       simp only [hk,cond_true,Option.some.injEq] at he
       have:=pA hk
       subst this
       split at ht
       ·rename_i kk _ _ hd xH
        have h1:=yZ xs _ _ hd rfl KD
        have h2:=yZ ys _ _ hd rfl HT
        have h3:=ih r' (by rw [Oo]; exact Mt)
        simp only [Op.eqFields,ne_eq,KG,not_false_eq_true,if_true,Sem.run_bind,h1,h2,Result.andThen_ok,run_equalIn_int _ _ _ _ _ _ _ hd,Sem.run_ite,h3,Sem.run_pure]
        subst he
        cases Qg:(p == q) <;> simp
       ·rename_i xH; cases xH
       ·cases ht
     ·cases he
    | _=>simp [gz] at he
   | string p =>
    rw [IK] at he KD ht
    cases v with
    | string q =>
     simp only [gz] at he
     split at he
     ·rename_i r' Mt
      simp only [Option.some.injEq] at he
      split at ht
      ·rename_i xH; cases xH
      ·rename_i _ hd xH
       have h1:=yZ xs _ _ hd rfl KD
       have h2:=yZ ys _ _ hd rfl HT
       have h3:=ih r' (by rw [Oo]; exact Mt)
       simp only [Op.eqFields,ne_eq,KG,not_false_eq_true,if_true,Sem.run_bind,h1,h2,Result.andThen_ok,run_equalIn_string _ _ _ _ _ hd,Sem.run_ite,h3,Sem.run_pure,ByteArray.toList_eq]
       subst he
       cases Qg:(p.data.toList == q.data.toList) <;> simp
      ·cases ht
     ·cases he
    | _=>simp [gz] at he
   | _=>rw [IK] at he; simp [gz] at he
theorem uf {t:Nat} {xs:List Value} (h:oy P t xs=true):∃ fs,P.underlying t=some (.struct fs)∧P.stoodInHeld t=false∧P.eqGuardType P.depth t=false∧oy.vS P 0 fs.toList xs=true:=by
 unfold oy at h
 split at h
 ·rename_i fs MN
  simp only [Bool.and_eq_true,Bool.not_eq_true'] at h
  exact ⟨fs,MN,h.1.1,h.1.2,h.2⟩
 ·cases h
theorem lI {t:Nat} {xs ys:List Value} {r:Bool} (h:oy P t xs=true) (he:gz xs ys=some r) (hl:∀ fs,P.underlying t=some (.struct fs)→xs.length=fs.size):(Op.equalIn 10000 t (.agg xs.toArray) (.agg ys.toArray)).run P w=.ok r w:=by
 obtain ⟨fs,hu,h1,h2,h3⟩:=uf h
 have hf:P.fieldsOf t=fs:=by simp [Program.fieldsOf,hu]
 rw [run_equalIn_struct w 9999 t xs.toArray ys.toArray (by rw [hf]; exact hu) h1,hf]
 exact n7 fs.toList 0 xs ys r 9998 h3 (by simpa using he) (by simpa using hl fs hu)
def nf (tab:Tab) (t:Nat):Option Nat:=match look tab t with | some ⟨_,_,_,_,.struct fs⟩=>some fs.length | _=>none
theorem rf {α β:Type} {f:α→Option β}:∀ {l:List α} {r:List β},l.mapM f=some r→r.length=l.length
 | [],r,h=>by simp at h; subst h; rfl
 | x :: l,r,h=>by
  simp only [List.mapM_cons,bind,Option.bind_eq_some_iff,pure] at h
  obtain ⟨b,hb,q,hq,hr⟩:=h
  simp at hr; subst hr
  simp [rf hq]
theorem structEq (TT:aD P tab) {op:BinOp} {x y:Operand} {t yt:Nat} {xs ys:List Value} {r b:Bool} (h:St n sy ρ a w χ) (hw:ca all sy g=true) (hd:Nat.blt d n=true) (hx:evo sy x=some (V (.agg xs.toArray))) (hy:evo sy y=some (V (.agg ys.toArray)))
  (hf:oy P t xs=true) (hn:nf tab t=some xs.length) (he:gz xs ys=some r) (ho:(match op with | .eql=>some r | .neq=>some (!r) | _=>none)=some b)
  (kk:∀ a',St n ⟨(d,V (.bool b)) :: sy.bK,sy.boxes⟩ ρ a' w χ→K a' w):wp1 P all.toArray Q ⟨some d,.binOp op t x y yt,ty,pos,af,g⟩ K a w:=by
 refine fQ h hw hd (Ev.refl aL w χ) (fun _ _=>rfl) (w':=w) ?_ (fun a' h'=>kk a' h')
 have ex:a.eval x=.agg xs.toArray:=h.evo hx
 have ey:a.eval y=.agg ys.toArray:=h.evo hy
 obtain ⟨fs,hu,h1,h2,h3⟩:=uf hf
 have hlen:∀ fs,P.underlying t=some (.struct fs)→xs.length=fs.size:=by
  intro OP IQ
  unfold nf at hn
  split at hn
  ·rename_i M8 ua
   obtain ⟨i,dd,z,hi,o5,hz,IU,mN,lz,ju,kp,_⟩:=cB (TT _ _ ua)
   obtain ⟨l,rfl,hm⟩:=kp _ rfl
   rw [o5] at IQ
   cases IQ
   have:=rf hm
   simp at hn
   rw [← hn,this,Array.length_toList]
  ·cases hn
 have hq:=lI (w:=w) hf he hlen
 cases op with
 | eql =>
  simp at ho; subst ho
  simp only [execOp,ex,ey,Sem.run_bind,run_eqGuard_agg w .eql t x y _ _ h2,Result.andThen_ok,run_eql_struct,hq,Sem.run_pure]
 | neq =>
  have hb:b=!r:=(Option.some.inj ho).symm
  subst hb
  simp only [execOp,ex,ey,Sem.run_bind,run_eqGuard_agg w .neq t x y _ _ h2,Result.andThen_ok,run_neq_struct,hq,Sem.run_pure]
 | _=>simp at ho
def bP (w0:World) (χ0:Nat→Nat) (bxs:List (Nat × (Nat × List SV))) (ρ:Nat→Nat) (w:World):Prop :=
 (∀ id q,look bxs id=some q→w.heap[ρ id]?=some (.cells (q.2.map (bD ρ)).toArray q.1 (0,0)))∧∀ b,b < w0.heap.size→χ0 b=0→w.heap[b]?=w0.heap[b]?
def qb (all:List Oper) (listed:Array Bool) (i:Nat):Bool:=!listed.getD i true && (match all[i]? with | some o=>o.after.all (fun e=>!Region.binds .any e || listed.getD e.on false) | none=>false)
theorem tC {all:List Oper} {listed:Array Bool} {i:Nat} (h:qb all listed i=true):(Region.ready .any all.toArray listed).contains i=true:=by
 unfold qb at h
 rw [Bool.and_eq_true] at h
 obtain ⟨h1,h2⟩:=h
 cases ho:all[i]? with
 | none=>rw [ho] at h2; cases h2
 | some o =>
  rw [ho] at h2
  have hi:i < all.length:=(List.getElem?_eq_some_iff.1 ho).1
  rw [List.contains_iff_mem]
  unfold Region.ready
  rw [List.mem_filter,List.mem_range]
  refine ⟨by simpa using hi,?_⟩
  rw [Bool.and_eq_true]
  refine ⟨h1,?_⟩
  rw [List.getElem?_toArray,ho]
  simpa using h2
def iP (tab:Tab) (n:Nat) (all:List Oper) (bks:List Nat):List Nat→Array Bool→Sy→Option (Array Bool × Sy)
 | [],listed,sy=>some (listed,sy)
 | i :: is,listed,sy =>
  match all[i]? with
  | some o =>
   bif Region.free .any all.toArray listed i && qb all listed i && gX n [o] then
    match lH tab false all [o] ⟨sy.bK,sy.boxes.filter (fun q=>bks.any (Nat.beq q.1))⟩ with
    | some s=>iP tab n all bks is (listed.setIfInBounds i true) ⟨s.bK,sy.boxes⟩
    | none=>none
   else none
  | none=>none
theorem bP.st (h:St n sy ρ a w χ) {bxs:List (Nat × (Nat × List SV))} (hb:∀ id q,look bxs id=some q→look sy.boxes id=some q) {w0 w1:World} {χ0:Nat→Nat} (H:bP w0 χ0 bxs ρ w1):St n ⟨sy.bK,bxs⟩ ρ a w1 χ :=
 ⟨h.size,h.defers,h.bK,fun id q hq=>by
  obtain ⟨h1,h2,_⟩:=h.boxes id q (hb id q hq)
  exact ⟨h1,h2,H.1 id q hq⟩⟩
def Dr (P:Program) (all:List Oper) (Q:Exit→Act→World→Prop) (S:World→Prop) (listed:Array Bool) (fuel:Nat) (a:Act) (w:World):Prop :=
 wpAnyH P .any all.toArray Q S fuel listed a w
theorem qx (TT:aD P tab) (ou:Region.noSelect all.toArray=true) (hn:n≤999) {bks:List Nat} {w0:World} {χ0:Nat→Nat} {nrm ret:Act→World→Prop} {eH:List (Nat × (Act→World→Prop))} :
  ∀ (is:List Nat) {listed listed':Array Bool} {sy sy':Sy} {fuel:Nat} {a:Act},iP tab n all bks is listed sy=some (listed',sy')→St n sy ρ a w χ→bP w0 χ0 (sy.boxes.filter (fun q=>bks.any (Nat.beq q.1))) ρ w →
   (∀ a',St n sy' ρ a' w χ→sy'.boxes=sy.boxes→Dr P all (qs nrm ret eH) (bP w0 χ0 (sy.boxes.filter (fun q=>bks.any (Nat.beq q.1))) ρ) listed' fuel a' w)→Dr P all (qs nrm ret eH) (bP w0 χ0 (sy.boxes.filter (fun q=>bks.any (Nat.beq q.1))) ρ) listed (fuel+is.length) a w
 | [],listed,listed',sy,sy',fuel,a,e,h,H,k=>by
  simp [iP] at e
  obtain ⟨rfl,rfl⟩:=e
  exact k a h rfl
 | i :: is,listed,listed',sy,sy',fuel,a,e,h,H,k=>by
  simp only [iP] at e
  cases ho:all[i]? with
  | none=>simp [ho] at e
  | some o =>
   simp only [ho] at e
   cases hc:(Region.free .any all.toArray listed i && qb all listed i && gX n [o]) with
   | false=>rw [hc] at e; cases e
   | true =>
    simp only [hc,cond_true] at e
    simp only [Bool.and_eq_true] at hc
    obtain ⟨⟨hf,hr⟩,hd⟩:=hc
    replace hr:=tC hr
    cases hs:lH tab false all [o] ⟨sy.bK,sy.boxes.filter (fun q=>bks.any (Nat.beq q.1))⟩ with
    | none=>simp [hs] at e
    | some s =>
     simp only [hs] at e
     have hb:∀ id q,look (sy.boxes.filter (fun q=>bks.any (Nat.beq q.1))) id=some q→look sy.boxes id=some q:=fun id q hq=>kT hq
     have key:∃ v,YieldsIf P all.toArray (bP w0 χ0 (sy.boxes.filter (fun q=>bks.any (Nat.beq q.1))) ρ) o v a∧(St n ⟨s.bK,sy.boxes⟩ ρ (a.put o.dst v) w χ):=by
      have KJ:=(pK hd).1
      have put:∀ sv,s.bK=(match o.dst with | some d=>(d,sv) :: sy.bK | none=>sy.bK)→St n ⟨s.bK,sy.boxes⟩ ρ (a.put o.dst (bD ρ sv)) w χ:=by
       intro sv xI
       rw [xI]
       cases fv:o.dst with
       | none=>exact ⟨h.size,h.defers,h.bK,h.boxes⟩
       | some d=>exact h.put (KJ d fv)
      have Bt:∀ wD,mf tab false ⟨sy.bK,sy.boxes.filter (fun q=>bks.any (Nat.beq q.1))⟩ o=some wD→some wD=some s→(Region.wanted o (yielded all.toArray a.tmps)=true) →
        ∃ v,YieldsIf P all.toArray (bP w0 χ0 (sy.boxes.filter (fun q=>bks.any (Nat.beq q.1))) ρ) o v a∧(St n ⟨s.bK,sy.boxes⟩ ρ (a.put o.dst v) w χ):=by
       intro wD h1 h2 hw
       cases h2
       unfold mf at h1
       cases hv:jQ tab ⟨sy.bK,sy.boxes.filter (fun q=>bks.any (Nat.beq q.1))⟩ o with
       | none=>simp [hv] at h1
       | some sv =>
        simp only [hv] at h1
        refine ⟨bD ρ sv,.inl ⟨hw,fun w1 H1=>uQ TT (bP.st h hb H1) hv⟩,put sv ?_⟩
        cases fv:o.dst with
        | none=>simp only [fv] at h1; cases h1; rfl
        | some d=>simp only [fv] at h1; cases h1; rfl
      have yd:(match o.dst with | some d=>(⟨(d,V Go.undef) :: sy.bK,sy.boxes.filter (fun q=>bks.any (Nat.beq q.1))⟩:Sy) | none=>⟨sy.bK,sy.boxes.filter (fun q=>bks.any (Nat.beq q.1))⟩)=s→(Region.wanted o (yielded all.toArray a.tmps)=false) →
        ∃ v,YieldsIf P all.toArray (bP w0 χ0 (sy.boxes.filter (fun q=>bks.any (Nat.beq q.1))) ρ) o v a∧(St n ⟨s.bK,sy.boxes⟩ ρ (a.put o.dst v) w χ):=by
       intro h1 hw
       refine ⟨Go.undef,.inr ⟨hw,rfl⟩,put (V Go.undef) ?_⟩
       rw [← h1]
       cases fv:o.dst <;> rfl
      simp only [lH] at hs
      cases hg:o.guard with
      | none =>
       simp only [hg] at hs
       cases h1:mf tab false ⟨sy.bK,sy.boxes.filter (fun q=>bks.any (Nat.beq q.1))⟩ o with
       | none=>simp [h1] at hs
       | some wD=>simp only [h1] at hs; exact Bt wD h1 hs (by simp [Region.wanted,hg])
      | some q =>
       obtain ⟨j,want⟩:=q
       simp only [hg] at hs
       cases ht:oC all j with
       | none=>simp [ht] at hs
       | some tc =>
        simp only [ht] at hs
        split at hs
        ·rename_i b hl
         have hw:=mn (o:=o) h hg ht hl
         cases KK:(b == want) with
         | true =>
          simp only [KK,cond_true] at hs
          cases h1:mf tab false ⟨sy.bK,sy.boxes.filter (fun q=>bks.any (Nat.beq q.1))⟩ o with
          | none=>simp [h1] at hs
          | some wD=>simp only [h1] at hs; exact Bt wD h1 hs (hw.trans KK)
         | false =>
          simp only [KK,cond_false] at hs
          refine yd ?_ (hw.trans KK)
          cases fv:o.dst with
          | none=>simp only [fv] at hs; exact Option.some.inj hs
          | some d=>simp only [fv] at hs; exact Option.some.inj hs
        ·rename_i vs hl
         have hw:=lF (o:=o) h hg ht hl
         refine yd ?_ hw
         cases fv:o.dst with
         | none=>simp only [fv] at hs; exact Option.some.inj hs
         | some d=>simp only [fv] at hs; exact Option.some.inj hs
        ·cases hs
     obtain ⟨v,hy,h'⟩:=key
     have ih:=qx TT ou hn is (fuel:=fuel) e h' H k
     unfold Dr at *
     exact wpAnyH_take (v:=v) (oi:=o) (by simp [ho]) ou hf hr (fun c a w hq=>hq.elim) hy H ih
end ops
end
end Go.Sv
