/- The evaluator is sound. Conditions: in each lemma. -/
import Derived.Test.YtobeanopikjkeaaGreatExA
import Derived.Test.YtobeanopikjkeaaGreatSw
set_option linter.all false
namespace Go.Ex
open Go Go.Sv
theorem jd {α:Type}:∀ (f:Nat) (t:Tr α) (k:Nat) (x:Option α) (j:Nat) (y:α),get (set f t k x) j=some y→(j=k∧x=some y)∨(j≠k∧get t j=some y)
 | 0,t,k,x,j,y,h=>by cases h
 | f+1,t,k,x,j,y,h=>by
  have beq:∀ a b:Nat,Nat.beq a b=decide (a=b):=fun a b=>by
   cases hb:Nat.beq a b with
   | true=>rw [Nat.eq_of_beq_eq_true hb]; simp
   | false=>exact (decide_eq_false (fun e=>by rw [e,Nat.beq_refl] at hb; cases hb)).symm
  have key:∀ (l:Tr α) (v:Option α) (r:Tr α) (t':Tr α),(∀ j,get t' j=get (.n l v r) j) →
    get (Bool.rec (Bool.rec (.n l v (set f r (Nat.div k 2) x)) (.n (set f l (Nat.div k 2) x) v r) (Nat.beq (Nat.mod k 2) 0)) (.n l x r) (Nat.beq k 0):Tr α) j=some y →
    (j=k∧x=some y)∨(j≠k∧get t' j=some y):=by
   intro l v r t' Zn h
   rw [Zn]
   change ∀ _,_ at *
   by_cases hk:k=0
   ·subst hk
    have h:get (.n l x r) j=some y:=h
    by_cases hj:j=0
    ·subst hj; exact .inl ⟨rfl,h⟩
    ·refine .inr ⟨hj,?_⟩
     have e:Nat.beq j 0=false:=by rw [beq]; simp [hj]
     change (Bool.rec (Bool.rec (get r (Nat.div j 2)) (get l (Nat.div j 2)) (Nat.beq (Nat.mod j 2) 0)) v (Nat.beq j 0):Option α)=some y
     change (Bool.rec (Bool.rec (get r (Nat.div j 2)) (get l (Nat.div j 2)) (Nat.beq (Nat.mod j 2) 0)) x (Nat.beq j 0):Option α)=some y at h
     rw [e] at h ⊢; exact h
   ·have ek:Nat.beq k 0=false:=by rw [beq]; simp [hk]
    rw [ek] at h
    have h:get (Bool.rec (.n l v (set f r (Nat.div k 2) x)) (.n (set f l (Nat.div k 2) x) v r) (Nat.beq (Nat.mod k 2) 0):Tr α) j=some y:=h
    cases hm:Nat.beq (Nat.mod k 2) 0 with
    | true =>
     rw [hm] at h
     have h:(Bool.rec (Bool.rec (get r (Nat.div j 2)) (get (set f l (Nat.div k 2) x) (Nat.div j 2)) (Nat.beq (Nat.mod j 2) 0)) v (Nat.beq j 0):Option α)=some y:=h
     change _∨(_∧(Bool.rec (Bool.rec (get r (Nat.div j 2)) (get l (Nat.div j 2)) (Nat.beq (Nat.mod j 2) 0)) v (Nat.beq j 0):Option α)=some y)
     by_cases hj:j=0
     ·subst hj; exact .inr ⟨fun e=>hk e.symm,h⟩
     ·have ej:Nat.beq j 0=false:=by rw [beq]; simp [hj]
      rw [ej] at h ⊢
      have km:k % 2=0:=Nat.eq_of_beq_eq_true hm
      cases Gj:Nat.beq (Nat.mod j 2) 0 with
      | false =>
       rw [Gj] at h
       have jm:¬ j % 2=0:=fun e=>by
        have:Nat.mod j 2=0:=e
        rw [this] at Gj; cases Gj
       exact .inr ⟨fun e=>by omega,h⟩
      | true =>
       rw [Gj] at h
       have jm:j % 2=0:=Nat.eq_of_beq_eq_true Gj
       rcases jd f l (Nat.div k 2) x (Nat.div j 2) y h with ⟨e,hx⟩ | ⟨e,hx⟩
       ·have e:j / 2=k / 2:=e
        exact .inl ⟨by omega,hx⟩
       ·refine .inr ⟨fun e'=>e ?_,hx⟩
        rw [e']
    | false =>
     rw [hm] at h
     have h:(Bool.rec (Bool.rec (get (set f r (Nat.div k 2) x) (Nat.div j 2)) (get l (Nat.div j 2)) (Nat.beq (Nat.mod j 2) 0)) v (Nat.beq j 0):Option α)=some y:=h
     change _∨(_∧(Bool.rec (Bool.rec (get r (Nat.div j 2)) (get l (Nat.div j 2)) (Nat.beq (Nat.mod j 2) 0)) v (Nat.beq j 0):Option α)=some y)
     by_cases hj:j=0
     ·subst hj; exact .inr ⟨fun e=>hk e.symm,h⟩
     ·have ej:Nat.beq j 0=false:=by rw [beq]; simp [hj]
      rw [ej] at h ⊢
      have km:¬ k % 2=0:=fun e=>by
       have:Nat.mod k 2=0:=e
       rw [this] at hm; cases hm
      cases Gj:Nat.beq (Nat.mod j 2) 0 with
      | true =>
       rw [Gj] at h
       have jm:j % 2=0:=Nat.eq_of_beq_eq_true Gj
       exact .inr ⟨fun e=>by omega,h⟩
      | false =>
       rw [Gj] at h
       have jm:¬ j % 2=0:=fun e=>by
        have:Nat.mod j 2=0:=e
        rw [this] at Gj; cases Gj
       rcases jd f r (Nat.div k 2) x (Nat.div j 2) y h with ⟨e,hx⟩ | ⟨e,hx⟩
       ·have e:j / 2=k / 2:=e
        exact .inl ⟨by omega,hx⟩
       ·refine .inr ⟨fun e'=>e ?_,hx⟩
        rw [e']
  cases t with
  | n l v r=>exact key l v r _ (fun _=>rfl) h
  | e =>
   refine key .e none .e .e (fun j=>?_) h
   change none=(Bool.rec (Bool.rec none none (Nat.beq (Nat.mod j 2) 0)) none (Nat.beq j 0):Option α)
   cases Nat.beq j 0 <;> cases Nat.beq (Nat.mod j 2) 0 <;> rfl
def FL {α β:Type} (R:α→β→Prop):List α→List β→Prop
 | [],[]=>True
 | a :: l,b :: q=>R a b∧FL R l q
 | _,_=>False
section FL
variable {α β:Type} {R:α→β→Prop}
theorem FL.len:∀ {l:List α} {q:List β},FL R l q→l.length=q.length
 | [],[],_=>rfl
 | _ :: _,_ :: _,h=>by simp [FL.len h.2]
 | [],_ :: _,h=>h.elim
 | _ :: _,[],h=>h.elim
theorem FL.mono {R':α→β→Prop} (m:∀ a b,R a b→R' a b):∀ {l:List α} {q:List β},FL R l q→FL R' l q
 | [],[],_=>trivial
 | _ :: _,_ :: _,h=>⟨m _ _ h.1,FL.mono m h.2⟩
 | [],_ :: _,h=>h.elim
 | _ :: _,[],h=>h.elim
theorem FL.app:∀ {l:List α} {q:List β} {l':List α} {q':List β},FL R l q→FL R l' q'→FL R (l++l') (q++q')
 | [],[],_,_,_,h'=>h'
 | _ :: _,_ :: _,_,_,h,h'=>⟨h.1,FL.app h.2 h'⟩
 | [],_ :: _,_,_,h,_=>h.elim
 | _ :: _,[],_,_,h,_=>h.elim
theorem FL.take:∀ (n:Nat) {l:List α} {q:List β},FL R l q→FL R (l.take n) (q.take n)
 | 0,_,_,_=>trivial
 | _+1,[],[],_=>trivial
 | n+1,_ :: _,_ :: _,h=>⟨h.1,FL.take n h.2⟩
 | _+1,[],_ :: _,h=>h.elim
 | _+1,_ :: _,[],h=>h.elim
theorem FL.drop:∀ (n:Nat) {l:List α} {q:List β},FL R l q→FL R (l.drop n) (q.drop n)
 | 0,_,_,h=>h
 | _+1,[],[],_=>trivial
 | n+1,_ :: _,_ :: _,h=>FL.drop n h.2
 | _+1,[],_ :: _,h=>h.elim
 | _+1,_ :: _,[],h=>h.elim
theorem FL.get:∀ {l:List α} {q:List β},FL R l q→∀ (i:Nat) (a:α),l[i]?=some a→∃ b,q[i]?=some b∧R a b
 | [],[],_,i,a,h=>by simp at h
 | _ :: _,b :: _,h,0,a,e=>by simp at e; subst e; exact ⟨b,rfl,h.1⟩
 | _ :: _,_ :: _,h,i+1,a,e=>by simp at e; obtain ⟨b,h1,h2⟩:=FL.get h.2 i a e; exact ⟨b,by simpa using h1,h2⟩
 | [],_ :: _,h,_,_,_=>h.elim
 | _ :: _,[],h,_,_,_=>h.elim
theorem FL.map {γ:Type} {f:γ→α} {g:γ→β} (m:∀ c,R (f c) (g c)):∀ (l:List γ),FL R (l.map f) (l.map g)
 | []=>trivial
 | c :: l=>⟨m c,FL.map m l⟩
end FL
inductive En where
 | b (b s N:Nat)
 | m (b:Nat)
 | f (v:Value)
abbrev Mp:=Nat→Option En
def Le (M M':Mp):Prop:=∀ i e,M i=some e→M' i=some e
theorem Le.refl (M:Mp):Le M M:=fun _ _ h=>h
theorem Le.trans {A B C:Mp} (h:Le A B) (k:Le B C):Le A C:=fun i e x=>k i e (h i e x)
def VS (M:Mp):S→Value→Prop
 | .v x,v=>v=x
 | .p i o,v=>∃ b s N,M i=some (.b b s N)∧v=.pointer (some ⟨b,s+o,none⟩)
 | .sl i o m n,v=>∃ b s N cap a,M i=some (.b b s N)∧v=.slice (some a) n cap∧n≤cap∧(a=⟨b,s+o,none⟩∧o+cap * m≤N∨cap=0)
 | .m i,v=>∃ b,M i=some (.m b)∧v=.map (some b)
 | .c i,v=>M i=some (.f v)∧∃ p q r,v=.func p q r
abbrev VL (M:Mp):=FL (VS M)
def VV (M:Mp):V1→Value→Prop
 | .s x,v=>VS M x v
 | .g l,v=>∃ vs,v=.agg vs.toArray∧VL M l vs
abbrev VVs (M:Mp):=FL (VV M)
def VA (M:Mp):AV→Value→Prop
 | .o x,v=>VV M x v
 | .t l,v=>∃ vs,v=.tuple vs.toArray∧VVs M l vs
theorem VS.mono {M M':Mp} (h:Le M M'):∀ {x:S} {v:Value},VS M x v→VS M' x v
 | .v _,_,e=>e
 | .p _ _,_,⟨b,s,N,h1,h2⟩=>⟨b,s,N,h _ _ h1,h2⟩
 | .sl _ _ _ _,_,⟨b,s,N,c,a,h1,h2⟩=>⟨b,s,N,c,a,h _ _ h1,h2⟩
 | .m _,_,⟨b,h1,h2⟩=>⟨b,h _ _ h1,h2⟩
 | .c _,_,e=>⟨h _ _ e.1,e.2⟩
theorem VV.mono {M M':Mp} (h:Le M M'):∀ {x:V1} {v:Value},VV M x v→VV M' x v
 | .s _,_,e=>VS.mono h e
 | .g _,_,⟨vs,h1,h2⟩=>⟨vs,h1,h2.mono fun _ _=>VS.mono h⟩
theorem VA.mono {M M':Mp} (h:Le M M'):∀ {x:AV} {v:Value},VA M x v→VA M' x v
 | .o _,_,e=>VV.mono h e
 | .t _,_,⟨vs,h1,h2⟩=>⟨vs,h1,h2.mono fun _ _=>VV.mono h⟩
def EN (M:Mp) (x:Value × V1 × Nat) (e:MapEntry):Prop:=e.key=x.1∧VV M x.2.1 e.val∧e.born=x.2.2
def BR (M:Mp) (w:World):En→Bk→Prop
 | .b b s N,.c l=>∃ arr t,w.heap[b]?=some (.cells arr t (0,0))∧arr.size=s+N∧l.length≤N∧VL M l ((arr.toList.drop s).take l.length)
 | .m b,.m es k=>∃ arr,w.heap[b]?=some (.map arr k)∧FL (EN M) es arr.toList
 | .f v,.f fn p q=>∃ vp vq,v=.func (.func fn) vp.toArray vq.toArray∧VVs M p vp∧VVs M q vq
 | _,_=>False
def En.blk:En→Option Nat
 | .b x _ _=>some x
 | .m x=>some x
 | .f _=>none
theorem BR.mono {M M':Mp} {w w':World} (h:Le M M'):∀ {e:En} {x:Bk},BR M w e x→(∀ b,e.blk=some b→w'.heap[b]?=w.heap[b]?)→BR M' w' e x
 | .b b s N,.c l,⟨arr,t,h1,h2,h3,h4⟩,k=>⟨arr,t,(k b rfl).trans h1,h2,h3,h4.mono fun _ _=>VS.mono h⟩
 | .m b,.m es ck,⟨arr,h1,h2⟩,k=>⟨arr,(k b rfl).trans h1,h2.mono fun _ _ q=>⟨q.1,VV.mono h q.2.1,q.2.2⟩⟩
 | .f v,.f fn p q,⟨vp,vq,h1,h2,h3⟩,_=>⟨vp,vq,h1,h2.mono fun _ _=>VV.mono h,h3.mono fun _ _=>VV.mono h⟩
 | .b _ _ _,.m _ _,h,_=>h.elim
 | .b _ _ _,.f _ _ _,h,_=>h.elim
 | .m _,.c _,h,_=>h.elim
 | .m _,.f _ _ _,h,_=>h.elim
 | .f _,.c _,h,_=>h.elim
 | .f _,.m _ _,h,_=>h.elim
theorem BR.lt {M:Mp} {w:World}:∀ {e:En} {x:Bk} {b:Nat},BR M w e x→e.blk=some b→b < w.heap.size
 | .b _ _ _,.c _,_,⟨_,_,h1,_⟩,e=>by cases e; exact (Array.getElem?_eq_some_iff.1 h1).1
 | .m _,.m _ _,_,⟨_,h1,_⟩,e=>by cases e; exact (Array.getElem?_eq_some_iff.1 h1).1
 | .f _,_,_,_,e=>by cases e
 | .b _ _ _,.m _ _,_,h,_=>h.elim
 | .b _ _ _,.f _ _ _,_,h,_=>h.elim
 | .m _,.c _,_,h,_=>h.elim
 | .m _,.f _ _ _,_,h,_=>h.elim
def Hp (M:Mp) (h:Tr Bk) (w:World):Prop:=∀ i x e,get h i=some x→M i=some e→BR M w e x
structure Rel (w0:World) (M:Mp) (z:Z) (w:World):Prop where
 os:w.os=w0.os
 tape:w.tape=w0.tape
 output:w.output=w0.output
 size:w0.heap.size≤w.heap.size
 old:∀ b,b < w0.heap.size→w.heap[b]?=w0.heap[b]?
 nx:∀ i,z.n≤i→M i=none
 fresh:∀ i e b,M i=some e→e.blk=some b→w0.heap.size≤b
 inj:∀ i j x y e e' b,get z.h i=some x→get z.h j=some y→M i=some e→M j=some e'→e.blk=some b→e'.blk=some b→i=j
 hp:Hp M z.h w
structure Ext (z:Z) (M:Mp) (z':Z) (M':Mp):Prop where
 le:Le M M'
 same:∀ i,i < z.n→M' i=M i
 n:z.n≤z'.n
theorem Ext.refl (z:Z) (M:Mp):Ext z M z M:=⟨Le.refl M,fun _ _=>rfl,Nat.le_refl _⟩
theorem Ext.trans {z z1 z2:Z} {M M1 M2:Mp} (h:Ext z M z1 M1) (k:Ext z1 M1 z2 M2):Ext z M z2 M2 :=
 ⟨h.le.trans k.le,fun i hi=>(k.same i (Nat.lt_of_lt_of_le hi h.n)).trans (h.same i hi),Nat.le_trans h.n k.n⟩
structure RR (nt:Nat) (M:Mp) (r:R) (a:Act):Prop where
 size:a.tmps.size=nt
 defers:a.defers=[]
 bc:∀ t av,get r t=some av→∃ v,a.tmps[t]?=some v∧VA M av v
theorem RR.mono {nt:Nat} {M M':Mp} {r:R} {a:Act} (h:RR nt M r a) (le:Le M M'):RR nt M' r a :=
 ⟨h.size,h.defers,fun t av e=>let ⟨v,h1,h2⟩:=h.bc t av e; ⟨v,h1,h2.mono le⟩⟩
theorem tf (M:Mp) (v:Value):VA M (Fq v) v:=by
 have L:∀ l:List Value,VL M (l.map .v) l:=fun l=>by
  have:=FL.map (R:=VS M) (f:=S.v) (g:=id) (fun c=>rfl) l
  simpa using this
 cases v <;> try exact (rfl:_=_)
 case agg cs=>exact ⟨cs.toList,by simp,L _⟩
 case tuple vs =>
  refine ⟨vs.toList,by simp,?_⟩
  have:=FL.map (R:=VV M) (f:=fun v=>V1.s (S.v v)) (g:=id) (fun c=>(rfl:VS M (.v c) c)) vs.toList
  simpa using this
theorem K3 {nt:Nat} {M:Mp} {r:R} {a:Act} (h:RR nt M r a) {x:Operand} {av:AV} (e:ev r x=some av):VA M av (a.eval x):=by
 cases x with
 | tmp t =>
  obtain ⟨v,h1,h2⟩:=h.bc t av e
  simpa [Act.eval,h1] using h2
 | const v=>cases e; exact tf M v
 | func f=>cases e; exact (rfl:_=_)
 | global g=>cases e
def OR (M:Mp) (a:Act) (l:List Operand) (vs:List AV):Prop:=FL (fun x av=>VA M av (a.eval x)) l vs
theorem tC {r:R} {x:Operand} {l:List Operand}:evs r (x :: l)=consO (ev r x) (evs r l):=rfl
theorem GJ {nt:Nat} {M:Mp} {r:R} {a:Act} (h:RR nt M r a):∀ {l:List Operand} {vs:List AV},evs r l=some vs→OR M a l vs
 | [],vs,e=>by cases e; trivial
 | x :: l,vs,e=>by
  rw [tC] at e
  cases h1:ev r x with
  | none=>rw [h1] at e; cases e
  | some av =>
   cases h2:evs r l with
   | none=>rw [h1,h2] at e; cases e
   | some q =>
    rw [h1,h2] at e
    cases e
    exact ⟨K3 h h1,GJ h h2⟩
theorem RR.put {nt:Nat} {M:Mp} {r r':R} {z z':Z} {a:Act} {d:Option Nat} {av:AV} {v:Value} (h:RR nt M r a) (e:putE' nt r z d av=some (r',z')) (hv:VA M av v):z'=z∧RR nt M r' (a.put d v):=by
 cases d with
 | none=>cases e; exact ⟨rfl,h⟩
 | some d =>
  simp only [putE'] at e
  cases hb:Nat.blt d nt with
  | false=>rw [hb] at e; cases e
  | true =>
   rw [hb] at e
   cases e
   have eS:d < a.tmps.size:=by rw [h.size]; exact Nat.le_of_ble_eq_true hb
   refine ⟨rfl,by simp [Act.put,h.size],h.defers,fun t av' e'=>?_⟩
   rcases jd _ _ _ _ _ _ e' with ⟨rfl,e2⟩ | ⟨hne,e2⟩
   ·cases e2; exact ⟨v,by simp [Act.put,eS],hv⟩
   ·obtain ⟨u,h1,h2⟩:=h.bc t av' e2
    refine ⟨u,?_,h2⟩
    simp only [Act.put]
    rw [Array.getElem?_setIfInBounds_ne (Ne.symm hne)]; exact h1
end Go.Ex
namespace Go.Ex
open Go Go.Sv
section
variable {P:Program} {tt:Tr TyS} {mt:Tr (Nat × Nat × Value)} {tb:Tab} {ka:Nat→Nat→Bool}
structure TOK (P:Program) (tt:Tr TyS) (mt:Tr (Nat × Nat × Value)) (tb:Tab) (ka:Nat→Nat→Bool):Prop where
 t:∀ t s,get tt t=some s→tyS P t=some s
 m:∀ t k e z,get mt t=some (k,e,z)→P.underlying t=some (.map k e)∧(P.info? e).bind (·.zero)=some z∧(P.underlying k=some (.int .i64)∨ka 0 k=true∧∃ d,P.underlying k=some d)
 b:bh P tb
 k:∀ k,ka 0 k=true→∀ (a b:Int) (e:Bool) (w:World),(Instr.checkKey e 10000 k (.agg #[.int .u32 a,.int .i64 b])).run P w=.ok () w
 k':∀ k,ka 0 k=true→P.underlying k≠some (.int .i64)
 p:∀ t,ka 1 t=true→∃ e,P.underlying t=some (.pointer e)
def Yd (P:Program) (M:Mp) (a:Act) (w:World) (o:Oper) (av:AV):Prop:=∃ v,(execOp a.eval o).run P w=.ok (.value v) w∧VA M av v
variable {M:Mp} {a:Act} {w:World} {o:Oper} {av:AV} {vs:List AV} {h:Tr Bk}
theorem fw {α:Type} {b:Bool} {x:Option α} {y:α} (h:(bif b then x else none)=some y):b=true∧x=some y:=by
 cases b with
 | true=>exact ⟨rfl,h⟩
 | false=>cases h
theorem Q9 {α:Type} {b:Bool} {x:Option α} {y:α} (h:(bif b then x else none)=some y):b=true∧x=some y:=fw h
theorem OR.one {x:Operand} {v:AV} (k:OR M a [x] [v]):VA M v (a.eval x):=k.1
theorem OR.two {x y:Operand} {v u:AV} (k:OR M a [x,y] [v,u]):VA M v (a.eval x)∧VA M u (a.eval y):=⟨k.1,k.2.1⟩
theorem pX {i off n b s N:Nat} {l:List S} (hh:Hp M h w) (e:ld h i off n=some l) (hM:M i=some (.b b s N)) :
  ∃ arr t,w.heap[b]?=some (.cells arr t (0,0))∧s+off+n≤arr.size∧VL M l ((arr.toList.drop (s+off)).take n)∧l.length=n:=by
 unfold ld at e
 split at e
 ·rename_i L hL
  cases hc:Nat.ble (off+n) L.length with
  | false=>rw [hc] at e; cases e
  | true =>
   rw [hc] at e
   have hle:=Nat.le_of_ble_eq_true hc
   cases e
   obtain ⟨arr,t,h1,h2,h3,h4⟩:=hh _ _ _ hL hM
   refine ⟨arr,t,h1,by omega,?_,by simp; omega⟩
   have:=(h4.drop off).take n
   rw [List.drop_take,List.take_take,List.drop_drop] at this
   rwa [Nat.min_eq_left (by omega)] at this
 ·cases e
theorem zK {ag:Bool} {l:List S} {v:V1} {vs:List Value} (e:mkv ag l=some v) (hl:VL M l vs):(ag=true∧VV M v (.agg vs.toArray))∨(ag=false∧∃ u,vs=[u]∧VV M v u):=by
 cases ag with
 | true=>cases e; exact .inl ⟨rfl,vs,rfl,hl⟩
 | false =>
  refine .inr ⟨rfl,?_⟩
  match l,vs,e,hl with
  | [x],[u],e,hl=>cases e; exact ⟨u,rfl,hl.1⟩
  | [x],[],_,hl=>exact hl.elim
  | [x],_ :: _ :: _,_,hl=>exact hl.2.elim
theorem Ff (T:TOK P tt mt tb ka) (hh:Hp M h w) {t:Nat} {x:Operand} (e:pLoad tt t vs h=some av) (ho:o.op=.load t x) (hv:OR M a [x] vs):Yd P M a w o av:=by
 unfold pLoad at e
 split at e
 ·rename_i i off
  obtain ⟨b,s,N,h1,h2⟩:=hv.one
  split at e
  ·rename_i ty MH
   split at e
   ·rename_i l hl
    split at e
    ·rename_i v hm
     cases e
     obtain ⟨arr,bt,g1,g2,g3,g4⟩:=pX hh hl h1
     obtain ⟨inf,d,z,hi,hd,hz,hs,jz,iS,fG,_⟩:=bl (T.t _ _ MH)
     have WZ:w.heap[b]?=some (.cells arr.toList.toArray bt (0,0)):=by simpa using g1
     rcases zK hm g3 with ⟨ha,mM⟩ | ⟨ha,u,hu,mM⟩
     ·refine ⟨_,?_,mM⟩
      have:=iu (P:=P) (w:=w) (off:=s+off) hi hd (by rw [← fG,ha]) WZ (by simp; omega)
      rw [hs] at this
      simp [execOp,ho,h2,Instr.loadAt,Instr.sureAddr,this]
     ·refine ⟨_,?_,mM⟩
      have hg:arr.toList[s+off]?=some u:=by
       have:((arr.toList.drop (s+off)).take ty.size)[0]?=some u:=by rw [hu]; rfl
       rw [List.getElem?_take] at this
       split at this
       ·simpa using this
       ·cases this
      have:=ir (P:=P) (w:=w) (off:=s+off) hd (by rw [← fG,ha]) WZ hg
      simp [execOp,ho,h2,Instr.loadAt,Instr.sureAddr,this]
    ·cases e
   ·cases e
  ·cases e
 ·cases e
theorem mW:∀ {l:List Operand} {vs:List AV} {r:List (Nat × SV)},plainR l vs=some r→OR M a l vs→∀ t sv,Sv.look r t=some sv→∃ x,sv=V x∧a.eval (.tmp t)=x∧Operand.tmp t∈l
 | [],[],r,e,_,t,sv,hl=>by cases e; cases hl
 | .tmp t' :: l,.o (.s (.v x)) :: q,r,e,hv,t,sv,hl=>by
  simp only [plainR] at e
  cases h1:plainR l q with
  | none=>rw [h1] at e; cases e
  | some r' =>
   rw [h1] at e; cases e
   rcases dv hl with ⟨rfl,rfl⟩ | ⟨_,Kr⟩
   ·exact ⟨x,rfl,hv.1,by simp⟩
   ·obtain ⟨x,h2,h3,h4⟩:=mW h1 hv.2 t sv Kr; exact ⟨x,h2,h3,by simp [h4]⟩
 | .const _ :: l,_ :: q,r,e,hv,t,sv,hl=>by
  obtain ⟨x,h2,h3,h4⟩:=mW (l:=l) (vs:=q) (by simpa only [plainR] using e) hv.2 t sv hl
  exact ⟨x,h2,h3,by simp [h4]⟩
 | .global _ :: _,_ :: _,r,e,_,_,_,_=>by simp [plainR] at e
 | .func _ :: _,_ :: _,r,e,_,_,_,_=>by simp [plainR] at e
 | [],_ :: _,r,e,_,_,_,_=>by simp [plainR] at e
 | _ :: _,[],r,e,hv,_,_,_=>hv.elim
 | .tmp _ :: _,.o (.g _) :: _,r,e,_,_,_,_=>by simp [plainR] at e
 | .tmp _ :: _,.t _ :: _,r,e,_,_,_,_=>by simp [plainR] at e
 | .tmp _ :: _,.o (.s (.p _ _)) :: _,r,e,_,_,_,_=>by simp [plainR] at e
 | .tmp _ :: _,.o (.s (.sl _ _ _ _)) :: _,r,e,_,_,_,_=>by simp [plainR] at e
 | .tmp _ :: _,.o (.s (.m _)) :: _,r,e,_,_,_,_=>by simp [plainR] at e
 | .tmp _ :: _,.o (.s (.c _)) :: _,r,e,_,_,_,_=>by simp [plainR] at e
theorem kp (T:TOK P tt mt tb ka) (hn:∀ t,.tmp t∈fW o.op→t < a.tmps.size) (hd:a.defers=[]) (e:plainOp tb o vs=some av) (hv:OR M a (fW o.op) vs):Yd P M a w o av:=by
 unfold plainOp at e
 split at e
 ·rename_i r hr
  split at e
  ·rename_i x hx
   have st:St a.tmps.size ⟨r,[]⟩ (fun _=>0) a w (fun _=>0):=by
    refine ⟨rfl,hd,fun t sv hl=>?_,fun id q hq=>by cases hq⟩
    obtain ⟨x,rfl,hx,hm⟩:=mW hr hv t sv hl
    have eS:=hn t hm
    simp only [Act.eval] at hx
    rw [Array.getElem?_eq_getElem eS]
    simp only [bj,cM]
    rw [← hx]; simp [Array.getD,eS]
   have run:=sC (P:=P) (tab:=tb) T.b st hx
   split at e
   ·cases e
   ·cases e
   ·cases e
    exact ⟨x,run,rfl⟩
  ·cases e
 ·cases e
end
end Go.Ex
namespace Go.Ex
open Go Go.Sv
section
variable {P:Program} {tt:Tr TyS} {mt:Tr (Nat × Nat × Value)} {tb:Tab} {ka:Nat→Nat→Bool}
variable {M:Mp} {a:Act} {w:World} {o:Oper} {av:AV} {vs:List AV} {h:Tr Bk}
theorem kB {k:AV} {j:Nat} (e:intOf k=some j) {v:Value} (hv:VA M k v):∃ kk,v=.int kk (.ofNat j):=by
 unfold intOf at e
 split at e
 ·rename_i kk i
  cases i with
  | ofNat n=>cases e; exact ⟨kk,hv⟩
  | negSucc n=>cases e
 ·cases e
theorem iL (T:TOK P tt mt tb ka) {t e:Nat} (h:jA tt t=some e):P.underlying t=some (.slice e):=by
 unfold jA at h
 split at h
 ·rename_i ht
  obtain ⟨i,d,z,hi,hd,hz,hs,jz,iS,fG,_,_,_,Ki,_⟩:=bl (T.t _ _ ht)
  cases h
  rw [hd,Ki _ rfl]
 ·cases h
theorem vJ (T:TOK P tt mt tb ka) {t n:Nat} (h:szOf tt t=some n):∃ i,P.info? t=some i∧i.size=n:=by
 unfold szOf at h
 split at h
 ·rename_i s hs
  obtain ⟨i,d,z,hi,hd,hz,gB,_⟩:=bl (T.t _ _ hs)
  cases h
  exact ⟨i,hi,gB⟩
 ·cases h
theorem xG {x:Operand} (e:pMove vs=some av) (ho:o.op=.move x∨o.op=.assign x) (hv:OR M a [x] vs):Yd P M a w o av:=by
 unfold pMove at e
 split at e
 ·cases e
  refine ⟨_,?_,hv.one⟩
  rcases ho with ho | ho <;> simp [execOp,ho]
 ·cases e
theorem Fc {c x y:Operand} (e:pPick vs=some av) (ho:o.op=.pick c x y) (hv:OR M a [c,x,y] vs):Yd P M a w o av:=by
 unfold pPick at e
 split at e
 ·rename_i b u v
  obtain ⟨h1,h2,h3,_⟩:=hv
  have h1:a.eval c=.bool b:=h1
  cases e
  cases b with
  | true=>exact ⟨_,by simp [execOp,ho,h1,asBool],h2⟩
  | false=>exact ⟨_,by simp [execOp,ho,h1,asBool],h3⟩
 ·cases e
theorem H9 {x:Operand} (e:pNil vs=some av) (ho:o.op=.nilCheck x) (hv:OR M a [x] vs):Yd P M a w o av:=by
 unfold pNil at e
 split at e
 ·cases e
  obtain ⟨b,s,N,h1,h2⟩:=hv.one
  exact ⟨_,by simp [execOp,ho,h2],b,s,N,h1,rfl⟩
 ·cases e
theorem LL (T:TOK P tt mt tb ka) (hn:∀ t,.tmp t∈fW o.op→t < a.tmps.size) (hd:a.defers=[]) {u:UnOp} {t:Nat} {x:Operand} (e:pUn tb o u vs=some av) (ho:o.op=.unOp u t x) (hv:OR M a (fW o.op) vs):Yd P M a w o av:=by
 unfold pUn at e
 split at e
 ·split at e
  ·rename_i k n
   split at e
   ·rename_i v mM
    cases e
    rw [ho] at hv
    have h1:a.eval x=.int k n:=hv.one
    simp only [arith] at mM
    cases mM
    exact ⟨_,by simp [execOp,ho,h1,Op.unary,Op.intBits],rfl⟩
   ·cases e
  ·cases e
 ·exact kp T hn hd e hv
theorem qG {n:Value} (h:oH n=true):n=.pointer none:=by
 unfold oH at h
 split at h
 ·rfl
 ·cases h
theorem kf {n:Value} (h:lj n=true):n=.slice none 0 0:=by
 unfold lj at h
 split at h
 ·rfl
 ·cases h
theorem uW {n:Value} (h:wv n=true):n=.map none:=by
 unfold wv at h
 split at h
 ·rfl
 ·cases h
theorem BL (T:TOK P tt mt tb ka) {t:Nat} (h:xR tt t=true):∃ e,P.underlying t=some (.slice e):=by
 unfold xR at h
 split at h
 ·rename_i e he; exact ⟨e,iL T he⟩
 ·cases h
theorem IE (T:TOK P tt mt tb ka) {t:Nat} (h:FX mt t=true):∃ k e,P.underlying t=some (.map k e):=by
 unfold FX at h
 split at h
 ·rename_i q hq; exact ⟨_,_,(T.m _ q.1 q.2.1 q.2.2 hq).1⟩
 ·cases h
def Cmp:Value→Prop
 | .pointer _=>True
 | .slice _ _ _=>True
 | .map _=>True
 | .agg _=>True
 | _=>False
theorem binOp_eql {t:Nat} {u v:Value} (h:Cmp u):binOp .eql t u v=(do pure (.bool (← Op.equal t u v))):=by
 cases u <;> first | exact h.elim | (cases v <;> rfl)
theorem binOp_neq {t:Nat} {u v:Value} (h:Cmp u):binOp .neq t u v=(do pure (.bool (!(← Op.equal t u v)))):=by
 cases u <;> first | exact h.elim | (cases v <;> rfl)
theorem qK {op:BinOp} {t yt:Nat} {x y:Operand} {b:Bool} (e:K4 op b=some av) (ho:o.op=.binOp op t x y yt)
  (hg:(eqGuard op t x y (a.eval x) (a.eval y)).run P w=.ok () w) (hb:(Op.equal t (a.eval x) (a.eval y)).run P w=.ok b w) (hc:Cmp (a.eval x)):Yd P M a w o av:=by
 cases op <;> simp only [K4] at e <;> try (cases e; done)
 ·cases e
  exact ⟨_,by simp only [execOp,ho,Sem.run_bind,hg,Result.andThen_ok,binOp_eql hc,hb,Sem.run_pure],rfl⟩
 ·cases e
  exact ⟨_,by simp only [execOp,ho,Sem.run_bind,hg,Result.andThen_ok,binOp_neq hc,hb,Sem.run_pure],rfl⟩
theorem jJ {op:BinOp} {t:Nat} {x y:Operand} {u v:Value} (h:Cmp u) (h2:∀ c,u≠.agg c):(eqGuard op t x y u v).run P w=.ok () w:=by
 cases u <;> first | exact h.elim | exact absurd rfl (h2 _) | (cases op <;> rfl)
theorem Cj {t el:Nat} (hu:P.underlying t=some (.pointer el)) (p:Option Addr):(Op.equal t (.pointer p) (.pointer none)).run P w=.ok p.isNone w:=by
 unfold Op.equal Op.maxDepth Op.equalIn
 cases p <;> simp [run_underlying hu]
theorem Ci {t el n c:Nat} (hu:P.underlying t=some (.slice el)) (p:Option Addr):(Op.equal t (.slice p n c) (.slice none 0 0)).run P w=.ok p.isNone w:=by
 unfold Op.equal Op.maxDepth Op.equalIn
 cases p <;> simp [run_underlying hu]
theorem Ja {t k el:Nat} (hu:P.underlying t=some (.map k el)) (b:Nat):(Op.equal t (.map (some b)) (.map none)).run P w=.ok false w:=by
 unfold Op.equal Op.maxDepth Op.equalIn
 simp [run_underlying hu]
theorem nz:∀ {l:List S} {xs:List Value},lf l=some xs→∀ {vs:List Value},VL M l vs→vs=xs
 | [],xs,e,[],_=>by cases e; rfl
 | .v x :: l,xs,e,v :: vs,h=>by
  simp only [lf] at e
  split at e
  ·rename_i q hq
   cases e
   rw [nz hq h.2,show v=x from h.1]
  ·cases e
 | [],_,_,_ :: _,h=>h.elim
 | _ :: _,_,_,[],h=>h.elim
 | .p _ _ :: _,_,e,_,_=>by simp [lf] at e
 | .sl _ _ _ _ :: _,_,e,_,_=>by simp [lf] at e
 | .m _ :: _,_,e,_,_=>by simp [lf] at e
 | .c _ :: _,_,e,_,_=>by simp [lf] at e
theorem LQ (T:bh P tb) {t k:Nat} {xs:List Value} (hn:nf tb t=some k) (hk:k=xs.length):∀ fs,P.underlying t=some (.struct fs)→xs.length=fs.size:=by
 intro UQ hu'
 unfold nf at hn
 split at hn
 ·rename_i Qu oJ
  obtain ⟨i,dd,z,hi,o0,hz,Oh,jz,iS,fG,gP,_⟩:=bl (T _ _ oJ)
  obtain ⟨l,rfl,hm⟩:=gP _ rfl
  rw [o0] at hu'
  cases hu'
  have:=pE hm
  simp at hn
  rw [← hk,← hn,this,Array.length_toList]
 ·cases hn
theorem Ib (T:TOK P tt mt tb ka) (hn:∀ t,.tmp t∈fW o.op→t < a.tmps.size) (hd:a.defers=[]) {op:BinOp} {t yt:Nat} {x y:Operand} (e:pBin P tt mt tb ka o op t vs=some av) (ho:o.op=.binOp op t x y yt) (hv:OR M a (fW o.op) vs):Yd P M a w o av:=by
 have mM:OR M a [x,y] vs:=by rw [ho] at hv; exact hv
 unfold pBin at e
 split at e
 ·rename_i u v
  obtain ⟨h1,h2⟩:=mM.two
  split at e
  ·rename_i i off n
   replace e:=fw e; obtain ⟨hc,e⟩:=e
   rw [Bool.and_eq_true] at hc
   obtain ⟨b,s,N,_,g1⟩:=h1
   have g2:a.eval y=.pointer none:=by rw [show a.eval y=n from h2,qG hc.1]
   obtain ⟨el,hu⟩:=T.p _ hc.2
   exact qK e ho (jJ (by rw [g1]; trivial) (by rw [g1]; simp)) (by rw [g1,g2]; exact Cj hu _) (by rw [g1]; trivial)
  ·rename_i i off m k n
   replace e:=fw e; obtain ⟨hc,e⟩:=e
   rw [Bool.and_eq_true] at hc
   obtain ⟨b,s,N,cap,ad,_,g1,_⟩:=h1
   have g2:a.eval y=.slice none 0 0:=by rw [show a.eval y=n from h2,kf hc.1]
   obtain ⟨el,hu⟩:=BL T hc.2
   exact qK e ho (jJ (by rw [g1]; trivial) (by rw [g1]; simp)) (by rw [g1,g2]; exact Ci hu _) (by rw [g1]; trivial)
  ·rename_i i n
   replace e:=fw e; obtain ⟨hc,e⟩:=e
   rw [Bool.and_eq_true] at hc
   obtain ⟨b,_,g1⟩:=h1
   have g2:a.eval y=.map none:=by rw [show a.eval y=n from h2,uW hc.1]
   obtain ⟨kk,el,hu⟩:=IE T hc.2
   exact qK e ho (jJ (by rw [g1]; trivial) (by rw [g1]; simp)) (by rw [g1,g2]; exact Ja hu _) (by rw [g1]; trivial)
  ·rename_i n n'
   have g1:a.eval x=n:=h1
   have g2:a.eval y=n':=h2
   cases hc:(oH n && oH n' && ka 1 t) with
   | true =>
    rw [hc] at e
    simp only [Bool.and_eq_true] at hc
    rw [qG hc.1.1] at g1
    rw [qG hc.1.2] at g2
    obtain ⟨el,hu⟩:=T.p _ hc.2
    exact qK e ho (jJ (by rw [g1]; trivial) (by rw [g1]; simp)) (by rw [g1,g2]; exact Cj hu _) (by rw [g1]; trivial)
   | false =>
    rw [hc] at e
    simp only [cond_false] at e
    cases hc:(lj n && lj n' && xR tt t) with
    | true =>
     rw [hc] at e
     simp only [Bool.and_eq_true] at hc
     rw [kf hc.1.1] at g1
     rw [kf hc.1.2] at g2
     obtain ⟨el,hu⟩:=BL T hc.2
     exact qK e ho (jJ (by rw [g1]; trivial) (by rw [g1]; simp)) (by rw [g1,g2]; exact Ci hu _) (by rw [g1]; trivial)
    | false =>
     rw [hc] at e
     simp only [cond_false] at e
     have quo:∀ q,quoE q n n'=some av→(op=.quo∧q=true∨op=.rem∧q=false)→Yd P M a w o av:=by
      intro q e hq
      unfold quoE at e
      split at e
      ·rename_i k p k' r
       replace e:=fw e; obtain ⟨hc,e⟩:=e
       simp only [Bool.and_eq_true,Bool.not_eq_true',beq_eq_false_iff_ne,ne_eq] at hc
       have:=iH hc.1
       subst this
       cases e
       rcases hq with ⟨rfl,rfl⟩ | ⟨rfl,rfl⟩
       ·exact ⟨_,by simp [execOp,ho,g1,g2,binOp,Op.intDiv,hc.2,eD],rfl⟩
       ·exact ⟨_,by simp [execOp,ho,g1,g2,binOp,Op.intDiv,hc.2,eD],rfl⟩
      ·cases e
     split at e
     ·exact quo true e (.inl ⟨rfl,rfl⟩)
     ·exact quo false e (.inr ⟨rfl,rfl⟩)
     ·exact kp T hn hd e hv
  ·cases e
 ·rename_i u v
  obtain ⟨⟨xs',g1,hx⟩,ys',g2,hy⟩:=mM.two
  split at e
  ·rename_i xs ys Hw Ke
   have:=nz Hw hx
   subst this
   have:=nz Ke hy
   subst this
   split at e
   ·rename_i b hb
    replace e:=fw e; obtain ⟨hc,e⟩:=e
    simp only [Bool.and_eq_true] at hc
    obtain ⟨⟨hf,hl⟩,hk⟩:=hc
    split at hk
    ·rename_i k IQ
     obtain ⟨fs,hu,q1,q2,q3⟩:=sk hf
     have hq:=lZ (w:=w) hf hb (LQ T.b IQ (Nat.eq_of_beq_eq_true hk))
     exact qK e ho (by rw [g1,g2]; exact run_eqGuard_agg w op t x y _ _ q2) (by rw [g1,g2]; exact hq) (by rw [g1]; trivial)
    ·cases hk
   ·cases e
  ·cases e
 ·cases e
theorem zF (T:TOK P tt mt tb ka) {s f:Nat} {x:Operand} (e:pFieldA tt s f vs=some av) (ho:o.op=.fieldAddr s x f) (hv:OR M a [x] vs):Yd P M a w o av:=by
 unfold pFieldA at e
 split at e
 ·rename_i i off
  obtain ⟨b,s',N,h1,h2⟩:=hv.one
  split at e
  ·rename_i sz oS z ag fs ht
   split at e
   ·rename_i ll kX ft hf
    replace e:=fw e; obtain ⟨M7,e⟩:=e
    cases e
    obtain ⟨i,d,z,hi,hd,hz,hs,jz,iS,fG,gP,_⟩:=bl (T.t _ _ ht)
    obtain ⟨l,rfl,hm⟩:=gP fs rfl
    obtain ⟨fd,sg,tz⟩:=ja hm f _ hf
    simp only [Option.map_eq_some_iff,Prod.mk.injEq] at tz
    obtain ⟨j,hj,rfl,rfl,rfl⟩:=tz
    have hne:¬ j.size=0:=by have:=Nat.le_of_ble_eq_true M7; omega
    simp only [Array.getElem?_toList] at sg
    refine ⟨.pointer (some ⟨b,s'+off+fd.offset,none⟩),?_,b,s',N,h1,by rw [Nat.add_assoc]⟩
    simp [execOp,ho,h2,Instr.fieldAt,run_underlying hd,sg,Instr.sureAddr,fieldPlace,Sv.run_sizeOf hj,hne,Addr.add_lit]
   ·cases e
  ·cases e
 ·cases e
theorem Bu (T:TOK P tt mt tb ka) {ft ll:Nat} {ty:TyS} (ht:get tt ft=some ty) {l:List S} {cs:List Value} (hl:VL M l cs) {v:V1} (hle:ll+ty.size≤l.length) (e:mkv ty.agg ((l.drop ll).take ty.size)=some v) :
  ∃ u,(part ft cs.toArray ll).run P w=.ok u w∧VV M v u:=by
 obtain ⟨i2,d2,z2,Sq,Kt,Ea,hs2,UD,TX,pM,_⟩:=bl (T.t _ _ ht)
 have hq:=(hl.drop ll).take ty.size
 rcases zK e hq with ⟨ha,hv⟩ | ⟨ha,u,hu,hv⟩
 ·refine ⟨_,?_,hv⟩
  rw [ha] at pM
  simp [part,Sv.fh Kt,← pM,Sv.run_sizeOf Sq,hs2,List.take_drop,Nat.add_comm]
 ·refine ⟨u,?_,hv⟩
  rw [ha] at pM
  have hg:cs[ll]?=some u:=by
   have:((cs.drop ll).take ty.size)[0]?=some u:=by rw [hu]; rfl
   rw [List.getElem?_take] at this
   split at this
   ·simpa using this
   ·cases this
  simp [part,Sv.fh Kt,← pM,hg]
theorem C5 (T:TOK P tt mt tb ka) {s f:Nat} {x:Operand} (e:pField tt s f vs=some av) (ho:o.op=.field s x f) (hv:OR M a [x] vs):Yd P M a w o av:=by
 unfold pField at e
 split at e
 ·rename_i l
  obtain ⟨cs,h1,h2⟩:=hv.one
  split at e
  ·rename_i sz oS z ag fs ht
   split at e
   ·rename_i ll kX ft hf
    split at e
    ·rename_i ty MH
     replace e:=fw e; obtain ⟨hc,e⟩:=e
     rw [Bool.and_eq_true] at hc
     have IH:=Nat.eq_of_beq_eq_true hc.1
     subst IH
     split at e
     ·rename_i v hm
      cases e
      obtain ⟨u,hu,MF⟩:=Bu (w:=w) T MH h2 (Nat.le_of_ble_eq_true hc.2) hm
      obtain ⟨i,d,z,hi,hd,hz,hs,jz,iS,fG,gP,_⟩:=bl (T.t _ _ ht)
      obtain ⟨l',rfl,MO⟩:=gP fs rfl
      obtain ⟨fd,sg,tz⟩:=ja MO f _ hf
      simp only [Option.map_eq_some_iff,Prod.mk.injEq] at tz
      obtain ⟨j,hj,rfl,Up,rfl⟩:=tz
      simp only [Array.getElem?_toList] at sg
      exact ⟨u,by simp [execOp,ho,h1,Instr.field,run_underlying hd,sg,asAgg,hu],MF⟩
     ·cases e
    ·cases e
   ·cases e
  ·cases e
 ·cases e
theorem zE (T:TOK P tt mt tb ka) {t:Nat} {x y:Operand} (e:pIndexA tt t vs=some av) (ho:o.op=.indexAddr t x y) (hv:OR M a [x,y] vs):Yd P M a w o av:=by
 unfold pIndexA at e
 split at e
 ·rename_i i off m n k
  obtain ⟨⟨b,s,N,cap,ad,h1,h2,h3,h4⟩,hk⟩:=hv.two
  split at e
  ·rename_i el gd
   split at e
   ·rename_i m' j MO hj
    replace e:=fw e; obtain ⟨hc,e⟩:=e
    rw [Bool.and_eq_true] at hc
    have:=Nat.eq_of_beq_eq_true hc.1
    subst this
    have eS:j < n:=Nat.le_of_ble_eq_true hc.2
    cases e
    obtain ⟨kk,MP⟩:=kB hj hk
    obtain ⟨inf,hi,gB⟩:=vJ T MO
    have sh:ad=⟨b,s+off,none⟩:=by
     rcases h4 with h4 | h4
     ·exact h4.1
     ·omega
    subst sh
    have:=kM (P:=P) (w:=w) (c:=cap) (k:=kk) (iL T gd) hi gB (ad:=some ⟨b,s+off,none⟩) rfl (i:=.ofNat j) (len:=n) (by simp) (by simp; omega)
    simp at this
    exact ⟨_,by simp [execOp,ho,h2,MP,this]; rfl,b,s,N,h1,by simp [Nat.add_assoc]⟩
   ·cases e
  ·cases e
 ·rename_i i off k
  obtain ⟨⟨b,s,N,h1,h2⟩,hk⟩:=hv.two
  split at e
  ·rename_i sz oS z ag n el es j ht hj
   replace e:=fw e; obtain ⟨hc,e⟩:=e
   have eS:j < n:=Nat.le_of_ble_eq_true hc
   cases e
   obtain ⟨kk,MP⟩:=kB hj hk
   obtain ⟨inf,d,zv,hi,hd,hz,hs,jz,iS,fG,_,Gx,_⟩:=bl (T.t _ _ ht)
   obtain ⟨rfl,jj,Uq,rfl⟩:=Gx _ _ _ rfl
   refine ⟨.pointer (some ⟨b,s+off+j * jj.size,none⟩),?_,b,s,N,h1,by simp [Nat.add_assoc]⟩
   have h0:(0:Int)≤(j:Int):=by omega
   have h1':(j:Int) < (n:Int):=by omega
   simp [execOp,ho,h2,MP,Instr.indexAt,run_underlying hd,asIntOf,Instr.sureAddr,eS,Sv.run_sizeOf Uq,Addr.add_lit]
  ·cases e
 ·cases e
theorem C3 (T:TOK P tt mt tb ka) {t:Nat} {x y:Operand} (e:pIndex tt t vs=some av) (ho:o.op=.index t x y) (hv:OR M a [x,y] vs):Yd P M a w o av:=by
 unfold pIndex at e
 split at e
 ·rename_i s k
  obtain ⟨h1,hk⟩:=hv.two
  have h1:a.eval x=.string s:=h1
  split at e
  ·rename_i sz oS z ag j ht hj
   split at e
   ·rename_i b hb
    cases e
    obtain ⟨kk,MP⟩:=kB hj hk
    obtain ⟨inf,d,zv,hi,hd,hz,hs,jz,iS,fG,_,_,_,_,gP,_⟩:=bl (T.t _ _ ht)
    rw [gP rfl] at hd
    have hg:s[j]?=some b:=by
     simp only [Array.getElem?_toList] at hb
     rw [← hb]; rfl
    exact ⟨_,by simp [execOp,ho,h1,MP,Instr.index,asIntOf,run_underlying hd,hg],rfl⟩
   ·cases e
  ·cases e
 ·rename_i l k
  obtain ⟨⟨cs,h1,h2⟩,hk⟩:=hv.two
  split at e
  ·rename_i sz oS z ag n el es j ht hj
   replace e:=fw e; obtain ⟨hc,e⟩:=e
   have eS:j < n:=Nat.le_of_ble_eq_true hc
   split at e
   ·rename_i ty MH
    replace e:=fw e; obtain ⟨hc,e⟩:=e
    rw [Bool.and_eq_true] at hc
    have IH:=Nat.eq_of_beq_eq_true hc.1
    split at e
    ·rename_i v hm
     cases e
     obtain ⟨kk,MP⟩:=kB hj hk
     obtain ⟨inf,d,zv,hi,hd,hz,hs,jz,iS,fG,_,Gx,_⟩:=bl (T.t _ _ ht)
     obtain ⟨rfl,jj,Uq,rfl⟩:=Gx _ _ _ rfl
     rw [← IH] at hm hc
     obtain ⟨u,hu,MF⟩:=Bu (w:=w) T MH h2 (Nat.le_of_ble_eq_true hc.2) hm
     rw [IH] at hu
     exact ⟨u,by simp [execOp,ho,h1,MP,Instr.index,run_underlying hd,asIntOf,eS,Sv.run_sizeOf Uq,hu],MF⟩
    ·cases e
   ·cases e
  ·cases e
 ·cases e
theorem xH {x:Operand} {i:Nat} (e:pExtract i vs=some av) (ho:o.op=.extract x i) (hv:OR M a [x] vs):Yd P M a w o av:=by
 unfold pExtract at e
 split at e
 ·rename_i l
  obtain ⟨us,h1,h2⟩:=hv.one
  split at e
  ·rename_i v mM
   cases e
   obtain ⟨u,g1,g2⟩:=h2.get _ _ mM
   exact ⟨u,by simp [execOp,ho,h1,Instr.extract,g1],g2⟩
  ·cases e
 ·cases e
end
end Go.Ex
set_option maxRecDepth 4000
namespace Go.Ex
open Go Go.Sv
section
variable {P:Program} {tt:Tr TyS} {mt:Tr (Nat × Nat × Value)} {tb:Tab} {ka:Nat→Nat→Bool}
variable {M:Mp} {a:Act} {w:World} {o:Oper} {av:AV} {vs:List AV} {h:Tr Bk}
def Bd (a:Act) (x:Option Operand) (l:Option Nat):Prop:=match x,l with
 | none,none=>True
 | some y,some n=>∃ k,a.eval y=.int k (.ofNat n)
 | _,_=>False
theorem wa {x:Option Operand} {r:List Operand} {q q':List AV} {l:Option Nat} (e:Fk x.isSome q=some (l,q')) (hv:OR M a (x.toList++r) q):Bd a x l∧OR M a r q':=by
 cases x with
 | none =>
  cases q with
  | nil=>cases e; exact ⟨trivial,hv⟩
  | cons y q=>cases e; exact ⟨trivial,hv⟩
 | some y =>
  cases q with
  | nil=>cases e
  | cons u q =>
   simp only [Fk,Option.isSome_some,cond_true] at e
   split at e
   ·rename_i n hn
    cases e
    obtain ⟨kk,hk⟩:=kB hn hv.1
    exact ⟨⟨kk,hk⟩,hv.2⟩
   ·cases e
theorem vk {n A B:Nat} {l h:Option Nat} (e:bounds n l h=some (A,B)):A=l.getD 0∧B=h.getD n∧A≤B∧B≤n:=by
 simp only [bounds] at e
 replace e:=fw e
 obtain ⟨hc,e⟩:=e
 rw [Bool.and_eq_true] at hc
 cases e
 exact ⟨rfl,rfl,Nat.le_of_ble_eq_true hc.1,Nat.le_of_ble_eq_true hc.2⟩
theorem ov {lo hi mx:Option Operand} {l h m:Option Nat} {n cap:Nat} {b:Bool} (h1:Bd a lo l) (h2:Bd a hi h) (h3:Bd a mx m) (hn:n≤cap) (hB:h.getD n≤m.getD cap) (hA:l.getD 0≤h.getD n) (hm:m.getD cap≤cap) (ZG:m.isSome=true→h.isSome=true) :
  (Instr.sliceBounds b n cap (lo.map a.eval) (hi.map a.eval) (mx.map a.eval)).run P w=.ok (l.getD 0,h.getD n,m.getD cap) w:=by
 cases mx with
 | none =>
  cases m with
  | some _=>exact h3.elim
  | none =>
   cases hi with
   | none =>
    cases h with
    | some _=>exact h2.elim
    | none =>
     cases lo with
     | none=>cases l with
      | some _=>exact h1.elim
      | none=>simp [Instr.sliceBounds]
     | some y=>cases l with
      | none=>exact h1.elim
      | some p=>obtain ⟨k,hk⟩:=h1; simp at hA; simp [Instr.sliceBounds,hk,Instr.sliceBound,asIntOf,hA]
   | some z =>
    cases h with
    | none=>exact h2.elim
    | some q =>
     obtain ⟨k',IQ⟩:=h2
     simp at hB hA
     cases lo with
     | none=>cases l with
      | some _=>exact h1.elim
      | none=>simp [Instr.sliceBounds,IQ,Instr.sliceBound,asIntOf,hB]
     | some y=>cases l with
      | none=>exact h1.elim
      | some p=>obtain ⟨k,hk⟩:=h1; simp at hA; simp [Instr.sliceBounds,hk,IQ,Instr.sliceBound,asIntOf,hA,hB]
 | some zz =>
  cases m with
  | none=>exact h3.elim
  | some r =>
   obtain ⟨k'',P6⟩:=h3
   simp at hm hB
   cases hi with
   | none =>
    cases h with
    | some _=>exact h2.elim
    | none=>simp at ZG
   | some z =>
    cases h with
    | none=>exact h2.elim
    | some q =>
     obtain ⟨k',IQ⟩:=h2
     simp at hB hA
     cases lo with
     | none=>cases l with
      | some _=>exact h1.elim
      | none=>simp [Instr.sliceBounds,IQ,P6,Instr.sliceBound,asIntOf,hB,hm]
     | some y=>cases l with
      | none=>exact h1.elim
      | some p=>obtain ⟨k,hk⟩:=h1; simp at hA; simp [Instr.sliceBounds,hk,IQ,P6,Instr.sliceBound,asIntOf,hA,hB,hm]
theorem CL (T:TOK P tt mt tb ka) {t:Nat} {x:Operand} {lo hi mx:Option Operand} {l h' m:Option Nat} {y:Value} (e:sliceV tt t l h' m y=some av) (ho:o.op=.slice t x lo hi mx) (hx:a.eval x=y) (h1:Bd a lo l) (h2:Bd a hi h') (h3:Bd a mx m):Yd P M a w o av:=by
 unfold sliceV at e
 split at e
 ·rename_i s
  split at e
  ·rename_i sz oS z ag ht
   split at e
   ·rename_i A B hb
    cases e
    obtain ⟨rfl,rfl,g3,g4⟩:=vk hb
    obtain ⟨inf,d,zv,wC,hd,hz,hs,jz,iS,fG,_,_,_,_,gP,_⟩:=bl (T.t _ _ ht)
    rw [gP rfl] at hd
    have ZF:mx=none:=by cases mx with
     | none=>rfl
     | some _=>exact h3.elim
    subst ZF
    have hlen:s.data.toList.length=s.size:=rfl
    rw [hlen] at g3 g4 
    have:=ov (P:=P) (w:=w) (b:=false) (n:=s.size) (cap:=s.size) h1 h2 h3 (Nat.le_refl _) g4 g3 (Nat.le_refl _) (by simp)
    simp only [Option.map_none] at this
    refine ⟨.string (s.extract (l.getD 0) (h'.getD s.size)),?_,?_⟩
    ·simp [execOp,ho,hx,Instr.sliceAt,Instr.slice,run_underlying hd,this]
    ·show Value.string _=Value.string _
     congr 1
     rw [hlen]
     have hs:s=bs s.data.toList:=by cases s; simp only [bs,Array.toArray_toList]
     conv=>lhs; rw [hs]
     rw [AA]
     rfl
   ·cases e
  ·cases e
 ·split at e
  ·rename_i sz gB
   split at gB
   ·rename_i el gd
    obtain ⟨inf,wC,_⟩:=vJ T gB
    replace e:=fw e
    obtain ⟨hc,e⟩:=e
    simp only [Bool.and_eq_true] at hc
    obtain ⟨c1,c2,c3,c4,c5⟩:=hc
    have e:=Option.some.inj e
    subst e
    have hy:=kf c4
    have c1:=Nat.eq_of_beq_eq_true c1
    have c2:=Nat.eq_of_beq_eq_true c2
    have c3:=Nat.eq_of_beq_eq_true c3
    have:=ov (P:=P) (w:=w) (b:=true) (n:=0) (cap:=0) h1 h2 h3 (Nat.le_refl _) (by omega) (by omega) (by omega) (by cases m <;> simp_all)
    refine ⟨.slice none 0 0,?_,by rw [hy]; exact (rfl:_=_)⟩
    simp [execOp,ho,hx,hy,Instr.sliceAt,Instr.slice,run_underlying (iL T gd),this,c1,c2,c3,Sv.run_sizeOf wC]
   ·cases gB
  ·cases e
theorem CM (T:TOK P tt mt tb ka) {t:Nat} {x:Operand} {lo hi mx:Option Operand} {l h' m:Option Nat} {i off m' n:Nat} (e:sliceL tt t l h' m i off m' n=some av) (ho:o.op=.slice t x lo hi mx) (hx:VS M (.sl i off m' n) (a.eval x)) (h1:Bd a lo l) (h2:Bd a hi h') (h3:Bd a mx m):Yd P M a w o av:=by
 unfold sliceL at e
 split at e
 ·rename_i el gd
  split at e
  ·rename_i s A B hs hb
   replace e:=fw e
   obtain ⟨hc,e⟩:=e
   have e:=Option.some.inj e
   subst e
   rw [Bool.and_eq_true] at hc
   obtain ⟨uc,hm⟩:=hc
   have uc:=Nat.eq_of_beq_eq_true uc
   subst uc
   obtain ⟨hA,hB,g3,g4⟩:=vk hb
   obtain ⟨inf,wC,gB⟩:=vJ T hs
   obtain ⟨b,s',N,cap,ad,q1,q2,q3,q4⟩:=hx
   have MO:B≤m.getD cap∧m.getD cap≤cap∧(m.isSome=true→h'.isSome=true):=by
    cases m with
    | none=>simp; omega
    | some c =>
     simp only [Bool.and_eq_true] at hm
     have:=Nat.le_of_ble_eq_true hm.1
     have:=Nat.le_of_ble_eq_true hm.2.1
     exact ⟨by simpa,by simp; omega,fun _=>hm.2.2⟩
   obtain ⟨k1,k2,k3⟩:=MO
   have:=ov (P:=P) (w:=w) (b:=true) (n:=n) (cap:=cap) h1 h2 h3 q3 (by rw [← hB]; exact k1) (by rw [← hA,← hB]; exact g3) k2 k3
   rw [← hA,← hB] at this
   have run:∀ vw,(if m.getD cap=A then some ad else some (ad.add (A * s)))=some vw→(execOp a.eval o).run P w=.ok (.value (.slice (some vw) (B - A) (m.getD cap - A))) w:=by
    intro vw he
    rw [← gB] at he
    simp [execOp,ho,q2,Instr.sliceAt,Instr.slice,run_underlying (iL T gd),this,Sv.run_sizeOf wC]
    exact he
   by_cases WD:m.getD cap=A
   ·refine ⟨_,run ad (by simp [WD]),b,s',N,_,_,q1,rfl,by omega,.inr (by omega)⟩
   ·rcases q4 with ⟨rfl,q4⟩ | q4
    ·refine ⟨_,run ⟨b,s'+off+A * s,none⟩ (by simp [WD,Addr.add_lit]),b,s',N,_,_,q1,rfl,by omega,.inl ⟨by rw [Nat.add_assoc],?_⟩⟩
     have:A * s+(m.getD cap - A) * s=m.getD cap * s:=by rw [← Nat.add_mul]; congr 1; omega
     have:=Nat.mul_le_mul_right s k2
     omega
    ·omega
  ·cases e
 ·cases e
theorem C2 (T:TOK P tt mt tb ka) {t:Nat} {x:Operand} {lo hi mx:Option Operand} (e:pSlice tt t lo hi mx vs=some av) (ho:o.op=.slice t x lo hi mx) (hv:OR M a (fW o.op) vs):Yd P M a w o av:=by
 rw [ho] at hv
 unfold pSlice at e
 split at e
 ·rename_i y q
  obtain ⟨hy,hv⟩:=hv
  split at e
  ·rename_i l q1 e1
   split at e
   ·rename_i h' q2 e2
    split at e
    ·rename_i m q3 e3
     obtain ⟨b1,hv⟩:=wa e1 hv
     obtain ⟨b2,hv⟩:=wa e2 hv
     obtain ⟨b3,hv⟩:=wa (r:=[]) e3 (by simpa using hv)
     split at e
     ·exact CL T e ho hy b1 b2 b3
     ·exact CM T e ho hy b1 b2 b3
     ·cases e
    ·cases e
   ·cases e
  ·cases e
 ·cases e
theorem yk {x:Int}:∀ {es:List (Value × V1 × Nat)} {l:List MapEntry} {r:Option V1} (j:Nat),findE (.int .i64 x) es=some r→FL (EN M) es l →
  match r with
  | none=>Instr.findNow (.int .i64) (.int .i64 x) l j=some none
  | some v=>∃ k u,Instr.findNow (.int .i64) (.int .i64 x) l j=some (some (k,u))∧VV M v u
 | [],[],r,j,e,_=>by cases e; rfl
 | (y,v,b) :: es,en :: l,r,j,e,h=>by
  obtain ⟨⟨h1,h2,_⟩,h3⟩:=h
  simp only [findE] at e
  cases y with
  | int k z =>
   simp only [uV] at e
   cases hk:sameKind .i64 k with
   | false=>rw [hk] at e; cases e
   | true =>
    have:=iH hk
    subst this
    rw [hk] at e
    simp only [cond_true] at e
    simp only at h1
    by_cases MD:x=z
    ·subst MD
     simp only [decide_true] at e
     cases e
     exact ⟨j,en.val,by simp [Instr.findNow,Instr.sameNow,h1],h2⟩
    ·simp only [MD,decide_false] at e
     have ih:=yk (j+1) e h3
     have hs:Instr.sameNow (.int .i64) (.int .i64 x) en.key=some false:=by simp [Instr.sameNow,h1,MD]
     cases r with
     | none=>simpa only [Instr.findNow,hs] using ih
     | some v=>simpa only [Instr.findNow,hs] using ih
  | _=>simp [uV] at e
 | [],_ :: _,_,_,_,h=>h.elim
 | _ :: _,[],_,_,_,h=>h.elim
theorem tD {x:S} {es:List (Value × V1 × Nat)} (e:entries x h=some es) (hh:Hp M h w) {v:Value} (hv:VS M x v):(es=[]∧v=.map none)∨∃ b arr k,v=.map (some b)∧w.heap[b]?=some (.map arr k)∧FL (EN M) es arr.toList:=by
 unfold entries at e
 split at e
 ·replace e:=fw e
  obtain ⟨hc,e⟩:=e
  cases e
  exact .inl ⟨rfl,by rw [← uW hc]; exact hv⟩
 ·rename_i i
  obtain ⟨b,h1,h2⟩:=hv
  split at e
  ·rename_i Ap k hg
   cases e
   obtain ⟨arr,g1,g2⟩:=hh _ _ _ hg h1
   exact .inr ⟨b,arr,k,h2,g1,g2⟩
  ·cases e
 ·cases e
theorem yj (T:TOK P tt mt tb ka) {kt:Nat} {kk:V1} {es:List (Value × V1 × Nat)} {l:List MapEntry} {r:Option V1} {kv:Value} (e:u9 ka kt kk es=some r) (hk:P.underlying kt=some (.int .i64)∨ka 0 kt=true∧∃ d,P.underlying kt=some d) (hf:FL (EN M) es l) (hv:VV M kk kv) :
  (∀ b,(Instr.checkKey b 10000 kt kv).run P w=.ok () w)∧match r with
  | none=>(Instr.findKey kt kv l).run P w=.ok none w
  | some v=>∃ k u,(Instr.findKey kt kv l).run P w=.ok (some (k,u)) w∧VV M v u:=by
 cases kk with
 | s s =>
  cases s with
  | v y =>
   cases y with
   | int k x =>
    cases k with
    | i64 =>
     have e:(bif ka 0 kt then none else findE (.int .i64 x) es)=some r:=e
     have hv:kv=.int .i64 x:=hv
     subst hv
     cases MQ:ka 0 kt with
     | true=>rw [MQ] at e; cases e
     | false =>
      rw [MQ] at e
      rcases hk with hk | ⟨hk,_⟩
      ·refine ⟨fun b=>MapKept.run_checkKey (k:=.int .i64 x) hk rfl b 9999,?_⟩
       have:=yk 0 e hf
       cases r with
       | none=>exact MapKept.run_findKey hk this
       | some v =>
        obtain ⟨k,u,h1,h2⟩:=this
        exact ⟨k,u,MapKept.run_findKey hk h1,h2⟩
      ·rw [MQ] at hk; cases hk
    | _=>simp [u9] at e
   | _=>simp [u9] at e
  | _=>simp [u9] at e
 | g q =>
  obtain ⟨us,rfl,hu⟩:=hv
  simp only [u9] at e
  split at e
  ·rename_i e1 e2
   replace e:=fw e
   obtain ⟨hc,e⟩:=e
   have e:=Option.some.inj e
   subst e
   have:=nz (by assumption) hu
   subst this
   have hl:l=[]:=by cases l with
    | nil=>rfl
    | cons _ _=>exact hf.elim
   subst hl
   refine ⟨fun b=>T.k _ hc _ _ b w,?_⟩
   rcases hk with hk | ⟨_,d,hd⟩
   ·exact absurd hk (T.k' _ hc)
   ·exact MapKept.run_findKey hd rfl
  ·cases e
theorem Fe (T:TOK P tt mt tb ka) (hh:Hp M h w) {t:Nat} {ok:Bool} {x y:Operand} (e:pLook mt ka t ok vs h=some av) (ho:o.op=.lookup t x y ok) (hv:OR M a [x,y] vs):Yd P M a w o av:=by
 unfold pLook at e
 split at e
 ·rename_i s kk
  obtain ⟨g1,g2⟩:=hv.two
  split at e
  ·rename_i kt et zv es hm Ux
   obtain ⟨hu,hz,Sk⟩:=T.m _ _ _ _ hm
   obtain ⟨inf,hi,Pq⟩:=Option.bind_eq_some_iff.1 hz
   have D9:(zeroValue et).run P w=.ok zv w:=by simp [zeroValue,typeInfo,hi,Pq]
   have main:∀ l:List MapEntry,FL (EN M) es l→((∃ b k,a.eval x=.map (some b)∧w.heap[b]?=some (.map l.toArray k))∨a.eval x=.map none∧l=[])→Yd P M a w o av:=by
    intro l hf hx
    split at e
    ·rename_i v _ Uu
     obtain ⟨c1,k,u,c2,c3⟩:=yj (w:=w) T Uu Sk hf g2
     have e:=Option.some.inj e
     subst e
     have run:∀ r,r=(if ok then Value.tuple #[u,.bool true] else u)→(execOp a.eval o).run P w=.ok (.value r) w:=by
      intro r hr
      subst hr
      rcases hx with ⟨b,k',hx,hb⟩ | ⟨hx,rfl⟩
      ·cases ok <;> simp [execOp,ho,hx,Instr.lookup,run_underlying hu,MapKept.run_getObj_map hb,c1,c2]
      ·cases ok <;> simp [execOp,ho,hx,Instr.lookup,run_underlying hu,c1,c2]
     refine ⟨_,run _ rfl,?_⟩
     cases ok with
     | true=>exact ⟨[u,.bool true],rfl,c3,rfl,trivial⟩
     | false=>exact c3
    ·rename_i v Uu ZB
     obtain ⟨c1,c2⟩:=yj (w:=w) T Uu Sk hf g2
     simp only at c2
     have e:=Option.some.inj e
     subst e
     have Oe:VV M v zv:=by have:=tf M zv; rw [ZB] at this; exact this
     have run:∀ r,r=(if ok then Value.tuple #[zv,.bool false] else zv)→(execOp a.eval o).run P w=.ok (.value r) w:=by
      intro r hr
      subst hr
      rcases hx with ⟨b,k',hx,hb⟩ | ⟨hx,rfl⟩
      ·cases ok <;> simp [execOp,ho,hx,Instr.lookup,run_underlying hu,MapKept.run_getObj_map hb,c1,c2,D9]
      ·cases ok <;> simp [execOp,ho,hx,Instr.lookup,run_underlying hu,c1,c2,D9]
     refine ⟨_,run _ rfl,?_⟩
     cases ok with
     | true=>exact ⟨[zv,.bool false],rfl,Oe,rfl,trivial⟩
     | false=>exact Oe
    ·cases e
   rcases tD Ux hh g1 with ⟨rfl,hx⟩ | ⟨b,arr,k,hx,hb,hf⟩
   ·exact main [] trivial (.inr ⟨hx,rfl⟩)
   ·exact main arr.toList hf (.inl ⟨b,k,hx,by simpa using hb⟩)
  ·cases e
 ·cases e
end
end Go.Ex
namespace Go.Ex
open Go Go.Sv
section
variable {P:Program} {tt:Tr TyS} {mt:Tr (Nat × Nat × Value)} {tb:Tab} {ka:Nat→Nat→Bool}
variable {M:Mp} {a:Act} {w:World} {o:Oper} {av:AV} {vs:List AV} {h:Tr Bk}
theorem FL.one {α β:Type} {R:α→β→Prop} {x:List α} {b:β}:FL R x [b]→∃ a,x=[a]∧R a b:=by
 intro k
 match x,k with
 | [a],k=>exact ⟨a,rfl,k.1⟩
 | _ :: _ :: _,k=>exact k.2.elim
theorem Ia (T:TOK P tt mt tb ka) (hh:Hp M h w) {t:Nat} {x:V1} {y:Operand} {args:Array Operand} {lR:Array TypeId} (e:pLen tt mt t x h=some av) (ho:o.op=.call ⟨.builtin .len,args,lR⟩) (ha:args=#[y]) (hb:lR=#[t]) (hv:VV M x (a.eval y)):Yd P M a w o av:=by
 subst ha hb
 unfold pLen at e
 split at e
 ·rename_i sz oS z ag el ht
  have hu:P.underlying t=some (.slice el):=iL T (by simp [jA,ht])
  split at e
  ·rename_i i off m n
   obtain ⟨b,s,N,cap,ad,_,h2,_⟩:=hv
   cases e
   exact ⟨_,by simp [execOp,ho,resolve,invoke,builtin,h2,Builtin.len_,run_underlying hu,goInt],rfl⟩
  ·rename_i v
   replace e:=fw e
   obtain ⟨hc,e⟩:=e
   cases e
   have h2:a.eval y=.slice none 0 0:=by rw [← kf hc]; exact hv
   exact ⟨_,by simp [execOp,ho,resolve,invoke,builtin,h2,Builtin.len_,run_underlying hu,goInt],rfl⟩
  ·cases e
 ·rename_i sz oS z ag ht
  obtain ⟨inf,d,zv,wC,hd,hz,hs,jz,iS,fG,_,_,_,_,gP,_⟩:=bl (T.t _ _ ht)
  rw [gP rfl] at hd
  split at e
  ·rename_i s
   cases e
   have h2:a.eval y=.string s:=hv
   exact ⟨_,by simp [execOp,ho,resolve,invoke,builtin,h2,Builtin.len_,run_underlying hd,goInt],rfl⟩
  ·cases e
 ·split at e
  ·rename_i q s hm
   obtain ⟨hu,_⟩:=T.m _ q.1 q.2.1 q.2.2 hm
   split at e
   ·rename_i es Ux
    cases e
    rcases tD Ux hh hv with ⟨rfl,h2⟩ | ⟨b,arr,k,h2,h3,h4⟩
    ·exact ⟨_,by simp [execOp,ho,resolve,invoke,builtin,h2,Builtin.len_,run_underlying hu,goInt],rfl⟩
    ·have hl:es.length=arr.size:=by simpa using h4.len
     exact ⟨.int .i64 arr.size,by simp [execOp,ho,resolve,invoke,builtin,h2,Builtin.len_,run_underlying hu,goInt,MapKept.run_getObj_map h3],by rw [hl]; exact (rfl:_=_)⟩
   ·cases e
  ·cases e
theorem oR {x:V1} {l:List S} {v:Value} (e:cellsOf x=some l) (hv:VV M x v):VL M l v.cells.toList:=by
 cases x with
 | g q =>
  obtain ⟨us,rfl,hu⟩:=hv
  simp only [cellsOf] at e
  replace e:=fw e
  obtain ⟨_,e⟩:=e
  cases e
  exact hu
 | s s =>
  simp only [cellsOf] at e
  replace e:=fw e
  obtain ⟨hc,e⟩:=e
  cases e
  have one:v.cells=#[v]→VL M [s] v.cells.toList:=fun q=>by rw [q]; exact ⟨hv,trivial⟩
  apply one
  cases s with
  | v y =>
   have:v=y:=hv
   subst this
   cases v <;> first | rfl | simp [Fo] at hc
  | p i o=>obtain ⟨b,s,N,_,rfl⟩:=hv; rfl
  | sl i o m n=>obtain ⟨b,s,N,cap,ad,_,rfl,_⟩:=hv; rfl
  | m i=>obtain ⟨b,_,rfl⟩:=hv; rfl
  | c i=>obtain ⟨_,p,q,r,rfl⟩:=hv; rfl
theorem oX:∀ {l:List Operand} {vs:List AV} {q:List V1},JT vs=some q→OR M a l vs→FL (fun v x=>VV M v (a.eval x)) q l
 | [],[],q,e,_=>by cases e; trivial
 | x :: l,.o v :: vs,q,e,h=>by
  simp only [JT] at e
  split at e
  ·rename_i q' hq
   cases e
   exact ⟨h.1,oX hq h.2⟩
  ·cases e
 | x :: l,.t _ :: vs,q,e,h=>by simp [JT] at e
 | [],_ :: _,_,_,h=>h.elim
 | _ :: _,[],_,_,h=>h.elim
theorem qQ:∀ {l:List Operand} {q:List V1} {cs:List (List S)},tJ q=some cs→FL (fun v x=>VV M v (a.eval x)) q l→FL (fun c x=>VL M c (a.eval x).cells.toList) cs l
 | [],[],cs,e,_=>by cases e; trivial
 | x :: l,v :: q,cs,e,h=>by
  simp only [tJ] at e
  split at e
  ·rename_i c q' hc hq
   cases e
   exact ⟨oR hc h.1,qQ hq h.2⟩
  ·cases e
 | [],_ :: _,_,_,h=>h.elim
 | _ :: _,[],_,_,h=>h.elim
theorem pU (place:Nat→Option (Nat × Nat)):∀ (ps:List (Nat × Operand)) (cs:List (List S)) (z r:List S) (zv:List Value),FL (fun c x=>VL M c (a.eval x).cells.toList) cs (ps.map (·.2))→VL M z zv→vb place ((ps.map (·.1)).zip cs) z=some r →
  ∃ rv,nb place (ps.map (fun q=>(q.1,a.eval q.2))) zv=some rv∧VL M r rv
 | [],cs,z,r,zv,_,hz,e=>by
  cases e
  exact ⟨zv,rfl,hz⟩
 | p :: ps,c :: cs,z,r,zv,h,hz,e=>by
  obtain ⟨i,x⟩:=p
  obtain ⟨h1,h2⟩:=h
  simp only [List.map_cons,List.zip_cons_cons,vb] at e
  split at e
  ·rename_i off size hp
   replace e:=Q9 e
   obtain ⟨hc,e⟩:=e
   rw [Bool.and_eq_true] at hc
   have hl:c.length=(a.eval x).cells.size:=by simpa using h1.len
   have Ol:=hz.len
   have g1:=Nat.eq_of_beq_eq_true hc.1
   have g2:=Nat.le_of_ble_eq_true hc.2
   obtain ⟨rv,k1,k2⟩:=pU place ps cs _ r (zv.take off++(a.eval x).cells.toList++zv.drop (off+size)) h2 (((hz.take off).app h1).app (hz.drop (off+size))) e
   refine ⟨rv,?_,k2⟩
   simp only [List.map_cons,nb,hp]
   rw [show (Nat.beq (a.eval x).cells.size size && Nat.ble (off+size) zv.length)=true by
    rw [Bool.and_eq_true]; exact ⟨by rw [← hl,g1]; simp,by rw [← Ol]; exact hc.2⟩]
   exact k1
  ·cases e
 | _ :: _,[],_,_,_,h,_,_=>h.elim
theorem rX (l:List Value):VL M (l.map .v) l:=by
 have:=FL.map (R:=VS M) (f:=S.v) (g:=id) (fun c=>rfl) l
 simpa using this
theorem nE (ps:Array (Nat × Operand)):(ps.map fun (i,x)=>(i,a.eval x)).toList=ps.toList.map (fun q=>(q.1,a.eval q.2)):=by simp
theorem C7 (T:TOK P tt mt tb ka) {t:Nat} {ps:Array (Nat × Operand)} (e:pBuild tt t ps vs=some av) (ho:o.op=.build t ps) (hv:OR M a (ps.toList.map (·.2)) vs):Yd P M a w o av:=by
 unfold pBuild at e
 split at e
 ·rename_i ty q ht hq
  split at e
  ·rename_i cs Du
   have hc:=qQ Du (oX hq hv)
   obtain ⟨i,d,zv,hi,hd,hz,hs,jz,iS,fG,gP,Gx,_⟩:=bl (T.t _ _ ht)
   have hzero:(zeroValue t).run P w=.ok zv w:=by simp [zeroValue,typeInfo,hi,hz]
   have jc:zv.cells=ty.zero.toArray:=by rw [← iS]
   split at e
   ·rename_i fs MX
    obtain ⟨l,rfl,hm⟩:=gP fs MX
    split at e
    ·rename_i r hr
     cases e
     obtain ⟨rv,k1,k2⟩:=pU _ _ _ _ _ _ hc (rX ty.zero) hr
     have kU:=iD _ _ _ _ k1
     have Ad:=rh (P:=P) (w:=w) hm
     have IU:(fun (i:Nat)=>(List.map (fun q:Nat × Nat × Nat=>(q.1,q.2.1)) fs).toArray[i]?)=(fun (i:Nat)=>(fs[i]?).map (fun q:Nat × Nat × Nat=>(q.1,q.2.1))):=by
      funext i; simp
     exact ⟨.agg rv.toArray,by simp only [execOp,ho,Instr.build,Sem.run_bind,hzero,Result.andThen_ok,run_underlying hd,Ad,Sem.run_pure,nE,jc,IU,kU],rv,rfl,k2⟩
    ·cases e
   ·rename_i n el es MX
    obtain ⟨rfl,j,hj,rfl⟩:=Gx _ _ _ MX
    split at e
    ·rename_i r hr
     cases e
     obtain ⟨rv,k1,k2⟩:=pU _ _ _ _ _ _ hc (rX ty.zero) hr
     have kU:=iD _ _ _ _ k1
     exact ⟨.agg rv.toArray,by simp only [execOp,ho,Instr.build,Sem.run_bind,hzero,Result.andThen_ok,run_underlying hd,Sv.run_sizeOf hj,Sem.run_pure,nE,jc,kU],rv,rfl,k2⟩
    ·cases e
   ·cases e
  ·cases e
 ·cases e
theorem Bi (T:TOK P tt mt tb ka) (hh:Hp M h w) (hn:∀ t,.tmp t∈fW o.op→t < a.tmps.size) (hd:a.defers=[]) (e:qY P tt mt tb ka o vs h=some av) (hv:OR M a (fW o.op) vs):Yd P M a w o av:=by
 cases ho:o.op <;> simp only [qY,ho] at e <;> try (cases e; done)
 all_goals have mM:=hv
 all_goals rw [ho] at mM
 case move x=>exact xG e (.inl ho) mM
 case assign x=>exact xG e (.inr ho) mM
 case pick=>exact Fc e ho mM
 case build=>exact C7 T e ho mM
 case load=>exact Ff T hh e ho mM
 case nilCheck=>exact H9 e ho mM
 case binOp=>exact Ib T hn hd e ho hv
 case unOp=>exact LL T hn hd e ho hv
 case convert=>exact kp T hn hd e hv
 case slice=>exact C2 T e ho hv
 case fieldAddr=>exact zF T e ho mM
 case field=>exact C5 T e ho mM
 case indexAddr=>exact zE T e ho mM
 case index=>exact C3 T e ho mM
 case lookup=>exact Fe T hh e ho mM
 case extract=>exact xH e ho mM
 case call c =>
  obtain ⟨callee,args,lR⟩:=c
  cases callee with
  | value f=>cases e
  | invoke r m=>cases e
  | builtin b =>
   simp only [pCall] at e
   cases b <;> simp only [pBlt] at e <;> try (cases e; done)
   case len =>
    split at e
    ·rename_i t x Ah
     have hb:lR=#[t]:=by rw [← Array.toArray_toList (xs:=lR),Ah]
     obtain ⟨y,hy,Zi⟩:=FL.one mM
     have ha:args=#[y]:=by rw [← Array.toArray_toList (xs:=args),show args.toList=[y] from hy]
     exact Ia T hh e ho ha hb Zi
    ·cases e
   case min=>exact kp T hn hd e hv
   case max=>exact kp T hn hd e hv
end
end Go.Ex
namespace Go.Ex
open Go Go.Sv
section
variable {P:Program} {tt:Tr TyS} {mt:Tr (Nat × Nat × Value)} {tb:Tab} {ka:Nat→Nat→Bool}
variable {M:Mp} {a:Act} {w:World} {o:Oper} {av:AV} {vs:List AV} {h:Tr Bk}
def ki (M:Mp) (k:Nat) (en:En):Mp:=fun i=>if i=k then some en else M i
theorem gK {k:Nat} {en:En} (h:M k=none):Le M (ki M k en):=fun i e hi=>by
 unfold ki
 split
 ·rename_i q; subst q; rw [h] at hi; cases hi
 ·exact hi
theorem eJ (M:Mp) (k:Nat) (en:En):ki M k en k=some en:=by simp [ki]
theorem dB (M:Mp) {k i:Nat} (en:En) (h:i≠k):ki M k en i=M i:=by simp [ki,h]
def Mk (P:Program) (M:Mp) (a:Act) (w:World) (o:Oper) (f:Nat→S) (b:Bk) (k:Nat):Prop:=∃ v en w',(execOp a.eval o).run P w=.ok (.value v) w' ∧
 ((w'=w∧en.blk=none)∨∃ ob,w'=w.alloc ob∧en.blk=some w.heap.size)∧VS (ki M k en) (f k) v∧BR (ki M k en) w' en b
theorem Mk.cells {t k:Nat} {f:Nat→S} {l:List S} {arr:Array Value} {v:Value} (hM:M k=none) (run:(execOp a.eval o).run P w=.ok (.value v) (w.alloc (.cells arr t)))
  (hl:VL M l arr.toList) (hv:VS (ki M k (.b w.heap.size 0 arr.size)) (f k) v):Mk P M a w o f (.c l) k:=by
 refine ⟨v,.b w.heap.size 0 arr.size,_,run,.inr ⟨_,rfl,rfl⟩,hv,arr,t,heap_alloc_new w _,by simp,by have:=hl.len; simp at this; omega,?_⟩
 have hlen:=hl.len
 rw [List.drop_zero,hlen,List.take_length]
 exact hl.mono fun _ _=>VS.mono (gK hM)
theorem Dd (T:TOK P tt mt tb ka) {t k:Nat} {f:Nat→S} {b:Bk} (hM:M k=none) (e:nAlloc tt t=some (f,b)) (ho:o.op=.alloc t):Mk P M a w o f b k:=by
 unfold nAlloc at e
 split at e
 ·rename_i ty ht
  cases e
  obtain ⟨i,d,z,hi,hd,hz,hs,jz,iS,_⟩:=bl (T.t _ _ ht)
  refine Mk.cells (t:=t) (arr:=z.cells) (v:=.pointer (some ⟨w.heap.size,0,none⟩)) hM ?_ (by rw [iS]; exact rX _) ⟨w.heap.size,0,z.cells.size,eJ _ _ _,rfl⟩
  simp [execOp,ho,Instr.alloc,zeroValue,typeInfo,hi,hz,newVar,newRow]
 ·cases e
theorem Im {t k:Nat} {x:Operand} {f:Nat→S} {b:Bk} (hM:M k=none) (e:nBox vs=some (f,b)) (ho:o.op=.box t x) (hv:OR M a [x] vs):Mk P M a w o f b k:=by
 unfold nBox at e
 split at e
 ·split at e
  ·rename_i l hl
   cases e
   refine Mk.cells (t:=t) (arr:=(a.eval x).cells) (v:=.pointer (some ⟨w.heap.size,0,none⟩)) hM ?_ (oR hl hv.one) ⟨w.heap.size,0,_,eJ _ _ _,rfl⟩
   simp [execOp,ho,Instr.box,newVar,newRow]
  ·cases e
 ·cases e
theorem w6 (T:TOK P tt mt tb ka) {t n m oS:Nat} {l:List S} (e:AW tt t n=some (m,oS,l)):∃ el i z,P.underlying t=some (.slice el)∧P.info? el=some i∧i.zero=some z∧i.size=m∧i.bytes=oS∧VL M l (madeCells z.cells (n * m)).toList:=by
 unfold AW at e
 split at e
 ·rename_i el gd
  split at e
  ·rename_i ty ht
   replace e:=fw e
   obtain ⟨hc,e⟩:=e
   have hc:=Nat.le_of_ble_eq_true hc
   cases e
   obtain ⟨i,d,z,hi,hd,hz,hs,jz,iS,_⟩:=bl (T.t _ _ ht)
   refine ⟨el,i,z,iL T gd,hi,hz,hs,jz,?_⟩
   have:(madeCells z.cells (n * ty.size)).toList=(List.range (n * ty.size)).map (fun i=>ty.zero.getD (i % ty.zero.length) undef):=by
    apply List.ext_getElem?
    intro j
    have gB:z.cells.size=ty.zero.length:=by rw [← iS,Array.length_toList]
    by_cases hj:j < n * ty.size
    ·have eS:j % ty.zero.length < z.cells.size:=by rw [gB]; exact Nat.mod_lt _ (by omega)
     have PV:j % ty.zero.length < ty.zero.length:=by omega
     have key:∀ (zz:Array Value) (i:Nat),i < zz.size→zz[i]! = zz.toList.getD i undef:=by
      intro zz i h
      rw [getElem!_pos zz i h,List.getD_eq_getElem?_getD,Array.getElem?_toList,Array.getElem?_eq_getElem h]; rfl
     have e1:=key z.cells _ eS
     rw [iS] at e1
     rw [← gB] at e1
     rw [Array.getElem?_toList,List.getElem?_map,List.getElem?_range hj]
     simp only [madeCells,Array.getElem?_map,Array.getElem?_range,hj,if_true,Option.map_some,gB]
     rw [← gB]
     exact congrArg some e1
    ·have h1:n * ty.size≤j:=by omega
     simp [madeCells,h1]
   rw [this]
   exact rX _
  ·cases e
 ·cases e
theorem zI (T:TOK P tt mt tb ka) {t len k:Nat} {ps:Array (Nat × Operand)} {f:Nat→S} {b:Bk} (hM:M k=none) (e:nBuildS tt t len ps vs=some (f,b)) (ho:o.op=.buildSlice t len ps) (hv:OR M a (ps.toList.map (·.2)) vs):Mk P M a w o f b k:=by
 unfold nBuildS at e
 split at e
 ·rename_i m oS z0 q Hv hq
  split at e
  ·rename_i cs Du
   split at e
   ·rename_i r hr
    replace e:=fw e
    obtain ⟨hc,e⟩:=e
    rw [Bool.and_eq_true] at hc
    have hb:=Nat.le_of_ble_eq_true hc.1
    cases e
    obtain ⟨el,i,z,hu,hi,hz,hs,jz,Pp⟩:=w6 (M:=M) T Hv
    obtain ⟨rv,k1,k2⟩:=pU _ _ _ _ _ _ (qQ Du (oX hq hv)) Pp hr
    have kU:=iD _ _ _ _ k1
    rw [Array.toArray_toList] at kU
    have Zq:=k2.len
    refine Mk.cells (t:=el) (arr:=rv.toArray) (v:=.slice (some ⟨w.heap.size,0,none⟩) len len) hM ?_ (by simpa using k2) ?_
    ·have PU:¬ (len * m > 2 ^ 24):=by omega
     have Gk:(Instr.buildSlice t len (ps.map fun (i,x)=>(i,a.eval x))).run P w=.ok (.slice (some ⟨w.heap.size,0,none⟩) len len) (w.alloc (.cells rv.toArray el)):=by
      by_cases h0:len * m=0
      ·have Uj:∀ (zz:Array Value),(Array.range (len * m)).map (zz[· % zz.size]!)=madeCells z.cells (len * m):=fun zz=>by rw [h0]; simp [madeCells]
       simp only [Instr.buildSlice,Sem.run_bind,run_underlying hu,Result.andThen_ok,Sv.run_sizeOf hi,hs,nE,if_neg PU,if_pos h0,Sem.run_pure,Uj,kU]
       rfl
      ·have Uj:(Array.range (len * m)).map (z.cells[· % z.cells.size]!)=madeCells z.cells (len * m):=rfl
       simp only [Instr.buildSlice,Sem.run_bind,run_underlying hu,Result.andThen_ok,Sv.run_sizeOf hi,hs,nE,if_neg PU,if_neg h0,Sem.run_pure,zeroValue,typeInfo,run_program,hi,hz,Uj,kU]
       rfl
     simp only [execOp,ho,Sem.run_bind,Gk,Result.andThen_ok,Sem.run_pure]
    ·have P8:∀ (ps:List (Nat × Value)) (cs r:List Value),nb (fun i=>some (i * m,m)) ps cs=some r→r.length=cs.length:=by
      intro ps
      induction ps with
      | nil=>intro cs r e; cases e; rfl
      | cons p ps ih =>
       intro cs r e
       obtain ⟨i,v⟩:=p
       simp only [nb] at e
       replace e:=fw e
       obtain ⟨hc,e⟩:=e
       rw [Bool.and_eq_true] at hc
       have h1:=Nat.eq_of_beq_eq_true hc.1
       have h2:=Nat.le_of_ble_eq_true hc.2
       rw [ih _ _ e]
       simp [h1]
       omega
     have:=P8 _ _ _ k1
     refine ⟨w.heap.size,0,_,len,⟨w.heap.size,0,none⟩,eJ _ _ _,rfl,Nat.le_refl _,.inl ⟨rfl,?_⟩⟩
     simp [this,size_madeCells]
   ·cases e
  ·cases e
 ·cases e
theorem FL.split {α β γ:Type} {R:α→γ→Prop} {g:β→γ} {x y:List β} {q:List α} (h:FL (fun v b=>R v (g b)) q (x++y)):FL R (q.take x.length) (x.map g)∧FL R (q.drop x.length) (y.map g):=by
 have conv:∀ {q:List α} {l:List β},FL (fun v b=>R v (g b)) q l→FL R q (l.map g):=by
  intro q
  induction q with
  | nil=>intro l h; cases l with
   | nil=>trivial
   | cons _ _=>exact h.elim
  | cons a q ih=>intro l h; cases l with
   | nil=>exact h.elim
   | cons b l=>exact ⟨h.1,ih h.2⟩
 have h1:=h.take x.length
 have h2:=h.drop x.length
 rw [List.take_left] at h1
 rw [List.drop_left] at h2
 exact ⟨conv h1,conv h2⟩
theorem FA {fn:Fn} {k:Nat} {p q:Array Operand} {f:Nat→S} {b:Bk} (hM:M k=none) (e:nFunc fn p.size vs=some (f,b)) (ho:o.op=.makeFunc fn p q) (hv:OR M a (p.toList++q.toList) vs):Mk P M a w o f b k:=by
 unfold nFunc at e
 split at e
 ·rename_i g us Sc
  cases e
  have:=(oX Sc hv).split (R:=VV M) (g:=a.eval)
  rw [Array.length_toList] at this
  refine ⟨.func (.func g) (p.map a.eval) (q.map a.eval),.f (.func (.func g) (p.map a.eval) (q.map a.eval)),w,?_,.inl ⟨rfl,rfl⟩,⟨eJ _ _ _,_,_,_,rfl⟩,p.toList.map a.eval,q.toList.map a.eval,by simp [← Array.toList_map],?_,?_⟩
  ·simp [execOp,ho,Instr.makeFunc]
  ·exact this.1.mono fun _ _=>VV.mono (gK hM)
  ·exact this.2.mono fun _ _=>VV.mono (gK hM)
 ·cases e
theorem Il (T:TOK P tt mt tb ka) {t k:Nat} {r:Option Operand} {f:Nat→S} {b:Bk} (hM:M k=none) (e:nMap mt t vs=some (f,b)) (ho:o.op=.makeMap t r) (hv:OR M a r.toList vs):Mk P M a w o f b k:=by
 have fin:(execOp a.eval o).run P w=.ok (.value (.map (some w.heap.size))) (w.alloc (.map #[] 0))→Mk P M a w o (fun k=>.m k) (.m [] 0) k:=fun run =>
  ⟨_,.m w.heap.size,_,run,.inr ⟨_,rfl,rfl⟩,⟨w.heap.size,eJ _ _ _,rfl⟩,#[],heap_alloc_new w _,trivial⟩
 unfold nMap at e
 split at e
 ·cases e
  cases r with
  | some _=>exact hv.elim
  | none=>exact fin (by simp [execOp,ho,Instr.makeMap])
 ·rename_i kk n
  split at e
  ·rename_i q hm
   cases e
   obtain ⟨hu,_⟩:=T.m _ q.1 q.2.1 q.2.2 hm
   cases r with
   | none=>exact hv.elim
   | some y =>
    have hy:a.eval y=.int kk n:=hv.1
    exact fin (by simp [execOp,ho,Instr.makeMap,hy,run_underlying hu,asInt]; rfl)
  ·cases e
 ·cases e
theorem Fz (T:TOK P tt mt tb ka) {t k:Nat} {x y:Operand} {f:Nat→S} {b:Bk} (hM:M k=none) (e:nMake tt t vs=some (f,b)) (ho:o.op=.makeSlice t x y) (hv:OR M a [x,y] vs):Mk P M a w o f b k:=by
 unfold nMake at e
 split at e
 ·obtain ⟨hx,hy⟩:=hv.two
  split at e
  ·rename_i n c hn hc
   obtain ⟨kl,hx⟩:=kB hn hx
   obtain ⟨kc,hy⟩:=kB hc hy
   replace e:=fw e
   obtain ⟨x4,e⟩:=e
   rw [Bool.and_eq_true] at x4
   have:=Nat.eq_of_beq_eq_true x4.1
   subst this
   have hk:=Nat.le_of_ble_eq_true x4.2
   split at e
   ·rename_i m oS z0 Hv
    replace e:=fw e
    obtain ⟨lz,e⟩:=e
    rw [Bool.and_eq_true] at lz
    have aad:=Nat.le_of_ble_eq_true lz.1
    cases e
    obtain ⟨el,i,z,hu,hi,hz,hs,jz,Pp⟩:=w6 (M:=M) T Hv
    have hb:(i.bytes:Int) * (n:Int)≤281474976710656:=by
     have:i.bytes * n≤1000 * 1000:=Nat.mul_le_mul (by omega) hk
     rw [← Int.natCast_mul]
     exact Int.le_trans (Int.ofNat_le.mpr this) (by decide)
    have h63:(Int.ofNat n)≤9223372036854775807:=Int.le_trans (Int.ofNat_le.mpr hk) (by decide)
    have hr:=run_make (P:=P) w t el i z hu hi hz kl kc (.ofNat n) (.ofNat n) (Int.natCast_nonneg n) (Int.le_refl _) hb h63
    refine Mk.cells (t:=el) (arr:=madeCells z.cells (n * m)) (v:=.slice (some ⟨w.heap.size,0,none⟩) n n) hM ?_ Pp ?_
    ·rw [hs] at hr
     simp only [Int.ofNat_eq_natCast,Int.toNat_natCast] at hr hx hy
     simp [execOp,ho,hx,hy,hr]
    ·exact ⟨w.heap.size,0,_,n,⟨w.heap.size,0,none⟩,eJ _ _ _,rfl,Nat.le_refl _,.inl ⟨rfl,by rw [size_madeCells,Nat.zero_add]; exact Nat.le_refl _⟩⟩
   ·cases e
  ·cases e
 ·cases e
theorem Fy (T:TOK P tt mt tb ka) {k:Nat} {f:Nat→S} {b:Bk} (hM:M k=none) (e:rI tt mt o vs=some (f,b)) (hv:OR M a (fW o.op) vs):Mk P M a w o f b k:=by
 cases ho:o.op <;> simp only [rI,ho] at e <;> try (cases e; done)
 all_goals rw [ho] at hv
 case alloc=>exact Dd T hM e ho
 case box=>exact Im hM e ho hv
 case buildSlice=>exact zI T hM e ho hv
 case makeFunc=>exact FA hM e ho hv
 case makeMap=>exact Il T hM e ho hv
 case makeSlice=>exact Fz T hM e ho hv
theorem Rel.FE {w0:World} {z:Z} (R:Rel w0 M z w) {k:Nat} {en:En} {w':World} (hM:M k=none) (hk:k < z.n) {b:Bk} (hb:∀ x,get z.h k=some x→x=b) (hw:(w'=w∧en.blk=none)∨∃ ob,w'=w.alloc ob∧en.blk=some w.heap.size) (hB:BR (ki M k en) w' en b) :
  Rel w0 (ki M k en) z w':=by
 have hold:∀ j,j < w.heap.size→w'.heap[j]?=w.heap[j]?:=by
  rcases hw with ⟨rfl,_⟩ | ⟨ob,rfl,_⟩
  ·exact fun _ _=>rfl
  ·exact fun j hj=>heap_alloc_old w ob hj
 have Eb:∀ x,en.blk=some x→x=w.heap.size:=by
  rcases hw with ⟨_,h⟩ | ⟨ob,_,h⟩
  ·intro x hx; rw [h] at hx; cases hx
  ·intro x hx; rw [h] at hx; cases hx; rfl
 have hp:Hp (ki M k en) z.h w':=by
  intro i x e h1 h2
  by_cases xZ:i=k
  ·subst xZ
   rw [eJ] at h2
   cases h2
   rw [hb x h1]
   exact hB
  ·rw [dB _ _ xZ] at h2
   have:=R.hp i x e h1 h2
   exact this.mono (gK hM) (fun b hb=>hold b (this.lt hb))
 have eS:∀ i x e b,get z.h i=some x→M i=some e→e.blk=some b→b < w.heap.size:=fun i x e b h1 h2 h3=>(R.hp i x e h1 h2).lt h3
 refine ⟨?_,?_,?_,?_,?_,?_,?_,?_,hp⟩
 ·rcases hw with ⟨rfl,_⟩ | ⟨ob,rfl,_⟩ <;> exact R.os
 ·rcases hw with ⟨rfl,_⟩ | ⟨ob,rfl,_⟩ <;> exact R.tape
 ·rcases hw with ⟨rfl,_⟩ | ⟨ob,rfl,_⟩ <;> exact R.output
 ·refine Nat.le_trans R.size ?_
  rcases hw with ⟨rfl,_⟩ | ⟨ob,rfl,_⟩
  ·exact Nat.le_refl _
  ·show w.heap.size≤(w.heap.push ob).size
   rw [Array.size_push]; omega
 ·intro j hj
  rw [hold j (Nat.lt_of_lt_of_le hj R.size)]
  exact R.old j hj
 ·intro i hi
  rw [dB _ _ (by omega)]
  exact R.nx i hi
 ·intro i e b h1 h2
  by_cases xZ:i=k
  ·subst xZ
   rw [eJ] at h1
   cases h1
   rw [Eb b h2]
   exact R.size
  ·rw [dB _ _ xZ] at h1
   exact R.fresh i e b h1 h2
 ·intro i j x y e e' b hi hj h1 h2 h3 h4
  by_cases xZ:i=k <;> by_cases Dn:j=k
  ·rw [xZ,Dn]
  ·subst xZ
   rw [eJ] at h1
   rw [dB _ _ Dn] at h2
   cases h1
   have:=eS j y e' b hj h2 h4
   rw [Eb b h3] at this
   omega
  ·subst Dn
   rw [eJ] at h2
   rw [dB _ _ xZ] at h1
   cases h2
   have:=eS i x e b hi h1 h3
   rw [Eb b h4] at this
   omega
  ·rw [dB _ _ xZ] at h1
   rw [dB _ _ Dn] at h2
   exact R.inj i j x y e e' b hi hj h1 h2 h3 h4
theorem Rel.promise {w0:World} {z:Z} (R:Rel w0 M z w) (b:Bk):Rel w0 M (new z b) w:=by
 have hn:M z.n=none:=R.nx z.n (Nat.le_refl _)
 have old:∀ i x e,get (new z b).h i=some x→M i=some e→get z.h i=some x:=by
  intro i x e h1 h2
  rcases jd _ _ _ _ _ _ (show get (set depth z.h z.n (some b)) i=some x from h1) with ⟨rfl,_⟩ | ⟨_,h⟩
  ·rw [hn] at h2; cases h2
  ·exact h
 refine ⟨R.os,R.tape,R.output,R.size,R.old,fun i hi=>R.nx i (by have:z.n+1≤i:=hi; omega),R.fresh,?_,?_⟩
 ·intro i j x y e e' b hi hj h1 h2 h3 h4
  exact R.inj i j x y e e' b (old _ _ _ hi h1) (old _ _ _ hj h2) h1 h2 h3 h4
 ·intro i x e h1 h2
  exact R.hp i x e (old _ _ _ h1 h2) h2
end
end Go.Ex
