/- The evaluator is sound. Conditions: in each lemma. -/
import Derived.Test.YtobeanopikjkeaaGreatExK
set_option linter.all false
namespace Go.Ex
open Go Go.Sv
section
variable {P:Program} {tt:Tr TyS} {mt:Tr (Nat × Nat × Value)} {tb:Tab} {ka:Nat→Nat→Bool}
variable {M:Mp} {a:Act} {w w0:World} {o:Oper} {av:AV} {vs:List AV} {z z':Z} {r r':R} {nt:Nat}
variable {idx:FuncId→Bool} {call:FuncId→List V1→Z→Ld} {Q:Exit→Act→World→Prop}
theorem GI (h:RR nt M r a):∀ {l:List Operand} {vs:List AV},evs r l=some vs→∀ t,.tmp t∈l→t < a.tmps.size
 | [],_,_,t,ht=>by cases ht
 | x :: l,vs,e,t,ht=>by
  rw [tC] at e
  cases h1:ev r x with
  | none=>rw [h1] at e; cases e
  | some av =>
   cases h2:evs r l with
   | none=>rw [h1,h2] at e; cases e
   | some q =>
    rcases List.mem_cons.1 ht with rfl | ht
    ·obtain ⟨v,g,_⟩:=h.bc t av h1
     exact (Array.getElem?_eq_some_iff.1 g).1
    ·exact GI h h2 t ht
theorem GA {all:List Oper} (h:RR nt M r a) {b:Bool} (e:guardE all r o.guard=some b):Region.wanted o (yielded all.toArray a.tmps)=b:=by
 cases hg:o.guard with
 | none=>rw [hg] at e; cases e; simp [Region.wanted,hg]
 | some q =>
  obtain ⟨j,want⟩:=q
  rw [hg] at e
  replace e:gD r want all[j]?=some b:=e
  cases BW:all[j]? with
  | none=>rw [BW] at e; cases e
  | some o' =>
   rw [BW] at e
   simp only [gD] at e
   cases hd:o'.dst with
   | none=>rw [hd] at e; cases e
   | some d =>
    rw [hd] at e
    simp only at e
    cases lL:get r d with
    | none=>rw [lL] at e; cases e
    | some av =>
     rw [lL] at e
     obtain ⟨v,h1,h2⟩:=h.bc d _ lL
     match av,e,h2 with
     | .o (.s (.v (.bool b'))),e,h2 =>
      have h2:v=.bool b':=h2
      subst h2
      cases e
      have hy:yielded all.toArray a.tmps j=some b':=by simp [yielded,BW,hd,h1]
      simp only [Region.wanted,hg,hy]
      rfl
     | .t [],e,⟨vs,h2,h3⟩ =>
      have:vs=[]:=by cases vs with
       | nil=>rfl
       | cons _ _=>exact h3.elim
      subst this
      subst h2
      cases e
      have hy:yielded all.toArray a.tmps j=none:=by simp [yielded,BW,hd,h1]
      simp only [Region.wanted,hg,hy]
      rfl
def St' (w0:World) (nt:Nat) (M:Mp) (z:Z) (r':R) (z':Z) (a':Act) (w':World):Prop:=∃ M',Ext z M z' M'∧RR nt M' r' a'∧Rel w0 M' z' w'
theorem St'.trans {M1:Mp} {z1:Z} {a':Act} {w':World} (e:Ext z M z1 M1) (h:St' w0 nt M1 z1 r' z' a' w'):St' w0 nt M z r' z' a' w' :=
 let ⟨M',h1,h2,h3⟩:=h; ⟨M',e.trans h1,h2,h3⟩
structure OK (P:Program) (tt:Tr TyS) (mt:Tr (Nat × Nat × Value)) (tb:Tab) (ka:Nat→Nat→Bool) (idx:FuncId→Bool) (call:FuncId→List V1→Z→Ld):Prop where
 t:TOK P tt mt tb ka
 i:vy P idx
 c:oY P call
 m:P.follows .mixedOrders=true
theorem HV (O:OK P tt mt tb ka idx call) (h:RR nt M r a) (R:Rel w0 M z w) {all:List Oper} (e:xn P tt mt tb ka idx call nt all o r z=some (r',z')) {K:Act→World→Prop} (k:∀ a' w',St' w0 nt M z r' z' a' w'→K a' w') :
  if Region.wanted o (yielded all.toArray a.tmps) then o.wp P a w K Q∨(o.asks P a w∧LetsOut Q) else K (a.put o.dst undef) w:=by
 unfold xn stepG at e
 split at e
 ·rename_i b hb
  have hw:=GA h hb
  cases b with
  | true =>
   rw [if_pos hw]
   refine .inl ?_
   cases he:evs r (fW o.op) with
   | none=>rw [he] at e; cases e
   | some vs =>
    cases ho:oneE P tt mt tb ka idx call o vs z with
    | none=>simp only [he,LH,ho] at e; cases e
    | some q =>
     obtain ⟨v,z1⟩:=q
     simp only [he,LH,ho] at e
     have e:putE' nt r z1 o.dst v=some (r',z'):=e
     refine Fm O.t O.i O.c R (GI h he) h.defers ho (GJ h he) (fun u w' M' h1 h2 h3=>?_)
     obtain ⟨rfl,h4⟩:=(h.mono h1.le).put e h2
     exact k _ _ ⟨M',h1,h4,h3⟩
  | false =>
   rw [if_neg (by rw [hw]; simp)]
   have e:putE' nt r z o.dst (.t [])=some (r',z'):=e
   obtain ⟨rfl,h4⟩:=h.put e (v:=undef) ⟨[],rfl,trivial⟩
   exact k _ _ ⟨M,Ext.refl _ _,h4,R⟩
 ·cases e
theorem Bg (O:OK P tt mt tb ka idx call) {all:List Oper}:∀ (l:List Oper) {M:Mp} {a:Act} {w:World} {r:R} {z:Z},RR nt M r a→Rel w0 M z w→H5 P tt mt tb ka idx call nt all l r z=some (r',z')→(∀ a' w',St' w0 nt M z r' z' a' w'→Q .normal a' w')→wpList P all.toArray Q l a w
 | [],M,a,w,r,z,h,R,e,k=>by
  cases e
  exact k a w ⟨M,Ext.refl _ _,h,R⟩
 | o :: l,M,a,w,r,z,h,R,e,k=>by
  have e:regK (H5 P tt mt tb ka idx call nt all l) (xn P tt mt tb ka idx call nt all o r z)=some (r',z'):=e
  cases hs:xn P tt mt tb ka idx call nt all o r z with
  | none=>rw [hs] at e; cases e
  | some q =>
   obtain ⟨r1,z1⟩:=q
   rw [hs] at e
   have e:H5 P tt mt tb ka idx call nt all l r1 z1=some (r',z'):=e
   unfold wpList
   refine HV O h R hs (fun a1 w1 ⟨M1,h1,h2,h3⟩=>?_)
   exact Bg O l h2 h3 e (fun a' w' h'=>k a' w' (h'.trans h1))
def np (P:Program) (tt:Tr TyS) (mt:Tr (Nat × Nat × Value)) (tb:Tab) (ka:Nat→Nat→Bool) (idx:FuncId→Bool) (call:FuncId→List V1→Z→Ld):Prop :=
 ∀ (nt:Nat) (w0:World) (M:Mp) (a:Act) (w:World) (r:R) (z:Z) (r':R) (z':Z) (id:Nat) (ops:Array Oper) (Q:Exit→Act→World→Prop),
  RR nt M r a→Rel w0 M z w→K7 P tt mt tb ka idx call nt ops.toList r z=some (r',z')→(∀ a' w',St' w0 nt M z r' z' a' w'→Q .normal a' w')→(Code.region id ops true).wp P Q a w
def ex:X→Exit
 | .n=>.normal
 | .x id=>.exit id
 | .g l=>.goto l
 | .r=>.ret
def QX (w0:World) (nt:Nat) (M:Mp) (z:Z) (x:X) (r':R) (z':Z) (e:Exit) (a':Act) (w':World):Prop:=e=ex x∧St' w0 nt M z r' z' a' w'
structure N6 (P:Program) (tt:Tr TyS) (mt:Tr (Nat × Nat × Value)) (tb:Tab) (ka:Nat→Nat→Bool) (idx:FuncId→Bool) (call:FuncId→List V1→Z→Ld) (w0:World) (nt n:Nat):Prop where
 p:∀ {c:Code} {M:Mp} {a:Act} {w:World} {r:R} {z:Z} {x:X} {r':R} {z':Z},RR nt M r a→Rel w0 M z w→fY P tt mt tb ka idx call nt n none c r z=some (x,r',z')→c.wp P (QX w0 nt M z x r' z') a w
 s:∀ {s c:Code} {M:Mp} {a:Act} {w:World} {r:R} {z:Z} {x:X} {r':R} {z':Z},RR nt M r a→Rel w0 M z w→fY P tt mt tb ka idx call nt n (some s) c r z=some (x,r',z') →
  ∀ (b:Frame) (k:List Item) (cs:List Frame),∃ e a' w',QX w0 nt M z x r' z' e a' w'∧Arrives P (lone (b.at a (.code c :: .inScope s :: k)) cs w) b k cs e a' w'
 l:∀ {c:Code} {M:Mp} {a:Act} {w:World} {r:R} {z:Z} {x:X} {r':R} {z':Z},RR nt M r a→Rel w0 M z w→fY P tt mt tb ka idx call nt n none (.loop c) r z=some (x,r',z') →
  ∀ (b:Frame) (k:List Item) (cs:List Frame),∃ e a' w',QX w0 nt M z x r' z' e a' w'∧Arrives P (lone (b.at a (.inLoop c :: k)) cs w) b k cs e a' w'
theorem QX.trans {M1:Mp} {z1:Z} {x:X} {e:Exit} {a':Act} {w':World} (h:Ext z M z1 M1) (k:QX w0 nt M1 z1 x r' z' e a' w'):QX w0 nt M z x r' z' e a' w':=⟨k.1,k.2.trans h⟩
theorem wF (O:OK P tt mt tb ka idx call) (D:np P tt mt tb ka idx call) (w0:World) (nt:Nat):∀ n,N6 P tt mt tb ka idx call w0 nt n
 | 0=>⟨fun _ _ e=>(by cases e),fun _ _ e=>(by cases e),fun _ _ e=>(by cases e)⟩
 | n+1=>by
  have ih:=wF O D w0 nt n
  have eq:∀ sc c r z,fY P tt mt tb ka idx call nt (n+1) sc c r z=codeS P tt mt tb ka idx call nt (fY P tt mt tb ka idx call nt n) sc c r z:=fun _ _ _ _=>rfl
  have round:∀ {c:Code} {M:Mp} {a:Act} {w:World} {r:R} {z:Z} {x:X} {r':R} {z':Z},RR nt M r a→Rel w0 M z w→fY P tt mt tb ka idx call nt (n+1) none (.loop c) r z=some (x,r',z') →
    ∀ (b:Frame) (k:List Item) (cs:List Frame),∃ e a' w',QX w0 nt M z x r' z' e a' w'∧Arrives P (lone (b.at a (.code c :: .inLoop c :: k)) cs w) b k cs e a' w':=by
   intro c M a w r z x r' z' h R e b k cs
   rw [eq] at e
   have e:sqK (fY P tt mt tb ka idx call nt n none (.loop c)) (fY P tt mt tb ka idx call nt n none c r z)=some (x,r',z'):=e
   cases hb:fY P tt mt tb ka idx call nt n none c r z with
   | none=>rw [hb] at e; cases e
   | some q =>
    obtain ⟨x1,r1,z1⟩:=q
    rw [hb] at e
    obtain ⟨e1,a1,w1,⟨rfl,M1,h1,h2,h3⟩,harr⟩:=ih.p h R hb b (.inLoop c :: k) cs
    cases x1 with
    | n =>
     obtain ⟨e2,a2,w2,hq,Gw⟩:=ih.l h2 h3 e b k cs
     exact ⟨e2,a2,w2,hq.trans h1,.of_steps harr Gw⟩
    | x id=>cases e; exact ⟨_,a1,w1,⟨rfl,M1,h1,h2,h3⟩,.pass (x:=.inLoop c) rfl (fun _ _=>.inl (by simp [ex])) harr⟩
    | g l=>cases e; exact ⟨_,a1,w1,⟨rfl,M1,h1,h2,h3⟩,.pass (x:=.inLoop c) rfl (fun _ _=>.inl (by simp [ex])) harr⟩
    | r=>cases e; exact ⟨_,a1,w1,⟨rfl,M1,h1,h2,h3⟩,.pass (x:=.inLoop c) rfl (fun _ _=>.inl (by simp [ex])) harr⟩
  refine ⟨?_,?_,?_⟩
  ·intro c M a w r z x r' z' h R e
   rw [eq] at e
   have e:codeC P tt mt tb ka idx call nt (fY P tt mt tb ka idx call nt n) c r z=some (x,r',z'):=e
   cases c with
   | skip=>cases e; exact wp_skip ⟨rfl,M,Ext.refl _ _,h,R⟩
   | label l=>cases e; exact wp_label ⟨rfl,M,Ext.refl _ _,h,R⟩
   | exit id=>cases e; exact wp_exit ⟨rfl,M,Ext.refl _ _,h,R⟩
   | goto l=>cases e; exact wp_goto ⟨rfl,M,Ext.refl _ _,h,R⟩
   | ret=>cases e; exact wp_ret ⟨rfl,M,Ext.refl _ _,h,R⟩
   | refuse=>cases e
   | rangeFunc=>cases e
   | region id ops dr =>
    have J4:∀ {y:Option (Go.Ex.R × Z)},outN y=some (x,r',z')→x=.n∧y=some (r',z'):=by
     intro y hy
     cases y with
     | none=>cases hy
     | some q=>cases hy; exact ⟨rfl,rfl⟩
    cases dr with
    | false =>
     obtain ⟨rfl,e2⟩:=J4 e
     refine wp_region_list ?_
     have:=Bg (Q:=QX w0 nt M z .n r' z') O ops.toList h R e2 (fun a' w' h'=>⟨rfl,h'⟩)
     simpa using this
    | true =>
     obtain ⟨rfl,e2⟩:=J4 e
     exact D nt w0 M a w r z r' z' id ops _ h R e2 (fun a' w' h'=>⟨rfl,h'⟩)
   | seq y1 y2 =>
    have e:sqK (fY P tt mt tb ka idx call nt n none y2) (fY P tt mt tb ka idx call nt n none y1 r z)=some (x,r',z'):=e
    cases hb:fY P tt mt tb ka idx call nt n none y1 r z with
    | none=>rw [hb] at e; cases e
    | some q =>
     obtain ⟨x1,r1,z1⟩:=q
     rw [hb] at e
     refine wp_seq (wp_mono (ih.p h R hb) ?_)
     rintro e1 a1 w1 ⟨rfl,M1,h1,h2,h3⟩
     cases x1 with
     | n=>exact wp_mono (ih.p h2 h3 e) (fun _ _ _ q=>q.trans h1)
     | x id=>cases e; exact ⟨rfl,M1,h1,h2,h3⟩
     | g l=>cases e; exact ⟨rfl,M1,h1,h2,h3⟩
     | r=>cases e; exact ⟨rfl,M1,h1,h2,h3⟩
   | cond c y1 y2 =>
    have e:cdK (fY P tt mt tb ka idx call nt n none y1 r z) (fY P tt mt tb ka idx call nt n none y2 r z) (ev r c)=some (x,r',z'):=e
    unfold cdK at e
    split at e
    ·rename_i t hc
     have hv:=K3 h hc
     have hv:a.eval c=.bool t:=hv
     cases t with
     | true=>exact wp_cond_true hv (ih.p h R e)
     | false=>exact wp_cond_false hv (ih.p h R e)
    ·cases e
   | block id c =>
    have e:bkK id (fY P tt mt tb ka idx call nt n none c r z)=some (x,r',z'):=e
    cases hb:fY P tt mt tb ka idx call nt n none c r z with
    | none=>rw [hb] at e; cases e
    | some q =>
     obtain ⟨x1,r1,z1⟩:=q
     rw [hb] at e
     refine wp_block (wp_mono (ih.p h R hb) ?_)
     rintro e1 a1 w1 ⟨rfl,M1,h1,h2,h3⟩
     cases x1 with
     | n=>cases e; exact ⟨rfl,M1,h1,h2,h3⟩
     | g l=>cases e; exact ⟨rfl,M1,h1,h2,h3⟩
     | r=>cases e; exact ⟨rfl,M1,h1,h2,h3⟩
     | x j =>
      simp only [bkK] at e
      show (if j=id then _ else _)
      cases hj:Nat.beq j id with
      | true =>
       rw [hj] at e; cases e
       rw [if_pos (Nat.eq_of_beq_eq_true hj)]
       exact ⟨rfl,M1,h1,h2,h3⟩
      | false =>
       rw [hj] at e; cases e
       rw [if_neg (fun q=>by rw [q,Nat.beq_refl] at hj; cases hj)]
       exact ⟨rfl,M1,h1,h2,h3⟩
   | loop c =>
    intro b k cs
    obtain ⟨e1,a1,w1,hq,harr⟩:=round h R (by rw [eq]; exact e) b k cs
    exact ⟨e1,a1,w1,hq,.of_steps (.one step_loop) harr⟩
   | scope c =>
    intro b k cs
    have e:fY P tt mt tb ka idx call nt n (some c) c r z=some (x,r',z'):=e
    obtain ⟨e1,a1,w1,hq,harr⟩:=ih.s h R e b k cs
    exact ⟨e1,a1,w1,hq,.of_steps (.one step_scope) harr⟩
  ·intro s c M a w r z x r' z' h R e b k cs
   rw [eq] at e
   have e:scK s (fY P tt mt tb ka idx call nt n (some s)) (fY P tt mt tb ka idx call nt n none c r z)=some (x,r',z'):=e
   cases hb:fY P tt mt tb ka idx call nt n none c r z with
   | none=>rw [hb] at e; cases e
   | some q =>
    obtain ⟨x1,r1,z1⟩:=q
    rw [hb] at e
    obtain ⟨e1,a1,w1,⟨rfl,M1,h1,h2,h3⟩,harr⟩:=ih.p h R hb b (.inScope s :: k) cs
    cases x1 with
    | n=>cases e; exact ⟨.normal,a1,w1,⟨rfl,M1,h1,h2,h3⟩,Steps.trans harr (.one step_inScope)⟩
    | x id=>cases e; exact ⟨.exit id,a1,w1,⟨rfl,M1,h1,h2,h3⟩,fun k' hk=>harr k' (by simp [exitTo,hk])⟩
    | r=>cases e; exact ⟨_,a1,w1,⟨rfl,M1,h1,h2,h3⟩,harr⟩
    | g l =>
     simp only [scK] at e
     cases hf:findLabel s l with
     | none =>
      rw [hf] at e; cases e
      exact ⟨.goto l,a1,w1,⟨rfl,M1,h1,h2,h3⟩,fun k' hk=>harr k' (by simp [gotoIn,hf,hk])⟩
     | some q =>
      rw [hf] at e
      have e:fY P tt mt tb ka idx call nt n (some s) q r1 z1=some (x,r',z'):=e
      obtain ⟨e2,a2,w2,hq,Gw⟩:=ih.s h2 h3 e b k cs
      exact ⟨e2,a2,w2,hq.trans h1,.of_steps (harr _ (by simp [gotoIn,hf])) Gw⟩
  ·intro c M a w r z x r' z' h R e b k cs
   obtain ⟨e1,a1,w1,hq,harr⟩:=round h R e b k cs
   exact ⟨e1,a1,w1,hq,.of_steps (.one step_inLoop) harr⟩
theorem yJ:∀ (l:List V1) (i:Nat) (r:R) (t:Nat) (av:AV),get (args i l r) t=some av→(i≤t∧∃ v,l[t - i]?=some v∧av=.o v)∨get r t=some av
 | [],_,_,_,_,h=>.inr h
 | v :: l,i,r,t,av,h=>by
  rcases yJ l (i+1) (set 12 r i (some (.o v))) t av h with ⟨h1,u,h2,h3⟩ | h
  ·refine .inl ⟨by omega,u,?_,h3⟩
   rw [show t - i=(t - (i+1))+1 by omega]
   simpa using h2
  ·rcases jd _ _ _ _ _ _ h with ⟨rfl,h'⟩ | ⟨_,h'⟩
   ·exact .inl ⟨Nat.le_refl _,v,by simp,(Option.some.inj h').symm⟩
   ·exact .inr h'
theorem FL.get' {α β:Type} {R:α→β→Prop} {l:List α} {q:List β} (h:FL R l q) {i:Nat} {x:α} (e:l[i]?=some x):∃ y,q[i]?=some y∧R x y:=FL.get h i x e
theorem Jv {nt:Nat} {q:List V1} {vals:List Value} (h:VVs M q vals) (hn:q.length≤nt):RR nt M (args 0 q .e) { tmps:=vals.toArray++Array.replicate (nt - vals.toArray.size) undef,defers:=[] }:=by
 have hl:=h.len
 refine ⟨by simp; omega,rfl,fun t av e=>?_⟩
 rcases yJ _ _ _ _ _ e with ⟨_,v,h1,rfl⟩ | h
 ·obtain ⟨u,h2,h3⟩:=h.get' h1
  have eS:=(List.getElem?_eq_some_iff.1 h2).1
  refine ⟨u,?_,h3⟩
  rw [Array.getElem?_append_left (by simpa using eS)]
  simpa using h2
 ·cases h
theorem vQ (T:TOK P tt mt tb ka) (h:RR nt M r a) (R:Rel w0 M z w):∀ (l:List ResultVar) (q:List V1),tY tt r z l=some q→∃ vs,(l.mapM (rv a.tmps)).run P w=.ok vs w∧VVs M q vs
 | [],q,e=>by cases e; exact ⟨[],rfl,trivial⟩
 | .tmp t :: l,q,e=>by
  simp only [tY] at e
  split at e
  ·rename_i v q' hv hq
   cases e
   obtain ⟨u,g1,g2⟩:=h.bc _ _ hv
   obtain ⟨vs,k1,k2⟩:=vQ T h R l q' hq
   refine ⟨u :: vs,?_,g2,k2⟩
   simp only [List.mapM_cons,Sem.run_bind,Sem.run_pure,Result.andThen_ok,k1,rv]
   simp [g1]
  ·cases e
 | .cell b t :: l,q,e=>by
  simp only [tY] at e
  split at e
  ·rename_i i off ty q' hv ht hq
   split at e
   ·rename_i v hr
    cases e
    obtain ⟨u,g1,b',s,N,g2,rfl⟩:=h.bc _ _ hv
    obtain ⟨vs,k1,k2⟩:=vQ T h R l q' hq
    cases hl:ld z.h i off ty.size with
    | none=>rw [hl] at hr; cases hr
    | some c =>
     rw [hl] at hr
     have hr:mkv ty.agg c=some v:=hr
     obtain ⟨arr,bt,p1,p2,p3,p4⟩:=pX R.hp hl g2
     obtain ⟨inf,d,zv,hi,hd,hz,hs,jz,iS,fG,_⟩:=bl (T.t _ _ ht)
     have Wk:w.heap[b']?=some (.cells arr.toList.toArray bt (0,0)):=by simpa using p1
     have lL:a.tmps.getD b undef=.pointer (some ⟨b',s+off,none⟩):=by simp [g1]
     have load:∃ u,(loadVar t ⟨b',s+off,none⟩).run P w=.ok u w∧VV M v u:=by
      rcases zK hr p3 with ⟨ha,mM⟩ | ⟨ha,u,hu,mM⟩
      ·refine ⟨_,?_,mM⟩
       have:=iu (P:=P) (w:=w) (off:=s+off) hi hd (by rw [← fG,ha]) Wk (by simp; omega)
       rw [hs] at this
       exact this
      ·refine ⟨_,?_,mM⟩
       have hg:arr.toList[s+off]?=some u:=by
        have:((arr.toList.drop (s+off)).take ty.size)[0]?=some u:=by rw [hu]; rfl
        rw [List.getElem?_take] at this
        split at this
        ·simpa using this
        ·cases this
       exact ir (P:=P) (w:=w) (off:=s+off) hd (by rw [← fG,ha]) Wk hg
     obtain ⟨u,hu,Zk⟩:=load
     refine ⟨u :: vs,?_,Zk,k2⟩
     simp only [List.mapM_cons,Sem.run_bind,Sem.run_pure,Result.andThen_ok,k1,rv,lL,asAddr,hu]
   ·cases e
  ·cases e
theorem Ie {q:List V1} {vs:List Value} (h:VVs M q vs):VA M (Ig q) (one vs):=by
 match q,vs,h with
 | [],[],h=>exact ⟨[],rfl,trivial⟩
 | [v],[u],h=>exact h.1
 | v :: v' :: q,u :: u' :: vs,h=>exact ⟨u :: u' :: vs,rfl,h⟩
def RH (P:Program) (ft:Tr Func):Prop:=∀ f fn,get ft f=some fn→P.funcs[f]?=some fn∧(fn.name == "runtime.NumGoroutine")=false
def Ho (P:Program) (rN:FuncId→List V1→Z→Option Ld):Prop :=
 ∀ f q z av z',rN f q z=some (some (av,z'))→aD P f=true∧∀ w0 M w vals,VVs M q vals→Rel w0 M z w →
  Calls P f vals.toArray w (fun e w'=>∃ v M',e=.returned v∧Ext z M z' M'∧VA M' av v∧Rel w0 M' z' w')
theorem yz (T:TOK P tt mt tb ka) (hI:vy P idx) (hm:P.follows .mixedOrders=true) {ft:Tr Func} {rN:FuncId→List V1→Z→Option Ld} (hF:RH P ft) (hH:Ho P rN)
  (D:∀ call,oY P call→np P tt mt tb ka idx call):∀ n,oY P (vj P tt mt tb ka ft idx rN n)
 | 0=>fun _ _ _ _ _ e=>(by cases e)
 | n+1=>by
  have ih:=yz T hI hm hF hH D n
  intro f q z av z' e
  have e:hkK (Cn P tt mt tb ka (vj P tt mt tb ka ft idx rN n) idx q z (get ft f)) (rN f q z)=some (av,z'):=e
  cases hh:rN f q z with
  | some y =>
   rw [hh] at e
   have e:y=some (av,z'):=e
   subst e
   exact hH f q z av z' hh
  | none =>
   rw [hh] at e
   have e:Cn P tt mt tb ka (vj P tt mt tb ka ft idx rN n) idx q z (get ft f)=some (av,z'):=e
   cases hg:get ft f with
   | none=>rw [hg] at e; cases e
   | some fn =>
    rw [hg] at e
    obtain ⟨hf,Gh⟩:=hF f fn hg
    simp only [Cn] at e
    cases hb:fn.body with
    | none=>rw [hb] at e; cases e
    | some c =>
     rw [hb] at e
     replace e:=fw e
     obtain ⟨hn,e⟩:=e
     have hn:=Nat.le_of_ble_eq_true hn
     refine ⟨by unfold aD; rw [hf]; simp [hb,Gh],fun w0 M w vals hv R=>?_⟩
     refine calls_of_wp hf hb ?_
     have O:OK P tt mt tb ka idx (vj P tt mt tb ka ft idx rN n):=⟨T,hI,ih,hm⟩
     cases hc:fY P tt mt tb ka idx (vj P tt mt tb ka ft idx rN n) fn.ntmps 100000 none c (args 0 q .e) z with
     | none=>rw [hc] at e; cases e
     | some y =>
      obtain ⟨x,r',z1⟩:=y
      rw [hc] at e
      refine wp_mono ((wF O (D _ ih) w0 fn.ntmps 100000).p (Jv hv hn) R hc) ?_
      rintro e1 a1 w1 ⟨rfl,M1,h1,h2,h3⟩
      have fin:∀ {q':List V1},tY tt r' z1 fn.results.toList=some q'→(Ig q',z1)=(av,z')→a1.defers=[]∧∃ v,(results fn a1.tmps).run P w1=.ok v w1∧∃ v' M',Ending.returned v=.returned v'∧Ext z M z' M'∧VA M' av v'∧Rel w0 M' z' w1:=by
       intro q' hq he
       cases he
       obtain ⟨vs,k1,k2⟩:=vQ T h2 h3 _ _ hq
       refine ⟨h2.defers,one vs,?_,one vs,M1,rfl,h1,Ie k2,h3⟩
       rw [ow,Array.mapM_eq_mapM_toList,Sem.run_bind,Sem.run_map,k1]
       simp only [Result.andThen_ok,Sem.run_pure]
       congr 1
       match vs with
       | []=>rfl
       | [v]=>rfl
       | v :: u :: l=>simp [one]
      cases x with
      | n =>
       simp only [LM] at e
       cases hq:tY tt r' z1 fn.results.toList with
       | none=>rw [hq] at e; cases e
       | some q'=>rw [hq] at e; exact fin hq (Option.some.inj e)
      | r =>
       simp only [LM] at e
       cases hq:tY tt r' z1 fn.results.toList with
       | none=>rw [hq] at e; cases e
       | some q'=>rw [hq] at e; exact fin hq (Option.some.inj e)
      | x id=>cases e
      | g l=>cases e
end
end Go.Ex
namespace Go.Ex
open Go Go.Sv
theorem beq_iff {a b:Nat}:Nat.beq a b=true↔a=b:=⟨Nat.eq_of_beq_eq_true,fun h=>by rw [h,Nat.beq_refl]⟩
theorem G3 {a b:Nat}:Nat.beq a b=false↔a≠b:=by
 refine ⟨fun h e=>(by rw [e,Nat.beq_refl] at h; cases h),fun h=>?_⟩
 cases hb:Nat.beq a b with
 | false=>rfl
 | true=>exact (h (beq_iff.1 hb)).elim
def AU (all:List Oper) (p:Pt):Prop:=all[p.i]?=some p.o∧p.k=m8 p.o.op∧p.dm=pW p.o.after.toList
theorem uU (o:Op):m8 o=0∨m8 o=1∨m8 o=2:=by
 cases o <;> first | exact .inl rfl | exact .inr (.inl rfl) | exact .inr (.inr rfl) | skip
 rename_i c
 show kindC c.callee=0∨kindC c.callee=1∨kindC c.callee=2
 cases hc:c.callee <;> first | exact .inr (.inr rfl) | skip
 rename_i b
 cases b <;> first | exact .inl rfl | exact .inr (.inr rfl)
theorem xj (i j:Nat):Nat.testBit (bit i) j=decide (i=j):=by
 have:bit i=2 ^ i:=by
  show 1 <<< i=2 ^ i
  simp [Nat.shiftLeft_eq]
 rw [this,Nat.testBit_two_pow]
theorem BM (m i j:Nat):isIn j (Nat.lor m (bit i))=true↔isIn j m=true∨j=i:=by
 show Nat.testBit (m ||| bit i) j=true↔Nat.testBit m j=true∨j=i
 rw [Nat.testBit_or,xj,Bool.or_eq_true,decide_eq_true_iff]
 exact ⟨fun h=>h.imp id Eq.symm,fun h=>h.imp id Eq.symm⟩
theorem uX (j:Nat):isIn j 0=false:=Nat.zero_testBit j
theorem EU {a b:Nat} (h:sub a b=true) {j:Nat} (k:isIn j a=true):isIn j b=true:=by
 have e:a &&& b=a:=beq_iff.1 h
 have k:Nat.testBit a j=true:=k
 show Nat.testBit b j=true
 rw [← e,Nat.testBit_and] at k
 simp at k
 exact k.2
theorem qN (j:Nat):∀ l:List Edge,isIn j (pW l)=true↔∃ e∈l,Od e=true∧e.on=j
 | []=>by
  show isIn j 0=true↔_
  rw [uX]; simp
 | e :: l=>by
  have ih:=qN j l
  show isIn j (Bool.rec (pW l) (Nat.lor (pW l) (bit e.on)) (Od e))=true↔_
  cases hb:Od e with
  | false => 
   show isIn j (pW l)=true↔_
   rw [ih]; simp [hb]
  | true =>
   show isIn j (Nat.lor (pW l) (bit e.on))=true↔_
   rw [BM,ih]
   simp [hb]
   constructor
   ·rintro (h | rfl)
    ·exact .inr h
    ·exact .inl rfl
   ·rintro (h | h)
    ·exact .inr h.symm
    ·exact .inl h
theorem uE:∀ (l:List Oper) (k:Nat) (p:Pt),p∈nU l k→∃ j o,l[j]?=some o∧p=⟨k+j,o,m8 o.op,pW o.after.toList,0,0⟩
 | [],_,_,h=>by cases h
 | o :: l,k,p,h=>by
  rcases List.mem_cons.1 (show p∈_ :: nU l (k+1) from h) with rfl | h
  ·exact ⟨0,o,rfl,rfl⟩
  ·obtain ⟨j,o',h1,h2⟩:=uE l (k+1) p h
   exact ⟨j+1,o',by simpa using h1,by rw [h2]; congr 1; omega⟩
theorem uR:∀ (l:List Oper) (k j:Nat) (o:Oper),l[j]?=some o→(⟨k+j,o,m8 o.op,pW o.after.toList,0,0⟩:Pt)∈nU l k
 | [],_,_,_,h=>by simp at h
 | o :: l,k,0,o',h=>by
  simp at h; subst h
  exact List.mem_cons_self
 | o :: l,k,j+1,o',h=>by
  have:=uR l (k+1) j o' (by simpa using h)
  rw [show k+(j+1)=k+1+j by omega]
  exact List.mem_cons_of_mem _ this
theorem sR {all:List Oper} {p:Pt} (h:p∈nU all 0):AU all p:=by
 obtain ⟨j,o,h1,rfl⟩:=uE all 0 p h
 exact ⟨by simpa using h1,rfl,rfl⟩
theorem kY {f:Pt→Bool}:∀ {l:List Pt} {p:Pt},wD f l=some p→p∈l∧f p=true
 | [],_,h=>by cases h
 | x :: l,p,h=>by
  have h:(Bool.rec (wD f l) (some x) (f x):Option Pt)=some p:=h
  cases hf:f x with
  | true=>rw [hf] at h; cases h; exact ⟨List.mem_cons_self,hf⟩
  | false=>rw [hf] at h; exact ⟨List.mem_cons_of_mem _ (kY h).1,(kY h).2⟩
theorem zC {l:List Pt} {m:Nat} {p:Pt} (h:xF l m=some p):p∈l∧isIn p.i m=false∧sub p.dm m=true:=by
 unfold xF at h
 have two:∀ a b:Option Pt,orE a b=some p→a=some p∨b=some p:=fun a b h=>by
  cases a with
  | some x=>exact .inl h
  | none=>exact .inr h
 rcases two _ _ h with h | h
 ·obtain ⟨h1,h2⟩:=kY h
  simp at h2
  exact ⟨h1,h2.1.1,h2.1.2⟩
 ·obtain ⟨h1,h2⟩:=kY h
  simp at h2
  exact ⟨h1,h2⟩
def Ord:(Nat→Prop)→Nat→List Pt→Prop
 | _,_,[]=>True
 | S,c,p :: q=>¬ S p.i∧(∀ j,isIn j p.dm=true→S j)∧p.c=c∧Ord (fun j=>S j∨j=p.i) (bif Nat.beq p.k 2 then Nat.succ c else c) q
theorem Ord.congr:∀ {q:List Pt} {S T:Nat→Prop} {c:Nat},(∀ j,S j↔T j)→Ord S c q→Ord T c q
 | [],_,_,_,_,_=>trivial
 | p :: q,S,T,c,e,h=>⟨fun k=>h.1 ((e _).2 k),fun j hj=>(e j).1 (h.2.1 j hj),h.2.2.1,Ord.congr (fun j=>by rw [e j]) h.2.2.2⟩
theorem ta {all:List Oper} {l:List Pt} (hl:∀ p∈l,AU all p):∀ {n m c:Nat} {q:List Pt},order l n m c=some q→Ord (fun j=>isIn j m=true) c q∧(∀ p∈q,AU all p)∧q.length=n
 | 0,m,c,q,h=>by
  cases h
  exact ⟨trivial,(by simp),rfl⟩
 | n+1,m,c,q,h=>by
  have h:orderK (order l n) m c (xF l m)=some q:=h
  cases hp:xF l m with
  | none=>rw [hp] at h; cases h
  | some p =>
   rw [hp] at h
   obtain ⟨h1,h2,h3⟩:=zC hp
   simp only [orderK] at h
   cases hq:order l n (Nat.lor m (bit p.i)) (bif Nat.beq p.k 2 then Nat.succ c else c) with
   | none=>rw [hq] at h; cases h
   | some q' =>
    rw [hq] at h
    cases h
    obtain ⟨k1,k2,k3⟩:=ta hl hq
    refine ⟨⟨by simp [h2],fun j hj=>EU h3 hj,rfl,k1.congr fun j=>BM _ _ _⟩,?_,by simp [k3]⟩
    intro x hx
    rcases List.mem_cons.1 hx with rfl | hx
    ·exact hl p h1
    ·exact k2 x hx
theorem sw (l:List Pt) (C:Nat):∀ {q:List Pt} {S:Nat→Prop} {c:Nat},Ord S c q→Ord S c (oq l C q)
 | [],_,_,_=>trivial
 | p :: q,S,c,h=>⟨h.1,h.2.1,h.2.2.1,sw l C h.2.2.2⟩
theorem lT {l:List Pt} {C:Nat} {q:List Pt} {p:Pt} (h:p∈oq l C q):∃ u∈q,p=⟨u.i,u.o,u.k,u.dm,u.c,Af u.i C l⟩:=by
 obtain ⟨u,h1,h2⟩:=List.mem_map.1 (show p∈q.map _ from h)
 exact ⟨u,h1,h2.symm⟩
theorem oE {l:List Pt} {C:Nat} {q:List Pt} {u:Pt} (h:u∈q):(⟨u.i,u.o,u.k,u.dm,u.c,Af u.i C l⟩:Pt)∈oq l C q:=List.mem_map.2 ⟨u,h,rfl⟩
theorem uZ (i d:Nat):∀ l:List Pt,Af i d l=d∨∃ u∈l,u.k=2∧isIn i u.dm=true∧u.c=Af i d l
 | []=>.inl rfl
 | p :: l=>by
  have ih:=uZ i d l
  show (Bool.rec (Af i d l) p.c (Nat.beq p.k 2 && isIn i p.dm):Nat)=d∨∃ u∈p :: l,u.k=2∧isIn i u.dm=true∧u.c=(Bool.rec (Af i d l) p.c (Nat.beq p.k 2 && isIn i p.dm):Nat)
  cases hb:(Nat.beq p.k 2 && isIn i p.dm) with
  | true =>
   rw [Bool.and_eq_true] at hb
   exact .inr ⟨p,List.mem_cons_self,beq_iff.1 hb.1,hb.2,rfl⟩
  | false =>
   rcases ih with ih | ⟨u,h1,h2⟩
   ·exact .inl ih
   ·exact .inr ⟨u,List.mem_cons_of_mem _ h1,h2⟩
section
theorem jr (p:Pt) (q:List Pt):hX (p :: q)=(bif Nat.beq p.k 2 then Nat.succ (hX q) else hX q):=by
 show (Bool.rec (hX q) (Nat.succ (hX q)) (Nat.beq p.k 2):Nat)=_
 cases Nat.beq p.k 2 <;> rfl
theorem o7 (l:List Pt) (C:Nat):∀ q,hX (oq l C q)=hX q
 | []=>rfl
 | p :: q=>by
  have:=o7 l C q
  show hX (_ :: oq l C q)=_
  rw [jr,jr,this]
theorem Ord.Ik:∀ {q:List Pt} {S:Nat→Prop} {c:Nat},Ord S c q→∀ p∈q,¬ S p.i
 | [],_,_,_,x,hx,_=>by cases hx
 | p :: q,S,c,h,x,hx,hs=>by
  rcases List.mem_cons.1 hx with rfl | hx
  ·exact h.1 hs
  ·exact Ord.Ik h.2.2.2 x hx (.inl hs)
theorem Ord.uniq:∀ {q:List Pt} {S:Nat→Prop} {c:Nat},Ord S c q→∀ p∈q,∀ u∈q,p.i=u.i→p=u
 | [],_,_,_,p,hp,_,_,_=>by cases hp
 | y :: q,S,c,h,p,hp,u,hu,e=>by
  rcases List.mem_cons.1 hp with rfl | hp'
  ·rcases List.mem_cons.1 hu with rfl | hu'
   ·rfl
   ·exact (Ord.Ik h.2.2.2 u hu' (.inr e.symm)).elim
  ·rcases List.mem_cons.1 hu with rfl | hu'
   ·exact (Ord.Ik h.2.2.2 p hp' (.inr e)).elim
   ·exact Ord.uniq h.2.2.2 p hp' u hu' e
theorem sE {p:Pt} {c:Nat}:c≤(bif Nat.beq p.k 2 then Nat.succ c else c):=by cases Nat.beq p.k 2 <;> simp
theorem Ord.ge:∀ {q:List Pt} {S:Nat→Prop} {c:Nat},Ord S c q→∀ p∈q,c≤p.c
 | [],_,_,_,p,hp=>by cases hp
 | y :: q,S,c,h,p,hp=>by
  rcases List.mem_cons.1 hp with rfl | hp
  ·exact Nat.le_of_eq h.2.2.1.symm
  ·exact Nat.le_trans sE (Ord.ge h.2.2.2 p hp)
theorem Ord.xP:∀ {q:List Pt} {S:Nat→Prop} {c:Nat},Ord S c q→∀ p∈q,∀ u∈q,p.k=2→u.k=2→p.c=u.c→p=u
 | [],_,_,_,p,hp,_,_,_,_,_=>by cases hp
 | y :: q,S,c,h,p,hp,u,hu,k1,k2,e=>by
  rcases List.mem_cons.1 hp with rfl | hp'
  ·rcases List.mem_cons.1 hu with rfl | hu'
   ·rfl
   ·have:=Ord.ge h.2.2.2 u hu'
    rw [beq_iff.2 k1] at this
    have h3:=h.2.2.1
    simp at this; omega
  ·rcases List.mem_cons.1 hu with rfl | hu'
   ·have:=Ord.ge h.2.2.2 p hp'
    rw [beq_iff.2 k2] at this
    have h3:=h.2.2.1
    simp at this; omega
   ·exact Ord.xP h.2.2.2 p hp' u hu' k1 k2 e
theorem Ord.lt:∀ {q:List Pt} {S:Nat→Prop} {c:Nat},Ord S c q→∀ p∈q,p.c≤c+hX q∧(p.k=2→p.c < c+hX q)
 | [],_,_,_,p,hp=>by cases hp
 | y :: q,S,c,h,p,hp=>by
  have h3:=h.2.2.1
  rw [jr]
  rcases List.mem_cons.1 hp with rfl | hp
  ·refine ⟨?_,fun k=>?_⟩
   ·cases Nat.beq p.k 2 <;> simp <;> omega
   ·rw [beq_iff.2 k]; simp; omega
  ·have:=Ord.lt h.2.2.2 p hp
   cases hb:Nat.beq y.k 2 <;> rw [hb] at this <;> simp at this ⊢
   ·exact this
   ·exact ⟨by omega,fun k=>by have:=this.2 k; omega⟩
theorem Ord.ex:∀ {q:List Pt} {S:Nat→Prop} {c:Nat},Ord S c q→∀ k,k < hX q→∃ p∈q,p.k=2∧p.c=c+k
 | [],S,c,h,k,hk=>by simp [hX] at hk
 | y :: q,S,c,h,k,hk=>by
  have h3:=h.2.2.1
  rw [jr] at hk
  cases hb:Nat.beq y.k 2 with
  | false =>
   rw [hb] at hk
   have h4:=h.2.2.2
   rw [hb] at h4
   obtain ⟨p,k1,k2⟩:=Ord.ex h4 k (by simpa using hk)
   exact ⟨p,List.mem_cons_of_mem _ k1,k2⟩
  | true =>
   rw [hb] at hk
   have h4:=h.2.2.2
   rw [hb] at h4
   simp at hk
   cases k with
   | zero=>exact ⟨y,List.mem_cons_self,beq_iff.1 hb,h3⟩
   | succ k =>
    obtain ⟨p,k1,k2,k3⟩:=Ord.ex h4 k (by omega)
    exact ⟨p,List.mem_cons_of_mem _ k1,k2,by rw [k3]; simp; omega⟩
theorem Ord.all:∀ {q:List Pt} {S:Nat→Prop} {c:Nat} {L:Nat→Prop},Ord S c q→(∀ j,S j→L j)→(∀ p∈q,(∀ j,isIn j p.dm=true→L j)→L p.i)→∀ p∈q,L p.i
 | [],_,_,_,_,_,_,p,hp=>by cases hp
 | y :: q,S,c,L,h,hs,hL,p,hp=>by
  have hy:L y.i:=hL y List.mem_cons_self (fun j hj=>hs j (h.2.1 j hj))
  rcases List.mem_cons.1 hp with rfl | hp
  ·exact hy
  ·refine Ord.all h.2.2.2 ?_ (fun x hx=>hL x (List.mem_cons_of_mem _ hx)) p hp
   rintro j (hj | rfl)
   ·exact hs j hj
   ·exact hy
theorem pig:∀ (n:Nat) (l:List Nat),l.Nodup→(∀ x∈l,x < n)→l.length≤n
 | 0,l,_,h=>by
  cases l with
  | nil=>simp
  | cons x l=>exact absurd (h x List.mem_cons_self) (by omega)
 | n+1,l,hn,h=>by
  have:=pig n (l.erase n) (hn.erase n) (fun x hx=>by
   have h1:=(hn.mem_erase_iff).1 hx
   have:=h x h1.2
   omega)
  rw [List.length_erase] at this
  split at this <;> omega
theorem Ord.nodup:∀ {q:List Pt} {S:Nat→Prop} {c:Nat},Ord S c q→(q.map Pt.i).Nodup
 | [],_,_,_=>by simp
 | p :: q,S,c,h=>by
  rw [List.map_cons,List.nodup_cons]
  refine ⟨fun hm=>?_,Ord.nodup h.2.2.2⟩
  obtain ⟨u,h1,h2⟩:=List.mem_map.1 hm
  exact Ord.Ik h.2.2.2 u h1 (.inr h2)
theorem cover {n:Nat} {l:List Nat} (h:l.Nodup) (eS:∀ x∈l,x < n) (hl:l.length=n) {i:Nat} (hi:i < n):i∈l:=by
 by_cases hm:i∈l
 ·exact hm
 ·have:=pig n (i :: l) (List.nodup_cons.2 ⟨hm,h⟩) (fun x hx=>by
   rcases List.mem_cons.1 hx with rfl | hx
   ·exact hi
   ·exact eS x hx)
  simp at this; omega
end
theorem qT (t:Nat) (p:Pt) (l:List Pt):writer t (p :: l)=(match p.o.dst with
 | some d=>Bool.rec (writer t l) (some p) (Nat.beq d t)
 | none=>writer t l):=by
 show (match p.o.dst with | some d=>_ | none=>_)=_
 rfl
theorem jD {t:Nat}:∀ {l:List Pt} {q:Pt},writer t l=some q→q∈l∧q.o.dst=some t
 | [],_,h=>by cases h
 | p :: l,q,h=>by
  rw [qT] at h
  cases hd:p.o.dst with
  | none=>rw [hd] at h; exact ⟨List.mem_cons_of_mem _ (jD h).1,(jD h).2⟩
  | some d =>
   rw [hd] at h
   cases hb:Nat.beq d t with
   | true=>simp only [hb] at h; cases h; exact ⟨List.mem_cons_self,by rw [hd,beq_iff.1 hb]⟩
   | false=>simp only [hb] at h; exact ⟨List.mem_cons_of_mem _ (jD h).1,(jD h).2⟩
theorem qS {t:Nat}:∀ {l:List Pt} {p:Pt},p∈l→p.o.dst=some t→∃ q,writer t l=some q
 | [],p,hp,_=>by cases hp
 | y :: l,p,hp,hd=>by
  rw [qT]
  rcases List.mem_cons.1 hp with rfl | hp
  ·rw [hd]; exact ⟨p,by simp only [beq_iff.2 rfl]⟩
  ·obtain ⟨q,h⟩:=qS hp hd
   cases hy:y.o.dst with
   | none=>exact ⟨q,h⟩
   | some d => 
    cases hb:Nat.beq d t with
    | true=>exact ⟨y,by simp only [hb]⟩
    | false=>exact ⟨q,by simp only [hb]; exact h⟩
theorem xL {l:List Pt} {p:Pt}:∀ {ts:List Nat},okT l p ts=true→∀ t∈ts,∀ q,writer t l=some q→isIn q.i p.dm=true∨isIn p.i q.dm=true
 | [],_,t,ht,_,_=>by cases ht
 | y :: ts,h,t,ht,q,hq=>by
  have h:(match writer y l with
   | some q=>(isIn q.i p.dm || isIn p.i q.dm) && okT l p ts
   | none=>okT l p ts)=true:=h
  rcases List.mem_cons.1 ht with rfl | ht
  ·rw [hq] at h
   simp at h
   exact h.1
  ·refine xL (ts:=ts) ?_ t ht q hq
   cases hw:writer y l with
   | none=>rw [hw] at h; exact h
   | some x=>rw [hw] at h; simp at h; exact h.2
theorem me {l:List Pt}:∀ {q:List Pt},Fp l q=true→∀ p∈q,okT l p (tmps (fW p.o.op))=true∧Tj p.dm p.o.guard=true∧R6 l p=true
 | [],_,p,hp=>by cases hp
 | y :: q,h,p,hp=>by
  have h:(okT l y (tmps (fW y.o.op)) && (Tj y.dm y.o.guard && (R6 l y && Fp l q)))=true:=h
  simp only [Bool.and_eq_true] at h
  rcases List.mem_cons.1 hp with rfl | hp
  ·exact ⟨h.1,h.2.1,h.2.2.1⟩
  ·exact me h.2.2.2 p hp
theorem xh {t:Nat}:∀ {l:List Operand},.tmp t∈l→t∈tmps l
 | [],h=>by cases h
 | x :: l,h=>by
  rcases List.mem_cons.1 h with rfl | h
  ·exact List.mem_cons_self
  ·have:=xh h
   cases x with
   | tmp _=>exact List.mem_cons_of_mem _ this
   | const _=>exact this
   | func _=>exact this
   | global _=>exact this
theorem GS {p:Pt} {l:List Pt} (h:U7 l p=true):p.c=0∨∃ q∈l,isIn q.i p.dm=true∧(bif Nat.beq q.k 2 then Nat.succ q.c else q.c)=p.c:=by
 simp only [U7,Bool.or_eq_true] at h
 rcases h with h | h
 ·exact .inl (beq_iff.1 h)
 ·refine .inr ?_
  have:∀ l:List Pt,(List.rec false (fun q _ r=>(isIn q.i p.dm && (Nat.beq (bif Nat.beq q.k 2 then Nat.succ q.c else q.c) p.c)) || r) l:Bool)=true→∃ q∈l,isIn q.i p.dm=true∧(bif Nat.beq q.k 2 then Nat.succ q.c else q.c)=p.c:=by
   intro l
   induction l with
   | nil=>intro h; cases h
   | cons y l ih =>
    intro h
    simp only [Bool.or_eq_true,Bool.and_eq_true] at h
    rcases h with ⟨h1,h2⟩ | h
    ·exact ⟨y,List.mem_cons_self,h1,beq_iff.1 h2⟩
    ·obtain ⟨q,h1,h2⟩:=ih h
     exact ⟨q,List.mem_cons_of_mem _ h1,h2⟩
  exact this l h
structure RG (all:List Oper) (q:List Pt):Prop where
 pt:∀ p∈q,AU all p
 cov:∀ i,i < all.length→∃ p∈q,p.i=i
 ord:Ord (fun _=>False) 0 q
 c:∀ p∈q,p.c=0∨∃ u∈q,isIn u.i p.dm=true∧(bif Nat.beq u.k 2 then Nat.succ u.c else u.c)=p.c
 hi:∀ p∈q,p.hi=hX q∨∃ u∈q,u.k=2∧isIn p.i u.dm=true∧u.c=p.hi
 w:∀ p∈q,∀ u∈q,∀ d,p.o.dst=some d→u.o.dst=some d→p=u
 t:∀ p∈q,∀ u∈q,∀ t,.tmp t∈fW p.o.op→u.o.dst=some t→isIn u.i p.dm=true∨isIn p.i u.dm=true
 g:∀ p∈q,∀ j b,p.o.guard=some (j,b)→isIn j p.dm=true
theorem zB {all:List Oper} {q:List Pt} (h:xD all=some q):RG all q:=by
 unfold xD at h
 simp only at h
 cases hq:order (nU all 0) all.length 0 0 with
 | none=>rw [hq] at h; cases h
 | some q0 =>
  rw [hq] at h
  obtain ⟨h1,h⟩:=fw h
  cases h
  simp only [Bool.and_eq_true] at h1
  obtain ⟨hA,hC⟩:=h1
  obtain ⟨k1,k2,k3⟩:=ta (fun p hp=>sR hp) hq
  have k1:Ord (fun _=>False) 0 q0:=k1.congr fun j=>by simp [uX]
  have IJ:=sw q0 (hX q0) k1
  have hl:∀ p∈q0,p.i < all.length:=fun p hp=>(List.getElem?_eq_some_iff.1 (k2 p hp).1).1
  have src:∀ p∈oq q0 (hX q0) q0,∃ x∈nU all 0,x.i=p.i∧x.o=p.o∧x.dm=p.dm:=fun p hp=>by
   obtain ⟨u,hu,rfl⟩:=lT hp
   obtain ⟨e1,e2,e3⟩:=k2 u hu
   have:=uR all 0 u.i u.o e1
   refine ⟨_,this,by simp,rfl,e3.symm⟩
  have QO:∀ x y:Pt,AU all x→AU all y→x.i=y.i→x.o=y.o∧x.dm=y.dm:=fun x y h1 h2 e=>by
   have:x.o=y.o:=by have:=h1.1; rw [e,h2.1] at this; exact (Option.some.inj this).symm
   exact ⟨this,by rw [h1.2.2,h2.2.2,this]⟩
  have wr:∀ x∈nU all 0,∀ d,x.o.dst=some d→∃ y,writer d (nU all 0)=some y∧y∈nU all 0∧y.i=x.i:=fun x hx d hd=>by
   obtain ⟨y,hy⟩:=qS hx hd
   have:=(me hA x hx).2.2
   simp only [R6,hd,hy] at this
   exact ⟨y,hy,(jD hy).1,beq_iff.1 this⟩
  refine ⟨fun p hp=>?_,fun i hi=>?_,IJ,fun p hp=>?_,fun p hp=>?_,fun p hp u hu d h1 h2=>?_,fun p hp u hu t h1 h2=>?_,fun p hp j b h1=>?_⟩
  ·obtain ⟨u,hu,rfl⟩:=lT hp
   exact k2 u hu
  ·have:=cover (n:=all.length) (l:=q0.map Pt.i) k1.nodup (fun x hx=>by obtain ⟨u,h1,rfl⟩:=List.mem_map.1 hx; exact hl u h1) (by simp [k3]) hi
   obtain ⟨u,h1,rfl⟩:=List.mem_map.1 this
   exact ⟨_,oE h1,rfl⟩
  ·obtain ⟨u,hu,rfl⟩:=lT hp
   rcases GS (List.all_eq_true.1 hC u hu) with h | ⟨x,h1,h2,h3⟩
   ·exact .inl h
   ·exact .inr ⟨_,oE h1,h2,h3⟩
  ·obtain ⟨u,hu,rfl⟩:=lT hp
   rw [o7]
   rcases uZ u.i (hX q0) q0 with h | ⟨x,h1,h2,h3,h4⟩
   ·exact .inl h
   ·exact .inr ⟨_,oE h1,h2,h3,h4⟩
  ·obtain ⟨x,hx,e1,e2,e3⟩:=src p hp
   obtain ⟨y,hy,f1,f2,f3⟩:=src u hu
   obtain ⟨a,ha,_,Sw⟩:=wr x hx d (by rw [e2]; exact h1)
   obtain ⟨b,hb,_,KQ⟩:=wr y hy d (by rw [f2]; exact h2)
   rw [ha] at hb
   cases hb
   exact IJ.uniq p hp u hu (by rw [← e1,← f1,← Sw,← KQ])
  ·obtain ⟨x,hx,e1,e2,e3⟩:=src p hp
   obtain ⟨y,hy,f1,f2,f3⟩:=src u hu
   obtain ⟨a,ha,ham,Sw⟩:=wr y hy t (by rw [f2]; exact h2)
   have:=xL (me hA x hx).1 t (xh (by rw [e2]; exact h1)) a ha
   rw [Sw,e3,f1,e1,(QO a y (sR ham) (sR hy) Sw).2,f3] at this
   exact this
  ·obtain ⟨x,hx,e1,e2,e3⟩:=src p hp
   have:=(me hA x hx).2.1
   rw [e2,h1,e3] at this
   exact this
end Go.Ex
namespace Go.Ex
open Go Go.Sv
theorem sK {x y:Value} (h:sameVal x y=true):x=y:=by
 unfold sameVal at h
 split at h
 ·simp only [Bool.and_eq_true,decide_eq_true_eq] at h
  rw [iH h.1,h.2]
 ·simp at h; rw [h]
 ·rename_i a b
  rcases a with ⟨⟨l⟩⟩
  rcases b with ⟨⟨q⟩⟩
  have h:l=q:=eq_of_beq h
  rw [h]
 ·rfl
 ·rfl
 ·rfl
 ·rfl
 ·rename_i f a b f' a' b'
  rw [Bool.and_eq_true] at h
  obtain ⟨h1,h2⟩:=h
  rw [beq_iff.1 h1]
  split at h2
  ·rename_i e1 e2 e3 e4
   rcases a with ⟨l1⟩
   rcases b with ⟨l2⟩
   rcases a' with ⟨l3⟩
   rcases b' with ⟨l4⟩
   simp at e1 e2 e3 e4
   rw [e1,e2,e3,e4]
  ·cases h2
 ·cases h
theorem sM {x y:S} (h:sameS x y=true):x=y:=by
 unfold sameS at h
 split at h
 ·rw [sK h]
 ·rw [Bool.and_eq_true] at h; rw [beq_iff.1 h.1,beq_iff.1 h.2]
 ·simp only [Bool.and_eq_true] at h; rw [beq_iff.1 h.1.1.1,beq_iff.1 h.1.1.2,beq_iff.1 h.1.2,beq_iff.1 h.2]
 ·rw [beq_iff.1 h]
 ·rw [beq_iff.1 h]
 ·cases h
theorem kj {α:Type} {f:α→α→Bool} (hf:∀ {x y},f x y=true→x=y):∀ {l q:List α},sameL f l q=true→l=q
 | [],[],_=>rfl
 | x :: l,y :: q,h=>by
  have h:(f x y && sameL f l q)=true:=h
  rw [Bool.and_eq_true] at h
  rw [hf h.1,kj hf h.2]
 | [],_ :: _,h=>by cases h
 | _ :: _,[],h=>by cases h
theorem j9 {x y:V1} (h:sameV1 x y=true):x=y:=by
 unfold sameV1 at h
 split at h
 ·rw [sM h]
 ·rw [kj sM h]
 ·cases h
theorem uA {x y:AV} (h:sameAV x y=true):x=y:=by
 unfold sameAV at h
 split at h
 ·rw [j9 h]
 ·rw [kj j9 h]
 ·cases h
theorem qo {x y:Bk} (h:sameBk x y=true):x=y:=by
 unfold sameBk at h
 split at h
 ·rw [kj sM h]
 ·rw [beq_iff.1 h]
 ·simp only [Bool.and_eq_true] at h
  rw [beq_iff.1 h.1.1,kj j9 h.1.2,kj j9 h.2]
 ·cases h
def Prm (z z2:Z):Prop:=z.n≤z2.n∧∀ (w0:World) (M:Mp) (w:World),Rel w0 M z w→Rel w0 M z2 w
theorem Prm.refl (z:Z):Prm z z:=⟨Nat.le_refl _,fun _ _ _ h=>h⟩
theorem Prm.trans {x y z:Z} (h:Prm x y) (k:Prm y z):Prm x z:=⟨Nat.le_trans h.1 k.1,fun _ _ _ r=>k.2 _ _ _ (h.2 _ _ _ r)⟩
theorem Prm.new (z:Z) (b:Bk):Prm z (new z b):=⟨Nat.le_succ _,fun _ _ _ r=>r.promise b⟩
section
variable {P:Program} {tt:Tr TyS} {mt:Tr (Nat × Nat × Value)} {tb:Tab} {ka:Nat→Nat→Bool}
variable {idx:FuncId→Bool} {call:FuncId→List V1→Z→Ld} {nt:Nat} {all:List Oper} {r0:Go.Ex.R}
structure Step (P:Program) (tt:Tr TyS) (mt:Tr (Nat × Nat × Value)) (tb:Tab) (ka:Nat→Nat→Bool) (idx:FuncId→Bool) (call:FuncId→List V1→Z→Ld) (nt:Nat) (all:List Oper) (p:Pt) (d d1:Dr) (t:Tk):Prop where
 ep:t.p=p
 en:t.n=d.z.n
 eg:guardE all d.r p.o.guard=some t.w
 et:t.w=true→evs d.r (fW p.o.op)=some t.vs∧Ih P tt mt tb ka idx call p.o t.vs d.z p.k=some (t.v,d1.z)
 ef:t.w=false→t.v=.t []∧d1.z=d.z
 QI:putE' nt d.r d1.z p.o.dst t.v=some (d1.r,d1.z)
 ehs:d1.hs=Bool.rec d.hs (d.z :: d.hs) (Nat.beq p.k 2)
 etk:d1.tk=t :: d.tk
def Run (P:Program) (tt:Tr TyS) (mt:Tr (Nat × Nat × Value)) (tb:Tab) (ka:Nat→Nat→Bool) (idx:FuncId→Bool) (call:FuncId→List V1→Z→Ld) (nt:Nat) (all:List Oper):List Pt→Dr→Dr→Prop
 | [],d,d2=>d2=d
 | p :: q,d,d2=>∃ d1 t,Step P tt mt tb ka idx call nt all p d d1 t∧Run P tt mt tb ka idx call nt all q d1 d2
theorem H6 {r r':Go.Ex.R} {z z':Z} {d:Option Nat} {v:AV} (h:putE' nt r z d v=some (r',z')):z'=z:=by
 cases d with
 | none=>cases h; rfl
 | some d =>
  obtain ⟨_,h⟩:=fw h
  cases h; rfl
theorem E5 {r r':Go.Ex.R} {z z':Z} {d:Nat} {v:AV} (h:putE' nt r z (some d) v=some (r',z')):d < nt:=by
 obtain ⟨h,_⟩:=fw h
 exact Nat.le_of_ble_eq_true h
theorem tE {d d1:Dr} {p:Pt} {w:Bool} {vs:List AV} {y:Ld} (h:drPut nt d p w vs y=some d1):∃ v z,y=some (v,z)∧d1.z=z∧putE' nt d.r z p.o.dst v=some (d1.r,z)∧d1.hs=Bool.rec d.hs (d.z :: d.hs) (Nat.beq p.k 2)∧d1.tk=⟨p,w,vs,v,d.z.n⟩ :: d.tk:=by
 cases y with
 | none=>cases h
 | some y =>
  obtain ⟨v,z⟩:=y
  simp only [drPut] at h
  cases hp:putE' nt d.r z p.o.dst v with
  | none=>rw [hp] at h; cases h
  | some q =>
   obtain ⟨r',z'⟩:=q
   rw [hp] at h
   cases h
   have:=H6 hp
   subst this
   exact ⟨v,_,rfl,rfl,hp,rfl,rfl⟩
theorem GO {d d1:Dr} {p:Pt} (h:SC P tt mt tb ka idx call nt d p (guardE all d.r p.o.guard)=some d1):∃ t,Step P tt mt tb ka idx call nt all p d d1 t:=by
 cases hg:guardE all d.r p.o.guard with
 | none=>rw [hg] at h; cases h
 | some b =>
  rw [hg] at h
  cases b with
  | false =>
   have h:drPut nt d p false [] (some (.t [],d.z))=some d1:=h
   obtain ⟨v,z,e1,e2,e3,e4,e5⟩:=tE h
   cases e1
   exact ⟨_,rfl,rfl,hg,fun k=>(by cases k),fun _=>⟨rfl,e2⟩,by rw [e2]; exact e3,e4,e5⟩
  | true =>
   have h:K8 P tt mt tb ka idx call nt d p (evs d.r (fW p.o.op))=some d1:=h
   cases he:evs d.r (fW p.o.op) with
   | none=>rw [he] at h; cases h
   | some vs =>
    rw [he] at h
    obtain ⟨v,z,e1,e2,e3,e4,e5⟩:=tE (show drPut nt d p true vs _=some d1 from h)
    exact ⟨_,rfl,rfl,hg,fun _=>⟨he,by rw [e2]; exact e1⟩,fun k=>(by cases k),by rw [e2]; exact e3,e4,e5⟩
theorem ve:∀ {q:List Pt} {d d2:Dr},yq P tt mt tb ka idx call nt all q d=some d2→Run P tt mt tb ka idx call nt all q d d2
 | [],d,d2,h=>by cases h; rfl
 | p :: q,d,d2,h=>by
  have h:drK (yq P tt mt tb ka idx call nt all q) (SC P tt mt tb ka idx call nt d p (guardE all d.r p.o.guard))=some d2:=h
  cases hd:SC P tt mt tb ka idx call nt d p (guardE all d.r p.o.guard) with
  | none=>rw [hd] at h; cases h
  | some d1 =>
   rw [hd] at h
   obtain ⟨t,ht⟩:=GO hd
   exact ⟨d1,t,ht,ve h⟩
def Src (r0 r:Go.Ex.R) (tk:List Tk):Prop:=∀ s av,get r s=some av→(∃ u∈tk,u.p.o.dst=some s∧u.v=av)∨(get r0 s=some av∧∀ u∈tk,u.p.o.dst≠some s)
theorem Step.src {p:Pt} {d d1:Dr} {t:Tk} (h:Step P tt mt tb ka idx call nt all p d d1 t) (k:Src r0 d.r d.tk):Src r0 d1.r d1.tk:=by
 intro s av e
 rw [h.etk]
 have hp:=h.QI
 have old:get d.r s=some av→t.p.o.dst≠some s→(∃ u∈t :: d.tk,u.p.o.dst=some s∧u.v=av)∨(get r0 s=some av∧∀ u∈t :: d.tk,u.p.o.dst≠some s):=by
  intro e2 hne
  rcases k s av e2 with ⟨u,h1,h2⟩ | ⟨h1,h2⟩
  ·exact .inl ⟨u,List.mem_cons_of_mem _ h1,h2⟩
  ·refine .inr ⟨h1,fun u hu=>?_⟩
   rcases List.mem_cons.1 hu with rfl | hu
   ·exact hne
   ·exact h2 u hu
 cases hd:p.o.dst with
 | none =>
  rw [hd] at hp
  have hr:d.r=d1.r:=(Prod.mk.inj (Option.some.inj hp)).1
  rw [← hr] at e
  exact old e (by rw [h.ep,hd]; simp)
 | some x =>
  rw [hd] at hp
  obtain ⟨_,hp⟩:=fw hp
  have hr:set 12 d.r x (some t.v)=d1.r:=(Prod.mk.inj (Option.some.inj hp)).1
  rw [← hr] at e
  rcases jd _ _ _ _ _ _ e with ⟨h1,h2⟩ | ⟨h1,h2⟩
  ·exact .inl ⟨t,List.mem_cons_self,by rw [h.ep,hd,h1],by cases h2; rfl⟩
  ·exact old h2 (by rw [h.ep,hd]; intro e; cases e; exact h1 rfl)
structure Fact (P:Program) (tt:Tr TyS) (mt:Tr (Nat × Nat × Value)) (tb:Tab) (ka:Nat→Nat→Bool) (idx:FuncId→Bool) (call:FuncId→List V1→Z→Ld) (nt:Nat) (all:List Oper) (r0:Go.Ex.R) (TK:List Tk) (HS:List Z) (t:Tk):Prop where
 bc:∃ (r:Go.Ex.R) (pre:List Tk),Src r0 r pre∧(∀ u∈pre,u∈TK)∧(∀ u∈pre,isIn t.p.i u.p.dm=false)∧(∀ j,isIn j t.p.dm=true→∃ u∈pre,u.p.i=j) ∧
  guardE all r t.p.o.guard=some t.w∧(t.w=true→evs r (fW t.p.o.op)=some t.vs)
 f:t.w=false→t.v=.t []
 dst:∀ d,t.p.o.dst=some d→d < nt
 nw:t.w=true→t.p.k=1→∃ f b,rI tt mt t.p.o t.vs=some (f,b)∧t.v=.o (.s (f t.n))
 ld:t.p.k=2→∃ za zb zc,HS[t.p.c]?=some za∧HS[t.p.c+1]?=some zc∧(t.w=true→loudE tt mt ka idx call t.p.o t.vs za=some (t.v,zb))∧(t.w=false→zb=za)∧Prm zb zc ∧
  ∀ u∈TK,lK u=true→u.p.c=t.p.c+1→zb.n≤u.n
theorem Step.prm {p:Pt} {d d1:Dr} {t:Tk} (h:Step P tt mt tb ka idx call nt all p d d1 t) (hk:p.k=0∨p.k=1):Prm d.z d1.z:=by
 cases hw:t.w with
 | false=>rw [(h.ef hw).2]; exact Prm.refl _
 | true =>
  have e:=(h.et hw).2
  rcases hk with hk | hk <;> rw [hk] at e
  ·have e:pK d.z (qY P tt mt tb ka p.o t.vs d.z.h)=some (t.v,d1.z):=e
   cases hp:qY P tt mt tb ka p.o t.vs d.z.h with
   | none=>rw [hp] at e; cases e
   | some v =>
    rw [hp] at e
    rw [← (Prod.mk.inj (Option.some.inj e)).2]
    exact Prm.refl _
  ·have e:nK d.z (rI tt mt p.o t.vs)=some (t.v,d1.z):=e
   cases hp:rI tt mt p.o t.vs with
   | none=>rw [hp] at e; cases e
   | some q =>
    obtain ⟨f,b⟩:=q
    rw [hp] at e
    rw [← (Prod.mk.inj (Option.some.inj e)).2]
    exact Prm.new _ _
theorem Step.nw {p:Pt} {d d1:Dr} {t:Tk} (h:Step P tt mt tb ka idx call nt all p d d1 t) (hw:t.w=true) (hk:p.k=1):∃ f b,rI tt mt p.o t.vs=some (f,b)∧t.v=.o (.s (f t.n)):=by
 have e:=(h.et hw).2
 rw [hk] at e
 have e:nK d.z (rI tt mt p.o t.vs)=some (t.v,d1.z):=e
 cases hp:rI tt mt p.o t.vs with
 | none=>rw [hp] at e; cases e
 | some q =>
  obtain ⟨f,b⟩:=q
  rw [hp] at e
  exact ⟨f,b,rfl,by rw [h.en]; exact (Prod.mk.inj (Option.some.inj e)).1.symm⟩
theorem Run.facts:∀ {q:List Pt} {S:Nat→Prop} {c:Nat} {d dF:Dr},Run P tt mt tb ka idx call nt all q d dF→Ord S c q→d.hs.length=c→(∀ j,S j↔∃ u∈d.tk,u.p.i=j)→(∀ u∈d.tk,u.p.c≤c) →
  (∀ u∈d.tk,∀ j,isIn j u.p.dm=true→S j)→Src r0 d.r d.tk→(∀ p∈q,AU all p) →
  ∃ h0 rest nw,(dF.z :: dF.hs).reverse=d.hs.reverse++h0 :: rest∧Prm d.z h0∧dF.tk=nw++d.tk∧(∀ p∈q,∃ t∈nw,t.p=p)∧(∀ t∈nw,t.p∈q)∧Src r0 dF.r dF.tk∧rest.length=hX q ∧
   ∀ t∈nw,Fact P tt mt tb ka idx call nt all r0 dF.tk (dF.z :: dF.hs).reverse t∧(t.p.c=c→lK t=true→d.z.n≤t.n)
 | [],S,c,d,dF,h,ho,hl,hS,hc,hd,hs,hp=>by
  have h:dF=d:=h
  subst h
  exact ⟨dF.z,[],[],by simp,Prm.refl _,rfl,(fun p hp=>by cases hp),(fun t ht=>by cases ht),hs,rfl,(fun t ht=>by cases ht)⟩
 | p :: q,S,c,d,dF,h,ho,hl,hS,hc,hd,hs,hp=>by
  obtain ⟨d1,t,st,hr⟩:=h
  obtain ⟨o1,o2,o3,o4⟩:=ho
  have MK:=hp p List.mem_cons_self
  have hk:p.k=0∨p.k=1∨p.k=2:=by rw [MK.2.1]; exact uU _
  have ZL:d1.hs.length=(bif Nat.beq p.k 2 then Nat.succ c else c):=by
   rw [st.ehs]
   cases Nat.beq p.k 2 <;> simp [hl]
  have hS1:∀ j,(S j∨j=p.i)↔∃ u∈d1.tk,u.p.i=j:=fun j=>by
   rw [st.etk]
   constructor
   ·rintro (h | rfl)
    ·obtain ⟨u,h1,h2⟩:=(hS j).1 h
     exact ⟨u,List.mem_cons_of_mem _ h1,h2⟩
    ·exact ⟨t,List.mem_cons_self,by rw [st.ep]⟩
   ·rintro ⟨u,h1,h2⟩
    rcases List.mem_cons.1 h1 with rfl | h1
    ·exact .inr (by rw [← h2,st.ep])
    ·exact .inl ((hS j).2 ⟨u,h1,h2⟩)
  have eO:∀ u∈d1.tk,u.p.c≤(bif Nat.beq p.k 2 then Nat.succ c else c):=fun u hu=>by
   rw [st.etk] at hu
   rcases List.mem_cons.1 hu with rfl | hu
   ·rw [st.ep,o3]; exact sE
   ·exact Nat.le_trans (hc u hu) sE
  have Dt:∀ u∈d1.tk,∀ j,isIn j u.p.dm=true→S j∨j=p.i:=fun u hu j hj=>by
   rw [st.etk] at hu
   rcases List.mem_cons.1 hu with rfl | hu
   ·rw [st.ep] at hj; exact .inl (o2 j hj)
   ·exact .inl (hd u hu j hj)
  obtain ⟨h0,rest,nw,e1,e2,e3,e4,e5,e6,e7,e8⟩:=Run.facts hr o4 ZL hS1 eO Dt (st.src hs) (fun x hx=>hp x (List.mem_cons_of_mem _ hx))
  have SB:dF.tk=(nw++[t])++d.tk:=by rw [e3,st.etk]; simp
  have YY:∀ u∈d.tk,u∈dF.tk:=fun u hu=>by rw [SB]; exact List.mem_append_right _ hu
  have bc:∃ (r:Go.Ex.R) (pre:List Tk),Src r0 r pre∧(∀ u∈pre,u∈dF.tk)∧(∀ u∈pre,isIn t.p.i u.p.dm=false)∧(∀ j,isIn j t.p.dm=true→∃ u∈pre,u.p.i=j) ∧
    guardE all r t.p.o.guard=some t.w∧(t.w=true→evs r (fW t.p.o.op)=some t.vs):=by
   rw [st.ep]
   refine ⟨d.r,d.tk,hs,YY,fun u hu=>?_,fun j hj=>(hS j).1 (o2 j hj),st.eg,fun hw=>(st.et hw).1⟩
   cases hb:isIn p.i u.p.dm with
   | false=>rfl
   | true=>exact (o1 (hd u hu _ hb)).elim
  have dst:∀ x,t.p.o.dst=some x→x < nt:=fun x hx=>by
   have:=st.QI
   rw [st.ep] at hx
   rw [hx] at this
   exact E5 this
  have Pe:∀ x∈p :: q,∃ u∈nw++[t],u.p=x:=fun x hx=>by
   rcases List.mem_cons.1 hx with rfl | hx
   ·exact ⟨t,by simp,st.ep⟩
   ·obtain ⟨u,h1,h2⟩:=e4 x hx
    exact ⟨u,List.mem_append_left _ h1,h2⟩
  have Pd:∀ u∈nw++[t],u.p∈p :: q:=fun u hu=>by
   rcases List.mem_append.1 hu with hu | hu
   ·exact List.mem_cons_of_mem _ (e5 u hu)
   ·simp at hu; subst hu; rw [st.ep]; exact List.mem_cons_self
  by_cases sf:p.k=2
  ·have hb:Nat.beq p.k 2=true:=beq_iff.2 sf
   have ehs:=st.ehs
   rw [hb] at ehs
   have ehs:d1.hs=d.z :: d.hs:=ehs
   have UU:(dF.z :: dF.hs).reverse=d.hs.reverse++d.z :: h0 :: rest:=by rw [e1,ehs]; simp
   have e8':∀ u∈nw,u.p.c=c+1→lK u=true→d1.z.n≤u.n:=fun u hu k=>(e8 u hu).2 (by rw [hb]; exact k)
   have hge:∀ u∈nw,c+1≤u.p.c:=fun u hu=>by
    have:=o4.ge u.p (e5 u hu)
    rw [hb] at this; exact this
   refine ⟨d.z,h0 :: rest,nw++[t],UU,Prm.refl _,SB,Pe,Pd,e6,by rw [jr,hb]; simp [e7],fun u hu=>?_⟩
   rcases List.mem_append.1 hu with hu | hu
   ·exact ⟨(e8 u hu).1,fun k=>by have:=hge u hu; omega⟩
   ·simp at hu
    subst hu
    refine ⟨⟨bc,fun hw=>(st.ef hw).1,dst,fun _ k=>(by rw [st.ep,sf] at k; cases k),fun _=>?_⟩,fun _ hn=>?_⟩
    ·refine ⟨d.z,d1.z,h0,?_,?_,fun hw=>?_,fun hw=>(st.ef hw).2,e2,fun u' hu' k1 k2=>?_⟩
     ·rw [UU,st.ep,o3,← hl]; simp
     ·rw [UU,st.ep,o3,← hl,List.getElem?_append_right (by simp)]; simp
     ·have:=(st.et hw).2
      rw [sf] at this
      rw [st.ep]
      exact this
     ·rw [st.ep,o3] at k2
      rw [SB] at hu'
      rcases List.mem_append.1 hu' with hu' | hu'
      ·rcases List.mem_append.1 hu' with hu' | hu'
       ·exact e8' u' hu' k2 k1
       ·simp at hu'
        subst hu'
        rw [st.ep,o3] at k2
        omega
      ·have:=hc u' hu'
       omega
    ·simp [lK,st.ep,sf] at hn
  ·have hb:Nat.beq p.k 2=false:=G3.2 sf
   have IQ:p.k=0∨p.k=1:=by omega
   have ehs:=st.ehs
   rw [hb] at ehs
   have ehs:d1.hs=d.hs:=ehs
   have pr:=st.prm IQ
   refine ⟨h0,rest,nw++[t],by rw [e1,ehs],pr.trans e2,SB,Pe,Pd,e6,by rw [jr,hb]; simp [e7],fun u hu=>?_⟩
   rcases List.mem_append.1 hu with hu | hu
   ·refine ⟨(e8 u hu).1,fun k1 k2=>Nat.le_trans pr.1 ((e8 u hu).2 (by rw [hb]; exact k1) k2)⟩
   ·simp at hu
    subst hu
    refine ⟨⟨bc,fun hw=>(st.ef hw).1,dst,fun hw k=>?_,fun k=>(sf (by rw [← st.ep]; exact k)).elim⟩,fun _ _=>Nat.le_of_eq st.en.symm⟩
    rw [st.ep] at k ⊢
    exact st.nw hw k
theorem Run.uniq:∀ {q:List Pt} {S:Nat→Prop} {c:Nat} {d dF:Dr},Run P tt mt tb ka idx call nt all q d dF→Ord S c q→(∀ u∈d.tk,S u.p.i)→(∀ t∈d.tk,∀ u∈d.tk,t.p.i=u.p.i→t=u)→∀ t∈dF.tk,∀ u∈dF.tk,t.p.i=u.p.i→t=u
 | [],_,_,d,dF,h,_,_,k=>by
  have h:dF=d:=h
  subst h
  exact k
 | p :: q,S,c,d,dF,h,ho,hS,k=>by
  obtain ⟨d1,t,st,hr⟩:=h
  refine Run.uniq hr ho.2.2.2 (fun u hu=>?_) (fun x hx y hy e=>?_)
  ·rw [st.etk] at hu
   rcases List.mem_cons.1 hu with rfl | hu
   ·exact .inr (by rw [st.ep])
   ·exact .inl (hS u hu)
  ·rw [st.etk] at hx hy
   rcases List.mem_cons.1 hx with h1 | h1
   ·rcases List.mem_cons.1 hy with h2 | h2
    ·rw [h1,h2]
    ·exact (ho.1 (by rw [← st.ep,← h1,e]; exact hS y h2)).elim
   ·rcases List.mem_cons.1 hy with h2 | h2
    ·exact (ho.1 (by rw [← st.ep,← h2,← e]; exact hS x h1)).elim
    ·exact k x h1 y h2 e
theorem qP:∀ {l:List Tk} {b:Nat},DE l b=true→(∀ t∈l,lK t=true→t.n < b)∧∀ t∈l,∀ u∈l,lK t=true→lK u=true→t.n=u.n→t=u
 | [],_,_=>⟨(fun t ht=>by cases ht),(fun t ht=>by cases ht)⟩
 | x :: l,b,h=>by
  have h:(Bool.rec (DE l b) (Nat.blt x.n b && DE l x.n) (lK x):Bool)=true:=h
  cases hx:lK x with
  | false =>
   rw [hx] at h
   obtain ⟨h1,h2⟩:=qP (show DE l b=true from h)
   refine ⟨fun t ht hn=>?_,fun t ht u hu hn hm e=>?_⟩
   ·rcases List.mem_cons.1 ht with rfl | ht
    ·rw [hx] at hn; cases hn
    ·exact h1 t ht hn
   ·rcases List.mem_cons.1 ht with h3 | h3
    ·rw [h3,hx] at hn; cases hn
    ·rcases List.mem_cons.1 hu with h4 | h4
     ·rw [h4,hx] at hm; cases hm
     ·exact h2 t h3 u h4 hn hm e
  | true =>
   rw [hx] at h
   have h:(Nat.blt x.n b && DE l x.n)=true:=h
   rw [Bool.and_eq_true] at h
   obtain ⟨h1,h2⟩:=qP h.2
   have Ww:x.n < b:=Nat.le_of_ble_eq_true h.1
   refine ⟨fun t ht hn=>?_,fun t ht u hu hn hm e=>?_⟩
   ·rcases List.mem_cons.1 ht with rfl | ht
    ·exact Ww
    ·exact Nat.lt_trans (h1 t ht hn) Ww
   ·rcases List.mem_cons.1 ht with h3 | h3
    ·rcases List.mem_cons.1 hu with h4 | h4
     ·rw [h3,h4]
     ·have:=h1 u h4 hm
      rw [← e,h3] at this
      omega
    ·rcases List.mem_cons.1 hu with h4 | h4
     ·have:=h1 t h3 hn
      rw [e,h4] at this
      omega
     ·exact h2 t h3 u h4 hn hm e
end
end Go.Ex
namespace Go.Ex
open Go Go.Sv
section
variable {P:Program} {ops:Array Oper} {Q:Exit→Act→World→Prop} {md:Region.Mode} {I:(Nat→Prop)→Act→World→Prop}
theorem Cd {listed:Array Bool} {i:Nat} (h:i < listed.size):listed.getD i true=listed.getD i false:=by simp [Array.getD,h]
theorem oN:∀ (l:List Bool) (i:Nat),l[i]?=some false→(l.set i true).count false+1=l.count false
 | [],_,h=>by simp at h
 | x :: l,0,h=>by simp at h; subst h; simp
 | x :: l,i+1,h=>by
  have:=oN l i (by simpa using h)
  simp only [List.set_cons_succ,List.count_cons]
  omega
theorem Cu
  (step:∀ L a w i o,I L a w→ops[i]?=some o→¬ L i→(∀ e∈o.after,Region.binds md e=true→L e.on)→wpOp P ops Q i (fun a' w'=>I (fun j=>L j∨j=i) a' w') a w)
  (fin:∀ L a w,I L a w→(∀ i o,ops[i]?=some o→(∀ e∈o.after,Region.binds md e=true→L e.on)→L i)→Q .normal a w) :
  ∀ (fuel:Nat) (listed:Array Bool) (a:Act) (w:World),listed.size=ops.size→listed.toList.count false≤fuel→I (fun j=>listed.getD j false=true) a w→wpAny P md ops Q fuel listed a w:=by
 have done:∀ (listed:Array Bool) (a:Act) (w:World),listed.size=ops.size→I (fun j=>listed.getD j false=true) a w→Region.ready md ops listed=[]→Q .normal a w:=by
  intro listed a w hs hI hr
  refine fin _ a w hI fun i o ho hd=>?_
  show listed.getD i false=true
  have eS:i < listed.size:=by rw [hs]; exact (Array.getElem?_eq_some_iff.1 ho).1
  cases hb:listed.getD i false with
  | true=>rfl
  | false =>
   have:i∈Region.ready md ops listed:=mem_ready.2 ⟨by rw [Cd eS,hb],o,ho,hd⟩
   rw [hr] at this; cases this
 intro fuel
 induction fuel with
 | zero =>
  intro listed a w hs hc hI
  have hr:Region.ready md ops listed=[]:=by
   cases hr:Region.ready md ops listed with
   | nil=>rfl
   | cons i l =>
    obtain ⟨h1,o,h2,_⟩:=mem_ready.1 (show i∈Region.ready md ops listed by rw [hr]; exact List.mem_cons_self)
    have eS:i < listed.size:=by rw [hs]; exact (Array.getElem?_eq_some_iff.1 h2).1
    have:listed.toList[i]?=some false:=by
     simp [Array.getD,eS] at h1
     simp [eS,h1]
    have:=oN _ _ this
    omega
  exact ⟨hr,done listed a w hs hI hr⟩
 | succ fuel ih =>
  intro listed a w hs hc hI
  refine ⟨done listed a w hs hI,fun i hi=>?_⟩
  obtain ⟨h1,o,h2,h3⟩:=mem_ready.1 hi
  have eS:i < listed.size:=by rw [hs]; exact (Array.getElem?_eq_some_iff.1 h2).1
  have hf:listed.toList[i]?=some false:=by
   simp [Array.getD,eS] at h1
   simp [eS,h1]
  refine wpOp_mono (fun a' w' hI'=>ih _ a' w' (by simpa using hs) ?_ ?_) (step _ a w i o hI h2 (by rw [← Cd eS,h1]; simp) h3)
  ·have:=oN _ _ hf
   rw [Array.toList_setIfInBounds]
   omega
  ·have:(fun j=>(listed.setIfInBounds i true).getD j false=true)=(fun j=>listed.getD j false=true∨j=i):=by
    funext j
    by_cases hj:i=j
    ·subst hj; simp [Array.getD,eS]
    ·rw [getD_set_ne false hj]
     simp [Ne.symm hj]
   rw [this]
   exact hI'
end
section
variable {P:Program} {tt:Tr TyS} {mt:Tr (Nat × Nat × Value)} {tb:Tab} {ka:Nat→Nat→Bool}
variable {idx:FuncId→Bool} {call:FuncId→List V1→Z→Ld} {nt:Nat} {all:List Oper} {r0:Go.Ex.R}
variable {q:List Pt} {TK:List Tk} {HS:List Z} {w0:World} {z0:Z} {M0:Mp}
theorem tX {t:Tk} {lo hi:Nat} {hs:List Z} (h:mS P tt mt tb ka t lo hi hs=true) {c:Nat} {z:Z} (hz:hs[c]?=some z) (h1:lo≤c) (h2:c≤hi):stays P tt mt tb ka t z=true:=by
 have gen:∀ (hs:List Z) (k c:Nat) (z:Z),(List.rec (fun _=>true) (fun z _ g c=>Bool.rec (g (Nat.succ c)) (stays P tt mt tb ka t z && g (Nat.succ c)) (Nat.ble lo c && Nat.ble c hi)) hs k:Bool)=true→hs[c]?=some z→lo≤k+c→k+c≤hi→stays P tt mt tb ka t z=true:=by
  intro hs
  induction hs with
  | nil=>intro k c z _ h; simp at h
  | cons y hs ih =>
   intro k c z h hz h1 h2
   simp only at h
   cases c with
   | zero =>
    simp at hz; subst hz
    rw [Nat.ble_eq_true_of_le (show lo≤k from h1),Nat.ble_eq_true_of_le (show k≤hi from h2)] at h
    exact (Bool.and_eq_true _ _ ▸ (show (stays P tt mt tb ka t y && _)=true from h)).1
   | succ c =>
    refine ih (k+1) c z ?_ (by simpa using hz) (by omega) (by omega)
    cases hb:(Nat.ble lo k && Nat.ble k hi) with
    | false=>rw [hb] at h; exact h
    | true=>rw [hb] at h; exact (Bool.and_eq_true _ _ ▸ (show (stays P tt mt tb ka t y && _)=true from h)).2
 exact gen hs 0 c z h hz (by omega) (by omega)
structure ic (P:Program) (tt:Tr TyS) (mt:Tr (Nat × Nat × Value)) (tb:Tab) (ka:Nat→Nat→Bool) (idx:FuncId→Bool) (call:FuncId→List V1→Z→Ld) (nt:Nat) (all:List Oper) (r0:Go.Ex.R) (z0:Z) (q:List Pt) (TK:List Tk) (HS:List Z):Prop where
 pl:RG all q
 f:∀ t∈TK,Fact P tt mt tb ka idx call nt all r0 TK HS t
 un:∀ t∈TK,∀ u∈TK,t.p.i=u.p.i→t=u
 ex:∀ p∈q,∃ t∈TK,t.p=p
 inq:∀ t∈TK,t.p∈q
 st:∀ t∈TK,∀ c z,HS[c]?=some z→t.p.c≤c→c≤t.p.hi→stays P tt mt tb ka t z=true
 dn:∀ t∈TK,∀ u∈TK,lK t=true→lK u=true→t.n=u.n→t=u
structure Inv (w0:World) (z0:Z) (M0:Mp) (nt:Nat) (r0:Go.Ex.R) (q:List Pt) (TK:List Tk) (HS:List Z) (L:Nat→Prop) (a:Act) (w:World) (c:Nat) (M:Mp):Prop where
 sz:a.tmps.size=nt
 df:a.defers=[]
 le:c≤hX q
 ld:∀ p∈q,p.k=2→(L p.i↔p.c < c)
 nl:∀ p∈q,p.k≠2→L p.i→p.c≤c
 dc:∀ p∈q,L p.i→∀ j,isIn j p.dm=true→L j
 rel:∃ h,HS[c]?=some h∧Rel w0 M h w∧Ext z0 M0 h M
 bc:∀ t∈TK,L t.p.i→∀ d,t.p.o.dst=some d→∃ v,a.tmps[d]?=some v∧VA M t.v v
 base:∀ s av,get r0 s=some av→(∀ t∈TK,L t.p.i→t.p.o.dst≠some s)→∃ v,a.tmps[s]?=some v∧VA M av v
 pr:∀ t∈TK,lK t=true→t.p.c≤c→¬ L t.p.i→M t.n=none∧z0.n≤t.n
section
variable {L:Nat→Prop} {a:Act} {w:World} {c:Nat} {M M':Mp} {t:Tk} {v:Value}
variable (K:ic P tt mt tb ka idx call nt all r0 z0 q TK HS) (J:Inv w0 z0 M0 nt r0 q TK HS L a w c M) (ht:t∈TK) (hn:¬ L t.p.i) (hd:∀ j,isIn j t.p.dm=true→L j)
include K J ht hn hd
theorem ic.Jj:t.p.c≤c:=by
 rcases K.pl.c t.p (K.inq t ht) with h | ⟨u,h1,h2,h3⟩
 ·omega
 ·have hl:=hd _ h2
  by_cases hk:u.k=2
  ·rw [beq_iff.2 hk] at h3
   have:=(J.ld u h1 hk).1 hl
   simp at h3; omega
  ·rw [G3.2 hk] at h3
   have:=J.nl u h1 hk hl
   simp at h3; omega
theorem ic.NI (hk:t.p.k=2):t.p.c=c:=by
 have h1:=ic.Jj K J ht hn hd
 have h2:¬ t.p.c < c:=fun h=>hn ((J.ld _ (K.inq t ht) hk).2 h)
 omega
theorem ic.U6:c≤t.p.hi:=by
 rcases K.pl.hi t.p (K.inq t ht) with h | ⟨u,h1,h2,h3,h4⟩
 ·rw [h]; exact J.le
 ·have:¬ u.c < c:=fun h=>hn (J.dc u h1 ((J.ld u h1 h2).2 h) _ h3)
  omega
theorem ic.put (hM:Le M M') (hv:VA M' t.v v) :
  (a.put t.p.o.dst v).tmps.size=nt∧(a.put t.p.o.dst v).defers=[]∧(∀ p∈q,(L p.i∨p.i=t.p.i)→∀ j,isIn j p.dm=true→(L j∨j=t.p.i)) ∧
  (∀ u∈TK,(L u.p.i∨u.p.i=t.p.i)→∀ d,u.p.o.dst=some d→∃ v',(a.put t.p.o.dst v).tmps[d]?=some v'∧VA M' u.v v') ∧
  (∀ s av,get r0 s=some av→(∀ u∈TK,(L u.p.i∨u.p.i=t.p.i)→u.p.o.dst≠some s)→∃ v',(a.put t.p.o.dst v).tmps[s]?=some v'∧VA M' av v'):=by
 have bW:∀ s,t.p.o.dst≠some s→(a.put t.p.o.dst v).tmps[s]?=a.tmps[s]?:=fun s hs=>by
  cases hd':t.p.o.dst with
  | none=>rfl
  | some d =>
   simp only [Act.put]
   rw [Array.getElem?_setIfInBounds_ne (fun e=>hs (by rw [hd',e]))]
 refine ⟨?_,?_,fun p hp h j hj=>?_,fun u hu h d hd'=>?_,fun s av hs h=>?_⟩
 ·rw [← J.sz]; cases t.p.o.dst <;> simp [Act.put]
 ·rw [← J.df]; cases t.p.o.dst <;> rfl
 ·rcases h with h | h
  ·exact .inl (J.dc p hp h j hj)
  ·have:=K.pl.ord.uniq p hp t.p (K.inq t ht) h
   rw [this] at hj
   exact .inl (hd j hj)
 ·rcases h with h | h
  ·have hne:t.p.o.dst≠some d:=fun e=>by
    have:=K.pl.w u.p (K.inq u hu) t.p (K.inq t ht) d hd' e
    rw [this] at h
    exact hn h
   obtain ⟨v',h1,h2⟩:=J.bc u hu h d hd'
   exact ⟨v',by rw [bW d hne]; exact h1,h2.mono hM⟩
  ·have:=K.un u hu t ht h
   subst this
   have eS:d < a.tmps.size:=by rw [J.sz]; exact (K.f u ht).dst d hd'
   exact ⟨v,by simp [hd',Act.put,eS],hv⟩
 ·obtain ⟨v',h1,h2⟩:=J.base s av hs (fun u hu hl=>h u hu (.inl hl))
  exact ⟨v',by rw [bW s (h t ht (.inr rfl))]; exact h1,h2.mono hM⟩
theorem ic.still (hk:t.p.k≠2) (hv:VA M t.v v):Inv w0 z0 M0 nt r0 q TK HS (fun j=>L j∨j=t.p.i) (a.put t.p.o.dst v) w c M:=by
 obtain ⟨p1,p2,p3,p4,p5⟩:=ic.put K J ht hn hd (Le.refl M) hv
 refine ⟨p1,p2,J.le,fun p hp h2=>?_,fun p hp h2 h=>?_,p3,J.rel,p4,p5,fun u hu h1 h2 h3=>J.pr u hu h1 h2 (fun h=>h3 (.inl h))⟩
 ·rw [← J.ld p hp h2]
  constructor
  ·rintro (h | h)
   ·exact h
   ·have:=K.pl.ord.uniq p hp t.p (K.inq t ht) h
    rw [this] at h2
    exact (hk h2).elim
  ·exact .inl
 ·rcases h with h | h
  ·exact J.nl p hp h2 h
  ·have:=K.pl.ord.uniq p hp t.p (K.inq t ht) h
   rw [this]
   exact ic.Jj K J ht hn hd
theorem ic.mkb (hk:t.p.k=1) {en:En} {w':World} (hw:lK t=true) {h:Z} (hh:HS[c]?=some h) (hM:M t.n=none) (hz:z0.n≤t.n) (hR:Rel w0 (ki M t.n en) h w') (hv:VA (ki M t.n en) t.v v) :
  Inv w0 z0 M0 nt r0 q TK HS (fun j=>L j∨j=t.p.i) (a.put t.p.o.dst v) w' c (ki M t.n en):=by
 obtain ⟨p1,p2,p3,p4,p5⟩:=ic.put K J ht hn hd (gK hM) hv
 have S:=ic.still K J ht hn hd (v:=v) (by rw [hk]; decide)
 refine ⟨p1,p2,J.le,fun p hp h2=>?_,fun p hp h2 h=>?_,p3,⟨h,hh,hR,?_⟩,p4,p5,fun u hu h1 h2 h3=>?_⟩
 ·rw [← J.ld p hp h2]
  constructor
  ·rintro (h | h)
   ·exact h
   ·have:=K.pl.ord.uniq p hp t.p (K.inq t ht) h
    rw [this,hk] at h2
    cases h2
  ·exact .inl
 ·rcases h with h | h
  ·exact J.nl p hp h2 h
  ·have:=K.pl.ord.uniq p hp t.p (K.inq t ht) h
   rw [this]
   exact ic.Jj K J ht hn hd
 ·obtain ⟨h',e1,_,e3⟩:=J.rel
  rw [hh] at e1
  cases e1
  exact ⟨e3.le.trans (gK hM),fun i hi=>by rw [dB _ _ (by omega)]; exact e3.same i hi,e3.n⟩
 ·obtain ⟨k1,k2⟩:=J.pr u hu h1 h2 (fun h=>h3 (.inl h))
  refine ⟨?_,k2⟩
  rw [dB _ _ (fun e=>?_)]
  ·exact k1
  ·have:=K.dn u hu t ht h1 hw e
   rw [this] at h3
   exact h3 (.inr rfl)
theorem ic.Ph (hk:t.p.k=2) {w':World} {za zb zc:Z} (ha:HS[c]?=some za) (hc:HS[c+1]?=some zc) (hE:Ext za M zb M') (hR:Rel w0 M' zb w') (hv:VA M' t.v v) (hP:Prm zb zc)
  (hN:∀ u∈TK,lK u=true→u.p.c=c+1→zb.n≤u.n) (eS:∀ u∈TK,lK u=true→u.p.c≤c→¬ L u.p.i→u.n < za.n) :
  Inv w0 z0 M0 nt r0 q TK HS (fun j=>L j∨j=t.p.i) (a.put t.p.o.dst v) w' (c+1) M':=by
 obtain ⟨p1,p2,p3,p4,p5⟩:=ic.put K J ht hn hd hE.le hv
 have UA:=ic.NI K J ht hn hd hk
 obtain ⟨h',e1,e2,e3⟩:=J.rel
 rw [ha] at e1
 cases e1
 have hl:=(K.pl.ord.lt t.p (K.inq t ht)).2 hk
 refine ⟨p1,p2,by omega,fun p hp h2=>?_,fun p hp h2 h=>?_,p3,⟨zc,hc,hP.2 _ _ _ hR,?_⟩,p4,p5,fun u hu h1 h2 h3=>?_⟩
 ·constructor
  ·rintro (h | h)
   ·have:=(J.ld p hp h2).1 h
    omega
   ·have:=K.pl.ord.uniq p hp t.p (K.inq t ht) h
    rw [this]; omega
  ·intro h
   by_cases Sf:p.c < c
   ·exact .inl ((J.ld p hp h2).2 Sf)
   ·have:=K.pl.ord.xP p hp t.p (K.inq t ht) h2 hk (by omega)
    exact .inr (by rw [this])
 ·rcases h with h | h
  ·have:=J.nl p hp h2 h
   omega
  ·have:=K.pl.ord.uniq p hp t.p (K.inq t ht) h
   rw [this] at h2
   exact (h2 hk).elim
 ·have:=e3.trans hE
  exact ⟨this.le,this.same,Nat.le_trans this.n hP.1⟩
 ·by_cases T2:u.p.c≤c
  ·have hL:¬ L u.p.i:=fun h=>h3 (.inl h)
   obtain ⟨k1,k2⟩:=J.pr u hu h1 T2 hL
   exact ⟨by rw [hE.same _ (eS u hu h1 T2 hL)]; exact k1,k2⟩
  ·have:=hN u hu h1 (by omega)
   exact ⟨hR.nx _ this,by have:=(e3.trans hE).n; omega⟩
end
end
end Go.Ex
namespace Go.Ex
open Go Go.Sv
section
variable {P:Program} {tt:Tr TyS} {mt:Tr (Nat × Nat × Value)} {tb:Tab} {ka:Nat→Nat→Bool}
variable {idx:FuncId→Bool} {call:FuncId→List V1→Z→Ld} {nt:Nat} {all:List Oper} {r0:Go.Ex.R}
variable {q:List Pt} {TK:List Tk} {HS:List Z} {w0:World} {z0:Z} {M0:Mp}
theorem Ch {M:Mp} {a:Act} {r:Go.Ex.R}:∀ {l:List Operand} {vs:List AV},(∀ s av,.tmp s∈l→get r s=some av→∃ v,a.tmps[s]?=some v∧VA M av v)→evs r l=some vs→OR M a l vs∧∀ t,.tmp t∈l→t < a.tmps.size
 | [],vs,_,e=>by cases e; exact ⟨trivial,fun t ht=>by cases ht⟩
 | x :: l,vs,hs,e=>by
  rw [tC] at e
  cases h1:ev r x with
  | none=>rw [h1] at e; cases e
  | some av =>
   cases h2:evs r l with
   | none=>rw [h1,h2] at e; cases e
   | some vs' =>
    rw [h1,h2] at e
    cases e
    obtain ⟨k1,k2⟩:=Ch (fun s av h=>hs s av (List.mem_cons_of_mem _ h)) h2
    have hv:VA M av (a.eval x)∧∀ t,x=.tmp t→t < a.tmps.size:=by
     cases x with
     | tmp t =>
      obtain ⟨v,g1,g2⟩:=hs t av List.mem_cons_self h1
      refine ⟨by simpa [Act.eval,g1] using g2,fun t' e=>?_⟩
      cases e
      exact (Array.getElem?_eq_some_iff.1 g1).1
     | const v=>cases h1; exact ⟨tf M v,fun t e=>by cases e⟩
     | func f=>cases h1; exact ⟨(rfl:_=_),fun t e=>by cases e⟩
     | global g=>cases h1
    refine ⟨⟨hv.1,k1⟩,fun t ht=>?_⟩
    rcases List.mem_cons.1 ht with h | h
    ·exact hv.2 t h.symm
    ·exact k2 t h
theorem Dw {M:Mp} {a:Act} {r:Go.Ex.R} {o:Oper} (hs:∀ j want o' d av,o.guard=some (j,want)→all[j]?=some o'→o'.dst=some d→get r d=some av→∃ v,a.tmps[d]?=some v∧VA M av v) {b:Bool} (e:guardE all r o.guard=some b) :
  Region.wanted o (yielded all.toArray a.tmps)=b:=by
 cases hg:o.guard with
 | none=>rw [hg] at e; cases e; simp [Region.wanted,hg]
 | some y =>
  obtain ⟨j,want⟩:=y
  rw [hg] at e
  replace e:gD r want all[j]?=some b:=e
  cases BW:all[j]? with
  | none=>rw [BW] at e; cases e
  | some o' =>
   rw [BW] at e
   simp only [gD] at e
   cases hd:o'.dst with
   | none=>rw [hd] at e; cases e
   | some d =>
    rw [hd] at e
    simp only at e
    cases lL:get r d with
    | none=>rw [lL] at e; cases e
    | some av =>
     rw [lL] at e
     obtain ⟨v,h1,h2⟩:=hs j want o' d av hg BW hd lL
     match av,e,h2 with
     | .o (.s (.v (.bool b'))),e,h2 =>
      have h2:v=.bool b':=h2
      subst h2
      cases e
      have hy:yielded all.toArray a.tmps j=some b':=by simp [yielded,BW,hd,h1]
      simp only [Region.wanted,hg,hy]
      rfl
     | .t [],e,⟨vs,h2,h3⟩ =>
      have:vs=[]:=by cases vs with
       | nil=>rfl
       | cons _ _=>exact h3.elim
      subst this
      subst h2
      cases e
      have hy:yielded all.toArray a.tmps j=none:=by simp [yielded,BW,hd,h1]
      simp only [Region.wanted,hg,hy]
      rfl
theorem ze {t:Tk} {z:Z} (h:stays P tt mt tb ka t z=true) (hw:t.w=true) (hk:t.p.k=0):qY P tt mt tb ka t.p.o t.vs z.h=some t.v:=by
 simp only [stays,hw,hk] at h
 split at h
 ·rename_i v hv
  rw [hv,uA h]
 ·cases h
theorem ux {t:Tk} {z:Z} (h:stays P tt mt tb ka t z=true) (hw:t.w=true) (hk:t.p.k=1):∃ f b,rI tt mt t.p.o t.vs=some (f,b)∧get z.h t.n=some b∧t.n < z.n:=by
 simp only [stays,hw,hk] at h
 split at h
 ·rename_i f b b' h1 h2
  rw [Bool.and_eq_true] at h
  exact ⟨f,b,h1,by rw [h2,qo h.1],Nat.le_of_ble_eq_true h.2⟩
 ·cases h
section
variable {L:Nat→Prop} {a:Act} {w:World} {c:Nat} {M:Mp} {t:Tk}
theorem ic.Pg (K:ic P tt mt tb ka idx call nt all r0 z0 q TK HS) (J:Inv w0 z0 M0 nt r0 q TK HS L a w c M) {za:Z} (ha:HS[c]?=some za) {u:Tk} (hu:u∈TK) (hw:lK u=true) (hc:u.p.c≤c) (hL:¬ L u.p.i):u.n < za.n:=by
 have Sr:c≤u.p.hi:=by
  rcases K.pl.hi u.p (K.inq u hu) with h | ⟨x,h1,h2,h3,h4⟩
  ·rw [h]; exact J.le
  ·have:¬ x.c < c:=fun h=>hL (J.dc x h1 ((J.ld x h1 h2).2 h) _ h3)
   omega
 have:=K.st u hu c za ha hc Sr
 rw [lK,Bool.and_eq_true] at hw
 obtain ⟨_,_,_,_,h⟩:=ux this hw.1 (beq_iff.1 hw.2)
 exact h
variable (O:OK P tt mt tb ka idx call) (K:ic P tt mt tb ka idx call nt all r0 z0 q TK HS) (J:Inv w0 z0 M0 nt r0 q TK HS L a w c M) (ht:t∈TK) (hn:¬ L t.p.i) (hd:∀ j,isIn j t.p.dm=true→L j)
include O K J ht hn hd
theorem ic.step {Q:Exit→Act→World→Prop}:wpOp P all.toArray Q t.p.i (fun a' w'=>∃ c' M',Inv w0 z0 M0 nt r0 q TK HS (fun j=>L j∨j=t.p.i) a' w' c' M') a w:=by
 have hq:=K.inq t ht
 obtain ⟨ho,Un,WM⟩:=K.pl.pt t.p hq
 have F:=K.f t ht
 obtain ⟨r,pre,src,f1,f2,f3,f4,f5⟩:=F.bc
 have slot:∀ s av,.tmp s∈fW t.p.o.op→get r s=some av→∃ v,a.tmps[s]?=some v∧VA M av v:=by
  intro s av hs hg
  rcases src s av hg with ⟨u,hu,h1,h2⟩ | ⟨h1,h2⟩
  ·rcases K.pl.t t.p hq u.p (K.inq u (f1 u hu)) s hs h1 with h | h
   ·rw [← h2]; exact J.bc u (f1 u hu) (hd _ h) s h1
   ·rw [f2 u hu] at h; cases h
  ·refine J.base s av h1 (fun u hu hl e=>?_)
   rcases K.pl.t t.p hq u.p (K.inq u hu) s hs e with h | h
   ·obtain ⟨x,hx,Sa⟩:=f3 _ h
    have:=K.un x (f1 x hx) u hu Sa
    rw [← this] at e
    exact h2 x hx e
   ·exact hn (J.dc u.p (K.inq u hu) hl _ h)
 have hw:Region.wanted t.p.o (yielded all.toArray a.tmps)=t.w:=by
  refine Dw (M:=M) (r:=r) (fun j want o' d av h1 h2 h3 h4=>?_) f4
  have hj:=K.pl.g t.p hq j want h1
  obtain ⟨x,hx,Sa⟩:=f3 j hj
  have Ze:x.p.o=o':=by
   have:=(K.pl.pt x.p (K.inq x (f1 x hx))).1
   rw [Sa,h2] at this
   exact (Option.some.inj this).symm
  rw [← Ze] at h3
  rcases src d av h4 with ⟨u,hu,g1,g2⟩ | ⟨g1,g2⟩
  ·have:=K.pl.w u.p (K.inq u (f1 u hu)) x.p (K.inq x (f1 x hx)) d g1 h3
   rw [← g2]
   exact J.bc u (f1 u hu) (by rw [this,Sa]; exact hd j hj) d g1
  ·exact (g2 x hx h3).elim
 obtain ⟨h,hh,hR,hE⟩:=J.rel
 have UA:=ic.Jj K J ht hn hd
 have Sr:=ic.U6 K J ht hn hd
 have gP:=K.st t ht c h hh UA Sr
 have P0:t.p.k=0∨t.p.k=1∨t.p.k=2:=by rw [Un]; exact uU _
 unfold wpOp
 have BW:all.toArray[t.p.i]?=some t.p.o:=by simpa using ho
 rw [BW]
 simp only
 rw [hw]
 cases Kg:t.w with
 | false =>
  simp only [Bool.false_eq_true,if_false]
  have hv:VA M t.v undef:=by rw [F.f Kg]; exact ⟨[],rfl,trivial⟩
  by_cases hk:t.p.k=2
  ·obtain ⟨za,zb,zc,l1,l2,_,l4,l5,l6⟩:=F.ld hk
   have hc:=ic.NI K J ht hn hd hk
   rw [hc] at l1 l2 l6
   rw [hh] at l1
   cases l1
   have:=l4 Kg
   subst this
   exact ⟨c+1,M,ic.Ph K J ht hn hd hk hh l2 (Ext.refl _ _) hR hv l5 l6 (fun u hu h1 h2 h3=>ic.Pg K J hh hu h1 h2 h3)⟩
  ·exact ⟨c,M,ic.still K J ht hn hd hk hv⟩
 | true =>
  simp only [if_true]
  refine .inl ?_
  obtain ⟨Sh,eS⟩:=Ch slot (f5 Kg)
  rcases P0 with hk | hk | hk
  ·obtain ⟨u,run,hu⟩:=Bi (w:=w) (a:=a) (M:=M) O.t hR.hp eS J.df (ze gP Kg hk) Sh
   unfold Oper.wp
   rw [run]
   exact ⟨c,M,ic.still K J ht hn hd (by rw [hk]; decide) hu⟩
  ·obtain ⟨f,b,n1,n2⟩:=F.nw Kg hk
   obtain ⟨f',b',s1,s2,s3⟩:=ux gP Kg hk
   rw [n1] at s1
   cases s1
   have WC:lK t=true:=by simp [lK,Kg,hk]
   obtain ⟨hM,hz⟩:=J.pr t ht WC UA hn
   obtain ⟨v,en,w',run,h1,h2,h3⟩:=Fy (k:=t.n) (w:=w) (a:=a) (M:=M) O.t hM n1 Sh
   unfold Oper.wp
   rw [run]
   refine ⟨c,ki M t.n en,ic.mkb K J ht hn hd hk WC hh hM hz ?_ ?_⟩
   ·exact hR.FE hM s3 (fun x hx=>by rw [s2] at hx; exact (Option.some.inj hx).symm) h1 h3
   ·rw [n2]; exact h2
  ·obtain ⟨za,zb,zc,l1,l2,l3,_,l5,l6⟩:=F.ld hk
   have hc:=ic.NI K J ht hn hd hk
   rw [hc] at l1 l2 l6
   rw [hh] at l1
   cases l1
   have e1:oneE P tt mt tb ka idx call t.p.o t.vs h=some (t.v,zb):=by
    unfold oneE
    rw [← Un,hk]
    exact l3 Kg
   refine Fm O.t O.i O.c hR eS J.df e1 Sh (fun u w' M' h1 h2 h3=>?_)
   exact ⟨c+1,M',ic.Ph K J ht hn hd hk hh l2 h1 h3 h2 l5 l6 (fun u hu h1 h2 h3=>ic.Pg K J hh hu h1 h2 h3)⟩
end
theorem vl (e:Edge):Region.binds .any e=Od e:=by
 unfold Region.binds Od
 cases e.ground <;> rfl
theorem Ck (hI:vy P idx) (T:TOK P tt mt tb ka) (hm:P.follows .mixedOrders=true) (hC:oY P call):np P tt mt tb ka idx call:=by
 intro nt w0 M a w r z r' z' id ops Q h R e k
 have O:OK P tt mt tb ka idx call:=⟨T,hI,hC,hm⟩
 refine wp_region_any hm ?_
 have e:QN P tt mt tb ka idx call nt ops.toList r z (xD ops.toList)=some (r',z'):=e
 cases hp:xD ops.toList with
 | none=>rw [hp] at e; cases e
 | some q =>
  rw [hp] at e
  have pl:=zB hp
  have e:drFin P tt mt tb ka (yq P tt mt tb ka idx call nt ops.toList q ⟨r,z,[],[]⟩)=some (r',z'):=e
  cases hd:yq P tt mt tb ka idx call nt ops.toList q ⟨r,z,[],[]⟩ with
  | none=>rw [hd] at e; cases e
  | some dF =>
   rw [hd] at e
   have e:(Bool.rec none (some (dF.r,dF.z)) (Cl P tt mt tb ka dF (List.reverse (dF.z :: dF.hs))):Option (Go.Ex.R × Z))=some (r',z'):=e
   cases hc:Cl P tt mt tb ka dF (List.reverse (dF.z :: dF.hs)) with
   | false=>rw [hc] at e; cases e
   | true =>
    rw [hc] at e
    cases e
    have run:=ve hd
    obtain ⟨h0,rest,nw,e1,e2,e3,e4,e5,e6,e7,e8⟩:=run.facts (r0:=r) pl.ord rfl (fun j=>by simp) (fun u hu=>by cases hu) (fun u hu=>by cases hu) (fun s av hs=>.inr ⟨hs,fun u hu=>by cases hu⟩) pl.pt
    have e3:dF.tk=nw:=by simpa using e3
    have e1:(dF.z :: dF.hs).reverse=h0 :: rest:=by simpa using e1
    rw [Cl,Bool.and_eq_true] at hc
    have gP:∀ (l:List Tk),(List.rec true (fun t _ r=>(mS P tt mt tb ka t t.p.c t.p.hi (List.reverse (dF.z :: dF.hs)) && r)) l:Bool)=true→∀ t∈l,mS P tt mt tb ka t t.p.c t.p.hi (List.reverse (dF.z :: dF.hs))=true:=by
     intro l
     induction l with
     | nil=>intro _ t ht; cases ht
     | cons x l ih =>
      intro h t ht
      have h:=(Bool.and_eq_true _ _ ▸ (show (mS P tt mt tb ka x x.p.c x.p.hi (List.reverse (dF.z :: dF.hs)) && _)=true from h))
      rcases List.mem_cons.1 ht with rfl | ht
      ·exact h.1
      ·exact ih h.2 t ht
    have K:ic P tt mt tb ka idx call nt ops.toList r z q dF.tk (dF.z :: dF.hs).reverse :=
     ⟨pl,fun t ht=>(e8 t (by rw [← e3]; exact ht)).1,run.uniq pl.ord (fun u hu=>by cases hu) (fun t ht=>by cases ht),fun p hp=>by rw [e3]; exact e4 p hp,fun t ht=>e5 t (by rw [← e3]; exact ht),
      fun t ht c z hz h1 h2=>tX (gP _ hc.1 t ht) hz h1 h2,(qP hc.2).2⟩
    refine Cu (I:=fun L a w=>∃ c M',Inv w0 z M nt r q dF.tk (dF.z :: dF.hs).reverse L a w c M') ?_ ?_ ops.size _ _ _ (by simp) ?_ ?_
    ·rintro L a w i o ⟨c,M',J⟩ ho hn hd
     obtain ⟨p,hp,Zw⟩:=pl.cov i (by have:=(Array.getElem?_eq_some_iff.1 ho).1; simpa using this)
     obtain ⟨t,ht,Pv⟩:=K.ex p hp
     subst Zw
     subst Pv
     have MK:=pl.pt t.p hp
     have ZC:o=t.p.o:=by
      have:=MK.1
      rw [Array.getElem?_toList,ho] at this
      exact Option.some.inj this
     subst ZC
     exact ic.step O K J ht hn (fun j hj=>by
      rw [MK.2.2] at hj
      obtain ⟨x,hx,hb,rfl⟩:=(qN _ _).1 hj
      exact hd x (by simpa using hx) (by rw [vl]; exact hb))
    ·rintro L a w ⟨c,M',J⟩ hL
     have Rb:∀ p∈q,L p.i:=pl.ord.all (fun j h=>h.elim) (fun p hp hj=>by
      have MK:=pl.pt p hp
      refine hL p.i p.o (by rw [← Array.getElem?_toList]; exact MK.1) (fun x hx hb=>hj _ ?_)
      rw [MK.2.2]
      exact (qN _ _).2 ⟨x,by simpa using hx,by rw [← vl]; exact hb,rfl⟩)
     have hcl:c=hX q:=by
      rcases Nat.lt_or_ge c (hX q) with h | h
      ·obtain ⟨p,h1,h2,h3⟩:=pl.ord.ex c h
       have:=(J.ld p h1 h2).1 (Rb p h1)
       omega
      ·exact Nat.le_antisymm J.le h
     obtain ⟨h,hh,hR,hE⟩:=J.rel
     have hlen:dF.hs.length=hX q:=by
      have:=congrArg List.length e1
      simp at this
      omega
     have hz:h=dF.z:=by
      rw [hcl,← hlen,List.reverse_cons,List.getElem?_append_right (by simp)] at hh
      simpa using hh.symm
     subst hz
     refine k a w ⟨M',hE,⟨J.sz,J.df,fun s av hs=>?_⟩,hR⟩
     rcases e6 s av hs with ⟨u,h1,h2,h3⟩ | ⟨h1,h2⟩
     ·rw [← h3]; exact J.bc u h1 (Rb _ (K.inq u h1)) s h2
     ·exact J.base s av h1 (fun u hu _=>h2 u hu)
    ·simp
    ·have hF:∀ j,((Array.replicate ops.size false).getD j false=true)↔False:=fun j=>by
      simp only [iff_false,Bool.not_eq_true]
      rw [Array.getD]
      split <;> simp
     have R':Rel w0 M z { w with drawn:=w.drawn+1 }:=⟨R.os,R.tape,R.output,R.size,R.old,R.nx,R.fresh,R.inj,fun i x en h1 h2=>(R.hp i x en h1 h2).mono (Le.refl M) (fun _ _=>rfl)⟩
     refine ⟨0,M,h.size,h.defers,Nat.zero_le _,fun p hp _=>by simp only [hF]; simp,fun p hp _ hl=>((hF _).1 hl).elim,fun p hp hl=>((hF _).1 hl).elim,⟨h0,by rw [e1]; rfl,e2.2 _ _ _ R',⟨Le.refl M,fun _ _=>rfl,e2.1⟩⟩,
      fun t ht hl=>((hF _).1 hl).elim,fun s av hs _=>h.bc s av hs,fun t ht h1 h2 _=>?_⟩
     have:=(e8 t (by rw [← e3]; exact ht)).2 (by omega) h1
     exact ⟨R.nx _ this,this⟩
end
end Go.Ex
namespace Go.Ex
open Go Go.Sv
theorem Rel.prune {w0 w:World} {M:Mp} {z z2:Z} (R:Rel w0 M z w) (h:∀ i x,get z2.h i=some x→get z.h i=some x) (hn:z2.n=z.n):Rel w0 M z2 w :=
 ⟨R.os,R.tape,R.output,R.size,R.old,fun i hi=>R.nx i (by omega),R.fresh,fun i j x y e e' b h1 h2=>R.inj i j x y e e' b (h i x h1) (h j y h2),fun i x e h1 h2=>R.hp i x e (h i x h1) h2⟩
theorem RR.prune {nt:Nat} {M:Mp} {r r2:Go.Ex.R} {a:Act} (R:RR nt M r a) (h:∀ t av,get r2 t=some av→get r t=some av):RR nt M r2 a :=
 ⟨R.size,R.defers,fun t av e=>R.bc t av (h t av e)⟩
noncomputable def tS {α:Type} (l:List (Nat × α)):Tr α:=l.foldr (fun q t=>set 12 t q.1 (some q.2)) .e
theorem wc {α:Type}:∀ {l:List (Nat × α)} {i:Nat} {x:α},get (tS l) i=some x→(i,x)∈l
 | [],i,x,h=>by cases h
 | q :: l,i,x,h=>by
  rcases jd _ _ _ _ _ _ (show get (set 12 (tS l) q.1 (some q.2)) i=some x from h) with ⟨h1,h2⟩ | ⟨_,h⟩
  ·cases h2; subst h1; exact List.mem_cons_self
  ·exact List.mem_cons_of_mem _ (wc h)
noncomputable def cmpO {α:Type} (f:α→α→Bool):Option α→α→Bool
 | some x,y=>f x y
 | none,_=>false
noncomputable def EV {α:Type} (f:α→α→Bool) (t:Tr α) (l:List (Nat × α)):Bool:=List.rec true (fun q _ r=>cmpO f (get t q.1) q.2 && r) l
theorem nv {α:Type} {f:α→α→Bool} (hf:∀ {x y},f x y=true→x=y) {t:Tr α}:∀ {l:List (Nat × α)},EV f t l=true→∀ q∈l,get t q.1=some q.2
 | [],_,q,hq=>by cases hq
 | y :: l,h,q,hq=>by
  have h:(cmpO f (get t y.1) y.2 && EV f t l)=true:=h
  rw [Bool.and_eq_true] at h
  rcases List.mem_cons.1 hq with rfl | hq
  ·cases hg:get t q.1 with
   | none=>rw [hg] at h; exact absurd h.1 (by simp [cmpO])
   | some x =>
    rw [hg] at h
    rw [hf (show f x q.2=true from h.1)]
  ·exact nv hf h.2 q hq
noncomputable def nc (rl:List (Nat × AV)) (hl:List (Nat × Bk)) (n:Nat):Option (X × R × Z)→Bool
 | some (.n,r,z)=>Nat.beq z.n n && (EV sameAV r rl && EV sameBk z.h hl)
 | _=>false
theorem NC {w0:World} {nt:Nat} {M:Mp} {z0:Z} {rl:List (Nat × AV)} {hl:List (Nat × Bk)} {n:Nat} {y:Option (X × Go.Ex.R × Z)} (h:nc rl hl n y=true) :
  ∃ r z,y=some (.n,r,z)∧∀ a w,St' w0 nt M z0 r z a w→St' w0 nt M z0 (tS rl) ⟨tS hl,n⟩ a w:=by
 unfold nc at h
 split at h
 ·rename_i r z
  simp only [Bool.and_eq_true] at h
  refine ⟨r,z,rfl,fun a w ⟨M',h1,h2,h3⟩=>⟨M',⟨h1.le,h1.same,?_⟩,h2.prune (fun t av e=>?_),h3.prune (fun i x e=>?_) (beq_iff.1 h.1).symm⟩⟩
  ·have:=h1.n
   rw [beq_iff.1 h.1] at this; exact this
  ·exact nv uA h.2.1 _ (wc e)
  ·exact nv qo h.2.2 _ (wc e)
 ·cases h
end Go.Ex
