/- Lemmas. Conditions: their own. -/
import Derived.Test.YtmgahplojkmcaaaGreatTeO
set_option linter.all false
namespace Go.Te
open Go Go.Sv Go.Proofs.Y
section
structure Rg (X:Cx) (all:List Oper) (dr:Bool) (S:World->Prop) (pb:List Nat) (Es:En) (ws:World) (χs:Nat->Nat) (so s:TS) (E:En) (a:Act) (w:World) (χ:Nat->Nat):Prop where
 cur:∃sy,bX X s E sy a w χ
 VZ:dr=true->∃sys,bX X so Es sys a ws χs
 iff:dr=true->∀w1,S w1↔zh so Es χs ws w1
 now:dr=true->S w
 dt:dr=true->∀b,b<ws.heap.size->Kn so Es χs b->χ b=χs b
 m0:dr=true->M0 ws χs w χ
 keys:dr=true->∀t x,aa so.al t=some x->∃y,aa s.al t=some y
 box:dr=true->∀id t cs,aa so.boxes id=some (t,cs)->aa s.boxes id=some (t,cs)/\cs.length<=64/\E.ρ id=Es.ρ id
 own:dr=true->∀k x,aa so.own k=some x->aa s.own k=some x/\E.σ k=Es.σ k/\E.κ k=Es.κ k/\E.c k=Es.c k
 aZ:dr=true->∀k x,aa so.aZ k=some x->aa s.aZ k=some x/\E.μ k=Es.μ k/\E.m k=Es.m k
 pbx:dr=true->∀id∈pb,(∃x,aa s.boxes id=some x)/\E.ρ id=Es.ρ id/\∀o∈all,∀d,o.dst=some d->id≠d+1+X.nb
section
variable{P:Program}{T:Tb}{w:World}{χ:Nat->Nat}{E:En}{s so:TS}{X:Cx}{sy:Sy}{a:Act}
variable{all:List Oper}{nrm ret:Act->World->Prop}{exs:List (Nat×(Act->World->Prop))}{S:World->Prop}{dr:Bool}{li li':Array Bool}{pb:List Nat}{Es:En}{ws:World}{χs:Nat->Nat}{k:TS->Prop}
theorem ff{p:Prop}(h:false=true):p:=Bool.noConfusion h
theorem Dn{x:TV}{y:S0}(h:PR ws χs x y)(hl:CS pb x=true)(hp:∀id∈pb,E.ρ id=Es.ρ id):bT E.ρ y=bT Es.ρ y:=by
 rcases h with⟨id,off,rfl,rfl⟩|⟨v,rfl,_⟩
 .show Value.pointer (some ⟨E.ρ id,off,none⟩)=Value.pointer (some ⟨Es.ρ id,off,none⟩);rw[hp id (any_beq.1 hl)]
 .rfl
theorem Fu(hp:∀id∈pb,E.ρ id=Es.ρ id):∀{l:List TV} {q:List S0},FL (PR ws χs) l q->l.all (CS pb)=true->q.map (bT E.ρ)=q.map (bT Es.ρ)
 |[],[],_,_=>rfl
 |[],_::_,h,_=>h.elim
 |_::_,[],h,_=>h.elim
 |x::l,y::q,h,hl=>by rw[cd,ak]at hl;rw[ba,ba,Dn h.1 hl.1 hp,Fu hp h.2 hl.2]
theorem JH(hp:∀id∈pb,E.ρ id=Es.ρ id):∀{l:List (Bool×List TV)} {q:List S0},FL (FR ws χs) l q->l.all (λx=>x.2.all (CS pb))=true->q.map (bT E.ρ)=q.map (bT Es.ρ)
 |[],[],_,_=>rfl
 |[],_::_,h,_=>h.elim
 |_::_,[],h,_=>h.elim
 |(b,x)::l,y::q,h,hl=>by
  rw[cd,ak]at hl;rw[ba,ba,JH hp h.2 hl.2];congr 1;have h1:=h.1;cases b with
  |false=>match x,h1,hl with
   |[z],h1,hl=>exact Dn h1 (by simpa using hl.1) hp
   |[],h1,_=>exact h1.elim
   |_::_::_,h1,_=>exact h1.elim
  |true=>cases y with
   |v v=>rfl
   |p _ _=>exact h1.elim
theorem Fs{v:RV}{sv:SV}(h:fO ws χs Es so v sv)(hl:liveR pb so s v=true)(hp:∀id∈pb,E.ρ id=Es.ρ id):aP E.ρ sv=aP Es.ρ sv:=by
 cases v with
 |g l=>obtain⟨vs,rfl,_⟩:=h;rfl
 |t l=>obtain⟨vs,rfl,_⟩:=h;rfl
 |s x =>
  cases x with
  |p id off=>cases h;exact Dn (ws:=ws) (χs:=χs) (.inl ⟨id,off,rfl,rfl⟩) hl hp
  |f fn fi cp=>obtain⟨f,c,rfl,h1,h2⟩:=h;have hl:(fi.all (λx=>x.2.all (CS pb))&&cp.all (CS pb))=true:=hl;rw[ak]at hl;show Value.func _ _ _=Value.func _ _ _;rw[JH hp h1 hl.1,Fu hp h2 hl.2]
  |o k=>obtain⟨v,rfl,_⟩:=h;rfl
  |m k=>obtain⟨v,rfl,_⟩:=h;rfl
  |e k i off=>obtain⟨v,rfl,_⟩:=h;rfl
  |a c x off=>obtain⟨b,o,rfl,_⟩:=h;rfl
  |j=>cases hl
  |md _ _=>obtain⟨v,_,h⟩:=h;exact h.elim
  |_=>obtain⟨v,rfl,_⟩:=h;rfl
theorem Ph{v:RV}(hl:liveR pb so s v=true):∀y∈Dw v,live1 pb so s y=true:=by
 intro y hy;cases v with
 |s x=>cases aY.1 hy;exact hl
 |g l=>exact aO.1 hl y hy
 |t l=>exact aO.1 hl y hy
theorem ED{v:RV}(hl:liveR pb so s v=true){id:Nat}(h:id∈MH v):id∈pb:=by
 cases v with
 |t l =>
  obtain⟨y,hy,h⟩:=cf.1 h;cases y with
  |s v=>cases v with
   |p i off=>cases aY.1 h;exact any_beq.1 (aO.1 hl (.p id off) (cf.2 ⟨_,hy,aY.2 rfl⟩))
   |_=>cases h
  |_=>cases h
 |_=>cases h
theorem Xq(R:Rg X all true S pb Es ws χs so s E a w χ){y:TV}(hl:live1 pb so s y=true):Nm Es E so s y:=by
 have key:∀k,liveK so s k=true->(∀mQ,aa s.own k=some mQ->∃ow,aa so.own k=some ow/\ow.l.length=mQ.l.length/\ow.c=mQ.c/\E.σ k=Es.σ k/\E.κ k=Es.κ k)/\(∀mp',aa s.aZ k=some mp'->∃mp,aa so.aZ k=some mp/\E.μ k=Es.μ k):=by
  intro k hk;unfold liveK at hk;rw[ak,dS,dS]at hk;refine⟨λmQ e=>?_,λmp' e=>?_⟩
  .rcases hk.1 with h|h
   .obtain⟨ow,how⟩:=bR.1 h;grind[R.own]
   grind
  .rcases hk.2 with h|h
   .obtain⟨mp,hmp⟩:=bR.1 h;obtain⟨h1,h2,h3⟩:=R.aZ rfl k mp hmp;grind
   grind
 intro k hk;cases y with
 |o j=>cases aD (show Nat.beq j k=true from hk);exact key _ hl
 |m j=>cases aD (show Nat.beq j k=true from hk);exact key _ hl
 |e j _ _=>cases aD (show Nat.beq j k=true from hk);exact key _ hl
 |_=>cases hk
theorem Rg.uh(R:Rg X all dr S pb Es ws χs so s E a w χ){DT s':TS}{a':Act}(e1:s'.boxes=s.boxes)(e2:s'.own=s.own)(e3:s'.aZ=s.aZ)(f1:DT.boxes=so.boxes)(f2:DT.own=so.own)(f3:DT.aZ=so.aZ)(cur:∃sy,bX X s' E sy a' w χ)(VZ:dr=true->∃sys,bX X DT Es sys a' ws χs)(keys:dr=true->∀t x,aa DT.al t=some x->∃y,aa s'.al t=some y):Rg X all dr S pb Es ws χs DT s' E a' w χ :=
 have kn:∀b,Kn DT Es χs b↔Kn so Es χs b:=λb=>by unfold Kn;rw[f1,f2,f3]
 ⟨cur,VZ,λh w1=>by rw[R.iff h w1];exact⟨λg b hb hk=>g b hb ((kn b).1 hk),λg b hb hk=>g b hb ((kn b).2 hk)⟩,R.now,λh b hb hk=>R.dt h b hb ((kn b).1 hk),R.m0,keys,λh id t cs e=>by rw[e1];rw[f1]at e;exact R.box h id t cs e,λh k x e=>by rw[e2];rw[f2]at e;exact R.own h k x e,λh k x e=>by rw[e3];rw[f3]at e;exact R.aZ h k x e,λh id hi=>by rw[e1];exact R.pbx h id hi⟩
theorem Uv(hh:zZ so s=true){id t:Nat}{cs:List TV}(e:aa so.boxes id=some (t,cs)){off:Nat}(ho:off<64):2*(64*id+off)∉s.ca:=λhm=>by
 have:=aO.1 hh _ hm;rw[show(2*(64*id+off))%2=0 from by omega,show(2*(64*id+off))/2/64=id from by omega,e]at this;cases this
theorem yV(hh:zZ so s=true){k:Nat}:(∀x,aa so.own k=some x->2*k+1∉s.ca)/\∀x,aa so.aZ k=some x->2*k+1∉s.ca:=by
 have key:2*k+1∈s.ca->(aa so.own k).isNone=true/\(aa so.aZ k).isNone=true:=λhm=>by have:=aO.1 hh _ hm;rw[show(2*k+1)%2=1 from by omega,show(2*k+1)/2=k from by omega]at this;simp_all
 grind
theorem nF{all:List Oper}{o:Oper}{d:Nat}(h:o∈all)(hd:o.dst=some d):d∈Sv.dstsOf all:=by
 induction all with
 |nil=>cases h
 |cons x l ih=>grind[Sv.dstsOf]
theorem P8{all:List Oper}{j tc:Nat}(h:oT all j=some tc):tc∈Sv.dstsOf all:=by
 unfold oT at h;split at h
 .rename_i o ho;exact nF (eR ho) h
 grind
theorem GI{α:Type}{ds:List Nat}{l:List (Nat×α)}{t:Nat}(h:t∉ds):aa (j5 ds l) t=aa l t:=tG (f:=λi=>!ds.any (Nat.beq i)) (by rw[bl.2 h];rfl)
theorem Dk{all:List Oper}{o:Oper}(h:o∈all):∀t∈dl o.dst,t∈Sv.dstsOf all:=by
 intro t ht;cases hd:o.dst with
 |none=>rw[hd]at ht;cases ht
 |some d=>rw[hd]at ht;cases aY.1 ht;exact nF h hd
theorem Rg.aeT(R:Rg X all dr S pb Es ws χs so s E a w χ){o:Option Nat}(hd:∀d,o=some d->d<X.n){v:RV}{u:Value}(h1:∃sv,fO w χ E s v sv/\aP E.ρ sv=u)(h2:dr=true->∃sv,fO ws χs Es so v sv/\aP Es.ρ sv=u):Rg X all dr S pb Es ws χs (put so o v) (put s o v) E (a.put o u) w χ:=by
 have pe:∀s:TS,(put s o v).boxes=s.boxes/\(put s o v).own=s.own/\(put s o v).aZ=s.aZ:=λs=>by cases o<;>exact⟨rfl,rfl,rfl⟩
 refine R.uh (pe s).1 (pe s).2.1 (pe s).2.2 (pe so).1 (pe so).2.1 (pe so).2.2 ?_ (λh=>?_) λh t x e=>?_
 .obtain⟨sy,h⟩:=R.cur;obtain⟨sv,h3,h4⟩:=h1;rw[←h4];exact OT h hd h3
 .obtain⟨sy,h'⟩:=R.VZ h;obtain⟨sv,h3,h4⟩:=h2 h;rw[←h4];exact OT h' hd h3
 .cases o with
  |none=>exact R.keys h t x e
  |some d =>
   rcases aA e with⟨e1,e2⟩|⟨e1,e2⟩
   .subst e1;exact⟨_,look_eq⟩
   .obtain⟨y,hy⟩:=R.keys h t x e2;exact⟨y,(bd e1).trans hy⟩
theorem aaN{li:Array Bool}{i:Nat}(h:(match Region.ready .any all.toArray li with|[j]=>Nat.beq j i|_=>false)=true):Region.ready .any all.toArray li=[i]:=by
 split at h
 .simp_all
 grind
theorem Cg{o:Option Qr}{v:RV}(h:EB o=some v):∃q,o=some q/\q.pre=none/\q.v=v:=by
 unfold EB at h;grind
theorem U3(h:bX X s E sy a w χ){op:Op}{v:RV}(e:cpy s op=some v):∃sv,fO w χ E s v sv/\∀d ty pos af g w1,(execOp a.eval ⟨d,op,ty,pos,af,g⟩).run P w1=.ok (.value (aP E.ρ sv)) w1:=by
 have mv:∀{x:Operand},ev s x=some v->∃sv,fO w χ E s v sv/\a.eval x=aP E.ρ sv:=λhx=>by obtain⟨sv,h1,h2⟩:=bq h hx;exact⟨sv,h2,h.st.cu h1⟩
 unfold cpy at e;split at e
 .obtain⟨sv,h1,h2⟩:=mv e;exact⟨sv,h1,λd ty pos af g w1=>by simp[execOp,h2]⟩
 .obtain⟨sv,h1,h2⟩:=mv e;exact⟨sv,h1,λd ty pos af g w1=>by simp[execOp,h2]⟩
 .rename_i x i;unfold qExtract at e;split at e
  .rename_i l hx;obtain⟨sv,h1,vs,rfl,h2⟩:=bq h hx;obtain⟨u,e1,e2⟩:=h2.get i v e;have ex:a.eval x=.tuple vs.toArray:=h.st.cu h1;have key:∀sv,aP E.ρ sv=u->fO w χ E s v sv->∃sv,fO w χ E s v sv/\∀d ty pos af g w1,(execOp a.eval ⟨d,.extract x i,ty,pos,af,g⟩).run P w1=.ok (.value (aP E.ρ sv)) w1:=λsv hc hr=>⟨sv,hr,λd ty pos af g w1=>by simp[execOp,ex,Instr.extract,e1,hc]⟩
   cases v with
   |s y=>cases y with
    |p id off=>exact key (Pt id off) (Eq.symm e2) rfl
    |_=>exact key (V u) rfl e2
   |g l=>exact key (V u) rfl e2
   |t l=>exact e2.elim
  grind
 grind
theorem G3{w':World}{χ':Nat->Nat}{E':En}{s':TS}{x:TV}{sv:SV}(hx:flat1 x=true)(h:TR w χ E s x sv):TR w' χ' E' s' x sv/\aP E'.ρ sv=aP E.ρ sv:=by
 cases x<;>first|(cases hx;done)|(obtain⟨v,rfl,hv⟩:=h;exact⟨⟨v,rfl,hv⟩,rfl⟩)
theorem G4{w':World}{χ':Nat->Nat}{E':En}{s':TS}:∀{l:List TV} {vs:List Value},l.all flat1=true->FL (λx v=>TR w χ E s x (V v)/\v.oneCell'=true) l vs->FL (λx v=>TR w' χ' E' s' x (V v)/\v.oneCell'=true) l vs
 |[],[],_,_=>trivial
 |[],_::_,_,h=>h.elim
 |_::_,[],_,h=>h.elim
 |x::l,v::vs,hl,h=>by rw[cd,ak]at hl;exact⟨⟨(G3 hl.1 h.1.1).1,h.1.2⟩,G4 hl.2 h.2⟩
theorem NJ{w':World}{χ':Nat->Nat}{E':En}{s':TS}:∀{l:List RV} {vs:List Value},l.all (λv=>match v with | .s x=>flat1 x | .g q=>q.all flat1 | .t _=>false)=true->FL (Kj w χ E s) l vs->FL (Kj w' χ' E' s') l vs
 |[],[],_,_=>trivial
 |[],_::_,_,h=>h.elim
 |_::_,[],_,h=>h.elim
 |x::l,v::vs,hl,h=>by
  rw[cd,ak]at hl;refine⟨?_,NJ hl.2 h.2⟩;have h1:=h.1;have h2:=hl.1;cases x with
  |s y=>cases y<;>first|(cases h2;done)|exact(G3 (E:=E) (s:=s) (w':=w') (χ':=χ') (E':=E') (s':=s') h2 h1).1
  |g q=>obtain⟨vs,e,h3⟩:=h1;exact⟨vs,e,G4 h2 h3⟩
  |t q=>cases h2
theorem UO{w':World}{χ':Nat->Nat}{E':En}{s':TS}{v:RV}{sv:SV}(hv:Jq v=true)(h:fO w χ E s v sv):fO w' χ' E' s' v sv/\aP E'.ρ sv=aP E.ρ sv:=by
 cases v with
 |s x=>exact G3 (x:=x) hv h
 |g l=>obtain⟨vs,rfl,h⟩:=h;exact⟨⟨vs,rfl,G4 hv h⟩,rfl⟩
 |t l=>obtain⟨vs,rfl,h⟩:=h;exact⟨⟨vs,rfl,NJ hv h⟩,rfl⟩
theorem tT{d:Option Nat}{t:Nat}{x:RV}(e:aa (forgetD s d).al t=some x):aa s.al t=some x/\d≠some t:=by
 cases d with
 |none=>exact⟨e,by simp⟩
 |some d=>obtain⟨e1,e2⟩:=bg (f:=λi=>!([d]:List Nat).any (Nat.beq i)) e;refine⟨e2,λhe=>?_⟩;simp_all
theorem zB{d:Option Nat}{v:Option RV}{t:Nat}{x:RV}(e:aa (Cd s d v).al t=some x):(aa s.al t=some x/\d≠some t)∨(d=some t/\v=some x):=by
 cases v with
 |none=>exact .inl (tT e)
 |some v=>cases d with
  |none=>exact .inl ⟨e,by simp⟩
  |some d=>rcases aA e with⟨e1,e2⟩|⟨e1,e2⟩
           .grind
           .grind
theorem CW{d:Option Nat}{t:Nat}{x:RV}(e:aa (qS so s d).al t=some x):(aa so.al t=some x/\d≠some t)∨(d=some t/\aa s.al t=some x/\Jq x=true):=by
 unfold qS at e;split at e
 .split at e
  .rename_i v hv;cases hf:Jq v with
   |true =>
    rw[hf]at e;rcases zB (v:=some v) e with h|⟨h1,h2⟩
    .grind
    grind
   |false=>rw[hf]at e;exact .inl (tT e)
  grind[tT]
 grind
theorem IJ{d:Option Nat}:(qS so s d).boxes=so.boxes/\(qS so s d).own=so.own/\(qS so s d).aZ=so.aZ:=by
 unfold qS;split
 .split
  .rename_i v _;cases Jq v<;>exact⟨rfl,rfl,rfl⟩
  .exact⟨rfl,rfl,rfl⟩
 grind
theorem Rg.Cd(R:Rg X all dr S pb Es ws χs so s E a w χ){o:Option Nat}(hd:∀d,o=some d->d<X.n){v:RV}{vo:Option RV}{u:Value}(h1:∃sv,fO w χ E s v sv/\aP E.ρ sv=u)(h2:dr=true->∀v',vo=some v'->∃sv,fO ws χs Es so v' sv/\aP Es.ρ sv=u):Rg X all dr S pb Es ws χs (Cd so o vo) (put s o v) E (a.put o u) w χ:=by
 have pe:∀s:TS,(put s o v).boxes=s.boxes/\(put s o v).own=s.own/\(put s o v).aZ=s.aZ:=λs=>by cases o<;>exact⟨rfl,rfl,rfl⟩
 have pc:(Go.Te.Cd so o vo).boxes=so.boxes/\(Go.Te.Cd so o vo).own=so.own/\(Go.Te.Cd so o vo).aZ=so.aZ:=by cases vo<;>cases o<;>exact⟨rfl,rfl,rfl⟩
 have cur:∃sy,bX X (put s o v) E sy (a.put o u) w χ:=by obtain⟨sy,h⟩:=R.cur;obtain⟨sv,h3,h4⟩:=h1;rw[←h4];exact OT h hd h3
 refine R.uh (pe s).1 (pe s).2.1 (pe s).2.2 pc.1 pc.2.1 pc.2.2 cur (λh=>?_) λh t x e=>?_
 .obtain⟨sys,h'⟩:=R.VZ h;obtain⟨sy,hc⟩:=cur;refine h'.uh pc.1 pc.2.1 pc.2.2 hc.st.size hc.st.defers λt x e=>?_;rcases zB e with⟨h1,h2⟩|⟨rfl,h3⟩
  .refine .inl ⟨h1,?_⟩;cases o with
   |none=>rfl
   |some d=>simp only[Act.put];rw[jL λe=>h2 (by rw[e])]
  .obtain⟨sv,h4,h5⟩:=h2 h x h3;refine .inr ⟨sv,h4,?_⟩;have:=h'.st.size;grind[only,Act.put,Array.getElem?_setIfInBounds_self_of_lt]
 .rcases zB e with⟨h1,h2⟩|⟨rfl,h3⟩
  .obtain⟨y,hy⟩:=R.keys h t x h1;cases o with
   |none=>exact⟨y,hy⟩
   |some d=>exact⟨y,(bd λe=>h2 (by rw[e])).trans hy⟩
  .exact⟨v,look_eq⟩
theorem Ix(TT:gW P T)(HC:nY P T X)(hn:HX T X){o:Oper}(R:Rg X all true S pb Es ws χs so s E a w χ)(hin:o∈all)(hd:∀d,o.dst=some d->d<X.n)(h:bX X s E sy a w χ)(Kd:bK all sy o.guard=true){kt:TS->Prop}(ht:oneT T s o kt){K:Act->World->Prop}
  (kk:∀s' E' a' w' χ',kt s'->(zZ so s'=true->S w'/\Rg X all true S pb Es ws χs (qS so s' o.dst) s' E' a' w' χ')->Fr (Sv.dstsOf all) s s'->Kp s s' E E' w w' χ χ'->K a' w'):pJ P all.toArray (Sv.qs nrm ret exs) o K a w:=by
 refine CA TT HC h hn Kd hd ht λs' E' sy' a' w' χ' h1 h2 A F=>?_;refine kk s' E' a' w' χ' h1 (λhh=>?_) (F.wk (Dk hin)) A.kp;have fe:(qS so s' o.dst).boxes=so.boxes/\(qS so s' o.dst).own=so.own/\(qS so s' o.dst).aZ=so.aZ:=IJ;have amR:∀{id t cs},aa so.boxes id=some (t,cs)->∀off,off<cs.length->2*(64*id+off)∉s'.ca:=λe off ho=>Uv hh e (dH ho (R.box rfl _ _ _ e).2.1);have keep:∀b,b<ws.heap.size->Kn so Es χs b->w'.heap[b]?=ws.heap[b]?/\χ' b=χs b:=λb hb hk=>by
  have hs:=(R.iff rfl w).1 (R.now rfl) b hb hk;have hc:=R.dt rfl b hb hk;have PT:b<w.heap.size:=dH hb (R.m0 rfl).size;have fin:(w'.heap[b]?=w.heap[b]?/\χ' b=χ b)->w'.heap[b]?=ws.heap[b]?/\χ' b=χs b:=λ⟨g1,g2⟩=>⟨g1.trans hs,g2.trans hc⟩
  rcases hk with hk|⟨id,⟨t,cs⟩,hk,e⟩|⟨k,x,hk,e⟩|⟨k,x,hk,e⟩
  .grind[A.m0.keep]
  .obtain⟨g1,_,g2⟩:=R.box rfl id t cs hk;exact fin (A.keep b PT (.inl ⟨id,t,cs,g1,e.trans g2.symm,amR hk⟩))
  .obtain⟨g1,_,_,g2⟩:=R.own rfl k x hk;exact fin (A.keep b PT (.inr (.inl ⟨k,x,g1,hc.trans (e.trans g2.symm),yV hh |>.1 x hk⟩)))
  .obtain⟨g1,_,g2⟩:=R.aZ rfl k x hk;exact fin (A.keep b PT (.inr (.inr ⟨k,x,g1,hc.trans (e.trans g2.symm),yV hh |>.2 x hk⟩)))
 have kn:∀b,Kn (qS so s' o.dst) Es χs b↔Kn so Es χs b:=λb=>by unfold Kn;rw[fe.1,fe.2.1,fe.2.2]
 have hSw:S w':=(R.iff rfl w').2 λb hb hk=>(keep b hb hk).1;refine⟨hSw,⟨⟨sy',h2⟩,λ_=>?_,λ_ w1=>(R.iff rfl w1).trans ⟨λg b hb hk=>g b hb ((kn b).1 hk),λg b hb hk=>g b hb ((kn b).2 hk)⟩,λ_=>hSw,λ_ b hb hk=>(keep b hb ((kn b).1 hk)).2,λ_=>M0.tr (R.m0 rfl) A.m0,λ_ t x e=>?_,λ_ id t cs e=>?_,λ_ q x e=>?_,λ_ q x e=>?_,λ_ id hi=>?_⟩⟩
 .obtain⟨sys,hs⟩:=R.VZ rfl;refine hs.uh fe.1 fe.2.1 fe.2.2 h2.st.size h2.st.defers λt x e=>?_;rcases CW e with⟨l1,l2⟩|⟨_,l2,l3⟩
  .obtain⟨y,hy⟩:=R.keys rfl t x l1;exact .inl ⟨l1,A.tmps t y l2 hy⟩
  .obtain⟨sv,g1,g2⟩:=h2.al t x l2;obtain⟨g3,g4⟩:=UO (w':=ws) (χ':=χs) (E':=Es) (s':=so) l3 g2;exact .inr ⟨sv,g3,by rw[g4];exact h2.st.al t sv g1⟩
 .rcases CW e with⟨l1,l2⟩|⟨_,l2,_⟩
  case inr=>exact⟨x,l2⟩
  obtain⟨y,hy⟩:=R.keys rfl t x l1;refine⟨y,(F.al t λhm=>l2 ?_).trans hy⟩;cases fp:o.dst with
  |none=>rw[fp]at hm;cases hm
  |some d=>rw[fp]at hm;cases aY.1 hm;rfl
 .rw[fe.1]at e;obtain⟨g1,g2,g3⟩:=R.box rfl id t cs e;obtain⟨dG,g4,g5,g6⟩:=F.boxes id t cs g1;have:dG=cs:=mM λj=>by grind
  grind[A.box]
 .rw[fe.2.1]at e;obtain⟨g1,g2,g3,g4⟩:=R.own rfl q x e;have hu:=(yV hh (k:=q)).1 x e;grind[A.own,F.own]
 .rw[fe.2.2]at e;obtain⟨g1,g2,g3⟩:=R.aZ rfl q x e;have hu:=(yV hh (k:=q)).2 x e;obtain⟨k1,k2⟩:=A.map q x g1 hu;exact⟨(F.aZ q hu).trans g1,k1.trans g2,k2.trans g3⟩
 .obtain⟨⟨x,g1⟩,g2,g3⟩:=R.pbx rfl id hi;obtain⟨dG,g4,_⟩:=F.boxes id x.1 x.2 g1;exact⟨⟨_,g4⟩,(A.rho id x g1 λd hd=>g3 o hin d hd).trans g2,g3⟩
theorem Rx(TT:gW P T)(HC:nY P T X)(hn:HX T X){i:Nat}{o:Oper}{l:List PO}{kt:TS->TS->Prop}(R:Rg X all dr S pb Es ws χs so s E a w χ)(hat:dr=true->Region.noSelect all.toArray=true/\all[i]?=some o)(hin:o∈all)(hd:∀d,o.dst=some d->d<X.n)(hw:∀sy,bX X s E sy a w χ->bK all sy o.guard=true)(ht:stepT T dr pb all li i o so s kt)
  (kk:∀DT s' E' a' w' χ',kt DT s'->Rg X all dr S pb Es ws χs DT s' E' a' w' χ'->Fr (Sv.dstsOf all) s s'->Kp s s' E E' w w' χ χ'->rH P all (Sv.qs nrm ret exs) S dr (li.setIfInBounds i true) l a' w'):rH P all (Sv.qs nrm ret exs) S dr li ((i,o)::l) a w:=by
 obtain⟨sy,h⟩:=R.cur;have Kd:=hw sy h;have frp:∀v,Fr (Sv.dstsOf all) s (put s o.dst v):=λv=>(Fr.put s o.dst v).wk (Dk hin);have TE:∀{kt':TS->Prop},(∀s',kt' s'->(dr=true->zZ so s'=true)/\kt (bif dr then qS so s' o.dst else so) s')->oneT T s o kt'->(dr=true->Region.ready .any all.toArray li=[i])->rH P all (Sv.qs nrm ret exs) S dr li ((i,o)::l) a w:=by
  intro kt' hk PF hr;refine RQ (λh=>⟨hr h,(hat h).2⟩) ?_;cases dr with
  |false=>refine CA TT HC h hn Kd hd PF λs' E' sy' a' w' χ' h1 h2 A F=>?_;exact⟨ff,kk so s' E' a' w' χ' (hk s' h1).2 ⟨⟨sy',h2⟩,ff,ff,ff,ff,ff,ff,ff,ff,ff,ff⟩ (F.wk (Dk hin)) A.kp⟩
  |true=>refine Ix TT HC hn R hin hd h Kd PF λs' E' a' w' χ' h1 g F K=>?_;grind
 unfold stepT at ht;cases dr with
 |false=>exact TE (kt':=λs'=>kt so s') (λs' h=>⟨ff,h⟩) ht ff
 |true =>
  split at ht
  .rename_i v hv;obtain⟨hb,ht⟩:=dU ht;rw[ak]at hb;obtain⟨sv,g1,g2⟩:=U3 (P:=P) h hv;obtain⟨dst,op,ty,pos,af,gd⟩:=o;refine uP (v:=aP E.ρ sv) (.inl ⟨de h.st (o:=⟨dst,op,ty,pos,af,gd⟩) Kd,λw1 _=>g2 dst ty pos af gd w1⟩) R.now (λ_=>⟨(hat rfl).2,(hat rfl).1,hb.1,hb.2,rfl⟩) ?_;refine kk _ _ E _ _ _ ht (R.Cd hd ⟨sv,g1,rfl⟩ λ_ v' hv'=>?_) (frp v) (Kp.same rfl);obtain⟨sys,hs⟩:=R.VZ rfl;obtain⟨su,g3,g4⟩:=U3 (P:=P) hs hv';have:=(g4 dst ty pos af gd w).symm.trans (g2 dst ty pos af gd w);grind
  split at ht
  .rename_i q hq;obtain⟨hb,ht⟩:=dU ht;rw[ak]at hb;obtain⟨sys,hs⟩:=R.VZ rfl;obtain⟨dst,op,ty,pos,af,gd⟩:=o;have yl:∀{sv:SV},(∀d ty pos af g w1,zh so Es χs ws w1->(execOp a.eval ⟨d,op,ty,pos,af,g⟩).run P w1=.ok (.value (aP Es.ρ sv)) w1)->rH P all (Sv.qs nrm ret exs) S true (li.setIfInBounds i true) l (a.put dst (aP Es.ρ sv)) w->rH P all (Sv.qs nrm ret exs) S true li ((i,⟨dst,op,ty,pos,af,gd⟩)::l) a w:=fun {sv} g2 k=>uP (v:=aP Es.ρ sv) (.inl ⟨de h.st (o:=⟨dst,op,ty,pos,af,gd⟩) Kd,λw1 Kd=>g2 dst ty pos af gd w1 ((R.iff rfl w1).1 Kd)⟩) R.now (λ_=>⟨(hat rfl).2,(hat rfl).1,hb.1,hb.2,rfl⟩) k
   cases hlv:liveR pb so s q.v with
   |true =>
    have uz:(∀z,q.pre=some z->z)/\smL q.F5 (kt (put so dst q.v) (put s dst q.v)):=by unfold andP at ht;grind
    obtain⟨⟨sv,g1,g2⟩,g3⟩:=uU TT hs hq uz.1;have hpb:∀id∈pb,E.ρ id=Es.ρ id:=λid hi=>(R.pbx rfl id hi).2.1;have hc:=Fs g1 hlv hpb;have hv:fO w χ E s q.v sv:=g1.tr (R.m0 rfl) (λy hy=>Xq R (Ph hlv y hy)) λid hid=>hpb id (ED hlv hid);exact yl g2 (kk _ _ E _ _ _ (g3 _ uz.2) (R.aeT hd ⟨sv,hv,hc⟩ λ_=>⟨sv,g1,rfl⟩) (frp q.v) (Kp.same rfl))
   |false =>
    rw[hlv]at ht;split at ht
    .rename_i v v2 hv hv2;obtain⟨q1,e1,p1,rfl⟩:=Cg hv;obtain⟨q2,e2,p2,rfl⟩:=Cg hv2;cases e1;obtain⟨⟨sv,g1,g2⟩,_⟩:=uU TT hs hq λz e=>by rw[p1]at e;cases e
     obtain⟨⟨su,g3,g4⟩,_⟩:=uU TT h e2 λz e=>by rw[p2]at e;cases e
     have:=(g4 dst ty pos af gd w zh.refl).symm.trans (g2 dst ty pos af gd w ((R.iff rfl w).1 (R.now rfl)));injection this with e3 _;injection e3 with e4;exact yl g2 (kk _ _ E _ _ _ ht (R.Cd (vo:=some q.v) hd ⟨su,g3,e4⟩ λ_ v' hv'=>by cases hv';exact⟨sv,g1,rfl⟩) (frp q2.v) (Kp.same rfl))
    .cases ht
  .obtain⟨hb,ht⟩:=dU ht;exact TE (λs' h=>⟨λ_=>(dU h).1,(dU h).2⟩) ht λ_=>aaN hb
end
end
section
section
variable{P:Program}{T:Tb}{X:Cx}
variable{all:List Oper}{nrm ret:Act->World->Prop}{exs:List (Nat×(Act->World->Prop))}{S:World->Prop}{dr:Bool}{pb:List Nat}{Es:En}{ws:World}{χs:Nat->Nat}
theorem fr2{ds:List Nat}{s s1 s':TS}(h:Fr ds s s1)(k:Fr ds s1 s'):Fr ds s s':=(h.trans k).wk λt ht=>(aV.1 ht).elim id id
theorem Fr.refl(ds:List Nat)(s:TS):Fr ds s s:=.same (λ_ _=>rfl) rfl rfl rfl rfl
theorem P7{l:List PO}{t:Nat}(h:t∈dstsP l):∃q∈l,q.2.dst=some t:=by
 induction l with
 |nil=>cases h
 |cons q l ih =>
  rw[tV]at h;rcases aV.1 h with e|e
  .cases hd:q.2.dst with
   |none=>rw[hd]at e;cases e
   |some d=>rw[hd]at e;cases aY.1 e;exact⟨q,aI,hd⟩
  grind
theorem Mw{s:TS}{tc:Nat}{b:Bool}(h:tc∈Sv.dstsOf all):Fr (Sv.dstsOf all) s (pP s tc b):=.same (λt ht=>bd λe=>ht (by rw[←e];exact h)) rfl rfl rfl rfl
theorem IK{s:TS}{m9:List PO}{d:Nat}{b:Bool}(h:∀q∈m9,q.2∈all)(hd:d∈Sv.dstsOf all):Fr (Sv.dstsOf all) s (yP s (dstsP m9) d b):=.same (λt ht=>(bd λe=>ht (by rw[←e];exact hd)).trans (GI λhm=>by
 obtain⟨q,h1,h2⟩:=P7 hm;exact ht (nF (h q h1) h2))) rfl rfl rfl rfl
theorem rU:∀{f:Nat} {li:Array Bool} {q:PO},q∈yB all f li->all[q.1]?=some q.2
 |0,_,_,h=>by cases h
 |f+1,li,q,h=>by
  unfold yB at h;split at h
  .cases h
  .dsimp only at h;split at h
   .rename_i o ho;rcases aE.1 h with e|e
    .grind
    .exact rU e
   grind
theorem J4{f:Nat->Prop}:∀{l:List Nat},Qv f l->∀{j:Nat},j∈l->f j
 |[],h,_,_=>by cases h
 |[x],h,j,hj=>by cases aY.1 hj;exact h
 |x::y::l,h,j,hj=>by
  rcases aE.1 hj with e|e
  .subst e;exact h.1
  .exact J4 h.2 e
theorem tp(TT:gW P T)(HC:nY P T X)(hn:HX T X)(hds:∀o∈all,∀d,o.dst=some d->d<X.n)(Bv:dr=true->Region.noSelect all.toArray=true):∀(f:Nat)(li:Array Bool)(l:List PO)(so s:TS)(E:En)(a:Act)(w:World)(χ:Nat->Nat)(k:TS->Prop),regT T dr pb all f li l so s k->Rg X all dr S pb Es ws χs so s E a w χ->(dr=true->∀q∈l,all[q.1]?=some q.2)->(∀q∈l,q.2∈all) ->
  (∀s' E' sy' a' w' χ',k s'->bX X s' E' sy' a' w' χ'->Fr (Sv.dstsOf all) s s'->Kp s s' E E' w w' χ χ'->nrm a' w')->rH P all (Sv.qs nrm ret exs) S dr li l a w
 |0,_,_,_,_,_,_,_,_,_,ht,_,_,_,_=>by cases ht
 |f+1,li,[],so,s,E,a,w,χ,k,ht,R,_,_,kk=>by
  obtain⟨sy,h⟩:=R.cur;cases dr with
  |false=>exact Hy (P:=P) (ops:=all.toArray) (Q:=Sv.qs nrm ret exs) (kk s E sy a w χ ht h (Fr.refl _ s) (Kp.same rfl))
  |true=>obtain⟨hb,ht⟩:=dU (show(bif (Region.ready .any all.toArray li).isEmpty then k s else Er 76)from ht);exact Fp (List.isEmpty_iff.1 hb) (kk s E sy a w χ ht h (Fr.refl _ s) (Kp.same rfl))
 |f+1,li,(i,o)::l,so,s,E,a,w,χ,k,ht,R,hat,hin,kk=>by
  have hio:=hin (i,o) aI;have hd:=hds o hio;have X3:dr=true->Region.noSelect all.toArray=true/\all[i]?=some o:=λh=>⟨Bv h,hat h (i,o) aI⟩
  have Uy:dr=true->∀q∈l,all[q.1]?=some q.2:=λh q hq=>hat h q (aw _ hq);have agy:∀q∈l,q.2∈all:=λq hq=>hin q (aw _ hq);have goT:(∀sy,bX X s E sy a w χ->bK all sy o.guard=true)->stepT T dr pb all li i o so s (λDT s'=>regT T dr pb all f (li.setIfInBounds i true) l DT s' k)->rH P all (Sv.qs nrm ret exs) S dr li ((i,o)::l) a w:=λhw ht=>Rx TT HC hn R X3 hio hd hw ht λDT s' E' a' w' χ' h1 R' F K=>tp TT HC hn hds Bv f _ l DT s' E' a' w' χ' k h1 R' Uy agy λs2 E2 Hq a2 w2 χ2 h2 h3 F2 K2=>kk s2 E2 Hq a2 w2 χ2 h2 h3 (fr2 F F2) (K.trans F F2.ca K2)
  have goS:Region.wanted o (yielded all.toArray a.tmps)=false->∀li',jr dr all li [(i,o)]=some li'->regT T dr pb all f li' l (pO so o) (pO s o) k->rH P all (Sv.qs nrm ret exs) S dr li ((i,o)::l) a w:=λhw li' h1 h2=>uP (v:=undef) (.inr ⟨hw,rfl⟩) R.now (BL h1 X3) (tp TT HC hn hds Bv f _ l _ _ E _ w χ k h2 (R.aeT (v:=.t []) (u:=undef) hd ⟨V undef,⟨[],rfl,trivial⟩,rfl⟩ λ_=>⟨V undef,⟨[],rfl,trivial⟩,rfl⟩) Uy agy λs2 E2 Hq a2 w2 χ2 h2 h3 F2 K2=>kk s2 E2 Hq a2 w2 χ2 h2 h3 (fr2 ((Fr.put s o.dst _).wk (Dk hio)) F2) (Kp.trans (Kp.same rfl) ((Fr.put s o.dst _).wk (Dk hio)) F2.ca K2))
  obtain⟨sy,h⟩:=R.cur;unfold regT at ht;split at ht
  .rename_i hg;cases hx:(dr&&Zr T all li i o so s)with
   |false=>rw[hx]at ht;exact goT (λsy _=>by rw[show o.guard=none from hg];rfl) ht
   |true =>
    rw[hx]at ht;have again:=tp TT HC hn hds Bv f;obtain⟨rfl,_⟩:=gu.1 hx;refine wpAnyH_all rfl (λe=>by rw[e]at ht;cases ht) λj hj=>?_;have hj:=J4 ht hj;split at hj
    .rename_i oj hoj;obtain⟨hb,hj⟩:=dU hj;rw[ak]at hb;have hlen:=aD hb.2;have hgj:oj.guard=none:=sM.1 hb.1;unfold wpOp;rw[mP,hoj];refine Ix (o:=oj) TT HC hn R (eR hoj) (hds oj (eR hoj)) h (by rw[hgj];rfl) hj λs' E' a' w' χ' h1 g F K=>?_;obtain⟨hb2,h1⟩:=dU h1;obtain⟨g1,g2⟩:=g hb2;refine⟨g1,?_⟩;have:=again _ _ _ s' E' a' w' χ' k h1 g2 (λ_ q hq=>rU hq) (λq hq=>eR (rU hq)) λs2 E2 Hq a2 w2 χ2 h2 h3 F2 K2=>kk s2 E2 Hq a2 w2 χ2 h2 h3 (fr2 F F2) (K.trans F F2.ca K2);have h3:Dr P all (Sv.qs nrm ret exs) S (li.setIfInBounds j true) (yB all all.length (li.setIfInBounds j true)).length a' w':=this;rw[hlen]at h3;exact h3
    .cases hj
  .rename_i j want hg;split at ht
   .rename_i tc htc;have htm:=P8 htc;have NW:∀{x:TV} {b:Bool},aa s.al tc=some (.s x)->ic x=some b->(bif b==want then stepT T dr pb all li i o so s (λDT s'=>regT T dr pb all f (li.setIfInBounds i true) l DT s' k)else(match jr dr all li [(i,o)]with
     |some li'=>regT T dr pb all f li' l (pO so o) (pO s o) k
     |none=>Er 77))->rH P all (Sv.qs nrm ret exs) S dr li ((i,o)::l) a w:=by
     intro x b hl hb ht;have hw:=BG h hg htc hl hb;cases PT:(b==want)with
     |true=>grind[Oi]
     |false =>
      rw[PT]at ht hw;split at ht
      .grind
      .cases ht
    split at ht
    .rename_i hl;split at ht
     .grind[HA]
     .cases ht
    .rename_i b hl;exact NW hl rfl ht
    .rename_i b hl;exact NW hl rfl ht
    .rename_i b hl;have htb:=F7 h hl (b:=b) rfl;have fork:((b=true->regT T dr pb all f li ((i,o)::l) (pP so tc true) (pP s tc true) k)/\(b=false->regT T dr pb all f li ((i,o)::l) (pP so tc false) (pP s tc false) k))->rH P all (Sv.qs nrm ret exs) S dr li ((i,o)::l) a w:=by
      intro ht;have ht:regT T dr pb all f li ((i,o)::l) (pP so tc b) (pP s tc b) k:=by
       cases b with
       |true=>exact ht.1 rfl
       |false=>exact ht.2 rfl
      refine tp TT HC hn hds Bv f li _ _ _ E a w χ k ht (R.uh rfl rfl rfl rfl rfl rfl (yn h htb) (λxY=>?_) λxY t x e=>?_) hat hin λs2 E2 Hq a2 w2 χ2 h2 h3 F2 K2=>kk s2 E2 Hq a2 w2 χ2 h2 h3 (fr2 (Mw htm) F2) (Kp.trans (Kp.same rfl) (Mw htm) F2.ca K2)
      .obtain⟨sys,hs⟩:=R.VZ xY;grind[yn]
      .rcases aA e with⟨e1,e2⟩|⟨e1,e2⟩
       .subst e1;exact⟨_,look_eq⟩
       .obtain⟨y,hy⟩:=R.keys xY t x e2;exact⟨y,(bd e1).trans hy⟩
     split at ht
     .rename_i m9 pk after QO;split at ht
      .rename_i d sT sF li' hpd hT hF PD;split at ht
       .rename_i cT cF hcT hcF;have heq:=vT QO;have acs:(i,o)::l=(m9++[pk])++after:=by rw[heq,bV];rfl
        rw[acs]at hat hin ⊢; have XV:∀q∈m9++[pk],q∈(m9++[pk])++after:=λq hq=>aN _ hq;have hdp:dstsP (m9++[pk])=dstsP m9++[d]:=by rw[wv,tV,hpd];rfl
        have hpk:d∈Sv.dstsOf all:=nF (hin pk (aN _ (aG _ aI))) hpd;have main:∀{s1:TS} {c:Bool},pureL T all f (m9++[pk]) (pP (bif dr then so else s) tc b)=some s1->AU (aa s1.al d)=some c->regT T dr pb all f li' after (yP so (dstsP m9) d c) (yP s (dstsP m9) d c) k->rH P all (Sv.qs nrm ret exs) S dr li (m9++[pk]++after) a w:=by
         intro s1 c e1 ec e2;have fin:∀{Eb:En} {Oz:Sy} {wb:World} {χb:Nat->Nat} (a':Act),bX X s1 Eb Oz a' wb χb->(∀t,t∉dstsP (m9++[pk])->a'.tmps[t]?=a.tmps[t]?)->rH P all (Sv.qs nrm ret exs) S dr li' after a' w:=by
          intro Eb Oz wb χb a' h2 hf2;obtain⟨x,hx,hxb⟩:=DB ec;have hb:=F7 h2 hx hxb;have hf3:∀t,t∉dstsP m9->t≠d->a'.tmps[t]?=a.tmps[t]?:=λt ht hne=>hf2 t (by rw[hdp];intro hm;rcases aV.1 hm with e|e;exact ht e;exact hne (aY.1 e));refine tp TT HC hn hds Bv f li' after _ _ E a' w χ k e2 (R.uh rfl rfl rfl rfl rfl rfl (GL h h2.st.size h2.st.defers hf3 hb) (λxY=>?_) λxY t x e=>?_) (λxY q hq=>hat xY q (aG _ hq)) (λq hq=>hin q (aG _ hq)) λs2 E2 Hq a2 w2 χ2 h2 h3 F2 K2=>kk s2 E2 Hq a2 w2 χ2 h2 h3 (fr2 (IK (λq hq=>hin q (aN _ (aN _ hq))) hpk) F2) (Kp.trans (Kp.same rfl) (IK (λq hq=>hin q (aN _ (aN _ hq))) hpk) F2.ca K2)
          .obtain⟨sys,hs⟩:=R.VZ xY;exact GL hs h2.st.size h2.st.defers hf3 hb
          .rcases aA e with⟨e1,e2⟩|⟨e1,e2⟩
           .subst e1;exact⟨_,look_eq⟩
           .obtain⟨g1,g2⟩:=bg (f:=λi=>!(dstsP m9).any (Nat.beq i)) e2;obtain⟨y,hy⟩:=R.keys xY t x g2;exact⟨y,(bd e1).trans ((tG (f:=λi=>!(dstsP m9).any (Nat.beq i)) g1).trans hy)⟩
         cases xY:dr with
         |true=>subst xY;obtain⟨sys,hs⟩:=R.VZ rfl;obtain⟨syl,IX⟩:=yn hs htb;exact rT TT f (m9++[pk]) e1 IX (λw1 Kd=>(R.iff rfl w1).1 Kd) R.now PD (λxY=>⟨Bv xY,λq hq=>hat xY q (XV q hq)⟩) (λq hq=>hds q.2 (hin q (XV q hq))) λOz a' h2 hf2=>fin a' h2 hf2
         |false=>subst xY;obtain⟨syl,IX⟩:=yn h htb;exact rT TT f (m9++[pk]) e1 IX (λw1 Kd=>by cases(show w1=w from Kd);exact zh.refl) R.now PD (λxY=>⟨Bv xY,λq hq=>hat xY q (XV q hq)⟩) (λq hq=>hds q.2 (hin q (XV q hq))) λOz a' h2 hf2=>fin a' h2 hf2
        cases b with
        |true=>exact main hT hcT ht
        |false=>exact main hF hcF ht
       .cases ht
      grind
     grind
    .cases ht
   .cases ht
theorem Af:∀{l:List Oper} {i:Nat} {q:PO},q∈Df i l->q.2∈l
 |[],_,_,h=>by cases h
 |o::l,i,q,h=>by
  rcases aE.1 h with e|e
  .grind
  .exact aw _ (Af e)
theorem Ag:∀{l:List Oper} {i:Nat},(Df i l).map (·.2)=l
 |[],_=>rfl
 |o::l,i=>by unfold Df;rw[ba,Ag]
theorem WE(TT:gW P T)(HC:nY P T X)(hn:HX T X)(hds:∀o∈all,∀d,o.dst=some d->d<X.n){s:TS}{E:En}{sy:Sy}{a:Act}{w:World}{χ:Nat->Nat}{k:TS->Prop}(ht:regD T all s k)(h:bX X s E sy a w χ)
  (kk:∀s' E' sy' a' w' χ',k s'->bX X s' E' sy' a' w' χ'->Fr (Sv.dstsOf all) s s'->Kp s s' E E' w w' χ χ'->nrm a' w'):wpAny P .any all.toArray (Sv.qs nrm ret exs) all.length (Array.replicate all.length false) a { w with drawn:=w.drawn+1 }:=by
 obtain⟨hb,ht⟩:=dU ht;rw[ak,ak]at hb;obtain⟨⟨b1,b2⟩,b3⟩:=hb;have b2:=aD b2;have lk1:∀id x,aa (yv (Og all s all) s).boxes id=some x->aa s.boxes id=some x:=λid x e=>(bg (f:=λi=>!(Og all s all).1.any (Nat.beq i)) e).2;have lk2:∀id x,aa (yv (Og all s all) s).own id=some x->aa s.own id=some x:=λid x e=>(bg (f:=λi=>!(Og all s all).2.any (Nat.beq i)) e).2;have lk3:∀id x,aa (yv (Og all s all) s).aZ id=some x->aa s.aZ id=some x:=λid x e=>(bg (f:=λi=>!(Og all s all).2.any (Nat.beq i)) e).2;have nm:∀y,Nm E E s (yv (Og all s all) s) y:=λy k _=>⟨λmQ e=>⟨mQ,lk2 k mQ e,rfl,rfl,rfl,rfl⟩,λmp' e=>⟨mp',lk3 k mp' e,rfl⟩⟩
 have hr:bX X (yv (Og all s all) s) E sy a w χ:=h.step (Ev.refl eN w χ) rfl rfl h.st (λt x e=>.inr ⟨e,λsv e=>e,λy _=>nm y⟩) (λi t cs e=>.inr ⟨lk1 i _ e,λss e=>e,λy _=>nm y⟩) (λk x e=>.inr ⟨lk2 k x e,rfl,rfl,rfl,rfl⟩) (λk x e=>.inr ⟨lk3 k x e,rfl,rfl,rfl⟩) ⟨λk x e=>h.aQ.o k x (lk2 k x e),λk x e=>h.aQ.m k x (lk3 k x e),λk x j y e e'=>h.aQ.oo k x j y (lk2 k x e) (lk2 j y e'),λk x j y e e'=>h.aQ.om k x j y (lk2 k x e) (lk3 j y e'),λk x j y e e'=>h.aQ.mm k x j y (lk3 k x e) (lk3 j y e')⟩ h.qu;have hs0:bX X (⟨s.al,s.boxes,s.own,s.aZ,[]⟩:TS) E sy a { w with drawn:=w.drawn+1 } χ:=⟨⟨h.st.size,h.st.defers,h.st.al,h.st.boxes⟩,λt x e=>by
  obtain⟨sv,g1,g2⟩:=h.al t x e;exact⟨sv,g1,fO.tr (w:=w) (χ:=χ) (E:=E) (s:=s) (w':={ w with drawn:=w.drawn+1 }) ⟨aK _,λb _ h=>⟨rfl,h⟩⟩ (λy _=>jc rfl rfl rfl rfl rfl) g2⟩,λi t cs e=>by
  obtain⟨ss,g1,g2⟩:=h.boxes i t cs e;exact⟨ss,g1,DN (λy _ sv k=>TR.tr (w:=w) (χ:=χ) (E:=E) (s:=s) (w':={ w with drawn:=w.drawn+1 }) ⟨aK _,λb _ h=>⟨rfl,h⟩⟩ (jc rfl rfl rfl rfl rfl) k) g2⟩,λk x e=>(h.own k x e).mv (p:=eN) ⟨rfl,rfl,rfl,aK _,λ_ _ _=>⟨rfl,rfl⟩⟩ rfl rfl,λk x e=>(h.aZ k x e).mv (p:=eN) ⟨rfl,rfl,rfl,aK _,λ_ _ _=>⟨rfl,rfl⟩⟩ rfl rfl,⟨h.aQ.o,h.aQ.m,h.aQ.oo,h.aQ.om,h.aQ.mm⟩,⟨h.lS.os,h.lS.tape,h.lS.output,h.lS.size,h.lS.keep⟩,h.qu⟩
 have pbm:∀id,id∈((s.boxes.map (·.1)).filter (λi=>!(Sv.dstsOf all).any (λd=>Nat.beq (d+1+T.nb) i)))->(∃x,aa s.boxes id=some x)/\∀o∈all,∀d,o.dst=some d->id≠d+1+X.nb:=λid hi=>by obtain⟨g1,g2⟩:=dx.1 hi;refine⟨nu g1,λo ho d hd e=>?_⟩;have:(Sv.dstsOf all).any (λd=>Nat.beq (d+1+T.nb) id)=true:=nM.2 ⟨d,nF ho hd,by rw[e,hn.nb];exact eH _⟩;grind
 have R:Rg X all true (zh (yv (Og all s all) s) E χ w) ((s.boxes.map (·.1)).filter (λi=>!(Sv.dstsOf all).any (λd=>Nat.beq (d+1+T.nb) i))) E w χ (yv (Og all s all) s) ⟨s.al,s.boxes,s.own,s.aZ,[]⟩ E a { w with drawn:=w.drawn+1 } χ :=
  ⟨⟨sy,hs0⟩,λ_=>⟨sy,hr⟩,λ_ _=>Iff.rfl,λ_ _ _ _=>rfl,λ_ _ _ _=>rfl,λ_=>⟨aK _,λb _ h=>⟨rfl,h⟩⟩,λ_ t x e=>⟨x,e⟩,λ_ id t cs e=>⟨lk1 id _ e,aB (aO.1 b3 _ (ct (lk1 id _ e))),rfl⟩,λ_ k x e=>⟨lk2 k x e,rfl,rfl,rfl⟩,λ_ k x e=>⟨lk3 k x e,rfl,rfl⟩,λ_ id hi=>⟨(pbm id hi).1,rfl,(pbm id hi).2⟩⟩
 have:=tp (nrm:=nrm) (ret:=ret) (exs:=exs) TT HC hn hds (λ_=>b1) 1000 _ _ _ _ E a _ χ _ ht R (λ_ q hq=>rU hq) (λq hq=>eR (rU hq)) λs' E' sy' a' w' χ' h1 h2 F K=>kk _ E' sy' a' w' χ' h1 ⟨h2.st,λt x e=>by
  obtain⟨sv,g1,g2⟩:=h2.al t x e;exact⟨sv,g1,g2.tr (M0.refl _ _) λy _=>jc rfl rfl rfl rfl rfl⟩,λi t cs e=>by
  obtain⟨ss,g1,g2⟩:=h2.boxes i t cs e;exact⟨ss,g1,DN (λy _ sv k=>TR.tr (M0.refl _ _) (jc rfl rfl rfl rfl rfl) k) g2⟩,h2.own,h2.aZ,⟨h2.aQ.o,h2.aQ.m,h2.aQ.oo,h2.aQ.om,h2.aQ.mm⟩,h2.lS,h2.qu⟩ ⟨F.al,λid t cs e=>by
  obtain⟨dG,g1,g2,g3⟩:=F.boxes id t cs e;exact⟨dG,g1,g2,λoff ho hn=>g3 off ho λhm=>hn (aN _ hm)⟩,λk hn=>F.own k λhm=>hn (aN _ hm),λk hn=>F.aZ k λhm=>hn (aN _ hm),λx hx=>aG _ hx⟩ ⟨K.size,λid t cs e hu=>K.box id t cs e λoff ho hm=>hu off ho (aN _ hm),λk x e hu=>K.map k x e λhm=>hu (aN _ hm),λk x e hu=>K.own k x e λhm=>hu (aN _ hm)⟩
 have h2:Dr P all (Sv.qs nrm ret exs) (zh (yv (Og all s all) s) E χ w) (Array.replicate all.length false) (yB all all.length (Array.replicate all.length false)).length a { w with drawn:=w.drawn+1 }:=this;rw[b2]at h2;exact wpAny_of_held _ _ _ _ h2
theorem JC{l:List Oper}{m t:Nat}(h:t∈Sv.dstsOf (l.take m)):t∈Sv.dstsOf l:=by
 induction l generalizing m with
 |nil=>rw[List.take_nil]at h;exact h
 |cons o l ih =>
  cases m with
  |zero=>cases h
  |succ m=>grind[Sv.dstsOf]
theorem LM:∀{l:List Oper} {i m:Nat},((Df i l).drop m).map (·.2)=l.drop m:=by
 grind[List.map_drop,Ag]
theorem KJ(TT:gW P T)(HC:nY P T X)(hm:P.follows .mixedOrders=true)(hn:HX T X){ops:Array Oper}{id:Nat}(hds:∀o∈ops.toList,∀d,o.dst=some d->d<X.n){dr:Bool}{s:TS}{E:En}{sy:Sy}{a:Act}{w:World}{χ:Nat->Nat}{k:TS->Prop}(ht:regionT T dr ops s k)(h:bX X s E sy a w χ)
  (kk:∀s' E' sy' a' w' χ',k s'->bX X s' E' sy' a' w' χ'->Fr (Sv.dstsOf ops.toList) s s'->Kp s s' E E' w w' χ χ'->nrm a' w'):(Code.region id ops dr).wp P (Sv.qs nrm ret exs) a w:=by
 have aez:∀{l:List PO} {s:TS} {E:En} {sy:Sy} {a:Act} {w:World} {χ:Nat->Nat},(∀q∈l,q.2∈ops.toList)->regT T false [] ops.toList 1000 #[] l s s k->bX X s E sy a w χ->(∀s' E' sy' a' w' χ',k s'->bX X s' E' sy' a' w' χ'->Fr (Sv.dstsOf ops.toList) s s'->Kp s s' E E' w w' χ χ'->nrm a' w')->wpList P ops (Sv.qs nrm ret exs) (l.map (·.2)) a w:=by
  intro l s E sy a w χ hl ht h kk;have R:Rg X ops.toList false (λ_=>True) [] E w χ s s E a w χ:=⟨⟨sy,h⟩,ff,ff,ff,ff,ff,ff,ff,ff,ff,ff⟩
  have:=tp (nrm:=nrm) (ret:=ret) (exs:=exs) TT HC hn hds ff 1000 #[] _ s s E a w χ k ht R ff hl kk;have h2:wpList P ops.toList.toArray (Sv.qs nrm ret exs) (l.map (·.2)) a w:=this;omega
 cases dr with
 |false=>have h2:=aez (λq hq=>Af hq) ht h kk;rw[Ag]at h2;have h3:=region (id:=id) (l:=ops.toList) (by rw[dI];exact h2);omega
 |true =>
  obtain⟨hb,ht⟩:=dU ht;have H:=aao hb;refine wp_region_any hm ?_;have h1:=WE (nrm:=λa w=>wpList P ops (Sv.qs nrm ret exs) (ops.toList.drop (tU ops.toList ops.size)) a w) (ret:=ret) (exs:=exs) TT HC hn (λo ho=>hds o (List.mem_of_mem_take ho)) ht h λs' E' sy' a' w' χ' h1 h2 F K=>by have F:=F.wk λt ht=>JC ht;have:=aez (λq hq=>Af (List.mem_of_mem_drop hq)) h1 h2 λs2 E2 Hq a2 w2 χ2 h3 h4 F2 K2=>kk s2 E2 Hq a2 w2 χ2 h3 h4 (fr2 F F2) (K.trans F F2.ca K2);grind[LM]
  have hle:=H.le;have hlen:(ops.toList.take (tU ops.toList ops.size)).length=tU ops.toList ops.size:=by rw[bH,cm];omega
  rw[hlen]at h1;have h2:=Wh H (Q:=Sv.qs nrm ret exs) (λc a w hq=>hq.elim) (λ⟨a,w,h⟩=>h.elim) (λa w h=>h) (tU ops.toList ops.size) (Array.replicate (tU ops.toList ops.size) false) (Array.replicate ops.size false) a { w with drawn:=w.drawn+1 } (by simp) (by simp) (λj hj=>by simp[Array.getD,hj,dH hj hle]) (λj _ hj=>by simp[Array.getD,hj]) h1;grind
end
end
section
section
variable{X:Cx}{sy:Sy}{a:Act}{w:World}{χ:Nat->Nat}{E:En}{s:TS}
theorem bX.WG(h:bX X s E sy a w χ){t:Nat}{x:RV}{sv:SV}(hl:aa sy.al t=some sv)(hv:fO w χ E s x sv)(tc:List Nat):bX X ⟨(t,x)::s.al,s.boxes,s.own,s.aZ,tc⟩ E sy a w χ :=
 h.step (Ev.refl eN w χ) rfl rfl h.st (λq y e=>by
  rcases aA e with⟨h1,h2⟩|⟨_,h2⟩
  .subst h1 h2;exact .inl ⟨sv,hl,hv.tr (M0.refl w χ) λy _=>jc rfl rfl rfl rfl rfl⟩
  .exact .inr ⟨h2,λ_ e=>e,λy _=>jc rfl rfl rfl rfl rfl⟩) (λi t cs e=>.inr ⟨e,λ_ e=>e,λy _=>jc rfl rfl rfl rfl rfl⟩) (λk x e=>.inr ⟨e,rfl,rfl,rfl,rfl⟩) (λk x e=>.inr ⟨e,rfl,rfl,rfl⟩) ⟨h.aQ.o,h.aQ.m,h.aQ.oo,h.aQ.om,h.aQ.mm⟩ h.qu
theorem bX.adn(h:bX X s E sy a w χ){id b:Nat}{cs:List TV}{ss:List SV}(hl:aa sy.boxes id=some (b,ss))(hv:FL (TR w χ E s) cs ss)(tc:List Nat):bX X ⟨s.al,(id,(b,cs))::s.boxes,s.own,s.aZ,tc⟩ E sy a w χ :=
 h.step (Ev.refl eN w χ) rfl rfl h.st (λq y e=>.inr ⟨e,λ_ e=>e,λy _=>jc rfl rfl rfl rfl rfl⟩) (λi t dG e=>by
  rcases aA e with⟨h1,h2⟩|⟨_,h2⟩
  .cases h2;subst h1;exact .inl ⟨ss,hl,DN (λy _ sv k=>TR.tr (M0.refl w χ) (jc rfl rfl rfl rfl rfl) k) hv⟩
  .exact .inr ⟨h2,λ_ e=>e,λy _=>jc rfl rfl rfl rfl rfl⟩) (λk x e=>.inr ⟨e,rfl,rfl,rfl,rfl⟩) (λk x e=>.inr ⟨e,rfl,rfl,rfl⟩) ⟨h.aQ.o,h.aQ.m,h.aQ.oo,h.aQ.om,h.aQ.mm⟩ h.qu
theorem bX.bind(h:bX X s E sy a w χ){N e cc cp:Nat}{c:TC}{l:List (den c)}{ad:Option Addr}(f1:∀t x,aa s.al t=some x->mC (fa N) x=false)(f2:∀id t cs,aa s.boxes id=some (t,cs)->namesV (names1 (fa N)) cs=false)(f3:aa s.own N=none)(f4:aa s.aZ N=none)(wO:1001<=cc)(hco:∀k x,aa s.own k=some x->E.c k≠cc)(hcm:∀k x,aa s.aZ k=some x->E.m k≠cc)(os:OS (bw c) e w χ cc ad l cp):
  bX X ⟨s.al,s.boxes,(N,⟨e,c,l⟩)::s.own,s.aZ,s.ca⟩ ⟨E.ρ,iZ E.σ N ad,iZ E.κ N cp,E.μ,iZ E.c N cc,E.m⟩ sy a w χ:=by
 have nm:∀y,names1 (fa N) y=false->Nm E ⟨E.ρ,iZ E.σ N ad,iZ E.κ N cp,E.μ,iZ E.c N cc,E.m⟩ s ⟨s.al,s.boxes,(N,⟨e,c,l⟩)::s.own,s.aZ,s.ca⟩ y:=λy hy k hk=>by have hne:=Ij (f:=fa N) hy hk;exact⟨λmQ e'=>⟨mQ,(bd (bC hne)).symm.trans e',rfl,rfl,cq hne,cq hne⟩,λmp' e'=>⟨mp',e',rfl⟩⟩
 refine h.step (Ev.refl eN w χ) rfl rfl h.st (λt x e'=>.inr ⟨e',λsv e=>e,λy hy=>nm y (ni (f1 t x e') hy)⟩) (λi t cs e'=>.inr ⟨e',λss e=>e,λy hy=>nm y (kM (f2 i t cs e') hy)⟩) (λk x e'=>?_) (λk x e'=>.inr ⟨e',rfl,rfl,rfl⟩) ⟨λk x e'=>?_,h.aQ.m,λk x j y e' xZ=>?_,λk x j y e' xZ=>?_,h.aQ.mm⟩ h.qu
 .rcases aA e' with⟨h1,h2⟩|⟨h1,h2⟩
  .subst h1 h2;refine .inl ?_;show OS _ _ _ _ (iZ E.c N cc N) (iZ E.σ N ad N) _ (iZ E.κ N cp N);rw[eC,eC,eC];exact os
  .exact .inr ⟨h2,cq (bC h1),cq (bC h1),cq (bC h1),rfl⟩
 .show 1001<=iZ E.c N cc k;rcases aA e' with⟨h1,h2⟩|⟨h1,h2⟩
  .rw[←h1,eC];exact wO
  .rw[cq (bC h1)];exact h.aQ.o k x h2
 .show iZ E.c N cc k=iZ E.c N cc j->k=j;rcases aA e' with⟨h1,h2⟩|⟨h1,h2⟩<;>rcases aA xZ with⟨h3,h4⟩|⟨h3,h4⟩
  .intro _;rw[←h1,←h3]
  .rw[←h1,eC,cq (bC h3)];intro he;exact absurd he.symm (hco j y h4)
  .rw[←h3,eC,cq (bC h1)];intro he;exact absurd he (hco k x h2)
  .rw[cq (bC h1),cq (bC h3)];exact h.aQ.oo k x j y h2 h4
 .show iZ E.c N cc k≠E.m j;rcases aA e' with⟨h1,h2⟩|⟨h1,h2⟩
  .rw[←h1,eC];exact λhe=>hcm j y xZ he.symm
  .rw[cq (bC h1)];exact h.aQ.om k x j y h2 xZ
structure Hv (X:Cx) (A:LA) (s':TS) (E':En) (s:TS) (E:En) (sy:Sy) (a:Act) (w:World) (χ:Nat->Nat):Prop where
 st:bX X s E sy a w χ
 ρ:E.ρ=E'.ρ
 μ:E.μ=E'.μ
 m:E.m=E'.m
 mp:∀k x,aa s.aZ k=some x->aa s'.aZ k=some x
 mpA:∀k∈mapsA A,∃x,aa s.aZ k=some x
 dt:∀q x,aa s.own q=some x->∀q'∈kJ s' A,∀x',aa s'.own q'=some x'->E.c q≠E'.c q'
 num:∀k∈numsA A,aa s.own k=none/\aa s.aZ k=none/\(∀t x,aa s.al t=some x->mC (fa k) x=false)/\∀id t cs,aa s.boxes id=some (t,cs)->namesV (names1 (fa k)) cs=false
 nd:nodup (numsA A)=true
 Kb:nodup (kJ s' A)=true
theorem nodup_cons{x:Nat}{l:List Nat}(h:nodup (x::l)=true):x∉l/\nodup l=true:=by
 unfold nodup at h;rw[ak]at h;exact⟨bl.1 (by simpa using h.1),h.2⟩
theorem jN:∀{l q:List Nat},nodup (l++q)=true->nodup q=true/\∀x∈l,x∉q
 |[],q,h=>⟨h,λx hx=>by cases hx⟩
 |x::l,q,h=>by
  obtain⟨h1,h2⟩:=nodup_cons h;obtain⟨h3,h4⟩:=jN h2;refine⟨h3,λy hy=>?_⟩;rcases aE.1 hy with e|e
  .subst e;exact λhm=>h1 (aG _ hm)
  .exact h4 y e
variable{s':TS}{E':En}{sy':Sy}
theorem SR(h':bX X s' E' sy a w χ){A:LA}(H:Hv X A s' E' s E sy a w χ){e:Nat}{c:TC}{v:TV}{x:List (den c)}{sv:SV}(ho:AX s' e c (.s v)=some x)(hv:TR w χ E' s' v sv)(hin:∀k∈ownsV [v],k∈kJ s' A):
  ∃cc ad cp,sv=V (.slice ad x.length cp)/\1001<=cc/\OS (bw c) e w χ cc ad x cp/\(∀k y,aa s.own k=some y->E.c k≠cc)/\(∀k y,aa s.aZ k=some y->E.m k≠cc)/\∀q' x',aa s'.own q'=some x'->q'∉ownsV [v]->cc≠E'.c q':=by
 unfold AX at ho;split at ho
 .rename_i heq;cases heq;cases ho;obtain⟨u,rfl,rfl,_⟩:=hv;obtain⟨c1,h1,h2,h3⟩:=l7 E s;obtain⟨c2,k1,k2,k3⟩:=l7 E' s';have mx:∀{α:Type} (f:Nat->Nat) (l:List (Nat×α)),∃n,∀k x,aa l k=some x->f k<=n:=by
   intro α f l
   induction l with
   |nil=>exact⟨0,λk x e=>by cases e⟩
   |cons q l ih =>
    obtain⟨n,hn⟩:=ih;refine⟨n+f q.1,λk x e=>?_⟩;rcases aA e with⟨h1,_⟩|⟨_,h2⟩
    .subst h1;omega
    .have:=hn k x h2;omega
  obtain⟨n1,m1⟩:=mx E.c s.own;obtain⟨n2,m2⟩:=mx E.m s.aZ;obtain⟨n3,m3⟩:=mx E'.c s'.own;exact⟨1001+n1+n2+n3,none,0,rfl,by omega,OS.nil _ _ _ _ _,λk y e=>by have:=m1 k y e;omega,λk y e=>by have:=m2 k y e;omega,λq' x' e _=>by have:=m3 q' x' e;omega⟩
 .rename_i j heq;cases heq;split at ho
  .rename_i e' c' l' hj;cases hc:Nat.beq e' e with
   |false=>rw[hc]at ho;cases ho
   |true =>
    rw[hc]at ho;simp only[cG]at ho;split at ho
    .rename_i wO;subst wO;cases ho;have:=aD hc;subst this;refine⟨E'.c j,E'.σ j,E'.κ j,TR.own (w:=w) (χ:=χ) hv hj,h'.aQ.o j _ hj,h'.own j _ hj,λk y e=>H.dt k y e j (hin j (aY.2 rfl)) _ hj,λk y e he=>?_,λq' x' e hn he=>hn ?_⟩
     .rw[H.m]at he;exact h'.aQ.om j _ k _ hj (H.mp k y e) he.symm
     .rw[←h'.aQ.oo j _ q' x' hj e he];exact aY.2 rfl
    .cases ho
  .cases ho
 .cases ho
theorem eD{α β:Type}{o:Option β}{k:Option α}{x:β}{q:α}(e:pairO o k=some (x,q)):o=some x/\k=some q:=by
 cases o<;>cases k<;>first|(cases e;done)|(cases e;exact⟨rfl,rfl⟩)
theorem UE(h':bX X s' E' sy a w χ){α:Type}{c:TC}{k:Option α}{t:Nat}{x:den c}{q:α}(e:grabR c k (aa s'.al t)=some (x,q)):k=some q/\∃sv,aa sy.al t=some sv/\∀(E:En)(s:TS),fO w χ E s (vd c (kd c x)) sv:=by
 unfold grabR at e;split at e
 .rename_i y hl;cases hi:mR c with
  |true=>rw[hi]at e;cases e
  |false =>
   rw[hi]at e;simp only[eQ]at e
   .obtain⟨h1,h2⟩:=eD e;refine⟨h2,?_⟩;obtain⟨sv,g1,g2⟩:=h'.al t _ hl;have nv:=mV c h1;refine⟨sv,g1,λE s=>?_⟩;unfold vd;rw[hi];simp only[eQ];cases ho:kd c x with
    |nil=>rw[ho]at nv;exact nv.elim
    |cons z r =>
     rw[ho]at nv;cases r with
     |cons _ _=>exact nv.2.elim
     |nil =>
      have AG:=nv.1;have:∃u,sv=V u/\CR w χ y u:=by
       cases y with
       |o _=>exact AG.elim
       |m _=>exact AG.elim
       |p _ _=>exact AG.elim
       |f _ _ _=>exact AG.elim
       |a _ _ _=>exact AG.elim
       |e _ _ _=>exact AG.elim
       |j=>exact AG.elim
       |md _ _=>obtain⟨u,_,h⟩:=g2;exact h.elim
       |_=>exact g2
      obtain⟨u,rfl,hu⟩:=this;exact kS (hu.nv AG)
 .rename_i y hl;cases hi:mR c with
  |false=>rw[hi]at e;cases e
  |true =>
   rw[hi]at e;simp only[cG]at e
   .obtain⟨h1,h2⟩:=eD e;refine⟨h2,?_⟩;obtain⟨sv,g1,vs,rfl,g2⟩:=h'.al t _ hl;have nv:=mV c h1;refine⟨_,g1,λE s=>?_⟩;unfold vd;rw[hi];refine⟨vs,rfl,?_⟩;have key:∀{y z:List TV} {vs:List Value},FL NV y z->FL (λx v=>TR w χ E' s' x (V v)/\v.oneCell'=true) y vs->FL (CR w χ) z vs:=by
     intro y
     induction y with
     |nil=>intro z vs n h;cases z with|nil=>(cases vs with|nil=>trivial|cons _ _=>exact h.elim)|cons _ _=>exact n.elim
     |cons b y ih=>intro z vs n h;cases z with
      |nil=>exact n.elim
      |cons d z=>cases vs with
       |nil=>exact h.elim
       |cons v vs =>
        refine⟨?_,ih n.2 h.2⟩;have AG:=n.1;have hb:=h.1.1;cases b with
        |o _=>exact AG.elim
        |m _=>exact AG.elim
        |p _ _=>exact AG.elim
        |f _ _ _=>exact AG.elim
        |a _ _ _=>exact AG.elim
        |e _ _ _=>exact AG.elim
        |j=>exact AG.elim
        |md _ _=>obtain⟨u,_,h⟩:=hb;exact h.elim
        |_=>obtain⟨u,e,h⟩:=hb;cases e;exact h.nv AG
    exact ue (key nv g2)
 .cases e
theorem Ji{α:Type}{c:TC}{k:Option α}{y:TV}{x:den c}{q:α}{sv:SV}(e:grabX c k (some y)=some (x,q))(h:TR w χ E' s' y sv):k=some q/\∃z u,kd c x=[z]/\sv=V u/\CR w χ z u:=by
 unfold grabX at e;obtain⟨h1,h2⟩:=eD e;have nv:=mV c h1;refine⟨h2,?_⟩;cases ho:kd c x with
 |nil=>rw[ho]at nv;exact nv.elim
 |cons z r =>
  rw[ho]at nv;cases r with
  |cons _ _=>exact nv.2.elim
  |nil =>
   have AG:=nv.1;have:∃u,sv=V u/\CR w χ y u:=by
    cases y with
    |o _=>exact AG.elim
    |m _=>exact AG.elim
    |p _ _=>exact AG.elim
    |f _ _ _=>exact AG.elim
    |a _ _ _=>exact AG.elim
    |e _ _ _=>exact AG.elim
    |j=>exact AG.elim
    |md _ _=>obtain⟨u,_,h⟩:=h;exact h.elim
    |_=>exact h
   obtain⟨u,rfl,hu⟩:=this;exact⟨z,u,rfl,rfl,hu.nv AG⟩
theorem Od{R:TV->SV->Prop}:∀{l:List TV} {ss:List SV} {i:Nat} {z:TV} {sv:SV},FL R l ss->ss[i]?=some sv->R z sv->FL R (rM l i [z]) ss
 |[],[],i,z,sv,_,e,_=>by simp at e
 |[],_::_,_,_,_,h,_,_=>h.elim
 |_::_,[],_,_,_,h,_,_=>h.elim
 |x::l,y::ss,0,z,sv,h,e,hz=>by cases e;exact⟨hz,h.2⟩
 |x::l,y::ss,i+1,z,sv,h,e,hz=>⟨h.1,Od h.2 (by simpa using e) hz⟩
theorem VH{R:TV->Value->Prop}:∀{l:List TV} {ss:List Value} {i:Nat} {z:TV} {sv:Value},FL R l ss->ss[i]?=some sv->R z sv->FL R (rM l i [z]) ss
 |[],[],i,z,sv,_,e,_=>by simp at e
 |[],_::_,_,_,_,h,_,_=>h.elim
 |_::_,[],_,_,_,h,_,_=>h.elim
 |x::l,y::ss,0,z,sv,h,e,hz=>by cases e;exact⟨hz,h.2⟩
 |x::l,y::ss,i+1,z,sv,h,e,hz=>⟨h.1,VH h.2 (by simpa using e) hz⟩
end
end
section
section
variable{X:Cx}{sy:Sy}{a:Act}{w:World}{χ:Nat->Nat}{E:En}{s s':TS}{E':En}
theorem Tc{k:Nat}:∀{x y:TV},NV x y->names1 (fa k) y=false
 |.int _ _,_,n=>by cases n;rfl
 |.bool _,_,n=>by cases n;rfl
 |.lit _,_,n=>by cases n;rfl
 |.uq _,_,n=>by cases n;rfl
 |.str _,_,n=>by cases n;rfl
 |.sl _ _,_,n=>by cases n;rfl
 |.q _ _,_,n=>n.elim
 |.md _ _,_,n=>by cases n;rfl
 |.v x,_,n=>by
  unfold NV at n;split at n<;>first|(rename_i e;cases e;done)|skip
  .obtain⟨c,rfl⟩:=n;rfl
  grind
 |.p _ _,_,n=>n.elim
 |.j,_,n=>n.elim
 |.o _,_,n=>n.elim
 |.m _,_,n=>n.elim
 |.e _ _ _,_,n=>n.elim
 |.a _ _ _,_,n=>n.elim
 |.f _ _ _,_,n=>n.elim
theorem wa{k:Nat}:∀{l q:List TV},FL NV l q->namesV (names1 (fa k)) q=false
 |[],[],_=>rfl
 |[],_::_,h=>h.elim
 |_::_,[],h=>h.elim
 |x::l,y::q,h=>by show(names1 (fa k) y||namesV (names1 (fa k)) q)=false;rw[Tc h.1,wa h.2];rfl
theorem UF{α:Type}{c:TC}{k:Option α}{o:Option RV}{x:den c}{q:α}(e:grabR c k o=some (x,q)):∃l,N0 c l=some x:=by
 unfold grabR at e;split at e
 .cases hi:mR c with
  |true=>rw[hi]at e;cases e
  |false=>rw[hi]at e;exact⟨_,(eD e).1⟩
 .cases hi:mR c with
  |false=>rw[hi]at e;cases e
  |true=>rw[hi]at e;exact⟨_,(eD e).1⟩
 grind
theorem Pe{k:Nat}{c:TC}{x:den c}{l:List TV}(e:N0 c l=some x):mC (fa k) (vd c (kd c x))=false:=by
 have h:=wa (k:=k) (mV c e);unfold vd;cases mR c with
 |true=>exact h
 |false =>
  split
  .rename_i y hy;rw[hy]at h;have h:(names1 (fa k) y||false)=false:=h;rw[jO]at h;exact h
  .exact h
theorem Fa{k N:Nat}(h:k≠N):names1 (fa k) (.o N)=false:=by
 show Nat.beq N k=false;cases hb:Nat.beq N k with
 |false=>rfl
 |true=>exact absurd (aD hb).symm h
theorem se{k:Nat}{v:TV}(hv:names1 (fa k) v=false):∀{l:List TV} {i:Nat},namesV (names1 (fa k)) l=false->namesV (names1 (fa k)) (rM l i [v])=false
 |[],i,_=>by unfold rM;simp only[List.take_nil,List.drop_nil,gU,fT];show(names1 (fa k) v||false)=false;grind
 |x::l,0,h=>by have h:(names1 (fa k) x||namesV (names1 (fa k)) l)=false:=h;show(names1 (fa k) v||namesV (names1 (fa k)) l)=false;grind
 |x::l,i+1,h=>by have h:(names1 (fa k) x||namesV (names1 (fa k)) l)=false:=h;rw[cO]at h;have ih:=se hv (l:=l) (i:=i) h.2;show(names1 (fa k) x||namesV (names1 (fa k)) (rM l i [v]))=false;grind
theorem wE{o:Option RV}{l:List TV}(h:J5 o=some l):o=some (.g l):=by
 unfold J5 at h;grind
theorem rZ{o:Option RV}{x:TV}(h:oneR o=some x):o=some (.s x):=by
 unfold oneR at h;grind
theorem wc{o:Option (List TV)}{i:Nat}{x:TV}(h:nthR i o=some x):∃l,o=some l/\l[i]?=some x:=by
 unfold nthR at h;grind
theorem Hv.FV{q:Lc×TC}{A:LA}{sy':Sy}(H:Hv X (q::A) s' E' s E sy a w χ){s1:TS}(st:bX X s1 E sy a w χ)(e1:s1.own=s.own)(e2:s1.aZ=s.aZ)(m1:∀k∈mapsA A,k∈mapsA (q::A))(m2:∀k∈numsA A,k∈numsA (q::A))(m3:∀k∈kJ s' A,k∈kJ s' (q::A))(nd:nodup (numsA A)=true)(Kb:nodup (kJ s' A)=true)
  (hr:∀k∈numsA A,∀t x,aa s1.al t=some x->aa s.al t=some x∨mC (fa k) x=false) (hb:∀k∈numsA A,∀id t cs,aa s1.boxes id=some (t,cs)->aa s.boxes id=some (t,cs)∨namesV (names1 (fa k)) cs=false):Hv X A s' E' s1 E sy a w χ :=
 ⟨st,H.ρ,H.μ,H.m,λk x e=>H.mp k x (e2▸e),λk hk=>by rw[e2];exact H.mpA k (m1 k hk),λp x e q' zV=>H.dt p x (e1▸e) q' (m3 q' zV),λk hk=>by
  obtain⟨n1,n2,n3,n4⟩:=H.num k (m2 k hk);exact⟨by rw[e1];exact n1,by rw[e2];exact n2,λt x e=>(hr k hk t x e).elim (n3 t x) (λh=>h),λid t cs e=>(hb k hk id t cs e).elim (n4 id t cs) (λh=>h)⟩,nd,Kb⟩
theorem EI{q:Lc×TC}{A:LA}:kJ s (q::A)=(match YL s q.1 with|some v=>ownsV [v]|none=>[])++kJ s A:=rfl
def QC(ns:List Nat)(E E2:En):Prop:=∀k,k∉ns->E2.σ k=E.σ k/\E2.κ k=E.κ k/\E2.c k=E.c k
theorem QC.wrap{R:En->Prop}{E E':En}{ns:List Nat}{n cp cc:Nat}{ad:Option Addr}(H:∃E2,R E2/\E2.ρ=E'.ρ/\E2.μ=E'.μ/\E2.m=E'.m/\QC ns ⟨E.ρ,iZ E.σ n ad,iZ E.κ n cp,E.μ,iZ E.c n cc,E.m⟩ E2):∃E2,R E2/\E2.ρ=E'.ρ/\E2.μ=E'.μ/\E2.m=E'.m/\QC (n::ns) E E2:=by
 obtain⟨E2,h1,h2,h3,h4,h5⟩:=H;refine⟨E2,h1,h2,h3,h4,λk hk=>?_⟩;obtain⟨g1,g2,g3⟩:=h5 k λhm=>hk (aw _ hm);grind[List.mem_cons_self,cq]
theorem kP(h':bX X s' E' sy a w χ):∀(A:LA) {s:TS} {E:En} (h:HL (gZ A)),jV s' A=some h->Hv X A s' E' s E sy a w χ->∃E2,bX X (hav A h s) E2 sy a w χ/\E2.ρ=E'.ρ/\E2.μ=E'.μ/\E2.m=E'.m/\QC (numsA A) E E2
 |[],s,E,h,_,H=>⟨E,H.st,H.ρ,H.μ,H.m,λ_ _=>⟨rfl,rfl,rfl⟩⟩
 |(.r t,c)::l,s,E,h,e,H=>by obtain⟨e1,sv,g1,g2⟩:=UE (x:=h.1) (q:=h.2) h' e;obtain⟨cl,hcl⟩:=UF (x:=h.1) (q:=h.2) e;refine kP h' l h.2 e1 (H.FV (sy':=sy) (H.st.WG g1 (g2 E s) s.ca) rfl rfl (λk hk=>hk) (λk hk=>hk) (λk hk=>aG _ hk) H.nd (jN H.Kb).1 (λk hk t' x e=>?_) λk hk id t' cs e=>.inl e);grind[aA,Pe]
 |(.x t i,c)::l,s,E,h,e,H=>by
  have e:grabX c (jV s' l) (nthR i (J5 (aa s'.al t)))=some (h.1,h.2):=e;cases hn:nthR i (J5 (aa s'.al t))with
  |none=>rw[hn]at e;cases e
  |some y =>
   rw[hn]at e;obtain⟨dG,k1,k2⟩:=wc hn;have k1:=wE k1;obtain⟨sv,g1,vs,rfl,g2⟩:=h'.al t _ k1;obtain⟨v,k3,k4⟩:=g2.get i y k2;obtain⟨e1,z,u,k5,k6,k7⟩:=Ji e k4.1;cases k6;have hcl:∃l,N0 c l=some h.1:=⟨_,(eD (show pairO (N0 c [y]) (jV s' l)=some (h.1,h.2)from e)).1⟩
   obtain⟨cl,hcl⟩:=hcl;show ∃E2,bX X (hav l h.2 ⟨Ga s t i (kd c h.1),s.boxes,s.own,s.aZ,s.ca⟩) E2 sy a w χ/\E2.ρ=E'.ρ/\E2.μ=E'.μ/\E2.m=E'.m/\QC (numsA l) E E2;rw[k5];unfold Ga;split
   .rename_i cs sU;have sU:=wE sU;obtain⟨sv2,p1,vs2,rfl,p2⟩:=H.st.al t _ sU;have:vs=vs2:=by grind
    subst this;refine kP h' l h.2 e1 (H.FV (sy':=sy) (H.st.WG (x:=.g (rM cs i [z])) g1 ⟨vs,rfl,VH p2 k3 ⟨kS k7,k7.one⟩⟩ s.ca) rfl rfl (λk hk=>hk) (λk hk=>hk) (λk hk=>aG _ hk) H.nd (jN H.Kb).1 (λk hk t' x e=>?_) λk hk id t' cs e=>.inl e);rcases aA e with⟨q1,q2⟩|⟨_,q2⟩
    .subst q2;refine .inr (se ?_ ((H.num k hk).2.2.1 t _ sU));have:=wa (k:=k) (mV c hcl);rw[k5]at this;have this:(names1 (fa k) z||false)=false:=this;grind
    grind
   .exact kP h' l h.2 e1 (H.FV (sy':=sy) H.st rfl rfl (λk hk=>hk) (λk hk=>hk) (λk hk=>aG _ hk) H.nd (jN H.Kb).1 (λk hk t' x e=>.inl e) λk hk id t' cs e=>.inl e)
 |(.b id i,c)::l,s,E,h,e,H=>by
  have e:grabX c (jV s' l) (nthR i (bx s' id))=some (h.1,h.2):=e;cases hn:nthR i (bx s' id)with
  |none=>rw[hn]at e;cases e
  |some y =>
   rw[hn]at e;obtain⟨dG,k1,k2⟩:=wc hn;obtain⟨b,ss,g1,g2⟩:=Ap h' k1;obtain⟨v,k3,k4⟩:=g2.get i y k2;obtain⟨e1,z,u,k5,k6,k7⟩:=Ji e k4;subst k6;have hcl:∃l,N0 c l=some h.1:=⟨_,(eD (show pairO (N0 c [y]) (jV s' l)=some (h.1,h.2)from e)).1⟩
   obtain⟨cl,hcl⟩:=hcl;show ∃E2,bX X (hav l h.2 ⟨s.al,iT s id i (kd c h.1),s.own,s.aZ,s.ca⟩) E2 sy a w χ/\E2.ρ=E'.ρ/\E2.μ=E'.μ/\E2.m=E'.m/\QC (numsA l) E E2;rw[k5];unfold iT;split
   .rename_i b2 cs sU;obtain⟨ss2,p1,p2⟩:=H.st.boxes id b2 cs sU;rw[g1]at p1;cases p1;refine kP h' l h.2 e1 (H.FV (sy':=sy) (H.st.adn g1 (Od p2 k3 (kS k7)) s.ca) rfl rfl (λk hk=>hk) (λk hk=>hk) (λk hk=>aG _ hk) H.nd (jN H.Kb).1 (λk hk t' x e=>.inl e) λk hk kO t' dG e=>?_);rcases aA e with⟨q1,q2⟩|⟨_,q2⟩
    .cases q2;refine .inr (se ?_ ((H.num k hk).2.2.2 id b cs sU));have:=wa (k:=k) (mV c hcl);rw[k5]at this;have this:(names1 (fa k) z||false)=false:=this;grind
    grind
   .exact kP h' l h.2 e1 (H.FV (sy':=sy) H.st rfl rfl (λk hk=>hk) (λk hk=>hk) (λk hk=>aG _ hk) H.nd (jN H.Kb).1 (λk hk t' x e=>.inl e) λk hk id t' cs e=>.inl e)
 |(.bm id i k,c)::l,s,E,h,e,H=>by
  have e:(bif Ff s' id i k then jV s' l else none)=some h:=e;cases hb:Ff s' id i k with
  |false=>rw[hb]at e;cases e
  |true =>
   rw[hb]at e;unfold Ff at hb;split at hb
   .rename_i j hn;rw[ak]at hb;obtain rfl:=aD hb.1;obtain⟨mp,hmp⟩:=bR.1 hb.2;obtain⟨dG,k1,k2⟩:=wc hn;obtain⟨b,ss,g1,g2⟩:=Ap h' k1;obtain⟨v,k3,u,rfl,k5⟩:=g2.get i _ k2;have k6:=k5 mp hmp;subst k6;show ∃E2,bX X (hav l h ⟨s.al,bif (numsA l).any (Nat.beq j)then s.boxes else iT s id i [.m j],s.own,s.aZ,s.ca⟩) E2 sy a w χ/\E2.ρ=E'.ρ/\E2.μ=E'.μ/\E2.m=E'.m/\QC (numsA l) E E2;have skip:=kP h' l h e (H.FV (sy':=sy) (A:=l) (s1:=⟨s.al,s.boxes,s.own,s.aZ,s.ca⟩) H.st rfl rfl (λk hk=>hk) (λk hk=>hk) (λk hk=>hk) H.nd H.Kb (λk hk t' x e=>.inl e) λk hk id t cs e=>.inl e);cases hj:(numsA l).any (Nat.beq j)with
    |true=>exact skip
    |false =>
     have hj:=bl.1 hj;simp only[eQ];unfold iT;split
     .rename_i b2 cs sU;obtain⟨ss2,p1,p2⟩:=H.st.boxes id b2 cs sU;rw[g1]at p1;cases p1;refine kP h' l h e (H.FV (sy':=sy) (H.st.adn g1 (Od (z:=.m j) p2 k3 ⟨_,rfl,λmp _=>by rw[H.μ]⟩) s.ca) rfl rfl (λk hk=>hk) (λk hk=>hk) (λk hk=>hk) H.nd H.Kb (λk hk t' x e=>.inl e) λk hk kO t' dG e=>?_);rcases aA e with⟨q1,q2⟩|⟨_,q2⟩
      .cases q2;refine .inr (se ?_ ((H.num k hk).2.2.2 id b cs sU));show Nat.beq j k=false;cases hb:Nat.beq j k with
       |true=>exact absurd (aD hb▸hk) hj
       |false=>rfl
      grind
     omega
   grind
 |(.c t u,c)::l,s,E,h,e,H=>by
  have e:(bif Eu s' t u then jV s' l else none)=some h:=e;cases hb:Eu s' t u with
  |false=>rw[hb]at e;cases e
  |true =>
   rw[hb]at e;have key:∀sv,aa sy.al u=some sv->aa sy.al t=some sv:=by
    intro sv Fe;unfold Eu at hb;split at hb
    .rename_i k j h1 h2;rw[ak]at hb;cases aD hb.1;obtain⟨ow,how⟩:=bR.1 hb.2;obtain⟨s1,p1,p2⟩:=h'.al t _ (rZ h1);obtain⟨s2,p3,p4⟩:=h'.al u _ (rZ h2);rw[TR.own (w:=w) (χ:=χ) p2 how]at p1;rw[Fe]at p3;cases p3;rw[p1,TR.own (w:=w) (χ:=χ) p4 how]
    .rename_i h1 h2;obtain⟨s1,p1,v1,rfl,rfl,_⟩:=h'.al t _ (rZ h1);obtain⟨s2,p3,v2,rfl,rfl,_⟩:=h'.al u _ (rZ h2);grind
    grind
   show ∃E2,bX X (hav l h ⟨Yv s t u,s.boxes,s.own,s.aZ,s.ca⟩) E2 sy a w χ/\E2.ρ=E'.ρ/\E2.μ=E'.μ/\E2.m=E'.m/\QC (numsA l) E E2;unfold Yv;split
   .rename_i v hv;obtain⟨sv,p1,p2⟩:=H.st.al u _ hv;refine kP h' l h e (H.FV (sy':=sy) (H.st.WG (key sv p1) p2 s.ca) rfl rfl (λk hk=>hk) (λk hk=>hk) (λk hk=>aG _ hk) H.nd (jN H.Kb).1 (λk hk t' x e=>?_) λk hk id t' cs e=>.inl e);rcases aA e with⟨q1,q2⟩|⟨_,q2⟩
    .subst q2;exact .inr ((H.num k hk).2.2.1 u _ hv)
    grind
   .exact kP h' l h e (H.FV (sy':=sy) H.st rfl rfl (λk hk=>hk) (λk hk=>hk) (λk hk=>aG _ hk) H.nd (jN H.Kb).1 (λk hk t' x e=>.inl e) λk hk id t' cs e=>.inl e)
 |(.m k,c)::l,s,E,h,e,H=>by
  have e:grabM s' k c (jV s' l)=some (h.1,h.2):=e;unfold grabM at e;split at e
  .rename_i c' l' hk;split at e
   .rename_i hc;subst hc;obtain⟨e1,e2⟩:=eD e;obtain⟨x,hx⟩:=H.mpA k aI;have XH:=H.mp k x hx;rw[hk]at XH;cases XH;have lk:∀q,aa ((k,(⟨c',h.1⟩:J9))::s.aZ) q=aa s.aZ q:=λq=>by grind[look_eq,bd]
    have nm:∀y,Nm E E s ⟨s.al,s.boxes,s.own,(k,⟨c',h.1⟩)::s.aZ,s.ca⟩ y:=λy q _=>⟨λmQ e=>⟨mQ,e,rfl,rfl,rfl,rfl⟩,λmp' e=>⟨mp',(lk q).symm.trans e,rfl⟩⟩
    have st:bX X ⟨s.al,s.boxes,s.own,(k,⟨c',h.1⟩)::s.aZ,s.ca⟩ E sy a w χ:=H.st.step (Ev.refl eN w χ) rfl rfl H.st.st (λq y e=>.inr ⟨e,λ_ e=>e,λy _=>nm y⟩) (λi t cs e=>.inr ⟨e,λ_ e=>e,λy _=>nm y⟩) (λk x e=>.inr ⟨e,rfl,rfl,rfl,rfl⟩) (λq x e=>.inr ⟨(lk q).symm.trans e,rfl,rfl,rfl⟩) ⟨H.st.aQ.o,λq x e=>H.st.aQ.m q x ((lk q).symm.trans e),H.st.aQ.oo,λq x j y e e'=>H.st.aQ.om q x j y e ((lk j).symm.trans e'),λq x j y e e'=>H.st.aQ.mm q x j y ((lk q).symm.trans e) ((lk j).symm.trans e')⟩ H.st.qu;exact kP h' l h.2 e2 ⟨st,H.ρ,H.μ,H.m,λq x e=>H.mp q x ((lk q).symm.trans e),λq hq=>by
     obtain⟨x,hx⟩:=H.mpA q (aw _ hq);exact⟨x,(lk q).trans hx⟩,H.dt,λq hq=>by
     obtain⟨n1,n2,n3,n4⟩:=H.num q hq;exact⟨n1,(lk q).trans n2,n3,n4⟩,H.nd,H.Kb⟩
   grind
  grind
 |(.o t e0 n0,c)::l,s,E,h,e,H=>by
  have e:grabO s' e0 c (jV s' l) (oneR (aa s'.al t))=some (h.1,h.2):=e;cases hn:oneR (aa s'.al t)with
  |none=>rw[hn]at e;cases e
  |some v =>
   rw[hn]at e;obtain⟨e1,e2⟩:=eD (show pairO (AX s' e0 c (.s v)) (jV s' l)=some (h.1,h.2)from e);obtain⟨sv,g1,g2⟩:=h'.al t _ (rZ hn);have hA:kJ s' ((.o t e0 n0,c)::l)=ownsV [v]++kJ s' l:=by rw[EI,show YL s' (.o t e0 n0)=some v from hn]
   obtain⟨cc,ad,cp,rfl,wO,os,f1,f2,f3⟩:=SR h' H e1 g2 (λk hk=>by rw[hA];exact aN _ hk);have hno:=H.Kb;rw[hA]at hno;obtain⟨d1,d2⟩:=jN hno;obtain⟨d3,d4⟩:=nodup_cons (show nodup (n0::numsA l)=true from H.nd);obtain⟨n1,n2,n3,n4⟩:=H.num n0 aI;have b:=H.st.bind n3 n4 n1 n2 wO f1 f2 os;refine QC.wrap (n:=n0) (kP h' l h.2 e2 ⟨b.WG (x:=.s (.o n0)) g1 ⟨_,rfl,λow e=>?_⟩ s.ca,H.ρ,H.μ,H.m,H.mp,H.mpA,λq x e q' zV x' e'=>?_,λk hk=>?_,d4,d1⟩)
   .grind[aa,look_eq,eC]
   .show iZ E.c n0 cc q≠E'.c q';rcases aA e with⟨q1,q2⟩|⟨q1,q2⟩
    .grind[eC]
    .rw[cq (bC q1)];exact H.dt q x q2 q' (by rw[hA];exact aG _ zV) x' e'
   .have hne:k≠n0:=λe=>d3 (e▸hk);obtain⟨n1,n2,n3,n4⟩:=H.num k (aw _ hk);refine⟨(bd (bC hne)).trans n1,n2,λt' x e=>?_,n4⟩;rcases aA e with⟨_,q2⟩|⟨_,q2⟩
    .subst q2;exact Fa hne
    grind
 |(.bo id i e0 n0,c)::l,s,E,h,e,H=>by
  have e:grabO s' e0 c (jV s' l) (nthR i (bx s' id))=some (h.1,h.2):=e;cases hn:nthR i (bx s' id)with
  |none=>rw[hn]at e;cases e
  |some v =>
   rw[hn]at e;obtain⟨e1,e2⟩:=eD (show pairO (AX s' e0 c (.s v)) (jV s' l)=some (h.1,h.2)from e);obtain⟨dG,k1,k2⟩:=wc hn;obtain⟨b0,ss,g1,g2⟩:=Ap h' k1;obtain⟨sv,k3,k4⟩:=g2.get i v k2;have hA:kJ s' ((.bo id i e0 n0,c)::l)=ownsV [v]++kJ s' l:=by rw[EI,show YL s' (.bo id i e0 n0)=some v from hn]
   obtain⟨cc,ad,cp,rfl,wO,os,f1,f2,f3⟩:=SR h' H e1 k4 (λk hk=>by rw[hA];exact aN _ hk);have hno:=H.Kb;rw[hA]at hno;obtain⟨d1,d2⟩:=jN hno;obtain⟨d3,d4⟩:=nodup_cons (show nodup (n0::numsA l)=true from H.nd);obtain⟨n1,n2,n3,n4⟩:=H.num n0 aI;have b:=H.st.bind n3 n4 n1 n2 wO f1 f2 os;have fin:∀{s1:TS},bX X s1 ⟨E.ρ,iZ E.σ n0 ad,iZ E.κ n0 cp,E.μ,iZ E.c n0 cc,E.m⟩ sy a w χ->s1.al=s.al->s1.own=(n0,⟨e0,c,h.1⟩)::s.own->s1.aZ=s.aZ->(∀k∈numsA l,∀kO t cs,aa s1.boxes kO=some (t,cs)->namesV (names1 (fa k)) cs=false)->∃E2,bX X (hav l h.2 s1) E2 sy a w χ/\E2.ρ=E'.ρ/\E2.μ=E'.μ/\E2.m=E'.m/\QC (n0::numsA l) E E2:=by
    intro s1 st r1 r2 r3 r4;refine QC.wrap (kP h' l h.2 e2 ⟨st,H.ρ,H.μ,H.m,λk x e=>H.mp k x (r3▸e),λk hk=>by rw[r3];exact H.mpA k hk,λq x e q' zV x' e'=>?_,λk hk=>?_,d4,d1⟩)
    .show iZ E.c n0 cc q≠E'.c q';rw[r2]at e;rcases aA e with⟨q1,q2⟩|⟨q1,q2⟩
     .grind[eC]
     .rw[cq (bC q1)];exact H.dt q x q2 q' (by rw[hA];exact aG _ zV) x' e'
    .have hne:k≠n0:=λe=>d3 (e▸hk);obtain⟨n1,n2,n3,n4⟩:=H.num k (aw _ hk);grind[bd]
   show ∃E2,bX X (hav l h.2 ⟨s.al,iT s id i [.o n0],(n0,⟨e0,c,h.1⟩)::s.own,s.aZ,s.ca⟩) E2 sy a w χ/\E2.ρ=E'.ρ/\E2.μ=E'.μ/\E2.m=E'.m/\QC (n0::numsA l) E E2;unfold iT;split
   .rename_i b2 cs sU;obtain⟨ss2,p1,p2⟩:=b.boxes id b2 cs sU;rw[g1]at p1;cases p1;refine fin (b.adn g1 (Od (z:=.o n0) p2 k3 ⟨_,rfl,λow e=>?_⟩) s.ca) rfl rfl rfl λk hk kO t' dG e=>?_
    .grind[aa,look_eq,eC]
    .rcases aA e with⟨q1,q2⟩|⟨_,q2⟩
     .cases q2;exact se (Fa λe=>d3 (by rw[←e];exact hk)) ((H.num k (aw _ hk)).2.2.2 id _ cs sU)
     .exact(H.num k (aw _ hk)).2.2.2 kO t' dG q2
   .exact fin b rfl rfl rfl λk hk=>(H.num k (aw _ hk)).2.2.2
end
end
section
section
variable{X:Cx}{sy:Sy}{a:Act}{w:World}{χ:Nat->Nat}{E:En}{s s':TS}{E':En}
theorem bX.cg(h:bX X s E sy a w χ){s1:TS}(e1:s1.al=s.al)(e2:s1.boxes=s.boxes)(e3:s1.own=s.own)(e4:∀k,aa s1.aZ k=aa s.aZ k):bX X s1 E sy a w χ:=by
 have nm:∀y,Nm E E s s1 y:=λy k _=>⟨λmQ e=>⟨mQ,e3▸e,rfl,rfl,rfl,rfl⟩,λmp' e=>⟨mp',(e4 k).symm.trans e,rfl⟩⟩
 exact h.step (Ev.refl eN w χ) rfl rfl h.st (λq y e=>.inr ⟨e1▸e,λ_ e=>e,λy _=>nm y⟩) (λi t cs e=>.inr ⟨e2▸e,λ_ e=>e,λy _=>nm y⟩) (λk x e=>.inr ⟨e3▸e,rfl,rfl,rfl,rfl⟩) (λk x e=>.inr ⟨(e4 k).symm.trans e,rfl,rfl,rfl⟩) ⟨λk x e=>h.aQ.o k x (e3▸e),λk x e=>h.aQ.m k x ((e4 k).symm.trans e),λk x j y e e'=>h.aQ.oo k x j y (e3▸e) (e3▸e'),λk x j y e e'=>h.aQ.om k x j y (e3▸e) ((e4 j).symm.trans e'),λk x j y e e'=>h.aQ.mm k x j y ((e4 k).symm.trans e) ((e4 j).symm.trans e')⟩ h.qu
theorem tN:∀(A:LA)(h:HL (gZ A)) {s1 s2:TS},s1.al=s2.al->s1.boxes=s2.boxes->s1.own=s2.own->(∀k,k∉mapsA A->aa s1.aZ k=aa s2.aZ k)->(hav A h s1).al=(hav A h s2).al/\(hav A h s1).boxes=(hav A h s2).boxes/\(hav A h s1).own=(hav A h s2).own/\∀k,aa (hav A h s1).aZ k=aa (hav A h s2).aZ k
 |[],h,s1,s2,e1,e2,e3,e4=>⟨e1,e2,e3,λk=>e4 k (by intro h;cases h)⟩
 |(.r t,c)::l,h,s1,s2,e1,e2,e3,e4=>tN l h.2 (by show _::_=_::_;rw[e1]) e2 e3 e4
 |(.x t i,c)::l,h,s1,s2,e1,e2,e3,e4=>tN l h.2 (by show Ga s1 t i _=Ga s2 t i _;unfold Ga;rw[e1]) e2 e3 e4
 |(.b id i,c)::l,h,s1,s2,e1,e2,e3,e4=>tN l h.2 e1 (by show iT s1 id i _=iT s2 id i _;unfold iT;rw[e2]) e3 e4
 |(.bm id i k,c)::l,h,s1,s2,e1,e2,e3,e4=>tN l h e1 (by show(bif _ then s1.boxes else iT s1 id i _)=bif _ then s2.boxes else iT s2 id i _;unfold iT;rw[e2]) e3 e4
 |(.c t u,c)::l,h,s1,s2,e1,e2,e3,e4=>tN l h (by show Yv s1 t u=Yv s2 t u;unfold Yv;rw[e1]) e2 e3 e4
 |(.m k,c)::l,h,s1,s2,e1,e2,e3,e4=>tN l h.2 e1 e2 e3 λq hq=>by
  show aa ((k,_)::s1.aZ) q=aa ((k,_)::s2.aZ) q;by_cases hk:k=q
  .subst hk;rw[look_eq,look_eq]
  .rw[bd hk,bd hk];exact e4 q λhm=>(aE.1 hm).elim (λe=>hk e.symm) hq
 |(.o t e0 n0,c)::l,h,s1,s2,e1,e2,e3,e4=>tN l h.2 (by show _::_=_::_;rw[e1]) e2 (by show _::_=_::_;rw[e3]) e4
 |(.bo id i e0 n0,c)::l,h,s1,s2,e1,e2,e3,e4=>tN l h.2 e1 (by show iT s1 id i _=iT s2 id i _;unfold iT;rw[e2]) (by show _::_=_::_;rw[e3]) e4
structure Bs (A:LA) (hd s':TS):Prop where
 al:∀t x,aa hd.al t=some x->aa s'.al t=some x∨∃n dG,x=.g (List.replicate n .j)/\aa s'.al t=some (.g dG)/\dG.length=n
 boxes:∀id t cs,aa hd.boxes id=some (t,cs)->∃dG,aa s'.boxes id=some (t,dG)/\dG.length=cs.length/\∀(i:Nat) v,cs[i]?=some v->v=.j∨dG[i]?=some v
 own:∀k x,aa hd.own k=some x->aa s'.own k=some x/\k∉kJ s' A
 aZ:∀k x,aa hd.aZ k=some x->∃y,aa s'.aZ k=some y/\(k∉mapsA A->y=x)
 Kb:nodup (kJ s' A)=true
theorem FLj{R:TV->SV->Prop}(hj:∀sv,R .j sv):∀{cs dG:List TV} {ss:List SV},dG.length=cs.length->(∀(i:Nat) v,cs[i]?=some v->v=.j∨dG[i]?=some v)->FL R dG ss->FL R cs ss
 |[],[],[],_,_,_=>trivial
 |[],[],_::_,_,_,h=>h.elim
 |[],_::_,_,h,_,_=>by cases h
 |_::_,[],_,h,_,_=>by cases h
 |x::cs,y::dG,[],_,_,h=>h.elim
 |x::cs,y::dG,v::ss,hl,hi,h=>by
  refine⟨?_,FLj hj (by simpa using hl) (λi v e=>hi (i+1) v e) h.2⟩;rcases hi 0 x rfl with e|e
  .subst e;exact hj v
  .cases e;exact h.1
theorem N5(h':bX X s' E' sy a w χ){A:LA}{hd:TS}{ds:List Nat}(B:Bs A hd s')(hh:rq A ds hd=true)(hn:∀k∈numsA A,aa hd.own k=none/\aa hd.aZ k=none){h:HL (gZ A)}(e:jV s' A=some h):∃E2,bX X (hav A h hd) E2 sy a w χ/\E2.ρ=E'.ρ/\E2.μ=E'.μ/\E2.m=E'.m/\QC (numsA A) E' E2:=by
 unfold rq at hh;simp only[ak]at hh;obtain⟨⟨⟨⟨⟨⟨q1,q2⟩,q3⟩,q4⟩,q5⟩,q6⟩,q7⟩:=hh;have Iy:∀k x,aa (s'.aZ.filter (λq=>(aa hd.aZ q.1).isSome)) k=some x->(aa hd.aZ k).isSome=true/\aa s'.aZ k=some x:=λk x e=>bg (f:=λi=>(aa hd.aZ i).isSome) e;have nm:∀y,Nm E' E' s' ⟨hd.al,hd.boxes,hd.own,s'.aZ.filter (λq=>(aa hd.aZ q.1).isSome),hd.ca⟩ y:=λy k _=>⟨λmQ e=>⟨mQ,(B.own k mQ e).1,rfl,rfl,rfl,rfl⟩,λmp' e=>⟨mp',(Iy k mp' e).2,rfl⟩⟩
 have st:bX X ⟨hd.al,hd.boxes,hd.own,s'.aZ.filter (λq=>(aa hd.aZ q.1).isSome),hd.ca⟩ E' sy a w χ:=by
  refine h'.step (Ev.refl eN w χ) rfl rfl h'.st (λt x e=>?_) (λi t cs e=>?_) (λk x e=>.inr ⟨(B.own k x e).1,rfl,rfl,rfl,rfl⟩) (λk x e=>.inr ⟨(Iy k x e).2,rfl,rfl,rfl⟩) ⟨λk x e=>h'.aQ.o k x (B.own k x e).1,λk x e=>h'.aQ.m k x (Iy k x e).2,λk x j y e e'=>h'.aQ.oo k x j y (B.own k x e).1 (B.own j y e').1,λk x j y e e'=>h'.aQ.om k x j y (B.own k x e).1 (Iy j y e').2,λk x j y e e'=>h'.aQ.mm k x j y (Iy k x e).2 (Iy j y e').2⟩ h'.qu
  .rcases B.al t x e with h1|⟨n,dG,rfl,h1,h2⟩
   .exact .inr ⟨h1,λ_ e=>e,λy _=>nm y⟩
   .obtain⟨sv,g1,vs,rfl,g2⟩:=h'.al t _ h1;refine .inl ⟨_,g1,vs,rfl,?_⟩;have:∀{dG:List TV} {vs:List Value} {n:Nat},dG.length=n->FL (λx v=>TR w χ E' s' x (V v)/\v.oneCell'=true) dG vs->FL (λx v=>TR w χ E' ⟨hd.al,hd.boxes,hd.own,s'.aZ.filter (λq=>(aa hd.aZ q.1).isSome),hd.ca⟩ x (V v)/\v.oneCell'=true) (List.replicate n .j) vs:=by
     intro dG
     induction dG with
     |nil=>intro vs n hn h;cases vs with|nil=>(cases hn;trivial)|cons _ _=>exact h.elim
     |cons x l ih=>intro vs n hn h;cases vs with
      |nil=>exact h.elim
      |cons v vs=>cases hn;exact⟨⟨trivial,h.1.2⟩,ih rfl h.2⟩
    exact this h2 g2
  .obtain⟨dG,h1,h2,h3⟩:=B.boxes i t cs e;obtain⟨ss,g1,g2⟩:=h'.boxes i t dG h1;exact .inl ⟨ss,g1,FLj (λ_=>trivial) h2 h3 (DN (λy _ sv k=>TR.tr (M0.refl w χ) (nm y) k) g2)⟩
 have H:Hv X A s' E' ⟨hd.al,hd.boxes,hd.own,s'.aZ.filter (λq=>(aa hd.aZ q.1).isSome),hd.ca⟩ E' sy a w χ:=by
  refine⟨st,rfl,rfl,rfl,λk x e=>(Iy k x e).2,λk hk=>?_,λq x e q' zV x' e' he=>?_,λk hk=>⟨(hn k hk).1,?_,λt x e=>?_,λid t cs e=>?_⟩,q1,B.Kb⟩
  .have h1:=aO.1 q6 k hk;obtain⟨x,hx⟩:=bR.1 h1;obtain⟨y,hy,_⟩:=B.aZ k x hx;exact⟨y,fH (f:=λi=>(aa hd.aZ i).isSome) h1 hy⟩
  .obtain⟨h1,h2⟩:=B.own q x e;exact h2 (h'.aQ.oo q x q' x' h1 e' he▸zV)
  .cases hl:aa (s'.aZ.filter (λq=>(aa hd.aZ q.1).isSome)) k with
   |none=>rfl
   |some y=>have:=(Iy k y hl).1;rw[(hn k hk).2]at this;cases this
  .have h1:=gu.1 (aO.1 q2 k hk);simpa using aO.1 h1.1 _ (ct e)
  .have h1:=gu.1 (aO.1 q2 k hk);simpa using aO.1 h1.2 _ (ct e)
 obtain⟨E2,h2,hE⟩:=kP h' A h e H;have cg:=tN A h (s1:=hd) (s2:=⟨hd.al,hd.boxes,hd.own,s'.aZ.filter (λq=>(aa hd.aZ q.1).isSome),hd.ca⟩) rfl rfl rfl λk hk=>by
  cases hl:aa hd.aZ k with
  |none=>cases ZS:aa (s'.aZ.filter (λq=>(aa hd.aZ q.1).isSome)) k with
   |none=>rfl
   |some y=>have:=(Iy k y ZS).1;rw[hl]at this;cases this
  |some x=>obtain⟨y,hy,he⟩:=B.aZ k x hl;rw[he hk]at hy;exact(fH (f:=λi=>(aa hd.aZ i).isSome) (by rw[hl];rfl) hy).symm
 exact⟨E2,h2.cg cg.1 cg.2.1 cg.2.2.1 cg.2.2.2,hE⟩
structure Hf (A:LA) (s s':TS):Prop where
 al:∀t,t∉regsA A->aa s'.al t=aa s.al t
 boxes:∀id t cs,aa s.boxes id=some (t,cs)->∃dG,aa s'.boxes id=some (t,dG)/\dG.length=cs.length/\∀off,(id,off)∉cellA A->dG[off]?=cs[off]?
 own:∀k,k∉numsA A->aa s'.own k=aa s.own k
 aZ:∀k,k∉mapsA A->aa s'.aZ k=aa s.aZ k
 ca:s'.ca=s.ca
theorem W5{c:TC}(h:mR c=false)(x:den c):(kd c x).length=1:=by cases c<;>first|rfl|cases h
theorem rL:∀{l:List TV} {i:Nat} {z:TV},i<l.length->(rM l i [z]).length=l.length:=by
 intro l i z hi;unfold rM;simp only[aS,bH,dy,sQ];omega
theorem Gb{l:List TV}{i j:Nat}{z:TV}(hi:i<l.length)(h:j≠i):(rM l i [z])[j]?=l[j]?:=by
 unfold rM;have Ke:(l.take i).length=i:=by simp;omega
 by_cases h1:j<i
 .rw[bV,fU (by omega),bQ,if_pos h1]
 .rw[eS (by simp only[aS,bH,sQ];omega),aS,Ke,sQ,eJ];congr 1;omega
end
end
section
section
variable{P:Program}{T:Tb}{X:Cx}{sy:Sy}{a:Act}{w:World}{χ:Nat->Nat}{E:En}{s s':TS}{E':En}
theorem Hf.refl(s:TS):Hf [] s s:=⟨λ_ _=>rfl,λid t cs e=>⟨cs,e,rfl,λ_ _=>rfl⟩,λ_ _=>rfl,λ_ _=>rfl,rfl⟩
theorem oO:∀(A:LA)(h:HL (gZ A)) (s:TS),notesOK A=true->(∀q∈cellA A,∃t cs,aa s.boxes q.1=some (t,cs)/\q.2<cs.length)->Hf A s (hav A h s)
 |[],h,s,_,_=>Hf.refl s
 |(.r t,c)::l,h,s,hn,hc=>by have ih:=oO l h.2 ⟨(t,vd c (kd c h.1))::s.al,s.boxes,s.own,s.aZ,s.ca⟩ hn hc;exact⟨λq hq=>(ih.al q λe=>hq (aw _ e)).trans (bd λe=>hq (e▸aI)),ih.boxes,ih.own,ih.aZ,ih.ca⟩
 |(.x t i,c)::l,h,s,hn,hc=>by
  have hn:(!mR c&&notesOK l)=true:=hn;rw[ak]at hn;have ih:=oO l h.2 ⟨Ga s t i (kd c h.1),s.boxes,s.own,s.aZ,s.ca⟩ hn.2 hc;refine⟨λq hq=>(ih.al q λe=>hq (aw _ e)).trans ?_,ih.boxes,ih.own,ih.aZ,ih.ca⟩;show aa (Ga s t i (kd c h.1)) q=aa s.al q;unfold Ga;split
  .exact bd λe=>hq (e▸aI)
  .rfl
 |(.c t u,c)::l,h,s,hn,hc=>by
  have ih:=oO l h ⟨Yv s t u,s.boxes,s.own,s.aZ,s.ca⟩ hn hc;refine⟨λq hq=>(ih.al q λe=>hq (aw _ e)).trans ?_,ih.boxes,ih.own,ih.aZ,ih.ca⟩;show aa (Yv s t u) q=aa s.al q;unfold Yv;split
  .exact bd λe=>hq (e▸aI)
  .rfl
 |(.m k,c)::l,h,s,hn,hc=>by have ih:=oO l h.2 ⟨s.al,s.boxes,s.own,(k,⟨c,h.1⟩)::s.aZ,s.ca⟩ hn hc;exact⟨ih.al,ih.boxes,ih.own,λq hq=>(ih.aZ q λe=>hq (aw _ e)).trans (bd λe=>hq (e▸aI)),ih.ca⟩
 |(.o t e0 n0,c)::l,h,s,hn,hc=>by have ih:=oO l h.2 ⟨(t,.s (.o n0))::s.al,s.boxes,(n0,⟨e0,c,h.1⟩)::s.own,s.aZ,s.ca⟩ hn hc;exact⟨λq hq=>(ih.al q λe=>hq (aw _ e)).trans (bd λe=>hq (e▸aI)),ih.boxes,λq hq=>(ih.own q λe=>hq (aw _ e)).trans (bd λe=>hq (e▸aI)),ih.aZ,ih.ca⟩
 |(.b id i,c)::l,h,s,hn,hc=>by
  have hn:(!mR c&&notesOK l)=true:=hn;rw[ak]at hn;obtain⟨t0,U2,k1,k2⟩:=hc (id,i) aI;obtain⟨z,hz⟩:∃z,kd c h.1=[z]:=by
   have:=W5 (by simpa using hn.1) h.1
   match ho:kd c h.1,this with
   |[z],_=>exact⟨z,rfl⟩
  have hs:iT s id i (kd c h.1)=(id,(t0,rM U2 i [z]))::s.boxes:=by unfold iT;rw[k1,hz]
  have ih:=oO l h.2 ⟨s.al,iT s id i (kd c h.1),s.own,s.aZ,s.ca⟩ hn.2 (λq hq=>by
   obtain⟨t,cs,g1,g2⟩:=hc q (aw _ hq);by_cases he:id=q.1
   .subst he;rw[k1]at g1;cases g1;exact⟨t0,rM U2 i [z],by show aa (iT s _ i _) _=_;rw[hs];exact look_eq,by rw[rL k2];exact g2⟩
   .exact⟨t,cs,by show aa (iT s id i _) _=_;rw[hs];exact(bd he).trans g1,g2⟩)
  refine⟨ih.al,λkO t cs e=>?_,ih.own,ih.aZ,ih.ca⟩;by_cases he:id=kO
  .subst he;rw[k1]at e;cases e;obtain⟨dG,g1,g2,g3⟩:=ih.boxes id t0 (rM U2 i [z]) (by show aa (iT s id i _) id=_;rw[hs];exact look_eq);exact⟨dG,g1,g2.trans (rL k2),λoff ho=>(g3 off λe=>ho (aw _ e)).trans (Gb k2 λe=>ho (e▸aI))⟩
  .obtain⟨dG,g1,g2,g3⟩:=ih.boxes kO t cs (by show aa (iT s id i _) kO=_;rw[hs];exact(bd he).trans e);exact⟨dG,g1,g2,λoff ho=>g3 off λe=>ho (aw _ e)⟩
 |(.bm id i k,c)::l,h,s,hn,hc=>by
  obtain⟨t0,U2,k1,k2⟩:=hc (id,i) aI;cases hj:(numsA l).any (Nat.beq k)with
  |true =>
   have ih:=oO l h ⟨s.al,s.boxes,s.own,s.aZ,s.ca⟩ hn λq hq=>hc q (aw _ hq);have eq:hav ((.bm id i k,c)::l) h s=hav l h ⟨s.al,s.boxes,s.own,s.aZ,s.ca⟩:=by show hav l h ⟨s.al,bif (numsA l).any (Nat.beq k)then s.boxes else iT s id i [.m k],s.own,s.aZ,s.ca⟩=_;rw[hj];rfl
   rw[eq];refine⟨ih.al,λkO t cs e=>?_,ih.own,ih.aZ,ih.ca⟩;obtain⟨dG,g1,g2,g3⟩:=ih.boxes kO t cs e;exact⟨dG,g1,g2,λoff ho=>g3 off λe=>ho (aw _ e)⟩
  |false =>
   have hs:iT s id i [.m k]=(id,(t0,rM U2 i [.m k]))::s.boxes:=by unfold iT;rw[k1]
   have eq:hav ((.bm id i k,c)::l) h s=hav l h ⟨s.al,iT s id i [.m k],s.own,s.aZ,s.ca⟩:=by show hav l h ⟨s.al,bif (numsA l).any (Nat.beq k)then s.boxes else iT s id i [.m k],s.own,s.aZ,s.ca⟩=_;rw[hj];rfl
   rw[eq];have ih:=oO l h ⟨s.al,iT s id i [.m k],s.own,s.aZ,s.ca⟩ hn (λq hq=>by
    obtain⟨t,cs,g1,g2⟩:=hc q (aw _ hq);by_cases he:id=q.1
    .subst he;rw[k1]at g1;cases g1;exact⟨t0,rM U2 i [.m k],by show aa (iT s _ i _) _=_;rw[hs];exact look_eq,by rw[rL k2];exact g2⟩
    .exact⟨t,cs,by show aa (iT s id i _) _=_;rw[hs];exact(bd he).trans g1,g2⟩)
   refine⟨ih.al,λkO t cs e=>?_,ih.own,ih.aZ,ih.ca⟩;by_cases he:id=kO
   .subst he;rw[k1]at e;cases e;obtain⟨dG,g1,g2,g3⟩:=ih.boxes id t0 (rM U2 i [.m k]) (by show aa (iT s id i _) id=_;rw[hs];exact look_eq);exact⟨dG,g1,g2.trans (rL k2),λoff ho=>(g3 off λe=>ho (aw _ e)).trans (Gb k2 λe=>ho (e▸aI))⟩
   .obtain⟨dG,g1,g2,g3⟩:=ih.boxes kO t cs (by show aa (iT s id i _) kO=_;rw[hs];exact(bd he).trans e);exact⟨dG,g1,g2,λoff ho=>g3 off λe=>ho (aw _ e)⟩
 |(.bo id i e0 n0,c)::l,h,s,hn,hc=>by
  obtain⟨t0,U2,k1,k2⟩:=hc (id,i) aI;have hs:iT s id i [.o n0]=(id,(t0,rM U2 i [.o n0]))::s.boxes:=by unfold iT;rw[k1]
  have ih:=oO l h.2 ⟨s.al,iT s id i [.o n0],(n0,⟨e0,c,h.1⟩)::s.own,s.aZ,s.ca⟩ hn (λq hq=>by
   obtain⟨t,cs,g1,g2⟩:=hc q (aw _ hq);by_cases he:id=q.1
   .subst he;rw[k1]at g1;cases g1;exact⟨t0,_,by show aa (iT s _ i _) _=_;rw[hs];exact look_eq,by rw[rL k2];exact g2⟩
   .exact⟨t,cs,by show aa (iT s id i _) _=_;rw[hs];exact(bd he).trans g1,g2⟩)
  refine⟨ih.al,λkO t cs e=>?_,λq hq=>(ih.own q λe=>hq (aw _ e)).trans (bd λe=>hq (e▸aI)),ih.aZ,ih.ca⟩;by_cases he:id=kO
  .subst he;rw[k1]at e;cases e;obtain⟨dG,g1,g2,g3⟩:=ih.boxes id t0 (rM U2 i [.o n0]) (by show aa (iT s id i _) id=_;rw[hs];exact look_eq);exact⟨dG,g1,g2.trans (rL k2),λoff ho=>(g3 off λe=>ho (aw _ e)).trans (Gb k2 λe=>ho (e▸aI))⟩
  .obtain⟨dG,g1,g2,g3⟩:=ih.boxes kO t cs (by show aa (iT s id i _) kO=_;rw[hs];exact(bd he).trans e);exact⟨dG,g1,g2,λoff ho=>g3 off λe=>ho (aw _ e)⟩
theorem iz{α:Type}:∀{l q:List (Nat×α)} {t:Nat},aa (l++q) t=(match aa l t with|some x=>some x|none=>aa q t)
 |[],q,t=>rfl
 |(k,v)::l,q,t=>by
  by_cases h:k=t
  .subst h;rw[jK,look_eq,look_eq]
  .rw[jK,bd h,bd h];exact iz
theorem oD{s:TS}:∀{p:List (Nat×Nat)} {t:Nat} {x:RV},aa (blankX s p) t=some x->t∈p.map (·.1)/\∃cs,aa s.al t=some (.g cs)/\x=.g (cs.map (λ_=>junk))
 |(u,i)::l,t,x,h=>by
  unfold blankX at h;split at h
  .rename_i cs sU;rcases aA h with⟨e1,e2⟩|⟨_,e2⟩
   .subst e1 e2;exact⟨aI,cs,wE sU,rfl⟩
   .obtain⟨g1,g2⟩:=oD e2;exact⟨aw _ g1,g2⟩
  .obtain⟨g1,g2⟩:=oD h;exact⟨aw _ g1,g2⟩
theorem KY{A:LA}{t:Nat}(h:t∈(partT A).map (·.1)):t∈regsA A:=by
 induction A with
 |nil=>cases h
 |cons q l ih =>
  obtain⟨n,c⟩:=q;cases n with
  |x u i =>
   rcases aE.1 (show t∈u::(partT l).map (·.1)from h)with e|e
   .subst e;exact aI
   .exact aw _ (ih e)
  |r u=>exact aw _ (ih h)
  |o u e=>exact aw _ (ih h)
  |c u v=>exact aw _ (ih h)
  |m k=>exact ih h
  |b i j=>exact ih h
  |bo i j e=>exact ih h
  |bm i j k=>exact ih h
theorem ua{p:List (Nat×Nat)}{id:Nat}:∀{l:List TV} {i j:Nat} {v:TV},(blankN p id i l)[j]?=some v->(v=.j/\(id,i+j)∈p)∨(l[j]?=some v/\(id,i+j)∉p)
 |[],i,j,v,h=>by simp[blankN]at h
 |x::l,i,0,v,h=>by
  have h:some (bif p.any (λq=>Nat.beq q.1 id&&Nat.beq q.2 i)then junk else x)=some v:=h;cases hb:p.any (λq=>Nat.beq q.1 id&&Nat.beq q.2 i)with
  |true=>rw[hb]at h;cases h;obtain⟨q,h1,h2⟩:=nM.1 hb;rw[ak]at h2;refine .inl ⟨rfl,?_⟩;rw[←aD h2.1,c9,←aD h2.2];exact h1
  |false=>rw[hb]at h;cases h;refine .inr ⟨rfl,λhm=>?_⟩;rw[pC]at hb;exact hb _ hm (by rw[c9];simp[eH])
 |x::l,i,j+1,v,h=>by
  have h:(blankN p id (i+1) l)[j]?=some v:=h;rcases ua h with h|h
  .exact .inl ⟨h.1,by rw[show i+(j+1)=i+1+j from by omega];exact h.2⟩
  .exact .inr ⟨h.1,by rw[show i+(j+1)=i+1+j from by omega];exact h.2⟩
theorem qn{p:List (Nat×Nat)}{id:Nat}:∀{l:List TV} {i:Nat},(blankN p id i l).length=l.length
 |[],i=>rfl
 |x::l,i=>by show(blankN p id (i+1) l).length+1=l.length+1;rw[qn]
theorem sk{f:Nat->List TV->List TV}:∀{l:List (Nat×(Nat×List TV))} {id:Nat},aa (l.map (λq=>(q.1,(q.2.1,f q.1 q.2.2)))) id=(match aa l id with|some (t,cs)=>some (t,f id cs)|none=>none)
 |[],id=>rfl
 |(k,(t,cs))::l,id=>by
  by_cases h:k=id
  .subst h;rw[ba,look_eq,look_eq]
  .rw[ba,bd h,bd h];exact sk
theorem SM{A:LA}{s s':TS}(h:zG A s=true)(h':zG A s'=true){t:Nat}(ht:t∈(partT A).map (·.1)){cs:List TV}(e:aa s.al t=some (.g cs)):∃dG,aa s'.al t=some (.g dG)/\dG.length=cs.length:=by
 obtain⟨q,h1,h2⟩:=aq.1 ht;have k1:=aO.1 h q h1;have k2:=aO.1 h' q h1;rw[h2]at k1 k2;rw[e]at k1;have k1:Nat.beq ((partT A).filter (λp=>Nat.beq p.1 t)).length cs.length=true:=k1;split at k2
 .rename_i dG sU;exact⟨dG,wE sU,(aD k2).symm.trans (aD k1)⟩
 .cases k2
theorem Jc{A:LA}{ds:List Nat}{s:TS}:∀k∈numsA A,aa (head A ds s).own k=none/\aa (head A ds s).aZ k=none:=λk hk=>by
 constructor
 .cases h:aa (head A ds s).own k with
  |none=>rfl
  |some x=>obtain⟨h1,_⟩:=bg (f:=λi=>!(kJ s A++(numsA A++mapsA A)).any (Nat.beq i)) h;rw[any_beq.2 (aG _ (aN _ hk))]at h1;cases h1
 .cases h:aa (head A ds s).aZ k with
  |none=>rfl
  |some x=>obtain⟨h1,_⟩:=bg (f:=λi=>!(numsA A).any (Nat.beq i)) h;rw[any_beq.2 hk]at h1;cases h1
theorem ahr{A:LA}{ds:List Nat}{s:TS}(hp:zG A s=true)(hn:nodup (kJ s A)=true):Bs A (head A ds s) s:=by
 refine⟨λt x e=>?_,λid t cs e=>?_,λk x e=>?_,λk x e=>?_,hn⟩
 .have e:aa (blankX s (partT A)++j5 ds s.al) t=some x:=e;rw[iz]at e;cases hb:aa (blankX s (partT A)) t with
  |some y=>rw[hb]at e;cases e;obtain⟨_,cs,h1,rfl⟩:=oD hb;exact .inr ⟨cs.length,cs,by simp[junk,List.map_const'],h1,rfl⟩
  |none=>rw[hb]at e;exact .inl (bg (f:=λi=>!ds.any (Nat.beq i)) e).2
 .have e:aa (s.boxes.map (λq=>(q.1,(q.2.1,blankN (cellA A) q.1 0 q.2.2)))) id=some (t,cs):=e;rw[sk (f:=λi l=>blankN (cellA A) i 0 l)]at e;split at e
  .rename_i t' dG h1;cases e;refine⟨dG,h1,qn.symm,λi v hv=>?_⟩;rcases ua hv with h|h
   .exact .inl h.1
   .exact .inr h.1
  .cases e
 .obtain⟨h1,h2⟩:=bg (f:=λi=>!(kJ s A++(numsA A++mapsA A)).any (Nat.beq i)) e;exact⟨h2,λhm=>by rw[any_beq.2 (aN _ hm)]at h1;cases h1⟩
 .exact⟨x,(bg (f:=λi=>!(numsA A).any (Nat.beq i)) e).2,λ_=>rfl⟩
end
end
section
section
variable{P:Program}{T:Tb}{X:Cx}{la:Nat->Option LA}{s s':TS}
theorem kQ:∀{A:LA} {h:HL (gZ A)},jV s A=some h->∀k∈mapsA A,∃y,aa s.aZ k=some y
 |[],_,_,k,hk=>by cases hk
 |(.r t,c)::l,h,e,k,hk=>by
  unfold jV at e;have:∃q,jV s l=some q:=by
   cases hg:jV s l with
   |some q=>exact⟨q,rfl⟩
   |none =>
    rw[hg]at e;unfold grabR at e;split at e
    .cases hi:mR c<;>rw[hi]at e<;>first|(cases e;done)|(exact absurd (eD (x:=h.1) (q:=h.2) e).2 (by intro h;cases h))
    .cases hi:mR c<;>rw[hi]at e<;>first|(cases e;done)|(exact absurd (eD (x:=h.1) (q:=h.2) e).2 (by intro h;cases h))
    grind
  obtain⟨q,hq⟩:=this;exact kQ hq k hk
 |(.x t i,c)::l,h,e,k,hk=>by
  unfold jV at e;unfold grabX at e;split at e
  .exact kQ (eD (x:=h.1) (q:=h.2) e).2 k hk
  .cases e
 |(.b id i,c)::l,h,e,k,hk=>by
  unfold jV at e;unfold grabX at e;split at e
  .exact kQ (eD (x:=h.1) (q:=h.2) e).2 k hk
  grind
 |(.bm id i j,c)::l,h,e,k,hk=>by
  have e:(bif Ff s id i j then jV s l else none)=some h:=e;cases hb:Ff s id i j with
  |false=>rw[hb]at e;cases e
  |true=>rw[hb]at e;have e2:jV s l=some h:=e;exact kQ e2 k hk
 |(.c t u,c)::l,h,e,k,hk=>by
  have e:(bif Eu s t u then jV s l else none)=some h:=e;cases hb:Eu s t u with
  |false=>rw[hb]at e;cases e
  |true=>rw[hb]at e;have e2:jV s l=some h:=e;exact kQ e2 k hk
 |(.m j,c)::l,h,e,k,hk=>by
  have e:grabM s j c (jV s l)=some (h.1,h.2):=e;unfold grabM at e;split at e
  .rename_i c' l' hj;split at e
   .rename_i hc;rcases aE.1 hk with he|he
    .grind
    .exact kQ (eD e).2 k he
   grind
  grind
 |(.o t e0 n0,c)::l,h,e,k,hk=>by
  unfold jV at e;unfold grabO at e;split at e
  .exact kQ (eD (x:=h.1) (q:=h.2) e).2 k hk
  .cases e
 |(.bo id i e0 n0,c)::l,h,e,k,hk=>by
  unfold jV at e;unfold grabO at e;split at e
  .exact kQ (eD (x:=h.1) (q:=h.2) e).2 k hk
  grind
theorem qg{A:LA}{ds:List Nat}(hh:rq A ds s=true):(∀t∈regsA A,t∈ds)/\(∀id t cs,aa s.boxes id=some (t,cs)->cs.length<=64)/\notesOK A=true/\∀q∈cellA A,∃t cs,aa s.boxes q.1=some (t,cs)/\q.2<cs.length:=by
 unfold rq at hh;simp only[ak]at hh;obtain⟨⟨⟨⟨⟨⟨q1,q2⟩,q3⟩,q4⟩,q5⟩,q6⟩,q7⟩:=hh;refine⟨λt ht=>any_beq.1 (aO.1 q4 t ht),λid t cs e=>aB (aO.1 q3 _ (ct e)),q7,λq hq=>?_⟩;have:=aO.1 q5 q hq;split at this
 .rename_i t cs hl;exact⟨t,cs,hl,aB this⟩
 grind
theorem HF{A:LA}{id off:Nat}(ho:off<64)(hc:∀q∈cellA A,q.2<64)(h:2*(64*id+off)∈On A):(id,off)∈cellA A:=by
 obtain⟨q,h1,h2⟩:=aq.1 h;grind
theorem YH{A:LA}{ds:List Nat}{h h2:HL (gZ A)}(hh:rq A ds (head A ds s)=true)(hp:zG A s=true)(F:Fr ds (hav A h (head A ds s)) s')(hb:DC A (head A ds s) s'=true)(hg:jV s' A=some h2):Bs A (head A ds s) s':=by
 obtain⟨p1,p2,p3,p4⟩:=qg hh;have f:=oO A h (head A ds s) p3 p4;unfold DC at hb;simp only[ak]at hb;obtain⟨⟨⟨b1,b2⟩,b3⟩,b4⟩:=hb;have c64:∀q∈cellA A,q.2<64:=λq hq=>by grind
 have odd:∀k,2*k+1∈s'.ca->k∈mapsA A∨(aa (head A ds s).own k=none/\aa (head A ds s).aZ k=none):=λk hk=>by have:=aO.1 b1 _ hk;rw[show(2*k+1)%2=1 from by omega,show(2*k+1)/2=k from by omega]at this;simp_all
 refine⟨λt x e=>?_,λid t cs e=>?_,λk x e=>?_,λk x e=>?_,b2⟩
 .have e':aa (blankX s (partT A)++j5 ds s.al) t=some x:=e;rw[iz]at e';cases ZY:aa (blankX s (partT A)) t with
  |some y=>rw[ZY]at e';cases e';obtain⟨k1,cs,k2,rfl⟩:=oD ZY;obtain⟨dG,k3,k4⟩:=SM hp b4 k1 k2;exact .inr ⟨cs.length,dG,by simp[junk,List.map_const'],k3,k4⟩
  |none=>rw[ZY]at e';have hd:=(bg (f:=λi=>!ds.any (Nat.beq i)) e').1;have hd:t∉ds:=bl.1 (by simpa using hd);exact .inl ((F.al t hd).trans ((f.al t λhm=>hd (p1 t hm)).trans e))
 .obtain⟨Yu,k1,k2,k3⟩:=f.boxes id t cs e;obtain⟨cs2,k4,k5,k6⟩:=F.boxes id t Yu k1;refine⟨cs2,k4,k5.trans k2,λi v hv=>?_⟩;have hi:i<cs.length:=(dz.1 hv).1;have e0:aa (s.boxes.map (λq=>(q.1,(q.2.1,blankN (cellA A) q.1 0 q.2.2)))) id=some (t,cs):=e;rw[sk (f:=λi l=>blankN (cellA A) i 0 l)]at e0;split at e0
  .rename_i t0 U2 h0;cases e0;rcases ua hv with hv'|hv'
   .grind
   .rw[bh]at hv';refine .inr ((k6 i (by omega) λhm=>?_).trans ((k3 i hv'.2).trans hv));have:=aO.1 b1 _ hm;have al4:i<64:=dH hi (p2 _ _ _ e);rw[show(2*(64*id+i))%2=0 from by omega,show(2*(64*id+i))/2/64=id from by omega,e]at this;have this:((On A).any (Nat.beq (2*(64*id+i)))||false)=true:=this;rw[jO]at this;exact hv'.2 (HF al4 c64 (any_beq.1 this))
  grind
 .obtain⟨h1,_⟩:=bg (f:=λi=>!(kJ s A++(numsA A++mapsA A)).any (Nat.beq i)) e;have h1:k∉kJ s A++(numsA A++mapsA A):=bl.1 (by simpa using h1);refine⟨(F.own k λhm=>?_).trans ((f.own k λhm=>h1 (aG _ (aN _ hm))).trans e),λhm=>?_⟩
  .grind
  grind
 .by_cases hm:k∈mapsA A
  .grind[kQ]
  .obtain⟨h1,_⟩:=bg (f:=λi=>!(numsA A).any (Nat.beq i)) e;refine⟨x,(F.aZ k λht=>?_).trans ((f.aZ k hm).trans e),λ_=>rfl⟩;grind
theorem IA{A:LA}{ds:List Nat}{h:HL (gZ A)}(hh:rq A ds (head A ds s)=true)(F:Fr ds (hav A h (head A ds s)) s'):Fr ds s (leave A s s'):=by
 obtain⟨p1,p2,p3,p4⟩:=qg hh;have f:=oO A h (head A ds s) p3 p4;have t1:∀{x},x∉(leave A s s').ca->x∉s'.ca:=λhn hm=>hn (aN _ hm);have t2:∀{x},x∉(leave A s s').ca->x∉On A:=λhn hm=>hn (aG _ (aN _ hm));have t3:∀{k},2*k+1∉(leave A s s').ca->k∉kJ s A:=λhn hm=>hn (aG _ (aG _ (aN _ (aq.2 ⟨_,hm,rfl⟩))));have t4:∀{k},2*k+1∉(leave A s s').ca->k∉numsA A:=λhn hm=>hn (aG _ (aG _ (aG _ (aN _ (aq.2 ⟨_,hm,rfl⟩)))));have t5:∀{k},2*k+1∉(leave A s s').ca->k∉mapsA A:=λhn hm=>hn (aG _ (aG _ (aG _ (aG _ (aN _ (aq.2 ⟨_,hm,rfl⟩))))));refine⟨λt ht=>?_,λid t cs e=>?_,λk hn=>?_,λk hn=>?_,λx hx=>aG _ (aG _ (aG _ (aG _ (aG _ hx))))⟩
 .have hr:t∉regsA A:=λhm=>ht (p1 t hm);refine(F.al t ht).trans ((f.al t hr).trans ?_);show aa (blankX s (partT A)++j5 ds s.al) t=_;rw[iz];cases hb:aa (blankX s (partT A)) t with
  |some y=>exact absurd (KY (oD hb).1) hr
  |none=>exact GI ht
 .have e0:aa (head A ds s).boxes id=some (t,blankN (cellA A) id 0 cs):=by show aa (s.boxes.map (λq=>(q.1,(q.2.1,blankN (cellA A) q.1 0 q.2.2)))) id=_;rw[sk (f:=λi l=>blankN (cellA A) i 0 l),e]
  obtain⟨Yu,k1,k2,k3⟩:=f.boxes id t _ e0;obtain⟨cs2,k4,k5,k6⟩:=F.boxes id t Yu k1;rw[qn]at k2;refine⟨cs2,k4,k5.trans k2,λoff ho hn=>?_⟩;have hc:(id,off)∉cellA A:=λhm=>t2 hn (aq.2 ⟨_,hm,rfl⟩);cases hv:(blankN (cellA A) id 0 cs)[off]? with
  |none=>grind
  |some v =>
   rcases ua hv with h|h
   .grind
   grind
 .refine(F.own k (t1 hn)).trans ((f.own k (t4 hn)).trans (tG (f:=λi=>!(kJ s A++(numsA A++mapsA A)).any (Nat.beq i)) ?_));rw[bl.2 λhm=>?_]
  .rfl
  grind
 .refine(F.aZ k (t1 hn)).trans ((f.aZ k (t5 hn)).trans (tG (f:=λi=>!(numsA A).any (Nat.beq i)) ?_));rw[bl.2 (t4 hn)];rfl
def ExQ(nrm ret:Act->World->Prop)(exs:List (Nat×(Act->World->Prop))):EX->Act->World->Prop
 |.n,a,w=>nrm a w
 |.r,a,w=>ret a w
 |.x i,a,w=>match aa exs (2*i)with
  |some K=>K a w
  |none=>False
theorem Oe:∀{cs:List TC} {p:HL cs->Prop},adz cs p->∀h,p h
 |[],p,h,()=>h
 |c::cs,p,h,(x,q)=>Oe (h x) q
theorem Iz{sy:Sy}{a:Act}{w:World}{χ:Nat->Nat}{E:En}{A:LA}(h:bX X s' E sy a w χ):bX X (leave A s s') E sy a w χ:=h.cg rfl rfl rfl λ_=>rfl
structure Kl (A:LA) (s:TS) (E E':En) (w w':World) (χ χ':Nat->Nat):Prop where
 size:w.heap.size<=w'.heap.size
 box:∀id t cs,aa s.boxes id=some (t,cs)->(∀off,off<cs.length->(id,off)∉cellA A)->E'.ρ id=E.ρ id/\(E.ρ id<w.heap.size->w'.heap[E.ρ id]?=w.heap[E.ρ id]?/\χ' (E.ρ id)=χ (E.ρ id))
 map:∀k x,aa s.aZ k=some x->k∉mapsA A->k∉numsA A->(E'.μ k=E.μ k/\E'.m k=E.m k)/\∀b,b<w.heap.size->χ b=E.m k->w'.heap[b]?=w.heap[b]?/\χ' b=χ b
 own:∀k x,aa s.own k=some x->k∉kJ s A->k∉numsA A->k∉mapsA A->(E'.σ k=E.σ k/\E'.κ k=E.κ k/\E'.c k=E.c k)/\∀b,b<w.heap.size->χ b=E.c k->w'.heap[b]?=w.heap[b]?/\χ' b=χ b
theorem C7{A:LA}{ds:List Nat}{id t:Nat}{cs:List TV}(e:aa s.boxes id=some (t,cs)):aa (head A ds s).boxes id=some (t,blankN (cellA A) id 0 cs):=by
 show aa (s.boxes.map (λq=>(q.1,(q.2.1,blankN (cellA A) q.1 0 q.2.2)))) id=_;rw[sk (f:=λi l=>blankN (cellA A) i 0 l),e]
theorem Kl.gen{A:LA}{ds:List Nat}{q:HL (gZ A)}{E E1 E':En}{w w1 w':World}{χ χ1 χ':Nat->Nat}(L:Kl A s E E1 w w1 χ χ1)(f:Hf A (head A ds s) (hav A q (head A ds s)))(K:Kp (hav A q (head A ds s)) s' E1 E' w1 w' χ1 χ'):w.heap.size<=w'.heap.size/\(∀id t cs,aa s.boxes id=some (t,cs)->(∀off,off<cs.length->(id,off)∉cellA A)->(∀off,off<cs.length->2*(64*id+off)∉s'.ca)->E'.ρ id=E.ρ id/\(E.ρ id<w.heap.size->w'.heap[E.ρ id]?=w.heap[E.ρ id]?/\χ' (E.ρ id)=χ (E.ρ id))) /\
  (∀k x,aa s.aZ k=some x->k∉mapsA A->k∉numsA A->2*k+1∉s'.ca->(E'.μ k=E.μ k/\E'.m k=E.m k)/\∀b,b<w.heap.size->χ b=E.m k->w'.heap[b]?=w.heap[b]?/\χ' b=χ b) /\
  ∀k x,aa s.own k=some x->k∉kJ s A->k∉numsA A->k∉mapsA A->2*k+1∉s'.ca->(E'.σ k=E.σ k/\E'.κ k=E.κ k/\E'.c k=E.c k)/\∀b,b<w.heap.size->χ b=E.c k->w'.heap[b]?=w.heap[b]?/\χ' b=χ b:=by
 refine⟨bP L.size K.size,λid t cs e hu ht=>?_,λk x e hu hv ht=>?_,λk x e ha hv hu ht=>?_⟩
 .obtain⟨g1,g2⟩:=L.box id t cs e hu;obtain⟨Yu,f1,f2,_⟩:=f.boxes id t _ (C7 e);rw[qn]at f2;obtain⟨g3,g4⟩:=K.box id t Yu f1 λoff ho=>ht off (f2▸ho);grind
 .obtain⟨⟨g1,g2⟩,g3⟩:=L.map k x e hu hv;have hl:aa (hav A q (head A ds s)).aZ k=some x:=(f.aZ k hu).trans (fH (f:=λi=>!(numsA A).any (Nat.beq i)) (by rw[bl.2 hv];rfl) e);grind[K.map,Nat.lt_of_lt_of_le]
 .obtain⟨⟨g0,g1,g2⟩,g3⟩:=L.own k x e ha hv hu;have hl:aa (hav A q (head A ds s)).own k=some x:=(f.own k hv).trans (fH (f:=λi=>!(kJ s A++(numsA A++mapsA A)).any (Nat.beq i)) (by rw[bl.2 (by simp[ha,hv,hu])];rfl) e);grind[K.own,Nat.lt_of_lt_of_le]
theorem Kl.leave{A:LA}{ds ds':List Nat}{q:HL (gZ A)}{E E1 E':En}{w w1 w':World}{χ χ1 χ':Nat->Nat}(L:Kl A s E E1 w w1 χ χ1)(b2:rq A ds (head A ds s)=true)(f:Hf A (head A ds s) (hav A q (head A ds s)))(F:Fr ds' (hav A q (head A ds s)) s')(K:Kp (hav A q (head A ds s)) s' E1 E' w1 w' χ1 χ'):Kp s (leave A s s') E E' w w' χ χ':=by
 obtain⟨g1,g2,g3,g4⟩:=L.gen f K;have tn:∀k,2*k+1∉(Go.Te.leave A s s').ca->k∉numsA A/\k∉mapsA A/\k∉kJ s A/\2*k+1∉s'.ca:=λk hu=>⟨λhm=>hu (aG _ (aG _ (aG _ (aN _ (aq.2 ⟨_,hm,rfl⟩))))),λhm=>hu (aG _ (aG _ (aG _ (aG _ (aN _ (aq.2 ⟨_,hm,rfl⟩)))))),λhm=>hu (aG _ (aG _ (aN _ (aq.2 ⟨_,hm,rfl⟩)))),λhm=>hu (aN _ hm)⟩
 refine⟨g1,λid t cs e hu=>g2 id t cs e (λoff ho hm=>hu off ho (aG _ (aN _ (aq.2 ⟨_,hm,rfl⟩)))) λoff ho hm=>hu off ho (aN _ hm),λk x e hu=>g3 k x e (tn k hu).2.1 (tn k hu).1 (tn k hu).2.2.2,λk x e hu=>g4 k x e (tn k hu).2.2.1 (tn k hu).1 (tn k hu).2.1 (tn k hu).2.2.2⟩
theorem Vn{A:LA}{ds:List Nat}(b2:rq A ds (head A ds s)=true)(hb:DC A (head A ds s) s'=true){x:Nat}(hx:x∈s'.ca):(∀id off t cs,aa s.boxes id=some (t,cs)->off<cs.length->x=2*(64*id+off)->(id,off)∈cellA A)/\(∀k y,aa s.aZ k=some y->x=2*k+1->k∉numsA A->k∈mapsA A)/\∀k y,aa s.own k=some y->x=2*k+1->k∉kJ s A->k∉numsA A->k∈mapsA A:=by
 obtain⟨p1,p2,p3,p4⟩:=qg b2;have c64:∀q∈cellA A,q.2<64:=λq hq=>by grind
 unfold DC at hb;simp only[ak]at hb;have:=aO.1 hb.1.1.1 _ hx;refine⟨λid off t cs e ho Ub=>?_,λk y e Ub hn=>?_,λk y e Ub ho hn=>?_⟩
 .have h64:off<64:=dH ho (by have:=p2 _ _ _ (C7 (A:=A) (ds:=ds) e);rw[qn]at this;exact this);subst Ub;rw[show(2*(64*id+off))%2=0 from by omega,show(2*(64*id+off))/2/64=id from by omega,C7 e]at this;have this:((On A).any (Nat.beq (2*(64*id+off)))||false)=true:=this;rw[jO]at this;exact HF h64 c64 (any_beq.1 this)
 .subst Ub;rw[show(2*k+1)%2=1 from by omega,show(2*k+1)/2=k from by omega]at this;have this:((mapsA A).any (Nat.beq k)||((aa (head A ds s).own k).isNone&&(aa (head A ds s).aZ k).isNone))=true:=this;rw[dS,ak]at this;rcases this with h|h
  .simp_all
  .have:aa (head A ds s).aZ k=some y:=fH (f:=λi=>!(numsA A).any (Nat.beq i)) (by rw[bl.2 hn];rfl) e;grind
 .subst Ub;rw[show(2*k+1)%2=1 from by omega,show(2*k+1)/2=k from by omega]at this;have this:((mapsA A).any (Nat.beq k)||((aa (head A ds s).own k).isNone&&(aa (head A ds s).aZ k).isNone))=true:=this;rw[dS,ak]at this;refine fC λhm=>?_;rcases this with h|h
  .simp_all
  .have:aa (head A ds s).own k=some y:=fH (f:=λi=>!(kJ s A++(numsA A++mapsA A)).any (Nat.beq i)) (by rw[bl.2 (by simp[ho,hn,hm])];rfl) e;grind
theorem Kl.step{A:LA}{ds ds':List Nat}{q:HL (gZ A)}{E E1 E':En}{w w1 w':World}{χ χ1 χ':Nat->Nat}(L:Kl A s E E1 w w1 χ χ1)(b2:rq A ds (head A ds s)=true)(f:Hf A (head A ds s) (hav A q (head A ds s)))(F:Fr ds' (hav A q (head A ds s)) s')(K:Kp (hav A q (head A ds s)) s' E1 E' w1 w' χ1 χ')(hu:∀x∈s'.ca,(∀id off t cs,aa s.boxes id=some (t,cs)->off<cs.length->x=2*(64*id+off)->(id,off)∈cellA A)/\(∀k y,aa s.aZ k=some y->x=2*k+1->k∉numsA A->k∈mapsA A)/\∀k y,aa s.own k=some y->x=2*k+1->k∉kJ s A->k∉numsA A->k∈mapsA A):Kl A s E E' w w' χ χ':=by
 obtain⟨g1,g2,g3,g4⟩:=L.gen f K;exact⟨g1,λid t cs e hc=>g2 id t cs e hc λoff ho hm=>hc off ho ((hu _ hm).1 id off t cs e ho rfl),λk x e h1 h2=>g3 k x e h1 h2 λhm=>h1 ((hu _ hm).2.1 k x e rfl h2),λk x e h0 h1 h2=>g4 k x e h0 h1 h2 λhm=>h2 ((hu _ hm).2.2 k x e rfl h0 h1)⟩
section
variable{E:En}{sy:Sy}{a:Act}{w:World}{χ:Nat->Nat}
theorem Yc(h:bX X s E sy a w χ)(t:Nat):∃χ1 sy',bX X (UM t s) E sy' a w χ1/\Fr [t] s (UM t s)/\Kp s (UM t s) E E w w χ χ1:=by
 have no:∃χ1 sy',bX X s E sy' a w χ1/\Fr [t] s s/\Kp s s E E w w χ χ1:=⟨χ,sy,h,Fr.refl _ s,Kp.same rfl⟩
 have fg:∃χ1 sy',bX X ⟨j5 [t] s.al,s.boxes,s.own,s.aZ,s.ca⟩ E sy' a w χ1/\Fr [t] s ⟨j5 [t] s.al,s.boxes,s.own,s.aZ,s.ca⟩/\Kp s ⟨j5 [t] s.al,s.boxes,s.own,s.aZ,s.ca⟩ E E w w χ χ1:=by obtain⟨sy',h3⟩:=h.uh (s':=⟨j5 [t] s.al,s.boxes,s.own,s.aZ,s.ca⟩) (a':=a) rfl rfl rfl h.st.size h.st.defers λu x e=>.inl ⟨(bg (f:=λi=>!([t]:List Nat).any (Nat.beq i)) e).2,rfl⟩;exact⟨χ,sy',h3,.same (λu hu=>GI hu) rfl rfl rfl rfl,Kp.same rfl⟩
 unfold UM;split
 .rename_i k hk;split
  .rename_i e c l hj;obtain⟨h1,h2⟩:=h.freeze (ks:=[k]) λk' Lw=>by cases aY.1 Lw;rw[hj];rfl
   have hR:=h2 k (aY.2 rfl) _ hj;obtain⟨sv,g1,g2⟩:=h.al t _ hk;obtain rfl:=TR.own (w:=w) (χ:=χ) g2 hj;have ht:=h.st.al t _ g1;obtain⟨sy',h3⟩:=h1.uh (s':=put (hU [k] s) (some t) (.s (.sl c l))) (a':=a) rfl rfl rfl h.st.size h.st.defers λu x e=>by
    rcases aA e with⟨e1,e2⟩|⟨e1,e2⟩
    .subst e1 e2;exact .inr ⟨V (.slice (E.σ k) l.length (E.κ k)),⟨_,rfl,E.σ k,E.κ k,rfl,hR⟩,ht⟩
    grind
   have nc:∀{b:Nat},χ b≠E.c k->sV ([k].map E.c) χ b=χ b:=fun {b} hb=>by unfold sV;rw[show([k].map E.c).any (Nat.beq (χ b))=false from bl.2 λhm=>hb (aY.1 hm)];rfl
   have hck:=h.aQ.o k _ hj;refine⟨_,sy',h3,?_,⟨aK _,λid t cs e hu=>⟨rfl,λhb=>⟨rfl,nc ?_⟩⟩,λq x e hu=>⟨⟨rfl,rfl⟩,λb hb hc=>⟨rfl,nc ?_⟩⟩,λq x e hu=>⟨⟨rfl,rfl,rfl⟩,λb hb hc=>⟨rfl,nc ?_⟩⟩⟩⟩
   .exact⟨λu hu=>bd λe=>hu (e▸aY.2 rfl),(Fr.hU s [k]).boxes,(Fr.hU s [k]).own,(Fr.hU s [k]).aZ,(Fr.hU s [k]).ca⟩
   .obtain⟨ss,g3,_⟩:=h.boxes id t cs e;obtain⟨g4,g5,_⟩:=h.st.boxes id _ g3;simp[jo]at g5;omega
   .rw[hc];exact λe'=>h.aQ.om k _ q x hj e e'.symm
   .rw[hc];intro e';have:=h.aQ.oo q x k _ e hj e';subst this;exact hu (aN _ (aY.2 rfl))
  omega
 .omega
 .rename_i l _;cases l.all DU with
  |true=>exact no
  |false=>exact fg
 omega
theorem pa:∀(A:LA) {s:TS} {sy:Sy} {χ:Nat->Nat},bX X s E sy a w χ->∃χ1 sy',bX X (frzL A s) E sy' a w χ1/\Fr (regsA A) s (frzL A s)/\Kp s (frzL A s) E E w w χ χ1
 |[],s,sy,χ,h=>⟨χ,sy,h,Fr.refl _ s,Kp.same rfl⟩
 |(.c t _,_)::l,s,sy,χ,h=>by obtain⟨χ1,DS,h1,F1,K1⟩:=Yc h t;obtain⟨χ2,Hq,h2,F2,K2⟩:=pa l h1;exact⟨χ2,Hq,h2,F1.trans F2,K1.trans F1 F2.ca K2⟩
 |(.m _,_)::l,s,sy,χ,h=>pa l h
 |(.b _ _,_)::l,s,sy,χ,h=>pa l h
 |(.bm _ _ _,_)::l,s,sy,χ,h=>pa l h
 |(.bo _ _ _ _,_)::l,s,sy,χ,h=>pa l h
 |(.r _,_)::l,s,sy,χ,h=>(pa l h).imp λ_ h=>h.imp λ_ h=>⟨h.1,h.2.1.wk λt ht=>aw _ ht,h.2.2⟩
 |(.o _ _ _,_)::l,s,sy,χ,h=>(pa l h).imp λ_ h=>h.imp λ_ h=>⟨h.1,h.2.1.wk λt ht=>aw _ ht,h.2.2⟩
 |(.x _ _,_)::l,s,sy,χ,h=>(pa l h).imp λ_ h=>h.imp λ_ h=>⟨h.1,h.2.1.wk λt ht=>aw _ ht,h.2.2⟩
theorem Ya(o:Option LA)(h:bX X s E sy a w χ):∃χ1 sy',bX X (Yb o s) E sy' a w χ1/\Fr (notesR o) s (Yb o s)/\Kp s (Yb o s) E E w w χ χ1:=by
 cases o with
 |none=>exact⟨χ,sy,h,Fr.refl _ s,Kp.same rfl⟩
 |some A=>exact pa A h
end
theorem Q1(TT:gW P T)(HC:nY P T X)(hm:P.follows .mixedOrders=true)(hn:HX T X):∀(c:Code) {s:TS} {E:En} {sy:Sy} {a:Act} {w:World} {χ:Nat->Nat} {k:EX->TS->Prop} {nrm ret:Act->World->Prop} {exs:List (Nat×(Act->World->Prop))},wpT T la c s k->(∀t∈dstsC la c,t<X.n)->bX X s E sy a w χ ->
  (∀e s' E' sy' a' w' χ',k e s'->bX X s' E' sy' a' w' χ'->Fr (dstsC la c) s s'->Kp s s' E E' w w' χ χ'->ExQ nrm ret exs e a' w')->c.wp P (Sv.qs nrm ret exs) a w:=by
 intro c
 induction c with
 |skip=>intro s E sy a w χ k nrm ret exs ht hd h kk;exact wR (kk .n s E sy a w χ ht h (Fr.refl _ s) (Kp.same rfl))
 |ret=>intro s E sy a w χ k nrm ret exs ht hd h kk;exact QW (kk .r s E sy a w χ ht h (Fr.refl _ s) (Kp.same rfl))
 |exit id=>intro s E sy a w χ k nrm ret exs ht hd h kk;have:=kk (.x id) s E sy a w χ ht h (Fr.refl _ s) (Kp.same rfl);unfold ExQ at this;grind[only,Q8]
 |region id ops dr=>intro s E sy a w χ k nrm ret exs ht hd h kk;obtain⟨χ1,DS,h1,F1,K1⟩:=Ya (la (100000+id)) h;exact KJ TT HC hm hn (λo ho d hod=>hd d (aG _ (nF ho hod))) ht h1 λs' E' sy' a' w' χ' h1 h2 F K=>kk .n s' E' sy' a' w' χ' h1 h2 (F1.trans F) (K1.trans F1 F.ca K)
 |seq x y ihx ihy =>
  intro s E sy a w χ k nrm ret exs ht hd h kk;refine xd (ihx ht (λt ht=>hd t (aN _ ht)) h λe s' E' sy' a' w' χ' h1 h2 F K=>?_);cases e with
  |n=>exact ihy h1 (λt ht=>hd t (aG _ ht)) h2 λe2 s2 E2 Hq a2 w2 χ2 h3 h4 F2 K2=>kk e2 s2 E2 Hq a2 w2 χ2 h3 h4 (F.trans F2) (K.trans F F2.ca K2)
  |r=>exact kk .r s' E' sy' a' w' χ' h1 h2 (F.wk λt ht=>aN _ ht) K
  |x i=>exact kk (.x i) s' E' sy' a' w' χ' h1 h2 (F.wk λt ht=>aN _ ht) K
 |cond c x y ihx ihy =>
  intro s E sy a w χ k nrm ret exs ht hd h kk;have gx:wpT T la x s k->x.wp P (Sv.qs nrm ret exs) a w:=λht=>ihx ht (λt ht=>hd t (aN _ ht)) h λe s' E' sy' a' w' χ' h1 h2 F K=>kk e s' E' sy' a' w' χ' h1 h2 (F.wk λt ht=>aN _ ht) K;have gy:wpT T la y s k->y.wp P (Sv.qs nrm ret exs) a w:=λht=>ihy ht (λt ht=>hd t (aG _ ht)) h λe s' E' sy' a' w' χ' h1 h2 F K=>kk e s' E' sy' a' w' χ' h1 h2 (F.wk λt ht=>aG _ ht) K;unfold wpT at ht;split at ht
  .rename_i t hc;obtain⟨sv,g1,g2⟩:=bq h hc;obtain rfl:=g2.bool;exact qy h.st g1 (λhb=>gx (ht.1 hb)) (λhb=>gy (ht.2 hb))
  .rename_i t hc;obtain⟨sv,g1,g2⟩:=bq h hc;obtain rfl:=g2.lit;exact qy h.st g1 (λhb=>gx (ht.1 hb)) (λhb=>gy (ht.2 hb))
  .rename_i hc;obtain⟨sv,g1,g2⟩:=bq h hc;obtain rfl:=g2.uq;exact qy h.st g1 (λ_=>gx ht) (λhb=>by cases hb)
  .rename_i hc;obtain⟨sv,g1,g2⟩:=bq h hc;obtain rfl:=g2.uq;exact qy h.st g1 (λhb=>by cases hb) (λ_=>gy ht)
  .cases ht
 |block id c ih =>
  intro s E sy a w χ k nrm ret exs ht hd h kk;refine zo (ih ht hd h λe s' E' sy' a' w' χ' h1 h2 F K=>?_);cases e with
  |n=>exact kk .n s' E' sy' a' w' χ' h1 h2 F K
  |r=>exact kk .r s' E' sy' a' w' χ' h1 h2 F K
  |x i =>
   have g1:(bif Nat.beq i id then k .n s' else k (.x i) s'):=h1;cases hb:Nat.beq i id with
   |true =>
    rw[hb]at g1;have hi:=aD hb;show match aa ((2*id,nrm)::exs) (2*i)with|some K=>K a' w'|none=>False
    rw[hi,look_eq];exact kk .n s' E' sy' a' w' χ' g1 h2 F K
   |false =>
    rw[hb]at g1;have hne:2*id≠2*i:=λe=>by grind[Nat.beq_refl]
    show match aa ((2*id,nrm)::exs) (2*i)with|some K=>K a' w'|none=>False
    rw[bd hne];exact kk (.x i) s' E' sy' a' w' χ' g1 h2 F K
 |loop c ih =>
  intro s E sy a w χ k nrm ret exs ht hd h kk;unfold wpT at ht;split at ht
  .rename_i A hA;split at ht
   .rename_i h0 hg;obtain⟨hb,ht⟩:=dU ht;simp only[ak]at hb;obtain⟨⟨b1,b2⟩,b3⟩:=hb;obtain⟨I,μ,i0,hr⟩:=ht;have f0:=λq=>oO A q (head A (dstsC la (.loop c)) s) (qg b2).2.2.1 (qg b2).2.2.2;refine Q2 (σ:=HL (gZ A)) (λq a1 w1=>apF (gZ A) I q/\∃E1 DS χ1,bX X (hav A q (head A (dstsC la (.loop c)) s)) E1 DS a1 w1 χ1/\Kl A s E E1 w w1 χ χ1) (apF (gZ A) μ) h0 ⟨i0,?_⟩ λq a1 w1 hq=>?_
    .obtain⟨E2,h2,r1,r2,r3,r4⟩:=N5 h (ahr b3 b1) b2 Jc hg;exact⟨E2,sy,χ,h2,aK _,λid t cs _ _=>⟨by rw[r1],λ_=>⟨rfl,rfl⟩⟩,λk x _ _ _=>⟨⟨by rw[r2],by rw[r3]⟩,λ_ _ _=>⟨rfl,rfl⟩⟩,λk x _ _ hv _=>⟨r4 k hv,λ_ _ _=>⟨rfl,rfl⟩⟩⟩
    .obtain⟨hI,E1,DS,χ1,h1,L⟩:=hq;refine ih (Oe hr q hI) (λt ht=>hd t (aG _ ht)) h1 λe s' E' sy' a' w' χ' h2 h3 F K=>?_;have F:=F.wk (ds':=dstsC la (.loop c)) λt ht=>aG _ ht;have L':=λhu=>L.step b2 (f0 q) F K hu;cases e with
     |n =>
      obtain⟨hb,h2⟩:=dU h2;split at h2
      .rename_i q' zV;obtain⟨E2,h4,r1,r2,r3,r4⟩:=N5 h3 (YH b2 b3 F hb zV) b2 Jc zV;have L2:=L' λx hx=>Vn b2 hb hx;exact⟨q',⟨h2.1,E2,sy',χ',h4,L2.size,λid t cs e hu=>by rw[r1];exact L2.box id t cs e hu,λk x e hu hv=>by rw[r2,r3];exact L2.map k x e hu hv,λk x e h0 h1 h2=>by rw[(r4 k h1).1,(r4 k h1).2.1,(r4 k h1).2.2];exact L2.own k x e h0 h1 h2⟩,h2.2⟩
      .cases h2
     |r=>exact kk .r _ E' sy' a' w' χ' h2 (Iz h3) (IA b2 F) (L.leave b2 (f0 q) F K)
     |x i=>exact kk (.x i) _ E' sy' a' w' χ' h2 (Iz h3) (IA b2 F) (L.leave b2 (f0 q) F K)
   .cases ht
  .cases ht
 |_=>intro s E sy a w χ k nrm ret exs ht hd h kk;cases ht
end
end
noncomputable section
structure Hd where
 b:Nat->Nat
 c:Nat->Nat
 o:Nat->Nat
 μ:Nat->Nat
 r:Nat->Nat
def CB(w:World)(χ:Nat->Nat)(o μ:Nat->Nat):Nat->List TV->List Value->Prop
 |_,[],[]=>True
 |i,.md c x::l,v::vs=>(v=.map (some (μ i))/\OM kI (bw c) (mR c) w χ (o i) (μ i) x)/\CB w χ o μ (i+1) l vs
 |i,x::l,v::vs=>CR w χ x v/\CB w χ o μ (i+1) l vs
 |_,_,_=>False
def DR(w:World)(χ:Nat->Nat)(H:Hd)(i:Nat):(c:TC)->den c->Value->Prop
 |.m c,x,v=>v=.map (some (H.μ (100000+i)))/\OM kI (bw c) (mR c) w χ (H.o (100000+i)) (H.μ (100000+i)) x
 |c,x,v=>VR (bw c) (mR c) w χ v x
def Vb(H:Hd)(q:Nat):Nat->List Value
 |0=>[]
 |n+1=>.pointer (some ⟨H.b q,0,none⟩)::Vb H (q+1) n
def BR(w:World)(χ:Nat->Nat)(H:Hd)(bt:List Nat):(cs:List TC)->HL cs->Nat->Prop
 |[],_,_=>True
 |c::cs,h,q=>(∃vals,Cell w χ (H.b q) (H.c q) (bt.getD q 0) vals/\CB w χ (λi=>H.o (64*q+i)) (λi=>H.μ (64*q+i)) 0 (kd c h.1) vals)/\BR w χ H bt cs h.2 (q+1)
def AR(w:World)(χ:Nat->Nat)(H:Hd)(bt:List Nat):(ps:List PK)->(cs:List TC)->HL cs->Nat->Nat->List Value->Prop
 |[],cs,h,_,q,[]=>BR w χ H bt cs h 0/\cs.length=q
 |.d::ps,c::cs,h,i,q,v::vs=>DR w χ H i c h.1 v/\AR w χ H bt ps cs h.2 (i+1) q vs
 |.z::ps,cs,h,i,q,v::vs=>v=.slice none 0 0/\AR w χ H bt ps cs h (i+1) q vs
 |.p::ps,cs,h,i,q,v::vs=>v=.pointer (some ⟨H.b q,0,none⟩)/\AR w χ H bt ps cs h (i+1) (q+1) vs
 |.f g n::ps,cs,h,i,q,v::vs=>v=.func (.func g) #[] (Vb H q n).toArray/\AR w χ H bt ps cs h (i+1) (q+n) vs
 |_,_,_,_,_,_=>False
def lhB(H:Hd):(cs:List TC)->HL cs->Nat->List (Nat×Nat)
 |[],_,_=>[]
 |c::cs,h,q=>(901+q,H.c q)::((opN (λi=>64*q+i) 0 (kd c h.1)).map (λy=>(xN y.1,H.o y.1))++lhB H cs h.2 (q+1))
def lhP(H:Hd):(ps:List PK)->(cs:List TC)->HL cs->Nat->List (Nat×Nat)
 |[],cs,h,_=>lhB H cs h 0
 |.d::ps,c::cs,h,i=>(bif isMc c then [(xN (100000+i),H.o (100000+i))]else [])++lhP H ps cs h.2 (i+1)
 |.d::_,[],_,_=>[]
 |_::ps,cs,h,i=>lhP H ps cs h (i+1)
def wrB(H:Hd)(ms:List Nat):(cs:List TC)->HL cs->Nat->List Nat
 |[],_,_=>[]
 |c::cs,h,q=>(bif ms.any (Nat.beq q)then H.c q::(opN (λi=>64*q+i) 0 (kd c h.1)).map (λy=>H.o y.1)else [])++wrB H ms cs h.2 (q+1)
def wrP(H:Hd)(ms:List Nat):(ps:List PK)->(cs:List TC)->HL cs->List Nat
 |[],cs,h=>wrB H ms cs h 0
 |.d::ps,_::cs,h=>wrP H ms ps cs h.2
 |.d::_,[],_=>[]
 |_::ps,cs,h=>wrP H ms ps cs h
def DV(w:World)(χ:Nat->Nat):RV->Value->Prop
 |.s x,v=>CR w χ x v
 |.g l,v=>∃vs,v=.agg vs.toArray/\FL (CR w χ) l vs
 |.t _,_=>False
def Oc(w:World)(χ:Nat->Nat)(r:Nat->Nat)(k:List RV->Prop):List RK->List RV->Nat->List Value->Prop
 |[],os,_,[]=>k os
 |.d::ks,o::os,i,v::vs=>DV w χ o v/\Oc w χ r k ks os (i+1) vs
 |.o e::ks,.s (.sl c x)::os,i,v::vs=>(∃ad cp,v=.slice ad x.length cp/\OS (bw c) e w χ (r i) ad x cp)/\Oc w χ r k ks os (i+1) vs
 |.m::ks,.s (.md c x)::os,i,v::vs=>(∃a,v=.map (some a)/\OM kI (bw c) (mR c) w χ (r i) a x)/\Oc w χ r k ks os (i+1) vs
 |_,_,_,_=>False
def V9(w:World)(χ:Nat->Nat)(H:Hd)(bt:List Nat):List Nat->List RV->Prop
 |[],[]=>True
 |q::ms,o::os=>(∃vals μ,Cell w χ (H.b q) (H.c q) (bt.getD q 0) vals/\CB w χ (λi=>H.o (64*q+i)) μ 0 (aW o) vals)/\V9 w χ H bt ms os
 |_,_=>False
def mW(P:Program)(NL:Nat)(S:Spec):Prop:=∀(w:World)(χ:Nat->Nat)(h:HL S.ar)(H:Hd)(vals:List Value),(∀p,S.pre=some p->p h)->AR w χ H S.bt S.ps S.ar h 0 0 vals->(∀e∈lhP H S.ps S.ar h 0,∀e'∈lhP H S.ps S.ar h 0,e.2=e'.2->e.1=e'.1)->(∀c∈(lhP H S.ps S.ar h 0).map (·.2),c≠0/\c≠1000)->(∀q b,q<kj S.ps->χ b=H.c q->b=H.b q)->(∀i,1001<=H.r i) ->
 Bf P NL vals.toArray (pR (wrP H S.ms S.ps S.ar h)) w χ λw' χ' v=>∃r vs,S.po h r/\v=Sv.one vs/\Oc w' χ' H.r (V9 w' χ' H S.bt S.ms) S.rk (rY S.rs r) 0 vs
section
variable{w w':World}{χ χ':Nat->Nat}{H:Hd}
theorem sC:∀{l:List (Nat×Nat)} {i:Nat},i∉l.map (·.1)->mf l i=bif Nat.beq i 0 then 0 else 1000
 |[],_,_=>rfl
 |(a,b)::l,i,h=>by
  unfold mf;cases hb:Nat.beq i a with
  |true=>exact absurd (aD hb▸aI) h
  |false=>exact sC λe=>h (aw _ e)
theorem Gv{o μ f:Nat->Nat}:∀{l:List TV} {i:Nat} {vs:List Value},CB w χ o μ i l vs->∀y∈opN f i l,∃p,y.1=f p/\OM kI (bw y.2.c) (mR y.2.c) w χ (o p) (μ p) y.2.l/\∀g:Nat->Nat,(g p,y.2)∈opN g i l
 |[],_,[],_,y,hy=>by cases hy
 |[],_,_::_,h,_,_=>h.elim
 |x::l,i,[],h,_,_=>by cases x<;>exact h.elim
 |x::l,i,v::vs,h,y,hy=>by
  cases x with
  |md c z =>
   obtain⟨⟨h1,h2⟩,h3⟩:=h;rcases aE.1 (show y∈(f i,(⟨c,z⟩:J9))::opN f (i+1) l from hy)with e|e
   .subst e;exact⟨i,rfl,h2,λg=>aI⟩
   .obtain⟨p,p1,p2,p3⟩:=Gv h3 y e;exact⟨p,p1,p2,λg=>aw _ (p3 g)⟩
  |_=>exact Gv h.2 y hy
end
end
noncomputable section
def E0(H:Hd):En:=⟨λid=>H.b (id-901),λ_=>none,λ_=>0,λk=>H.μ (k-500000),λ_=>0,λk=>1002+2*k⟩
structure Ok0 (w:World) (χ:Nat->Nat) (H:Hd) (sy:Sy) (s:TS):Prop where
 al:∀t x,aa s.al t=some x->∃sv,aa sy.al t=some sv/\∀s',fO w χ (E0 H) s' x sv
 boxes:∀id t cs,aa s.boxes id=some (t,cs)->∃ss,aa sy.boxes id=some (t,ss)/\∀s',FL (TR w χ (E0 H) s') cs ss
 own:s.own=[]
 aZ:∀k mp,aa s.aZ k=some mp->OM kI (bw mp.c) (mR mp.c) w χ (1002+2*k) (H.μ (k-500000)) mp.l
section
variable{w:World}{χ:Nat->Nat}{H:Hd}{f0:Nat->Nat}
theorem VI(p:Nat):(E0 H).μ (mapN p)=H.μ p:=by
 have:mapN p-500000=p:=by unfold mapN;omega
 show H.μ (mapN p-500000)=H.μ p;rw[this]
theorem DP(q:Nat):(E0 H).ρ (901+q)=H.b q:=by
 show H.b (901+q-901)=H.b q;rw[pI]
theorem Ok0.reg{sy:Sy}{s:TS}(h:Ok0 w χ H sy s){i:Nat}{x:RV}{sv:SV}(hl:aa sy.al i=some sv)(hv:∀s',fO w χ (E0 H) s' x sv){mp:List (Nat×J9)}(hm:∀y∈mp,OM kI (bw y.2.c) (mR y.2.c) w χ (1002+2*y.1) (H.μ (y.1-500000)) y.2.l):Ok0 w χ H sy ⟨(i,x)::s.al,s.boxes,s.own,mp++s.aZ,s.ca⟩ :=
 ⟨λt y e=>by
  rcases aA e with⟨e1,e2⟩|⟨_,e2⟩
  .subst e1 e2;exact⟨sv,hl,hv⟩
  .exact h.al t y e2,h.boxes,h.own,λk m e=>by
  rw[iz]at e;cases hk:aa mp k with
  |some y=>rw[hk]at e;cases e;exact hm (k,m) (ct hk)
  |none=>rw[hk]at e;exact h.aZ k m e⟩
theorem La(m:M0 w χ w (λb=>f0 (χ b))){s':TS}{q:Nat}:∀{l:List TV} {i:Nat} {vs:List Value},CB w χ (λi=>H.o (64*q+i)) (λi=>H.μ (64*q+i)) i l vs->FL (TR w (λb=>f0 (χ b)) (E0 H) s') (W4 (λi=>mapN (64*q+i)) i l) (vs.map V)
 |[],_,[],_=>trivial
 |[],_,_::_,h=>h.elim
 |x::l,i,[],h=>by cases x<;>exact h.elim
 |x::l,i,v::vs,h=>by
  cases x with
  |md c y=>obtain⟨⟨h1,h2⟩,h3⟩:=h;exact⟨⟨v,rfl,λmp _=>by rw[h1,VI]⟩,La m h3⟩
  |_=>exact⟨kS (h.1.m0 m),La m h.2⟩
theorem aac(m:M0 w χ w (λb=>f0 (χ b))){bt:List Nat}:∀(cs:List TC)(h:HL cs)(q:Nat),BR w χ H bt cs h q->(∀e∈lhB H cs h q,f0 e.2=e.1)->q+cs.length<=90->∃bxs:List (Nat×(Nat×List SV)),uf bxs (E0 H).ρ w (λb=>f0 (χ b))/\(∀id x,aa bxs id=some x->901+q<=id) /\
  ∀(sy:Sy)(s:TS),(∀id x,aa bxs id=some x->aa sy.boxes id=some x)->Ok0 w (λb=>f0 (χ b)) H sy s->Ok0 w (λb=>f0 (χ b)) H sy (startB bt cs h q s)
 |[],h,q,_,_,_=>⟨[],(λid x e=>by cases e),(λid x e=>by cases e),λsy s _ h=>h⟩
 |c::cs,h,q,hb,hl,hq=>by
  obtain⟨⟨vals,h1,h2⟩,h3⟩:=hb;have zV:q+1+cs.length<=90:=by have:q+(cs.length+1)<=90:=hq;omega
  obtain⟨bxs,k1,k2,k3⟩:=aac m cs h.2 (q+1) h3 (λe he=>hl e (aw _ (aG _ he))) zV;have jZ:Cell w (λb=>f0 (χ b)) ((E0 H).ρ (901+q)) (901+q) (bt.getD q 0) ((vals.map V).map (aP (E0 H).ρ)):=by rw[lV,DP];exact h1.map (hl _ aI)
  refine⟨(901+q,(bt.getD q 0,vals.map V))::bxs,uf.cons (by unfold jo;rw[ak];exact⟨fq (by omega),fq (by omega)⟩) jZ k1,λid x e=>?_,λsy s hsy ho=>?_⟩
  .rcases aA e with⟨e1,_⟩|⟨_,e2⟩
   .omega
   .have:=k2 id x e2;omega
  .refine k3 sy (Qy bt s q (kd c h.1)) (λid x e=>hsy id x ((bd (by have:=k2 id x e;omega)).trans e)) ⟨ho.al,λid t dG e=>?_,ho.own,λk mp e=>?_⟩
   .rcases aA e with⟨e1,e2⟩|⟨_,e2⟩
    .cases e2;subst e1;exact⟨_,hsy _ _ look_eq,λs'=>La m h2⟩
    .exact ho.boxes id t dG e2
   .have e:aa (opN (λi=>mapN (64*q+i)) 0 (kd c h.1)++s.aZ) k=some mp:=e;rw[iz]at e;cases hk:aa (opN (λi=>mapN (64*q+i)) 0 (kd c h.1)) k with
    |none=>rw[hk]at e;exact ho.aZ k mp e
    |some y=>rw[hk]at e;cases e;obtain⟨p,p1,p2,p3⟩:=Gv h2 _ (ct hk);have hf:=hl _ (aw _ (aN _ (aq.2 ⟨_,p3 (λi=>64*q+i),rfl⟩)));have p1:k=mapN (64*q+p):=p1;subst p1;have:=OM.map p2 hf m;rw[show mapN (64*q+p)-500000=64*q+p from by unfold mapN;omega];exact this
theorem FA:∀(n q:Nat),∃c:List S0,FL (PR w χ) (Yz q n) c/\c.map (bT (E0 H).ρ)=Vb H q n
 |0,_=>⟨[],trivial,rfl⟩
 |n+1,q=>by obtain⟨c,h1,h2⟩:=FA n (q+1);refine⟨.p (901+q) 0::c,⟨.inl ⟨_,_,rfl,rfl⟩,h1⟩,?_⟩;show Value.pointer (some ⟨(E0 H).ρ (901+q),0,none⟩)::c.map (bT (E0 H).ρ)=_;rw[h2,DP];rfl
theorem DE(m:M0 w χ w (λb=>f0 (χ b))){bt:List Nat}:∀(ps:List PK)(cs:List TC)(h:HL cs)(i q:Nat)(vals:List Value),AR w χ H bt ps cs h i q vals->(∀e∈lhP H ps cs h i,f0 e.2=e.1)->q+kj ps<=90->∃(oH:List SV)(bxs:List (Nat×(Nat×List SV))),oH.map (aP (E0 H).ρ)=vals/\uf bxs (E0 H).ρ w (λb=>f0 (χ b)) /\
  ∀(sy:Sy)(s:TS),(∀j sv,oH[j]?=some sv->aa sy.al (i+j)=some sv)->(∀id x,aa bxs id=some x->aa sy.boxes id=some x)->Ok0 w (λb=>f0 (χ b)) H sy s->Ok0 w (λb=>f0 (χ b)) H sy (startP bt ps cs h i q s)
 |[],cs,h,i,q,[],⟨hb,hq0⟩,hl,hq=>by obtain⟨bxs,k1,_,k3⟩:=aac m cs h 0 hb hl (by have:q+0<=90:=hq;omega);exact⟨[],bxs,rfl,k1,λsy s _ hb ho=>k3 sy s hb ho⟩
 |[],_,_,_,_,_::_,h,_,_=>h.elim
 |.d::ps,[],_,_,_,vals,h,_,_=>by cases vals<;>exact h.elim
 |.d::ps,c::cs,h,i,q,[],hh,_,_=>hh.elim
 |.z::ps,_,_,_,_,[],hh,_,_=>hh.elim
 |.p::ps,_,_,_,_,[],hh,_,_=>hh.elim
 |.f _ _::ps,_,_,_,_,[],hh,_,_=>hh.elim
 |.d::ps,c::cs,h,i,q,v::vals,⟨h1,h2⟩,hl,hq=>by
  obtain⟨oH,bxs,k1,k2,k3⟩:=DE m ps cs h.2 (i+1) q vals h2 (λe he=>hl e (aG _ he)) hq;refine⟨V v::oH,bxs,by rw[ba,k1];rfl,k2,λsy s hr hb ho=>k3 sy _ (λj sv e=>by have:=hr (j+1) sv e;rwa[show i+(j+1)=i+1+j from by omega]at this) hb ?_⟩;have hl0:aa sy.al i=some (V v):=hr 0 _ rfl;have data:∀(hm:isMc c=false),VR (bw c) (mR c) w χ v h.1->Ok0 w (λb=>f0 (χ b)) H sy ⟨(i,vd c (kd c h.1))::s.al,s.boxes,s.own,s.aZ,s.ca⟩:=λ_ hv=>ho.reg (mp:=[]) hl0 (λs'=>CK (hv.mono m)) (λy hy=>by cases hy);cases c with
  |m c'=>obtain⟨e1,e2⟩:=h1;refine ho.reg (x:=.s (.m (mapN (100000+i)))) (mp:=[(mapN (100000+i),⟨c',h.1⟩)]) hl0 (λs'=>⟨v,rfl,λmp _=>by rw[e1,VI]⟩) λy hy=>?_;cases aY.1 hy;have:=OM.map e2 (hl _ (aN _ aI)) m;rw[show mapN (100000+i)-500000=100000+i from by unfold mapN;omega];exact this
  |i _=>exact data rfl h1
  |b=>exact data rfl h1
  |s=>exact data rfl h1
  |t _=>exact data rfl h1
  |l _=>exact data rfl h1
 |.z::ps,cs,h,i,q,v::vals,⟨h1,h2⟩,hl,hq=>by obtain⟨oH,bxs,k1,k2,k3⟩:=DE m ps cs h (i+1) q vals h2 hl hq;refine⟨V v::oH,bxs,by rw[ba,k1];rfl,k2,λsy s hr hb ho=>k3 sy _ (λj sv e=>by have:=hr (j+1) sv e;rwa[show i+(j+1)=i+1+j from by omega]at this) hb ?_⟩;exact ho.reg (x:=.s (.v (.slice none 0 0))) (mp:=[]) (hr 0 _ rfl) (λs'=>by rw[h1];exact⟨_,rfl,rfl,rfl⟩) (λy hy=>by cases hy)
 |.p::ps,cs,h,i,q,v::vals,⟨h1,h2⟩,hl,hq=>by
  obtain⟨oH,bxs,k1,k2,k3⟩:=DE m ps cs h (i+1) (q+1) vals h2 hl (by have:q+(1+kj ps)<=90:=hq;omega);refine⟨Pt (901+q) 0::oH,bxs,?_,k2,λsy s hr hb ho=>k3 sy _ (λj sv e=>by have:=hr (j+1) sv e;rwa[show i+(j+1)=i+1+j from by omega]at this) hb ?_⟩
  .rw[ba,k1,h1];show Value.pointer (some ⟨(E0 H).ρ (901+q),0,none⟩)::vals=_;rw[DP]
  .exact ho.reg (x:=.s (.p (901+q) 0)) (mp:=[]) (hr 0 _ rfl) (λs'=>rfl) (λy hy=>by cases hy)
 |.f g n::ps,cs,h,i,q,v::vals,⟨h1,h2⟩,hl,hq=>by
  obtain⟨oH,bxs,k1,k2,k3⟩:=DE m ps cs h (i+1) (q+n) vals h2 hl (by have:q+(n+kj ps)<=90:=hq;omega);obtain⟨c,c1,c2⟩:=FA (w:=w) (χ:=λb=>f0 (χ b)) (H:=H) n q;refine⟨.f (.func g) [] c::oH,bxs,?_,k2,λsy s hr hb ho=>k3 sy _ (λj sv e=>by have:=hr (j+1) sv e;rwa[show i+(j+1)=i+1+j from by omega]at this) hb ?_⟩
  .rw[ba,k1,h1];show Value.func _ _ _::vals=_;rw[c2];rfl
  .exact ho.reg (x:=.s (.f g [] (Yz q n))) (mp:=[]) (hr 0 _ rfl) (λs'=>⟨[],c,rfl,trivial,c1⟩) (λy hy=>by cases hy)
end
end
section
section
variable{P:Program}{T:Tb}{w:World}{χ χ':Nat->Nat}{E:En}{s:TS}{X:Cx}{sy:Sy}{a:Act}{H:Hd}
theorem F6{o μ:Nat->Nat}:∀{l:List TV} {i:Nat} {vs:List Value},CB w χ o μ i l vs->∀p,smL l p->p
 |[],_,[],_,_,h=>h
 |[],_,_::_,h,_,_=>h.elim
 |x::l,i,[],h,_,_=>by cases x<;>exact h.elim
 |x::l,i,v::vs,h,p,hp=>by
  cases x with
  |sl c y=>obtain⟨⟨a,cp,h1,h2⟩,h3⟩:=h;exact F6 h3 p (hp (h2.sm (fq (xf c))))
  |_=>exact F6 h.2 p hp
theorem BX{c:TC}{x:den c}{v:Value}(h:VR (bw c) (mR c) w χ v x):∀p,smL (kd c x) p->p:=by
 unfold VR at h;split at h
 .obtain⟨cs,_,h⟩:=h;exact ia (Cz c h)
 .exact ia (Cz c h)
theorem HP{bt:List Nat}:∀{cs:List TC} {h:HL cs} {q:Nat} {p:Prop},BR w χ H bt cs h q->smAll cs h p->p
 |[],_,_,_,_,hp=>hp
 |c::cs,h,q,p,⟨⟨vals,_,h2⟩,h3⟩,hp=>HP h3 (F6 h2 _ hp)
theorem yk{bt:List Nat}:∀{ps:List PK} {cs:List TC} {h:HL cs} {i q:Nat} {vals:List Value} {p:Prop},AR w χ H bt ps cs h i q vals->smAll cs h p->p
 |[],cs,h,i,q,[],p,hh,hp=>HP hh.1 hp
 |[],_,_,_,_,_::_,_,hh,_=>hh.elim
 |.d::ps,[],_,_,_,vals,_,hh,_=>by cases vals<;>exact hh.elim
 |.d::ps,c::cs,h,i,q,[],_,hh,_=>hh.elim
 |.z::ps,_,_,_,_,[],_,hh,_=>hh.elim
 |.p::ps,_,_,_,_,[],_,hh,_=>hh.elim
 |.f _ _::ps,_,_,_,_,[],_,hh,_=>hh.elim
 |.d::ps,c::cs,h,i,q,v::vals,p,⟨h1,h2⟩,hp=>yk h2 (by
  have hp:smL (kd c h.1) (smAll cs h.2 p):=hp;cases c with
  |m c'=>exact hp
  |i _=>exact BX (w:=w) (χ:=χ) (c:=.i _) (x:=h.1) (v:=v) h1 _ hp
  |b=>exact BX (w:=w) (χ:=χ) (c:=.b) (x:=h.1) (v:=v) h1 _ hp
  |s=>exact BX (w:=w) (χ:=χ) (c:=.s) (x:=h.1) (v:=v) h1 _ hp
  |t _=>exact BX (w:=w) (χ:=χ) (c:=.t _) (x:=h.1) (v:=v) h1 _ hp
  |l _=>exact BX (w:=w) (χ:=χ) (c:=.l _) (x:=h.1) (v:=v) h1 _ hp)
 |.z::ps,cs,h,i,q,v::vals,p,⟨_,h2⟩,hp=>yk h2 hp
 |.p::ps,cs,h,i,q,v::vals,p,⟨_,h2⟩,hp=>yk h2 hp
 |.f _ _::ps,cs,h,i,q,v::vals,p,⟨_,h2⟩,hp=>yk h2 hp
theorem DQ{bt:List Nat}:∀{ps:List PK} {cs:List TC} {h:HL cs} {i q:Nat} {vals:List Value},AR w χ H bt ps cs h i q vals->vals.length=ps.length
 |[],_,_,_,_,[],_=>rfl
 |[],_,_,_,_,_::_,hh=>hh.elim
 |.d::ps,[],_,_,_,vals,hh=>by cases vals<;>exact hh.elim
 |.d::ps,c::cs,h,i,q,[],hh=>hh.elim
 |.z::ps,_,_,_,_,[],hh=>hh.elim
 |.p::ps,_,_,_,_,[],hh=>hh.elim
 |.f _ _::ps,_,_,_,_,[],hh=>hh.elim
 |.d::ps,c::cs,h,i,q,v::vals,hh=>by rw[bc,bc,DQ hh.2]
 |.z::ps,cs,h,i,q,v::vals,hh=>by rw[bc,bc,DQ hh.2]
 |.p::ps,cs,h,i,q,v::vals,hh=>by rw[bc,bc,DQ hh.2]
 |.f _ _::ps,cs,h,i,q,v::vals,hh=>by rw[bc,bc,DQ hh.2]
theorem yi:∀{l:List SV} {i j:Nat} {sv:SV},l[j]?=some sv->aa (oV i l) (i+j)=some sv
 |[],_,_,_,e=>by simp at e
 |x::l,i,0,sv,e=>by cases e;exact look_eq
 |x::l,i,j+1,sv,e=>by unfold oV;rw[bd (by omega),show i+(j+1)=i+1+j from by omega];exact yi (by simpa using e)
theorem Bn(h:bX X s E sy a w χ):∀{vars:List ResultVar} {l:List RV},Gi T s vars=some l->∃r:List SV,zy T.bj sy E.ρ vars=some (r.map (aP E.ρ))/\FL (fO w χ E s) l r
 |[],l,e=>by cases e;exact⟨[],rfl,trivial⟩
 |.tmp t::vs,l,e=>by obtain⟨x,q,h1,h2,rfl⟩:=fI e;obtain⟨sv,g1,g2⟩:=h.al t x h1;obtain⟨r,g3,g4⟩:=Bn h h2;exact⟨sv::r,by unfold zy;simp only[g1,g3];rfl,g2,g4⟩
 |.cell b ty::vs,l,e=>by
  unfold Gi at e;split at e
  .rename_i id n agg hb hs;split at e
   .rename_i cs XZ;obtain⟨hle,e⟩:=(show Nat.ble n cs.length=true/\consO (Is s agg (cs.take n)) (Gi T s vs)=some l from by
     cases hle:Nat.ble n cs.length with
     |true=>rw[hle]at e;exact⟨rfl,e⟩
     |false=>rw[hle]at e;cases e)
    obtain⟨x,q,h1,h2,rfl⟩:=fI e;obtain⟨r,g3,g4⟩:=Bn h h2;obtain⟨sv,g1,g2⟩:=h.al b _ hb;obtain rfl:sv=Pt id 0:=g2;obtain⟨t,ss,k1,k2⟩:=Ap h XZ;obtain⟨y,hy,hn,ha⟩:=uJ hs;subst hn ha;have arJ:=aB hle;have hl:=k2.len;cases QR:y.agg with
    |true=>rw[QR]at h1;obtain⟨hp,rfl⟩:=Ir h1;obtain⟨us,e1,e2⟩:=Cl hp (k2.take y.size);refine⟨V (.agg us.toArray)::r,?_,⟨us,rfl,e2⟩,g4⟩;unfold zy;simp only[g1,g3,hy,k1,QR,cG,bh,nL,e1];rw[show Nat.ble y.size ss.length=true from fq (by omega)];rfl
    |false =>
     rw[QR]at h1;obtain⟨z,hz,rfl⟩:=Iq h1;have hg:cs[0]?=some z:=by
      have:=b8 (λl=>l[0]?) hz;simp only[bQ,List.getElem?_cons_zero]at this;split at this
      .exact this
      .cases this
     obtain⟨sv,p1,p2⟩:=k2.get 0 z hg;refine⟨sv::r,?_,p2,g4⟩;unfold zy;simp only[g1,g3,hy,k1,QR,eQ,p1];rfl
   .cases e
  .cases e
end
end
section
section
variable{P:Program}{T:Tb}{w:World}{χ χ1 χ2:Nat->Nat}{E:En}{s:TS}{X:Cx}{sy:Sy}{a:Act}{H:Hd}{f:Nat->Nat}
theorem abD{f0:Nat->Nat}{p:Nat->Bool}{w0 w:World}{χc χ1:Nat->Nat}(h:Ho f0 w0 χc w χ1)(hf0:∀c,f0 c=0->c=0)(f:Nat->Nat)(h0:f 0=0)(hk:∀b,b<w0.heap.size->p (χc b)=false->(f0 (χc b)=0∨f0 (χc b)=1000)∨(w.heap[b]?=w0.heap[b]?/\f (χ1 b)=χc b)):
  ∃χ2,Ev p w0 χc w χ2/\M0 w χ1 w χ2/\(∀b,χ1 b≠0->χ1 b≠1000->χ2 b=f (χ1 b)):=by
 refine⟨λb=>if b<w0.heap.size/\(f0 (χc b)=0∨f0 (χc b)=1000)then χc b else f (χ1 b),⟨h.os,h.tape,h.output,h.size,λb hb hpb=>?_⟩,⟨aK _,λb _ hz=>⟨rfl,?_⟩⟩,?_⟩
 .rcases hk b hb hpb with hc|⟨h1,h2⟩
  .exact⟨(h.keep b hb hc).1,by simp[hb,hc]⟩
  .refine⟨h1,?_⟩;show(if _ then χc b else f (χ1 b))=χc b;split
   .rfl
   .exact h2
 .show(if b<w0.heap.size/\(f0 (χc b)=0∨f0 (χc b)=1000)then χc b else f (χ1 b))=0;split
  .rename_i hb;have:=(h.keep b hb.1 hb.2).2;rw[hz]at this;exact hf0 _ this.symm
  .rw[hz,h0]
 .intro b hb hb1;have:¬(b<w0.heap.size/\(f0 (χc b)=0∨f0 (χc b)=1000)):=by
   intro eB;have:=(h.keep b eB.1 eB.2).2;rcases eB.2 with e|e<;>rw[e]at this
   .exact hb this
   .exact hb1 this
  simp[this]
theorem xP(c:TC)(l:List TV):aW (vd c l)=l:=by
 unfold vd;cases mR c with
 |true=>rfl
 |false=>simp only[eQ];split<;>rfl
theorem Du{c:TC}{b:Bool}{l:List TV}{x:den c}(h:clI s c (some b,l)=some x):b=mR c/\((yy c=true/\l.all DU=true)∨isMc c=true)/\l.all (plainV s)=true/\clD s c l=some x:=by
 unfold clI at h;dsimp only at h;cases hb:(b==mR c&&((yy c&&l.all DU)||isMc c)&&l.all (plainV s))with
 |false=>rw[hb]at h;cases h
 |true=>rw[hb]at h;simp only[ak,dS]at hb;exact⟨eq_of_beq hb.1.1,hb.1.2,hb.2,h⟩
theorem lz{c:TC}{l:List TV}{x:den c}(h:clI s c (none,l)=some x):l.all (plainV s)=true/\clD s c l=some x:=by
 unfold clI at h;dsimp only at h;cases hb:l.all (plainV s)with
 |false=>rw[hb]at h;cases h
 |true=>rw[hb]at h;exact⟨rfl,h⟩
theorem Zp{c:TC}{l:List (Int×den c)}{q:List TV}(h:FL NV [.md c l] q):q=[.md c l]:=by
 match q,h with
 |[y],h=>cases h.1;rfl
 |[],h=>exact h.elim
 |_::_::_,h=>exact h.2.elim
theorem ae4{c:TC}{l:List (den c)}{q:List TV}(h:FL NV [.sl c l] q):q=[.sl c l]:=by
 match q,h with
 |[y],h=>cases h.1;rfl
 |[],h=>exact h.elim
 |_::_::_,h=>exact h.2.elim
theorem ahd(m:M0 w χ w χ1)(m2:M0 w χ1 w χ2){v:RV}{sv:SV}{b:Bool}{l:List TV}{c:TC}{x:den c}(hv:fO w χ E s v sv)(hc:sJ v=some (b,l))(hm:l.all DU=true)(hz:∀k∈ownsV l,∀ow,aa s.own k=some ow->RS (bw ow.c) w χ1 (E.σ k) ow.l (E.κ k))(e:clI s c (some b,l)=some x):DV w χ2 (vd c (kd c x)) (aP E.ρ sv):=by
 obtain⟨hb,_,hp,hd⟩:=Du e;have nv:=mV c hd;unfold sJ at hc;split at hc
 .rename_i y;cases hc;obtain⟨u,rfl,hu⟩:=rV (gu.1 hp).1 hv;have hdt:=y9 (vs:=[u]) m (λz Ec k ow e1 e2=>hz k (sg (e1▸Ec)) ow e2) hm nv ⟨hu,trivial⟩;unfold vd;rw[←hb];simp only[eQ];cases ho:kd c x with
  |nil=>rw[ho]at hdt;exact hdt.elim
  |cons z q =>
   rw[ho]at hdt;cases q with
   |nil=>exact hdt.1.m0 m2
   |cons _ _=>exact hdt.2.elim
 .rename_i y;cases hc;obtain⟨vs,rfl,hu⟩:=hv;have hdt:=y9 m (λz Ec k ow e1 e2=>hz k (sg (e1▸Ec)) ow e2) hm nv hu;unfold vd;rw[←hb];exact⟨vs,rfl,hdt.mono λ_ _ h=>h.m0 m2⟩
 .cases hc
def B8:List RK->List RV->Nat->List (Nat×Nat)
 |.o _::ks,.s (.o k)::vs,i=>(k,i)::B8 ks vs (i+1)
 |_::ks,_::vs,i=>B8 ks vs (i+1)
 |_,_,_=>[]
def Gh:List RK->List RV->Nat->List (Nat×Nat)
 |.m::ks,.s (.m k)::vs,i=>(k,i)::Gh ks vs (i+1)
 |_::ks,_::vs,i=>Gh ks vs (i+1)
 |_,_,_=>[]
def VE(s:TS):List TC->List RV->List It->Prop
 |[],[],[]=>True
 |c::cs,o::os,it::zk=>(∃x,clI s c it=some x/\o=vd c (kd c x))/\VE s cs os zk
 |_,_,_=>False
theorem Ds:∀{cs:List TC} {zk:List It} {r:D1 cs},Dt s cs zk=some r->VE s cs (rY cs r) zk
 |[],[],_,_=>trivial
 |[c],[v],r,e=>⟨⟨r,e,rfl⟩,trivial⟩
 |[c],[],_,e=>by cases e
 |[c],_::_::_,_,e=>by cases e
 |[],_::_,_,e=>by cases e
 |c::c'::cs,[],_,e=>by cases e
 |c::c'::cs,v::vs,r,e=>by obtain⟨h1,h2⟩:=eD (x:=r.1) (q:=r.2) (show pairO (clI s c v) (Dt s (c'::cs) vs)=some (r.1,r.2)from e);exact⟨⟨r.1,h1,rfl⟩,Ds h2⟩
theorem Zz{c:TC}(h:isLc c=true):∃c',c=.l c':=by cases c<;>first|exact⟨_,rfl⟩|cases h
theorem Zw{c:TC}(h:isMc c=true):∃c',c=.m c':=by cases c<;>first|exact⟨_,rfl⟩|cases h
theorem ox{cs:List TC}{os:List RV}{it:It}{zk:List It}(h:VE s cs os (it::zk)):∃c dG o EK x,cs=c::dG/\os=o::EK/\clI s c it=some x/\o=vd c (kd c x)/\VE s dG EK zk:=by
 cases cs with
 |nil=>cases os<;>exact h.elim
 |cons c dG=>cases os with
  |nil=>exact h.elim
  |cons o EK=>obtain⟨⟨x,h1,h2⟩,h3⟩:=h;exact⟨c,dG,o,EK,x,rfl,rfl,h1,h2,h3⟩
theorem dw{α:Type}{b:Bool}{x:Option α}{y:α}(h:(bif b then x else none)=some y):b=true/\x=some y:=by
 cases b with
 |true=>exact⟨rfl,h⟩
 |false=>cases h
theorem Ab{k:RK}{ks:List RK}{v:RV}{vs:List RV}{it:List It}{oc mc:List Nat}(e:wP s (k::ks) (v::vs)=some (it,oc,mc)):
  (∃b l q,k=.d/\sJ v=some (b,l)/\wP s ks vs=some (q,oc,mc)/\l.all DU=true/\it=(some b,l)::q) ∨
  (∃e j ow q Xa,k=.o e/\v=.s (.o j)/\aa s.own j=some ow/\ow.e=e/\wP s ks vs=some (q,Xa,mc)/\oc=j::Xa/\it=(none,[.o j])::q) ∨
  (∃e q,k=.o e/\v=.s (.v (.slice none 0 0))/\wP s ks vs=some (q,oc,mc)/\it=(none,[.v (.slice none 0 0)])::q) ∨
  (∃j q Xl,k=.m/\v=.s (.m j)/\j<500000/\wP s ks vs=some (q,oc,Xl)/\mc=j::Xl/\it=(none,[.m j])::q):=by
 unfold wP at e;split at e
 .rename_i h1 _;cases h1
 .rename_i h1 h2;cases h1;cases h2;split at e
  .rename_i b l q Xa Xl hc hf;cases hb:l.all DU with
   |false=>rw[hb]at e;cases e
   |true=>rw[hb]at e;cases e;exact .inl ⟨b,l,q,rfl,hc,hf,hb,rfl⟩
  .cases e
 .rename_i h1 h2;cases h1;cases h2;split at e
  .rename_i ow q Xa Xl ho hf;rename_i e0 _ _ _;cases hb:Nat.beq ow.e e0 with
   |false=>rw[hb]at e;cases e
   |true=>rw[hb]at e;cases e;exact .inr (.inl ⟨_,_,ow,q,_,rfl,rfl,ho,aD hb,hf,rfl,rfl⟩)
  .cases e
 .rename_i h1 h2;cases h1;cases h2;split at e
  .rename_i q Xa Xl hf;cases e;exact .inr (.inr (.inl ⟨_,q,rfl,rfl,hf,rfl⟩))
  .cases e
 .rename_i h1 h2;cases h1;cases h2;split at e
  .rename_i q Xa Xl hf;obtain⟨hb,e⟩:=dw e;cases e;exact .inr (.inr (.inr ⟨_,q,_,rfl,rfl,aB hb,hf,rfl,rfl⟩))
  .cases e
 .cases e
theorem B7(m:M0 w χ w χ1)(m2:M0 w χ1 w χ2){r:Nat->Nat}{k:List RV->Prop}{b:List It}(hk:∀cs os,VE s cs os b->k os):∀{ks:List RK} {cs:List TC} {l:List RV} {it:List It} {oc mc:List Nat} {os:List RV} {ss:List SV} {i:Nat},wP s ks l=some (it,oc,mc)->FL (fO w χ E s) l ss->VE s cs os (it++b)->kindsOK ks cs=true->(∀q∈datO ks l,∀ow,aa s.own q=some ow->RS (bw ow.c) w χ1 (E.σ q) ow.l (E.κ q)) ->
  (∀y∈B8 ks l i,∀ow,aa s.own y.1=some ow->OS (bw ow.c) ow.e w χ2 (r y.2) (E.σ y.1) ow.l (E.κ y.1))->(∀y∈Gh ks l i,∀mp,aa s.aZ y.1=some mp->OM kI (bw mp.c) (mR mp.c) w χ2 (r y.2) (E.μ y.1) mp.l)->Oc w χ2 r k ks os i (ss.map (aP E.ρ))
 |[],cs,[],it,oc,mc,os,[],i,hf,hv,ho,_,_,_,_=>by cases hf;exact hk cs os ho
 |[],_,[],_,_,_,_,_::_,_,_,hv,_,_,_,_,_=>hv.elim
 |[],_,_::_,_,_,_,_,_,_,hf,_,_,_,_,_,_=>by cases hf
 |.d::_,_,[],_,_,_,_,_,_,hf,_,_,_,_,_,_=>by cases hf
 |.o _::_,_,[],_,_,_,_,_,_,hf,_,_,_,_,_,_=>by cases hf
 |.m::_,_,[],_,_,_,_,_,_,hf,_,_,_,_,_,_=>by cases hf
 |_::_,_,_::_,_,_,_,_,[],_,_,hv,_,_,_,_,_=>hv.elim
 |k0::ks,cs,v::vs,it,oc,mc,os,sv::ss,i,hf,hv,ho,hkk,hd,hO,hM=>by
  rcases Ab hf with⟨bb,l,q,rfl,hc,Ba,hm,rfl⟩|⟨e,j,ow,q,Xa,rfl,rfl,hw,he,Ba,rfl,rfl⟩|⟨e,q,rfl,rfl,Ba,rfl⟩|⟨j,q,Xl,rfl,rfl,hj,Ba,rfl,rfl⟩
  .obtain⟨c,dG,o,EK,x,rfl,rfl,hx,rfl,xF⟩:=ox ho;refine⟨ahd m m2 hv.1 hc hm (λz hz=>hd z (aN _ ?_)) hx,B7 m m2 hk Ba hv.2 xF hkk (λz hz=>hd z (aG _ hz)) hO hM⟩;unfold sJ at hc;split at hc<;>cases hc<;>exact hz
  .obtain⟨c,dG,o,EK,x,rfl,rfl,hx,rfl,xF⟩:=ox ho;obtain⟨Ed,yT⟩:=gu.1 (show(isLc c&&kindsOK ks dG)=true from hkk);obtain⟨c',rfl⟩:=Zz Ed;have nv:=mV _ (lz hx).2;have ed:qx s (.o j)=.sl ow.c ow.l:=by simp only[qx,hw]
   rw[ba,iC,ed]at nv;have:=ae4 nv;have hR:=hO (j,i) aI ow hw;have hs:=TR.own (w:=w) (χ:=χ) hv.1 hw;obtain⟨oe,oc0,ol⟩:=ow;have this:[TV.sl c' x]=[TV.sl oc0 ol]:=this;cases this;subst hs he;exact⟨⟨_,_,rfl,hR⟩,B7 m m2 hk Ba hv.2 xF yT hd (λy hy=>hO y (aw _ hy)) hM⟩
  .obtain⟨c,dG,o,EK,x,rfl,rfl,hx,rfl,xF⟩:=ox ho;obtain⟨Ed,yT⟩:=gu.1 (show(isLc c&&kindsOK ks dG)=true from hkk);obtain⟨c',rfl⟩:=Zz Ed;have nv:=mV _ (lz hx).2;obtain⟨c2,LB⟩:=nv.1;have LB:TV.sl c' x=.sl c2 []:=LB;cases LB;obtain⟨u,hu,hu2,_⟩:=hv.1;subst hu hu2;exact⟨⟨none,0,rfl,OS.nil _ _ _ _ _⟩,B7 m m2 hk Ba hv.2 xF yT hd hO hM⟩
  .obtain⟨c,dG,o,EK,x,rfl,rfl,hx,rfl,xF⟩:=ox ho;obtain⟨Ed,yT⟩:=gu.1 (show(isMc c&&kindsOK ks dG)=true from hkk);obtain⟨c',rfl⟩:=Zw Ed;obtain⟨hp,hcl⟩:=lz hx;rw[cd,ak]at hp;obtain⟨mp,hmp⟩:=bR.1 hp.1;have nv:=mV _ hcl;have ed:qx s (.m j)=.md mp.c mp.l:=by simp only[qx,hmp]
   rw[ba,iC,ed]at nv;have:=Zp nv;have hR:=hM (j,i) aI mp hmp;have hs:=TR.map (w:=w) (χ:=χ) hv.1 hmp;obtain⟨oc0,ol⟩:=mp;have this:[TV.md c' x]=[TV.md oc0 ol]:=this;cases this;subst hs;exact⟨⟨_,rfl,hR⟩,B7 m m2 hk Ba hv.2 xF yT hd hO (λy hy=>hM y (aw _ hy))⟩
theorem Va(m:M0 w χ w χ1)(m2:M0 w χ1 w χ2){o μ:Nat->Nat}:∀{l q:List TV} {ss:List SV} {i:Nat},l.all (plainV s)=true->FL NV (l.map (qx s)) q->FL (TR w χ E s) l ss->(∀k∈ownsV l,∀ow,aa s.own k=some ow->RS (bw ow.c) w χ1 (E.σ k) ow.l (E.κ k)) ->
  (∀j k,l[j]?=some (.m k)->μ (i+j)=E.μ k/\∀mp,aa s.aZ k=some mp->OM kI (bw mp.c) (mR mp.c) w χ2 (o (i+j)) (E.μ k) mp.l)->CB w χ2 o μ i q (ss.map (aP E.ρ))
 |[],[],[],_,_,_,_,_,_=>trivial
 |[],_::_,_,_,_,n,_,_,_=>n.elim
 |[],[],_::_,_,_,_,h,_,_=>h.elim
 |_::_,[],_,_,_,n,_,_,_=>n.elim
 |_::_,_::_,[],_,_,_,h,_,_=>h.elim
 |x::l,y::q,sv::ss,i,hp,n,h,hz,hm=>by
  rw[cd,ak]at hp;have ih:=Va m m2 hp.2 n.2 h.2 (o:=o) (μ:=μ) (i:=i+1) (λk hk=>hz k (by cases x<;>first|exact hk|exact aw _ hk)) (λj k e=>by
   have:=hm (j+1) k (by simpa using e);rwa[show i+(j+1)=i+1+j from by omega]at this)
  by_cases hx:DU x=true
  .obtain⟨u,rfl,hu⟩:=rV hp.1 h.1;have:=LP m (λk ow e1 e2=>hz k (by rw[e1];exact aI) ow e2) hx n.1 hu;have this:=this.m0 m2;cases y<;>first|exact this.elim|exact⟨this,ih⟩
  .cases x with
   |m k =>
    obtain⟨mp,hmp⟩:=bR.1 hp.1;have ed:qx s (.m k)=.md mp.c mp.l:=by simp only[qx,hmp]
    have n1:=n.1;rw[ed]at n1;have n1:y=.md mp.c mp.l:=n1;subst n1;have hs:=TR.map (w:=w) (χ:=χ) h.1 hmp;subst hs;obtain⟨g1,g2⟩:=hm 0 k rfl;exact⟨⟨by rw[c9]at g1;rw[g1];rfl,by rw[c9]at g1 g2;rw[g1];exact g2 mp hmp⟩,ih⟩
   |_=>exact absurd rfl hx
end
end
section
section
variable{P:Program}{T:Tb}{w:World}{χ χ1 χ2:Nat->Nat}{E:En}{s:TS}{X:Cx}{sy:Sy}{a:Act}{H:Hd}
def Hin(H:Hd)(ms hd wr:List Nat)(lo hi:Nat)(e:Nat×Nat):Prop:=(∃q,e=(901+q,H.c q)/\lo<=q/\q<hi/\(q∈ms->H.c q∈wr))∨∃p,e=(xN p,H.o p)/\(mapN p∈hd∨H.o p∈wr)
theorem Hin.wk{ms hd hd' wr wr':List Nat}{lo lo' hi:Nat}{e:Nat×Nat}(h:Hin H ms hd wr lo hi e)(h1:∀k∈hd,k∈hd')(h2:∀k∈wr,k∈wr')(h3:lo'<=lo):Hin H ms hd' wr' lo' hi e:=by
 rcases h with⟨q,g1,g2,g3,g4⟩|⟨p,g1,g2⟩
 .exact .inl ⟨q,g1,bP h3 g2,g3,λhq=>h2 _ (g4 hq)⟩
 .exact .inr ⟨p,g1,g2.imp (h1 _) (h2 _)⟩
theorem TJ{ms:List Nat}:∀{cs:List TC} {h:HL cs} {q:Nat} {e:Nat×Nat},e∈lhB H cs h q->Hin H ms (heldB ms cs h q) (wrB H ms cs h q) q (q+cs.length) e
 |[],_,_,_,he=>by cases he
 |c::cs,h,q,e,he=>by
  rcases aE.1 he with he|he
  .refine .inl ⟨q,he,aK _,by rw[bc];omega,λhq=>?_⟩;unfold wrB;rw[any_beq.2 hq];exact aN _ aI
  .rcases aV.1 he with he|he
   .obtain⟨y,hy,rfl⟩:=aq.1 he;refine .inr ⟨y.1,rfl,?_⟩;unfold heldB wrB;cases hq:ms.any (Nat.beq q)with
    |true=>exact .inr (aN _ (aw _ (aq.2 ⟨y,hy,rfl⟩)))
    |false =>
     refine .inl (aN _ ?_);have key:∀{l:List TV} {i:Nat},y∈opN (λi=>64*q+i) i l->mapN y.1∈(opN (λi=>mapN (64*q+i)) i l).map (·.1):=by
      intro l
      induction l with
      |nil=>intro i hy;cases hy
      |cons x l ih =>
       intro i hy;cases x with
       |md c z =>
        rcases aE.1 (show y∈(64*q+i,(⟨c,z⟩:J9))::opN (λi=>64*q+i) (i+1) l from hy)with e|e
        .subst e;exact aI
        .exact aw _ (ih e)
       |_=>exact ih hy
     exact key hy
   .have:=TJ (ms:=ms) he;rw[show q+(c::cs).length=q+1+cs.length from by rw[bc];omega];exact this.wk (λk hk=>aG _ hk) (λk hk=>aG _ hk) (by omega)
theorem xD{ms bt:List Nat}:∀{ps:List PK} {cs:List TC} {h:HL cs} {i q:Nat} {vals:List Value} {e:Nat×Nat},AR w χ H bt ps cs h i q vals->e∈lhP H ps cs h i->Hin H ms (heldP ms ps cs h i) (wrP H ms ps cs h) 0 (q+kj ps) e
 |[],cs,h,i,q,[],e,hh,he=>by have:=TJ (ms:=ms) he;rw[hh.2,bh]at this;exact this
 |[],_,_,_,_,_::_,_,hh,_=>hh.elim
 |.d::ps,[],_,_,_,vals,_,hh,_=>by cases vals<;>exact hh.elim
 |.d::ps,c::cs,h,i,q,[],_,hh,_=>hh.elim
 |.z::ps,_,_,_,_,[],_,hh,_=>hh.elim
 |.p::ps,_,_,_,_,[],_,hh,_=>hh.elim
 |.f _ _::ps,_,_,_,_,[],_,hh,_=>hh.elim
 |.d::ps,c::cs,h,i,q,v::vals,e,hh,he=>by
  rcases aV.1 he with he|he
  .cases hc:isMc c with
   |false=>rw[hc]at he;cases he
   |true=>rw[hc]at he;refine .inr ⟨_,aY.1 he,.inl ?_⟩;unfold heldP;rw[hc];exact aN _ aI
  .exact(xD hh.2 he).wk (λk hk=>aG _ hk) (λk hk=>hk) (aK _)
 |.z::ps,cs,h,i,q,v::vals,e,hh,he=>(xD (ps:=ps) hh.2 he)
 |.p::ps,cs,h,i,q,v::vals,e,hh,he=>by have:=xD (ms:=ms) (ps:=ps) hh.2 he;rw[show q+kj (.p::ps)=q+1+kj ps from by show q+(1+kj ps)=_;omega];exact this
 |.f _ n::ps,cs,h,i,q,v::vals,e,hh,he=>by have:=xD (ms:=ms) (ps:=ps) hh.2 he;rw[show q+kj (.f _ n::ps)=q+n+kj ps from by show q+(n+kj ps)=_;omega];exact this
theorem qE{bt:List Nat}:∀{cs:List TC} {h:HL cs} {q:Nat} {s:TS},(∀id,id<901+q->aa (startB bt cs h q s).boxes id=aa s.boxes id)/\∀k,k∈s.aZ.map (·.1)->k∈(startB bt cs h q s).aZ.map (·.1)
 |[],_,_,_=>⟨λ_ _=>rfl,λ_ hk=>hk⟩
 |c::cs,h,q,s=>by
  obtain⟨h1,h2⟩:=qE (bt:=bt) (cs:=cs) (h:=h.2) (q:=q+1) (s:=Qy bt s q (kd c h.1));exact⟨λid hid=>(h1 id (by omega)).trans (bd (by omega)),λk hk=>h2 k (by
   unfold Qy;rw[gp];exact aG _ hk)⟩
theorem BT{bt:List Nat}:∀{cs:List TC} {h:HL cs} {q:Nat} {s:TS} {j:Nat},q<=j->j<q+cs.length->∃l,aa (startB bt cs h q s).boxes (901+j)=some (bt.getD j 0,l)
 |[],_,q,_,j,h1,h2=>by rw[cN]at h2;omega
 |c::cs,h,q,s,j,h1,h2=>by
  rw[bc]at h2;by_cases e:j=q
  .subst e;exact⟨_,((qE (bt:=bt) (cs:=cs) (h:=h.2) (q:=j+1) (s:=Qy bt s j (kd c h.1))).1 (901+j) (by omega)).trans look_eq⟩
  .exact BT (cs:=cs) (h:=h.2) (by omega) (by omega)
theorem Ax{bt ms:List Nat}:∀{cs:List TC} {h:HL cs} {q:Nat} {s:TS} {k:Nat},k∈heldB ms cs h q->k∈(startB bt cs h q s).aZ.map (·.1)
 |[],_,_,_,_,hk=>by cases hk
 |c::cs,h,q,s,k,hk=>by
  rcases aV.1 hk with hk|hk
  .refine(qE (bt:=bt) (cs:=cs) (h:=h.2) (q:=q+1)).2 k ?_;unfold Qy;rw[gp];refine aN _ ?_;cases hq:ms.any (Nat.beq q)with
   |true=>rw[hq]at hk;cases hk
   |false=>rw[hq]at hk;exact hk
  .exact Ax (cs:=cs) (h:=h.2) hk
theorem mY{bt:List Nat}:∀{ps:List PK} {cs:List TC} {h:HL cs} {i q:Nat} {vals:List Value} {s:TS} {j:Nat},AR w χ H bt ps cs h i q vals->j<q+kj ps->∃l,aa (startP bt ps cs h i q s).boxes (901+j)=some (bt.getD j 0,l)
 |[],cs,h,i,q,[],s,j,hh,hj=>BT (mb _) (by rw[hh.2];have:j<q+0:=hj;omega)
 |[],_,_,_,_,_::_,_,_,hh,_=>hh.elim
 |.d::ps,[],_,_,_,vals,_,_,hh,_=>by cases vals<;>exact hh.elim
 |.d::ps,c::cs,h,i,q,[],_,_,hh,_=>hh.elim
 |.z::ps,_,_,_,_,[],_,_,hh,_=>hh.elim
 |.p::ps,_,_,_,_,[],_,_,hh,_=>hh.elim
 |.f _ _::ps,_,_,_,_,[],_,_,hh,_=>hh.elim
 |.d::ps,c::cs,h,i,q,v::vals,s,j,hh,hj=>mY (ps:=ps) (h:=h.2) hh.2 hj
 |.z::ps,cs,h,i,q,v::vals,s,j,hh,hj=>mY (ps:=ps) hh.2 hj
 |.p::ps,cs,h,i,q,v::vals,s,j,hh,hj=>mY (ps:=ps) hh.2 (by have:j<q+(1+kj ps):=hj;omega)
 |.f _ n::ps,cs,h,i,q,v::vals,s,j,hh,hj=>mY (ps:=ps) hh.2 (by have:j<q+(n+kj ps):=hj;omega)
theorem oh{bt:List Nat}:∀{ps:List PK} {cs:List TC} {h:HL cs} {i q:Nat} {s:TS} {k:Nat},k∈s.aZ.map (·.1)->k∈(startP bt ps cs h i q s).aZ.map (·.1)
 |[],cs,h,i,q,s,k,hk=>qE.2 k hk
 |.d::ps,c::cs,h,i,q,s,k,hk=>oh (ps:=ps) (by cases c<;>first|exact hk|exact aw _ hk)
 |.d::_,[],_,_,_,_,_,hk=>hk
 |.z::ps,cs,h,i,q,s,k,hk=>oh (ps:=ps) hk
 |.p::ps,cs,h,i,q,s,k,hk=>oh (ps:=ps) hk
 |.f _ _::ps,cs,h,i,q,s,k,hk=>oh (ps:=ps) hk
theorem oq{bt ms:List Nat}:∀{ps:List PK} {cs:List TC} {h:HL cs} {i q:Nat} {s:TS} {k:Nat},k∈heldP ms ps cs h i->k∈(startP bt ps cs h i q s).aZ.map (·.1)
 |[],cs,h,i,q,s,k,hk=>Ax (ms:=ms) hk
 |.d::ps,c::cs,h,i,q,s,k,hk=>by
  rcases aV.1 hk with hk|hk
  .cases c with
   |m c'=>exact oh (ps:=ps) (by rw[aY.1 hk];exact aI)
   |_=>cases hk
  .exact oq (ms:=ms) (ps:=ps) hk
 |.d::_,[],_,_,_,_,_,hk=>by cases hk
 |.z::ps,cs,h,i,q,s,k,hk=>oq (ms:=ms) (ps:=ps) hk
 |.p::ps,cs,h,i,q,s,k,hk=>oq (ms:=ms) (ps:=ps) hk
 |.f _ _::ps,cs,h,i,q,s,k,hk=>oq (ms:=ms) (ps:=ps) hk
theorem ko{α:Type}:∀{l:List (Nat×α)} {k:Nat},k∈l.map (·.1)->∃x,aa l k=some x
 |(j,x)::l,k,h=>by
  by_cases e:j=k
  .subst e;exact⟨x,look_eq⟩
  .rcases aE.1 h with h|h
   .exact absurd h.symm e
   .obtain⟨y,hy⟩:=ko h;exact⟨y,(bd e).trans hy⟩
theorem Dc:∀{l:List (Nat×Nat)} {i j:Nat},(∀a b b',(a,b)∈l->(a,b')∈l->b=b')->(i,j)∈l->mf l i=j
 |(a,b)::l,i,j,hn,hm=>by
  unfold mf;cases hb:Nat.beq i a with
  |true=>have:=aD hb;subst this;exact hn i b j aI hm
  |false =>
   rcases aE.1 hm with e|e
   .cases e;rw[eH]at hb;cases hb
   .exact Dc (λa b b' h1 h2=>hn a b b' (aw _ h1) (aw _ h2)) e
def qP(o:Nat->Nat):Nat->List TV->List (Nat×Nat)
 |_,[]=>[]
 |i,.m k::l=>(k,o i)::qP o (i+1) l
 |i,_::l=>qP o (i+1) l
theorem qO{o:Nat->Nat}:∀{l:List TV} {i:Nat},(qP o i l).map (·.1)=mapsV l
 |[],_=>rfl
 |x::l,i=>by cases x<;>first|exact qO (l:=l)|exact b8 (List.cons _) (qO (l:=l))
theorem qb{o:Nat->Nat}:∀{l:List TV} {i j k:Nat},l[j]?=some (.m k)->(k,o (i+j))∈qP o i l
 |x::l,i,0,k,e=>by
  obtain rfl:x=.m k:=by simpa using e
  exact aI
 |x::l,i,j+1,k,e=>by
  have:=qb (o:=o) (l:=l) (i:=i+1) (j:=j) (k:=k) (by simpa using e)
  rw[show i+(j+1)=i+1+j from by omega];cases x<;>first|exact this|exact aw _ this
theorem zP{H:Hd}{q:Nat}:∀{l:List TV} {i:Nat} {y:Nat×Nat},modM q i l=true->y∈qP (λi=>H.o (64*q+i)) i l->y.1<500000∨y.2=H.o (y.1-500000)
 |[],_,_,_,hy=>by cases hy
 |x::l,i,y,hm,hy=>by
  cases x with
  |m k =>
   obtain⟨h1,h2⟩:=gu.1 (show((Nat.beq k (mapN (64*q+i))||Nat.blt k 500000)&&modM q (i+1) l)=true from hm);rcases aE.1 (show y∈(k,H.o (64*q+i))::qP (λi=>H.o (64*q+i)) (i+1) l from hy)with e|e
   .subst e;rcases Bool.or_eq_true_iff.1 h1 with h|h
    .right;rw[aD h];show H.o (64*q+i)=H.o (mapN (64*q+i)-500000);rw[show mapN (64*q+i)-500000=64*q+i from by unfold mapN;omega]
    .exact .inl (aB h)
   .exact zP h2 e
  |_=>exact zP (l:=l) hm hy
theorem tE{o:Nat->Nat}:∀{l:List TV} {i:Nat},l.all (plainV s)=true->∀y∈qP o i l,(aa s.aZ y.1).isSome=true
 |[],_,_,_,hy=>by cases hy
 |x::l,i,hp,y,hy=>by
  rw[cd,ak]at hp;cases x with
  |m k =>
   rcases aE.1 (show y∈(k,o i)::qP o (i+1) l from hy)with e|e
   .subst e;exact hp.1
   .exact tE hp.2 y e
  |_=>exact tE (l:=l) hp.2 y hy
theorem zA:∀{ks:List RK} {l:List RV} {it:List It} {oc mc:List Nat} {i:Nat},wP s ks l=some (it,oc,mc)->(B8 ks l i).map (·.1)=oc/\(Gh ks l i).map (·.1)=mc/\(∀k∈oc,(aa s.own k).isSome=true)/\∀k∈mc,k<500000
 |[],[],_,_,_,_,e=>by cases e;exact⟨rfl,rfl,(λ_ h=>by cases h),(λ_ h=>by cases h)⟩
 |[],_::_,_,_,_,_,e=>by cases e
 |.d::_,[],_,_,_,_,e=>by cases e
 |.o _::_,[],_,_,_,_,e=>by cases e
 |.m::_,[],_,_,_,_,e=>by cases e
 |k::ks,v::vs,it,oc,mc,i,e=>by
  rcases Ab e with⟨bb,l,q,rfl,hc,Ba,hm,rfl⟩|⟨e,j,ow,q,Xa,rfl,rfl,hw,he,Ba,rfl,rfl⟩|⟨e,q,rfl,rfl,Ba,rfl⟩|⟨j,q,Xl,rfl,rfl,hj,Ba,rfl,rfl⟩
  .exact zA (i:=i+1) Ba
  .obtain⟨h1,h2,h3,h4⟩:=zA (i:=i+1) Ba;exact⟨b8 (List.cons j) h1,h2,λk hk=>by
    rcases aE.1 hk with e|e
    .rw[e,hw];rfl
    .exact h3 k e,h4⟩
  .exact zA (i:=i+1) Ba
  .obtain⟨h1,h2,h3,h4⟩:=zA (i:=i+1) Ba;exact⟨h1,b8 (List.cons j) h2,h3,λk hk=>by
    rcases aE.1 hk with e|e
    .rw[e];exact hj
    .exact h4 k e⟩
theorem rR:∀{ks:List RK} {cs:List TC} {l:List RV} {it:List It} {oc mc:List Nat} {os:List RV} {b:List It},wP s ks l=some (it,oc,mc)->VE s cs os (it++b)->∀k∈mc,(aa s.aZ k).isSome=true
 |[],_,[],_,_,_,_,_,e,_,k,hk=>by cases e;cases hk
 |[],_,_::_,_,_,_,_,_,e,_,_,_=>by cases e
 |.d::_,_,[],_,_,_,_,_,e,_,_,_=>by cases e
 |.o _::_,_,[],_,_,_,_,_,e,_,_,_=>by cases e
 |.m::_,_,[],_,_,_,_,_,e,_,_,_=>by cases e
 |k::ks,cs,v::vs,it,oc,mc,os,b,e,ho,z,hz=>by
  rcases Ab e with⟨bb,l,q,rfl,hc,Ba,hm,rfl⟩|⟨e,j,ow,q,Xa,rfl,rfl,hw,he,Ba,rfl,rfl⟩|⟨e,q,rfl,rfl,Ba,rfl⟩|⟨j,q,Xl,rfl,rfl,hj,Ba,rfl,rfl⟩
  all_goals obtain⟨c,dG,o,EK,x,rfl,rfl,hx,rfl,xF⟩:=ox ho
  .exact rR Ba xF z hz
  .exact rR Ba xF z hz
  .exact rR Ba xF z hz
  .rcases aE.1 hz with e|e
   .obtain⟨hp,_⟩:=lz hx;rw[cd,ak]at hp;rw[e];exact hp.1
   .exact rR Ba xF z e
theorem EP:∀{b:List It} {cs:List TC} {os:List RV},VE s cs os b->(∀x∈b,x.1=none)->∀x∈b,x.2.all (plainV s)=true
 |[],_,_,_,_,_,hx=>by cases hx
 |(bb,l)::b,cs,os,ho,hn,x,hx=>by
  obtain⟨c,dG,o,EK,y,rfl,rfl,hy,rfl,xF⟩:=ox ho;rcases aE.1 hx with e|e
  .subst e;have:bb=none:=hn _ aI;subst this;exact(lz hy).1
  .exact EP xF (λx hx=>hn x (aw _ hx)) x e
theorem Ic:∀{a b:List It} {cs:List TC} {os:List RV},VE s cs os (a++b)->∃dG EK,VE s dG EK b
 |[],_,cs,os,h=>⟨cs,os,h⟩
 |_::a,b,cs,os,h=>by obtain⟨c,dG,o,EK,y,rfl,rfl,hy,rfl,xF⟩:=ox h;exact Ic xF
theorem mB:∀{l:List Nat},nodup l=true->l.Nodup
 |[],_=>List.nodup_nil
 |x::l,h=>by have h:(!l.any (Nat.beq x)&&nodup l)=true:=h;rw[ak]at h;exact gS.2 ⟨bl.1 (by simpa using h.1),mB h.2⟩
theorem Dm:∀{ids:List Nat} {b:List It},mU s ids=some b->b.length=ids.length/\∀x∈b,x.1=none
 |[],b,e=>by cases e;exact⟨rfl,λ_ h=>by cases h⟩
 |id::ids,b,e=>by
  unfold mU at e;split at e
  .rename_i cs q h1 h2;cases e;obtain⟨g1,g2⟩:=Dm h2;exact⟨b8 (·+1) g1,λx hx=>by
    rcases aE.1 hx with e|e
    .rw[e]
    .exact g2 x e⟩
  .cases e
theorem wm{l:List (Nat×Nat)}(h:(l.map (·.1)).Nodup){k v v':Nat}(h1:(k,v)∈l)(h2:(k,v')∈l):v=v':=by
 induction l with
 |nil=>cases h1
 |cons y l ih =>
  rw[ba,gS]at h;rcases aE.1 h1 with e1|e1<;>rcases aE.1 h2 with e2|e2
  .rw[←e2]at e1;cases e1;rfl
  .subst e1;exact absurd (aq.2 ⟨_,e2,rfl⟩) h.1
  .subst e2;exact absurd (aq.2 ⟨_,e1,rfl⟩) h.1
  .exact ih h.2 e1 e2
end
end
noncomputable section
section
variable{P:Program}{T:Tb}{la:Nat->Option LA}{w:World}{χ χ1 χ2:Nat->Nat}{E:En}{s:TS}{X:Cx}{sy:Sy}{a:Act}{H:Hd}
theorem Nb(h:bX X s E sy a w χ)(m:M0 w χ w χ1)(m2:M0 w χ1 w χ2){bt:List Nat}:∀{ms:List Nat} {b:List It} {cs:List TC} {os:List RV},mU s (ms.map (λq=>901+q))=some b->VE s cs os b->(∀q∈ms,E.ρ (901+q)=H.b q/\χ2 (H.b q)=H.c q/\∀t l,aa s.boxes (901+q)=some (t,l)->t=bt.getD q 0) ->
  (∀k∈b.flatMap (λx=>ownsV x.2),∀ow,aa s.own k=some ow->RS (bw ow.c) w χ1 (E.σ k) ow.l (E.κ k))->(∀x∈ms.zip b,∀j k,x.2.2[j]?=some (.m k)->∀mp,aa s.aZ k=some mp->OM kI (bw mp.c) (mR mp.c) w χ2 (H.o (64*x.1+j)) (E.μ k) mp.l)->V9 w χ2 H bt ms os
 |[],b,cs,os,hc,ho,_,_,_=>by cases hc;cases cs<;>cases os<;>first|exact ho.elim|trivial
 |q::ms,b,cs,os,hc,ho,hq,hz,hm=>by
  rw[ba]at hc;unfold mU at hc;split at hc
  .rename_i l b' h1 h2;cases hc;obtain⟨c,dG,o,EK,x,rfl,rfl,hx,rfl,xF⟩:=ox ho;refine⟨?_,Nb h m m2 h2 xF (λq zV=>hq q (aw _ zV)) (λk hk=>hz k (aG _ hk)) λx hx=>hm x (aw _ hx)⟩;obtain⟨q1,q2,q3⟩:=hq q aI;unfold bx at h1;split at h1
   .rename_i t l' hl;cases h1;obtain⟨ss,k1,k2⟩:=h.boxes _ _ _ hl;obtain⟨k3,_,k5⟩:=h.st.boxes _ _ k1;rw[q1]at k3 k5;have:=q3 t l hl;obtain⟨hp,hcl⟩:=lz hx;refine⟨ss.map (aP E.ρ),λj=>match l[j]? with|some (.m k)=>E.μ k|_=>0,⟨q2,by rw[←this];exact k5⟩,?_⟩;rw[xP];refine Va m m2 hp (mV c hcl) k2 (λk hk=>hz k (aN _ hk)) λj k e=>⟨?_,?_⟩
    .rw[bh,e]
    .rw[bh];exact hm (q,(none,l)) aI j k e
   .cases h1
  .cases hc
def va(H:Hd)(S:Spec)(h:HL S.ar)(l:List RV)(b:List It):List (Nat×Nat):=(heldP S.ms S.ps S.ar h 0).map (λk=>(k,H.o (k-500000)))++((S.ms.zip b).flatMap (λx=>qP (λi=>H.o (64*x.1+i)) 0 x.2.2)++(Gh S.rk l 0).map (λy=>(y.1,H.r y.2)))
def xc(E:En)(H:Hd)(S:Spec)(h:HL S.ar)(l:List RV)(b:List It):List (Nat×Nat):=(List.range (kj S.ps)).map (λq=>(901+q,H.c q))++((va H S h l b).map (λy=>(E.m y.1,y.2))++(B8 S.rk l 0).map (λy=>(E.c y.1,H.r y.2)))
theorem Jb{ms:List Nat}:∀{cs:List TC} {h:HL cs} {q k:Nat},k∈heldB ms cs h q->500000<=k
 |[],_,_,_,hk=>by cases hk
 |c::cs,h,q,k,hk=>by
  rcases aV.1 hk with hk|hk
  .cases hq:ms.any (Nat.beq q)with
   |true=>rw[hq]at hk;cases hk
   |false =>
    rw[hq]at hk;have hk:k∈(opN (λi=>mapN (64*q+i)) 0 (kd c h.1)).map (·.1):=hk;have key:∀{l:List TV} {i:Nat},k∈(opN (λi=>mapN (64*q+i)) i l).map (·.1)->500000<=k:=by
     intro l
     induction l with
     |nil=>intro i hy;cases hy
     |cons x l ih =>
      intro i hy;cases x with
      |md c z =>
       rcases aE.1 (show k∈mapN (64*q+i)::(opN (λi=>mapN (64*q+i)) (i+1) l).map (·.1)from hy)with e|e
       .rw[e];unfold mapN;omega
       .exact ih e
      |_=>exact ih hy
    exact key hk
  .exact Jb hk
theorem vt{ms:List Nat}:∀{ps:List PK} {cs:List TC} {h:HL cs} {i k:Nat},k∈heldP ms ps cs h i->500000<=k
 |[],cs,h,i,k,hk=>Jb hk
 |.d::ps,c::cs,h,i,k,hk=>by
  rcases aV.1 hk with hk|hk
  .cases c with
   |m c'=>rw[aY.1 hk];unfold mapN;omega
   |_=>cases hk
  .exact vt (ps:=ps) hk
 |.d::_,[],_,_,_,hk=>by cases hk
 |.z::ps,cs,h,i,k,hk=>vt (ps:=ps) hk
 |.p::ps,cs,h,i,k,hk=>vt (ps:=ps) hk
 |.f _ _::ps,cs,h,i,k,hk=>vt (ps:=ps) hk
theorem Hw{f:List TV->List Nat}:∀{ms:List Nat} {b:List It} {g:Nat×It->List Nat},b.length=ms.length->(∀x,g x=f x.2.2)->(ms.zip b).flatMap g=b.flatMap (λx=>f x.2)
 |[],[],_,_,_=>rfl
 |[],_::_,_,h,_=>by cases h
 |_::_,[],_,h,_=>by cases h
 |q::ms,x::b,g,h,hg=>by rw[List.zip_cons_cons,jI,jI,hg,Hw (by simpa using h) hg]
theorem Td{S:Spec}{h:HL S.ar}{l:List RV}{b:List It}{it:List It}{oc mc:List Nat}(hf:wP s S.rk l=some (it,oc,mc))(hl:b.length=S.ms.length)(hn:nodup (mc++b.flatMap (λx=>mapsV x.2))=true)(hm:(S.ms.zip b).all (λx=>modM x.1 0 x.2.2)=true):∀k v v',(k,v)∈va H S h l b->(k,v')∈va H S h l b->v=v':=by
 obtain⟨r1,r2,r3,r4⟩:=zA (i:=0) hf;have ZN:=mB hn;have hW:((Gh S.rk l 0).map (λy=>(y.1,H.r y.2))++(S.ms.zip b).flatMap (λx=>qP (λi=>H.o (64*x.1+i)) 0 x.2.2)).map (·.1)=mc++b.flatMap (λx=>mapsV x.2):=by rw[gp,kV,List.map_flatMap,Hw (f:=mapsV) hl (λx=>qO)];exact b8 (·++_) r2
 have hWf:=λk v v'=>wm (k:=k) (v:=v) (v':=v') (by rw[hW];exact ZN);have wr:∀k v,(k,v)∈(S.ms.zip b).flatMap (λx=>qP (λi=>H.o (64*x.1+i)) 0 x.2.2)->k<500000∨v=H.o (k-500000):=λk v e=>by obtain⟨x,hx,hy⟩:=cf.1 e;exact zP (aO.1 hm x hx) hy
 have hd:∀k v,(k,v)∈(heldP S.ms S.ps S.ar h 0).map (λk=>(k,H.o (k-500000)))->500000<=k/\v=H.o (k-500000):=λk v e=>by obtain⟨k',Lw,e⟩:=aq.1 e;cases e;exact⟨vt Lw,rfl⟩
 have rs:∀k v,(k,v)∈(Gh S.rk l 0).map (λy=>(y.1,H.r y.2))->k<500000:=λk v e=>by obtain⟨y,hy,e⟩:=aq.1 e;cases e;exact r4 _ (r2▸aq.2 ⟨y,hy,rfl⟩)
 have sw:∀{k v},(k,v)∈(S.ms.zip b).flatMap (λx=>qP (λi=>H.o (64*x.1+i)) 0 x.2.2)++(Gh S.rk l 0).map (λy=>(y.1,H.r y.2))->(k,v)∈(Gh S.rk l 0).map (λy=>(y.1,H.r y.2))++(S.ms.zip b).flatMap (λx=>qP (λi=>H.o (64*x.1+i)) 0 x.2.2):=λe=>by
  rcases aV.1 e with e|e
  .exact aG _ e
  .exact aN _ e
 intro k v v' e e';rcases aV.1 e with e|e<;>rcases aV.1 e' with e'|e'
 .rw[(hd k v e).2,(hd k v' e').2]
 .obtain⟨g1,g2⟩:=hd k v e;rcases aV.1 e' with e'|e'
  .rcases wr k v' e' with g|g
   .omega
   .rw[g2,g]
  .have:=rs k v' e';omega
 .obtain⟨g1,g2⟩:=hd k v' e';rcases aV.1 e with e|e
  .rcases wr k v e with g|g
   .omega
   .rw[g2,g]
  .have:=rs k v e;omega
 .exact hWf k v v' (sw e) (sw e')
theorem U4(hc:QD E s){S:Spec}{h:HL S.ar}{l:List RV}{b:List It}(hb:kj S.ps<=90)(hN:∀k v v',(k,v)∈va H S h l b->(k,v')∈va H S h l b->v=v')(hL:∀y∈va H S h l b,(aa s.aZ y.1).isSome=true)(hO:((B8 S.rk l 0).map (·.1)).Nodup)(hOL:∀y∈B8 S.rk l 0,(aa s.own y.1).isSome=true):(∀k v v',(k,v)∈xc E H S h l b->(k,v')∈xc E H S h l b->v=v')/\∀y∈xc E H S h l b,901<=y.1/\y.1≠1000:=by
 have gA:∀k v,(k,v)∈(List.range (kj S.ps)).map (λq=>(901+q,H.c q))->901<=k/\k<1000/\v=H.c (k-901):=λk v e=>by obtain⟨q,hq,e⟩:=aq.1 e;have:=bM.1 hq;cases e;exact⟨by omega,by omega,by rw[pI]⟩
 have gM:∀k v,(k,v)∈(va H S h l b).map (λy=>(E.m y.1,y.2))->∃j x,(j,v)∈va H S h l b/\k=E.m j/\aa s.aZ j=some x/\1001<=k:=λk v e=>by obtain⟨y,hy,e⟩:=aq.1 e;obtain⟨x,hx⟩:=bR.1 (hL y hy);cases e;exact⟨y.1,x,hy,rfl,hx,hc.m _ _ hx⟩
 have gO:∀k v,(k,v)∈(B8 S.rk l 0).map (λy=>(E.c y.1,H.r y.2))->∃y x,y∈B8 S.rk l 0/\v=H.r y.2/\k=E.c y.1/\aa s.own y.1=some x/\1001<=k:=λk v e=>by obtain⟨y,hy,e⟩:=aq.1 e;obtain⟨x,hx⟩:=bR.1 (hOL y hy);cases e;exact⟨y,x,hy,rfl,rfl,hx,hc.o _ _ hx⟩
 refine⟨λk v v' e e'=>?_,λy hy=>?_⟩
 .rcases aV.1 e with e|e<;>rcases aV.1 e' with e'|e'
  .rw[(gA k v e).2.2,(gA k v' e').2.2]
  .obtain⟨_,g,_⟩:=gA k v e;rcases aV.1 e' with e'|e'
   .obtain⟨_,_,_,_,_,g'⟩:=gM k v' e';omega
   .obtain⟨_,_,_,_,_,_,g'⟩:=gO k v' e';omega
  .obtain⟨_,g,_⟩:=gA k v' e';rcases aV.1 e with e|e
   .obtain⟨_,_,_,_,_,g'⟩:=gM k v e;omega
   .obtain⟨_,_,_,_,_,_,g'⟩:=gO k v e;omega
  .rcases aV.1 e with e|e<;>rcases aV.1 e' with e'|e'
   .obtain⟨j,x,h1,h2,h3,_⟩:=gM k v e;obtain⟨j',x',NC,V6,h3',_⟩:=gM k v' e';have:=hc.mm j x j' x' h3 h3' (h2.symm.trans V6);subst this;exact hN _ _ _ h1 NC
   .obtain⟨j,x,h1,h2,h3,_⟩:=gM k v e;obtain⟨y',x',NC,_,V6,h3',_⟩:=gO k v' e';exact absurd (V6.symm.trans h2) (hc.om _ _ _ _ h3' h3)
   .obtain⟨j,x,h1,h2,h3,_⟩:=gM k v' e';obtain⟨y',x',NC,_,V6,h3',_⟩:=gO k v e;exact absurd (V6.symm.trans h2) (hc.om _ _ _ _ h3' h3)
   .obtain⟨y,x,h1,h2,h3,h4,_⟩:=gO k v e;obtain⟨y',x',NC,V6,h3',h4',_⟩:=gO k v' e';have:=hc.oo _ x _ x' h4 h4' (h3.symm.trans h3');rw[h2,V6];exact b8 H.r (wm hO (k:=y.1) (show(y.1,y.2)∈_ from h1) (show(y.1,y'.2)∈_ from this▸NC))
 .rcases aV.1 hy with e|e
  .obtain⟨g1,g2,_⟩:=gA y.1 y.2 e;exact⟨g1,by omega⟩
  .rcases aV.1 e with e|e
   .obtain⟨_,_,_,_,_,g⟩:=gM y.1 y.2 e;exact⟨by omega,by omega⟩
   .obtain⟨_,_,_,_,_,_,g⟩:=gO y.1 y.2 e;exact⟨by omega,by omega⟩
end
end
end Go.Te
