/- Lemmas. Conditions: their own. -/
import Derived.Test.YtmgahplojkmcaaaGreatPu
set_option linter.all false
namespace Go.Sv
open Go
section
section
variable{P:Program}
section ops
variable{bj:oQ}{n:Nat}{sy:Sy}{ρ:Nat->Nat}{a:Act}{w:World}{χ:Nat->Nat}{all:List Oper}{Q:Exit->Act->World->Prop}{K:Act->World->Prop}
variable{d ty:Nat}{pos:String}{af:Array Edge}{g:Option (Nat×Bool)}
def jz(bks:List Nat)(sy:Sy):List (Nat×(Nat×List SV)):=sy.boxes.filter (λq=>bks.any (Nat.beq q.1))
theorem oG.of(h:St n sy ρ a w χ){bks:List Nat}{bxs:List (Nat×(Nat×List SV))}(hb:jz bks sy=bxs){w0:World}{χ0:Nat->Nat}(hD:M0 w0 χ0 w χ):oG w0 χ0 bxs ρ w:=by
 subst hb;exact⟨λi q hq=>(h.boxes i q (qQ hq)).2.2,λb hb h0=>(hD.keep b hb h0).1⟩
theorem M0.ev{w0:World}{χ0:Nat->Nat}{p:Nat->Bool}{w':World}{χ':Nat->Nat}(h:M0 w0 χ0 w χ)(e:Ev p w χ w' χ')(hp:p 0=false):M0 w0 χ0 w' χ' :=
 ⟨bP h.size e.size,λb hb h0=>by
  obtain⟨k1,k2⟩:=h.keep b hb h0;obtain⟨l1,l2⟩:=(e.m0 hp).keep b (dH hb h.size) k2;exact⟨l1.trans k1,l2⟩⟩
theorem drawn{id:Nat}{l:List Oper}{K ret:Act->World->Prop}{exs:List (Nat×(Act->World->Prop))}(bks:List Nat)(hm:P.follows .mixedOrders=true)(h:St n sy ρ a w χ)
  (k:∀w1,St n sy ρ a w1 χ->Ev eN w χ w1 χ->M0 w1 χ w1 χ->oG w1 χ (jz bks sy) ρ w1->Dr P l (qs K ret exs) (oG w1 χ (jz bks sy) ρ) (Array.replicate l.toArray.size false) l.toArray.size a w1) :
  (Code.region id l.toArray true).wp P (qs K ret exs) a w:=by
 have h1:St n sy ρ a { w with drawn:=w.drawn+1 } χ:=⟨h.size,h.defers,h.al,h.boxes⟩
 exact wp_region_held hm (k { w with drawn:=w.drawn+1 } h1 ⟨rfl,rfl,rfl,aK _,λ_ _ _=>⟨rfl,rfl⟩⟩ (M0.refl _ _) (oG.of h1 rfl (M0.refl _ _)))
theorem take{nrm ret:Act->World->Prop}{exs:List (Nat×(Act->World->Prop))}{w0:World}{χ0:Nat->Nat}{bxs:List (Nat×(Nat×List SV))}{listed jY:Array Bool}{m fuel:Nat}{sy':Sy}(TT:dD P bj)(is bks ks:List Nat)(h:St n sy ρ a w χ)
  (Bv:Region.noSelect all.toArray=true) (hn:Nat.ble n 999=true) (hb:jz bks sy=bxs) (H:oG w0 χ0 bxs ρ w) (e:(match qC bj n all bks is listed sy with|some (l,s)=>some (l,(⟨(keep ks [] s).al,sy.boxes⟩:Sy))|none=>none)=some (jY,sy')) (hf:m=fuel+is.length)
  (k:∀a',St n sy' ρ a' w χ->Dr P all (qs nrm ret exs) (oG w0 χ0 bxs ρ) jY fuel a' w):Dr P all (qs nrm ret exs) (oG w0 χ0 bxs ρ) listed m a w:=by
 subst hb;subst hf;cases hs:qC bj n all bks is listed sy with
 |none=>rw[hs]at e;cases e
 |some q=>obtain⟨l,s⟩:=q;rw[hs]at e;simp only[Option.some.injEq,Prod.mk.injEq]at e;obtain⟨rfl,rfl⟩:=e;refine BN TT Bv (aB hn) is hs h H (λa' h' XZ=>?_);refine k a' ?_;refine h'.sub (λt sv hq=>nq hq) (λid q hq=>by rw[XZ];exact hq)
theorem only{nrm ret:Act->World->Prop}{exs:List (Nat×(Act->World->Prop))}{S:World->Prop}{listed:Array Bool}{fuel:Nat}{o:Oper}(i:Nat)(hr:Region.ready .any all.toArray listed=[i])(ho:all[i]?=some o)
  (k:pJ P all.toArray (qs nrm ret exs) o (λa' w'=>S w'/\Dr P all (qs nrm ret exs) S (listed.setIfInBounds i true) fuel a' w') a w):Dr P all (qs nrm ret exs) S listed (fuel+1) a w:=by
 unfold Dr;refine wpAnyH_all hr (by simp) ?_;intro j hj;simp at hj;subst hj;unfold wpOp;rw[mP,ho];exact k
theorem Fp{nrm ret:Act->World->Prop}{exs:List (Nat×(Act->World->Prop))}{S:World->Prop}{listed:Array Bool}{fuel:Nat}(hr:Region.ready .any all.toArray listed=[])(k:nrm a w):Dr P all (qs nrm ret exs) S listed fuel a w :=
 wpAnyH_done hr k fuel
theorem Y8{nrm ret:Act->World->Prop}{exs:List (Nat×(Act->World->Prop))}{S:World->Prop}{listed:Array Bool}{fuel d:Nat}{op:Op}{v:Value}(i:Nat)(h:St n sy ρ a w χ)(Bv:Region.noSelect all.toArray=true)(hd:Nat.blt d n=true)
  (hc:(Region.free .any all.toArray listed i&&(Region.ready .any all.toArray listed).contains i)=true) (ho:all[i]?=some ⟨some d,op,ty,pos,af,g⟩) (hw:bK all sy g=true) (H:S w) (nz:∀w1,S w1->(execOp a.eval ⟨some d,op,ty,pos,af,g⟩).run P w1=.ok (.value v) w1)
  (k:∀a',St n ⟨(d,V v)::sy.al,sy.boxes⟩ ρ a' w χ->Dr P all (qs nrm ret exs) S (listed.setIfInBounds i true) fuel a' w):Dr P all (qs nrm ret exs) S listed (fuel+1) a w:=by
 rw[ak]at hc;unfold Dr;exact wpAnyH_take (v:=v) (oi:=⟨some d,op,ty,pos,af,g⟩) (by simp[ho]) Bv hc.1 hc.2 (λc a w hq=>hq.elim) (.inl ⟨de h (o:=⟨some d,op,ty,pos,af,g⟩) hw,nz⟩) H (k _ (h.put (sv:=V v) (aB hd)))
section dlook
variable{nrm ret:Act->World->Prop}{exs:List (Nat×(Act->World->Prop))}{S:World->Prop}{listed:Array Bool}{fuel:Nat}
end dlook
theorem aaD(TT:dD P bj){t:Nat}{x y:Operand}{sy':Sy}(h:St n sy ρ a w χ)(hw:bK all sy g=true)(hn:Nat.ble n 999=true)(e:uK bj true sy ⟨none,.store t x y,ty,pos,af,g⟩=some sy')
  (k:∀a' w' χ',St n sy' ρ a' w' χ'->Ev jo w χ w' χ'->K a' w'):pJ P all.toArray Q ⟨none,.store t x y,ty,pos,af,g⟩ K a w:=by
 refine iG (de h (o:=⟨none,.store t x y,ty,pos,af,g⟩) hw) ?_;unfold uK at e;simp only[dV,cG]at e;split at e
 .rename_i id off v Re hx hy ht;split at e
  .rename_i bt cs hb;obtain⟨hc,rfl⟩:=dw e;simp only[ak,aO]at hc;obtain⟨⟨c1,c2⟩,c3⟩:=hc;have c1:=aD c1;have c2:=aB c2;obtain⟨i,dd,zv,hi,z6,hz,hs,lZ,lx,iA,_⟩:=a8 (TT _ _ ht);obtain⟨s1,s2⟩:=h.wr (off:=off) (new:=cellsOf v) hb;obtain⟨_,_,gk⟩:=h.boxes id _ hb;have hcl:=pg (ρ:=ρ) v;have jh:(aP ρ v).cells.size=i.size:=by rw[←cm,hcl,da,hs,c1]
   have GV:∀u∈(cellsOf v).map (aP ρ),u.oneCell'=true:=by
    intro u hu;obtain⟨c,hc,rfl⟩:=aq.1 hu;have:=c3 c hc
    match c,this with
    |.s (.v (.bool _)),_ | .s (.v (.int _ _)),_ | .s (.v (.float _ _)),_ | .s (.v (.complex _ _ _)),_ | .s (.v (.string _)),_ | .s (.v (.pointer _)),_ | .s (.v (.slice _ _ _)),_ | .s (.v (.map _)),_ | .s (.v (.chan _)),_
    |.s (.v (.func _ _ _)),_ | .s (.v .nilFunc),_ | .s (.v (.iface _ _)),_ | .s (.v .nilIface),_=>rfl
    |.s (.p _ _),_=>rfl
    |.f _ _ _,_=>rfl
   have im:=run_storeCells_at P (ρ id) off bt ((cellsOf v).map (aP ρ)) 0 _ w gk (by simp;omega) GV;simp only[c9,da]at im;have hr:(execOp a.eval ⟨none,.store t x y,ty,pos,af,g⟩).run P w=.ok .skip (w.setRow (ρ id) ((cs.map (aP ρ)).take off++(cellsOf v).map (aP ρ)++(cs.map (aP ρ)).drop (off+(cellsOf v).length)).toArray):=by
    have Fe:(storeVar t ⟨ρ id,off,none⟩ (aP ρ v)).run P w=.ok () (w.setRow (ρ id) ((cs.map (aP ρ)).take off++(cellsOf v).map (aP ρ)++(cs.map (aP ρ)).drop (off+(cellsOf v).length)).toArray):=by simp only[storeVar,bU,run_sizeOf hi,bW,jh,ne_eq,not_true_eq_false,gI,hcl];exact im
    have Ub:a.eval x=.pointer (some ⟨ρ id,off,none⟩):=h.cu hx;simp only[execOp,Ub,h.cu hy,Instr.storeAt,Instr.sureAddr,bU,cM,bW,Fe]
   unfold Oper.wp;rw[hr];simp only[Oper.upon];exact k _ _ _ s1 s2
  .cases e
 .cases e
theorem amU{A B:Prop}(a:A)(k:A->B):A/\B:=⟨a,k a⟩
def Cell(w:World)(χ:Nat->Nat)(b dt t:Nat)(vals:List Value):Prop:=χ b=dt/\w.heap[b]?=some (.cells vals.toArray t (0,0))
theorem Cell.map{w:World}{χ:Nat->Nat}{b i j t:Nat}{vals:List Value}{f:Nat->Nat}(h:Cell w χ b i t vals)(hf:f i=j):Cell w (λb=>f (χ b)) b j t vals :=
 ⟨by show f (χ b)=j;rw[h.1,hf],h.2⟩
theorem bg{α:Type}{f:Nat->Bool}:∀{l:List (Nat×α)} {id:Nat} {q:α},aa (l.filter (λq=>f q.1)) id=some q->f id=true/\aa l id=some q
 |[],_,_,h=>by cases h
 |(k,v)::l,id,q,h=>by
  rw[List.filter_cons]at h;split at h
  .rename_i hk;rcases aA h with⟨rfl,rfl⟩|⟨hne,h'⟩
   .exact⟨hk,by simp[aa]⟩
   .obtain⟨h1,h2⟩:=bg h';refine⟨h1,?_⟩;simp only[aa];cases hb:Nat.beq k id with
    |true=>exact absurd (aD hb) hne
    |false=>exact h2
  .rename_i hk;obtain⟨h1,h2⟩:=bg h;refine⟨h1,?_⟩;simp only[aa];cases hb:Nat.beq k id with
   |true=>have:=aD hb;subst this;simp[h1]at hk
   |false=>exact h2
theorem St.evp{n:Nat}{sy:Sy}{ρ:Nat->Nat}{a:Act}{w:World}{χ:Nat->Nat}{p:Nat->Bool}(h:St n sy ρ a w χ){w':World}{χ':Nat->Nat}(e:Ev p w χ w' χ'):St n ⟨sy.al,sy.boxes.filter (λq=>!p q.1)⟩ ρ a w' χ' :=
 ⟨h.size,h.defers,h.al,λid q hq=>by
  obtain⟨hp,zV⟩:=bg (f:=λc=>!p c) hq;obtain⟨h1,h2,h3⟩:=h.boxes id q zV;have hp':p id=false:=by simpa using hp
  obtain⟨k1,k2⟩:=e.keep _ (gF h3) (by rw[h1];exact hp');exact⟨k2.trans h1,h2,k1.trans h3⟩⟩
def mf:List (Nat×Nat)->Nat->Nat
 |[],c=>bif Nat.beq c 0 then 0 else 1000
 |(i,j)::l,c=>bif Nat.beq c i then j else mf l c
def pR(l:List Nat)(c:Nat):Bool:=l.any (Nat.beq c)
structure Ho (f0:Nat->Nat) (w0:World) (χc:Nat->Nat) (w:World) (χ:Nat->Nat):Prop where
 os:w.os=w0.os
 tape:w.tape=w0.tape
 output:w.output=w0.output
 size:w0.heap.size<=w.heap.size
 keep:∀b,b<w0.heap.size->(f0 (χc b)=0∨f0 (χc b)=1000)->w.heap[b]?=w0.heap[b]?/\χ b=f0 (χc b)
theorem Ho.mv{f0:Nat->Nat}{p:Nat->Bool}{w0 w w':World}{χc χ χ':Nat->Nat}(h:Ho f0 w0 χc w χ)(e:Ev p w χ w' χ')(h0:p 0=false)(h1:p 1000=false):Ho f0 w0 χc w' χ' :=
 ⟨e.os.trans h.os,e.tape.trans h.tape,e.output.trans h.output,bP h.size e.size,λb hb hc=>by
  obtain⟨k1,k2⟩:=h.keep b hb hc;have:p (χ b)=false:=by rw[k2];rcases hc with hc|hc<;>rw[hc]<;>assumption
  obtain⟨l1,l2⟩:=e.keep b (dH hb h.size) this;exact⟨l1.trans k1,l2.trans k2⟩⟩
theorem Ho.start(f0:Nat->Nat)(w:World)(χc:Nat->Nat):Ho f0 w χc w (λb=>f0 (χc b)):=⟨rfl,rfl,rfl,aK _,λ_ _ _=>⟨rfl,rfl⟩⟩
def oV:Nat->List SV->List (Nat×SV)
 |_,[]=>[]
 |i,v::l=>(i,v)::oV (i+1) l
theorem yK:∀(l:List SV)(i t:Nat)(sv:SV),aa (oV i l) t=some sv->i<=t/\l[t-i]?=some sv
 |[],_,_,_,h=>by cases h
 |x::l,i,t,sv,h=>by
  rcases aA h with⟨rfl,rfl⟩|⟨hne,h'⟩
  .exact⟨aK _,by simp⟩
  .obtain⟨h2,h3⟩:=yK l (i+1) t sv h';refine⟨by omega,?_⟩;rw[show t-i=(t-(i+1))+1 by omega];simpa using h3
def uf(l:List (Nat×(Nat×List SV)))(ρ:Nat->Nat)(w:World)(χ:Nat->Nat):Prop :=
 ∀id q,aa l id=some q->jo id=true/\Cell w χ (ρ id) id q.1 (q.2.map (aP ρ))
theorem uf.cons{l:List (Nat×(Nat×List SV))}{ρ:Nat->Nat}{w:World}{χ:Nat->Nat}{id t:Nat}{cs:List SV}(hx:jo id=true)(hc:Cell w χ (ρ id) id t (cs.map (aP ρ)))(h:uf l ρ w χ):uf ((id,(t,cs))::l) ρ w χ:=by
 intro kO q hq;rcases aA hq with⟨rfl,rfl⟩|⟨_,zV⟩
 .exact⟨hx,hc⟩
 .exact h kO q zV
def Pin(l:List (Nat×Nat))(ρ:Nat->Nat):Prop:=∀q∈l,ρ q.1=q.2
theorem UY{P:Program}{f:FuncId}{F:Func}{c:Code}(hf:P.funcs[f]?=some F)(hb:F.body=some c){vals:List Value}{w:World}{χ:Nat->Nat}{post:World->(Nat->Nat)->Value->Prop}{p:Nat->Bool}(f0:Nat->Nat)(ρ0:Nat->Nat){args:List SV}{bxs:List (Nat×(Nat×List SV))}
  (hn:Nat.ble args.length F.ntmps=true) (hv:args.map (aP ρ0)=vals) (hx:uf bxs ρ0 w (λb=>f0 (χ b))) (h00:f0 0=0)
  (k:∀a,St F.ntmps ⟨oV 0 args,bxs⟩ ρ0 a w (λb=>f0 (χ b))->Ho f0 w χ w (λb=>f0 (χ b))->M0 w χ w (λb=>f0 (χ b)) ->
   c.wp P (qs (λa' w'=>bodyPost P F (λe BH=>∃v χ',e=.returned v/\Ev p w χ BH χ'/\post BH χ' v) .ret a' w') (λa' w'=>bodyPost P F (λe BH=>∃v χ',e=.returned v/\Ev p w χ BH χ'/\post BH χ' v) .ret a' w') []) a w) :
  Bf P f vals.toArray p w χ post:=by
 unfold Bf;refine calls_of_wp hf hb ?_;have hle:=aB hn;have hlen:vals.length=args.length:=by rw[←hv];simp
 refine wp_mono (k { tmps:=vals.toArray++Array.replicate (F.ntmps-vals.toArray.size) undef,defers:=[] } ⟨by simp;omega,rfl,?_,λid q h=>⟨(hx id q h).2.1,(hx id q h).1,(hx id q h).2.2⟩⟩ (Ho.start f0 w χ) ⟨aK _,λb _ h=>⟨rfl,by rw[h];exact h00⟩⟩) ?_
 .intro t sv h;obtain⟨_,h3⟩:=yK _ _ _ _ h;have eB:=(dz.1 h3).1;simp only[Nat.sub_zero]at h3 eB;rw[Array.getElem?_append_left (by simp;omega)];rw[←hv];simp[h3]
 .intro e a w q;cases e with
  |normal=>exact q
  |ret=>exact q
  |exit id=>exact absurd q (by simp[qs,aa])
  |_=>exact q.elim
def AtX{α:Type}(T:b9 α)(w:World)(χ:Nat->Nat)(A:Addr)(x:α):Prop :=
 ∃b o cells e fr,A=⟨b,o,none⟩/\w.heap[b]?=some (.cells cells e fr)/\T.R w χ ((cells.toList.drop o).take T.n) x
theorem aby{α:Type}{T:b9 α}(TT:dD P bj){t s:Nat}{A:Addr}{x:α}(h:St n sy ρ a w χ)(hw:bK all sy g=true)(hd:Nat.blt d n=true)(hs:aa sy.al s=some (V (.pointer (some A))))(hA:AtX T w χ A x)(hn:T.n=1)
  (ht:DI bj t false=true) (k:∀v a',T.R w χ [v] x->St n ⟨(d,V v)::sy.al,sy.boxes⟩ ρ a' w χ->K a' w) :
  pJ P all.toArray Q ⟨some d,.load t (.tmp s),ty,pos,af,g⟩ K a w:=by
 obtain⟨b,o,cells,e',fr,rfl,hh,ll⟩:=hA;obtain⟨dd,z6,V2⟩:=BC TT ht;have hlen:=T.len ll;rw[hn]at hlen ll
 match hl:(cells.toList.drop o).take 1,hlen with
 |[v],_ =>
  rw[hl]at ll;have jZ:w.cell? ⟨b,o,none⟩=some v:=by
   have:(cells.toList.drop o)[0]?=some v:=by have:=b8 (λl=>l[0]?) hl;simpa[bQ]using this
   simp only[World.cell?,hh];simpa using this
  refine qD h hw hd (Ev.refl eN w χ) (λ_ _=>rfl) (v:=v) (w':=w) ?_ (λa' h'=>k v a' ll h');have es:a.eval (.tmp s)=.pointer (some ⟨b,o,none⟩):=h.cu (x:=.tmp s) hs;simp[execOp,es,Instr.loadAt,Instr.sureAddr,loadVar,ig z6,V2,jZ]
theorem T7{α:Type}[Inhabited α]{T:b9 α}(TT:dD P bj){t E dt:Nat}{x y:Operand}{ad:Option Addr}{xs:List α}{c:Nat}{k:IntKind}{i:Int}(h:St n sy ρ a w χ)(hw:bK all sy g=true)(hd:Nat.blt d n=true)
  (hx:cu sy x=some (V (.slice ad xs.length c))) (hy:cu sy y=some (V (.int k i))) (hO:OS T E w χ dt ad xs c) (ht:wL bj t E=true) (hs:xj bj E T.n=true) (h0:0<=i) (h1:i<xs.length)
  (kk:∀A a',AtO T E w χ dt ad i.toNat A->AtX T w χ A (gi xs i)->St n ⟨(d,V (.pointer (some A)))::sy.al,sy.boxes⟩ ρ a' w χ->K a' w) :
  pJ P all.toArray Q ⟨some d,.indexAddr t x y,ty,pos,af,g⟩ K a w:=by
 rcases hO.row with⟨rfl,rfl,rfl⟩|⟨b,cells,rfl,hc,hh,hle,hcm,jh,ll⟩
 .simp at h1;omega
 .obtain⟨inf,hi,hm⟩:=pN TT hs;have hr:=qH (P:=P) (w:=w) (c:=c) (k:=k) (ad:=some ⟨b,0,none⟩) (ny TT ht) hi hm rfl h0 h1;rw[bh]at hr;have gk:=hh;obtain⟨fr,hh,_⟩:=hh;refine qD h hw hd (Ev.refl eN w χ) (λ_ _=>rfl) (v:=.pointer (some ⟨b,i.toNat*T.n,none⟩)) (w':=w) ?_ (λa' h'=>kk _ a' ⟨b,cells,rfl,rfl,hc,gk⟩ ⟨b,i.toNat*T.n,cells,E,fr,rfl,hh,?_⟩ h')
  .have ex:a.eval x=.slice (some ⟨b,0,none⟩) xs.length c:=h.cu hx;have ey:a.eval y=.int k i:=h.cu hy;simp[execOp,ex,ey,hr]
  .have:=ll _ _ (qW h0 h1);unfold chunk at this;rwa[bh]at this
def J6(ad:Option Addr)(c l m:Nat):Option Addr:=if c=l then ad else ad.map (·.add (l*m))
theorem FH{α:Type}{T:b9 α}{E dt:Nat}{ad:Option Addr}{xs:List α}{c:Nat}(h:OS T E w χ dt ad xs c):ad=J6 ad c 0 T.n:=by
 unfold J6;split
 .rfl
 .rcases h.row with⟨rfl,rfl,rfl⟩|⟨b,cells,rfl,hc,hh,hle,hcm,jh,ll⟩
  .rfl
  .simp[Addr.add_lit]
theorem Src.take{α:Type}{T:b9 α}{ad:Option Addr}{ys:List α}{c:Nat}{news:List Value}(h:Src T w χ ad ys c news)(m:Nat):Src T w χ ad (ys.take m) c (news.take (m*T.n)):=by
 refine⟨?_,?_,?_,?_,?_⟩
 .rw[bH,bH,h.len];rcases Nat.le_total m ys.length with hm|hm
  .rw[ky hm,ky (cP _ hm)]
  .rw[Nat.min_eq_right hm,Nat.min_eq_right (cP _ hm)]
 .intro e;obtain⟨rfl,rfl⟩:=h.nil e;simp
 .intro A hA j u hu;rw[bQ]at hu;split at hu
  .exact h.cell A hA j u hu
  .cases hu
 .intro u hu;exact h.one u (List.mem_of_mem_take hu)
 .intro i y hy;rw[bQ]at hy;split at hy
  .rename_i hi;have:=h.el i y hy;have h1:=dZ (m:=T.n) hi;rw[Nat.add_mul,jf]at h1;rw[py,List.take_take,ky (by omega)];exact this
  .cases hy
theorem OS.Wq{α:Type}{T:b9 α}{E dt:Nat}{ad:Option Addr}{xs:List α}{c:Nat}(h:OS T E w χ dt ad xs c)(m:Nat):∃news,Src T w χ ad (xs.take m) c news :=
 have⟨news,hs⟩:=h.src
 ⟨_,hs.take m⟩
theorem nG{β:Type}{L S:List β}{p q n:Nat}(hp:p<=L.length)(asN:p+S.length<=L.length):
  (q+n<=p->((L.take p++S++L.drop (p+S.length)).drop q).take n=(L.drop q).take n) /\
  (p<=q->q+n<=p+S.length->((L.take p++S++L.drop (p+S.length)).drop q).take n=(S.drop (q-p)).take n) /\
  (p+S.length<=q->((L.take p++S++L.drop (p+S.length)).drop q).take n=(L.drop q).take n):=by
 have hl:(L.take p).length=p:=by rw[bH];omega
 refine⟨λh=>?_,λh h2=>?_,λh=>?_⟩
 .rw[bV,sN (by omega),lD (by rw[dy];omega),py,List.take_take,ky (by omega)]
 .rw[bV,List.drop_append,dT (by omega),gU,hl,sN (by omega),lD (by rw[dy];omega)]
 .rw[List.drop_append,dT (by rw[aS];omega),gU,aS,hl,kx];congr 2;omega
theorem Yp{α:Type}{T:b9 α}{nrm ret:Act->World->Prop}{exs:List (Nat×(Act->World->Prop))}{S:World->Prop}{listed:Array Bool}{fuel:Nat}(TT:dD P bj)(q:Nat){t E dt:Nat}{x lo:Operand}{ad:Option Addr}{xs:List α}{c:Nat}{k:IntKind}{l:Int}
  (h:St n sy ρ a w χ) (Bv:Region.noSelect all.toArray=true) (hd:Nat.blt d n=true) (hc:(Region.free .any all.toArray listed q&&(Region.ready .any all.toArray listed).contains q)=true) (ho:all[q]?=some ⟨some d,.slice t x (some lo) none none,ty,pos,af,g⟩) (hw:bK all sy g=true) (H:S w)
  (hx:cu sy x=some (V (.slice ad xs.length c))) (uC:cu sy lo=some (V (.int k l))) (hO:OS T E w χ dt ad xs c) (ht:wL bj t E=true) (hs:xj bj E T.n=true) (h0:0<=l) (h1:l<=xs.length)
  (kk:∀a',St n ⟨(d,V (.slice (J6 ad c l.toNat T.n) (xs.length-l.toNat) (c-l.toNat)))::sy.al,sy.boxes⟩ ρ a' w χ->Dr P all (qs nrm ret exs) S (listed.setIfInBounds q true) fuel a' w):Dr P all (qs nrm ret exs) S listed (fuel+1) a w:=by
 obtain⟨inf,lg,hm⟩:=pN TT hs;have hu:=ny TT ht;have ex:a.eval x=.slice ad xs.length c:=h.cu hx;have el:a.eval lo=.int k l:=h.cu uC;refine Y8 q h Bv hd hc ho hw H (v:=.slice (J6 ad c l.toNat T.n) (xs.length-l.toNat) (c-l.toNat)) (λw1 _=>?_) kk;simp[execOp,ex,el,Instr.sliceAt,Instr.slice,aH hu,Instr.sliceBounds,Instr.sliceBound,asIntOf,h0,h1,run_sizeOf lg,hm,J6]
theorem Yq{α:Type}{T:b9 α}{nrm ret:Act->World->Prop}{exs:List (Nat×(Act->World->Prop))}{S:World->Prop}{listed:Array Bool}{fuel:Nat}(TT:dD P bj)(q:Nat){t E dt:Nat}{x hi:Operand}{ad:Option Addr}{xs:List α}{c:Nat}{k:IntKind}{l:Int}
  (h:St n sy ρ a w χ) (Bv:Region.noSelect all.toArray=true) (hd:Nat.blt d n=true) (hc:(Region.free .any all.toArray listed q&&(Region.ready .any all.toArray listed).contains q)=true) (ho:all[q]?=some ⟨some d,.slice t x none (some hi) none,ty,pos,af,g⟩) (hw:bK all sy g=true) (H:S w)
  (hx:cu sy x=some (V (.slice ad xs.length c))) (uC:cu sy hi=some (V (.int k l))) (hO:OS T E w χ dt ad xs c) (ht:wL bj t E=true) (hs:xj bj E T.n=true) (h0:0<=l) (h1:l<=xs.length)
  (kk:∀a',St n ⟨(d,V (.slice ad (xs.take l.toNat).length c))::sy.al,sy.boxes⟩ ρ a' w χ->Dr P all (qs nrm ret exs) S (listed.setIfInBounds q true) fuel a' w):Dr P all (qs nrm ret exs) S listed (fuel+1) a w:=by
 obtain⟨inf,lg,hm⟩:=pN TT hs;have hu:=ny TT ht;have XY:xs.length<=c:=by
  rcases hO.row with⟨rfl,rfl,rfl⟩|⟨b,cells,rfl,hc,hh,hle,hcm,jh,ll⟩
  .simp
  .exact hle
 have ex:a.eval x=.slice ad xs.length c:=h.cu hx;have el:a.eval hi=.int k l:=h.cu uC;have e2:l<=(c:Int):=by omega
 have hlen:(xs.take l.toNat).length=l.toNat:=by simp;omega
 refine Y8 q h Bv hd hc ho hw H (v:=.slice ad (xs.take l.toNat).length c) (λw1 _=>?_) kk;rw[hlen];simp[execOp,ex,el,Instr.sliceAt,Instr.slice,aH hu,Instr.sliceBounds,Instr.sliceBound,asIntOf,h0,e2,run_sizeOf lg,hm];intro hcz;have QJ:=FH hO;unfold J6 at QJ;rw[if_neg hcz]at QJ;simpa using QJ.symm
theorem aaa{α:Type}{T:b9 α}(TT:dD P bj){t t2 E dt l:Nat}{x y:Operand}{ad adx zg:Option Addr}{xs ys:List α}{c cx c2:Nat}{news:List Value}(h:St n sy ρ a w χ)(hw:bK all sy g=true)(hd:Nat.blt d n=true)
  (hx:cu sy x=some (V (.slice adx (xs.length-l) cx))) (amq:adx=J6 ad c l T.n) (hy:cu sy y=some (V (.slice zg ys.length c2))) (hO:OS T E w χ dt ad xs c) (hs:Src T w χ zg ys c2 news) (ht:wL bj t E=true) (he:xj bj E T.n=true) (nE:Nat.ble 1000 dt=true) (hl:l<=xs.length)
  (k:∀a' w',Ev (gK dt) w χ w' χ->OS T E w' χ dt ad (xs.take l++ys.take (xs.length-l)++xs.drop (l+min ys.length (xs.length-l))) c->St n ⟨(d,I (((min ys.length (xs.length-l):Nat)):Int))::sy.al,sy.boxes⟩ ρ a' w' χ->K a' w') :
  pJ P all.toArray Q ⟨some d,.call ⟨.builtin .copy,#[x,y],#[t,t2]⟩,ty,pos,af,g⟩ K a w:=by
 obtain⟨inf,hi,hm⟩:=pN TT he;have hu:=ny TT ht;have DX:dt≠0:=by have:=aB nE;omega
 have ex:a.eval x=.slice adx (xs.length-l) cx:=h.cu hx;have ey:a.eval y=.slice zg ys.length c2:=h.cu hy;have hp:=T.pos;by_cases hz:min ys.length (xs.length-l)=0
 .have e1:xs.take l++ys.take (xs.length-l)++xs.drop (l+min ys.length (xs.length-l))=xs:=by
   rw[hz,c9];have:ys.take (xs.length-l)=[]:=by apply qq;rw[bH,Nat.min_comm];exact hz
   rw[this,fT,lC]
  refine qD h hw hd (Ev.refl (gK dt) w χ) (jC nE) (v:=.int .i64 (((min ys.length (xs.length-l):Nat)):Int)) (w':=w) ?_ (λa' h'=>k a' w (Ev.refl _ w χ) (by rw[e1];exact hO) h');have Ec:Nat.min ys.length (xs.length-l)=0:=hz;rw[hz];cases zg with
  |none =>
   cases adx with
   |none=>simp[execOp,resolve,invoke,builtin,ex,ey,Builtin.copy_,aH hu,Builtin.lenOf,Builtin.firstCells,run_sizeOf hi,goInt,Ec]
   |some A=>simp[execOp,resolve,invoke,builtin,ex,ey,Builtin.copy_,aH hu,Builtin.lenOf,Builtin.firstCells,run_sizeOf hi,goInt,Ec,storeCells]
  |some A2 =>
   cases adx with
   |none=>simp[execOp,resolve,invoke,builtin,ex,ey,Builtin.copy_,aH hu,Builtin.lenOf,Builtin.firstCells,run_sizeOf hi,goInt,Ec,loadCells,loadCellsFrom]
   |some A=>simp[execOp,resolve,invoke,builtin,ex,ey,Builtin.copy_,aH hu,Builtin.lenOf,Builtin.firstCells,run_sizeOf hi,goInt,Ec,storeCells,loadCells,loadCellsFrom]
 .have uA:0<min ys.length (xs.length-l):=Nat.pos_of_ne_zero hz;have hlx:l<xs.length:=by omega
  have hyl:0<ys.length:=by omega
  rcases hO.row with⟨rfl,rfl,rfl⟩|⟨b,cells,rfl,hc,hh,hle,hcm,Ue,ll⟩
  .simp at hlx
  .have im:=hs.take (xs.length-l);have hmy:(ys.take (xs.length-l)).length=min ys.length (xs.length-l):=by rw[bH,Nat.min_comm]
   rw[show min ys.length (xs.length-l)=(ys.take (xs.length-l)).length from hmy.symm]at k uA;generalize hzs:ys.take (xs.length-l)=zs at im hmy uA k ⊢; have ZE:l+zs.length<=xs.length:=by omega
   generalize Bv:news.take ((xs.length-l)*T.n)=ns at im;have hcl:¬c=l:=by omega
   have agQ:adx=some ⟨b,l*T.n,none⟩:=by rw[amq];unfold J6;rw[if_neg hcl];simp[Addr.add_lit]
   have amr:∃A2,zg=some A2:=by
    cases h2:zg with
    |none=>have:=(im.nil h2).1;rw[this]at uA;simp at uA
    |some A2=>exact⟨A2,rfl⟩
   obtain⟨A2,hA2⟩:=amr;have ZQ:=run_loadCells_list (P:=P) w A2 ns (im.cell A2 hA2);rw[im.len]at ZQ;have h1:=cP T.n ZE;have h2:=cP T.n hle;rw[Nat.add_mul]at h1;have hnl:=im.len;have gk:=hh;obtain⟨fr,hh,Ja⟩:=hh;have af9:=dW P b (l*T.n) E fr ns 0 cells w hh Ja (by simp;omega) im.one;simp only[c9]at af9;have ev:Ev (gK dt) w χ (w.setRow b (cells.toList.take (l*T.n)++ns++cells.toList.drop (l*T.n+ns.length)).toArray) χ :=
    ⟨rfl,rfl,rfl,by simp,λb' _ hp=>⟨setRow_other _ _ _ _ (by intro e;rw[e,hc]at hp;simp[gK]at hp),rfl⟩⟩
   have m:=ev.m0 (show gK dt 0=false by cases h:gK dt 0 with|false=>rfl|true=>exact absurd (aD h).symm DX);have al0:Nat.min ys.length (xs.length-l)=zs.length:=hmy.symm;refine qD h hw hd ev (jC nE) (v:=.int .i64 ((zs.length:Nat):Int)) (w':=w.setRow b (cells.toList.take (l*T.n)++ns++cells.toList.drop (l*T.n+ns.length)).toArray) ?_ (λa' h'=>k a' _ ev ⟨?_,.inr ⟨b,_,rfl,hc,gk.set (by simp only[gv,aS,bH,dy,cm];omega),?_,hcm,?_,?_⟩⟩ h')
   .subst agQ hA2;simp only[execOp,resolve,invoke,builtin,ex,ey,Builtin.copy_,aH hu,Builtin.lenOf,Builtin.firstCells,bU,cM,bW,run_sizeOf hi,goInt,al0,hm,ZQ,af9,List.map_toArray,ba,iC,mP,List.getElem?_cons_zero,List.getElem?_cons_succ,mP]
   .have:(xs.take l++zs++xs.drop (l+zs.length)).length=xs.length:=by simp;omega
    rw[this];exact hO.JS
   .have:(xs.take l++zs++xs.drop (l+zs.length)).length=xs.length:=by simp;omega
    rw[this];exact hle
   .simp only[gv,aS,bH,dy,cm];omega
   .intro j z hj;unfold chunk;simp only[bh];obtain⟨s1,s2,s3⟩:=nG (L:=cells.toList) (S:=ns) (p:=l*T.n) (q:=j*T.n) (n:=T.n) (by simp;omega) (by simp;omega);rcases Nat.lt_or_ge j l with hjl|hjl
    .have IW:xs[j]?=some z:=by rw[bV,fU (by simp;omega),bQ,if_pos hjl]at hj;exact hj
     have h3:=dZ (m:=T.n) hjl;rw[Nat.add_mul,jf]at h3;have:=T.mono m (ll j z IW);unfold chunk at this;rw[bh]at this;rw[s1 h3];exact this
    .have h3:=cP T.n hjl;rcases Nat.lt_or_ge j (l+zs.length)with hj2|hj2
     .have IW:zs[j-l]?=some z:=by rw[bV,eS (by simp;omega),fU (by simp;omega)]at hj;rw[bH,ky (by omega)]at hj;exact hj
      have h4:=dZ (m:=T.n) hj2;rw[Nat.add_mul,jf,Nat.add_mul]at h4;rw[s2 h3 (by omega),←Nat.sub_mul];exact T.mono m (im.el _ z IW)
     .have IW:xs[j]?=some z:=by rw[eS (by simp;omega),eJ]at hj;rw[←hj];congr 1;rw[aS,bH,ky (by omega)];omega
      have h4:=cP T.n hj2;rw[Nat.add_mul]at h4;have:=T.mono m (ll j z IW);unfold chunk at this;rw[bh]at this;rw[s3 (by omega)];exact this
structure zj (κ:Type) where
 d:TypeDesc
 v:κ->Value
 inj:∀a b,v a=v b->a=b
 TW:∀a,MapKept.IsKey d (v a)
def kI:zj Int:=⟨.int .i64,λk=>.int .i64 k,(λa b h=>by injection h),λ_=>rfl⟩
def bB{κ α:Type}[DecidableEq κ]:List (κ×α)->κ->Option α
 |[],_=>none
 |(j,x)::m,k=>if j=k then some x else bB m k
def iU{κ α:Type}[DecidableEq κ]:List (κ×α)->κ->α->List (κ×α)
 |[],k,x=>[(k,x)]
 |(j,y)::m,k,x=>if j=k then(k,x)::m else(j,y)::iU m k x
theorem jd{κ α:Type}[DecidableEq κ]:∀(m:List (κ×α)) (k j:κ) (x:α),bB (iU m k x) j=if j=k then some x else bB m j
 |[],k,j,x=>by
  simp only[iU,bB];by_cases h:k=j
  .rw[if_pos h,if_pos h.symm]
  .rw[if_neg h,if_neg (λe=>h e.symm)]
 |(i,y)::m,k,j,x=>by
  simp only[iU];by_cases I8:i=k
  .subst I8;rw[if_pos rfl];simp only[bB];by_cases h:i=j
   .rw[if_pos h,if_pos h.symm]
   .rw[if_neg h,if_neg h,if_neg (λe=>h e.symm)]
  .rw[if_neg I8];simp only[bB];by_cases h:i=j
   .subst h;rw[if_pos rfl,if_pos rfl,if_neg I8]
   .rw[if_neg h,if_neg h,jd]
def VR{α:Type}(T:b9 α)(ag:Bool)(w:World)(χ:Nat->Nat)(v:Value)(x:α):Prop :=
 match ag with
 |true=>∃cs:List Value,v=.agg cs.toArray/\T.R w χ cs x
 |false=>T.R w χ [v] x
theorem VR.mono{α:Type}{T:b9 α}{ag:Bool}{w':World}{χ':Nat->Nat}{v:Value}{x:α}(m:M0 w χ w' χ')(h:VR T ag w χ v x):VR T ag w' χ' v x:=by
 cases ag with
 |true=>obtain⟨cs,e,hr⟩:=h;exact⟨cs,e,T.mono m hr⟩
 |false=>exact T.mono m h
def EL{κ α:Type}(R:zj κ)(T:b9 α)(ag:Bool)(w:World)(χ:Nat->Nat):List MapEntry->List (κ×α)->Prop
 |[],[]=>True
 |e::es,(k,x)::m=>e.key=R.v k/\VR T ag w χ e.val x/\EL R T ag w χ es m
 |_,_=>False
theorem EL.mono{κ α:Type}{R:zj κ}{T:b9 α}{ag:Bool}{w':World}{χ':Nat->Nat}(mm:M0 w χ w' χ'):∀{es:List MapEntry} {m:List (κ×α)},EL R T ag w χ es m->EL R T ag w' χ' es m
 |[],[],h=>h
 |_::_,(_,_)::_,h=>⟨h.1,h.2.1.mono mm,EL.mono mm h.2.2⟩
 |[],_::_,h=>h.elim
 |_::_,[],h=>h.elim
theorem qG{κ:Type}(R:zj κ)(a b:κ)[DecidableEq κ]:Instr.sameNow R.d (R.v a) (R.v b)=some (decide (a=b)):=by
 obtain⟨r,hr,al3⟩:=MapKept.sameNow_of_keys (R.TW a) (R.TW b);rw[hr];congr 1;rw[jQ,al3,aR];exact⟨R.inj a b,λh=>by rw[h]⟩
theorem EL.find{κ α:Type}[DecidableEq κ]{R:zj κ}{T:b9 α}{ag:Bool}(k:κ):∀{es:List MapEntry} {m:List (κ×α)} (i:Nat),EL R T ag w χ es m ->
  (Instr.findNow R.d (R.v k) es i=some none/\bB m k=none/\∀(x:α)(e:MapEntry),e.key=R.v k->VR T ag w χ e.val x->EL R T ag w χ (es++[e]) (iU m k x)) ∨
  ∃j e x,Instr.findNow R.d (R.v k) es i=some (some (i+j,e.val))/\es[j]?=some e/\e.key=R.v k/\bB m k=some x/\VR T ag w χ e.val x /\
   ∀(f:MapEntry->MapEntry)(y:α),(f e).key=R.v k->VR T ag w χ (f e).val y->EL R T ag w χ (es.modify j f) (iU m k y)
 |[],[],i,_=>.inl ⟨rfl,rfl,λx e h1 h2=>⟨h1,h2,trivial⟩⟩
 |e::es,(j,x)::m,i,h=>by
  obtain⟨h1,h2,h3⟩:=h;by_cases hk:k=j
  .subst hk;refine .inr ⟨0,e,x,?_,rfl,h1,by simp[bB],h2,λf y hf1 hf2=>?_⟩
   .simp only[Instr.findNow,h1,qG,decide_true,c9]
   .simp only[iU,if_true,List.modify_zero_cons];exact⟨hf1,hf2,h3⟩
  .have hs:Instr.sameNow R.d (R.v k) e.key=some false:=by rw[h1,qG];simp[hk]
   have PM:¬j=k:=λq=>hk q.symm;rcases EL.find k (i+1) h3 with⟨g1,g2,g3⟩|⟨q,e',x',g1,g2,g3,g4,g5,g6⟩
   .refine .inl ⟨by simp only[Instr.findNow,hs,g1],by simp only[bB,if_neg PM,g2],λy e' a b=>?_⟩;simp only[iU,if_neg PM,jK];exact⟨h1,h2,g3 y e' a b⟩
   .refine .inr ⟨q+1,e',x',?_,by simpa using g2,g3,by simp only[bB,if_neg PM,g4],g5,λf y a b=>?_⟩
    .simp only[Instr.findNow,hs,g1];congr 3;omega
    .simp only[iU,if_neg PM,List.modify_succ_cons];exact⟨h1,h2,g6 f y a b⟩
 |[],_::_,_,h=>h.elim
 |_::_,[],_,h=>h.elim
theorem EL.ne{κ α:Type}[DecidableEq κ]{R:zj κ}{T:b9 α}{ag:Bool}{k:κ}:∀{es:List MapEntry} {m:List (κ×α)},EL R T ag w χ es m->bB m k=none->∀x∈es,x.key≠R.v k
 |[],[],_,_=>by simp
 |e::es,(j,x)::m,h,hn=>by
  unfold bB at hn;by_cases hj:j=k
  .rw[if_pos hj]at hn;cases hn
  .rw[if_neg hj]at hn;intro y hy;rcases aE.1 hy with rfl|hy
   .rw[h.1];exact λe=>hj (R.inj _ _ e)
   .exact EL.ne h.2.2 hn y hy
 |[],_::_,h,_=>h.elim
 |_::_,[],h,_=>h.elim
def OM{κ α:Type}(R:zj κ)(T:b9 α)(ag:Bool)(w:World)(χ:Nat->Nat)(dt r:Nat)(m:List (κ×α)):Prop :=
 χ r=dt/\∃es clock,w.heap[r]?=some (.map es clock)/\MapKept.Stamped es clock/\EL R T ag w χ es.toList m
theorem OM.mv{κ α:Type}{R:zj κ}{T:b9 α}{ag:Bool}{w w':World}{χ χ':Nat->Nat}{dt r:Nat}{m:List (κ×α)}{p:Nat->Bool}(h:OM R T ag w χ dt r m)(e:Ev p w χ w' χ')(hp:p dt=false)(h0:p 0=false):OM R T ag w' χ' dt r m:=by
 obtain⟨h1,es,clock,h2,im,h3⟩:=h;obtain⟨k1,k2⟩:=e.keep r (gF h2) (by rw[h1];exact hp);exact⟨k2.trans h1,es,clock,k1.trans h2,im,h3.mono (e.m0 h0)⟩
theorem afe{κ α:Type}(R:zj κ)(T:b9 α)(ag:Bool)(dt:Nat){t:Nat}(h:St n sy ρ a w χ)(hw:bK all sy g=true)(hd:Nat.blt d n=true)
  (k:∀r a' w' χ',Ev eN w χ w' χ'->OM R T ag w' χ' dt r ([]:List (κ×α))->St n ⟨(d,V (.map (some r)))::sy.al,sy.boxes⟩ ρ a' w' χ'->K a' w') :
  pJ P all.toArray Q ⟨some d,.makeMap t none,ty,pos,af,g⟩ K a w:=by
 have ev:=Bz w χ (.map #[] 0) dt;refine qD h hw hd ev (λ_ _=>rfl) (v:=.map (some w.heap.size)) (w':=w.alloc (.map #[] 0)) ?_ (λa' h'=>k _ a' _ _ ev ⟨by simp,#[],0,heap_alloc_new w _,MapKept.stamped_empty 0,trivial⟩ h');simp[execOp,Instr.makeMap,Result.andThen]
theorem akM{κ α:Type}[DecidableEq κ](R:zj κ)(T:b9 α)(ag:Bool){t kt et dt r:Nat}{x y z:Operand}{m:List (κ×α)}{v:SV}{u:α}(q:κ)(h:St n sy ρ a w χ)(hw:bK all sy g=true)
  (hx:cu sy x=some (V (.map (some r)))) (hy:cu sy y=some (V (R.v q))) (hv:cu sy z=some v) (hm:P.underlying t=some (.map kt et)) (hk:P.underlying kt=some R.d) (nE:Nat.ble 1000 dt=true) (hO:OM R T ag w χ dt r m) (hR:VR T ag w χ (aP ρ v) u)
  (k:∀a' w',Ev (gK dt) w χ w' χ->OM R T ag w' χ dt r (iU m q u)->St n sy ρ a' w' χ->K a' w') :
  pJ P all.toArray Q ⟨none,.mapUpdate t x y z,ty,pos,af,g⟩ K a w:=by
 obtain⟨h1,es,clock,h2,im,h3⟩:=hO;have ex:a.eval x=.map (some r):=h.cu hx;have ey:a.eval y=R.v q:=h.cu hy;have ez:a.eval z=aP ρ v:=h.cu hv;have DX:dt≠0:=by have:=aB nE;omega
 refine iG (de h (o:=⟨none,.mapUpdate t x y z,ty,pos,af,g⟩) hw) ?_;have fin:∀(BA:Array MapEntry)(vH:Nat),MapKept.Stamped BA vH->EL R T ag w χ BA.toList (iU m q u)->({ w with heap:=w.heap.setIfInBounds r (.map BA vH) }:World).heap.size=w.heap.size/\Ev (gK dt) w χ { w with heap:=w.heap.setIfInBounds r (.map BA vH) } χ/\OM R T ag { w with heap:=w.heap.setIfInBounds r (.map BA vH) } χ dt r (iU m q u):=by
  intro BA vH abY he;have hs:=MapKept.heap_set (w:=w) (o':=.map BA vH) h2;have ev:Ev (gK dt) w χ { w with heap:=w.heap.setIfInBounds r (.map BA vH) } χ:=⟨rfl,rfl,rfl,by simp,λb' _ hp=>⟨hs.2 b' (by intro e;rw[e,h1]at hp;simp[gK]at hp),rfl⟩⟩
  have mm:=ev.m0 (show gK dt 0=false by cases h:gK dt 0 with|false=>rfl|true=>exact absurd (aD h).symm DX);exact⟨by simp,ev,h1,BA,vH,hs.1,abY,he.mono mm⟩
 unfold Oper.wp;rcases EL.find q 0 h3 with⟨g1,g2,g3⟩|⟨j,e,x',g1,g2,g3,g4,g5,g6⟩
 .have ll:=g3 u { key:=R.v q,val:=aP ρ v,born:=clock } rfl hR;obtain⟨_,ev,hom⟩:=fin (es.push { key:=R.v q,val:=aP ρ v,born:=clock }) (clock+1) (MapKept.stamped_push im (EL.ne h3 g2)) (by rw[Array.toList_push];exact ll);have hr:(execOp a.eval ⟨none,.mapUpdate t x y z,ty,pos,af,g⟩).run P w=.ok .skip { w with heap:=w.heap.setIfInBounds r (.map (es.push { key:=R.v q,val:=aP ρ v,born:=clock }) (clock+1)) }:=by simp[execOp,ex,ey,ez,Instr.mapUpdate,aH hm,iE h2,MapKept.run_checkKey hk (R.TW q),MapKept.run_findKey hk g1,MapKept.run_setObj_map _ h2]
  rw[hr];exact k _ _ ev hom (h.ev ev (jC nE))
 .have hj:es[j]?=some e:=by simpa using g2
  have ll:=g6 (λe=>{ e with key:=R.v q,val:=aP ρ v }) u rfl hR;obtain⟨_,ev,hom⟩:=fin (es.modify j λe=>{ e with key:=R.v q,val:=aP ρ v }) clock (MapKept.stamped_modify im _ _ (λ_ _=>rfl) (λe' _ PS=>by rw[hj]at PS;cases PS;exact g3.symm)) (by rw[Array.toList_modify];exact ll);have hr:(execOp a.eval ⟨none,.mapUpdate t x y z,ty,pos,af,g⟩).run P w=.ok .skip { w with heap:=w.heap.setIfInBounds r (.map (es.modify j λe=>{ e with key:=R.v q,val:=aP ρ v }) clock) }:=by simp[execOp,ex,ey,ez,Instr.mapUpdate,aH hm,iE h2,MapKept.run_checkKey hk (R.TW q),MapKept.run_findKey hk g1,hj,g3,MapKept.run_keyThatStays (R.TW q),MapKept.run_setObj_map _ h2]
  rw[hr];exact k _ _ ev hom (h.ev ev (jC nE))
theorem OM.map{κ α:Type}{R:zj κ}{T:b9 α}{ag:Bool}{i j r:Nat}{m:List (κ×α)}{f:Nat->Nat}(h:OM R T ag w χ i r m)(hf:f i=j)(m0:M0 w χ w (λb=>f (χ b))):OM R T ag w (λb=>f (χ b)) j r m:=by
 obtain⟨h1,es,clock,h2,im,h3⟩:=h;exact⟨by show f (χ r)=j;rw[h1,hf],es,clock,h2,im,h3.mono m0⟩
theorem OM.out{κ α:Type}{R:zj κ}{T:b9 α}{ag:Bool}{k i r:Nat}{m:List (κ×α)}{χ':Nat->Nat}{f:Nat->Nat}(h:OM R T ag w χ k r m)(mm:M0 w χ w χ')(hC:∀b,χ b≠0->χ b≠1000->χ' b=f (χ b))(h0:Nat.ble 1001 k=true)(hf:f k=i):OM R T ag w χ' i r m:=by
 obtain⟨h1,es,clock,h2,im,h3⟩:=h;have:=aB h0;exact⟨by rw[hC r (by omega) (by omega),h1,hf],es,clock,h2,im,h3.mono mm⟩
theorem afh{i a b:Nat}(h:i∈[a,b]):i=a∨i=b:=by simpa using h
def noG(exs:List (Nat×(Act->World->Prop))):Bool:=exs.all (λq=>Nat.beq (q.1%2) 0)
theorem Ti{exs:List (Nat×(Act->World->Prop))}(h:noG exs=true)(l:Nat):aa exs (2*l+1)=none:=by
 induction exs with
 |nil=>rfl
 |cons q exs ih =>
  obtain⟨k,K⟩:=q;simp only[noG,cd,ak]at h;simp only[aa];cases hb:Nat.beq k (2*l+1)with
  |true=>have h1:=aD hb;have h2:=aD h.1;omega
  |false=>exact ih h.2
theorem Q4{l:Nat}{nrm ret:Act->World->Prop}{exs:List (Nat×(Act->World->Prop))}(h:nrm a w):(Code.label l).wp P (qs nrm ret exs) a w:=wp_label h
theorem ac2{id:Nat}{l:List Oper}{K ret:Act->World->Prop}{exs:List (Nat×(Act->World->Prop))}(bks:List Nat)(hm:P.follows .mixedOrders=true)(h:St n sy ρ a w χ)
  (k:∀w1 χ1,St n sy ρ a w1 χ1->Ev eN w χ w1 χ1->M0 w1 χ1 w1 χ1->oG w1 χ1 (jz bks sy) ρ w1->Dr P l (qs K ret exs) (oG w1 χ1 (jz bks sy) ρ) (Array.replicate l.toArray.size false) l.toArray.size a w1) :
  (Code.region id l.toArray true).wp P (qs K ret exs) a w:=drawn bks hm h (λw1=>k w1 χ)
def DY{σ:Type}(I:Nat->σ->Act->World->Prop)(μ:Nat->σ->Nat)(b:Nat->Prop):List Nat->List (Nat×(Act->World->Prop))
 |[]=>[]
 |l::ls=>(2*l+1,λa w=>∃s,I l s a w/\b (μ l s))::DY I μ b ls
def mi(c:Code)(l:Nat):Code:=match findLabel c l with|some (.seq .skip r)=>r|_=>.skip
def IG(c:Code)(l:Nat):Bool:=match findLabel c l with|some (.seq .skip _)=>true|_=>false
theorem IE{c:Code}{l:Nat}(h:IG c l=true):findLabel c l=some (.seq .skip (mi c l)):=by
 unfold IG at h;unfold mi;split at h
 .rename_i r e;rw[e]
 .cases h
theorem Da{σ:Type}{I:Nat->σ->Act->World->Prop}{μ:Nat->σ->Nat}{b:Nat->Prop}{exs:List (Nat×(Act->World->Prop))}(i:Nat):∀ls,aa (DY I μ b ls++exs) (2*i)=aa exs (2*i)
 |[]=>rfl
 |l::ls=>by
  show aa ((2*l+1,_)::(DY I μ b ls++exs)) (2*i)=_;simp only[aa];cases hb:Nat.beq (2*l+1) (2*i)with
  |true=>have:=aD hb;omega
  |false=>exact Da i ls
theorem G0{σ:Type}{I:Nat->σ->Act->World->Prop}{μ:Nat->σ->Nat}{b:Nat->Prop}{exs:List (Nat×(Act->World->Prop))}(hn:noG exs=true)(i:Nat):∀ls,(match aa (DY I μ b ls++exs) (2*i+1)with|some K=>K a w|none=>False)->i∈ls/\∃s,I i s a w/\b (μ i s)
 |[],h=>by have e:DY I μ b []++exs=exs:=rfl;rw[e,Ti hn]at h;exact h.elim
 |l::ls,h=>by
  have e:aa (DY I μ b (l::ls)++exs) (2*i+1)=bif Nat.beq (2*l+1) (2*i+1)then some (λa w=>∃s,I l s a w/\b (μ l s))else aa (DY I μ b ls++exs) (2*i+1):=rfl;rw[e]at h;cases hb:Nat.beq (2*l+1) (2*i+1)with
  |true =>
   have hq:l=i:=by have:=aD hb;omega
   subst hq;rw[hb]at h;exact⟨aI ..,h⟩
  |false=>rw[hb]at h;obtain⟨h1,h2⟩:=G0 hn i ls h;exact⟨aw _ h1,h2⟩
theorem C9{σ:Type}{I:Nat->σ->Act->World->Prop}{μ:Nat->σ->Nat}{b b':Nat->Prop}{exs:List (Nat×(Act->World->Prop))}(hb:∀x,b x->b' x)(i:Nat):∀ls,(match aa (DY I μ b ls++exs) i with|some K=>K a w|none=>False)->(match aa (DY I μ b' ls++exs) i with|some K=>K a w|none=>False)
 |[],h=>h
 |l::ls,h=>by
  have e:∀b,aa (DY I μ b (l::ls)++exs) i=bif Nat.beq (2*l+1) i then some (λa w=>∃s,I l s a w/\b (μ l s))else aa (DY I μ b ls++exs) i:=λ_=>rfl;rw[e]at h ⊢; cases hc:Nat.beq (2*l+1) i with
  |true=>rw[hc]at h;obtain⟨s,h1,h2⟩:=h;exact⟨s,h1,hb _ h2⟩
  |false=>rw[hc]at h;exact C9 hb i ls h
theorem Q6{l:Nat}{K nrm ret:Act->World->Prop}{exs:List (Nat×(Act->World->Prop))}(hk:aa exs (2*l+1)=some K)(h:K a w):(Code.goto l).wp P (qs nrm ret exs) a w:=by
 refine wp_goto ?_;simp only[qs,hk];exact h
theorem Y3{σ:Type}{c:Code}{I:Nat->σ->Act->World->Prop}{μ:Nat->σ->Nat}{ls:List Nat}{nrm ret:Act->World->Prop}{exs:List (Nat×(Act->World->Prop))}{l:Nat}{b:Nat->Prop}
  (H:∀s a w,I l s a w->c.wp P (qs nrm ret (DY I μ (λx=>x<μ l s) ls++exs)) a w) (s:σ) (hI:I l s a w) (hb:∀x,x<μ l s->b x):c.wp P (qs nrm ret (DY I μ b ls++exs)) a w:=by
 refine wp_mono (H s a w hI) λe a w q=>?_;cases e with
 |exit i=>exact C9 hb _ _ q
 |goto i=>exact C9 hb _ _ q
 |_=>exact q
theorem Wb{σ:Type}{c:Code}{nrm ret:Act->World->Prop}{exs:List (Nat×(Act->World->Prop))}(ls:List Nat)(I:Nat->σ->Act->World->Prop)(μ:Nat->σ->Nat)(hn:noG exs=true)(hl:∀l∈ls,IG c l=true)
  (hp:∀l∈ls,∀s a w,I l s a w->(mi c l).wp P (qs nrm ret (DY I μ (λx=>x<μ l s) ls++exs)) a w)
  (first:c.wp P (qs nrm ret (DY I μ (λ_=>True) ls++exs)) a w):(Code.scope c).wp P (qs nrm ret exs) a w:=by
 intro b k cs;have key:∀n l s a w,l∈ls->μ l s=n->I l s a w->∃e a' w',qs nrm ret exs e a' w'/\Arrives P (lone (b.at a (.code (.seq .skip (mi c l)) :: .inScope c::k)) cs w) b k cs e a' w':=by
  intro n
  induction n using Nat.strongRecOn with
  |_ n ih =>
   intro l s a w hm hn' hI;have hs:(Code.seq .skip (mi c l)).wp P (qs nrm ret (DY I μ (λx=>x<μ l s) ls++exs)) a w:=xd (wR (hp l hm s a w hI));obtain⟨e,a₁,w₁,hq,harr⟩:=hs b (.inScope c::k) cs;cases e with
   |normal=>exact⟨.normal,a₁,w₁,hq,Steps.trans harr (.one step_inScope)⟩
   |exit id=>exact⟨.exit id,a₁,w₁,by simp only[qs,Da]at hq ⊢; exact hq,λk' hk=>harr k' (by simp[exitTo,hk])⟩
   |goto l' =>
    obtain⟨PJ,s',hI',eB⟩:=G0 hn l' ls hq;obtain⟨e₂,a₂,w₂,hq₂,Je⟩:=ih _ (hn'▸eB) l' s' a₁ w₁ PJ rfl hI';have hg:gotoIn l' (.inScope c::k)=some (.code (.seq .skip (mi c l')) :: .inScope c::k):=by simp[gotoIn,IE (hl l' PJ)]
    exact⟨e₂,a₂,w₂,hq₂,.of_steps (harr _ hg) Je⟩
   |ret=>exact⟨.ret,a₁,w₁,hq,harr⟩
   |panic ch=>exact hq.elim
   |outgrown=>exact hq.elim
 obtain⟨e,a₁,w₁,hq,harr⟩:=first b (.inScope c::k) cs
 cases e with
 |normal=>exact⟨.normal,a₁,w₁,hq,.head step_scope (Steps.trans harr (.one step_inScope))⟩
 |exit id=>exact⟨.exit id,a₁,w₁,by simp only[qs,Da]at hq ⊢; exact hq,λk' hk=>.head step_scope (harr k' (by simp[exitTo,hk]))⟩
 |goto l' =>
  obtain⟨PJ,s',hI',_⟩:=G0 hn l' ls hq;obtain⟨e₂,a₂,w₂,hq₂,Je⟩:=key _ l' s' a₁ w₁ PJ rfl hI';have hg:gotoIn l' (.inScope c::k)=some (.code (.seq .skip (mi c l')) :: .inScope c::k):=by simp[gotoIn,IE (hl l' PJ)]
  exact⟨e₂,a₂,w₂,hq₂,.of_steps (.head step_scope (harr _ hg)) Je⟩
 |ret=>exact⟨.ret,a₁,w₁,hq,.of_steps (.one step_scope) harr⟩
 |panic ch=>exact hq.elim
 |outgrown=>exact hq.elim
theorem Q3{σ:Type}{c:Code}{nrm ret:Act->World->Prop}{exs:List (Nat×(Act->World->Prop))}(l0 l1:Nat)(I:Nat->σ->Act->World->Prop)(μ:Nat->σ->Nat)(hn:noG exs=true)(h0:IG c l0=true)(h1:IG c l1=true)
  (p1:∀s a w,I l1 s a w->(mi c l1).wp P (qs nrm ret (DY I μ (λx=>x<μ l1 s) [l0,l1]++exs)) a w)
  (p0:(∀s a w,I l1 s a w->(mi c l1).wp P (qs nrm ret (DY I μ (λx=>x<μ l1 s) [l0,l1]++exs)) a w)->∀s a w,I l0 s a w->(mi c l0).wp P (qs nrm ret (DY I μ (λx=>x<μ l0 s) [l0,l1]++exs)) a w)
  (first:(∀s a w,I l0 s a w->(mi c l0).wp P (qs nrm ret (DY I μ (λx=>x<μ l0 s) [l0,l1]++exs)) a w)->(∀s a w,I l1 s a w->(mi c l1).wp P (qs nrm ret (DY I μ (λx=>x<μ l1 s) [l0,l1]++exs)) a w)->c.wp P (qs nrm ret (DY I μ (λ_=>True) [l0,l1]++exs)) a w):(Code.scope c).wp P (qs nrm ret exs) a w :=
 Wb [l0,l1] I μ hn (λl h=>by rcases afh h with rfl|rfl<;>assumption) (λl h=>by rcases afh h with rfl|rfl;exact p0 p1;exact p1) (first (p0 p1) p1)
theorem tZ(s:List UInt8)(l h:Nat):(bs s).extract l h=bs ((s.take h).drop l):=by
 apply ByteArray.ext;apply Array.toList_inj.mp;rw[ByteArray.data_extract];simp[bs,List.take_drop];by_cases hl:l<=h
 .rw[show l+(h-l)=h by omega]
 .rw[dT (by rw[bH];omega),dT (by rw[bH];omega)]
theorem Qk(s t:List UInt8):bs s++bs t=bs (s++t):=by
 apply ByteArray.ext;apply Array.toList_inj.mp;rw[ByteArray.data_append];simp[bs]
theorem Wp(TT:dD P bj){t:Nat}{x lo hi:Operand}{s:List UInt8}{kl kh:IntKind}{l hh:Int}(h:St n sy ρ a w χ)(hw:bK all sy g=true)(hd:Nat.blt d n=true)
  (hx:cu sy x=some (V (.string (bs s)))) (uC:cu sy lo=some (V (.int kl l))) (xX:cu sy hi=some (V (.int kh hh))) (ht:isStr bj t=true) (h0:0<=l) (h1:l<=hh) (h2:hh<=s.length)
  (k:∀a',St n ⟨(d,V (.string (bs ((s.take hh.toNat).drop l.toNat))))::sy.al,sy.boxes⟩ ρ a' w χ->K a' w) :
  pJ P all.toArray Q ⟨some d,.slice t x (some lo) (some hi) none,ty,pos,af,g⟩ K a w:=by
 refine qD h hw hd (Ev.refl eN w χ) (λ_ _=>rfl) (w':=w) ?_ (λa' h'=>k a' h');have ex:a.eval x=.string (bs s):=h.cu hx;have el:a.eval lo=.int kl l:=h.cu uC;have eh:a.eval hi=.int kh hh:=h.cu xX;have e1:(0:Int)<=hh:=by omega
 have e2:hh<=((bs s).size:Int):=by rw[q9];omega
 have e3:l<=((hh.toNat:Nat):Int):=by omega
 rw[←tZ];simp[execOp,ex,el,eh,Instr.sliceAt,Instr.slice,aH (yQ TT ht),Instr.sliceBounds,Instr.sliceBound,asIntOf,e1,e2,h0];omega
def IQ(bj:oQ)(t:Nat):Bool:=match aa bj t with|some ⟨_,_,_,_,.slice e⟩=>(match aa bj e with|some ⟨_,_,_,_,.int .u8⟩=>true|_=>false)|_=>false
theorem XB(T:dD P bj){t:Nat}(h:IQ bj t=true):∃e,P.underlying t=some (.slice e)/\P.underlying e=some (.int .u8):=by
 unfold IQ at h;split at h
 .rename_i e ht;split at h
  .rename_i he;obtain⟨i,d,z,hi,hd,hz,hs,lZ,lx,iA,_,_,_,Uf,_⟩:=a8 (T _ _ ht);obtain⟨i',d',z',lg,hd',Ec,IY,amn,aqY,an6,_,_,hk,_⟩:=a8 (T _ _ he);exact⟨e,by rw[hd,Uf _ rfl],by rw[hd',hk _ rfl]⟩
  .cases h
 .cases h
theorem Ce:∀(ns:List Int)(s:List UInt8),ns.foldl (λ(r:ByteArray) n=>r.push (UInt8.ofNat n.toNat)) (bs s)=bs (s++ns.map (λn=>UInt8.ofNat n.toNat))
 |[],s=>by simp
 |n::ns,s=>by
  have e:(bs s).push (UInt8.ofNat n.toNat)=bs (s++[UInt8.ofNat n.toNat]):=by apply ByteArray.ext;apply Array.toList_inj.mp;simp[bs,ByteArray.push]
  rw[List.foldl_cons,e,Ce ns];simp
def ofBytes(l:List Int):List UInt8:=l.map (λn=>UInt8.ofNat n.toNat)
theorem Y0{c:Code}{l:Nat}{R:Code}{Q:Exit->Act->World->Prop}(e:some (Code.seq .skip R)=findLabel c l)(h:R.wp P Q a w):(mi c l).wp P Q a w:=by
 unfold mi;rw[←e];exact h
theorem abr{κ α:Type}(R:zj κ)(T:b9 α)(ag:Bool)(dt:Nat){t kt et:Nat}{x:Operand}{hk:IntKind}{hn:Int}(h:St n sy ρ a w χ)(hw:bK all sy g=true)(hd:Nat.blt d n=true)
  (hx:cu sy x=some (V (.int hk hn))) (hm:P.underlying t=some (.map kt et))
  (k:∀r a' w' χ',Ev eN w χ w' χ'->OM R T ag w' χ' dt r ([]:List (κ×α))->St n ⟨(d,V (.map (some r)))::sy.al,sy.boxes⟩ ρ a' w' χ'->K a' w') :
  pJ P all.toArray Q ⟨some d,.makeMap t (some x),ty,pos,af,g⟩ K a w:=by
 have ev:=Bz w χ (.map #[] 0) dt;have ex:a.eval x=.int hk hn:=h.cu hx;refine qD h hw hd ev (λ_ _=>rfl) (v:=.map (some w.heap.size)) (w':=w.alloc (.map #[] 0)) ?_ (λa' h'=>k _ a' _ _ ev ⟨by simp,#[],0,heap_alloc_new w _,MapKept.stamped_empty 0,trivial⟩ h');simp[execOp,Instr.makeMap,Result.andThen,ex,aH hm,asInt,asIntOf]
theorem EL.len{κ α:Type}{R:zj κ}{T:b9 α}{ag:Bool}:∀{es:List MapEntry} {m:List (κ×α)},EL R T ag w χ es m->es.length=m.length
 |[],[],_=>rfl
 |e::es,(k,x)::m,h=>by rw[bc,bc,EL.len h.2.2]
 |[],_::_,h=>h.elim
 |_::_,[],h=>h.elim
theorem kr{p:Prop}(h:p:=by kernel_rfl):p:=h
@[reducible] def Sl{α:Type}(a:Option Addr)(xs:List α)(c:Nat):SV:=V (.slice a xs.length c)
@[reducible] def Z(s:List UInt8):SV:=V (.string (bs s))
def R9(sy:Sy):List Nat:=sy.al.map (λq=>q.1)
def Ze(sy:Sy):List Nat:=sy.boxes.map (λq=>q.1)
theorem oP{all l:List Oper}{Q:Exit->Act->World->Prop}(T:dD P bj)(h:St n sy ρ a w χ)(m:Nat)(sy':Sy)(k:∀a,St n sy' ρ a w χ->wpList P all.toArray Q (l.drop m) a w)(sp:List Nat:=[])
  (e:run bj false sp n all (l.take m) (R9 sy') (Ze sy') sy=some sy':=by kernel_rfl):wpList P all.toArray Q l a w:=ajo T h m e k
section
variable{nrm ret:Act->World->Prop}{exs:List (Nat×(Act->World->Prop))}
theorem eP{all l:List Oper}{K:Act->World->Prop}(T:dD P bj)(h:St n sy ρ a w χ)(sy':Sy)(k:∀a,St n sy' ρ a w χ->K a w)(sp:List Nat:=[])
  (e:run bj false sp n all l (R9 sy') (Ze sy') sy=some sy':=by kernel_rfl):wpList P all.toArray (qs K ret exs) l a w:=ahb T h e k
theorem rP{id:Nat}{l:List Oper}{y:Code}(T:dD P bj)(h:St n sy ρ a w χ)(sy':Sy)(k:∀a,St n sy' ρ a w χ->y.wp P (qs nrm ret exs) a w)(sp:List Nat:=[])
  (e:run bj false sp n l l (R9 sy') (Ze sy') sy=some sy':=by kernel_rfl):(Code.seq (Code.region id l.toArray false) y).wp P (qs nrm ret exs) a w:=aje T h e k
theorem St.sl(h:St n sy ρ a w χ)(sy':Sy)(e:Sv.keep (R9 sy') (Ze sy') sy=sy':=by kernel_rfl):St n sy' ρ a w χ:=h.sS _ _ e
theorem tk{w0:World}{χ0:Nat->Nat}{bxs:List (Nat×(Nat×List SV))}{listed:Array Bool}{m:Nat}(TT:dD P bj)(is bks:List Nat)(h:St n sy ρ a w χ)(H:oG w0 χ0 bxs ρ w)(jY:Array Bool)(fuel:Nat)(sy':Sy)
  (k:∀a',St n sy' ρ a' w χ->Dr P all (qs nrm ret exs) (oG w0 χ0 bxs ρ) jY fuel a' w)
  (Bv:Region.noSelect all.toArray=true:=by kernel_rfl) (hn:Nat.ble n 999=true:=by kernel_rfl) (hb:jz bks sy=bxs:=by kernel_rfl)
  (e:(match qC bj n all bks is listed sy with|some (l,s)=>some (l,(⟨(keep (R9 sy') [] s).al,sy.boxes⟩:Sy))|none=>none)=some (jY,sy'):=by kernel_rfl) (hf:m=fuel+is.length:=by rfl) :
  Dr P all (qs nrm ret exs) (oG w0 χ0 bxs ρ) listed m a w:=take TT is bks (R9 sy') h Bv hn hb H e hf k
end
def F3:b9 Value where
 n:=1
 bytes:=24
 R:=λ_ _ cs v=>cs=[v]/\v.oneCell'=true
 pos:=aK _
 len:=by rintro _ _ _ _ ⟨rfl,_⟩;rfl
 one:=by rintro _ _ _ _ ⟨rfl,h⟩ u hu;simp at hu;subst hu;exact h
 mono:=by intro _ _ _ _ _ _ _ h;exact h
def RW{α:Type}(T:b9 α)(E1:Nat)(w:World)(χ:Nat->Nat)(lh:Nat):List Value->List (List α)->Prop
 |[],[]=>True
 |v::vs,x::xs=>(match xs with|[]=>∃a c,v=.slice a x.length c/\OS T E1 w χ lh a x c|_::_=>∃a c,v=.slice a x.length c/\RS T w χ a x c)/\RW T E1 w χ lh vs xs
 |[],_::_=>False
 |_::_,[]=>False
def RF{α:Type}(T:b9 α)(w:World)(χ:Nat->Nat):List Value->List (List α)->Prop
 |[],[]=>True
 |v::vs,x::xs=>(∃a c,v=.slice a x.length c/\RS T w χ a x c)/\RF T w χ vs xs
 |[],_::_=>False
 |_::_,[]=>False
theorem RF.m0{α:Type}{T:b9 α}{w w':World}{χ χ':Nat->Nat}(m:M0 w χ w' χ'):∀{vs:List Value} {xs:List (List α)},RF T w χ vs xs->RF T w' χ' vs xs
 |[],[],_=>trivial
 |_::_,_::_,⟨⟨a,c,h1,h2⟩,h3⟩=>⟨⟨a,c,h1,h2.m0 m⟩,RF.m0 m h3⟩
theorem RF.mv{α:Type}{T:b9 α}{w w':World}{χ χ':Nat->Nat}{p:Nat->Bool}{vs:List Value}{xs:List (List α)}(h:RF T w χ vs xs)(e:Ev p w χ w' χ')(hp:p 0=false):RF T w' χ' vs xs:=h.m0 (e.m0 hp)
theorem RF.len{α:Type}{T:b9 α}{w:World}{χ:Nat->Nat}:∀{vs:List Value} {xs:List (List α)},RF T w χ vs xs->vs.length=xs.length
 |[],[],_=>rfl
 |_::_,_::_,⟨_,h⟩=>by simp[RF.len h]
theorem RW.len{α:Type}{T:b9 α}{E1 lh:Nat}{w:World}{χ:Nat->Nat}:∀{vs:List Value} {xs:List (List α)},RW T E1 w χ lh vs xs->vs.length=xs.length
 |[],[],_=>rfl
 |_::_,_::_,⟨_,h⟩=>by simp[RW.len h]
theorem RW.mvE{α:Type}{T:b9 α}{E1 lh:Nat}{w w':World}{χ χ':Nat->Nat}{p:Nat->Bool}(e:Ev p w χ w' χ')(hp:p lh=false)(h0:p 0=false):∀{vs:List Value} {xs:List (List α)},RW T E1 w χ lh vs xs->RW T E1 w' χ' lh vs xs
 |[],[],_=>trivial
 |_::_,[_],⟨⟨a,c,h1,h2⟩,h3⟩=>⟨⟨a,c,h1,h2.mv e hp h0⟩,RW.mvE e hp h0 h3⟩
 |_::_,_::_::_,⟨⟨a,c,h1,h2⟩,h3⟩=>⟨⟨a,c,h1,h2.mv e h0⟩,RW.mvE e hp h0 h3⟩
theorem RW.nil{α:Type}(T:b9 α)(E1:Nat)(w:World)(χ:Nat->Nat)(lh:Nat):RW T E1 w χ lh [] ([]:List (List α)):=trivial
theorem RW.last{α:Type}{T:b9 α}{E1 lh:Nat}{w:World}{χ:Nat->Nat}:∀{vs:List Value} {xs:List (List α)},RW T E1 w χ lh vs xs->xs≠[]->∃VM v VJ x a c,vs=VM++[v]/\xs=VJ++[x]/\RF T w χ VM VJ/\v=.slice a x.length c/\OS T E1 w χ lh a x c
 |[],[],_,h=>absurd rfl h
 |v::vs,[x],⟨⟨a,c,h1,h2⟩,h3⟩,_=>by
  have:vs=[]:=by cases vs with|nil=>rfl|cons _ _=>exact h3.elim
  subst this;exact⟨[],v,[],x,a,c,rfl,rfl,trivial,h1,h2⟩
 |v::vs,x::y::xs,⟨⟨a,c,h1,h2⟩,h3⟩,_=>by obtain⟨VM,v',VJ,x',a',c',e1,e2,r,e3,o⟩:=RW.last h3 (by simp);refine⟨v::VM,v',x::VJ,x',a',c',by rw[e1];rfl,by rw[e2];rfl,⟨⟨a,c,h1,h2⟩,r⟩,e3,o⟩
theorem RF.push{α:Type}{T:b9 α}{E1 lh:Nat}{w:World}{χ:Nat->Nat}{v:Value}{x:List α}{a:Option Addr}{c:Nat}(hv:v=.slice a x.length c)(ho:OS T E1 w χ lh a x c):∀{vs:List Value} {xs:List (List α)},RF T w χ vs xs->RW T E1 w χ lh (vs++[v]) (xs++[x])
 |[],[],_=>⟨⟨a,c,hv,ho⟩,trivial⟩
 |[_],[_],⟨h,_⟩=>⟨h,⟨a,c,hv,ho⟩,trivial⟩
 |_::_::_,_::_::_,⟨h,k⟩=>⟨h,RF.push hv ho k⟩
 |[_],_::_::_,⟨_,k⟩=>k.elim
 |_::_::_,[_],⟨_,k⟩=>k.elim
theorem RW.freeze{α:Type}{T:b9 α}{E1 lh:Nat}{w:World}{χ:Nat->Nat}(nE:lh≠0){vs:List Value}{xs:List (List α)}(h:RW T E1 w χ lh vs xs):∃χ',Ev (gK lh) w χ w χ'/\RF T w χ' vs xs:=by
 have key:∀{vs:List Value} {xs:List (List α)},RW T E1 w χ lh vs xs->RF T w (λb=>if χ b=lh then 0 else χ b) vs xs:=by
  have m:M0 w χ w (λb=>if χ b=lh then 0 else χ b):=⟨aK _,λb _ h0=>⟨rfl,by simp[h0]⟩⟩
  intro vs
  induction vs with
  |nil=>intro xs h;cases xs with|nil=>trivial|cons _ _=>exact h.elim
  |cons v vs ih =>
   intro xs h
   match xs,h with
   |[x],⟨⟨a,c,h1,h2⟩,h3⟩=>exact⟨⟨a,c,h1,h2.Pl⟩,ih h3⟩
   |x::y::xs,⟨⟨a,c,h1,h2⟩,h3⟩=>exact⟨⟨a,c,h1,h2.m0 m⟩,ih h3⟩
 have ev:Ev (gK lh) w χ w (λb=>if χ b=lh then 0 else χ b):=⟨rfl,rfl,rfl,aK _,λb _ hp=>⟨rfl,by
  have:χ b≠lh:=by intro e;rw[e]at hp;simp[gK]at hp
  simp[this]⟩⟩
 exact⟨_,ev,key h⟩
theorem RF.at{α:Type}{T:b9 α}{w:World}{χ:Nat->Nat}:∀{vs:List Value} {xs:List (List α)},RF T w χ vs xs->∀(i:Nat)(x:List α),xs[i]?=some x->∃v a c,vs[i]?=some v/\v=.slice a x.length c/\RS T w χ a x c
 |[],[],_,i,x,h=>by simp at h
 |v::vs,y::xs,⟨⟨a,c,h1,h2⟩,k⟩,0,x,h=>by simp at h;subst h;exact⟨v,a,c,rfl,h1,h2⟩
 |v::vs,y::xs,⟨_,k⟩,i+1,x,h=>RF.at k i x (by simpa using h)
theorem RF.rows{α:Type}{T:b9 α}{E2 dt:Nat}{w:World}{χ:Nat->Nat}{ad:Option Addr}{vs:List Value}{xs:List (List α)}{c:Nat}(hO:OS F3 E2 w χ dt ad vs c)(h:RF T w χ vs xs):OS (tg T) E2 w χ dt ad xs c:=by
 have hl:=h.len;refine⟨by rw[←hl];exact hO.JS,?_⟩;rcases hO.row with⟨h1,h2,h3⟩|⟨b,cells,h1,h2,h3,h4,h5,h6,h7⟩
 .subst h2;exact .inl ⟨h1,qq (by simpa using hl.symm),h3⟩
 .refine .inr ⟨b,cells,h1,h2,h3,by rw[←hl];exact h4,h5,h6,λi x hx=>?_⟩;obtain⟨v,a,c',e1,e2,r⟩:=h.at i x hx;have:=(h7 i v e1).1;exact⟨a,c',by rw[←e2];exact this,r⟩
theorem RW.mv{α:Type}{T:b9 α}{E1 lh:Nat}{w w':World}{χ χ':Nat->Nat}{p:Nat->Bool}{vs:List Value}{xs:List (List α)}(h:RW T E1 w χ lh vs xs)(e:Ev p w χ w' χ')(hp:p lh=false)(h0:p 0=false):RW T E1 w' χ' lh vs xs:=RW.mvE e hp h0 h
theorem RW.abf{α:Type}{T:b9 α}{E1 lh:Nat}{w:World}{χ:Nat->Nat}{vs:List Value}{xs:List (List α)}{k:Int}(h:RW T E1 w χ lh vs xs)(h0:0<=k)(hk:k+1=xs.length):
  ∃VM a c,vs=VM++[.slice a (gi xs k).length c]/\RF T w χ VM xs.dropLast/\OS T E1 w χ lh a (gi xs k) c/\gi vs k=.slice a (gi xs k).length c:=by
 obtain⟨VM,v,VJ,x,a,c,rfl,rfl,r,rfl,o⟩:=h.last (by intro e;subst e;simp at hk;omega);have hl:=r.len;have e1:k.toNat=VJ.length:=by simp at hk;omega
 have e2:gi (VJ++[x]) k=x:=by unfold gi;rw[e1];simp
 rw[e2];refine⟨VM,a,c,rfl,by simpa using r,o,?_⟩;unfold gi;rw[e1,←hl];simp
theorem RG{vs:List Value}{v v':Value}{k:Nat}(h:k=vs.length):(vs++[v]).set k v'=vs++[v']:=by subst h;simp
end ops
end
end
section
section
variable{P:Program}
section ops
variable{bj:oQ}{n:Nat}{sy:Sy}{ρ:Nat->Nat}{a:Act}{w:World}{χ:Nat->Nat}{all:List Oper}{Q:Exit->Act->World->Prop}{K:Act->World->Prop}
variable{d ty:Nat}{pos:String}{af:Array Edge}{g:Option (Nat×Bool)}
structure KOK {κ:Type} [DecidableEq κ] (P:Program) (kt:Nat) (kv:κ->Value):Prop where
 ck:∀(k:κ)(b:Bool)(w:World),(Instr.checkKey b 10000 kt (kv k)).run P w=.ok () w
 un:∃d,P.underlying kt=some d/\∀a b,Instr.sameNow d (kv a) (kv b)=none
 eq:∀(a b:κ)(w:World),(Op.equal kt (kv a) (kv b)).run P w=.ok (decide (a=b)) w
 ks:∀(k:κ)(w:World),(Instr.keyThatStays (kv k) (kv k)).run P w=.ok (kv k) w
 inj:∀a b,kv a=kv b->a=b
section
variable{nrm ret:Act->World->Prop}{exs:List (Nat×(Act->World->Prop))}{rg:List (Nat×SV)}{bx:List (Nat×(Nat×List SV))}
def tts(n:Nat):Array Bool:=Array.replicate n true
def edr:List Nat->List (Nat×SV)->List (Nat×SV)
 |_,[]=>[]
 |d,q::l=>bif d.any (Nat.beq q.1)then edr d l else q::edr (q.1::d) l
def ed(d:List Nat)(nw rg:List (Nat×SV)):List (Nat×SV):=nw++edr (nw.map (λq=>q.1)++d) rg
theorem M5{all l:List Oper}{Q:Exit->Act->World->Prop}(T:dD P bj)(h:St n ⟨rg,bx⟩ ρ a w χ)(m:Nat)(d:List Nat)(nw:List (Nat×SV))(k:∀a,St n ⟨ed d nw rg,bx⟩ ρ a w χ->wpList P all.toArray Q (l.drop m) a w)(sp:List Nat:=[])
  (e:run bj false sp n all (l.take m) (R9 ⟨ed d nw rg,bx⟩) (Ze ⟨ed d nw rg,bx⟩) ⟨rg,bx⟩=some ⟨ed d nw rg,bx⟩:=by kernel_rfl):wpList P all.toArray Q l a w:=oP T h m _ k sp e
theorem P6{all l:List Oper}{K:Act->World->Prop}(T:dD P bj)(h:St n ⟨rg,bx⟩ ρ a w χ)(d:List Nat)(nw:List (Nat×SV))(k:∀a,St n ⟨ed d nw rg,bx⟩ ρ a w χ->K a w)(sp:List Nat:=[])
  (e:run bj false sp n all l (R9 ⟨ed d nw rg,bx⟩) (Ze ⟨ed d nw rg,bx⟩) ⟨rg,bx⟩=some ⟨ed d nw rg,bx⟩:=by kernel_rfl):wpList P all.toArray (qs K ret exs) l a w:=eP T h _ k sp e
theorem D9{id:Nat}{l:List Oper}{y:Code}(T:dD P bj)(h:St n ⟨rg,bx⟩ ρ a w χ)(d:List Nat)(nw:List (Nat×SV))(k:∀a,St n ⟨ed d nw rg,bx⟩ ρ a w χ->y.wp P (qs nrm ret exs) a w)(sp:List Nat:=[])
  (e:run bj false sp n l l (R9 ⟨ed d nw rg,bx⟩) (Ze ⟨ed d nw rg,bx⟩) ⟨rg,bx⟩=some ⟨ed d nw rg,bx⟩:=by kernel_rfl):(Code.seq (Code.region id l.toArray false) y).wp P (qs nrm ret exs) a w:=rP T h _ k sp e
theorem St.sle(h:St n ⟨rg,bx⟩ ρ a w χ)(d:List Nat)(nw:List (Nat×SV))(e:Sv.keep (R9 ⟨ed d nw rg,bx⟩) (Ze ⟨ed d nw rg,bx⟩) ⟨rg,bx⟩=⟨ed d nw rg,bx⟩:=by kernel_rfl):St n ⟨ed d nw rg,bx⟩ ρ a w χ:=h.sl _ e
theorem tke{w0:World}{χ0:Nat->Nat}{bxs:List (Nat×(Nat×List SV))}{listed:Array Bool}{m:Nat}(TT:dD P bj)(is bks:List Nat)(h:St n ⟨rg,bx⟩ ρ a w χ)(H:oG w0 χ0 bxs ρ w)(jY:Array Bool)(fuel:Nat)(d:List Nat)(nw:List (Nat×SV))
  (k:∀a',St n ⟨ed d nw rg,bx⟩ ρ a' w χ->Dr P all (qs nrm ret exs) (oG w0 χ0 bxs ρ) jY fuel a' w)
  (Bv:Region.noSelect all.toArray=true:=by kernel_rfl) (hn:Nat.ble n 999=true:=by kernel_rfl) (hb:jz bks ⟨rg,bx⟩=bxs:=by kernel_rfl)
  (e:(match qC bj n all bks is listed ⟨rg,bx⟩with|some (l,s)=>some (l,(⟨(keep (R9 ⟨ed d nw rg,bx⟩) [] s).al,bx⟩:Sy))|none=>none)=some (jY,⟨ed d nw rg,bx⟩):=by as_aux_lemma=>kernel_rfl) (hf:m=fuel+is.length:=by rfl) :
  Dr P all (qs nrm ret exs) (oG w0 χ0 bxs ρ) listed m a w:=tk TT is bks h H jY fuel _ k Bv hn hb e hf
end
section
variable{p:Nat->Bool}{w':World}{χ':Nat->Nat}
end
end ops
end
end
end Go.Sv
namespace Go.Ex
open Go Go.Sv
noncomputable section
inductive Tr (α:Type) where
 |e
 |n (l:Tr α) (v:Option α) (r:Tr α)
def get{α:Type}(t:Tr α):Nat->Option α :=
 Tr.rec (λ_=>none) (λ_ v _ gl gr k=>Bool.rec (Bool.rec (gr (Nat.div k 2)) (gl (Nat.div k 2)) (Nat.beq (Nat.mod k 2) 0)) v (Nat.beq k 0)) t
def set{α:Type}(f:Nat):Tr α->Nat->Option α->Tr α :=
 Nat.rec (λ_ _ _=>.e) (λ_ g t k x=>Tr.rec
  (Bool.rec (Bool.rec (.n .e none (g .e (Nat.div k 2) x)) (.n (g .e (Nat.div k 2) x) none .e) (Nat.beq (Nat.mod k 2) 0)) (.n .e x .e) (Nat.beq k 0))
  (λl v r _ _=>Bool.rec (Bool.rec (.n l v (g r (Nat.div k 2) x)) (.n (g l (Nat.div k 2) x) v r) (Nat.beq (Nat.mod k 2) 0)) (.n l x r) (Nat.beq k 0)) t) f
inductive S where
 |v (x:Value)
 |p (i o:Nat)
 |sl (i o m n:Nat)
 |m (i:Nat)
 |c (i:Nat)
inductive V1 where
 |s (x:S)
 |g (l:List S)
inductive AV where
 |o (x:V1)
 |t (l:List V1)
inductive Bk where
 |c (l:List S)
 |m (es:List (Value×V1×Nat)) (k:Nat)
 |f (fn:FuncId) (a b:List V1)
structure Z where
 h:Tr Bk
 n:Nat
 lo:Nat
abbrev R:=Tr AV
def Ta:Value->AV
 |.agg cs=>.o (.g (cs.toList.map .v))
 |.tuple vs=>.t (vs.toList.map λv=>.s (.v v))
 |v=>.o (.s (.v v))
def ev(r:R):Operand->Option AV
 |.tmp t=>get r t
 |.const v=>some (Ta v)
 |.func f=>some (.o (.s (.v (.func (.func f) #[] #[]))))
 |.global _=>none
def consO:Option AV->Option (List AV)->Option (List AV)
 |some v,some q=>some (v::q)
 |_,_=>none
def j7(r:R)(l:List Operand):Option (List AV):=List.rec (some []) (λx _ q=>consO (ev r x) q) l
def jb:Op->List Operand
 |.move x | .assign x | .box _ x | .load _ x | .nilCheck x | .unOp _ _ x | .convert _ _ x | .fieldAddr _ x _ | .field _ x _ | .extract x _=>[x]
 |.pick c a b=>[c,a,b]
 |.build _ ps | .buildSlice _ _ ps=>ps.toList.map (·.2)
 |.store _ a v | .binOp _ _ a v _ | .makeSlice _ a v | .indexAddr _ a v | .index _ a v | .lookup _ a v _=>[a,v]
 |.makeFunc _ f c=>f.toList++c.toList
 |.makeMap _ r=>r.toList
 |.slice _ x l h m=>x::(l.toList++(h.toList++m.toList))
 |.mapUpdate _ m k v=>[m,k,v]
 |.call ⟨.value f,args,_⟩=>f::args.toList
 |.call ⟨.builtin _,args,_⟩=>args.toList
 |_=>[]
def S8:S->Bool
 |.v (.agg _)=>false
 |.v (.tuple _)=>false
 |_=>true
def cellsOf:V1->Option (List S)
 |.g l=>bif l.all S8 then some l else none
 |.s x=>bif S8 x then some [x]else none
def mkv(agg:Bool)(l:List S):Option V1 :=
 bif agg then some (.g l)else match l with|[x]=>some (.s x)|_=>none
def ld(h:Tr Bk)(i o n:Nat):Option (List S) :=
 match get h i with
 |some (.c l)=>bif Nat.ble (o+n) l.length then some ((l.drop o).take n)else none
 |_=>none
def depth:Nat:=40
def new(z:Z)(b:Bk):Z:=⟨set depth z.h z.n (some b),Nat.succ z.n,z.lo⟩
def iZ(z:Z)(i:Nat)(b:Option Bk):Z:=⟨set depth z.h i b,z.n,z.lo⟩
def Jl(z:Z)(i:Nat):Option Bk:=bif Nat.ble z.lo i then get z.h i else none
def Fl(place:Nat->Option (Nat×Nat)):List (Nat×List S)->List S->Option (List S)
 |[],cs=>some cs
 |(i,v)::rest,cs =>
  match place i with
  |some (off,size)=>bif Nat.beq v.length size&&Nat.ble (off+size) cs.length then Fl place rest (cs.take off++v++cs.drop (off+size))else none
  |none=>none
def YT:List AV->Option (List V1)
 |[]=>some []
 |.o x::l=>match YT l with
  |some q=>some (x::q)
  |none=>none
 |_=>none
def Dv:List V1->Option (List (List S))
 |[]=>some []
 |x::l=>match cellsOf x,Dv l with
  |some c,some q=>some (c::q)
  |_,_=>none
def plainR:List Operand->List AV->Option (List (Nat×SV))
 |[],[]=>some []
 |.tmp t::l,.o (.s (.v x))::q=>match plainR l q with
  |some r=>some ((t,V x)::r)
  |none=>none
 |.const _::l,_::q=>plainR l q
 |_,_=>none
def plainOp(tb:oQ)(o:Oper)(vs:List AV):Option AV :=
 match plainR (jb o.op) vs with
 |some r=>match dV tb ⟨r,[]⟩ o with
  |some (.s (.v x))=>match x with
   |.agg _=>none
   |.tuple _=>none
   |_=>some (.o (.s (.v x)))
  |_=>none
 |none=>none
def xE:Value->Bool
 |.pointer none=>true
 |_=>false
def rn:Value->Bool
 |.slice none 0 0=>true
 |_=>false
def GN:Value->Bool
 |.map none=>true
 |_=>false
def Z5(op:BinOp)(b:Bool):Option AV :=
 match op with
 |.eql=>some (.o (.s (.v (.bool b))))
 |.neq=>some (.o (.s (.v (.bool (!b)))))
 |_=>none
def toNat?:Int->Option Nat
 |.ofNat n=>some n
 |_=>none
def intOf:AV->Option Nat
 |.o (.s (.v (.int _ i)))=>toNat? i
 |_=>none
def E8:Value->Value->Option Bool
 |.int k a,.int k' b=>bif sameKind k k' then some (decide (a=b))else none
 |_,_=>none
def findE(k:Value):List (Value×V1×Nat)->Option (Option V1)
 |[]=>some none
 |(x,v,_)::l=>match E8 k x with
  |some true=>some (some v)
  |some false=>findE k l
  |none=>none
def Cd(e:Value×V1×Nat):Option (List (Value×V1×Nat)×Bool)->Option (List (Value×V1×Nat)×Bool)
 |some (q,b)=>some (e::q,b)
 |none=>none
def OU(k:Value)(v:V1)(ck:Nat):List (Value×V1×Nat)->Option (List (Value×V1×Nat)×Bool)
 |[]=>some ([(k,v,ck)],true)
 |(x,u,b)::l=>match E8 k x with
  |some true=>some ((k,v,b)::l,false)
  |some false=>Cd (x,u,b) (OU k v ck l)
  |none=>none
def pZ(b:Bool):List AV->Option (Option Nat×List AV)
 |[]=>bif b then none else some (none,[])
 |x::l=>bif b then(match intOf x with
  |some n=>some (some n,l)
  |none=>none)else some (none,x::l)
def ret(v:Option AV)(z:Z):Option (AV×Z):=match v with
 |some x=>some (x,z)
 |none=>none
def bounds(n:Nat)(lo hi:Option Nat):Option (Nat×Nat) :=
 match hi.getD n with
 |h=>match lo.getD 0 with
  |l=>bif Nat.ble l h&&Nat.ble h n then some (l,h)else none
section
variable(P:Program)(tt:Tr sX)(mt:Tr (Nat×Nat×Value))(tb:oQ)(ka:Nat->Nat->Bool)
def szOf(t:Nat):Option Nat:=match get tt t with|some s=>some s.size|none=>none
def nX(t:Nat):Option Nat:=match get tt t with|some ⟨_,_,_,_,.slice e⟩=>some e|_=>none
def ti(h:Tr Bk)(m:Nat):V1->Option (List S)
 |.s (.v x)=>bif rn x then some []else none
 |.s (.sl i o m' n)=>bif Nat.beq m' m then(bif Nat.beq n 0 then some []else ld h i o (n*m))else none
 |_=>none
def pMove(vs:List AV):Option AV:=match vs with
 |[x]=>some x
 |_=>none
def pPick(vs:List AV):Option AV:=match vs with
 |[.o (.s (.v (.bool b))),x,y]=>some (bif b then x else y)
 |_=>none
def pBuild(t:Nat)(ps:Array (Nat×Operand))(vs:List AV):Option AV:=match get tt t,YT vs with
  |some ty,some q=>match Dv q with
   |some cs=>match ty.d with
    |.struct fs=>match Fl (λi=>(fs[i]?).map (λq=>(q.1,q.2.1))) ((ps.toList.map (·.1)).zip cs) (ty.zero.map .v)with
     |some l=>some (.o (.g l))
     |none=>none
    |.array _ _ es=>match Fl (λi=>some (i*es,es)) ((ps.toList.map (·.1)).zip cs) (ty.zero.map .v)with
     |some l=>some (.o (.g l))
     |none=>none
    |_=>none
   |none=>none
  |_,_=>none
def pLoad(t:Nat)(vs:List AV)(h:Tr Bk):Option AV:=match vs with
 |[.o (.s (.p i o))]=>match get tt t with
  |some ty=>match ld h i o ty.size with
   |some l=>match mkv ty.agg l with
    |some v=>some (.o v)
    |none=>none
   |none=>none
  |none=>none
 |_=>none
def pNil(vs:List AV):Option AV:=match vs with
 |[.o (.s (.p i o))]=>some (.o (.s (.p i o)))
 |_=>none
def quoE(q:Bool)(x y:Value):Option AV:=match x,y with
 |.int k a,.int k' b=>bif sameKind k k'&&!(b==0)then some (.o (.s (.v (.int k (bif q then k.wrap (a.tdiv b)else a.tmod b)))))else none
 |_,_=>none
def pUn(o:Oper)(u:UnOp)(vs:List AV):Option AV:=match u with
 |.xor=>match vs with
  |[.o (.s (.v (.int k n)))]=>match arith .xor k (if k.signed then -1 else k.max) n with
   |some v=>some (.o (.s (.v v)))
   |none=>none
  |_=>none
 |_=>plainOp tb o vs
def rj:List S->Option (List Value)
 |[]=>some []
 |.v x::l=>match rj l with
  |some q=>some (x::q)
  |none=>none
 |_=>none
def qT(t:Nat):Bool:=match nX tt t with
 |some _=>true
 |none=>false
def T2(t:Nat):Bool:=match get mt t with
 |some _=>true
 |none=>false
def pBin(o:Oper)(op:BinOp)(t:Nat)(vs:List AV):Option AV:=match vs with
 |[.o (.s x),.o (.s y)]=>match x,y with
  |.p _ _,.v n=>bif xE n&&ka 1 t then Z5 op false else none
  |.sl _ _ _ _,.v n=>bif rn n&&qT tt t then Z5 op false else none
  |.m _,.v n=>bif GN n&&T2 mt t then Z5 op false else none
  |.v n,.v n'=>bif xE n&&xE n'&&ka 1 t then Z5 op true else bif rn n&&rn n'&&qT tt t then Z5 op true else match op with
   |.quo=>quoE true n n'
   |.rem=>quoE false n n'
   |_=>plainOp tb o vs
  |_,_=>none
 |[.o (.g x),.o (.g y)]=>match rj x,rj y with
  |some xs,some ys=>match j8 xs ys with
   |some b=>bif oB P t xs&&Nat.beq xs.length ys.length&&(match nf tb t with|some k=>Nat.beq k xs.length|none=>false)then Z5 op b else none
   |none=>none
  |_,_=>none
 |_=>none
def pFieldA(s f:Nat)(vs:List AV):Option AV:=match vs with
 |[.o (.s (.p i o))]=>match get tt s with
  |some ⟨_,_,_,_,.struct fs⟩=>match fs[f]? with
   |some (ru,qX,_)=>bif Nat.ble 1 qX then some (.o (.s (.p i (o+ru))))else none
   |none=>none
  |_=>none
 |_=>none
def pField(s f:Nat)(vs:List AV):Option AV:=match vs with
 |[.o (.g l)]=>match get tt s with
  |some ⟨_,_,_,_,.struct fs⟩=>match fs[f]? with
   |some (ru,qX,ft)=>match get tt ft with
    |some ty=>bif Nat.beq ty.size qX&&Nat.ble (ru+qX) l.length then(match mkv ty.agg ((l.drop ru).take qX)with
     |some v=>some (.o v)
     |none=>none)else none
    |none=>none
   |none=>none
  |_=>none
 |_=>none
def pIndexA(t:Nat)(vs:List AV):Option AV:=match vs with
 |[.o (.s (.sl i o m n)),k]=>match nX tt t with
  |some e=>match szOf tt e,intOf k with
   |some m',some j=>bif Nat.beq m m'&&Nat.blt j n then some (.o (.s (.p i (o+j*m))))else none
   |_,_=>none
  |none=>none
 |[.o (.s (.p i o)),k]=>match get tt t,intOf k with
  |some ⟨_,_,_,_,.array n _ es⟩,some j=>bif Nat.blt j n then some (.o (.s (.p i (o+j*es))))else none
  |_,_=>none
 |_=>none
def pIndex(t:Nat)(vs:List AV):Option AV:=match vs with
 |[.o (.s (.v (.string s))),k]=>match get tt t,intOf k with
  |some ⟨_,_,_,_,.str⟩,some j=>match s.data.toList[j]? with
   |some b=>some (.o (.s (.v (.int .u8 b.toNat))))
   |none=>none
  |_,_=>none
 |[.o (.g l),k]=>match get tt t,intOf k with
  |some ⟨_,_,_,_,.array n e es⟩,some j=>bif Nat.blt j n then(match get tt e with
   |some ty=>bif Nat.beq ty.size es&&Nat.ble (j*es+es) l.length then(match mkv ty.agg ((l.drop (j*es)).take es)with
    |some v=>some (.o v)
    |none=>none)else none
   |none=>none)else none
  |_,_=>none
 |_=>none
def pExtract(i:Nat)(vs:List AV):Option AV:=match vs with
 |[.t l]=>match l[i]? with
  |some v=>some (.o v)
  |none=>none
 |_=>none
def sliceV(t:Nat)(l h m:Option Nat)(y:Value):Option AV:=match y with
 |.string s=>match get tt t,m with
  |some ⟨_,_,_,_,.str⟩,none=>match bounds s.data.toList.length l h with
   |some (a,b)=>some (.o (.s (.v (.string ⟨((s.data.toList.take b).drop a).toArray⟩))))
   |none=>none
  |_,_=>none
 |_=>match(match nX tt t with
  |some e=>szOf tt e
  |none=>none)with
  |some _=>bif Nat.beq (l.getD 0) 0&&(Nat.beq (h.getD 0) 0&&(Nat.beq (m.getD 0) 0&&(rn y&&(m.isNone||h.isSome))))then some (.o (.s (.v y)))else none
  |none=>none
def sliceL(t:Nat)(l h m:Option Nat)(i o m' n:Nat):Option AV:=match nX tt t with
 |some e=>match szOf tt e,bounds n l h with
  |some s,some (a,b)=>bif Nat.beq s m'&&(match m with|none=>true|some c=>Nat.ble b c&&(Nat.ble c n&&h.isSome))then some (.o (.s (.sl i (o+a*m') m' (b-a))))else none
  |_,_=>none
 |none=>none
def pSlice(t:Nat)(lo hi mx:Option Operand)(vs:List AV):Option AV:=match vs with
 |.o (.s x)::q=>match pZ lo.isSome q with
  |some (l,q)=>match pZ hi.isSome q with
   |some (h,q)=>match pZ mx.isSome q with
    |some (m,_)=>match x with
     |.v y=>sliceV tt t l h m y
     |.sl i o m' n=>sliceL tt t l h m i o m' n
     |_=>none
    |none=>none
   |none=>none
  |none=>none
 |_=>none
def entries(x:S)(h:Tr Bk):Option (List (Value×V1×Nat)):=match x with
 |.v n=>bif GN n then some []else none
 |.m i=>match get h i with
  |some (.m es _)=>some es
  |_=>none
 |_=>none
def Fj(kt:Nat)(k:V1)(es:List (Value×V1×Nat)):Option (Option V1):=match k with
 |.s (.v (.int .i64 a))=>bif ka 0 kt then none else findE (.int .i64 a) es
 |.g l=>match rj l,es with
  |some [.int .u32 _,.int .i64 _],[]=>bif ka 0 kt then some none else none
  |_,_=>none
 |_=>none
def pLook(t:Nat)(ok:Bool)(vs:List AV)(h:Tr Bk):Option AV:=match vs with
 |[.o (.s x),.o k]=>match get mt t,entries x h with
  |some (kt,_,zv),some es=>match Fj ka kt k es,Ta zv with
   |some (some v),_=>some (bif ok then .t [v,.s (.v (.bool true))]else .o v)
   |some none,.o v=>some (bif ok then .t [v,.s (.v (.bool false))]else .o v)
   |_,_=>none
  |_,_=>none
 |_=>none
def vI(n:Nat):AV:=.o (.s (.v (.int .i64 n)))
def pLen(t:Nat)(x:V1)(h:Tr Bk):Option AV:=match get tt t with
 |some ⟨_,_,_,_,.slice _⟩=>(match x with
  |.s (.sl _ _ _ n)=>some (vI n)
  |.s (.v y)=>bif rn y then some (vI 0)else none
  |_=>none)
 |some ⟨_,_,_,_,.str⟩=>(match x with
  |.s (.v (.string s))=>some (vI s.data.toList.length)
  |_=>none)
 |_=>match get mt t,x with
  |some _,.s y=>(match entries y h with
   |some es=>some (vI es.length)
   |none=>none)
  |_,_=>none
def pBlt(o:Oper)(b:Builtin)(qo:List Nat)(vs:List AV)(h:Tr Bk):Option AV:=match b with
 |.len=>match qo,vs with
  |[t],[.o x]=>pLen tt mt t x h
  |_,_=>none
 |.min=>plainOp tb o vs
 |.max=>plainOp tb o vs
 |_=>none
def pCall(o:Oper)(c:Call)(vs:List AV)(h:Tr Bk):Option AV:=match c.callee with
 |.builtin b=>pBlt tt mt tb o b c.argTypes.toList vs h
 |_=>none
def AA(o:Oper)(vs:List AV)(h:Tr Bk):Option AV :=
 match o.op with
 |.move _=>pMove vs
 |.assign _=>pMove vs
 |.pick ..=>pPick vs
 |.build t ps=>pBuild tt t ps vs
 |.load t _=>pLoad tt t vs h
 |.nilCheck _=>pNil vs
 |.binOp op t _ _ _=>pBin P tt mt tb ka o op t vs
 |.unOp u _ _=>pUn tb o u vs
 |.convert ..=>plainOp tb o vs
 |.fieldAddr s _ f=>pFieldA tt s f vs
 |.field s _ f=>pField tt s f vs
 |.indexAddr t _ _=>pIndexA tt t vs
 |.index t _ _=>pIndex tt t vs
 |.extract _ i=>pExtract i vs
 |.slice t _ lo hi mx=>pSlice tt t lo hi mx vs
 |.lookup t _ _ ok=>pLook mt ka t ok vs h
 |.call c=>pCall tt mt tb o c vs h
 |_=>none
abbrev Nw:=Option ((Nat->S)×Bk)
def Md(t:Nat)(k:Nat):Option (Nat×Nat×List S):=match nX tt t with
 |some e=>match get tt e with
  |some ty=>bif Nat.ble 1 ty.zero.length then some (ty.size,ty.bytes,((List.range (k*ty.size)).map (λi=>ty.zero.getD (i%ty.zero.length) undef)).map .v)else none
  |none=>none
 |none=>none
def nAlloc(t:Nat):Nw:=match get tt t with
 |some ty=>some (λk=>.p k 0,.c (ty.zero.map .v))
 |none=>none
def nBox(vs:List AV):Nw:=match vs with
 |[.o x]=>match cellsOf x with
  |some l=>some (λk=>.p k 0,.c l)
  |none=>none
 |_=>none
def nBuildS(t len:Nat)(ps:Array (Nat×Operand))(vs:List AV):Nw:=match Md tt t len,YT vs with
  |some (m,_,z0),some q=>match Dv q with
   |some cs=>match Fl (λi=>some (i*m,m)) ((ps.toList.map (·.1)).zip cs) z0 with
    |some l=>bif Nat.ble (len*m) 10000&&Nat.ble 1 m then some (λk=>.sl k 0 m len,.c l)else none
    |none=>none
   |none=>none
  |_,_=>none
def nFunc(fn:Fn)(k:Nat)(vs:List AV):Nw:=match fn,YT vs with
 |.func f,some q=>some (λk=>.c k,.f f (q.take k) (q.drop k))
 |_,_=>none
def nMap(t:Nat)(vs:List AV):Nw:=match vs with
 |[]=>some (λk=>.m k,.m [] 0)
 |[.o (.s (.v (.int _ _)))]=>match get mt t with
  |some _=>some (λk=>.m k,.m [] 0)
  |none=>none
 |_=>none
def nMake(t:Nat)(vs:List AV):Nw:=match vs with
 |[l,c]=>match intOf l,intOf c with
  |some n,some k=>bif Nat.beq n k&&Nat.ble k 1000 then(match Md tt t n with
   |some (m,xS,z0)=>bif Nat.ble xS 1000&&Nat.ble 1 m then some (λk=>.sl k 0 m n,.c z0)else none
   |none=>none)else none
  |_,_=>none
 |_=>none
def oZ(o:Oper)(vs:List AV):Nw :=
 match o.op with
 |.alloc t=>nAlloc tt t
 |.box _ _=>nBox vs
 |.buildSlice t len ps=>nBuildS tt t len ps vs
 |.makeFunc fn a _=>nFunc fn a.size vs
 |.makeMap t _=>nMap mt t vs
 |.makeSlice t _ _=>nMake tt t vs
 |_=>none
abbrev Ld:=Option (AV×Z)
def Y2(l:List S)(o:Nat)(q:List S):List S:=l.take o++(q++l.drop (o+q.length))
def lStore(t:Nat)(vs:List AV)(z:Z):Ld:=match vs with
 |[.o (.s (.p i o)),.o x]=>match get tt t,cellsOf x,Jl z i with
  |some ty,some q,some (.c l)=>bif Nat.beq q.length ty.size&&Nat.ble (o+q.length) l.length then some (.t [],iZ z i (some (.c (Y2 l o q))))else none
  |_,_,_=>none
 |_=>none
def lPut(t:Nat)(vs:List AV)(z:Z):Ld:=match vs with
 |[.o (.s (.m i)),.o (.s (.v (.int .i64 a))),.o v]=>match get mt t,Jl z i with
  |some (kt,_),some (.m es ck)=>match(bif ka 0 kt then none else OU (.int .i64 a) v ck es)with
   |some (q,PW)=>some (.t [],iZ z i (some (.m q (bif PW then Nat.succ ck else ck))))
   |none=>none
  |_,_=>none
 |_=>none
def aaf(z:Z)(m xS:Nat)(x:V1)(n:Nat)(l:List S):Ld:=match x with
 |.s (.v _)=>bif Nat.ble 1 n&&(Nat.ble n 100000&&Nat.ble xS 1000)then some (.o (.s (.sl z.n 0 m n)),new z (.c l))else none
 |.s (.sl i o q k)=>bif Nat.beq n 0 then some (.o (.s (.sl i o q k)),z)else
  bif Nat.ble (k+n) 100000&&Nat.ble xS 1000 then(match Jl z i with
   |some (.c _)=>some (.o (.s (.sl z.n 0 m (k+n))),new (iZ z i none) (.c l))
   |_=>none)else none
 |_=>none
def abE(t:Nat)(x y:V1)(z:Z):Ld:=match nX tt t with
 |some e=>match get tt e with
  |some ty=>match ti z.h ty.size x,ti z.h ty.size y with
   |some r8,some news=>match y with
    |.s (.sl _ _ _ n)=>bif news.all S8&&Nat.beq ty.zero.length ty.size then aaf z ty.size ty.bytes x n (r8++news)else none
    |_=>(match x with
     |.s (.sl i o m k)=>some (.o (.s (.sl i o m k)),z)
     |_=>none)
   |_,_=>none
  |none=>none
 |none=>none
def lCopy(t:Nat)(x y:V1)(z:Z):Ld:=match x,y with
 |.s (.sl i o m n),.s (.sl i' o' m' n')=>match nX tt t with
  |some e=>match szOf tt e,Jl z i with
   |some s,some (.c l)=>bif Nat.beq s m&&Nat.beq s m' then(match Nat.min n' n with
    |k=>bif Nat.beq k 0 then some (vI 0,z)else match ld z.h i' o' (k*m)with
     |some q=>bif Nat.ble (o+k*m) l.length&&q.all S8 then some (vI k,iZ z i (some (.c (Y2 l o q))))else none
     |none=>none)else none
   |_,_=>none
  |none=>none
 |_,_=>none
def lBlt(b:Builtin)(qo:List Nat)(vs:List AV)(z:Z):Ld:=match b with
 |.append=>match qo,vs with
  |[t,t'],[.o x,.o y]=>bif Nat.beq t t' then abE tt t x y z else none
  |_,_=>none
 |.copy=>match qo,vs with
  |[t,_],[.o x,.o y]=>lCopy tt t x y z
  |_,_=>none
 |_=>none
inductive X where
 |n
 |x (id:Nat)
 |g (l:Nat)
 |r
section
variable(idx:FuncId->Bool)(call:FuncId->List V1->Z->Option (AV×Z))
def Fk(b:Nat):Nat->List UInt8->Int
 |_,[]=>-1
 |i,x::l=>bif Nat.beq x.toNat b then .ofNat i else Fk b (Nat.succ i) l
def abR(q:List V1)(z:Z):Ld:=match q with
 |[.s (.v (.string s)),.s (.v (.int .u8 (.ofNat n)))]=>bif Nat.blt n 256 then some (.o (.s (.v (.int .i64 (Fk n 0 s.data.toList)))),z)else none
 |_=>none
def cFn(f:FuncId)(a b:List Value)(q:Option (List V1))(z:Z):Ld:=match a,b,q with
 |[],[],some q=>bif idx f then abR q z else call f q z
 |_,_,_=>none
def cClo(x:Option Bk)(q:Option (List V1))(z:Z):Ld:=match x,q with
 |some (.f f a b),some q=>call f (a++(q++b)) z
 |_,_=>none
def callV(vs:List AV)(z:Z):Ld:=match vs with
 |.o (.s (.v (.func (.func f) a b)))::q=>cFn idx call f a.toList b.toList (YT q) z
 |.o (.s (.c i))::q=>cClo call (get z.h i) (YT q) z
 |_=>none
def lCall(c:Call)(vs:List AV)(z:Z):Ld:=match c.callee with
 |.value _=>callV idx call vs z
 |.builtin b=>lBlt tt b c.argTypes.toList vs z
 |_=>none
def loudE(o:Oper)(vs:List AV)(z:Z):Ld :=
 match o.op with
 |.store t _ _=>lStore tt t vs z
 |.mapUpdate t _ _ _=>lPut mt ka t vs z
 |.call c=>lCall tt idx call c vs z
 |_=>none
def kindB:Builtin->Nat
 |.len=>0
 |.min=>0
 |.max=>0
 |_=>2
def kindC:Callee->Nat
 |.builtin b=>kindB b
 |_=>2
def vj:Op->Nat
 |.alloc _=>1
 |.box _ _=>1
 |.buildSlice ..=>1
 |.makeFunc ..=>1
 |.makeMap ..=>1
 |.makeSlice ..=>1
 |.store ..=>2
 |.mapUpdate ..=>2
 |.call c=>kindC c.callee
 |_=>0
def pK(z:Z):Option AV->Ld
 |some v=>some (v,z)
 |none=>none
def nK(z:Z):Nw->Ld
 |some (f,b)=>some (.o (.s (f z.n)),new z b)
 |none=>none
def W6(o:Oper)(vs:List AV)(z:Z)(k:Nat):Ld:=match k with
 |0=>pK z (AA P tt mt tb ka o vs z.h)
 |1=>nK z (oZ tt mt o vs)
 |_=>loudE tt mt ka idx call o vs z
def oneE(o:Oper)(vs:List AV)(z:Z):Ld:=W6 P tt mt tb ka idx call o vs z (vj o.op)
def gV:Option AV->Bool->Option Bool
 |some (.o (.s (.v (.bool b)))),want=>some (b==want)
 |some (.t []),_=>some false
 |_,_=>none
def gD(r:R)(want:Bool):Option Oper->Option Bool
 |some o=>match o.dst with
  |some d=>gV (get r d) want
  |none=>none
 |none=>none
def guardE(all:List Oper)(r:R):Option (Nat×Bool)->Option Bool
 |none=>some true
 |some (j,want)=>gD r want all[j]?
def putE'(nt:Nat)(r:R)(z:Z)(d:Option Nat)(v:AV):Option (R×Z) :=
 match d with
 |some d=>bif Nat.blt d nt then some (set 12 r d (some v),z)else none
 |none=>some (r,z)
def aji(nt:Nat)(r:R)(d:Option Nat):Option (AV×Z)->Option (R×Z)
 |some (v,z)=>putE' nt r z d v
 |none=>none
def aaI(o:Oper)(z:Z):Option (List AV)->Option (AV×Z)
 |some vs=>oneE P tt mt tb ka idx call o vs z
 |none=>none
def stepG(nt:Nat)(o:Oper)(r:R)(z:Z):Option Bool->Option (R×Z)
 |some b=>Bool.rec (putE' nt r z o.dst (.t [])) (aji nt r o.dst (aaI P tt mt tb ka idx call o z (j7 r (jb o.op)))) b
 |none=>none
def HM(nt:Nat)(all:List Oper)(o:Oper)(r:R)(z:Z):Option (R×Z):=stepG P tt mt tb ka idx call nt o r z (guardE all r o.guard)
def regK(k:R->Z->Option (R×Z)):Option (R×Z)->Option (R×Z)
 |some (r,z)=>k r z
 |none=>none
def aaM(nt:Nat)(all l:List Oper):R->Z->Option (R×Z) :=
 List.rec (λr z=>some (r,z)) (λo _ k r z=>regK k (HM P tt mt tb ka idx call nt all o r z)) l
def isB(e:Edge):Bool:=match e.ground with
 |.textOnly _=>false
 |.gcOnly _=>false
 |_=>true
def bit(i:Nat):Nat:=Nat.shiftLeft 1 i
def Dj(l:List Edge):Nat:=List.rec 0 (λe _ m=>Bool.rec m (Nat.lor m (bit e.on)) (isB e)) l
structure Pt where
 i:Nat
 o:Oper
 k:Nat
 dm:Nat
 c:Nat
 hi:Nat
def wX(l:List Oper):Nat->List Pt:=List.rec (λ_=>[]) (λo _ g i=>⟨i,o,vj o.op,Dj o.after.toList,0,0⟩::g (Nat.succ i)) l
def isIn(i m:Nat):Bool:=Nat.testBit m i
def sub(a b:Nat):Bool:=Nat.beq (Nat.land a b) a
def G6(f:Pt->Bool)(l:List Pt):Option Pt:=List.rec none (λp _ r=>Bool.rec r (some p) (f p)) l
def orE:Option Pt->Option Pt->Option Pt
 |some p,_=>some p
 |none,y=>y
def H9(l:List Pt)(m:Nat):Option Pt :=
 orE (G6 (λp=>!(isIn p.i m)&&sub p.dm m&&!(Nat.beq p.k 2)) l) (G6 (λp=>!(isIn p.i m)&&sub p.dm m) l)
def orderK(g:Nat->Nat->Option (List Pt))(m c:Nat):Option Pt->Option (List Pt)
 |some p=>(match g (Nat.lor m (bit p.i)) (bif Nat.beq p.k 2 then Nat.succ c else c)with
  |some q=>some (⟨p.i,p.o,p.k,p.dm,c,0⟩::q)
  |none=>none)
 |none=>none
def order(l:List Pt)(n:Nat):Nat->Nat->Option (List Pt) :=
 Nat.rec (λ_ _=>some []) (λ_ g m c=>orderK g m c (H9 l m)) n
def oN(i d:Nat)(l:List Pt):Nat:=List.rec d (λp _ r=>Bool.rec r p.c (Nat.beq p.k 2&&isIn i p.dm)) l
def kZ(l:List Pt):Nat:=List.rec 0 (λp _ r=>Bool.rec r (Nat.succ r) (Nat.beq p.k 2)) l
def tmps:List Operand->List Nat
 |[]=>[]
 |.tmp t::l=>t::tmps l
 |_::l=>tmps l
def writer(t:Nat)(l:List Pt):Option Pt:=List.rec none (λp _ r=>match p.o.dst with
 |some d=>Bool.rec r (some p) (Nat.beq d t)
 |none=>r) l
def okT(l:List Pt)(p:Pt)(ts:List Nat):Bool:=List.rec true (λt _ r=>match writer t l with
 |some q=>(isIn q.i p.dm||isIn p.i q.dm)&&r
 |none=>r) ts
def okG(dm:Nat):Option (Nat×Bool)->Bool
 |none=>true
 |some (j,_)=>isIn j dm
def okD(l:List Pt)(p:Pt):Bool:=match p.o.dst with
 |some d=>(match writer d l with
  |some q=>Nat.beq q.i p.i
  |none=>false)
 |none=>true
def S9(l q:List Pt):Bool:=List.rec true (λp _ r=>okT l p (tmps (jb p.o.op))&&(okG p.dm p.o.guard&&(okD l p&&r))) q
def cOK(l:List Pt)(p:Pt):Bool:=Nat.beq p.c 0||List.rec false (λq _ r=>(isIn q.i p.dm&&(Nat.beq (bif Nat.beq q.k 2 then Nat.succ q.c else q.c) p.c))||r) l
def xe(l:List Pt)(C:Nat)(q:List Pt):List Pt:=q.map (λp=>⟨p.i,p.o,p.k,p.dm,p.c,oN p.i C l⟩)
def H8(all:List Oper):Option (List Pt) :=
 match wX all 0 with
 |l=>match order l all.length 0 0 with
  |some q=>bif S9 l l&&(q.all (cOK q) )then some (xe q (kZ q) q)else none
  |none=>none
structure Tk where
 p:Pt
 w:Bool
 vs:List AV
 v:AV
 n:Nat
structure Dr where
 r:R
 z:Z
 hs:List Z
 tk:List Tk
def drPut(nt:Nat)(d:Dr)(p:Pt)(w:Bool)(vs:List AV):Ld->Option Dr
 |some (v,z)=>(match putE' nt d.r z p.o.dst v with
  |some (r,z')=>some ⟨r,z',Bool.rec d.hs (d.z::d.hs) (Nat.beq p.k 2),⟨p,w,vs,v,d.z.n⟩::d.tk⟩
  |none=>none)
 |none=>none
def Z9(nt:Nat)(d:Dr)(p:Pt):Option (List AV)->Option Dr
 |some vs=>drPut nt d p true vs (W6 P tt mt tb ka idx call p.o vs d.z p.k)
 |none=>none
def drG(nt:Nat)(d:Dr)(p:Pt):Option Bool->Option Dr
 |some b=>Bool.rec (drPut nt d p false [] (some (.t [],d.z))) (Z9 P tt mt tb ka idx call nt d p (j7 d.r (jb p.o.op))) b
 |none=>none
def drK(k:Dr->Option Dr):Option Dr->Option Dr
 |some d=>k d
 |none=>none
def JD(nt:Nat)(all:List Oper)(l:List Pt):Dr->Option Dr :=
 List.rec (λd=>some d) (λp _ k d=>drK k (drG P tt mt tb ka idx call nt d p (guardE all d.r p.o.guard))) l
def sameVal:Value->Value->Bool
 |.int k a,.int k' b=>sameKind k k'&&decide (a=b)
 |.bool a,.bool b=>a==b
 |.string a,.string b=>a.data.toList==b.data.toList
 |.pointer none,.pointer none=>true
 |.slice none 0 0,.slice none 0 0=>true
 |.map none,.map none=>true
 |.nilFunc,.nilFunc=>true
 |.func (.func f) a b,.func (.func f') a' b'=>Nat.beq f f'&&(match a.toList,b.toList,a'.toList,b'.toList with
  |[],[],[],[]=>true
  |_,_,_,_=>false)
 |_,_=>false
def sameS:S->S->Bool
 |.v x,.v y=>sameVal x y
 |.p i o,.p i' o'=>Nat.beq i i'&&Nat.beq o o'
 |.sl i o m n,.sl i' o' m' n'=>Nat.beq i i'&&Nat.beq o o'&&Nat.beq m m'&&Nat.beq n n'
 |.m i,.m i'=>Nat.beq i i'
 |.c i,.c i'=>Nat.beq i i'
 |_,_=>false
def sameL{α:Type}(f:α->α->Bool):List α->List α->Bool
 |[],[]=>true
 |x::l,y::q=>f x y&&sameL f l q
 |_,_=>false
def sameV1:V1->V1->Bool
 |.s x,.s y=>sameS x y
 |.g l,.g q=>sameL sameS l q
 |_,_=>false
def sameAV:AV->AV->Bool
 |.o x,.o y=>sameV1 x y
 |.t l,.t q=>sameL sameV1 l q
 |_,_=>false
def sameBk:Bk->Bk->Bool
 |.c l,.c q=>sameL sameS l q
 |.m [] k,.m [] k'=>Nat.beq k k'
 |.f fn a b,.f fn' a' b'=>Nat.beq fn fn'&&sameL sameV1 a a'&&sameL sameV1 b b'
 |_,_=>false
def stays(t:Tk)(z:Z):Bool:=match t.w,t.p.k with
 |true,0=>(match AA P tt mt tb ka t.p.o t.vs z.h with
  |some v=>sameAV v t.v
  |none=>false)
 |true,1=>(match oZ tt mt t.p.o t.vs,get z.h t.n with
  |some (_,b),some b'=>sameBk b b'&&Nat.blt t.n z.n
  |_,_=>false)
 |_,_=>true
def uL(t:Tk)(lo hi:Nat)(hs:List Z):Bool :=
 List.rec (λ_=>true) (λz _ g c=>Bool.rec (g (Nat.succ c)) (stays P tt mt tb ka t z&&g (Nat.succ c)) (Nat.ble lo c&&Nat.ble c hi)) hs 0
def sr(t:Tk):Bool:=t.w&&Nat.beq t.p.k 1
def Qb(l:List Tk):Nat->Bool:=List.rec (λ_=>true) (λt _ g b=>Bool.rec (g b) (Nat.blt t.n b&&g t.n) (sr t)) l
def NS(d:Dr)(hs:List Z):Bool:=List.rec true (λt _ r=>(uL P tt mt tb ka t t.p.c t.p.hi hs&&r)) d.tk&&Qb d.tk d.z.n
def drFin:Option Dr->Option (R×Z)
 |some d=>Bool.rec none (some (d.r,d.z)) (NS P tt mt tb ka d (List.reverse (d.z::d.hs)))
 |none=>none
def ahe(nt:Nat)(all:List Oper)(r:R)(z:Z):Option (List Pt)->Option (R×Z)
 |some l=>drFin P tt mt tb ka (JD P tt mt tb ka idx call nt all l ⟨r,z,[],[]⟩)
 |none=>none
def Z8(nt:Nat)(all:List Oper)(r:R)(z:Z):Option (R×Z):=ahe P tt mt tb ka idx call nt all r z (H8 all)
abbrev Out:=Option (X×R×Z)
def outN:Option (R×Z)->Out
 |some (r,z)=>some (.n,r,z)
 |none=>none
def sqK(k:R->Z->Out):Out->Out
 |some (.n,r,z)=>k r z
 |some (.x i,r,z)=>some (.x i,r,z)
 |some (.g i,r,z)=>some (.g i,r,z)
 |some (.r,r,z)=>some (.r,r,z)
 |none=>none
def bkK(id:Nat):Out->Out
 |some (.n,r,z)=>some (.n,r,z)
 |some (.x j,r,z)=>bif Nat.beq j id then some (.n,r,z)else some (.x j,r,z)
 |some (.g i,r,z)=>some (.g i,r,z)
 |some (.r,r,z)=>some (.r,r,z)
 |none=>none
def scF(k:Code->R->Z->Out)(l:Nat)(r:R)(z:Z):Option Code->Out
 |some q=>k q r z
 |none=>some (.g l,r,z)
def scK(s:Code)(k:Code->R->Z->Out):Out->Out
 |some (.n,r,z)=>some (.n,r,z)
 |some (.x j,r,z)=>some (.x j,r,z)
 |some (.g l,r,z)=>scF k l r z (findLabel s l)
 |some (.r,r,z)=>some (.r,r,z)
 |none=>none
def cdK(a b:Out):Option AV->Out
 |some (.o (.s (.v (.bool t))))=>Bool.rec b a t
 |_=>none
def codeC(nt:Nat)(ih:Option Code->Code->R->Z->Out)(c:Code)(r:R)(z:Z):Out :=
 match c with
 |.skip=>some (.n,r,z)
 |.label _=>some (.n,r,z)
 |.region _ ops dr=>outN (Bool.rec (aaM P tt mt tb ka idx call nt ops.toList ops.toList r z) (Z8 P tt mt tb ka idx call nt ops.toList r z) dr)
 |.seq a b=>sqK (ih none b) (ih none a r z)
 |.cond c a b=>cdK (ih none a r z) (ih none b r z) (ev r c)
 |.block id c=>bkK id (ih none c r z)
 |.loop c=>sqK (ih none (.loop c)) (ih none c r z)
 |.scope c=>ih (some c) c r z
 |.exit id=>some (.x id,r,z)
 |.goto l=>some (.g l,r,z)
 |.ret=>some (.r,r,z)
 |_=>none
def codeS(nt:Nat)(ih:Option Code->Code->R->Z->Out)(sc:Option Code)(c:Code)(r:R)(z:Z):Out :=
 match sc with
 |none=>codeC P tt mt tb ka idx call nt ih c r z
 |some s=>scK s (ih (some s)) (ih none c r z)
def j9(nt:Nat)(n:Nat):Option Code->Code->R->Z->Out :=
 Nat.rec (λ_ _ _ _=>none) (λ_ ih=>codeS P tt mt tb ka idx call nt ih) n
end
def args:Nat->List V1->R->R
 |_,[],r=>r
 |i,v::l,r=>args (Nat.succ i) l (set 12 r i (some (.o v)))
def ajd(agg:Bool):Option (List S)->Option V1
 |some c=>mkv agg c
 |none=>none
def D8(r:R)(z:Z):List ResultVar->Option (List V1)
 |[]=>some []
 |.tmp t::l=>match get r t,D8 r z l with
  |some (.o v),some q=>some (v::q)
  |_,_=>none
 |.cell a t::l=>match get r a,get tt t,D8 r z l with
  |some (.o (.s (.p i o))),some ty,some q=>match ajd ty.agg (ld z.h i o ty.size)with
   |some v=>some (v::q)
   |none=>none
  |_,_,_=>none
def oneR:List V1->AV
 |[v]=>.o v
 |l=>.t l
def abc(fn:Func):Out->Option (AV×Z)
 |some (.n,r,z)=>match D8 tt r z fn.results.toList with
  |some q=>some (oneR q,z)
  |none=>none
 |some (.r,r,z)=>match D8 tt r z fn.results.toList with
  |some q=>some (oneR q,z)
  |none=>none
 |_=>none
def Vd(ih:FuncId->List V1->Z->Option (AV×Z))(idx:FuncId->Bool)(as:List V1)(z:Z):Option Func->Option (AV×Z)
 |some fn=>match fn.body with
  |some c=>bif Nat.ble as.length fn.ntmps then abc tt fn (j9 P tt mt tb ka idx ih fn.ntmps 100000 none c (args 0 as .e) z)else none
  |none=>none
 |none=>none
def hkK(y:Option (AV×Z)):Option (Option (AV×Z))->Option (AV×Z)
 |some x=>x
 |none=>y
def FB(ft:Tr Func)(idx:FuncId->Bool)(C6:FuncId->List V1->Z->Option (Option (AV×Z)))(n:Nat):FuncId->List V1->Z->Option (AV×Z) :=
 Nat.rec (λ_ _ _=>none) (λ_ ih f as z=>hkK (Vd P tt mt tb ka ih idx as z (get ft f)) (C6 f as z)) n
end
end
section
theorem lM{α:Type}:∀(f:Nat)(t:Tr α)(k:Nat)(x:Option α)(j:Nat)(y:α),get (set f t k x) j=some y->(j=k/\x=some y)∨(j≠k/\get t j=some y)
 |0,t,k,x,j,y,h=>by cases h
 |f+1,t,k,x,j,y,h=>by
  have beq:∀a b:Nat,Nat.beq a b=decide (a=b):=λa b=>by
   cases hb:Nat.beq a b with
   |true=>rw[aD hb];simp
   |false=>exact(kY (λe=>by rw[e,eH]at hb;cases hb)).symm
  have key:∀(l:Tr α)(v:Option α)(r:Tr α)(t':Tr α),(∀j,get t' j=get (.n l v r) j) ->
   get (Bool.rec (Bool.rec (.n l v (set f r (Nat.div k 2) x)) (.n (set f l (Nat.div k 2) x) v r) (Nat.beq (Nat.mod k 2) 0)) (.n l x r) (Nat.beq k 0):Tr α) j=some y ->
   (j=k/\x=some y)∨(j≠k/\get t' j=some y):=by
   intro l v r t' PF h;rw[PF];change ∀_,_ at *; by_cases hk:k=0
   .subst hk;have h:get (.n l x r) j=some y:=h;by_cases hj:j=0
    .subst hj;exact .inl ⟨rfl,h⟩
    .refine .inr ⟨hj,?_⟩;have e:Nat.beq j 0=false:=by rw[beq];simp[hj]
     change(Bool.rec (Bool.rec (get r (Nat.div j 2)) (get l (Nat.div j 2)) (Nat.beq (Nat.mod j 2) 0)) v (Nat.beq j 0):Option α)=some y;change(Bool.rec (Bool.rec (get r (Nat.div j 2)) (get l (Nat.div j 2)) (Nat.beq (Nat.mod j 2) 0)) x (Nat.beq j 0):Option α)=some y at h;rw[e]at h ⊢; exact h
   .have ek:Nat.beq k 0=false:=by rw[beq];simp[hk]
    rw[ek]at h;have h:get (Bool.rec (.n l v (set f r (Nat.div k 2) x)) (.n (set f l (Nat.div k 2) x) v r) (Nat.beq (Nat.mod k 2) 0):Tr α) j=some y:=h;cases hm:Nat.beq (Nat.mod k 2) 0 with
    |true =>
     rw[hm]at h;have h:(Bool.rec (Bool.rec (get r (Nat.div j 2)) (get (set f l (Nat.div k 2) x) (Nat.div j 2)) (Nat.beq (Nat.mod j 2) 0)) v (Nat.beq j 0):Option α)=some y:=h;change _∨(_/\(Bool.rec (Bool.rec (get r (Nat.div j 2)) (get l (Nat.div j 2)) (Nat.beq (Nat.mod j 2) 0)) v (Nat.beq j 0):Option α)=some y);by_cases hj:j=0
     .subst hj;exact .inr ⟨λe=>hk e.symm,h⟩
     .have ej:Nat.beq j 0=false:=by rw[beq];simp[hj]
      rw[ej]at h ⊢; have km:k%2=0:=aD hm;cases Uq:Nat.beq (Nat.mod j 2) 0 with
      |false =>
       rw[Uq]at h;have jm:¬j%2=0:=λe=>by have:Nat.mod j 2=0:=e;rw[this]at Uq;cases Uq
       exact .inr ⟨λe=>by omega,h⟩
      |true =>
       rw[Uq]at h;have jm:j%2=0:=aD Uq;rcases lM f l (Nat.div k 2) x (Nat.div j 2) y h with⟨e,hx⟩|⟨e,hx⟩
       .have e:j/2=k/2:=e;exact .inl ⟨by omega,hx⟩
       .refine .inr ⟨λe'=>e ?_,hx⟩;rw[e']
    |false =>
     rw[hm]at h;have h:(Bool.rec (Bool.rec (get (set f r (Nat.div k 2) x) (Nat.div j 2)) (get l (Nat.div j 2)) (Nat.beq (Nat.mod j 2) 0)) v (Nat.beq j 0):Option α)=some y:=h;change _∨(_/\(Bool.rec (Bool.rec (get r (Nat.div j 2)) (get l (Nat.div j 2)) (Nat.beq (Nat.mod j 2) 0)) v (Nat.beq j 0):Option α)=some y);by_cases hj:j=0
     .subst hj;exact .inr ⟨λe=>hk e.symm,h⟩
     .have ej:Nat.beq j 0=false:=by rw[beq];simp[hj]
      rw[ej]at h ⊢; have km:¬k%2=0:=λe=>by have:Nat.mod k 2=0:=e;rw[this]at hm;cases hm
      cases Uq:Nat.beq (Nat.mod j 2) 0 with
      |true=>rw[Uq]at h;have jm:j%2=0:=aD Uq;exact .inr ⟨λe=>by omega,h⟩
      |false =>
       rw[Uq]at h;have jm:¬j%2=0:=λe=>by have:Nat.mod j 2=0:=e;rw[this]at Uq;cases Uq
       rcases lM f r (Nat.div k 2) x (Nat.div j 2) y h with⟨e,hx⟩|⟨e,hx⟩
       .have e:j/2=k/2:=e;exact .inl ⟨by omega,hx⟩
       .refine .inr ⟨λe'=>e ?_,hx⟩;rw[e']
  cases t with
  |n l v r=>exact key l v r _ (λ_=>rfl) h
  |e =>
   refine key .e none .e .e (λj=>?_) h;change none=(Bool.rec (Bool.rec none none (Nat.beq (Nat.mod j 2) 0)) none (Nat.beq j 0):Option α)
   cases Nat.beq j 0<;>cases Nat.beq (Nat.mod j 2) 0<;>rfl
def FL{α β:Type}(R:α->β->Prop):List α->List β->Prop
 |[],[]=>True
 |a::l,b::q=>R a b/\FL R l q
 |_,_=>False
section FL
variable{α β:Type}{R:α->β->Prop}
theorem FL.len:∀{l:List α} {q:List β},FL R l q->l.length=q.length
 |[],[],_=>rfl
 |_::_,_::_,h=>by simp[FL.len h.2]
 |[],_::_,h=>h.elim
 |_::_,[],h=>h.elim
theorem FL.mono{R':α->β->Prop}(m:∀a b,R a b->R' a b):∀{l:List α} {q:List β},FL R l q->FL R' l q
 |[],[],_=>trivial
 |_::_,_::_,h=>⟨m _ _ h.1,FL.mono m h.2⟩
 |[],_::_,h=>h.elim
 |_::_,[],h=>h.elim
theorem FL.app:∀{l:List α} {q:List β} {l':List α} {q':List β},FL R l q->FL R l' q'->FL R (l++l') (q++q')
 |[],[],_,_,_,h'=>h'
 |_::_,_::_,_,_,h,h'=>⟨h.1,FL.app h.2 h'⟩
 |[],_::_,_,_,h,_=>h.elim
 |_::_,[],_,_,h,_=>h.elim
theorem FL.take:∀(n:Nat) {l:List α} {q:List β},FL R l q->FL R (l.take n) (q.take n)
 |0,_,_,_=>trivial
 |_+1,[],[],_=>trivial
 |n+1,_::_,_::_,h=>⟨h.1,FL.take n h.2⟩
 |_+1,[],_::_,h=>h.elim
 |_+1,_::_,[],h=>h.elim
theorem FL.drop:∀(n:Nat) {l:List α} {q:List β},FL R l q->FL R (l.drop n) (q.drop n)
 |0,_,_,h=>h
 |_+1,[],[],_=>trivial
 |n+1,_::_,_::_,h=>FL.drop n h.2
 |_+1,[],_::_,h=>h.elim
 |_+1,_::_,[],h=>h.elim
theorem FL.get:∀{l:List α} {q:List β},FL R l q->∀(i:Nat)(a:α),l[i]?=some a->∃b,q[i]?=some b/\R a b
 |[],[],_,i,a,h=>by simp at h
 |_::_,b::_,h,0,a,e=>by simp at e;subst e;exact⟨b,rfl,h.1⟩
 |_::_,_::_,h,i+1,a,e=>by simp at e;obtain⟨b,h1,h2⟩:=FL.get h.2 i a e;exact⟨b,by simpa using h1,h2⟩
 |[],_::_,h,_,_,_=>h.elim
 |_::_,[],h,_,_,_=>h.elim
theorem FL.map{γ:Type}{f:γ->α}{g:γ->β}(m:∀c,R (f c) (g c)):∀(l:List γ),FL R (l.map f) (l.map g)
 |[]=>trivial
 |c::l=>⟨m c,FL.map m l⟩
end FL
inductive En where
 |b (b s N:Nat)
 |m (b:Nat)
 |f (v:Value)
abbrev Mp:=Nat->Option En
def Le(M M':Mp):Prop:=∀i e,M i=some e->M' i=some e
theorem Le.refl(M:Mp):Le M M:=λ_ _ h=>h
theorem Le.trans{A B C:Mp}(h:Le A B)(k:Le B C):Le A C:=λi e x=>k i e (h i e x)
def VS(M:Mp):S->Value->Prop
 |.v x,v=>v=x
 |.p i o,v=>∃b s N,M i=some (.b b s N)/\v=.pointer (some ⟨b,s+o,none⟩)
 |.sl i o m n,v=>∃b s N cap a,M i=some (.b b s N)/\v=.slice (some a) n cap/\n<=cap/\(a=⟨b,s+o,none⟩/\o+cap*m<=N∨cap=0)
 |.m i,v=>∃b,M i=some (.m b)/\v=.map (some b)
 |.c i,v=>M i=some (.f v)/\∃p q r,v=.func p q r
abbrev VL(M:Mp):=FL (VS M)
def VV(M:Mp):V1->Value->Prop
 |.s x,v=>VS M x v
 |.g l,v=>∃vs,v=.agg vs.toArray/\VL M l vs
abbrev QT(M:Mp):=FL (VV M)
def VA(M:Mp):AV->Value->Prop
 |.o x,v=>VV M x v
 |.t l,v=>∃vs,v=.tuple vs.toArray/\QT M l vs
theorem VS.mono{M M':Mp}(h:Le M M'):∀{x:S} {v:Value},VS M x v->VS M' x v
 |.v _,_,e=>e
 |.p _ _,_,⟨b,s,N,h1,h2⟩=>⟨b,s,N,h _ _ h1,h2⟩
 |.sl _ _ _ _,_,⟨b,s,N,c,a,h1,h2⟩=>⟨b,s,N,c,a,h _ _ h1,h2⟩
 |.m _,_,⟨b,h1,h2⟩=>⟨b,h _ _ h1,h2⟩
 |.c _,_,e=>⟨h _ _ e.1,e.2⟩
theorem VV.mono{M M':Mp}(h:Le M M'):∀{x:V1} {v:Value},VV M x v->VV M' x v
 |.s _,_,e=>VS.mono h e
 |.g _,_,⟨vs,h1,h2⟩=>⟨vs,h1,h2.mono λ_ _=>VS.mono h⟩
theorem VA.mono{M M':Mp}(h:Le M M'):∀{x:AV} {v:Value},VA M x v->VA M' x v
 |.o _,_,e=>VV.mono h e
 |.t _,_,⟨vs,h1,h2⟩=>⟨vs,h1,h2.mono λ_ _=>VV.mono h⟩
def EN(M:Mp)(x:Value×V1×Nat)(e:MapEntry):Prop:=e.key=x.1/\VV M x.2.1 e.val/\e.born=x.2.2
def BR(M:Mp)(w:World):En->Bk->Prop
 |.b b s N,.c l=>∃arr t,w.heap[b]?=some (.cells arr t (0,0))/\arr.size=s+N/\l.length<=N/\VL M l ((arr.toList.drop s).take l.length)
 |.m b,.m es k=>∃arr,w.heap[b]?=some (.map arr k)/\FL (EN M) es arr.toList
 |.f v,.f fn p q=>∃vp vq,v=.func (.func fn) vp.toArray vq.toArray/\QT M p vp/\QT M q vq
 |_,_=>False
def En.wQ:En->Option Nat
 |.b x _ _=>some x
 |.m x=>some x
 |.f _=>none
theorem BR.mono{M M':Mp}{w w':World}(h:Le M M'):∀{e:En} {x:Bk},BR M w e x->(∀b,e.wQ=some b->w'.heap[b]?=w.heap[b]?)->BR M' w' e x
 |.b b s N,.c l,⟨arr,t,h1,h2,h3,h4⟩,k=>⟨arr,t,(k b rfl).trans h1,h2,h3,h4.mono λ_ _=>VS.mono h⟩
 |.m b,.m es ck,⟨arr,h1,h2⟩,k=>⟨arr,(k b rfl).trans h1,h2.mono λ_ _ q=>⟨q.1,VV.mono h q.2.1,q.2.2⟩⟩
 |.f v,.f fn p q,⟨vp,vq,h1,h2,h3⟩,_=>⟨vp,vq,h1,h2.mono λ_ _=>VV.mono h,h3.mono λ_ _=>VV.mono h⟩
 |.b _ _ _,.m _ _,h,_=>h.elim
 |.b _ _ _,.f _ _ _,h,_=>h.elim
 |.m _,.c _,h,_=>h.elim
 |.m _,.f _ _ _,h,_=>h.elim
 |.f _,.c _,h,_=>h.elim
 |.f _,.m _ _,h,_=>h.elim
theorem BR.lt{M:Mp}{w:World}:∀{e:En} {x:Bk} {b:Nat},BR M w e x->e.wQ=some b->b<w.heap.size
 |.b _ _ _,.c _,_,⟨_,_,h1,_⟩,e=>by cases e;exact(gw.1 h1).1
 |.m _,.m _ _,_,⟨_,h1,_⟩,e=>by cases e;exact(gw.1 h1).1
 |.f _,_,_,_,e=>by cases e
 |.b _ _ _,.m _ _,_,h,_=>h.elim
 |.b _ _ _,.f _ _ _,_,h,_=>h.elim
 |.m _,.c _,_,h,_=>h.elim
 |.m _,.f _ _ _,_,h,_=>h.elim
def Hp(M:Mp)(h:Tr Bk)(w:World):Prop:=∀i x e,get h i=some x->M i=some e->BR M w e x
structure Rel (w0:World) (M:Mp) (z:Z) (w:World):Prop where
 os:w.os=w0.os
 tape:w.tape=w0.tape
 output:w.output=w0.output
 size:w0.heap.size<=w.heap.size
 lS:∀b,b<w0.heap.size->w.heap[b]?=w0.heap[b]?
 nx:∀i,z.n<=i->M i=none
 fresh:∀i e b,z.lo<=i->M i=some e->e.wQ=some b->w0.heap.size<=b
 inj:∀i j x y e e' b,z.lo<=i->get z.h i=some x->get z.h j=some y->M i=some e->M j=some e'->e.wQ=some b->e'.wQ=some b->i=j
 hp:Hp M z.h w
structure Ext (z:Z) (M:Mp) (z':Z) (M':Mp):Prop where
 le:Le M M'
 same:∀i,i<z.n->M' i=M i
 n:z.n<=z'.n
theorem Ext.refl(z:Z)(M:Mp):Ext z M z M:=⟨Le.refl M,λ_ _=>rfl,aK _⟩
theorem Ext.trans{z z1 z2:Z}{M M1 M2:Mp}(h:Ext z M z1 M1)(k:Ext z1 M1 z2 M2):Ext z M z2 M2 :=
 ⟨h.le.trans k.le,λi hi=>(k.same i (dH hi h.n)).trans (h.same i hi),bP h.n k.n⟩
structure RR (nt:Nat) (M:Mp) (r:R) (a:Act):Prop where
 size:a.tmps.size=nt
 defers:a.defers=[]
 al:∀t av,get r t=some av->∃v,a.tmps[t]?=some v/\VA M av v
theorem RR.mono{nt:Nat}{M M':Mp}{r:R}{a:Act}(h:RR nt M r a)(le:Le M M'):RR nt M' r a :=
 ⟨h.size,h.defers,λt av e=>let⟨v,h1,h2⟩:=h.al t av e;⟨v,h1,h2.mono le⟩⟩
theorem CC(M:Mp)(v:Value):VA M (Ta v) v:=by
 have L:∀l:List Value,VL M (l.map .v) l:=λl=>by have:=FL.map (R:=VS M) (f:=S.v) (g:=id) (λc=>rfl) l;simpa using this
 cases v<;>try exact(rfl:_=_)
 case agg cs=>exact⟨cs.toList,by simp,L _⟩
 case tuple vs=>refine⟨vs.toList,by simp,?_⟩;have:=FL.map (R:=VV M) (f:=λv=>V1.s (S.v v)) (g:=id) (λc=>(rfl:VS M (.v c) c)) vs.toList;simpa using this
theorem Z3{nt:Nat}{M:Mp}{r:R}{a:Act}(h:RR nt M r a){x:Operand}{av:AV}(e:ev r x=some av):VA M av (a.eval x):=by
 cases x with
 |tmp t=>obtain⟨v,h1,h2⟩:=h.al t av e;simpa[Act.eval,h1]using h2
 |const v=>cases e;exact CC M v
 |func f=>cases e;exact(rfl:_=_)
 |global g=>cases e
def OR(M:Mp)(a:Act)(l:List Operand)(vs:List AV):Prop:=FL (λx av=>VA M av (a.eval x)) l vs
theorem Dd{r:R}{x:Operand}{l:List Operand}:j7 r (x::l)=consO (ev r x) (j7 r l):=rfl
theorem UW{nt:Nat}{M:Mp}{r:R}{a:Act}(h:RR nt M r a):∀{l:List Operand} {vs:List AV},j7 r l=some vs->OR M a l vs
 |[],vs,e=>by cases e;trivial
 |x::l,vs,e=>by
  rw[Dd]at e;cases h1:ev r x with
  |none=>rw[h1]at e;cases e
  |some av =>
   cases h2:j7 r l with
   |none=>rw[h1,h2]at e;cases e
   |some q=>rw[h1,h2]at e;cases e;exact⟨Z3 h h1,UW h h2⟩
theorem RR.put{nt:Nat}{M:Mp}{r r':R}{z z':Z}{a:Act}{d:Option Nat}{av:AV}{v:Value}(h:RR nt M r a)(e:putE' nt r z d av=some (r',z'))(hv:VA M av v):z'=z/\RR nt M r' (a.put d v):=by
 cases d with
 |none=>cases e;exact⟨rfl,h⟩
 |some d =>
  simp only[putE']at e;cases hb:Nat.blt d nt with
  |false=>rw[hb]at e;cases e
  |true =>
   rw[hb]at e;cases e;have eB:d<a.tmps.size:=by rw[h.size];exact aB hb
   refine⟨rfl,by simp[Act.put,h.size],h.defers,λt av' e'=>?_⟩;rcases lM _ _ _ _ _ _ e' with⟨rfl,e2⟩|⟨hne,e2⟩
   .cases e2;exact⟨v,by simp[Act.put,eB],hv⟩
   .obtain⟨u,h1,h2⟩:=h.al t av' e2;refine⟨u,?_,h2⟩;simp only[Act.put];rw[jL (bC hne)];exact h1
end
section
section
variable{P:Program}{tt:Tr sX}{mt:Tr (Nat×Nat×Value)}{tb:oQ}{ka:Nat->Nat->Bool}
structure ud (P:Program) (tt:Tr sX) (mt:Tr (Nat×Nat×Value)) (tb:oQ) (ka:Nat->Nat->Bool):Prop where
 t:∀t s,get tt t=some s->Wg P t=some s
 m:∀t k e z,get mt t=some (k,e,z)->P.underlying t=some (.map k e)/\(P.info? e).bind (·.zero)=some z/\(P.underlying k=some (.int .i64)∨ka 0 k=true/\∃d,P.underlying k=some d)
 b:dD P tb
 k:∀k,ka 0 k=true->∀(a b:Int)(e:Bool)(w:World),(Instr.checkKey e 10000 k (.agg #[.int .u32 a,.int .i64 b])).run P w=.ok () w
 k':∀k,ka 0 k=true->P.underlying k≠some (.int .i64)
 p:∀t,ka 1 t=true->∃e,P.underlying t=some (.pointer e)
def Yd(P:Program)(M:Mp)(a:Act)(w:World)(o:Oper)(av:AV):Prop:=∃v,(execOp a.eval o).run P w=.ok (.value v) w/\VA M av v
variable{M:Mp}{a:Act}{w:World}{o:Oper}{av:AV}{vs:List AV}{h:Tr Bk}
theorem gP{α:Type}{b:Bool}{x:Option α}{y:α}(h:(bif b then x else none)=some y):b=true/\x=some y:=by
 cases b with
 |true=>exact⟨rfl,h⟩
 |false=>cases h
theorem ahu{α:Type}{b:Bool}{x:Option α}{y:α}(h:(bif b then x else none)=some y):b=true/\x=some y:=gP h
theorem OR.one{x:Operand}{v:AV}(k:OR M a [x] [v]):VA M v (a.eval x):=k.1
theorem OR.two{x y:Operand}{v u:AV}(k:OR M a [x,y] [v,u]):VA M v (a.eval x)/\VA M u (a.eval y):=⟨k.1,k.2.1⟩
theorem zd{i off n b s N:Nat}{l:List S}(hh:Hp M h w)(e:ld h i off n=some l)(hM:M i=some (.b b s N)):
  ∃arr t,w.heap[b]?=some (.cells arr t (0,0))/\s+off+n<=arr.size/\VL M l ((arr.toList.drop (s+off)).take n)/\l.length=n:=by
 unfold ld at e;split at e
 .rename_i L hL;cases hc:Nat.ble (off+n) L.length with
  |false=>rw[hc]at e;cases e
  |true=>rw[hc]at e;have hle:=aB hc;cases e;obtain⟨arr,t,h1,h2,h3,h4⟩:=hh _ _ _ hL hM;refine⟨arr,t,h1,by omega,?_,by simp;omega⟩;have:=(h4.drop off).take n;rw[py,List.take_take,kx]at this;rwa[ky (by omega)]at this
 .cases e
theorem Lk{ag:Bool}{l:List S}{v:V1}{vs:List Value}(e:mkv ag l=some v)(hl:VL M l vs):(ag=true/\VV M v (.agg vs.toArray))∨(ag=false/\∃u,vs=[u]/\VV M v u):=by
 cases ag with
 |true=>cases e;exact .inl ⟨rfl,vs,rfl,hl⟩
 |false =>
  refine .inr ⟨rfl,?_⟩
  match l,vs,e,hl with
  |[x],[u],e,hl=>cases e;exact⟨u,rfl,hl.1⟩
  |[x],[],_,hl=>exact hl.elim
  |[x],_::_::_,_,hl=>exact hl.2.elim
theorem SQ(T:ud P tt mt tb ka)(hh:Hp M h w){t:Nat}{x:Operand}(e:pLoad tt t vs h=some av)(ho:o.op=.load t x)(hv:OR M a [x] vs):Yd P M a w o av:=by
 unfold pLoad at e;split at e
 .rename_i i off;obtain⟨b,s,N,h1,h2⟩:=hv.one;split at e
  .rename_i ty XK;split at e
   .rename_i l hl;split at e
    .rename_i v hm;cases e;obtain⟨arr,bt,g1,g2,g3,g4⟩:=zd hh hl h1;obtain⟨inf,d,z,hi,hd,hz,hs,lZ,lx,iA,_⟩:=a8 (T.t _ _ XK);have X8:w.heap[b]?=some (.cells arr.toList.toArray bt (0,0)):=by simpa using g1
     rcases Lk hm g3 with⟨ha,hv'⟩|⟨ha,u,hu,hv'⟩
     .refine⟨_,?_,hv'⟩;have:=lH (P:=P) (w:=w) (off:=s+off) hi hd (by rw[←iA,ha]) X8 (by simp;omega);rw[hs]at this;simp[execOp,ho,h2,Instr.loadAt,Instr.sureAddr,this]
     .refine⟨_,?_,hv'⟩;have hg:arr.toList[s+off]?=some u:=by
       have:((arr.toList.drop (s+off)).take ty.size)[0]?=some u:=by rw[hu];rfl
       rw[bQ]at this;split at this
       .simpa using this
       .cases this
      have:=lG (P:=P) (w:=w) (off:=s+off) hd (by rw[←iA,ha]) X8 hg;simp[execOp,ho,h2,Instr.loadAt,Instr.sureAddr,this]
    .cases e
   .cases e
  .cases e
 .cases e
theorem uY:∀{l:List Operand} {vs:List AV} {r:List (Nat×SV)},plainR l vs=some r->OR M a l vs->∀t sv,aa r t=some sv->∃x,sv=V x/\a.eval (.tmp t)=x/\Operand.tmp t∈l
 |[],[],r,e,_,t,sv,hl=>by cases e;cases hl
 |.tmp t'::l,.o (.s (.v x))::q,r,e,hv,t,sv,hl=>by
  simp only[plainR]at e;cases h1:plainR l q with
  |none=>rw[h1]at e;cases e
  |some r' =>
   rw[h1]at e;cases e;rcases aA hl with⟨rfl,rfl⟩|⟨_,hl'⟩
   .exact⟨x,rfl,hv.1,by simp⟩
   .obtain⟨x,h2,h3,h4⟩:=uY h1 hv.2 t sv hl';exact⟨x,h2,h3,by simp[h4]⟩
 |.const _::l,_::q,r,e,hv,t,sv,hl=>by obtain⟨x,h2,h3,h4⟩:=uY (l:=l) (vs:=q) (by simpa only[plainR]using e) hv.2 t sv hl;exact⟨x,h2,h3,by simp[h4]⟩
 |.global _::_,_::_,r,e,_,_,_,_=>by simp[plainR]at e
 |.func _::_,_::_,r,e,_,_,_,_=>by simp[plainR]at e
 |[],_::_,r,e,_,_,_,_=>by simp[plainR]at e
 |_::_,[],r,e,hv,_,_,_=>hv.elim
 |.tmp _::_,.o (.g _)::_,r,e,_,_,_,_=>by simp[plainR]at e
 |.tmp _::_,.t _::_,r,e,_,_,_,_=>by simp[plainR]at e
 |.tmp _::_,.o (.s (.p _ _))::_,r,e,_,_,_,_=>by simp[plainR]at e
 |.tmp _::_,.o (.s (.sl _ _ _ _))::_,r,e,_,_,_,_=>by simp[plainR]at e
 |.tmp _::_,.o (.s (.m _))::_,r,e,_,_,_,_=>by simp[plainR]at e
 |.tmp _::_,.o (.s (.c _))::_,r,e,_,_,_,_=>by simp[plainR]at e
theorem pX(T:ud P tt mt tb ka)(hn:∀t,.tmp t∈jb o.op->t<a.tmps.size)(hd:a.defers=[])(e:plainOp tb o vs=some av)(hv:OR M a (jb o.op) vs):Yd P M a w o av:=by
 unfold plainOp at e;split at e
 .rename_i r hr;split at e
  .rename_i x hx;have st:St a.tmps.size ⟨r,[]⟩ (λ_=>0) a w (λ_=>0):=by refine⟨rfl,hd,λt sv hl=>?_,λid q hq=>by cases hq⟩;obtain⟨x,rfl,hx,hm⟩:=uY hr hv t sv hl;have eB:=hn t hm;simp only[Act.eval]at hx;rw[sK eB];simp only[aP,bT];rw[←hx];simp[Array.getD,eB]
   have run:=yh (P:=P) (bj:=tb) T.b st hx;split at e
   .cases e
   .cases e
   .cases e;exact⟨x,run,rfl⟩
  .cases e
 .cases e
end
end
section
section
variable{P:Program}{tt:Tr sX}{mt:Tr (Nat×Nat×Value)}{tb:oQ}{ka:Nat->Nat->Bool}
variable{M:Mp}{a:Act}{w:World}{o:Oper}{av:AV}{vs:List AV}{h:Tr Bk}
theorem qf{k:AV}{j:Nat}(e:intOf k=some j){v:Value}(hv:VA M k v):∃kk,v=.int kk (.ofNat j):=by
 unfold intOf at e;split at e
 .rename_i kk i;cases i with
  |ofNat n=>cases e;exact⟨kk,hv⟩
  |negSucc n=>cases e
 .cases e
theorem l9(T:ud P tt mt tb ka){t e:Nat}(h:nX tt t=some e):P.underlying t=some (.slice e):=by
 unfold nX at h;split at h
 .rename_i ht;obtain⟨i,d,z,hi,hd,hz,hs,lZ,lx,iA,_,_,_,Uf,_⟩:=a8 (T.t _ _ ht);cases h;rw[hd,Uf _ rfl]
 .cases h
theorem F4(T:ud P tt mt tb ka){t n:Nat}(h:szOf tt t=some n):∃i,P.info? t=some i/\i.size=n:=by
 unfold szOf at h;split at h
 .rename_i s hs;obtain⟨i,d,z,hi,hd,hz,jh,_⟩:=a8 (T.t _ _ hs);cases h;exact⟨i,hi,jh⟩
 .cases h
theorem Ia{x:Operand}(e:pMove vs=some av)(ho:o.op=.move x∨o.op=.assign x)(hv:OR M a [x] vs):Yd P M a w o av:=by
 unfold pMove at e;split at e
 .cases e;refine⟨_,?_,hv.one⟩;rcases ho with ho|ho<;>simp[execOp,ho]
 .cases e
theorem SN{c x y:Operand}(e:pPick vs=some av)(ho:o.op=.pick c x y)(hv:OR M a [c,x,y] vs):Yd P M a w o av:=by
 unfold pPick at e;split at e
 .rename_i b u v;obtain⟨h1,h2,h3,_⟩:=hv;have h1:a.eval c=.bool b:=h1;cases e;cases b with
  |true=>exact⟨_,by simp[execOp,ho,h1,asBool],h2⟩
  |false=>exact⟨_,by simp[execOp,ho,h1,asBool],h3⟩
 .cases e
theorem WV{x:Operand}(e:pNil vs=some av)(ho:o.op=.nilCheck x)(hv:OR M a [x] vs):Yd P M a w o av:=by
 unfold pNil at e;split at e
 .cases e;obtain⟨b,s,N,h1,h2⟩:=hv.one;exact⟨_,by simp[execOp,ho,h2],b,s,N,h1,rfl⟩
 .cases e
theorem abb(T:ud P tt mt tb ka)(hn:∀t,.tmp t∈jb o.op->t<a.tmps.size)(hd:a.defers=[]){u:UnOp}{t:Nat}{x:Operand}(e:pUn tb o u vs=some av)(ho:o.op=.unOp u t x)(hv:OR M a (jb o.op) vs):Yd P M a w o av:=by
 unfold pUn at e;split at e
 .split at e
  .rename_i k n;split at e
   .rename_i v hv';cases e;rw[ho]at hv;have h1:a.eval x=.int k n:=hv.one;simp only[arith]at hv';cases hv';exact⟨_,by simp[execOp,ho,h1,Op.unary,Op.intBits],rfl⟩
   .cases e
  .cases e
 .exact pX T hn hd e hv
theorem zT{n:Value}(h:xE n=true):n=.pointer none:=by
 unfold xE at h;split at h
 .rfl
 .cases h
theorem pw{n:Value}(h:rn n=true):n=.slice none 0 0:=by
 unfold rn at h;split at h
 .rfl
 .cases h
theorem Fb{n:Value}(h:GN n=true):n=.map none:=by
 unfold GN at h;split at h
 .rfl
 .cases h
theorem Nn(T:ud P tt mt tb ka){t:Nat}(h:qT tt t=true):∃e,P.underlying t=some (.slice e):=by
 unfold qT at h;split at h
 .rename_i e he;exact⟨e,l9 T he⟩
 .cases h
theorem XD(T:ud P tt mt tb ka){t:Nat}(h:T2 mt t=true):∃k e,P.underlying t=some (.map k e):=by
 unfold T2 at h;split at h
 .rename_i q hq;exact⟨_,_,(T.m _ q.1 q.2.1 q.2.2 hq).1⟩
 .cases h
def Cmp:Value->Prop
 |.pointer _=>True
 |.slice _ _ _=>True
 |.map _=>True
 |.agg _=>True
 |_=>False
theorem binOp_eql{t:Nat}{u v:Value}(h:Cmp u):binOp .eql t u v=(do pure (.bool (←Op.equal t u v))):=by
 cases u<;>first|exact h.elim|(cases v<;>rfl)
theorem binOp_neq{t:Nat}{u v:Value}(h:Cmp u):binOp .neq t u v=(do pure (.bool (!(←Op.equal t u v)))):=by
 cases u<;>first|exact h.elim|(cases v<;>rfl)
theorem Ae{op:BinOp}{t yt:Nat}{x y:Operand}{b:Bool}(e:Z5 op b=some av)(ho:o.op=.binOp op t x y yt)
  (hg:(eqGuard op t x y (a.eval x) (a.eval y)).run P w=.ok () w) (hb:(Op.equal t (a.eval x) (a.eval y)).run P w=.ok b w) (hc:Cmp (a.eval x)):Yd P M a w o av:=by
 cases op<;>simp only[Z5]at e<;>try (cases e;done)
 .cases e;exact⟨_,by simp only[execOp,ho,bU,hg,bW,binOp_eql hc,hb,cM],rfl⟩
 .cases e;exact⟨_,by simp only[execOp,ho,bU,hg,bW,binOp_neq hc,hb,cM],rfl⟩
theorem oA{op:BinOp}{t:Nat}{x y:Operand}{u v:Value}(h:Cmp u)(h2:∀c,u≠.agg c):(eqGuard op t x y u v).run P w=.ok () w:=by
 cases u<;>first|exact h.elim|exact absurd rfl (h2 _)|(cases op<;>rfl)
theorem NQ{t el:Nat}(hu:P.underlying t=some (.pointer el))(p:Option Addr):(Op.equal t (.pointer p) (.pointer none)).run P w=.ok p.isNone w:=by
 unfold Op.equal Op.maxDepth Op.equalIn;cases p<;>simp[aH hu]
theorem NP{t el n c:Nat}(hu:P.underlying t=some (.slice el))(p:Option Addr):(Op.equal t (.slice p n c) (.slice none 0 0)).run P w=.ok p.isNone w:=by
 unfold Op.equal Op.maxDepth Op.equalIn;cases p<;>simp[aH hu]
theorem Yn{t k el:Nat}(hu:P.underlying t=some (.map k el))(b:Nat):(Op.equal t (.map (some b)) (.map none)).run P w=.ok false w:=by
 unfold Op.equal Op.maxDepth Op.equalIn;simp[aH hu]
theorem vX:∀{l:List S} {xs:List Value},rj l=some xs->∀{vs:List Value},VL M l vs->vs=xs
 |[],xs,e,[],_=>by cases e;rfl
 |.v x::l,xs,e,v::vs,h=>by
  simp only[rj]at e;split at e
  .rename_i q hq;cases e;rw[vX hq h.2,show v=x from h.1]
  .cases e
 |[],_,_,_::_,h=>h.elim
 |_::_,_,_,[],h=>h.elim
 |.p _ _::_,_,e,_,_=>by simp[rj]at e
 |.sl _ _ _ _::_,_,e,_,_=>by simp[rj]at e
 |.m _::_,_,e,_,_=>by simp[rj]at e
 |.c _::_,_,e,_,_=>by simp[rj]at e
theorem abm(T:dD P tb){t k:Nat}{xs:List Value}(hn:nf tb t=some k)(hk:k=xs.length):∀fs,P.underlying t=some (.struct fs)->xs.length=fs.size:=by
 intro fs' hu';unfold nf at hn;split at hn
 .rename_i amA GS;obtain⟨i,dd,z,hi,z6,hz,IY,lZ,lx,iA,im,_⟩:=a8 (T _ _ GS);obtain⟨l,rfl,hm⟩:=im _ rfl;rw[z6]at hu';cases hu';have:=CP hm;simp at hn;rw[←hk,←hn,this,cm]
 .cases hn
theorem WX(T:ud P tt mt tb ka)(hn:∀t,.tmp t∈jb o.op->t<a.tmps.size)(hd:a.defers=[]){op:BinOp}{t yt:Nat}{x y:Operand}(e:pBin P tt mt tb ka o op t vs=some av)(ho:o.op=.binOp op t x y yt)(hv:OR M a (jb o.op) vs):Yd P M a w o av:=by
 have hv':OR M a [x,y] vs:=by rw[ho]at hv;exact hv
 unfold pBin at e;split at e
 .rename_i u v;obtain⟨h1,h2⟩:=hv'.two;split at e
  .rename_i i off n;replace e:=gP e;obtain⟨hc,e⟩:=e;rw[ak]at hc;obtain⟨b,s,N,_,g1⟩:=h1;have g2:a.eval y=.pointer none:=by rw[show a.eval y=n from h2,zT hc.1]
   obtain⟨el,hu⟩:=T.p _ hc.2;exact Ae e ho (oA (by rw[g1];trivial) (by rw[g1];simp)) (by rw[g1,g2];exact NQ hu _) (by rw[g1];trivial)
  .rename_i i off m k n;replace e:=gP e;obtain⟨hc,e⟩:=e;rw[ak]at hc;obtain⟨b,s,N,cap,ad,_,g1,_⟩:=h1;have g2:a.eval y=.slice none 0 0:=by rw[show a.eval y=n from h2,pw hc.1]
   obtain⟨el,hu⟩:=Nn T hc.2;exact Ae e ho (oA (by rw[g1];trivial) (by rw[g1];simp)) (by rw[g1,g2];exact NP hu _) (by rw[g1];trivial)
  .rename_i i n;replace e:=gP e;obtain⟨hc,e⟩:=e;rw[ak]at hc;obtain⟨b,_,g1⟩:=h1;have g2:a.eval y=.map none:=by rw[show a.eval y=n from h2,Fb hc.1]
   obtain⟨kk,el,hu⟩:=XD T hc.2;exact Ae e ho (oA (by rw[g1];trivial) (by rw[g1];simp)) (by rw[g1,g2];exact Yn hu _) (by rw[g1];trivial)
  .rename_i n n';have g1:a.eval x=n:=h1;have g2:a.eval y=n':=h2;cases hc:(xE n&&xE n'&&ka 1 t)with
   |true=>rw[hc]at e;simp only[ak]at hc;rw[zT hc.1.1]at g1;rw[zT hc.1.2]at g2;obtain⟨el,hu⟩:=T.p _ hc.2;exact Ae e ho (oA (by rw[g1];trivial) (by rw[g1];simp)) (by rw[g1,g2];exact NQ hu _) (by rw[g1];trivial)
   |false =>
    rw[hc]at e;simp only[eQ]at e;cases hc:(rn n&&rn n'&&qT tt t)with
    |true=>rw[hc]at e;simp only[ak]at hc;rw[pw hc.1.1]at g1;rw[pw hc.1.2]at g2;obtain⟨el,hu⟩:=Nn T hc.2;exact Ae e ho (oA (by rw[g1];trivial) (by rw[g1];simp)) (by rw[g1,g2];exact NP hu _) (by rw[g1];trivial)
    |false =>
     rw[hc]at e;simp only[eQ]at e;have quo:∀q,quoE q n n'=some av->(op=.quo/\q=true∨op=.rem/\q=false)->Yd P M a w o av:=by
      intro q e hq;unfold quoE at e;split at e
      .rename_i k p k' r;replace e:=gP e;obtain⟨hc,e⟩:=e;simp only[ak,eI,pG,ne_eq]at hc;have:=fQ hc.1;subst this;cases e;rcases hq with⟨rfl,rfl⟩|⟨rfl,rfl⟩
       .exact⟨_,by simp[execOp,ho,g1,g2,binOp,Op.intDiv,hc.2,ik],rfl⟩
       .exact⟨_,by simp[execOp,ho,g1,g2,binOp,Op.intDiv,hc.2,ik],rfl⟩
      .cases e
     split at e
     .exact quo true e (.inl ⟨rfl,rfl⟩)
     .exact quo false e (.inr ⟨rfl,rfl⟩)
     .exact pX T hn hd e hv
  .cases e
 .rename_i u v;obtain⟨⟨VJ,g1,hx⟩,ys',g2,hy⟩:=hv'.two;split at e
  .rename_i xs ys Hr ZF;have:=vX Hr hx;subst this;have:=vX ZF hy;subst this;split at e
   .rename_i b hb;replace e:=gP e;obtain⟨hc,e⟩:=e;simp only[ak]at hc;obtain⟨⟨hf,hl⟩,hk⟩:=hc;split at hk
    .rename_i k Lw;obtain⟨fs,hu,q1,q2,q3⟩:=G5 hf;have hq:=tj (w:=w) hf hb (abm T.b Lw (aD hk));exact Ae e ho (by rw[g1,g2];exact run_eqGuard_agg w op t x y _ _ q2) (by rw[g1,g2];exact hq) (by rw[g1];trivial)
    .cases hk
   .cases e
  .cases e
 .cases e
theorem K7(T:ud P tt mt tb ka){s f:Nat}{x:Operand}(e:pFieldA tt s f vs=some av)(ho:o.op=.fieldAddr s x f)(hv:OR M a [x] vs):Yd P M a w o av:=by
 unfold pFieldA at e;split at e
 .rename_i i off;obtain⟨b,s',N,h1,h2⟩:=hv.one;split at e
  .rename_i sz xS z ag fs ht;split at e
   .rename_i ru qX ft hf;replace e:=gP e;obtain⟨acw,e⟩:=e;cases e;obtain⟨i,d,z,hi,hd,hz,hs,lZ,lx,iA,im,_⟩:=a8 (T.t _ _ ht);obtain⟨l,rfl,hm⟩:=im fs rfl;obtain⟨fd,GY,Ki⟩:=sj hm f _ hf;simp only[pH,Prod.mk.injEq]at Ki;obtain⟨j,hj,rfl,rfl,rfl⟩:=Ki;have hne:¬j.size=0:=by have:=aB acw;omega
    simp only[iD]at GY;refine⟨.pointer (some ⟨b,s'+off+fd.offset,none⟩),?_,b,s',N,h1,by rw[jH]⟩;simp[execOp,ho,h2,Instr.fieldAt,aH hd,GY,Instr.sureAddr,fieldPlace,Sv.run_sizeOf hj,hne,Addr.add_lit]
   .cases e
  .cases e
 .cases e
theorem MR(T:ud P tt mt tb ka){ft ru:Nat}{ty:sX}(ht:get tt ft=some ty){l:List S}{cs:List Value}(hl:VL M l cs){v:V1}(hle:ru+ty.size<=l.length)(e:mkv ty.agg ((l.drop ru).take ty.size)=some v):
  ∃u,(part ft cs.toArray ru).run P w=.ok u w/\VV M v u:=by
 obtain⟨i2,d2,z2,hi2,ZW,IW,hs2,amm,alC,yW,_⟩:=a8 (T.t _ _ ht);have hq:=(hl.drop ru).take ty.size;rcases Lk e hq with⟨ha,hv⟩|⟨ha,u,hu,hv⟩
 .refine⟨_,?_,hv⟩;rw[ha]at yW;simp[part,Sv.ig ZW,←yW,Sv.run_sizeOf hi2,hs2,List.take_drop,Nat.add_comm]
 .refine⟨u,?_,hv⟩;rw[ha]at yW;have hg:cs[ru]?=some u:=by
   have:((cs.drop ru).take ty.size)[0]?=some u:=by rw[hu];rfl
   rw[bQ]at this;split at this
   .simpa using this
   .cases this
  simp[part,Sv.ig ZW,←yW,hg]
theorem O0(T:ud P tt mt tb ka){s f:Nat}{x:Operand}(e:pField tt s f vs=some av)(ho:o.op=.field s x f)(hv:OR M a [x] vs):Yd P M a w o av:=by
 unfold pField at e;split at e
 .rename_i l;obtain⟨cs,h1,h2⟩:=hv.one;split at e
  .rename_i sz xS z ag fs ht;split at e
   .rename_i ru qX ft hf;split at e
    .rename_i ty XK;replace e:=gP e;obtain⟨hc,e⟩:=e;rw[ak]at hc;have Ec:=aD hc.1;subst Ec;split at e
     .rename_i v hm;cases e;obtain⟨u,hu,XI⟩:=MR (w:=w) T XK h2 (aB hc.2) hm;obtain⟨i,d,z,hi,hd,hz,hs,lZ,lx,iA,im,_⟩:=a8 (T.t _ _ ht);obtain⟨l',rfl,PJ⟩:=im fs rfl;obtain⟨fd,GY,Ki⟩:=sj PJ f _ hf;simp only[pH,Prod.mk.injEq]at Ki;obtain⟨j,hj,rfl,hjs,rfl⟩:=Ki;simp only[iD]at GY;exact⟨u,by simp[execOp,ho,h1,Instr.field,aH hd,GY,asAgg,hu],XI⟩
     .cases e
    .cases e
   .cases e
  .cases e
 .cases e
theorem K6(T:ud P tt mt tb ka){t:Nat}{x y:Operand}(e:pIndexA tt t vs=some av)(ho:o.op=.indexAddr t x y)(hv:OR M a [x,y] vs):Yd P M a w o av:=by
 unfold pIndexA at e;split at e
 .rename_i i off m n k;obtain⟨⟨b,s,N,cap,ad,h1,h2,h3,h4⟩,hk⟩:=hv.two;split at e
  .rename_i el ll;split at e
   .rename_i m' j PJ hj;replace e:=gP e;obtain⟨hc,e⟩:=e;rw[ak]at hc;have:=aD hc.1;subst this;have eB:j<n:=aB hc.2;cases e;obtain⟨kk,Kg⟩:=qf hj hk;obtain⟨inf,hi,jh⟩:=F4 T PJ;have Ht:ad=⟨b,s+off,none⟩:=by
     rcases h4 with h4|h4
     .exact h4.1
     .omega
    subst Ht;have:=qH (P:=P) (w:=w) (c:=cap) (k:=kk) (l9 T ll) hi jh (ad:=some ⟨b,s+off,none⟩) rfl (i:=.ofNat j) (len:=n) (by simp) (by simp;omega);simp at this;exact⟨_,by simp[execOp,ho,h2,Kg,this];rfl,b,s,N,h1,by simp[jH]⟩
   .cases e
  .cases e
 .rename_i i off k;obtain⟨⟨b,s,N,h1,h2⟩,hk⟩:=hv.two;split at e
  .rename_i sz xS z ag n el es j ht hj;replace e:=gP e;obtain⟨hc,e⟩:=e;have eB:j<n:=aB hc;cases e;obtain⟨kk,Kg⟩:=qf hj hk;obtain⟨inf,d,zv,hi,hd,hz,hs,lZ,lx,iA,_,PU,_⟩:=a8 (T.t _ _ ht);obtain⟨rfl,jj,hjj,rfl⟩:=PU _ _ _ rfl;refine⟨.pointer (some ⟨b,s+off+j*jj.size,none⟩),?_,b,s,N,h1,by simp[jH]⟩;have h0:(0:Int)<=(j:Int):=by omega
   have NC:(j:Int)<(n:Int):=by omega
   simp[execOp,ho,h2,Kg,Instr.indexAt,aH hd,asIntOf,Instr.sureAddr,eB,Sv.run_sizeOf hjj,Addr.add_lit]
  .cases e
 .cases e
theorem OZ(T:ud P tt mt tb ka){t:Nat}{x y:Operand}(e:pIndex tt t vs=some av)(ho:o.op=.index t x y)(hv:OR M a [x,y] vs):Yd P M a w o av:=by
 unfold pIndex at e;split at e
 .rename_i s k;obtain⟨h1,hk⟩:=hv.two;have h1:a.eval x=.string s:=h1;split at e
  .rename_i sz xS z ag j ht hj;split at e
   .rename_i b hb;cases e;obtain⟨kk,Kg⟩:=qf hj hk;obtain⟨inf,d,zv,hi,hd,hz,hs,lZ,lx,iA,_,_,_,_,im,_⟩:=a8 (T.t _ _ ht);rw[im rfl]at hd;have hg:s[j]?=some b:=by simp only[iD]at hb;rw[←hb];rfl
    exact⟨_,by simp[execOp,ho,h1,Kg,Instr.index,asIntOf,aH hd,hg],rfl⟩
   .cases e
  .cases e
 .rename_i l k;obtain⟨⟨cs,h1,h2⟩,hk⟩:=hv.two;split at e
  .rename_i sz xS z ag n el es j ht hj;replace e:=gP e;obtain⟨hc,e⟩:=e;have eB:j<n:=aB hc;split at e
   .rename_i ty XK;replace e:=gP e;obtain⟨hc,e⟩:=e;rw[ak]at hc;have Ec:=aD hc.1;split at e
    .rename_i v hm;cases e;obtain⟨kk,Kg⟩:=qf hj hk;obtain⟨inf,d,zv,hi,hd,hz,hs,lZ,lx,iA,_,PU,_⟩:=a8 (T.t _ _ ht);obtain⟨rfl,jj,hjj,rfl⟩:=PU _ _ _ rfl;rw[←Ec]at hm hc;obtain⟨u,hu,XI⟩:=MR (w:=w) T XK h2 (aB hc.2) hm;rw[Ec]at hu;exact⟨u,by simp[execOp,ho,h1,Kg,Instr.index,aH hd,asIntOf,eB,Sv.run_sizeOf hjj,hu],XI⟩
    .cases e
   .cases e
  .cases e
 .cases e
theorem Ib{x:Operand}{i:Nat}(e:pExtract i vs=some av)(ho:o.op=.extract x i)(hv:OR M a [x] vs):Yd P M a w o av:=by
 unfold pExtract at e;split at e
 .rename_i l;obtain⟨us,h1,h2⟩:=hv.one;split at e
  .rename_i v hv';cases e;obtain⟨u,g1,g2⟩:=h2.get _ _ hv';exact⟨u,by simp[execOp,ho,h1,Instr.extract,g1],g2⟩
  .cases e
 .cases e
end
end
end Go.Ex
set_option maxRecDepth 4000
namespace Go.Ex
open Go Go.Sv
section
section
variable{P:Program}{tt:Tr sX}{mt:Tr (Nat×Nat×Value)}{tb:oQ}{ka:Nat->Nat->Bool}
variable{M:Mp}{a:Act}{w:World}{o:Oper}{av:AV}{vs:List AV}{h:Tr Bk}
def Bd(a:Act)(x:Option Operand)(l:Option Nat):Prop:=match x,l with
 |none,none=>True
 |some y,some n=>∃k,a.eval y=.int k (.ofNat n)
 |_,_=>False
theorem qN{x:Option Operand}{r:List Operand}{q q':List AV}{l:Option Nat}(e:pZ x.isSome q=some (l,q'))(hv:OR M a (x.toList++r) q):Bd a x l/\OR M a r q':=by
 cases x with
 |none =>
  cases q with
  |nil=>cases e;exact⟨trivial,hv⟩
  |cons y q=>cases e;exact⟨trivial,hv⟩
 |some y =>
  cases q with
  |nil=>cases e
  |cons u q =>
   simp only[pZ,Option.isSome_some,cG]at e;split at e
   .rename_i n hn;cases e;obtain⟨kk,hk⟩:=qf hn hv.1;exact⟨⟨kk,hk⟩,hv.2⟩
   .cases e
theorem FC{n A B:Nat}{l h:Option Nat}(e:bounds n l h=some (A,B)):A=l.getD 0/\B=h.getD n/\A<=B/\B<=n:=by
 simp only[bounds]at e;replace e:=gP e;obtain⟨hc,e⟩:=e;rw[ak]at hc;cases e;exact⟨rfl,rfl,aB hc.1,aB hc.2⟩
theorem xn{lo hi mx:Option Operand}{l h m:Option Nat}{n cap:Nat}{b:Bool}(h1:Bd a lo l)(h2:Bd a hi h)(h3:Bd a mx m)(hn:n<=cap)(hB:h.getD n<=m.getD cap)(hA:l.getD 0<=h.getD n)(hm:m.getD cap<=cap)(hmh:m.isSome=true->h.isSome=true):
  (Instr.sliceBounds b n cap (lo.map a.eval) (hi.map a.eval) (mx.map a.eval)).run P w=.ok (l.getD 0,h.getD n,m.getD cap) w:=by
 cases mx with
 |none =>
  cases m with
  |some _=>exact h3.elim
  |none =>
   cases hi with
   |none =>
    cases h with
    |some _=>exact h2.elim
    |none =>
     cases lo with
     |none=>cases l with
      |some _=>exact h1.elim
      |none=>simp[Instr.sliceBounds]
     |some y=>cases l with
      |none=>exact h1.elim
      |some p=>obtain⟨k,hk⟩:=h1;simp at hA;simp[Instr.sliceBounds,hk,Instr.sliceBound,asIntOf,hA]
   |some z =>
    cases h with
    |none=>exact h2.elim
    |some q =>
     obtain⟨k',Lw⟩:=h2;simp at hB hA;cases lo with
     |none=>cases l with
      |some _=>exact h1.elim
      |none=>simp[Instr.sliceBounds,Lw,Instr.sliceBound,asIntOf,hB]
     |some y=>cases l with
      |none=>exact h1.elim
      |some p=>obtain⟨k,hk⟩:=h1;simp at hA;simp[Instr.sliceBounds,hk,Lw,Instr.sliceBound,asIntOf,hA,hB]
 |some zz =>
  cases m with
  |none=>exact h3.elim
  |some r =>
   obtain⟨k'',agx⟩:=h3;simp at hm hB;cases hi with
   |none =>
    cases h with
    |some _=>exact h2.elim
    |none=>simp at hmh
   |some z =>
    cases h with
    |none=>exact h2.elim
    |some q =>
     obtain⟨k',Lw⟩:=h2;simp at hB hA;cases lo with
     |none=>cases l with
      |some _=>exact h1.elim
      |none=>simp[Instr.sliceBounds,Lw,agx,Instr.sliceBound,asIntOf,hB,hm]
     |some y=>cases l with
      |none=>exact h1.elim
      |some p=>obtain⟨k,hk⟩:=h1;simp at hA;simp[Instr.sliceBounds,hk,Lw,agx,Instr.sliceBound,asIntOf,hA,hB,hm]
theorem OH(T:ud P tt mt tb ka){t:Nat}{x:Operand}{lo hi mx:Option Operand}{l h' m:Option Nat}{y:Value}(e:sliceV tt t l h' m y=some av)(ho:o.op=.slice t x lo hi mx)(hx:a.eval x=y)(h1:Bd a lo l)(h2:Bd a hi h')(h3:Bd a mx m):Yd P M a w o av:=by
 unfold sliceV at e;split at e
 .rename_i s;split at e
  .rename_i sz xS z ag ht;split at e
   .rename_i A B hb;cases e;obtain⟨rfl,rfl,g3,g4⟩:=FC hb;obtain⟨inf,d,zv,lg,hd,hz,hs,lZ,lx,iA,_,_,_,_,im,_⟩:=a8 (T.t _ _ ht);rw[im rfl]at hd;have hmx:mx=none:=by cases mx with
     |none=>rfl
     |some _=>exact h3.elim
    subst hmx;have hlen:s.data.toList.length=s.size:=rfl;rw[hlen]at g3 g4;have:=xn (P:=P) (w:=w) (b:=false) (n:=s.size) (cap:=s.size) h1 h2 h3 (aK _) g4 g3 (aK _) (by simp);simp only[Option.map_none]at this;refine⟨.string (s.extract (l.getD 0) (h'.getD s.size)),?_,?_⟩
    .simp[execOp,ho,hx,Instr.sliceAt,Instr.slice,aH hd,this]
    .show Value.string _=Value.string _;congr 1;rw[hlen];have hs:s=bs s.data.toList:=by cases s;simp only[bs,dI]
     conv=>lhs;rw[hs]
     rw[tZ];rfl
   .cases e
  .cases e
 .split at e
  .rename_i sz jh;split at jh
   .rename_i el ll;obtain⟨inf,lg,_⟩:=F4 T jh;replace e:=gP e;obtain⟨hc,e⟩:=e;simp only[ak]at hc;obtain⟨c1,c2,c3,c4,c5⟩:=hc;have e:=Option.some.inj e;subst e;have hy:=pw c4;have c1:=aD c1;have c2:=aD c2;have c3:=aD c3;have:=xn (P:=P) (w:=w) (b:=true) (n:=0) (cap:=0) h1 h2 h3 (aK _) (by omega) (by omega) (by omega) (by cases m<;>simp_all);refine⟨.slice none 0 0,?_,by rw[hy];exact(rfl:_=_)⟩;simp[execOp,ho,hx,hy,Instr.sliceAt,Instr.slice,aH (l9 T ll),this,c1,c2,c3,Sv.run_sizeOf lg]
   .cases jh
  .cases e
theorem OI(T:ud P tt mt tb ka){t:Nat}{x:Operand}{lo hi mx:Option Operand}{l h' m:Option Nat}{i off m' n:Nat}(e:sliceL tt t l h' m i off m' n=some av)(ho:o.op=.slice t x lo hi mx)(hx:VS M (.sl i off m' n) (a.eval x))(h1:Bd a lo l)(h2:Bd a hi h')(h3:Bd a mx m):Yd P M a w o av:=by
 unfold sliceL at e;split at e
 .rename_i el ll;split at e
  .rename_i s A B hs hb;replace e:=gP e;obtain⟨hc,e⟩:=e;have e:=Option.some.inj e;subst e;rw[ak]at hc;obtain⟨A7,hm⟩:=hc;have A7:=aD A7;subst A7;obtain⟨hA,hB,g3,g4⟩:=FC hb;obtain⟨inf,lg,jh⟩:=F4 T hs;obtain⟨b,s',N,cap,ad,q1,q2,q3,q4⟩:=hx;have PJ:B<=m.getD cap/\m.getD cap<=cap/\(m.isSome=true->h'.isSome=true):=by
    cases m with
    |none=>simp;omega
    |some c=>simp only[ak]at hm;have:=aB hm.1;have:=aB hm.2.1;exact⟨by simpa,by simp;omega,λ_=>hm.2.2⟩
   obtain⟨k1,k2,k3⟩:=PJ;have:=xn (P:=P) (w:=w) (b:=true) (n:=n) (cap:=cap) h1 h2 h3 q3 (by rw[←hB];exact k1) (by rw[←hA,←hB];exact g3) k2 k3;rw[←hA,←hB]at this;have run:∀sW,(if m.getD cap=A then some ad else some (ad.add (A*s)))=some sW->(execOp a.eval o).run P w=.ok (.value (.slice (some sW) (B-A) (m.getD cap-A))) w:=by intro sW he;rw[←jh]at he;simp[execOp,ho,q2,Instr.sliceAt,Instr.slice,aH (l9 T ll),this,Sv.run_sizeOf lg];exact he
   by_cases hmA:m.getD cap=A
   .refine⟨_,run ad (by simp[hmA]),b,s',N,_,_,q1,rfl,by omega,.inr (by omega)⟩
   .rcases q4 with⟨rfl,q4⟩|q4
    .refine⟨_,run ⟨b,s'+off+A*s,none⟩ (by simp[hmA,Addr.add_lit]),b,s',N,_,_,q1,rfl,by omega,.inl ⟨by rw[jH],?_⟩⟩;have:A*s+(m.getD cap-A)*s=m.getD cap*s:=by rw[←Nat.add_mul];congr 1;omega
     have:=cP s k2;omega
    .omega
  .cases e
 .cases e
theorem OY(T:ud P tt mt tb ka){t:Nat}{x:Operand}{lo hi mx:Option Operand}(e:pSlice tt t lo hi mx vs=some av)(ho:o.op=.slice t x lo hi mx)(hv:OR M a (jb o.op) vs):Yd P M a w o av:=by
 rw[ho]at hv;unfold pSlice at e;split at e
 .rename_i y q;obtain⟨hy,hv⟩:=hv;split at e
  .rename_i l q1 e1;split at e
   .rename_i h' q2 e2;split at e
    .rename_i m q3 e3;obtain⟨b1,hv⟩:=qN e1 hv;obtain⟨b2,hv⟩:=qN e2 hv;obtain⟨b3,hv⟩:=qN (r:=[]) e3 (by simpa using hv);split at e
     .exact OH T e ho hy b1 b2 b3
     .exact OI T e ho hy b1 b2 b3
     .cases e
    .cases e
   .cases e
  .cases e
 .cases e
theorem Jv{x:Int}:∀{es:List (Value×V1×Nat)} {l:List MapEntry} {r:Option V1} (j:Nat),findE (.int .i64 x) es=some r->FL (EN M) es l ->
  match r with
  |none=>Instr.findNow (.int .i64) (.int .i64 x) l j=some none
  |some v=>∃k u,Instr.findNow (.int .i64) (.int .i64 x) l j=some (some (k,u))/\VV M v u
 |[],[],r,j,e,_=>by cases e;rfl
 |(y,v,b)::es,en::l,r,j,e,h=>by
  obtain⟨⟨h1,h2,_⟩,h3⟩:=h;simp only[findE]at e;cases y with
  |int k z =>
   simp only[E8]at e;cases hk:sameKind .i64 k with
   |false=>rw[hk]at e;cases e
   |true =>
    have:=fQ hk;subst this;rw[hk]at e;simp only[cG]at e;simp only at h1;by_cases hxz:x=z
    .subst hxz;simp only[decide_true]at e;cases e;exact⟨j,en.val,by simp[Instr.findNow,Instr.sameNow,h1],h2⟩
    .simp only[hxz,decide_false]at e;have ih:=Jv (j+1) e h3;have hs:Instr.sameNow (.int .i64) (.int .i64 x) en.key=some false:=by simp[Instr.sameNow,h1,hxz]
     cases r with
     |none=>simpa only[Instr.findNow,hs]using ih
     |some v=>simpa only[Instr.findNow,hs]using ih
  |_=>simp[E8]at e
 |[],_::_,_,_,_,h=>h.elim
 |_::_,[],_,_,_,h=>h.elim
theorem Dg{x:S}{es:List (Value×V1×Nat)}(e:entries x h=some es)(hh:Hp M h w){v:Value}(hv:VS M x v):(es=[]/\v=.map none)∨∃b arr k,v=.map (some b)/\w.heap[b]?=some (.map arr k)/\FL (EN M) es arr.toList:=by
 unfold entries at e;split at e
 .replace e:=gP e;obtain⟨hc,e⟩:=e;cases e;exact .inl ⟨rfl,by rw[←Fb hc];exact hv⟩
 .rename_i i;obtain⟨b,h1,h2⟩:=hv;split at e
  .rename_i BA k hg;cases e;obtain⟨arr,g1,g2⟩:=hh _ _ _ hg h1;exact .inr ⟨b,arr,k,h2,g1,g2⟩
  .cases e
 .cases e
theorem Ju(T:ud P tt mt tb ka){kt:Nat}{kk:V1}{es:List (Value×V1×Nat)}{l:List MapEntry}{r:Option V1}{kv:Value}(e:Fj ka kt kk es=some r)(hk:P.underlying kt=some (.int .i64)∨ka 0 kt=true/\∃d,P.underlying kt=some d)(hf:FL (EN M) es l)(hv:VV M kk kv):
  (∀b,(Instr.checkKey b 10000 kt kv).run P w=.ok () w)/\match r with
  |none=>(Instr.findKey kt kv l).run P w=.ok none w
  |some v=>∃k u,(Instr.findKey kt kv l).run P w=.ok (some (k,u)) w/\VV M v u:=by
 cases kk with
 |s s =>
  cases s with
  |v y =>
   cases y with
   |int k x =>
    cases k with
    |i64 =>
     have e:(bif ka 0 kt then none else findE (.int .i64 x) es)=some r:=e;have hv:kv=.int .i64 x:=hv;subst hv;cases Kh:ka 0 kt with
     |true=>rw[Kh]at e;cases e
     |false =>
      rw[Kh]at e;rcases hk with hk|⟨hk,_⟩
      .refine⟨λb=>MapKept.run_checkKey (k:=.int .i64 x) hk rfl b 9999,?_⟩;have:=Jv 0 e hf;cases r with
       |none=>exact MapKept.run_findKey hk this
       |some v=>obtain⟨k,u,h1,h2⟩:=this;exact⟨k,u,MapKept.run_findKey hk h1,h2⟩
      .rw[Kh]at hk;cases hk
    |_=>simp[Fj]at e
   |_=>simp[Fj]at e
  |_=>simp[Fj]at e
 |g q =>
  obtain⟨us,rfl,hu⟩:=hv;simp only[Fj]at e;split at e
  .rename_i e1 e2;replace e:=gP e;obtain⟨hc,e⟩:=e;have e:=Option.some.inj e;subst e;have:=vX (by assumption) hu;subst this;have hl:l=[]:=by cases l with
    |nil=>rfl
    |cons _ _=>exact hf.elim
   subst hl;refine⟨λb=>T.k _ hc _ _ b w,?_⟩;rcases hk with hk|⟨_,d,hd⟩
   .exact absurd hk (T.k' _ hc)
   .exact MapKept.run_findKey hd rfl
  .cases e
theorem SO(T:ud P tt mt tb ka)(hh:Hp M h w){t:Nat}{ok:Bool}{x y:Operand}(e:pLook mt ka t ok vs h=some av)(ho:o.op=.lookup t x y ok)(hv:OR M a [x,y] vs):Yd P M a w o av:=by
 unfold pLook at e;split at e
 .rename_i s kk;obtain⟨g1,g2⟩:=hv.two;split at e
  .rename_i kt et zv es hm hes;obtain⟨hu,hz,hkt⟩:=T.m _ _ _ _ hm;obtain⟨inf,hi,hzi⟩:=qp.1 hz;have QJ:(zeroValue et).run P w=.ok zv w:=by simp[zeroValue,typeInfo,hi,hzi]
   have main:∀l:List MapEntry,FL (EN M) es l->((∃b k,a.eval x=.map (some b)/\w.heap[b]?=some (.map l.toArray k))∨a.eval x=.map none/\l=[])->Yd P M a w o av:=by
    intro l hf hx;split at e
    .rename_i v _ hfv;obtain⟨c1,k,u,c2,c3⟩:=Ju (w:=w) T hfv hkt hf g2;have e:=Option.some.inj e;subst e;have run:∀r,r=(if ok then Value.tuple #[u,.bool true]else u)->(execOp a.eval o).run P w=.ok (.value r) w:=by
      intro r hr;subst hr;rcases hx with⟨b,k',hx,hb⟩|⟨hx,rfl⟩
      .cases ok<;>simp[execOp,ho,hx,Instr.lookup,aH hu,iE hb,c1,c2]
      .cases ok<;>simp[execOp,ho,hx,Instr.lookup,aH hu,c1,c2]
     refine⟨_,run _ rfl,?_⟩;cases ok with
     |true=>exact⟨[u,.bool true],rfl,c3,rfl,trivial⟩
     |false=>exact c3
    .rename_i v hfv hov;obtain⟨c1,c2⟩:=Ju (w:=w) T hfv hkt hf g2;simp only at c2;have e:=Option.some.inj e;subst e;have hzv:VV M v zv:=by have:=CC M zv;rw[hov]at this;exact this
     have run:∀r,r=(if ok then Value.tuple #[zv,.bool false]else zv)->(execOp a.eval o).run P w=.ok (.value r) w:=by
      intro r hr;subst hr;rcases hx with⟨b,k',hx,hb⟩|⟨hx,rfl⟩
      .cases ok<;>simp[execOp,ho,hx,Instr.lookup,aH hu,iE hb,c1,c2,QJ]
      .cases ok<;>simp[execOp,ho,hx,Instr.lookup,aH hu,c1,c2,QJ]
     refine⟨_,run _ rfl,?_⟩;cases ok with
     |true=>exact⟨[zv,.bool false],rfl,hzv,rfl,trivial⟩
     |false=>exact hzv
    .cases e
   rcases Dg hes hh g1 with⟨rfl,hx⟩|⟨b,arr,k,hx,hb,hf⟩
   .exact main [] trivial (.inr ⟨hx,rfl⟩)
   .exact main arr.toList hf (.inl ⟨b,k,hx,by simpa using hb⟩)
  .cases e
 .cases e
end
end
section
section
variable{P:Program}{tt:Tr sX}{mt:Tr (Nat×Nat×Value)}{tb:oQ}{ka:Nat->Nat->Bool}
variable{M:Mp}{a:Act}{w:World}{o:Oper}{av:AV}{vs:List AV}{h:Tr Bk}
theorem FL.one{α β:Type}{R:α->β->Prop}{x:List α}{b:β}:FL R x [b]->∃a,x=[a]/\R a b:=by
 intro k
 match x,k with
 |[a],k=>exact⟨a,rfl,k.1⟩
 |_::_::_,k=>exact k.2.elim
theorem WW(T:ud P tt mt tb ka)(hh:Hp M h w){t:Nat}{x:V1}{y:Operand}{args:Array Operand}{qo:Array TypeId}(e:pLen tt mt t x h=some av)(ho:o.op=.call ⟨.builtin .len,args,qo⟩)(ha:args=#[y])(hb:qo=#[t])(hv:VV M x (a.eval y)):Yd P M a w o av:=by
 subst ha hb;unfold pLen at e;split at e
 .rename_i sz xS z ag el ht;have hu:P.underlying t=some (.slice el):=l9 T (by simp[nX,ht]);split at e
  .rename_i i off m n;obtain⟨b,s,N,cap,ad,_,h2,_⟩:=hv;cases e;exact⟨_,by simp[execOp,ho,resolve,invoke,builtin,h2,Builtin.len_,aH hu,goInt],rfl⟩
  .rename_i v;replace e:=gP e;obtain⟨hc,e⟩:=e;cases e;have h2:a.eval y=.slice none 0 0:=by rw[←pw hc];exact hv
   exact⟨_,by simp[execOp,ho,resolve,invoke,builtin,h2,Builtin.len_,aH hu,goInt],rfl⟩
  .cases e
 .rename_i sz xS z ag ht;obtain⟨inf,d,zv,lg,hd,hz,hs,lZ,lx,iA,_,_,_,_,im,_⟩:=a8 (T.t _ _ ht);rw[im rfl]at hd;split at e
  .rename_i s;cases e;have h2:a.eval y=.string s:=hv;exact⟨_,by simp[execOp,ho,resolve,invoke,builtin,h2,Builtin.len_,aH hd,goInt],rfl⟩
  .cases e
 .split at e
  .rename_i q s hm;obtain⟨hu,_⟩:=T.m _ q.1 q.2.1 q.2.2 hm;split at e
   .rename_i es hes;cases e;rcases Dg hes hh hv with⟨rfl,h2⟩|⟨b,arr,k,h2,h3,h4⟩
    .exact⟨_,by simp[execOp,ho,resolve,invoke,builtin,h2,Builtin.len_,aH hu,goInt],rfl⟩
    .have hl:es.length=arr.size:=by simpa using h4.len
     exact⟨.int .i64 arr.size,by simp[execOp,ho,resolve,invoke,builtin,h2,Builtin.len_,aH hu,goInt,iE h3],by rw[hl];exact(rfl:_=_)⟩
   .cases e
  .cases e
theorem xQ{x:V1}{l:List S}{v:Value}(e:cellsOf x=some l)(hv:VV M x v):VL M l v.cells.toList:=by
 cases x with
 |g q=>obtain⟨us,rfl,hu⟩:=hv;simp only[cellsOf]at e;replace e:=gP e;obtain⟨_,e⟩:=e;cases e;exact hu
 |s s =>
  simp only[cellsOf]at e;replace e:=gP e;obtain⟨hc,e⟩:=e;cases e;have one:v.cells=#[v]->VL M [s] v.cells.toList:=λq=>by rw[q];exact⟨hv,trivial⟩
  apply one;cases s with
  |v y=>have:v=y:=hv;subst this;cases v<;>first|rfl|simp[S8]at hc
  |p i o=>obtain⟨b,s,N,_,rfl⟩:=hv;rfl
  |sl i o m n=>obtain⟨b,s,N,cap,ad,_,rfl,_⟩:=hv;rfl
  |m i=>obtain⟨b,_,rfl⟩:=hv;rfl
  |c i=>obtain⟨_,p,q,r,rfl⟩:=hv;rfl
theorem xV:∀{l:List Operand} {vs:List AV} {q:List V1},YT vs=some q->OR M a l vs->FL (λv x=>VV M v (a.eval x)) q l
 |[],[],q,e,_=>by cases e;trivial
 |x::l,.o v::vs,q,e,h=>by
  simp only[YT]at e;split at e
  .rename_i q' hq;cases e;exact⟨h.1,xV hq h.2⟩
  .cases e
 |x::l,.t _::vs,q,e,h=>by simp[YT]at e
 |[],_::_,_,_,h=>h.elim
 |_::_,[],_,_,h=>h.elim
theorem Am:∀{l:List Operand} {q:List V1} {cs:List (List S)},Dv q=some cs->FL (λv x=>VV M v (a.eval x)) q l->FL (λc x=>VL M c (a.eval x).cells.toList) cs l
 |[],[],cs,e,_=>by cases e;trivial
 |x::l,v::q,cs,e,h=>by
  simp only[Dv]at e;split at e
  .rename_i c q' hc hq;cases e;exact⟨xQ hc h.1,Am hq h.2⟩
  .cases e
 |[],_::_,_,_,h=>h.elim
 |_::_,[],_,_,h=>h.elim
theorem y7(place:Nat->Option (Nat×Nat)):∀(ps:List (Nat×Operand)) (cs:List (List S)) (z r:List S) (zv:List Value),FL (λc x=>VL M c (a.eval x).cells.toList) cs (ps.map (·.2))->VL M z zv->Fl place ((ps.map (·.1)).zip cs) z=some r ->
  ∃rv,qY place (ps.map (λq=>(q.1,a.eval q.2))) zv=some rv/\VL M r rv
 |[],cs,z,r,zv,_,hz,e=>by cases e;exact⟨zv,rfl,hz⟩
 |p::ps,c::cs,z,r,zv,h,hz,e=>by
  obtain⟨i,x⟩:=p;obtain⟨h1,h2⟩:=h;simp only[ba,List.zip_cons_cons,Fl]at e;split at e
  .rename_i off size hp;replace e:=ahu e;obtain⟨hc,e⟩:=e;rw[ak]at hc;have hl:c.length=(a.eval x).cells.size:=by simpa using h1.len
   have ZS:=hz.len;have g1:=aD hc.1;have g2:=aB hc.2;obtain⟨rv,k1,k2⟩:=y7 place ps cs _ r (zv.take off++(a.eval x).cells.toList++zv.drop (off+size)) h2 (((hz.take off).app h1).app (hz.drop (off+size))) e;refine⟨rv,?_,k2⟩;simp only[ba,qY,hp];rw[show(Nat.beq (a.eval x).cells.size size&&Nat.ble (off+size) zv.length)=true by
    rw[ak];exact⟨by rw[←hl,g1];simp,by rw[←ZS];exact hc.2⟩]
   exact k1
  .cases e
 |_::_,[],_,_,_,h,_,_=>h.elim
theorem Bh(l:List Value):VL M (l.map .v) l:=by
 have:=FL.map (R:=VS M) (f:=S.v) (g:=id) (λc=>rfl) l;simpa using this
theorem vY(ps:Array (Nat×Operand)):(ps.map λ(i,x)=>(i,a.eval x)).toList=ps.toList.map (λq=>(q.1,a.eval q.2)):=by simp
theorem O1(T:ud P tt mt tb ka){t:Nat}{ps:Array (Nat×Operand)}(e:pBuild tt t ps vs=some av)(ho:o.op=.build t ps)(hv:OR M a (ps.toList.map (·.2)) vs):Yd P M a w o av:=by
 unfold pBuild at e;split at e
 .rename_i ty q ht hq;split at e
  .rename_i cs sU;have hc:=Am sU (xV hq hv);obtain⟨i,d,zv,hi,hd,hz,hs,lZ,lx,iA,im,PU,_⟩:=a8 (T.t _ _ ht);have hzero:(zeroValue t).run P w=.ok zv w:=by simp[zeroValue,typeInfo,hi,hz]
   have jZ:zv.cells=ty.zero.toArray:=by rw[←lx]
   split at e
   .rename_i fs hfs;obtain⟨l,rfl,hm⟩:=im fs hfs;split at e
    .rename_i r hr;cases e;obtain⟨rv,k1,k2⟩:=y7 _ _ _ _ _ _ hc (Bh ty.zero) hr;have qV:=lW _ _ _ _ k1;have A9:=AJ (P:=P) (w:=w) hm;have Uu:(λ(i:Nat)=>(List.map (λq:Nat×Nat×Nat=>(q.1,q.2.1)) fs).toArray[i]?)=(λ(i:Nat)=>(fs[i]?).map (λq:Nat×Nat×Nat=>(q.1,q.2.1))):=by funext i;simp
     exact⟨.agg rv.toArray,by simp only[execOp,ho,Instr.build,bU,hzero,bW,aH hd,A9,cM,vY,jZ,Uu,qV],rv,rfl,k2⟩
    .cases e
   .rename_i n el es hfs;obtain⟨rfl,j,hj,rfl⟩:=PU _ _ _ hfs;split at e
    .rename_i r hr;cases e;obtain⟨rv,k1,k2⟩:=y7 _ _ _ _ _ _ hc (Bh ty.zero) hr;have qV:=lW _ _ _ _ k1;exact⟨.agg rv.toArray,by simp only[execOp,ho,Instr.build,bU,hzero,bW,aH hd,Sv.run_sizeOf hj,cM,vY,jZ,qV],rv,rfl,k2⟩
    .cases e
   .cases e
  .cases e
 .cases e
theorem MG(T:ud P tt mt tb ka)(hh:Hp M h w)(hn:∀t,.tmp t∈jb o.op->t<a.tmps.size)(hd:a.defers=[])(e:AA P tt mt tb ka o vs h=some av)(hv:OR M a (jb o.op) vs):Yd P M a w o av:=by
 cases ho:o.op<;>simp only[AA,ho]at e<;>try (cases e;done)
 all_goals have hv':=hv
 all_goals rw[ho]at hv'
 case move x=>exact Ia e (.inl ho) hv'
 case assign x=>exact Ia e (.inr ho) hv'
 case pick=>exact SN e ho hv'
 case build=>exact O1 T e ho hv'
 case load=>exact SQ T hh e ho hv'
 case nilCheck=>exact WV e ho hv'
 case binOp=>exact WX T hn hd e ho hv
 case unOp=>exact abb T hn hd e ho hv
 case convert=>exact pX T hn hd e hv
 case slice=>exact OY T e ho hv
 case fieldAddr=>exact K7 T e ho hv'
 case field=>exact O0 T e ho hv'
 case indexAddr=>exact K6 T e ho hv'
 case index=>exact OZ T e ho hv'
 case lookup=>exact SO T hh e ho hv'
 case extract=>exact Ib e ho hv'
 case call c =>
  obtain⟨callee,args,qo⟩:=c;cases callee with
  |value f=>cases e
  |invoke r m=>cases e
  |builtin b =>
   simp only[pCall]at e;cases b<;>simp only[pBlt]at e<;>try (cases e;done)
   case len =>
    split at e
    .rename_i t x LD;have hb:qo=#[t]:=by rw[←dI (xs:=qo),LD]
     obtain⟨y,hy,hvy⟩:=FL.one hv';have ha:args=#[y]:=by rw[←dI (xs:=args),show args.toList=[y]from hy]
     exact WW T hh e ho ha hb hvy
    .cases e
   case min=>exact pX T hn hd e hv
   case max=>exact pX T hn hd e hv
end
end
end Go.Ex
