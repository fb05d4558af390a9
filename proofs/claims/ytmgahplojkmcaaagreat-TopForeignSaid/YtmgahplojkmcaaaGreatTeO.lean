/- Lemmas. Conditions: their own. -/
import Derived.Test.YtmgahplojkmcaaaGreatTe15
set_option linter.all false
namespace Go.Te
open Go Go.Sv Go.Proofs.Y
section
def QV(P:Program)(s:TS)(E:En)(a:Act)(w:World)(χ:Nat->Nat)(op:Op)(v:RV):Prop :=
 ∃sv,fO w χ E s v sv/\∀d ty pos af g w1,zh s E χ w w1->(execOp a.eval ⟨d,op,ty,pos,af,g⟩).run P w1=.ok (.value (aP E.ρ sv)) w1
section
variable{P:Program}{T:Tb}{w:World}{χ:Nat->Nat}{E:En}{s:TS}{X:Cx}{sy:Sy}{a:Act}
theorem iL(TT:gW P T)(h:bX X s E sy a w χ){op:Op}{v:RV}(k:∀d ty pos af g,∃sv,dV T.bj (yu s sy) ⟨d,op,ty,pos,af,g⟩=some sv/\fO w χ E s v sv):QV P s E a w χ op v:=by
 obtain⟨sv,h1,h2⟩:=k none 0 "" #[] none;refine⟨sv,h2,λd ty pos af g w1 hs=>?_⟩;have:dV T.bj (yu s sy) ⟨d,op,ty,pos,af,g⟩=some sv:=h1;exact yh TT.bj (h.ai7 hs) this
theorem OQ(h:bX X s E sy a w χ){x:Operand}{i:Nat}{r:RV}(e:qExtract i (ev s x)=some r):QV P s E a w χ (.extract x i) r:=by
 unfold qExtract at e;split at e
 .rename_i l hx;obtain⟨sv,h1,vs,rfl,h2⟩:=bq h hx;obtain⟨v,e1,e2⟩:=h2.get i r e;have ex:a.eval x=.tuple vs.toArray:=h.st.cu h1;have key:∀sv,aP E.ρ sv=v->fO w χ E s r sv->QV P s E a w χ (.extract x i) r:=λsv hc hr=>⟨sv,hr,λd ty pos af g w1 _=>by simp[execOp,ex,Instr.extract,e1,hc]⟩
  cases r with
  |s y=>cases y with
   |p id off=>exact key (Pt id off) (Eq.symm e2) rfl
   |_=>exact key (V v) rfl e2
  |g l=>exact key (V v) rfl e2
  |t l=>exact e2.elim
 grind
theorem vQ{t:Nat}{n b:Nat}(h:Bc T.bj t n b=true):xj T.bj t n=true:=by
 unfold Bc at h;unfold xj;grind
theorem vJ{e:Option (Nat×TC)}{c:TC}(h:YC e c=true):∃t,e=some (t,c):=by
 unfold YC at h;grind
theorem RX(TT:dD P T.bj){t n:Nat}{agg:Bool}(hs:Oy T t=some (n,agg)){w1:World}{b o:Nat}{cells:Array Value}{e:TypeId}{fr:Nat×Nat}(hh:w1.heap[b]?=some (.cells cells e fr)){vs:List Value}(hv:(cells.toList.drop o).take n=vs)(hl:vs.length=n){x:Operand}(hx:a.eval x=.pointer (some ⟨b,o,none⟩))
  (h1:agg=false->∃v,vs=[v]) {d:Option Nat} {ty:TypeId} {pos:String} {af:Array Edge} {g:Option (Nat×Bool)} :
  (execOp a.eval ⟨d,.load t x,ty,pos,af,g⟩).run P w1=.ok (.value (bif agg then .agg vs.toArray else vs.headD undef)) w1:=by
 obtain⟨y,hy,hn,ha⟩:=uJ hs;have hz:xj T.bj t n=true:=by unfold xj;simp only[hy,hn];exact eH n
 have hg:DI T.bj t agg=true:=by unfold DI;simp only[hy,ha,BEq.rfl]
 obtain⟨dd,z6,V2⟩:=BC TT hg;obtain⟨inf,hi,hm⟩:=pN TT hz;cases agg with
 |true =>
  have hl':=run_loadCells_list (P:=P) w1 ⟨b,o,none⟩ vs (λj v hj=>by
   rw[Addr.add_lit];simp only[World.cell?,hh];rw[←hv,bQ]at hj;split at hj
   .grind
   .cases hj)
  rw[hl]at hl';simp[execOp,hx,Instr.loadAt,Instr.sureAddr,loadVar,Sv.ig z6,V2,Sv.run_sizeOf hi,hm,hl']
 |false =>
  obtain⟨v,rfl⟩:=h1 rfl;have jZ:w1.cell? ⟨b,o,none⟩=some v:=by
   have:(cells.toList.drop o)[0]?=some v:=by grind[only,List.getElem?_cons_zero]
   simp only[World.cell?,hh];grind
  simp[execOp,hx,Instr.loadAt,Instr.sureAddr,loadVar,Sv.ig z6,V2,jZ]
theorem TO{agg:Bool}{l:List TV}{vs:List Value}{r:RV}(h:FL (CR w χ) l vs)(e:Is s agg l=some r):fO w χ E s r (V (bif agg then .agg vs.toArray else vs.headD undef))/\(agg=false->∃v,vs=[v]):=by
 cases agg with
 |true=>obtain⟨_,rfl⟩:=Ir e;exact⟨⟨vs,rfl,ue h⟩,λh=>by cases h⟩
 |false=>obtain⟨x,rfl,rfl⟩:=Iq e;obtain⟨v,rfl,hv⟩:=FL1 h;exact⟨kS hv,λ_=>⟨v,rfl⟩⟩
theorem ia:∀{l:List TV} {vs:List Value},FL (CR w χ) l vs->∀p,smL l p->p
 |[],_,_,_,h=>h
 |.sl c x::l,v::vs,hf,p,h=>by obtain⟨a,cp,h1,h2⟩:=hf.1;exact ia hf.2 p (h (h2.sm (fq (xf c))))
 |.int _ _::l,_::_,hf,p,h=>ia hf.2 p h
 |.bool _::l,_::_,hf,p,h=>ia hf.2 p h
 |.lit _::l,_::_,hf,p,h=>ia hf.2 p h
 |.uq _::l,_::_,hf,p,h=>ia hf.2 p h
 |.str _::l,_::_,hf,p,h=>ia hf.2 p h
 |.v _::l,_::_,hf,p,h=>ia hf.2 p h
 |.p _ _::l,_::_,hf,p,h=>ia hf.2 p h
 |.o _::l,_::_,hf,p,h=>ia hf.2 p h
 |.m _::l,_::_,hf,p,h=>ia hf.2 p h
 |.e _ _ _::l,_::_,hf,p,h=>ia hf.2 p h
 |.md _ _::l,_::_,hf,p,h=>ia hf.2 p h
 |.j::l,_::_,hf,p,h=>ia hf.2 p h
 |.a _ _ _::l,_::_,hf,p,h=>ia hf.2 p h
 |.f _ _ _::l,_::_,hf,p,h=>ia hf.2 p h
 |.q _ _::l,_::_,hf,p,h=>ia hf.2 p h
 |_::_,[],hf,_,_=>hf.elim
theorem Dx{agg:Bool}{l:List TV}{r:RV}(e:Is s agg l=some r):aW r=l:=by
 cases agg with
 |true=>obtain⟨_,rfl⟩:=Ir e;rfl
 |false=>obtain⟨x,rfl,rfl⟩:=Iq e;rfl
theorem vA{α:Type}{l:List α}{o m off n:Nat}(h:off+n<=m):((l.drop (o+off)).take n)=((((l.drop o).take m).drop off).take n):=by
 grind[List.drop_take,List.drop_drop,Nat.min_eq_left]
theorem WK(TT:gW P T)(h:bX X s E sy a w χ){t:TypeId}{x:Operand}{c:TC}{y:den c}{off n:Nat}{agg:Bool}{r:RV}(hx:ev s x=some (.s (.a c y off)))(ht:Oy T t=some (n,agg))(hl:off+n<=(kd c y).length)(e:Is s agg (((kd c y).drop off).take n)=some r):
  QV P s E a w χ (.load t x) r/\∀p,smL (aW r) p->p:=by
 obtain⟨sv,h1,b,o,rfl,b',o',cells,e',fr,hA,h2,h3,h4⟩:=bq h hx;cases hA;have h5:=Cz c h4;have hlen:=h5.len;rw[(bw c).len h4]at hlen;have h6:=(h5.drop off).take n;obtain⟨h7,h8⟩:=TO (E:=E) h6 e;refine⟨⟨_,h7,λd ty pos af g w1 hs=>?_⟩,Dx e▸ia h6⟩;have hh:w1.heap[b]?=some (.cells cells e' fr):=(hs b (gF h3) (.inl h2)).trans h3;refine RX TT.bj ht hh (vA (by omega)) ?_ (h.st.cu h1) h8;rw[←h6.len,bH,dy];omega
theorem WI(TT:gW P T)(h:bX X s E sy a w χ){t:TypeId}{x:Operand}{k off n:Nat}{i:Int}{agg:Bool}{r:RV}{ow:Wa}(hx:ev s x=some (.s (.e k i off)))(hk:aa s.own k=some ow)(ht:Oy T t=some (n,agg))(hl:off+n<=(kd ow.c (@gi (den ow.c) (zU ow.c) ow.l i)).length)(e:Is s agg (((kd ow.c (@gi (den ow.c) (zU ow.c) ow.l i)).drop off).take n)=some r):
  QV P s E a w χ (.load t x) r/\∀p,smL (aW r) p->p:=by
 obtain⟨sv,h1,h2⟩:=bq h hx;obtain⟨v0,rfl,h2⟩:=h2;obtain⟨g1,g2,b,g3,rfl⟩:=h2 ow hk;have hO:=h.own k ow hk;rcases hO.row with⟨hn,_⟩|⟨b',cells,hb,hc,⟨fr,hr,_⟩,_,_,_,ll⟩
 .grind
 rw[g3]at hb;cases hb;have h4:=ll i.toNat _ (@qW _ (zU ow.c) ow.l i g1 g2);have h5:=Cz ow.c h4;have hlen:=h5.len;rw[(bw ow.c).len h4]at hlen;have h6:=(h5.drop off).take n;obtain⟨h7,h8⟩:=TO (E:=E) h6 e;refine⟨⟨_,h7,λd ty pos af g w1 hs=>?_⟩,Dx e▸ia h6⟩;have hh:w1.heap[b]?=some (.cells cells ow.e fr):=(hs b (gF hr) (.inr (.inr (.inl ⟨k,ow,hk,hc⟩)))).trans hr;refine RX TT.bj ht hh (vs:=((chunk cells 0 (bw ow.c).n i.toNat).drop off).take n) ?_ ?_ (h.st.cu h1) h8
 .unfold chunk;rw[bh];exact vA (by omega)
 .rw[←h6.len,bH,dy];omega
theorem Mz(TT:dD P T.bj){t f off n:Nat}{agg:Bool}(hf:AN T t f=some (off,n,agg))(hn:Nat.ble 1 n=true){w1:World}{b o:Nat}{x:Operand}(hx:a.eval x=.pointer (some ⟨b,o,none⟩)){d:Option Nat}{ty:TypeId}{pos:String}{af:Array Edge}{g:Option (Nat×Bool)}:
  (execOp a.eval ⟨d,.fieldAddr t x f,ty,pos,af,g⟩).run P w1=.ok (.value (.pointer (some ⟨b,o+off,none⟩))) w1:=by
 obtain⟨a1,a2,a3,a4,fs,ft,y,hl,hff,hy,ha,hs⟩:=xK hf;obtain⟨i,dd,z,hi,z6,hz,IY,lZ,lx,iA,im,_⟩:=a8 (TT _ _ hl);obtain⟨l,rfl,hm⟩:=im _ rfl;obtain⟨fd,GY,Ki⟩:=sj hm f _ hff;simp only[pH,Prod.mk.injEq]at Ki;obtain⟨j,hj,rfl,rfl,rfl⟩:=Ki;have hne:¬j.size=0:=by have:=aB hn;omega
 simp only[iD]at GY;simp[execOp,hx,Instr.fieldAt,aH z6,GY,Instr.sureAddr,fieldPlace,Sv.run_sizeOf hj,hne,Addr.add_lit]
theorem MA(TT:dD P T.bj){t i n es:Nat}(ht:arr T t=some (n,es))(hi:Nat.blt i n=true){w1:World}{b o:Nat}{x y:Operand}{k:IntKind}(hx:a.eval x=.pointer (some ⟨b,o,none⟩))(hy:a.eval y=.int k (.ofNat i)){d:Option Nat}{ty:TypeId}{pos:String}{af:Array Edge}{g:Option (Nat×Bool)}:
  (execOp a.eval ⟨d,.indexAddr t x y,ty,pos,af,g⟩).run P w1=.ok (.value (.pointer (some ⟨b,o+i*es,none⟩))) w1:=by
 obtain⟨a1,a2,a3,a4,e',hl⟩:=JZ ht;obtain⟨j,dd,zv,hj,z6,hz,IY,lZ,lx,iA,_,PU,_⟩:=a8 (TT _ _ hl);obtain⟨rfl,inf,Us,rfl⟩:=PU _ _ _ rfl;have eB:i<n:=aB hi;simp[execOp,hx,hy,Instr.indexAt,asIntOf,aH z6,Instr.sureAddr,eB,Sv.run_sizeOf Us,Addr.add_lit]
theorem RY(TT:dD P T.bj){t e m:Nat}(ht:wL T.bj t e=true)(hs:xj T.bj e m=true){w1:World}{b o len cp:Nat}{x y:Operand}{k:IntKind}{i:Int}(hx:a.eval x=.slice (some ⟨b,o,none⟩) len cp)(hy:a.eval y=.int k i)(h0:0<=i)(h1:i<len){d:Option Nat}{ty:TypeId}{pos:String}{af:Array Edge}{g:Option (Nat×Bool)}:
  (execOp a.eval ⟨d,.indexAddr t x y,ty,pos,af,g⟩).run P w1=.ok (.value (.pointer (some ⟨b,o+i.toNat*m,none⟩))) w1:=by
 obtain⟨inf,hi,hm⟩:=pN TT hs;have hr:=qH (P:=P) (w:=w1) (c:=cp) (k:=k) (ny TT ht) hi hm (rfl:some (⟨b,o,none⟩:Addr)=_) h0 h1;simp[execOp,hx,hy,hr]
theorem Sd(TT:gW P T)(h:bX X s E sy a w χ){t:TypeId}{x y:Operand}{c:TC}{l:List (den c)}{k:IntKind}{i:Int}(hx:ev s x=some (.s (.sl c l)))(hy:ev s y=some (.s (.int k i)))(hc:YC (T.et t) c=true)(h0:0<=i)(h1:i<l.length):
  QV P s E a w χ (.indexAddr t x y) (.s (.a c (@gi (den c) (zU c) l i) 0)):=by
 obtain⟨e,he⟩:=vJ hc;obtain⟨t1,t2,t3,t4,_⟩:=TT.et _ _ _ he;obtain⟨sv,g1,v,rfl,ad,cp,rfl,hR⟩:=bq h hx;obtain⟨su,g2,g3⟩:=bq h hy;obtain rfl:=g3.int;have hne:l≠[]:=by intro e;subst e;simp at h1;omega
 obtain⟨b,o,cells,e',fr,rfl,DX,hh,ll⟩:=hR.cells hne;refine⟨V (.pointer (some ⟨b,o+i.toNat*(bw c).n,none⟩)),⟨b,o+i.toNat*(bw c).n,rfl,b,_,cells,e',fr,rfl,DX,hh,ll _ _ (@qW _ (zU c) l i h0 h1)⟩,λd ty pos af g w1 hs=>?_⟩;exact RY TT.bj t1 (vQ t2) (h.st.cu g1) (h.st.cu g2) h0 h1
theorem Se(TT:gW P T)(h:bX X s E sy a w χ){t:TypeId}{x y:Operand}{j:Nat}{ow:Wa}{k:IntKind}{i:Int}(hx:ev s x=some (.s (.o j)))(hj:aa s.own j=some ow)(hy:ev s y=some (.s (.int k i)))(hc:YC (T.et t) ow.c=true)(h0:0<=i)(h1:i<ow.l.length):
  QV P s E a w χ (.indexAddr t x y) (.s (.e j i 0)):=by
 obtain⟨e,he⟩:=vJ hc;obtain⟨t1,t2,t3,t4,_⟩:=TT.et _ _ _ he;obtain⟨sv,g1,g4⟩:=bq h hx;obtain rfl:=TR.own (w:=w) (χ:=χ) g4 hj;obtain⟨su,g2,g3⟩:=bq h hy;obtain rfl:=g3.int;have hO:=h.own j ow hj;rcases hO.row with⟨_,hn,_⟩|⟨b,cells,hb,hc,_,_,_,_,ll⟩
 .grind
 have XH:=h.st.cu g1;rw[hb]at XH;refine⟨V (.pointer (some ⟨b,i.toNat*(bw ow.c).n+0,none⟩)),⟨_,rfl,λmQ e=>by rw[hj]at e;cases e;exact⟨h0,h1,b,hb,rfl⟩⟩,λd ty pos af g w1 hs=>?_⟩;have:=RY (a:=a) TT.bj (w1:=w1) t1 (vQ t2) (b:=b) (o:=0) XH (h.st.cu g2) h0 h1 (d:=d) (ty:=ty) (pos:=pos) (af:=af) (g:=g);rw[bh]at this;exact this
theorem Sc(TT:gW P T)(h:bX X s E sy a w χ){t:TypeId}{x y:Operand}{l:List UInt8}{k:IntKind}{i:Int}(hx:ev s x=some (.s (.str l)))(hy:ev s y=some (.s (.int k i)))(ht:vk (aa T.bj t)=true)(h0:0<=i)(h1:i<l.length):
  QV P s E a w χ (.index t x y) (.s (.int .u8 (((gi l i).toNat:Nat):Int))):=by
 obtain⟨sv,g1,g4⟩:=bq h hx;obtain rfl:=g4.str;obtain⟨su,g2,g3⟩:=bq h hy;obtain rfl:=g3.int;have PF:isStr T.bj t=true:=by unfold vk at ht;unfold isStr;omega
 have ex:a.eval x=.string (bs l):=h.st.cu g1;have ey:a.eval y=.int k i:=h.st.cu g2;have uB:(bs l)[i.toNat]?=some (gi l i):=by rw[Vi];exact qW h0 h1
 refine⟨V (.int .u8 (gi l i).toNat),⟨_,rfl,rfl⟩,λd ty pos af g w1 hs=>?_⟩;simp[execOp,ex,ey,Instr.index,asIntOf,aH (yQ TT.bj PF),h0,uB,aP,bT]
theorem Zg(h:bX X s E sy a w χ){op:BinOp}{t yt:TypeId}{x y:Operand}{k:IntKind}{p q:Int}{r:RV}(hx:ev s x=some (.s (.int k p)))(hy:ev s y=some (.s (.int k q)))(e:Sn op k p q=some r)(hq:q≠0):QV P s E a w χ (.binOp op t x y yt) r:=by
 obtain⟨sv,g1,g4⟩:=bq h hx;obtain rfl:=g4.int;obtain⟨su,g2,g3⟩:=bq h hy;obtain rfl:=g3.int;have ex:a.eval x=.int k p:=h.st.cu g1;have ey:a.eval y=.int k q:=h.st.cu g2;unfold Sn at e;split at e
 .cases e;exact⟨V (.int k (k.wrap (p.tdiv q))),⟨_,rfl,rfl⟩,λd ty pos af g w1 hs=>by simp[execOp,ex,ey,binOp,Op.intDiv,hq,ik,aP,bT]⟩
 .cases e;exact⟨V (.int k (p.tmod q)),⟨_,rfl,rfl⟩,λd ty pos af g w1 hs=>by simp[execOp,ex,ey,binOp,Op.intDiv,hq,ik,aP,bT]⟩
 grind
theorem N3(l:List UInt8):(bs l).data.toList=l:=rfl
theorem aeL(TT:gW P T)(h:bX X s E sy a w χ){op:BinOp}{t yt:TypeId}{x y:Operand}{p q:List UInt8}{r:Qr}(hx:ev s x=some (.s (.str p)))(hy:ev s y=some (.s (.str q)))(e:qStr op p q=some r)(hp:∀z,r.pre=some z->z):QV P s E a w χ (.binOp op t x y yt) r.v/\r.F5=[]:=by
 unfold qStr at e;split at e
 .cases e;refine⟨iL TT h λd ty pos af g=>?_,rfl⟩;obtain⟨sv,g1,g4⟩:=bq h.yu hx;obtain rfl:=g4.str;obtain⟨su,g2,g3⟩:=bq h.yu hy;obtain rfl:=g3.str;exact⟨_,by unfold dV;simp only[g1,g2,N3],_,rfl,rfl⟩
 .cases e;refine⟨iL TT h λd ty pos af g=>?_,rfl⟩;obtain⟨sv,g1,g4⟩:=bq h.yu hx;obtain rfl:=g4.str;obtain⟨su,g2,g3⟩:=bq h.yu hy;obtain rfl:=g3.str;exact⟨_,by unfold dV;simp only[g1,g2,N3],_,rfl,rfl⟩
 .cases e;have hq:p.length+q.length<=4611686018427387904:=hp _ rfl;obtain⟨sv,g1,g4⟩:=bq h hx;obtain rfl:=g4.str;obtain⟨su,g2,g3⟩:=bq h hy;obtain rfl:=g3.str;refine⟨⟨V (.string (bs (p++q))),⟨_,rfl,rfl⟩,λd ty pos af g w1 hs=>?_⟩,rfl⟩;have ex:a.eval x=.string (bs p):=h.st.cu g1;have ey:a.eval y=.string (bs q):=h.st.cu g2;have hg:(eqGuard .add t x y (.string (bs p)) (.string (bs q))).run P w1=.ok () w1:=by rw[eqGuard_at_string];rfl
  have e1:¬((((bs p).size+(bs q).size:Nat):Int)>IntKind.i64.max):=by rw[q9,q9];have:IntKind.i64.max=9223372036854775807:=rfl;omega
  have hs:(Op.stringOp .add (bs p) (bs q)).run P w1=.ok (.string (bs (p++q))) w1:=by unfold Op.stringOp;rw[←Qk];simp only[e1,gI,cM]
  simp[execOp,ex,ey,hg,binOp,hs,aP,bT]
 .cases e
theorem We{x:TV}{v u:Value}(e:aan x=some u)(h:CV w χ E s x v):v=u:=by
 unfold aan at e;split at e<;>cases e<;>(obtain⟨v',h1,h2⟩:=h.1;cases h1;cases h2;rfl)
theorem FU:∀{l:List TV} {vs us:List Value},vals l=some us->FL (CV w χ E s) l vs->vs=us
 |[],[],_,e,_=>by cases e;rfl
 |[],_::_,_,_,h=>h.elim
 |x::l,[],_,_,h=>h.elim
 |x::l,v::vs,us,e,h=>by
  unfold vals at e;split at e
  .rename_i u q h1 h2;cases e;rw[We h1 h.1,FU h2 h.2]
  grind
theorem aeS(TT:gW P T)(h:bX X s E sy a w χ){op:BinOp}{t yt:TypeId}{x y:Operand}{l m:List TV}{r:RV}(hx:ev s x=some (.g l))(hy:ev s y=some (.g m))(e:aa5 op (T.kt t) (vals l) (vals m)=some r):QV P s E a w χ (.binOp op t x y yt) r:=by
 unfold aa5 at e;split at e
 .rename_i p q hp hq;split at e
  .rename_i ks hk;cases hv:kindV ks p with
   |false=>rw[hv]at e;cases e
   |true =>
    rw[hv]at e;split at e
    .rename_i b hb;obtain⟨sv,g1,vs,rfl,g2⟩:=bq h hx;obtain⟨su,g3,us,rfl,g4⟩:=bq h hy;obtain rfl:=FU hp g2;obtain rfl:=FU hq g4;obtain⟨f1,f2⟩:=TT.kt _ _ hk _ hv;have ex:a.eval x=.agg vs.toArray:=h.st.cu g1;have ey:a.eval y=.agg us.toArray:=h.st.cu g3;obtain⟨fs,hu,k1,k2,k3⟩:=G5 f1;have hlen:∀fs,P.underlying t=some (.struct fs)->vs.length=fs.size:=by
      intro fs' hu';unfold nf at f2;split at f2
      .rename_i amA GS;obtain⟨i,dd,z,hi,z6,hz,IY,lZ,lx,iA,im,_⟩:=a8 (TT.bj _ _ GS);grind[CP,Array.length_toList]
      grind
     unfold qEq at e;split at e
     .cases e;refine⟨B b,⟨_,rfl,rfl⟩,λd ty pos af g w1 hs=>?_⟩;have hq:=tj (w:=w1) f1 hb hlen;simp only[execOp,ex,ey,bU,run_eqGuard_agg w1 .eql t x y _ _ k2,bW,run_eql_struct,hq,cM];rfl
     .cases e;refine⟨B (!b),⟨_,rfl,rfl⟩,λd ty pos af g w1 hs=>?_⟩;have hq:=tj (w:=w1) f1 hb hlen;simp only[execOp,ex,ey,bU,run_eqGuard_agg w1 .neq t x y _ _ k2,bW,run_neq_struct,hq,cM];rfl
     grind
    grind
  grind
 grind
theorem qN(h:bX X s E sy a w χ){lo:Option Operand}{p:Option Int}(e:pZ s lo=some p):(lo=none/\p=none)∨∃x k n,lo=some x/\p=some n/\a.eval x=.int k n:=by
 unfold pZ at e;split at e
 .grind
 .split at e
  .rename_i hx;cases e;obtain⟨sv,g1,g2⟩:=bq h hx;obtain rfl:=g2.int;exact .inr ⟨_,_,_,rfl,rfl,h.st.cu g1⟩
  grind
theorem Yt{α:Type}(p q:Option Int)(l:List α):tX p q l=(l.take (match q with|some b=>b.toNat|none=>l.length)).drop (match p with|some b=>b.toNat|none=>0):=by
 cases p<;>cases q<;>simp[tX]
theorem Ge{α:Type}{R:b9 α}(TT:dD P T.bj)(h:bX X s E sy a w χ){t e:Nat}{x:Operand}{lo hi:Option Operand}{p q:Option Int}{ad:Option Addr}{l:List α}{cp:Nat}(hx:a.eval x=.slice ad l.length cp)(uC:pZ s lo=some p)(xX:pZ s hi=some q){χ2:Nat->Nat}(hR:RS R w χ2 ad l cp)(ht:wL T.bj t e=true)(hs:xj T.bj e R.n=true)(hp:∀z,LR p q l.length=some z->z):
  ∃sW c',RS R w χ2 sW (tX p q l) c'/\∀d ty pos af g w1,(execOp a.eval ⟨d,.slice t x lo hi none,ty,pos,af,g⟩).run P w1=.ok (.value (.slice sW (tX p q l).length c')) w1:=by
 obtain⟨inf,lg,hm⟩:=pN TT hs;have hu:=ny TT ht;have XY:=hR.cap;rcases qN h uC with⟨rfl,rfl⟩|⟨xl,kl,nl,rfl,rfl,el⟩<;>rcases qN h xX with⟨rfl,rfl⟩|⟨xh,kh,nh,rfl,rfl,eh⟩
 .have X6:=hR.cut (l:=0) (h:=l.length) (by omega) (aK _);rw[gT]at X6;refine⟨_,_,X6,λd ty pos af g w1=>?_⟩;simp[execOp,hx,Instr.sliceAt,Instr.slice,aH hu,Instr.sliceBounds,Instr.sliceBound,asIntOf,Sv.run_sizeOf lg,hm,tX]
 .have hb:(0:Int)<=nh/\nh<=(l.length:Int):=hp _ rfl;have X6:=hR.cut (l:=0) (h:=nh.toNat) (by omega) (by omega);refine⟨_,_,X6,λd ty pos af g w1=>?_⟩;have e1:=hb.1;have e2:nh<=(cp:Int):=by omega
  have hlen:((l.take nh.toNat).drop 0).length=nh.toNat:=by simp;omega
  rw[show(tX none (some nh) l).length=nh.toNat from hlen];simp[execOp,hx,eh,Instr.sliceAt,Instr.slice,aH hu,Instr.sliceBounds,Instr.sliceBound,asIntOf,e1,e2,Sv.run_sizeOf lg,hm]
 .have hb:(0:Int)<=nl/\nl<=(l.length:Int):=hp _ rfl;have X6:=hR.cut (l:=nl.toNat) (h:=l.length) (by omega) (aK _);rw[gT]at X6;refine⟨_,_,X6,λd ty pos af g w1=>?_⟩;have e1:=hb.1;have e2:(l.length:Int)<=(cp:Int):=by omega
  have e3:nl<=(l.length:Int):=hb.2;have hlen:(l.drop nl.toNat).length=l.length-nl.toNat:=by simp
  rw[show(tX (some nl) none l).length=l.length-nl.toNat from hlen];simp[execOp,hx,el,Instr.sliceAt,Instr.slice,aH hu,Instr.sliceBounds,Instr.sliceBound,asIntOf,e1,e2,e3,Sv.run_sizeOf lg,hm]
  try omega
 .have hb:(0:Int)<=nl/\nl<=nh/\nh<=(l.length:Int):=hp _ rfl;have X6:=hR.cut (l:=nl.toNat) (h:=nh.toNat) (by omega) (by omega);refine⟨_,_,X6,λd ty pos af g w1=>?_⟩;have e0:=hb.1;have e1:(0:Int)<=nh:=by omega
  have e2:nh<=(cp:Int):=by omega
  have hlen:((l.take nh.toNat).drop nl.toNat).length=nh.toNat-nl.toNat:=by simp;omega
  rw[show(tX (some nl) (some nh) l).length=nh.toNat-nl.toNat from hlen];simp[execOp,hx,el,eh,Instr.sliceAt,Instr.slice,aH hu,Instr.sliceBounds,Instr.sliceBound,asIntOf,e1,e2,e0,Sv.run_sizeOf lg,hm];omega
theorem IS{t:Nat}(ht:vk (aa T.bj t)=true):isStr T.bj t=true:=by
 unfold vk at ht;unfold isStr;omega
theorem adr{α:Type}{R:b9 α}{ad:Option Addr}{l:List α}{c:Nat}(m:Nat)(hR:RS R w χ ad l c):RS R w χ (if l.length=0 then ad else ad.map (·.add (0*m))) l l.length:=by
 refine⟨aK _,hR.JS,λhn=>?_,λhne=>?_⟩
 .have:ad=none:=by
   split at hn
   .omega
   simp_all
  have:=(hR.nil this).1;grind
 .obtain⟨b,o,cells,e,fr,rfl,h1,h2,h3⟩:=hR.cells hne;refine⟨b,o,cells,e,fr,?_,h1,h2,h3⟩;rw[if_neg λh=>hne (qq h),Option.map_some,Nat.zero_mul,Addr.add_lit];rfl
theorem aeQ(TT:gW P T)(h:bX X s E sy a w χ){t:TypeId}{x hi mx:Operand}{r:Qr}(e:qCap (T.et t) (ev s x) (ev s hi) (ev s mx)=some r)(hp:∀z,r.pre=some z->z):QV P s E a w χ (.slice t x none (some hi) (some mx)) r.v/\r.F5=[]:=by
 unfold qCap at e;split at e
 .rename_i c l k1 p k2 q hx xX hmx;obtain⟨hc,e⟩:=dw e;subst e;obtain⟨h1,h2⟩:=hp _ rfl;subst h1 h2;obtain⟨e0,he⟩:=vJ hc;obtain⟨t1,t2,_⟩:=TT.et _ _ _ he;obtain⟨sv,g1,v,rfl,ad,cp,rfl,hR⟩:=bq h hx;obtain⟨sh,g2,g3⟩:=bq h xX;obtain rfl:=g3.int;obtain⟨sm,g4,g5⟩:=bq h hmx;obtain rfl:=g5.int;have ex:a.eval x=.slice ad l.length cp:=h.st.cu g1;have eh:a.eval hi=.int k1 (l.length:Int):=h.st.cu g2;have em:a.eval mx=.int k2 (l.length:Int):=h.st.cu g4;obtain⟨inf,lg,hm⟩:=pN TT.bj (vQ t2);have hu:=ny TT.bj t1;have XY:=hR.cap;have e2:(l.length:Int)<=cp:=by omega
  refine⟨⟨V (.slice (if l.length=0 then ad else ad.map (·.add (0*inf.size))) l.length l.length),⟨_,rfl,_,rfl,adr _ hR⟩,λd ty pos af g w1 hs=>?_⟩,rfl⟩;simp[execOp,ex,eh,em,Instr.sliceAt,Instr.slice,aH hu,Instr.sliceBounds,Instr.sliceBound,asIntOf,e2,Sv.run_sizeOf (w:=w1) lg,aP,bT];omega
 grind
theorem RZ(TT:dD P T.bj)(h:bX X s E sy a w χ){t:Nat}{x:Operand}{lo hi:Option Operand}{p q:Option Int}{l:List UInt8}(hx:a.eval x=.string (bs l))(uC:pZ s lo=some p)(xX:pZ s hi=some q)(ht:isStr T.bj t=true)(hp:∀z,LR p q l.length=some z->z):
  ∀d ty pos af g w1,(execOp a.eval ⟨d,.slice t x lo hi none,ty,pos,af,g⟩).run P w1=.ok (.value (.string (bs (tX p q l)))) w1:=by
 intro d ty pos af g w1;rw[Yt,←tZ];have hu:=yQ TT ht;have jh:=q9 l;rcases qN h uC with⟨rfl,rfl⟩|⟨xl,kl,nl,rfl,rfl,el⟩<;>rcases qN h xX with⟨rfl,rfl⟩|⟨xh,kh,nh,rfl,rfl,eh⟩
 .simp[execOp,hx,Instr.sliceAt,Instr.slice,aH hu,Instr.sliceBounds,Instr.sliceBound,asIntOf,jh];grind[tZ]
 .have hb:(0:Int)<=nh/\nh<=(l.length:Int):=hp _ rfl;have e1:=hb.1;have e2:nh<=((bs l).size:Int):=by rw[q9];omega
  simp[execOp,hx,eh,Instr.sliceAt,Instr.slice,aH hu,Instr.sliceBounds,Instr.sliceBound,asIntOf,e1,e2]
 .have hb:(0:Int)<=nl/\nl<=(l.length:Int):=hp _ rfl;have e1:=hb.1;have e3:nl<=((bs l).size:Int):=by rw[q9];omega
  simp[execOp,hx,el,Instr.sliceAt,Instr.slice,aH hu,Instr.sliceBounds,Instr.sliceBound,asIntOf,e1,e3,jh];omega
 .have hb:(0:Int)<=nl/\nl<=nh/\nh<=(l.length:Int):=hp _ rfl;have e0:=hb.1;have e1:(0:Int)<=nh:=by omega
  have e2:nh<=((bs l).size:Int):=by rw[q9];omega
  simp[execOp,hx,el,eh,Instr.sliceAt,Instr.slice,aH hu,Instr.sliceBounds,Instr.sliceBound,asIntOf,e1,e2,e0];omega
theorem WH(TT:gW P T)(h:bX X s E sy a w χ){t:TypeId}{x:Operand}{lo hi:Option Operand}{r:Qr}(e:qSlice (T.et t) (vk (aa T.bj t)) (ev s x) (pZ s lo) (pZ s hi)=some r)(hp:∀z,r.pre=some z->z):QV P s E a w χ (.slice t x lo hi none) r.v/\r.F5=[]:=by
 unfold qSlice at e;split at e
 .rename_i l p q hx uC xX;obtain⟨hb,e⟩:=dw e;cases e;obtain⟨sv,g1,g2⟩:=bq h hx;obtain rfl:=g2.str;exact⟨⟨V (.string (bs (tX p q l))),⟨_,rfl,rfl⟩,λd ty pos af g w1 hs=>RZ TT.bj h (h.st.cu g1) uC xX (IS hb) hp d ty pos af g w1⟩,rfl⟩
 .rename_i c l p q hx uC xX;obtain⟨hb,e⟩:=dw e;cases e;obtain⟨e,he⟩:=vJ hb;obtain⟨t1,t2,t3,t4,_⟩:=TT.et _ _ _ he;obtain⟨sv,g1,v,rfl,ad,cp,rfl,hR⟩:=bq h hx;obtain⟨sW,c',k1,k2⟩:=Ge TT.bj h (h.st.cu g1) uC xX hR t1 (vQ t2) hp;exact⟨⟨V (.slice sW (tX p q l).length c'),⟨_,rfl,sW,c',rfl,k1⟩,λd ty pos af g w1 hs=>k2 d ty pos af g w1⟩,rfl⟩
 .rename_i p q hx uC xX;split at e
  .rename_i e' c he;cases e;obtain⟨t1,t2,t3,t4,_⟩:=TT.et _ _ _ he;obtain⟨sv,g1,v,rfl,rfl,_⟩:=bq h hx;obtain⟨sW,c',k1,k2⟩:=Ge (R:=bw c) (l:=([]:List (den c))) TT.bj h (h.st.cu g1) uC xX (RS.empty _ _ _) t1 (vQ t2) hp;exact⟨⟨V (.slice sW (tX p q ([]:List (den c))).length c'),⟨_,rfl,sW,c',rfl,k1⟩,λd ty pos af g w1 hs=>k2 d ty pos af g w1⟩,rfl⟩
  grind
 grind
theorem U9{v:RV}{sv:SV}{q:Bool×List TV}(e:sJ v=some q)(h:fO w χ E s v sv)(hp:q.2.all okF=true):∃y,sv=.s y/\FR w χ q y:=by
 have key:∀x,okF x=true->∀sv,TR w χ E s x sv->∃y,sv=.s y/\PR w χ x y:=by
  intro x hx sv h;cases x with
  |p id off=>obtain rfl:sv=Pt id off:=h;exact⟨_,rfl,.inl ⟨id,off,rfl,rfl⟩⟩
  |o _=>cases hx
  |m _=>cases hx
  |f _ _ _=>cases hx
  |a _ _ _=>cases hx
  |e _ _ _=>cases hx
  |md _ _=>cases hx
  |j=>cases hx
  |_=>obtain⟨v,rfl,hv⟩:=h;exact⟨_,rfl,.inr ⟨v,rfl,hv⟩⟩
 unfold sJ at e;split at e<;>cases e
 .rw[cd,ak]at hp;obtain⟨y,rfl,hy⟩:=key _ hp.1 _ h;exact⟨y,rfl,hy⟩
 .obtain⟨vs,rfl,hv⟩:=h;refine⟨_,rfl,vs,rfl,?_⟩;rename_i l;have hp:l.all okF=true:=hp
  induction l generalizing vs with
  |nil=>cases vs with|nil=>trivial|cons _ _=>exact hv.elim
  |cons x l ih=>cases vs with
   |nil=>exact hv.elim
   |cons v vs =>
    rw[cd,ak]at hp;refine⟨?_,ih hp.2 _ hv.2 hp.2⟩;have h1:=hv.1.1;have h2:=hp.1;cases x with
    |p id off=>cases h1
    |o _=>cases h2
    |m _=>cases h2
    |f _ _ _=>cases h2
    |a _ _ _=>cases h2
    |e _ _ _=>cases h2
    |md _ _=>cases h2
    |j=>cases h2
    |_=>obtain⟨v',e,hv⟩:=h1;cases e;exact hv
theorem Fz:∀{vs:List RV} {ss:List SV} {l:List (Bool×List TV)},LZ vs=some l->FL (fO w χ E s) vs ss->l.all (λx=>x.2.all okF)=true->∃ys,QF ss=some ys/\FL (FR w χ) l ys
 |[],[],_,e,_,_=>by cases e;exact⟨[],rfl,trivial⟩
 |[],_::_,_,_,h,_=>h.elim
 |_::_,[],_,_,h,_=>h.elim
 |v::vs,sv::ss,l,e,h,p=>by obtain⟨y,r,h1,h2,rfl⟩:=fI e;rw[cd,ak]at p;obtain⟨z,rfl,hz⟩:=U9 h1 h.1 p.1;obtain⟨zs,e2,hzs⟩:=Fz h2 h.2 p.2;exact⟨z::zs,by unfold QF;simp only[e2],hz,hzs⟩
theorem N1:∀{vs:List RV} {ss:List SV} {l:List TV},YA vs=some l->FL (fO w χ E s) vs ss->∃ys,QF ss=some ys/\FL (PR w χ) l ys
 |[],[],_,e,_=>by cases e;exact⟨[],rfl,trivial⟩
 |[],_::_,_,_,h=>h.elim
 |_::_,[],_,_,h=>h.elim
 |v::vs,sv::ss,l,e,h=>by
  unfold YA at e;split at e
  .grind
  .rename_i id off l' h0;cases h0;obtain⟨y,r,h1,h2,rfl⟩:=fI e;cases h1;obtain⟨zs,e2,hzs⟩:=N1 h2 h.2;obtain rfl:sv=Pt id off:=h.1;exact⟨.p id off::zs,by unfold QF;simp only[e2],.inl ⟨id,off,rfl,rfl⟩,hzs⟩
  grind
theorem aeP(h:bX X s E sy a w χ){f:Nat}{fi cp:Array Operand}{r:RV}{d:Option Nat}{ty:TypeId}{pos:String}{af:Array Edge}{g:Option (Nat×Bool)}(e:aa4 f (Te.j7 s fi.toList) (Te.j7 s cp.toList)=some r):∃sv,dV T.bj sy ⟨d,.makeFunc (.func f) fi cp,ty,pos,af,g⟩=some sv/\fO w χ E s r sv:=by
 unfold aa4 at e;split at e
 .rename_i p q hp hq;split at e
  .rename_i l m hl hm;obtain⟨hb,e⟩:=dw e;cases e;obtain⟨ss,h1,h2⟩:=ry h hp;obtain⟨us,h3,h4⟩:=ry h hq;obtain⟨ys,h5,h6⟩:=Fz hl h2 hb;obtain⟨zs,h7,h8⟩:=N1 hm h4;exact⟨_,by unfold dV;simp only[h1,h3,h5,h7],ys,zs,rfl,h6,h8⟩
  grind
 grind
theorem CQ{e:Option TC}{c:TC}(h:mIs e c=true):e=some c:=by
 unfold mIs at h;grind
theorem CK{c:TC}{v:Value}{x:den c}(h:VR (bw c) (mR c) w χ v x):fO w χ E s (vd c (kd c x)) (V v):=by
 unfold vd;cases hi:mR c with
 |true=>rw[hi]at h;obtain⟨cs,rfl,h⟩:=h;exact⟨cs,rfl,ue (Cz c h)⟩
 |false =>
  rw[hi]at h;have h:=Cz c h;cases ho:kd c x with
  |nil=>rw[ho]at h;exact h.elim
  |cons y l =>
   rw[ho]at h;cases l with
   |nil=>exact kS h.1
   |cons z l=>exact h.2.elim
theorem fO.one{v:RV}{sv:SV}(h:fO w χ E s v sv)(hn:∀l,v≠.t l):Oa w χ E s v sv:=by
 cases v with
 |s x=>exact h
 |g l=>exact h
 |t l=>exact absurd rfl (hn l)
theorem TA(c:TC)(l:List TV)(q:List RV):vd c l≠.t q:=by
 unfold vd;cases mR c with
 |true=>intro h;cases h
 |false=>simp only[eQ];split<;>intro h<;>cases h
theorem aaU(TT:gW P T)(h:bX X s E sy a w χ){t:TypeId}{x y:Operand}{ok:Bool}{r:RV}(e:Sr T s (T.mt t) ok (ev s x) (ev s y)=some r):QV P s E a w χ (.lookup t x y ok) r:=by
 unfold Sr at e;split at e
 .rename_i k q hx hy;split at e
  .rename_i c l hm;cases hc:mIs (T.mt t) c with
   |false=>rw[hc]at e;cases e
   |true =>
    rw[hc]at e;split at e
    .rename_i z hz;cases e;obtain⟨sv,g1,g2⟩:=bq h hx;obtain rfl:=TR.map (w:=w) (χ:=χ) g2 hm;obtain⟨su,g3,g4⟩:=bq h hy;obtain rfl:=g4.int;obtain⟨h1,es,clock,h2,_,h3⟩:=h.aZ k _ hm;obtain⟨_,kt,et,zv,k1,k2,k3,k4⟩:=TT.mt _ _ (CQ hc);have ex:a.eval x=.map (some (E.μ k)):=h.st.cu g1;have ey:a.eval y=kI.v q:=h.st.cu g3;obtain⟨zs,hzi,hzv⟩:=qp.1 k3;rcases EL.find q 0 h3 with⟨f1,f2,_⟩|⟨j,e,x',f1,f2,f3,f4,f5,_⟩
     .cases ok with
      |false =>
       refine⟨V zv,CK (by rw[f2];exact k4 z hz w χ),λd ty pos af g w1 hs=>?_⟩;have hh:w1.heap[E.μ k]?=some (.map es clock):=(hs _ (gF h2) (.inr (.inr (.inr ⟨k,_,hm,h1⟩)))).trans h2;have QJ:(zeroValue et).run P w1=.ok zv w1:=by simp[zeroValue,typeInfo,hzi,hzv]
       simp[execOp,ex,ey,Instr.lookup,aH k1,iE hh,MapKept.run_checkKey k2 (kI.TW q),MapKept.run_findKey k2 f1,QJ,aP,bT]
      |true =>
       refine⟨V (.tuple #[zv,.bool (bB l q).isSome]),⟨[zv,.bool (bB l q).isSome],rfl,Kj.of<|fO.one (CK (by rw[f2];exact k4 z hz w χ)) (λ_=>TA _ _ _),⟨_,rfl,rfl⟩,trivial⟩,λd ty pos af g w1 hs=>?_⟩;have hh:w1.heap[E.μ k]?=some (.map es clock):=(hs _ (gF h2) (.inr (.inr (.inr ⟨k,_,hm,h1⟩)))).trans h2;have QJ:(zeroValue et).run P w1=.ok zv w1:=by simp[zeroValue,typeInfo,hzi,hzv]
       simp[execOp,ex,ey,Instr.lookup,aH k1,iE hh,MapKept.run_checkKey k2 (kI.TW q),MapKept.run_findKey k2 f1,QJ,f2,aP,bT]
     .cases ok with
      |false=>refine⟨V e.val,CK (by rw[f4];exact f5),λd ty pos af g w1 hs=>?_⟩;have hh:w1.heap[E.μ k]?=some (.map es clock):=(hs _ (gF h2) (.inr (.inr (.inr ⟨k,_,hm,h1⟩)))).trans h2;simp[execOp,ex,ey,Instr.lookup,aH k1,iE hh,MapKept.run_checkKey k2 (kI.TW q),MapKept.run_findKey k2 f1,aP,bT]
      |true=>refine⟨V (.tuple #[e.val,.bool (bB l q).isSome]),⟨[e.val,.bool (bB l q).isSome],rfl,Kj.of<|fO.one (CK (by rw[f4];exact f5)) (λ_=>TA _ _ _),⟨_,rfl,rfl⟩,trivial⟩,λd ty pos af g w1 hs=>?_⟩;have hh:w1.heap[E.μ k]?=some (.map es clock):=(hs _ (gF h2) (.inr (.inr (.inr ⟨k,_,hm,h1⟩)))).trans h2;simp[execOp,ex,ey,Instr.lookup,aH k1,iE hh,MapKept.run_checkKey k2 (kI.TW q),MapKept.run_findKey k2 f1,f4,aP,bT]
    grind
  grind
 grind
theorem sA{b:Bool}{v:Option RV}{r:RV}(e:ifR b v=some r):b=true/\v=some r:=by
 cases b with
 |true=>exact⟨rfl,e⟩
 |false=>cases e
theorem tJ{o:Option sX}(e:qT o=true):∃a b c d k,o=some ⟨a,b,c,d,.slice k⟩:=by
 unfold qT at e;grind
theorem Lr{o:Option sX}(e:vk o=true):∃a b c d,o=some ⟨a,b,c,d,.str⟩:=by
 unfold vk at e;grind
theorem aeO(TT:gW P T)(h:bX X s E sy a w χ){t:TypeId}{x:Operand}{r:RV}(e:aa3 s (aa T.bj t) (T.mt t).isSome (ev s x)=some r):QV P s E a w χ (.call ⟨.builtin .len,#[x],#[t]⟩) r:=by
 unfold aa3 at e;split at e
 .rename_i c l hx;obtain⟨hb,e⟩:=sA e;cases e;refine iL TT h λd ty pos af g=>?_;obtain⟨sv,g1,v,rfl,ad,cp,rfl,hR⟩:=bq h.yu hx;obtain⟨b1,b2,b3,b4,b5,hl⟩:=tJ hb;exact⟨_,by unfold dV;simp only[g1,hl],_,rfl,rfl⟩
 .rename_i l hx;obtain⟨hb,e⟩:=sA e;cases e;refine iL TT h λd ty pos af g=>?_;obtain⟨sv,g1,g2⟩:=bq h.yu hx;obtain rfl:=g2.str;obtain⟨b1,b2,b3,b4,hl⟩:=Lr hb;exact⟨I (bs l).size,by unfold dV;simp only[g1,hl],_,rfl,by rw[q9];rfl⟩
 .rename_i j hx;split at e
  .rename_i e0 c l hj;obtain⟨hb,e⟩:=sA e;cases e;refine iL TT h λd ty pos af g=>?_;obtain⟨sv,g1,g2⟩:=bq h.yu hx;obtain rfl:=TR.own (w:=w) (χ:=χ) g2 hj;obtain⟨b1,b2,b3,b4,b5,hl⟩:=tJ hb;exact⟨_,by unfold dV;simp only[g1,hl],_,rfl,rfl⟩
  grind
 .rename_i j hx;split at e
  .rename_i c l hj;obtain⟨hb,e⟩:=sA e;cases e;obtain⟨c',Bb⟩:=bR.1 hb;obtain⟨_,kt,et,zv,k1,_⟩:=TT.mt _ _ Bb;obtain⟨sv,g1,g2⟩:=bq h hx;obtain rfl:=TR.map (w:=w) (χ:=χ) g2 hj;obtain⟨h1,es,clock,h2,_,h3⟩:=h.aZ j _ hj;have ex:a.eval x=.map (some (E.μ j)):=h.st.cu g1;have hz:es.size=l.length:=by rw[←cm];exact EL.len h3
   refine⟨I (l.length:Nat),⟨_,rfl,rfl⟩,λd ty pos af g w1 hs=>?_⟩;have hh:w1.heap[E.μ j]?=some (.map es clock):=(hs _ (gF h2) (.inr (.inr (.inr ⟨j,_,hj,h1⟩)))).trans h2;simp[execOp,resolve,invoke,builtin,ex,Builtin.len_,aH k1,iE hh,hz,goInt,aP,bT]
  grind
 .rename_i hx;obtain⟨hb,e⟩:=sA e;cases e;refine iL TT h λd ty pos af g=>?_;obtain⟨sv,g1,v,rfl,rfl,_⟩:=bq h.yu hx;obtain⟨b1,b2,b3,b4,b5,hl⟩:=tJ hb;exact⟨I ((0:Nat):Int),by unfold dV;simp only[g1,hl],_,rfl,rfl⟩
 grind
theorem Yo(h:bX X s E sy a w χ){x:Operand}{j off:Nat}{i:Int}(hx:ev s x=some (.s (.e j i off)))(hj:(aa s.own j).isSome=true):∃ow b,aa s.own j=some ow/\a.eval x=.pointer (some ⟨b,i.toNat*(bw ow.c).n+off,none⟩)/\0<=i/\i<ow.l.length/\E.σ j=some ⟨b,0,none⟩:=by
 obtain⟨ow,how⟩:=bR.1 hj;obtain⟨sv,g1,g2⟩:=bq h hx;obtain⟨v0,rfl,g2⟩:=g2;obtain⟨h0,h1,b,h2,rfl⟩:=g2 ow how;exact⟨ow,b,how,h.st.cu g1,h0,h1,h2⟩
theorem ac1{j off:Nat}{i:Int}{ow:Wa}{b:Nat}(h1:aa s.own j=some ow)(h2:0<=i)(h3:i<ow.l.length)(h4:E.σ j=some ⟨b,0,none⟩):fO w χ E s (.s (.e j i off)) (V (.pointer (some ⟨b,i.toNat*(bw ow.c).n+off,none⟩))):=⟨_,rfl,λmQ e=>by rw[h1]at e;cases e;exact⟨h2,h3,b,h4,rfl⟩⟩
theorem aaS(h:bX X s E sy a w χ){x:Operand}{r:RV}(e:aa0 s (ev s x)=some r):QV P s E a w χ (.nilCheck x) r:=by
 unfold aa0 at e;split at e
 .rename_i id off hx;cases e;obtain⟨sv,g1,g2⟩:=bq h hx;cases g2;have ex:a.eval x=.pointer (some ⟨E.ρ id,off,none⟩):=h.st.cu g1;exact⟨Pt id off,rfl,λd ty pos af g w1 hs=>by simp[execOp,ex,aP,bT]⟩
 .rename_i c y off hx;cases e;obtain⟨sv,g1,b,o,rfl,hA⟩:=bq h hx;have ex:a.eval x=.pointer (some ⟨b,o+off,none⟩):=h.st.cu g1;exact⟨_,⟨b,o,rfl,hA⟩,λd ty pos af g w1 hs=>by simp[execOp,ex,aP,bT]⟩
 .rename_i j i off hx;obtain⟨hb,e⟩:=sA e;cases e;obtain⟨ow,b,h1,ex,h2,h3,h4⟩:=Yo h hx hb;exact⟨_,ac1 h1 h2 h3 h4,λd ty pos af g w1 hs=>by simp[execOp,ex,aP,bT]⟩
 grind
theorem Sj(TT:gW P T)(h:bX X s E sy a w χ){t f:TypeId}{x:Operand}{r:RV}(e:Gl s (ev s x) (AN T t f)=some r):QV P s E a w χ (.fieldAddr t x f) r:=by
 unfold Gl at e;split at e
 .rename_i id off o n ag hx hf;obtain⟨hb,e⟩:=dw (show(bif Nat.ble 1 n then some (RV.s (.p id (off+o)))else none)=some r from e);subst e;exact iL TT h λd ty pos af g=>Si h.yu hx hf hb
 .rename_i c y off o n ag hx hf;obtain⟨hb,e⟩:=dw (show(bif Nat.ble 1 n then some (RV.s (.a c y (off+o)))else none)=some r from e);subst e;obtain⟨sv,g1,b,oo,rfl,hA⟩:=bq h hx;refine⟨V (.pointer (some ⟨b,oo+(off+o),none⟩)),⟨b,oo,rfl,hA⟩,λd ty pos af g w1 hs=>?_⟩;rw[←jH];exact Mz TT.bj hf hb (h.st.cu g1)
 .rename_i j i off o n ag hx hf;obtain⟨hb,e⟩:=dw (show(bif Nat.ble 1 n&&(aa s.own j).isSome then some (RV.s (.e j i (off+o)))else none)=some r from e);subst e;rw[ak]at hb;obtain⟨ow,b,h1,ex,h2,h3,h4⟩:=Yo h hx hb.2;refine⟨_,ac1 h1 h2 h3 h4,λd ty pos af g w1 hs=>?_⟩;rw[←jH];exact Mz TT.bj hf hb.1 ex
 grind
theorem Sg(TT:gW P T)(h:bX X s E sy a w χ){t:TypeId}{x y:Operand}{r:Qr}(e:qIndexA s (T.et t) (ev s x) (ev s y) (arr T t)=some r)(hp:∀z,r.pre=some z->z):QV P s E a w χ (.indexAddr t x y) r.v/\r.F5=[]:=by
 unfold qIndexA at e;split at e
 .rename_i c l k n hx hy;grind[Sd]
 .rename_i j k n hx hy;split at e
  .rename_i e0 c l hj;grind[Se]
  grind
 .rename_i id off k n hx hy;split at e
  .rename_i len es ha;obtain⟨hb,e⟩:=dw (show(bif Nat.blt n len then some (⟨none,[],.s (.p id (off+n*es))⟩:Qr)else none)=some r from e);subst e;exact⟨iL TT h λd ty pos af g=>aaY h.yu hx hy ha hb,rfl⟩
  grind
 .rename_i c z off k n hx hy;split at e
  .rename_i len es ha;obtain⟨hb,e⟩:=dw (show(bif Nat.blt n len then some (⟨none,[],.s (.a c z (off+n*es))⟩:Qr)else none)=some r from e);subst e;obtain⟨sv,g1,b,oo,rfl,hA⟩:=bq h hx;obtain⟨su,g2,g3⟩:=bq h hy;obtain rfl:=g3.int;refine⟨⟨V (.pointer (some ⟨b,oo+(off+n*es),none⟩)),⟨b,oo,rfl,hA⟩,λd ty pos af g w1 hs=>?_⟩,rfl⟩;rw[←jH];exact MA TT.bj ha hb (h.st.cu g1) (h.st.cu g2)
  grind
 .rename_i j i off k n hx hy;split at e
  .rename_i len es ha;obtain⟨hb,e⟩:=dw (show(bif Nat.blt n len&&(aa s.own j).isSome then some (⟨none,[],.s (.e j i (off+n*es))⟩:Qr)else none)=some r from e);subst e;rw[ak]at hb;obtain⟨ow,b,h1,ex,h2,h3,h4⟩:=Yo h hx hb.2;obtain⟨su,g2,g3⟩:=bq h hy;obtain rfl:=g3.int;refine⟨⟨_,ac1 h1 h2 h3 h4,λd ty pos af g w1 hs=>?_⟩,rfl⟩;rw[←jH];exact MA TT.bj ha hb.1 ex (h.st.cu g2)
  grind
 grind
theorem aaV(TT:gW P T)(h:bX X s E sy a w χ){mem:Bool}{t:TypeId}{x:Operand}{r:Qr}(e:qLoad mem s (ev s x) (Oy T t)=some r):QV P s E a w χ (.load t x) r.v/\∀p,smL r.F5 p->p:=by
 unfold qLoad at e;split at e
 .rename_i id off n agg hx ht;split at e
  .rename_i cs hb;cases hl:Nat.ble (off+n) cs.length with
   |false=>rw[hl]at e;cases e
   |true=>rw[hl]at e;obtain⟨e1,_,e3⟩:=fL e;exact⟨iL TT h λd ty pos af g=>WJ h.yu hx ht hb (aB hl) e1,by rw[e3];exact λp h=>h⟩
  grind
 .rename_i c y off n agg hx ht;cases hl:mem&&Nat.ble (off+n) (kd c y).length with
  |false=>rw[hl]at e;cases e
  |true =>
   rw[hl]at e;rw[ak]at hl;cases hm:Is s agg (((kd c y).drop off).take n)with
   |none=>rw[hm]at e;cases e
   |some v=>rw[hm]at e;cases e;exact WK TT h hx ht (aB hl.2) hm
 .rename_i j i off n agg hx ht;cases mem with
  |false=>cases e
  |true =>
   split at e
   .rename_i e0 c l hj;cases hl:Nat.ble (off+n) (kd c (@gi (den c) (zU c) l i)).length with
    |false=>rw[hl]at e;cases e
    |true =>
     rw[hl]at e;cases hm:Is s agg (((kd c (@gi (den c) (zU c) l i)).drop off).take n)with
     |none=>rw[hm]at e;cases e
     |some v=>rw[hm]at e;cases e;exact WI TT h hx hj ht (aB hl) hm
   grind
 grind
theorem aeR(TT:gW P T)(h:bX X s E sy a w χ){op:BinOp}{t yt:TypeId}{x y:Operand}{r:Qr}(e:WO (tL (aa T.bj t)) (isC y) (T.kt t) op (ev s x) (ev s y)=some r)(hp:∀z,r.pre=some z->z):QV P s E a w χ (.binOp op t x y yt) r.v/\r.F5=[]:=by
 unfold WO at e;split at e
 .rename_i k p k' q hx hy;cases hQ:isQ op with
  |false=>refine⟨iL TT h λd ty pos af g=>(Zh h.yu hx hy e hQ hp).1,(Zh (bj:=T.bj) (d:=none) (ty:=0) (pos := "") (af:=#[]) (g:=none) (t:=t) (yt:=yt) h.yu hx hy e hQ hp).2⟩
  |true =>
   have hS:XC op=false:=by cases op<;>first|rfl|cases hQ
   unfold qInt at e;rw[hS,hQ]at e;cases hk:sameKind k k' with
   |false=>rw[hk]at e;cases e
   |true =>
    rw[hk]at e;cases Te.fQ hk;cases hc:isC y with
    |true =>
     rw[hc]at e;cases hz:(q==0)with
     |true=>rw[hz]at e;cases e
     |false=>grind[fL,Zg]
    |false =>
     rw[hc]at e;cases hq:Sn op k p q with
     |none=>rw[hq]at e;cases e
     |some v=>rw[hq]at e;cases e;exact⟨Zg h hx hy hq (hp _ rfl),rfl⟩
 .grind[aeL]
 .rename_i hx hy;obtain⟨e1,_,e3⟩:=fL e;exact⟨iL TT h λd ty pos af g=>aeK h.yu hx hy e1,e3⟩
 .grind[fL,aeS]
 grind
theorem wA{α:Type}{b:Bool}{x:Option α}{y:α}(h:(bif b then x else none)=some y):b=true/\x=some y:=by
 cases b with
 |true=>exact⟨rfl,h⟩
 |false=>cases h
theorem ajg(TT:gW P T)(h:bX X s E sy a w χ){op:BinOp}{t yt:TypeId}{x y:Operand}{r:RV}(e:qNC s (T.pt t) (T.mt t).isSome op (ev s x) (ev s y)=some r):QV P s E a w χ (.binOp op t x y yt) r:=by
 have eqr:∀{e:Nat} {p:Addr} {w1:World},P.underlying t=some (.pointer e)->(Op.equal t (.pointer (some p)) (.pointer none)).run P w1=.ok false w1:=by intro e p w1 hu;unfold Op.equal Op.maxDepth;rw[show(10000:Nat)=9999+1 from rfl,Op.equalIn];simp[aH hu,Result.andThen]
 have eqm:∀{kt et:Nat} {p:Nat} {w1:World},P.underlying t=some (.map kt et)->(Op.equal t (.map (some p)) (.map none)).run P w1=.ok false w1:=by intro kt et p w1 hu;unfold Op.equal Op.maxDepth;rw[show(10000:Nat)=9999+1 from rfl,Op.equalIn];simp[aH hu,Result.andThen]
 have ptr:∀{id off:Nat},ev s x=some (.s (.p id off))->ev s y=some (.s (.v (.pointer none)))->a.eval x=.pointer (some ⟨E.ρ id,off,none⟩)/\a.eval y=.pointer none:=by intro id off hx hy;obtain⟨sv,g1,g2⟩:=bq h hx;cases g2;obtain⟨su,g3,v,rfl,rfl,_⟩:=bq h hy;exact⟨h.st.cu g1,h.st.cu g3⟩
 have map:∀{k:Nat},ev s x=some (.s (.m k))->ev s y=some (.s (.v (.map none)))->(aa s.aZ k).isSome=true->a.eval x=.map (some (E.μ k))/\a.eval y=.map none:=by intro k hx hy hs;obtain⟨mp,hm⟩:=bR.1 hs;obtain⟨sv,g1,g2⟩:=bq h hx;obtain rfl:=TR.map (w:=w) (χ:=χ) g2 hm;obtain⟨su,g3,v,rfl,rfl,_⟩:=bq h hy;exact⟨h.st.cu g1,h.st.cu g3⟩
 have mty:(T.mt t).isSome=true->∃kt et,P.underlying t=some (.map kt et):=λhs=>by obtain⟨c,hc⟩:=bR.1 hs;obtain⟨_,kt,et,_,h1,_⟩:=TT.mt _ _ hc;grind
 unfold qNC at e;split at e
 .rename_i hx hy;obtain⟨hb,e⟩:=wA e;cases e;obtain⟨ex,ey⟩:=ptr hx hy;obtain⟨_,hu⟩:=TT.pt _ hb;exact⟨B true,⟨_,rfl,rfl⟩,λd ty pos af g w1 _=>by simp[execOp,ex,ey,eqGuard,binOp,eqr hu,Result.andThen,aP,bT]⟩
 .rename_i hx hy;obtain⟨hb,e⟩:=wA e;cases e;obtain⟨ex,ey⟩:=ptr hx hy;obtain⟨_,hu⟩:=TT.pt _ hb;exact⟨B false,⟨_,rfl,rfl⟩,λd ty pos af g w1 _=>by simp[execOp,ex,ey,eqGuard,binOp,eqr hu,Result.andThen,aP,bT]⟩
 .rename_i k hx hy;obtain⟨hb,e⟩:=wA e;cases e;rw[ak]at hb;obtain⟨ex,ey⟩:=map hx hy hb.2;obtain⟨_,_,hu⟩:=mty hb.1;exact⟨B true,⟨_,rfl,rfl⟩,λd ty pos af g w1 _=>by simp[execOp,ex,ey,eqGuard,binOp,eqm hu,Result.andThen,aP,bT]⟩
 .rename_i k hx hy;obtain⟨hb,e⟩:=wA e;cases e;rw[ak]at hb;obtain⟨ex,ey⟩:=map hx hy hb.2;obtain⟨_,_,hu⟩:=mty hb.1;exact⟨B false,⟨_,rfl,rfl⟩,λd ty pos af g w1 _=>by simp[execOp,ex,ey,eqGuard,binOp,eqm hu,Result.andThen,aP,bT]⟩
 grind
theorem aaX(TT:gW P T)(h:bX X s E sy a w χ){op:BinOp}{t yt:TypeId}{x y:Operand}{r:Qr}(e:orQ (qNC s (T.pt t) (T.mt t).isSome op (ev s x) (ev s y)) (WO (tL (aa T.bj t)) (isC y) (T.kt t) op (ev s x) (ev s y))=some r)(hp:∀z,r.pre=some z->z):QV P s E a w χ (.binOp op t x y yt) r.v/\r.F5=[]:=by
 unfold orQ at e;split at e
 .rename_i v hv;cases e;grind[ajg]
 grind[aeR]
theorem IT{k:IntKind}:∀{l:List TV} {vs:List Value} {xs:List Int},Nq k l=some xs->FL (λx v=>TR w χ E s x (V v)/\v.oneCell'=true) l vs->vs=xs.map (Value.int k)
 |[],[],xs,e,_=>by cases e;rfl
 |[],_::_,_,_,h=>h.elim
 |_::_,[],_,_,h=>h.elim
 |x::l,v::vs,xs,e,h=>by
  unfold Nq at e;split at e
  .grind
  .rename_i k' y l' heq;cases heq;cases hk:sameKind k k' with
   |false=>rw[hk]at e;cases e
   |true =>
   rw[hk]at e;obtain⟨a,q,h1,h2,rfl⟩:=fI e;cases h1;obtain⟨u,h3,h4⟩:=h.1.1;cases h3;cases h4;rw[ba,IT h2 h.2,fQ hk]
  grind
theorem Sf(TT:gW P T)(h:bX X s E sy a w χ){t:TypeId}{x y:Operand}{l:List TV}{k:IntKind}{n:Int}{r:Qr}(hx:ev s x=some (.g l))(hy:ev s y=some (.s (.int k n)))(e:qIndexG (YM T t) n l=some r)(hp:∀z,r.pre=some z->z):QV P s E a w χ (.index t x y) r.v/\r.F5=[]:=by
 unfold qIndexG at e;split at e
 .rename_i k0 x0 l0;split at e
  .rename_i xs m Hr hm;obtain⟨hb,e⟩:=dw e;subst e;obtain⟨h0,h1⟩:=hp _ rfl;have hlen:=aD hb;obtain⟨sv,g1,vs,rfl,g3⟩:=bq h hx;obtain⟨su,g4,g5⟩:=bq h hy;obtain rfl:=g5.int;have hvs:=IT Hr g3;have ex:a.eval x=.agg vs.toArray:=h.st.cu g1;have ey:a.eval y=.int k n:=h.st.cu g4;unfold YM at hm;split at hm
   .rename_i m' e' GS;split at hm
    .rename_i ty XK;cases QR:ty.agg with
     |true=>rw[QR]at hm;cases hm
     |false =>
      rw[QR]at hm;cases hm;obtain⟨dd,z6,V2⟩:=BC TT.bj (t:=e') (b:=false) (by unfold DI;rw[XK];show(ty.agg==false)=true;rw[QR];rfl);obtain⟨inf,d',z,hi,hd',hz,hs,lZ,lx,iA,_,PU,_⟩:=a8 (TT.bj _ _ GS);obtain⟨rfl,j,hj,hj1⟩:=PU _ _ _ rfl;have uB:vs[n.toNat]?=some (.int k0 (gi xs n)):=by grind[qW]
      have NC:n<(m:Int):=by rw[hlen];exact h1
      refine⟨⟨V (.int k0 (gi xs n)),⟨_,rfl,rfl⟩,λd ty pos af g w1 hs=>?_⟩,rfl⟩;simp[execOp,ex,ey,Instr.index,asIntOf,aH hd',h0,NC,part,ig z6,V2,Sv.run_sizeOf (w:=w1) hj,hj1,uB,aP,bT]
    grind
   grind
  grind
 grind
theorem WL(TT:gW P T)(h:bX X s E sy a w χ){t:TypeId}{x y:Operand}{r:Qr}(e:qIndex (vk (aa T.bj t)) (YM T t) (ev s x) (ev s y)=some r)(hp:∀z,r.pre=some z->z):QV P s E a w χ (.index t x y) r.v/\r.F5=[]:=by
 unfold qIndex at e;split at e
 .rename_i hx hy;grind[Sc]
 .grind[Sf]
 grind
theorem aaW(h:bX X s E sy a w χ){t0 t:TypeId}{x:Operand}{r:RV}{d:Option Nat}{ty:TypeId}{pos:String}{af:Array Edge}{g:Option (Nat×Bool)}(e:Ss (aa T.bj t0).isSome (ev s x) (aa T.bj t)=some r):∃sv,dV T.bj sy ⟨d,.convert t0 t x,ty,pos,af,g⟩=some sv/\fO w χ E s r sv:=by
 unfold Ss at e;split at e
 .rename_i k0 n b1 b2 b3 b4 k hx hl;obtain⟨ht,e⟩:=dw (show(bif (aa T.bj t0).isSome then some (RV.s (.int k (k.wrap n)))else none)=some r from e);subst e;obtain⟨sv,h1,h2⟩:=bq h hx;obtain rfl:=h2.int;obtain⟨z,hz⟩:=bR.1 ht;exact⟨_,by unfold dV;simp only[h1,hl,hz],_,rfl,rfl⟩
 grind
theorem uU(TT:gW P T)(h:bX X s E sy a w χ){mem:Bool}{o:Op}{r:Qr}(e:uV T mem s o=some r)(hp:∀z,r.pre=some z->z):QV P s E a w χ o r.v/\∀p,smL r.F5 p->p:=by
 have fin:QV P s E a w χ o r.v/\r.F5=[]->QV P s E a w χ o r.v/\∀p,smL r.F5 p->p:=λ⟨h1,h2⟩=>⟨h1,by rw[h2];exact λp h=>h⟩
 unfold uV at e;split at e
 .obtain⟨e1,_,e3⟩:=fL e;exact fin ⟨iL TT h λd ty pos af g=>aaT h.yu e1,e3⟩
 .obtain⟨e1,_,e3⟩:=fL e;exact fin ⟨iL TT h λd ty pos af g=>Sk h.yu e1,e3⟩
 .obtain⟨e1,_,e3⟩:=fL e;exact fin ⟨iL TT h λd ty pos af g=>aaR h.yu e1,e3⟩
 .exact fin (aaX TT h e hp)
 .obtain⟨e1,_,e3⟩:=fL e;exact fin ⟨iL TT h λd ty pos af g=>ajf h.yu e1,e3⟩
 .grind[aaV]
 .obtain⟨e1,_,e3⟩:=fL e;exact fin ⟨Sj TT h e1,e3⟩
 .obtain⟨e1,_,e3⟩:=fL e;exact fin ⟨iL TT h λd ty pos af g=>WN h.yu e1,e3⟩
 .obtain⟨e1,_,e3⟩:=fL e;exact fin ⟨OQ h e1,e3⟩
 .exact fin (Sg TT h e hp)
 .exact fin (WL TT h e hp)
 .obtain⟨e1,_,e3⟩:=fL e;exact fin ⟨iL TT h λd ty pos af g=>WM h.yu e1,e3⟩
 .cases mem with
  |false=>cases e
  |true=>obtain⟨e1,_,e3⟩:=fL e;exact fin ⟨aaU TT h e1,e3⟩
 .obtain⟨e1,_,e3⟩:=fL e;exact fin ⟨iL TT h λd ty pos af g=>aaW h.yu e1,e3⟩
 .obtain⟨e1,_,e3⟩:=fL e;exact fin ⟨aaS h e1,e3⟩
 .obtain⟨e1,_,e3⟩:=fL e;exact fin ⟨iL TT h λd ty pos af g=>aeP h.yu e1,e3⟩
 .exact fin (aeQ TT h e hp)
 .exact fin (WH TT h e hp)
 .split at e
  .rename_i xs qo _ x y Hr;obtain rfl:xs=#[x,y]:=by rw[←dI (xs:=xs),Hr]
   obtain⟨e1,_,e3⟩:=fL e;exact fin ⟨iL TT h λd ty pos af g=>aeM h.yu e1,e3⟩
  grind
 .split at e
  .rename_i xs qo _ x y Hr;obtain rfl:xs=#[x,y]:=by rw[←dI (xs:=xs),Hr]
   obtain⟨e1,_,e3⟩:=fL e;exact fin ⟨iL TT h λd ty pos af g=>aeN h.yu e1,e3⟩
  grind
 .split at e
  .rename_i xs qo _ _ x t Hr QN;obtain rfl:xs=#[x]:=by rw[←dI (xs:=xs),Hr]
   obtain rfl:qo=#[t]:=by rw[←dI (xs:=qo),QN]
   obtain⟨e1,_,e3⟩:=fL e;exact fin ⟨aeO TT h e1,e3⟩
  grind
 grind
end
end
section
structure Hu (nb:Nat) (o:Option Nat) (s s':TS) (E E':En) (a a':Act) (w w':World) (χ χ':Nat->Nat):Prop where
 tmps:∀t x,o≠some t->aa s.al t=some x->a'.tmps[t]?=a.tmps[t]?
 m0:M0 w χ w' χ'
 keep:∀b,b<w.heap.size->((∃id t cs,aa s.boxes id=some (t,cs)/\b=E.ρ id/\∀off,off<cs.length->2*(64*id+off)∉s'.ca)∨(∃k x,aa s.own k=some x/\χ b=E.c k/\2*k+1∉s'.ca)∨(∃k x,aa s.aZ k=some x/\χ b=E.m k/\2*k+1∉s'.ca))->w'.heap[b]?=w.heap[b]?/\χ' b=χ b
 box:∀id x,aa s.boxes id=some x->(∀off,off<x.2.length->2*(64*id+off)∉s'.ca)->E'.ρ id=E.ρ id
 own:∀k x,aa s.own k=some x->2*k+1∉s'.ca->E'.σ k=E.σ k/\E'.κ k=E.κ k/\E'.c k=E.c k
 map:∀k x,aa s.aZ k=some x->2*k+1∉s'.ca->E'.μ k=E.μ k/\E'.m k=E.m k
 ca:∀x∈s.ca,x∈s'.ca
 rho:∀id x,aa s.boxes id=some x->(∀d,o=some d->id≠d+1+nb)->E'.ρ id=E.ρ id
def dl:Option Nat->List Nat
 |some d=>[d]
 |none=>[]
structure Fr (ds:List Nat) (s s':TS):Prop where
 al:∀t,t∉ds->aa s'.al t=aa s.al t
 boxes:∀id t cs,aa s.boxes id=some (t,cs)->∃dG,aa s'.boxes id=some (t,dG)/\dG.length=cs.length/\∀off,off<cs.length->2*(64*id+off)∉s'.ca->dG[off]?=cs[off]?
 own:∀k,2*k+1∉s'.ca->aa s'.own k=aa s.own k
 aZ:∀k,2*k+1∉s'.ca->aa s'.aZ k=aa s.aZ k
 ca:∀x∈s.ca,x∈s'.ca
theorem Fr.trans{ds ds':List Nat}{s s' s'':TS}(h:Fr ds s s')(k:Fr ds' s' s''):Fr (ds++ds') s s'' :=
 ⟨λt ht=>(k.al t λe=>ht (aG _ e)).trans (h.al t λe=>ht (aN _ e)),λid t cs e=>by
  obtain⟨Yu,h1,h2,h3⟩:=h.boxes id t cs e;obtain⟨cs2,k1,k2,k3⟩:=k.boxes id t Yu h1;exact⟨cs2,k1,k2.trans h2,λoff ho hn=>(k3 off (h2.symm▸ho) hn).trans (h3 off ho λe=>hn (k.ca _ e))⟩,λq hn=>(k.own q hn).trans (h.own q λe=>hn (k.ca _ e)),λq hn=>(k.aZ q hn).trans (h.aZ q λe=>hn (k.ca _ e)),λx hx=>k.ca x (h.ca x hx)⟩
theorem Fr.wk{ds ds':List Nat}{s s':TS}(h:Fr ds s s')(k:∀t∈ds,t∈ds'):Fr ds' s s':=⟨λt ht=>h.al t λe=>ht (k t e),h.boxes,h.own,h.aZ,h.ca⟩
theorem Fr.same{ds:List Nat}{s s':TS}(h1:∀t,t∉ds->aa s'.al t=aa s.al t)(h2:s'.boxes=s.boxes)(h3:s'.own=s.own)(h4:s'.aZ=s.aZ)(h5:s'.ca=s.ca):Fr ds s s' :=
 ⟨h1,λid t cs e=>⟨cs,by rw[h2];exact e,rfl,λ_ _ _=>rfl⟩,λk _=>by rw[h3],λk _=>by rw[h4],λx hx=>by rw[h5];exact hx⟩
section
variable{P:Program}{T:Tb}{w w':World}{χ χ':Nat->Nat}{E E':En}{s s':TS}{X:Cx}{sy sy':Sy}{a a':Act}
theorem bX.step(h:bX X s E sy a w χ){p:Nat->Bool}(ev:Ev p w χ w' χ')(p0:p 0=false)(p1:p 1000=false)(st:St X.n sy' E'.ρ a' w' χ')
  (hr:∀t x,aa s'.al t=some x->(∃sv,aa sy'.al t=some sv/\fO w' χ' E' s' x sv)∨(aa s.al t=some x/\(∀sv,aa sy.al t=some sv->aa sy'.al t=some sv)/\∀y∈Dw x,Nm E E' s s' y))
  (hb:∀id t cs,aa s'.boxes id=some (t,cs)->(∃ss,aa sy'.boxes id=some (t,ss)/\FL (TR w' χ' E' s') cs ss)∨(aa s.boxes id=some (t,cs)/\(∀ss,aa sy.boxes id=some (t,ss)->aa sy'.boxes id=some (t,ss))/\∀y∈cs,Nm E E' s s' y))
  (ho:∀k x,aa s'.own k=some x->OS (bw x.c) x.e w' χ' (E'.c k) (E'.σ k) x.l (E'.κ k)∨(aa s.own k=some x/\E'.c k=E.c k/\E'.σ k=E.σ k/\E'.κ k=E.κ k/\p (E.c k)=false))
  (hm:∀k x,aa s'.aZ k=some x->OM kI (bw x.c) (mR x.c) w' χ' (E'.m k) (E'.μ k) x.l∨(aa s.aZ k=some x/\E'.m k=E.m k/\E'.μ k=E.μ k/\p (E.m k)=false))
  (aQ:QD E' s') (qu:Pin X.qu E'.ρ) (hρ:∀t x,aa s'.al t=some x->aa s.al t=some x->∀id∈MH x,E'.ρ id=E.ρ id:=by exact λ_ _ _ _ _ _=>rfl):bX X s' E' sy' a' w' χ' :=
 have m:=ev.m0 p0
 ⟨st,λt x e=>(hr t x e).elim id λ⟨h1,h2,h3⟩=>by
  obtain⟨sv,h4,h5⟩:=h.al t x h1;exact⟨sv,h2 sv h4,h5.tr m h3 (hρ t x e h1)⟩,λi t cs e=>(hb i t cs e).elim id λ⟨h1,h2,h3⟩=>by
  obtain⟨ss,h4,h5⟩:=h.boxes i t cs h1;exact⟨ss,h2 ss h4,DN (λy hy sv k=>k.tr m (h3 y hy)) h5⟩,λk x e=>(ho k x e).elim id λ⟨h1,h2,h3,h4,h5⟩=>by
  rw[h2,h3,h4];exact(h.own k x h1).mv ev h5 p0,λk x e=>(hm k x e).elim id λ⟨h1,h2,h3,h4⟩=>by
  rw[h2,h3];exact(h.aZ k x h1).mv ev h4 p0,aQ,h.lS.mv ev p0 p1,qu⟩
theorem Nm.same{y:TV}:Nm E E s s y:=λk _=>⟨λmQ e=>⟨mQ,e,rfl,rfl,rfl,rfl⟩,λmp' e=>⟨mp',e,rfl⟩⟩
theorem bX.drop(h:bX X s E sy a w χ)(ks:List Nat)(tc:List Nat):bX X ⟨s.al,s.boxes,s.own.filter (λq=>!ks.any (Nat.beq q.1)),s.aZ,tc⟩ E sy a w χ:=by
 have lk:∀k x,aa (s.own.filter (λq=>!ks.any (Nat.beq q.1))) k=some x->aa s.own k=some x:=λk x e=>(bg (f:=λi=>!ks.any (Nat.beq i)) e).2;have nm:∀y,Nm E E s ⟨s.al,s.boxes,s.own.filter (λq=>!ks.any (Nat.beq q.1)),s.aZ,tc⟩ y:=λy k _=>⟨λmQ e=>⟨mQ,lk k mQ e,rfl,rfl,rfl,rfl⟩,λmp' e=>⟨mp',e,rfl⟩⟩
 refine h.step (Ev.refl eN w χ) rfl rfl h.st (λt x e=>.inr ⟨e,λsv e=>e,λy _=>nm y⟩) (λi t cs e=>.inr ⟨e,λss e=>e,λy _=>nm y⟩) (λk x e=>.inr ⟨lk k x e,rfl,rfl,rfl,rfl⟩) (λk x e=>.inr ⟨e,rfl,rfl,rfl⟩) ⟨λk x e=>h.aQ.o k x (lk k x e),h.aQ.m,λk x j y e e'=>h.aQ.oo k x j y (lk k x e) (lk j y e'),λk x j y e e'=>h.aQ.om k x j y (lk k x e) e',h.aQ.mm⟩ h.qu
def sV(cs:List Nat)(χ:Nat->Nat)(b:Nat):Nat:=bif cs.any (Nat.beq (χ b))then 0 else χ b
def pF(cs:List Nat)(c:Nat):Bool:=cs.any (Nat.beq c)
theorem acA(cs:List Nat)(w:World)(χ:Nat->Nat):Ev (pF cs) w χ w (sV cs χ):=⟨rfl,rfl,rfl,aK _,λb _ hp=>⟨rfl,by unfold sV;unfold pF at hp;rw[hp];rfl⟩⟩
theorem xJ(cs:List Nat)(w:World)(χ:Nat->Nat):M0 w χ w (sV cs χ):=⟨aK _,λb _ h=>⟨rfl,by unfold sV;rw[h];cases cs.any (Nat.beq 0)<;>rfl⟩⟩
theorem any_beq{l:List Nat}{k:Nat}:l.any (Nat.beq k)=true↔k∈l:=by
 simp
theorem bl{l:List Nat}{k:Nat}:l.any (Nat.beq k)=false↔k∉l:=by
 grind[any_beq,Nat.beq]
theorem GJ{E:En}{s:TS}(h:QD E s){ks:List Nat}(hk:∀k∈ks,(aa s.own k).isSome=true){c:Nat}(hc:c<=1000):pF (ks.map E.c) c=false:=by
 refine bl.2 λhm=>?_;obtain⟨k,h1,h2⟩:=aq.1 hm;obtain⟨x,hx⟩:=bR.1 (hk k h1);have:=h.o k x hx;omega
theorem bX.freeze(h:bX X s E sy a w χ){ks:List Nat}(hk:∀k∈ks,(aa s.own k).isSome=true):bX X (hU ks s) E sy a w (sV (ks.map E.c) χ)/\∀k∈ks,∀x,aa s.own k=some x->RS (bw x.c) w (sV (ks.map E.c) χ) (E.σ k) x.l (E.κ k):=by
 have lk:∀k x,aa (s.own.filter (λq=>!ks.any (Nat.beq q.1))) k=some x->(k∉ks)/\aa s.own k=some x:=λk x e=>by obtain⟨h1,h2⟩:=bg (f:=λi=>!ks.any (Nat.beq i)) e;exact⟨bl.1 (by simpa using h1),h2⟩
 have nm:∀y,Nm E E s (hU ks s) y:=λy k _=>⟨λmQ e=>⟨mQ,(lk k mQ e).2,rfl,rfl,rfl,rfl⟩,λmp' e=>⟨mp',e,rfl⟩⟩
 have ev:=acA (ks.map E.c) w χ;have ne:∀k x,aa s.own k=some x->k∉ks->pF (ks.map E.c) (E.c k)=false:=λk x e hn=>bl.2 λhm=>by obtain⟨j,h1,h2⟩:=aq.1 hm;obtain⟨y,hy⟩:=bR.1 (hk j h1);exact hn (h.aQ.oo j y k x hy e h2▸h1)
 refine⟨h.step ev (GJ h.aQ hk (mb _)) (GJ h.aQ hk (aK _)) (h.st.ev ev λc hc=>GJ h.aQ hk (by simp[jo]at hc;omega)) (λt x e=>.inr ⟨e,λsv e=>e,λy _=>nm y⟩) (λi t cs e=>.inr ⟨e,λss e=>e,λy _=>nm y⟩) (λk x e=>.inr ⟨(lk k x e).2,rfl,rfl,rfl,ne k x (lk k x e).2 (lk k x e).1⟩) (λk x e=>.inr ⟨e,rfl,rfl,bl.2 λhm=>by
  obtain⟨j,h1,h2⟩:=aq.1 hm;obtain⟨y,hy⟩:=bR.1 (hk j h1);exact h.aQ.om j y k x hy e h2⟩) ⟨λk x e=>h.aQ.o k x (lk k x e).2,h.aQ.m,λk x j y e e'=>h.aQ.oo k x j y (lk k x e).2 (lk j y e').2,λk x j y e e'=>h.aQ.om k x j y (lk k x e).2 e',h.aQ.mm⟩ h.qu,λk hm x e=>?_⟩
 exact((h.own k x e).Sa (xJ (ks.map E.c) w χ) (col':=0) λb hb=>by
  unfold sV;rw[hb,any_beq.2 (aq.2 ⟨k,hm,rfl⟩)];rfl).rs0
theorem dU{b:Bool}{p:Prop}{n:Nat}(h:bif b then p else Er n):b=true/\p:=by
 cases b with
 |true=>exact⟨rfl,h⟩
 |false=>cases h
theorem LP{x y:TV}{v:Value}(m:M0 w χ w χ')(hz:∀k ow,x=.o k->aa s.own k=some ow->RS (bw ow.c) w χ' (E.σ k) ow.l (E.κ k))(hn:DU x=true)(n:NV (qx s x) y)(h:CV w χ E s x v):CR w χ' y v:=by
 cases x with
 |o k =>
  unfold qx at n;cases hk:aa s.own k with
  |none=>simp only[hk]at n;exact n.elim
  |some ow=>simp only[hk]at n;cases n;have:=TR.own (w:=w) (χ:=χ) h.1 hk;cases this;exact⟨_,_,rfl,hz k ow rfl hk⟩
 |m k=>cases hn
 |p _ _=>exact n.elim
 |f _ _ _=>exact n.elim
 |a _ _ _=>exact n.elim
 |e _ _ _=>exact n.elim
 |md _ _=>obtain⟨u,_,h2⟩:=h.1;exact h2.elim
 |j=>exact n.elim
 |_=>obtain⟨u,h1,h2⟩:=h.1;cases h1;exact CR.nv n (h2.m0 m)
theorem y9:∀{l q:List TV} {vs:List Value},M0 w χ w χ'->(∀x∈l,∀k ow,x=.o k->aa s.own k=some ow->RS (bw ow.c) w χ' (E.σ k) ow.l (E.κ k))->l.all DU=true->FL NV (l.map (qx s)) q->FL (CV w χ E s) l vs->FL (CR w χ') q vs
 |[],[],[],_,_,_,_,_=>trivial
 |[],_::_,_,_,_,_,n,_=>n.elim
 |[],[],_::_,_,_,_,_,h=>h.elim
 |_::_,[],_,_,_,_,n,_=>n.elim
 |_::_,_::_,[],_,_,_,_,h=>h.elim
 |x::l,y::q,v::vs,m,hz,hn,n,h=>by rw[cd,ak]at hn;exact⟨LP m (hz x aI) hn.1 n.1 h.1,y9 m (λx hx=>hz x (aw _ hx)) hn.2 n.2 h.2⟩
theorem sg:∀{l:List TV} {k:Nat},TV.o k∈l->k∈ownsV l
 |y::l,k,h=>by
  rcases aE.1 h with h|h
  .subst h;exact aI
  .have:=sg h;cases y<;>first|exact this|exact aw _ this
theorem LY(h:bX X s E sy a w χ){c:TC}{v:RV}{x:den c}{sv:SV}(m:M0 w χ w χ')(hz:∀k∈ownsV (aW v),∀ow,aa s.own k=some ow->RS (bw ow.c) w χ' (E.σ k) ow.l (E.κ k))(e:clR s c v=some x)(hv:fO w χ E s v sv)(hr:yy c=true):∃u,sv=V u/\VR (bw c) (mR c) w χ' u x/\(bw c).R w χ' u.cells.toList x:=by
 unfold clR at e;split at e
 .rename_i y;cases hb:mR c||!DU y with
  |true=>rw[hb]at e;cases e
  |false =>
   rw[hb]at e;rw[cO]at hb;have e:N0 c [qx s y]=some x:=e;have nv:=mV c e;have hno:DU y=true:=by simpa using hb.2
   have key:∃u,sv=V u/\CV w χ E s y u:=by
    cases y with
    |o k =>
     cases hk:aa s.own k with
     |none =>
      have:qx s (.o k)=.o k:=by simp only[qx,hk]
      rw[this]at nv;cases hq:kd c x with
      |nil=>rw[hq]at nv;exact nv.elim
      |cons z q=>rw[hq]at nv;exact nv.1.elim
     |some ow=>cases TR.own (w:=w) (χ:=χ) hv hk;exact⟨_,rfl,hv,rfl⟩
    |m k=>cases hno
    |p _ _=>cases hq:kd c x with
     |nil=>rw[hq]at nv;exact nv.elim
     |cons z q=>rw[hq]at nv;exact nv.1.elim
    |f _ _ _=>cases hq:kd c x with
     |nil=>rw[hq]at nv;exact nv.elim
     |cons z q=>rw[hq]at nv;exact nv.1.elim
    |a _ _ _=>cases hq:kd c x with
     |nil=>rw[hq]at nv;exact nv.elim
     |cons z q=>rw[hq]at nv;exact nv.1.elim
    |e _ _ _=>cases hq:kd c x with
     |nil=>rw[hq]at nv;exact nv.elim
     |cons z q=>rw[hq]at nv;exact nv.1.elim
    |md _ _=>obtain⟨u,_,h2⟩:=hv;exact h2.elim
    |j=>cases hq:kd c x with
     |nil=>rw[hq]at nv;exact nv.elim
     |cons z q=>rw[hq]at nv;exact nv.1.elim
    |_=>obtain⟨u,rfl,h2⟩:=hv;exact⟨u,rfl,⟨u,rfl,h2⟩,h2.one⟩
   obtain⟨u,rfl,hu⟩:=key;have hd:=Gt c hr (y9 (l:=[y]) (vs:=[u]) m (λz Ec k ow e1 e2=>by
    cases aY.1 Ec;exact hz k (by rw[e1];exact aY.2 rfl) ow e2) (by rw[cd,hno];rfl) nv ⟨hu,trivial⟩)
   refine⟨u,rfl,?_,by rw[ER hu.2];exact hd⟩;unfold VR;grind
 .rename_i l;cases hb:mR c&&l.all DU with
  |false=>rw[hb]at e;cases e
  |true =>
   rw[hb]at e;rw[ak]at hb;obtain⟨vs,rfl,hv⟩:=hv;have nv:=mV c e;have hd:=Gt c hr (y9 m (λz Ec k ow e1 e2=>hz k (sg (e1▸Ec)) ow e2) hb.2 nv hv);refine⟨_,rfl,?_,by
    exact hd⟩
   unfold VR;grind
 grind
theorem Ij{f:TV->Bool}{d k:Nat}{y:TV}(hn:names1 (fa d) y=false)(hk:fa k y=true):k≠d:=by
 intro e;subst e;cases y<;>first|(cases hk;done)|exact Bool.noConfusion (hk.symm.trans hn)
theorem kM{f:TV->Bool}:∀{l:List TV} {y:TV},namesV f l=false->y∈l->f y=false
 |x::l,y,h,hy=>by
  unfold namesV at h;rw[cO]at h;rcases aE.1 hy with e|e
  .grind
  .exact kM h.2 e
theorem ni{f:TV->Bool}{x:RV}{y:TV}(h:mC f x=false)(hy:y∈Dw x):names1 f y=false:=by
 cases x with
 |s x=>cases aY.1 hy;exact h
 |g l=>exact kM h hy
 |t l =>
  obtain⟨z,h1,h2⟩:=cf.1 hy;have h3:l.any _=false:=h;rw[pC]at h3;have h4:=h3 z h1;cases z with
  |s v=>cases aY.1 h2;simpa using h4
  |g q=>exact kM (l:=q) (by simpa using h4) h2
  |t _=>cases h2
theorem vb{f:TV->Bool}{d t:Nat}{x:RV}(h:noReg f d s=true)(e:aa s.al t=some x)(hne:t≠d):mC f x=false:=by
 have:=aO.1 h _ (ct e);simp_all
theorem yG{f:TV->Bool}{id t:Nat}{cs:List TV}(h:tB f s=true)(e:aa s.boxes id=some (t,cs)):namesV (names1 f) cs=false:=by
 have:=aO.1 h _ (ct e);grind
theorem bd{α:Type}{k t:Nat}{v:α}{l:List (Nat×α)}(h:k≠t):aa ((k,v)::l) t=aa l t:=by
 grind[Nat.beq,Nat.eq_of_beq_eq_true,aa]
theorem look_eq{α:Type}{k:Nat}{v:α}{l:List (Nat×α)}:aa ((k,v)::l) k=some v:=by
 grind[aa,Nat.beq_refl]
theorem Fr.put(s:TS)(o:Option Nat)(r:RV):Fr (dl o) s (put s o r):=by
 cases o with
 |none=>exact .same (λ_ _=>rfl) rfl rfl rfl rfl
 |some d=>exact .same (λt ht=>bd λe=>ht (e▸aY.2 rfl)) rfl rfl rfl rfl
theorem tG{α:Type}{f:Nat->Bool}:∀{l:List (Nat×α)} {k:Nat},f k=true->aa (l.filter (λq=>f q.1)) k=aa l k:=fun {l k} hf=>by
 cases h:aa l k with
 |some x=>exact fH hf h
 |none=>cases h':aa (l.filter (λq=>f q.1)) k with
  |none=>rfl
  |some y=>rw[(bg h').2]at h;cases h
theorem Fr.hU(s:TS)(ks:List Nat):Fr [] s (hU ks s) :=
 ⟨λ_ _=>rfl,λid t cs e=>⟨cs,e,rfl,λ_ _ _=>rfl⟩,λk hn=>tG (f:=λi=>!ks.any (Nat.beq i)) (by
  have:ks.any (Nat.beq k)=false:=bl.2 λhk=>hn (aN _ (aq.2 ⟨k,hk,rfl⟩));simp[this]),λ_ _=>rfl,λx hx=>aG _ hx⟩
theorem l7(E:En)(s:TS):∃c,1001<=c/\(∀k x,aa s.own k=some x->E.c k≠c)/\∀k x,aa s.aZ k=some x->E.m k≠c:=by
 have mx:∀{α:Type} (f:Nat->Nat) (l:List (Nat×α)),∃n,∀k x,aa l k=some x->f k<=n:=by
  intro α f l
  induction l with
  |nil=>exact⟨0,λk x e=>by cases e⟩
  |cons q l ih=>obtain⟨n,hn⟩:=ih;refine⟨n+f q.1,λk x e=>?_⟩;grind[aA]
 obtain⟨n,hn⟩:=mx E.c s.own;obtain⟨m,hm⟩:=mx E.m s.aZ;exact⟨1001+n+m,by omega,λk x e=>by have:=hn k x e;omega,λk x e=>by have:=hm k x e;omega⟩
def iZ{α:Type}(f:Nat->α)(k:Nat)(v:α)(j:Nat):α:=if j=k then v else f j
theorem eC{α:Type}{f:Nat->α}{k:Nat}{v:α}:iZ f k v k=v:=if_pos rfl
theorem cq{α:Type}{f:Nat->α}{k j:Nat}{v:α}(h:j≠k):iZ f k v j=f j:=if_neg h
theorem Hu.of(h:bX X s E sy a w χ){nb:Nat}{o:Option Nat}(st:St X.n sy' E.ρ a' w' χ')(hρ:E'.ρ=E.ρ)(alM:∀t sv,o≠some t->aa sy.al t=some sv->aa sy'.al t=some sv){p:Nat->Bool}(ev:Ev p w χ w' χ')(p0:p 0=false)
  (hb:∀id t cs,aa s.boxes id=some (t,cs)->(∀off,off<cs.length->2*(64*id+off)∉s'.ca)->p id=false)
  (ho:∀k x,aa s.own k=some x->2*k+1∉s'.ca->p (E.c k)=false/\E'.σ k=E.σ k/\E'.κ k=E.κ k/\E'.c k=E.c k)
  (hm:∀k x,aa s.aZ k=some x->2*k+1∉s'.ca->p (E.m k)=false/\E'.μ k=E.μ k/\E'.m k=E.m k) (htc:∀x∈s.ca,x∈s'.ca):Hu nb o s s' E E' a a' w w' χ χ' :=
 ⟨λt x hne e=>by
  obtain⟨sv,h1,_⟩:=h.al t x e;rw[h.st.al t sv h1,st.al t sv (alM t sv hne h1)],ev.m0 p0,λb eB hk=>by
  refine ev.keep b eB ?_;rcases hk with⟨id,t,cs,h1,rfl,h2⟩|⟨k,x,h1,h2,h3⟩|⟨k,x,h1,h2,h3⟩
  .obtain⟨ss,h3,_⟩:=h.boxes id t cs h1;rw[(h.st.boxes id _ h3).1];grind
  .grind
  .rw[h2];exact(hm k x h1 h3).1,λ_ _ _ _=>by rw[hρ],λk x h1 h2=>(ho k x h1 h2).2,λk x h1 h2=>(hm k x h1 h2).2,htc,λ_ _ _ _=>by rw[hρ]⟩
theorem Xc(h:bX X s E sy a w χ){d e cc cp:Nat}{c:TC}{l:List (den c)}{ad:Option Addr}{tc:List Nat}(f1:noReg (fa d) d s=true)(f2:tB (fa d) s=true)(f3:(aa s.aZ d).isNone=true)(wO:1001<=cc)(hco:∀k x,aa s.own k=some x->E.c k≠cc)(hcm:∀k x,aa s.aZ k=some x->E.m k≠cc)
  {p:Nat->Bool} (ev:Ev p w χ w' χ') (hp:∀c,p c=true->c=cc) (os:OS (bw c) e w' χ' cc ad l cp) (st:St X.n ⟨(d,V (.slice ad l.length cp))::sy.al,sy.boxes⟩ E.ρ a' w' χ') :
  bX X ⟨(d,.s (.o d))::s.al,s.boxes,(d,⟨e,c,l⟩)::s.own,s.aZ,tc⟩ ⟨E.ρ,iZ E.σ d ad,iZ E.κ d cp,E.μ,iZ E.c d cc,E.m⟩ ⟨(d,V (.slice ad l.length cp))::sy.al,sy.boxes⟩ a' w' χ':=by
 have pf:∀c,c≠cc->p c=false:=λc hc=>by cases h:p c with|false=>rfl|true=>exact absurd (hp c h) hc
 have nm:∀y,names1 (fa d) y=false->Nm E ⟨E.ρ,iZ E.σ d ad,iZ E.κ d cp,E.μ,iZ E.c d cc,E.m⟩ s ⟨(d,.s (.o d))::s.al,s.boxes,(d,⟨e,c,l⟩)::s.own,s.aZ,tc⟩ y:=λy hy k hk=>by have hne:=Ij (f:=fa d) hy hk;grind[bd,cq]
 refine h.step ev (pf 0 (by omega)) (pf 1000 (by omega)) st (λt x e'=>?_) (λi t cs e'=>.inr ⟨e',λss e=>e,λy hy=>nm y (kM (yG f2 e') hy)⟩) (λk x e'=>?_) (λk x e'=>.inr ⟨e',rfl,rfl,pf _ (hcm k x e')⟩) ⟨λk x e'=>?_,h.aQ.m,λk x j y e' xZ=>?_,λk x j y e' xZ=>?_,h.aQ.mm⟩ h.qu
 .rcases aA e' with⟨h1,h2⟩|⟨h1,h2⟩
  .subst h1 h2;exact .inl ⟨_,look_eq,_,rfl,λow e=>by
    rw[look_eq]at e;cases e;show _=Value.slice (iZ E.σ d ad d) l.length (iZ E.κ d cp d);rw[eC,eC]⟩
  .exact .inr ⟨h2,λsv e=>(bd h1).trans e,λy hy=>nm y (ni (vb f1 h2 (bC h1)) hy)⟩
 .grind[aA,eC,cq]
 .rcases aA e' with⟨h1,h2⟩|⟨h1,h2⟩
  .grind[eC]
  .show 1001<=iZ E.c d cc k;rw[cq (bC h1)];exact h.aQ.o k x h2
 .show iZ E.c d cc k=iZ E.c d cc j->k=j;rcases aA e' with⟨h1,h2⟩|⟨h1,h2⟩<;>rcases aA xZ with⟨h3,h4⟩|⟨h3,h4⟩
  .omega
  .grind[eC,cq]
  .grind[eC,cq]
  .rw[cq (bC h1),cq (bC h3)];exact h.aQ.oo k x j y h2 h4
 .show iZ E.c d cc k≠E.m j;rcases aA e' with⟨h1,h2⟩|⟨h1,h2⟩
  .grind[eC]
  .rw[cq (bC h1)];exact h.aQ.om k x j y h2 xZ
end
end
noncomputable section
section
variable{P:Program}{T:Tb}{w:World}{χ:Nat->Nat}{E:En}{s:TS}{X:Cx}{sy:Sy}{a:Act}
variable{all:List Oper}{Q:Exit->Act->World->Prop}{K:Act->World->Prop}{k:TS->Prop}
variable{d ty:Nat}{pos:String}{af:Array Edge}{g:Option (Nat×Bool)}
def Nx(X:Cx)(o:Option Nat)(s:TS)(E:En)(a:Act)(w:World)(χ:Nat->Nat)(k:TS->Prop)(K:Act->World->Prop):Prop :=
 ∀s' E' sy' a' w' χ',k s'->bX X s' E' sy' a' w' χ'->Hu X.nb o s s' E E' a a' w w' χ χ'->Fr (dl o) s s'->K a' w'
theorem Vp(h:bX X s E sy a w χ){e:Nat}{c:TC}{v:RV}{l:List (den c)}{sv:SV}(ho:AX s e c v=some l)(hv:fO w χ E s v sv):
  ∃cc ad cp,sv=V (.slice ad l.length cp)/\1001<=cc/\OS (bw c) e w χ cc ad l cp /\
   (∀k x,aa s.own k=some x->k∉ownsV (aW v)->E.c k≠cc)/\∀k x,aa s.aZ k=some x->E.m k≠cc:=by
 unfold AX at ho;split at ho
 .cases ho;obtain⟨u,rfl,rfl,_⟩:=hv;obtain⟨cc,h1,h2,h3⟩:=l7 E s;exact⟨cc,none,0,rfl,h1,OS.nil _ _ _ _ _,λk x e _=>h2 k x e,h3⟩
 .rename_i j;split at ho
  .rename_i e' c' l' hj;cases hc:Nat.beq e' e with
   |false=>rw[hc]at ho;cases ho
   |true =>
    rw[hc]at ho;simp only[cG]at ho;split at ho
    .rename_i wO;subst wO;cases ho;have:=aD hc;subst this;refine⟨E.c j,E.σ j,E.κ j,TR.own (w:=w) (χ:=χ) hv hj,h.aQ.o j _ hj,h.own j _ hj,λk x e hn he=>?_,λk x e he=>h.aQ.om j _ k x hj e he.symm⟩;exact hn (h.aQ.oo j _ k x hj e he.symm▸aY.2 rfl)
    .cases ho
  .cases ho
 .cases ho
theorem JY(h:bX X s E sy a w χ){c:TC}{v:RV}{l:List (den c)}{sv:SV}(ho:N7 s c v=some l)(hv:fO w χ E s v sv):∃ad cp news,sv=V (.slice ad l.length cp)/\Src (bw c) w χ ad l cp news:=by
 unfold N7 at ho;split at ho
 .cases ho;obtain⟨u,rfl,rfl,_⟩:=hv;obtain⟨news,hn⟩:=(RS.empty (bw c) w χ).src;exact⟨none,0,news,rfl,hn⟩
 .split at ho
  .rename_i hc;subst hc;cases ho;obtain⟨u,rfl,ad,cp,rfl,hR⟩:=hv;obtain⟨news,hn⟩:=hR.src;exact⟨ad,cp,news,rfl,hn⟩
  .cases ho
 .rename_i j;split at ho
  .rename_i c' l' hj;split at ho
   .rename_i hc;subst hc;cases ho;obtain⟨news,hn⟩:=(h.own j _ hj).src;exact⟨_,_,news,TR.own (w:=w) (χ:=χ) hv hj,hn⟩
   .cases ho
  .cases ho
 .cases ho
theorem FM{cc c:Nat}(h:gK cc c=true):c=cc:=aD h
theorem iq{cc c:Nat}(h:c≠cc):gK cc c=false:=by cases hb:gK cc c with|false=>rfl|true=>exact absurd (FM hb) h
theorem M0.tr{w1 w2 w3:World}{χ1 χ2 χ3:Nat->Nat}(h:M0 w1 χ1 w2 χ2)(h':M0 w2 χ2 w3 χ3):M0 w1 χ1 w3 χ3:=⟨bP h.size h'.size,λb hb h0=>by
 obtain⟨k1,k2⟩:=h.keep b hb h0;obtain⟨k3,k4⟩:=h'.keep b (dH hb h.size) k2;exact⟨k3.trans k1,k4⟩⟩
theorem Nx.hU(h:bX X s E sy a w χ){o:Option Nat}{ks cs:List Nat}(hc:∀c∈cs,∃k∈ks,∃x,aa s.own k=some x/\c=E.c k)(kk:Nx X o s E a w χ k K):Nx X o (hU ks s) E a w (sV cs χ) k K:=by
 intro s' E' sy' a' w' χ' h1 h2 A F;have tin:∀k∈ks,2*k+1∈s'.ca:=λk hk=>A.ca _ (aN _ (aq.2 ⟨k,hk,rfl⟩));have lk:∀k x,aa s.own k=some x->2*k+1∉s'.ca->aa (Te.hU ks s).own k=some x:=λk x e hn=>fH (f:=λi=>!ks.any (Nat.beq i)) (by
  have:ks.any (Nat.beq k)=false:=bl.2 λhk=>hn (tin k hk);simp[this]) e
 have fz:∀b,(∀c∈cs,χ b≠c)->sV cs χ b=χ b:=λb hb=>by unfold sV;rw[bl.2 λhm=>hb _ hm rfl];rfl
 have cne:∀c∈cs,∀b,(χ b<=1000∨(∃k x,aa s.own k=some x/\χ b=E.c k/\2*k+1∉s'.ca)∨∃k x,aa s.aZ k=some x/\χ b=E.m k)->χ b≠c:=λc sU b hb e=>by
  obtain⟨k,hk,x,hx,rfl⟩:=hc c sU;rcases hb with hb|⟨j,y,hy,hj,hn⟩|⟨j,y,hy,hj⟩
  .have:=h.aQ.o k x hx;omega
  .have:=h.aQ.oo k x j y hx hy (by rw[←e,hj]);subst this;exact hn (tin k hk)
  .exact h.aQ.om k x j y hx hy (by rw[←e,hj])
 refine kk s' E' sy' a' w' χ' h1 h2 ⟨A.tmps,M0.tr (xJ cs w χ) A.m0,λb hb hk=>?_,A.box,λk x e hn=>A.own k x (lk k x e hn) hn,A.map,λx hx=>A.ca x (aG _ hx),A.rho⟩ ((Fr.hU s ks).trans F);rcases hk with hk|⟨k,x,e,e2,hn⟩|⟨k,x,e,e2,hn⟩
 .obtain⟨g1,g2⟩:=A.keep b hb (.inl hk);obtain⟨id,t,dG,h3,rfl,_⟩:=hk;obtain⟨ss,h4,_⟩:=h.boxes id t dG h3;obtain⟨h5,h6,_⟩:=h.st.boxes id _ h4;exact⟨g1,g2.trans (fz _ λc hc=>cne c hc _ (.inl (by rw[h5];simp[jo]at h6;omega)))⟩
 .have hf:=fz b λc hc=>cne c hc _ (.inr (.inl ⟨k,x,e,e2,hn⟩));obtain⟨g1,g2⟩:=A.keep b hb (.inr (.inl ⟨k,x,lk k x e hn,hf.trans e2,hn⟩));exact⟨g1,g2.trans hf⟩
 .have hf:=fz b λc hc=>cne c hc _ (.inr (.inr ⟨k,x,e,e2⟩));obtain⟨g1,g2⟩:=A.keep b hb (.inr (.inr ⟨k,x,e,hf.trans e2,hn⟩));exact⟨g1,g2.trans hf⟩
theorem we(h:bX X s E sy a w χ){e cc cp:Nat}{c:TC}{l:List (den c)}{ad:Option Addr}(ht:newO s (some d) e c l k)(wO:1001<=cc)(hco:∀k x,aa s.own k=some x->E.c k≠cc)(hcm:∀k x,aa s.aZ k=some x->E.m k≠cc)
  {w':World} {χ':Nat->Nat} {a':Act} {p:Nat->Bool} (ev:Ev p w χ w' χ') (hp:∀c,p c=true->c=cc) (os:OS (bw c) e w' χ' cc ad l cp) (st:St X.n ⟨(d,V (.slice ad l.length cp))::sy.al,sy.boxes⟩ E.ρ a' w' χ') (kk:Nx X (some d) s E a w χ k K):K a' w':=by
 unfold newO at ht;obtain⟨hb,ht⟩:=dU ht;rw[ak,ak]at hb;have pf:∀c,c≠cc->p c=false:=λc hc=>by cases h:p c with|false=>rfl|true=>exact absurd (hp c h) hc
 refine kk _ _ _ _ _ _ ht (Xc h hb.1.1 hb.1.2 hb.2 wO hco hcm ev hp os st) (Hu.of h (o:=some d) st rfl (λt sv hne e=>(bd λhe=>hne (b8 some he)).trans e) ev (pf 0 (by omega)) (λid t cs e _=>pf id (by
  obtain⟨ss,h4,_⟩:=h.boxes id t cs e;have h6:=(h.st.boxes id _ h4).2.1;simp[jo]at h6;omega)) (λk x e hn=>?_) (λk x e hn=>⟨pf _ (hcm k x e),rfl,rfl⟩) λx hx=>aw _ hx)
  ⟨λt ht=>bd λe=>ht (e▸aY.2 rfl),λid t cs e=>⟨cs,e,rfl,λ_ _ _=>rfl⟩,λk hn=>bd λe=>hn (e▸aI),λ_ _=>rfl,λx hx=>aw _ hx⟩
 have hne:k≠d:=λhe=>hn (he▸aI);exact⟨pf _ (hco k x e),cq hne,cq hne,cq hne⟩
theorem Qq{c:TC}{x:RV}{l:List (den c)}{sv:SV}(e:L5 c x=some l)(h:fO w χ E s x sv):∃ad,sv=V (.slice ad l.length l.length)/\RS (bw c) w χ ad l l.length:=by
 unfold L5 at e;split at e
 .split at e
  .rename_i hc;subst hc;cases e;obtain⟨v,rfl,ad,rfl,hR⟩:=h;exact⟨ad,rfl,hR⟩
  .cases e
 .cases e
theorem Qs(TT:gW P T)(h:bX X s E sy a w χ)(hw:bK all sy g=true)(hd:Nat.blt d X.n=true){x y:Operand}{t e:Nat}{c:TC}{vx vy:RV}(he:T.et t=some (e,c))(hx:ev s x=some vx)(hy:ev s y=some vy)(ht:YP s (some d) e c vx vy k)(kk:Nx X (some d) s E a w χ k K):
  pJ P all.toArray Q ⟨some d,.call ⟨.builtin .append,#[x,y],#[t,t]⟩,ty,pos,af,g⟩ K a w:=by
 unfold YP at ht;split at ht
 .rename_i l q hl hq;obtain⟨hlen,ht⟩:=ht;obtain⟨t1,t2,t3,t4,_⟩:=TT.et _ _ _ he;obtain⟨sv,g1,g2⟩:=bq h hx;obtain⟨su,g3,g4⟩:=bq h hy;obtain⟨cc,ad,cp,rfl,wO,hO,hco,hcm⟩:=Vp h hl g2;obtain⟨zg,cp2,news,rfl,hS⟩:=JY h hq g4;have nE:Nat.ble 1000 cc=true:=fq (by omega);refine Sv.append TT.bj h.st hw hd g1 g3 hO hS t1 t2 nE t3 hlen λsW c' a' w' χ' ev os st=>?_;have h1:=h.drop (ownsV (aW vx)) ((ownsV (aW vx)).map (λk=>2*k+1)++s.ca);have kk1:Nx X (some d) (hU (ownsV (aW vx)) s) E a w (sV [] χ) k K:=kk.hU h (cs:=[]) (λc hc=>by cases hc);have h1:bX X (hU (ownsV (aW vx)) s) E sy a w χ:=h1;refine we h1 ht wO (λk x e=>?_) hcm ev (λc hc=>FM hc) os st kk1;obtain⟨e1,e2⟩:=bg (f:=λi=>!(ownsV (aW vx)).any (Nat.beq i)) e;exact hco k x e2 (bl.1 (by simpa using e1))
 .split at ht
  .rename_i l q hl hq;obtain⟨⟨hlen,hne⟩,ht⟩:=ht;obtain⟨t1,t2,t3,t4,_⟩:=TT.et _ _ _ he;obtain⟨sv,g1,g2⟩:=bq h hx;obtain⟨su,g3,g4⟩:=bq h hy;obtain⟨ad,rfl,hR⟩:=Qq hl g2;obtain⟨zg,cp2,news,rfl,hS⟩:=JY h hq g4;obtain⟨r8,hO⟩:=hR.src;obtain⟨cc,wO,hco,hcm⟩:=l7 E s;refine Sv.YO (dt:=cc) TT.bj h.st hw hd g1 g3 hO hS hne t1 t2 t3 hlen λsW c' a' w' χ' ev os st=>?_;exact we h ht wO (λk x e=>hco k x e) hcm ev (λc hc=>by cases hc) os st kk
  .cases ht
theorem JL(h:bX X s E sy a w χ){c:TC}(hr:yy c=true){χ':Nat->Nat}(m:M0 w χ w χ'):∀{vs:List RV} {ss:List SV} {l:List (den c)},(∀k∈vs.flatMap (λv=>ownsV (aW v)),∀ow,aa s.own k=some ow->RS (bw ow.c) w χ' (E.σ k) ow.l (E.κ k))->Fy s c vs=some l->FL (fO w χ E s) vs ss ->
  RL (bw c) w χ' (ss.map (aP E.ρ)) l
 |[],[],_,_,e,_=>by cases e;trivial
 |[],_::_,_,_,_,h=>h.elim
 |_::_,[],_,_,_,h=>h.elim
 |v::vs,sv::ss,l,hz,e,hf=>by
  unfold Fy at e;split at e
  .rename_i x q h1 h2;cases e;obtain⟨u,rfl,_,hu⟩:=LY h m (λk hk ow e=>hz k (cf.2 ⟨v,aI,hk⟩) ow e) h1 hf.1 hr;exact⟨hu,JL h hr m (λk hk ow e=>hz k (by
    obtain⟨z,z1,z2⟩:=cf.1 hk;exact cf.2 ⟨z,aw _ z1,z2⟩) ow e) h2 hf.2⟩
  .cases e
theorem Fx:∀{c:TC} {vs:List RV} {l:List (den c)},Fy s c vs=some l->l.length=vs.length
 |_,[],_,e=>by cases e;rfl
 |c,v::vs,l,e=>by
  unfold Fy at e;split at e
  .rename_i h1 h2;cases e;rw[bc,bc,Fx h2]
  .cases e
theorem AI:∀{l:List (Nat×Operand)} {i:Nat},Tj l i=true->counts i l=true
 |[],_,_=>rfl
 |q::l,i,h=>by unfold Tj at h;unfold counts;rw[ak]at h ⊢; exact⟨h.1,AI h.2⟩
def lf(s:TS)(ks:List Nat):List Nat:=ks.filter (λk=>(aa s.own k).isSome)
theorem yL{ks:List Nat}:∀k∈lf s ks,(aa s.own k).isSome=true:=λk hk=>(dx.1 hk).2
theorem bX.wo(h:bX X s E sy a w χ)(ks:List Nat):bX X (hU ks s) E sy a w (sV ((lf s ks).map E.c) χ)/\∀k∈ks,∀x,aa s.own k=some x->RS (bw x.c) w (sV ((lf s ks).map E.c) χ) (E.σ k) x.l (E.κ k):=by
 obtain⟨h1,h2⟩:=h.freeze (ks:=lf s ks) yL;refine⟨?_,λk hk x e=>h2 k (dx.2 ⟨hk,by rw[e];rfl⟩) x e⟩;have h3:=h1.drop ks (ks.map (λk=>2*k+1)++s.ca);have e1:(s.own.filter (λq=>!(lf s ks).any (Nat.beq q.1))).filter (λq=>!ks.any (Nat.beq q.1))=s.own.filter (λq=>!ks.any (Nat.beq q.1)):=by
  rw[List.filter_filter];refine List.filter_congr λq _=>?_;cases hk:ks.any (Nat.beq q.1)with
  |true=>rfl
  |false=>have:(lf s ks).any (Nat.beq q.1)=false:=bl.2 λhm=>bl.1 hk (dx.1 hm).1;rw[this];rfl
 have h4:bX X ⟨s.al,s.boxes,(s.own.filter (λq=>!(lf s ks).any (Nat.beq q.1))).filter (λq=>!ks.any (Nat.beq q.1)),s.aZ,ks.map (λk=>2*k+1)++s.ca⟩ E sy a w (sV ((lf s ks).map E.c) χ):=h3;rw[e1]at h4;exact h4
theorem sn{ks:List Nat}:∀c∈(lf s ks).map E.c,∃k∈ks,∃x,aa s.own k=some x/\c=E.c k:=λc hc=>by
 obtain⟨k,h1,rfl⟩:=aq.1 hc;obtain⟨h2,h3⟩:=dx.1 h1;obtain⟨x,hx⟩:=bR.1 h3;exact⟨k,h2,x,hx,rfl⟩
theorem abB(TT:gW P T)(h:bX X s E sy a w χ)(hw:bK all sy g=true)(hd:Nat.blt d X.n=true){t e m:Nat}{ps:Array (Nat×Operand)}{c:TC}{vs:List RV}(he:T.et t=some (e,c))(hv:Te.j7 s (ps.toList.map (·.2))=some vs)(hb:(Tj ps.toList 0&&Nat.beq m ps.toList.length&&Nat.ble m 4096)=true)(jh:Nat.ble ((bw c).n*4096) 16777216=true)(ht:Xs s (some d) e c vs k)(kk:Nx X (some d) s E a w χ k K):
  pJ P all.toArray Q ⟨some d,.buildSlice t m ps,ty,pos,af,g⟩ K a w:=by
 unfold Xs at ht;split at ht
 .rename_i l hl;rw[ak,ak]at hb;obtain⟨t1,t2,t3,t4,_⟩:=TT.et _ _ _ he;obtain⟨ss,g1,g2⟩:=ry h hv;obtain⟨h1,h2⟩:=h.wo (vs.flatMap (λv=>ownsV (aW v)));have hR:=JL h t4 (xJ ((lf s (vs.flatMap (λv=>ownsV (aW v)))).map E.c) w χ) h2 hl g2;obtain⟨cc,wO,hco,hcm⟩:=l7 E (hU (vs.flatMap (λv=>ownsV (aW v))) s);have hm:m=l.length:=by rw[aD hb.1.2,Fx hl,g2.len];have:=b8 List.length (h.st.j7 g1);simpa using this
  have hle:=aB hb.2;have Ue:=aB jh;have lZ:=aB t3;have b1:m*(bw c).n<=16777216:=by have:=cP (bw c).n hle;rw[Nat.mul_comm 4096]at this;omega
  have b2:m*(bw c).bytes<=16777216:=by have:=gn hle lZ;omega
  refine Sv.lit (dt:=cc) TT.bj h1.st hw hd (AI hb.1.1) (by unfold ub;rw[g1]) hR hm t1 t2 (fq b1) (fq b2) λb a' w' χ' ev os _ st=>?_;subst hm;exact we h1 ht wO hco hcm ev (λc hc=>by cases hc) os st (kk.hU h sn)
 .cases ht
theorem Xn(TT:gW P T)(h:bX X s E sy a w χ)(hw:bK all sy g=true)(hd:Nat.blt d X.n=true){t e:Nat}{x y:Operand}{c:TC}{kl kc:IntKind}{p q:Int}{z:den c}(he:T.et t=some (e,c))(hx:ev s x=some (.s (.int kl p)))(hy:ev s y=some (.s (.int kc q)))(hz:zC T c=some z)
  (hb:(0:Int)<=p/\p<=q/\q<=1099511627776) (ht:newO s (some d) e c (List.replicate p.toNat z) k) (kk:Nx X (some d) s E a w χ k K):pJ P all.toArray Q ⟨some d,.makeSlice t x y,ty,pos,af,g⟩ K a w:=by
 obtain⟨t1,t2,t3,t4,t5⟩:=TT.et _ _ _ he;obtain⟨sv,g1,g2⟩:=bq h hx;obtain rfl:=g2.int;obtain⟨su,g3,g4⟩:=bq h hy;obtain rfl:=g4.int;obtain⟨cc,wO,hco,hcm⟩:=l7 E s;have lZ:=aB t3;have Uo:((bw c).bytes:Int)*q<=140737488355328:=by
  have h1:((bw c).bytes:Int)<=128:=by omega
  have h2:=Int.mul_le_mul h1 hb.2.2 (by omega) (by omega);omega
 refine Sv.make (T:=bw c) (dt:=cc) TT.bj z h.st hw hd g1 g3 t1 t2 hb.1 hb.2.1 Uo (by omega) (t5 z hz) λb a' w' χ' ev os _ st=>?_;have hl:(List.replicate p.toNat z).length=p.toNat:=oE;rw[←hl]at st;exact we h ht wO hco hcm ev (λc hc=>by cases hc) os st kk
end
end
noncomputable section
section
variable{P:Program}{T:Tb}{w:World}{χ:Nat->Nat}{E:En}{s:TS}{X:Cx}{sy:Sy}{a:Act}
variable{all:List Oper}{Q:Exit->Act->World->Prop}{K:Act->World->Prop}{k:TS->Prop}
variable{d ty:Nat}{pos:String}{af:Array Edge}{g:Option (Nat×Bool)}
theorem Im{j:Nat}:∀{x:TV} {sv:SV},names1 (tK j) x=false->TR w χ E s x sv->names j sv=false
 |.p id off,_,hn,h=>by cases h;exact hn
 |.o k,_,_,⟨v,h,_⟩=>by cases h;rfl
 |.m k,_,_,⟨v,h,_⟩=>by cases h;rfl
 |.e k i off,_,_,⟨v,h,_⟩=>by cases h;rfl
 |.a _ _ _,_,_,⟨b,o,h,_⟩=>by cases h;rfl
 |.j,_,hn,_=>by cases hn
 |.f fn fi cp,_,hn,⟨f,c,h,h1,h2⟩=>by
  cases h;have hn:(fi.any (λx=>namesV (tK j) x.2)||namesV (tK j) cp)=false:=hn;rw[cO]at hn;have pr:∀{x:TV} {y:S0},tK j x=false->PR w χ x y->mD j y=false:=by
   intro x y hx h;rcases h with⟨id,off,rfl,rfl⟩|⟨v,rfl,_⟩
   .exact hx
   .rfl
  have k2:∀{cp:List TV} {c:List S0},namesV (tK j) cp=false->FL (PR w χ) cp c->c.any (mD j)=false:=by
   intro cp c hc h
   induction cp generalizing c with
   |nil=>cases c with|nil=>rfl|cons _ _=>exact h.elim
   |cons x cp ih=>cases c with
    |nil=>exact h.elim
    |cons y c=>have hc:(tK j x||namesV (tK j) cp)=false:=hc;rw[cO]at hc;rw[fB,pr hc.1 h.1,ih hc.2 h.2];rfl
  have k1:∀{fi:List (Bool×List TV)} {f:List S0},fi.any (λx=>namesV (tK j) x.2)=false->FL (FR w χ) fi f->f.any (mD j)=false:=by
   intro fi f hc h
   induction fi generalizing f with
   |nil=>cases f with|nil=>rfl|cons _ _=>exact h.elim
   |cons x fi ih=>cases f with
    |nil=>exact h.elim
    |cons y f =>
     rw[fB,cO]at hc;have:mD j y=false:=by
      have h1:=h.1;obtain⟨b,l⟩:=x;cases b with
      |false =>
       match l,h1,hc with
       |[z],h1,hc=>have:(tK j z||false)=false:=hc.1;exact pr (by simpa using this) h1
       |[],h1,_=>exact h1.elim
       |_::_::_,h1,_=>exact h1.elim
      |true=>cases y with
       |v v=>rfl
       |p _ _=>exact h1.elim
     rw[fB,this,ih hc.2 h.2];rfl
  show(f.any (mD j)||c.any (mD j))=false;rw[k1 hn.1 h1,k2 hn.2 h2];rfl
 |.int _ _,_,_,⟨v,h,_⟩=>by cases h;rfl
 |.bool _,_,_,⟨v,h,_⟩=>by cases h;rfl
 |.lit _,_,_,⟨v,h,_⟩=>by cases h;rfl
 |.uq _,_,_,⟨v,h,_⟩=>by cases h;rfl
 |.str _,_,_,⟨v,h,_⟩=>by cases h;rfl
 |.sl _ _,_,_,⟨v,h,_⟩=>by cases h;rfl
 |.q _ _,_,_,⟨v,h,_⟩=>by cases h;rfl
 |.v _,_,_,⟨v,h,_⟩=>by cases h;rfl
 |.md _ _,_,_,⟨v,_,h⟩=>h.elim
theorem Pb{j:Nat}{x:RV}{sv:SV}(hn:mC (tK j) x=false)(h:fO w χ E s x sv):names j sv=false:=by
 cases x with
 |s x=>exact Im hn h
 |g l=>obtain⟨vs,rfl,_⟩:=h;rfl
 |t l=>obtain⟨vs,rfl,_⟩:=h;rfl
theorem CJ{j:Nat}:∀{cs:List TV} {ss:List SV},namesV (names1 (tK j)) cs=false->FL (TR w χ E s) cs ss->∀c∈ss,names j c=false
 |[],[],_,_,_,h=>by cases h
 |[],_::_,_,h,_,_=>h.elim
 |_::_,[],_,h,_,_=>h.elim
 |y::cs,z::ss,hn,h,c,hc=>by
  have hn:(names1 (tK j) y||namesV (names1 (tK j)) cs)=false:=hn;rw[cO]at hn;rcases aE.1 hc with e|e
  .subst e;exact Im hn.1 h.1
  .exact CJ hn.2 h.2 c e
theorem qd{α:Type}{l:List (Nat×α)}:∀{ks:List Nat} {t:Nat} {x:α},t∈ks->aa l t=some x->aa (qL ks l) t=some x
 |k::ks,t,x,hm,e=>by
  unfold qL;by_cases hk:k=t
  .subst hk;rw[e];exact look_eq
  .have hm:=(aE.1 hm).resolve_left (bC hk);split
   .rw[bd hk];exact qd hm e
   .exact qd hm e
theorem qa{α:Type}{l:List (Nat×α)}:∀{ks:List Nat} {q:Nat×α},q∈qL ks l->q.1∈ks/\aa l q.1=some q.2
 |k::ks,q,h=>by
  unfold qL at h;split at h
  .rename_i v hv;rcases aE.1 h with h|h
   .subst h;exact⟨aI,hv⟩
   .exact⟨aw _ (qa h).1,(qa h).2⟩
  .exact⟨aw _ (qa h).1,(qa h).2⟩
theorem nu{α:Type}:∀{l:List (Nat×α)} {t:Nat},t∈l.map (·.1)->∃x,aa l t=some x
 |(k,v)::l,t,h=>by
  by_cases hk:k=t
  .subst hk;exact⟨v,look_eq⟩
  .obtain⟨x,hx⟩:=nu (l:=l) ((aE.1 h).resolve_left (bC hk));exact⟨x,(bd hk).trans hx⟩
theorem wi{α:Type}{l:List (Nat×α)}{t:Nat}{x:α}(h:aa l t=some x):t∈l.map (·.1):=aq.2 ⟨(t,x),ct h,rfl⟩
def trim(s:TS)(d j:Nat)(sy:Sy):Sy:=⟨qL ((s.al.map (·.1)).filter (λt=>!Nat.beq t d)) sy.al,qL ((s.boxes.map (·.1)).filter (λt=>!Nat.beq t j)) sy.boxes⟩
theorem Kv{j:Nat}(h:bX X s E sy a w χ)(h1:noReg (tK j) d s=true)(h2:tB (tK j) s=true):CF j (trim s d j sy)=true:=by
 unfold CF;rw[ak,aO,aO];refine⟨λq hq=>?_,λq hq=>?_⟩
 .obtain⟨m1,m2⟩:=qa hq;obtain⟨m3,m4⟩:=dx.1 m1;obtain⟨x,hx⟩:=nu m3;obtain⟨sv,g1,g2⟩:=h.al _ x hx;rw[m2]at g1;cases g1;have hne:q.1≠d:=by intro e;rw[e,eH]at m4;cases m4
  rw[Pb (vb h1 hx hne) g2];rfl
 .obtain⟨m1,m2⟩:=qa hq;obtain⟨m3,m4⟩:=dx.1 m1;obtain⟨⟨t,cs⟩,hx⟩:=nu m3;obtain⟨ss,g1,g2⟩:=h.boxes _ t cs hx;rw[m2]at g1;have g1:=Option.some.inj g1;rw[m4,jg,g1,aO];intro c hc;rw[CJ (yG h2 hx) g2 c hc];rfl
theorem abg{x:TV}{sv:SV}(hc:wJ s x=true)(h:TR w χ E s x sv):(aP E.ρ sv).oneCell'=true/\cellsOf sv=[sv]:=by
 unfold wJ at hc;split at hc
 .cases h;exact⟨rfl,rfl⟩
 .obtain⟨b,o,rfl,_⟩:=h;exact⟨rfl,rfl⟩
 .obtain⟨f,c,rfl,_⟩:=h;exact⟨rfl,rfl⟩
 .obtain⟨v,rfl,hv⟩:=rV hc h;refine⟨hv.2,?_⟩;have h2:=hv.2;cases v<;>first|rfl|cases h2
theorem Dy{v:RV}{sv:SV}(hc:(aW v).all (wJ s)=true)(h:fO w χ E s v sv)(hn:∀l,v≠.t l):FL (TR w χ E s) (aW v) (cellsOf sv)/\∀c∈cellsOf sv,(aP E.ρ c).oneCell'=true:=by
 cases v with
 |s x=>have hc:(wJ s x&&true)=true:=hc;rw[Bool.and_true]at hc;obtain⟨h1,h2⟩:=abg hc h;rw[h2];exact⟨⟨h,trivial⟩,λc hm=>by cases aY.1 hm;exact h1⟩
 |g l =>
  obtain⟨vs,rfl,h2⟩:=h;have e:cellsOf (V (.agg vs.toArray))=vs.map V:=rfl;rw[e];clear e hn;show FL (TR w χ E s) l _/\_;have hc:l.all (wJ s)=true:=hc
  induction l generalizing vs with
  |nil=>cases vs with|nil=>exact⟨trivial,λc h=>by cases h⟩|cons _ _=>exact h2.elim
  |cons x l ih=>cases vs with
   |nil=>exact h2.elim
   |cons v vs =>
    rw[cd,ak]at hc;obtain⟨i1,i2⟩:=ih hc.2 _ h2.2 hc.2;exact⟨⟨h2.1.1,i1⟩,λc hm=>by
     rcases aE.1 hm with e|e
     .subst e;exact h2.1.2
     .exact i2 c e⟩
 |t l=>exact absurd rfl (hn l)
theorem jc{y:TV}{s':TS}{E':En}(h1:s'.own=s.own)(h2:s'.aZ=s.aZ)(h3:E'.σ=E.σ)(h4:E'.κ=E.κ)(h5:E'.μ=E.μ):Nm E E' s s' y:=λk _=>⟨λmQ e=>⟨mQ,by rw[←h1];exact e,rfl,rfl,by rw[h3],by rw[h4]⟩,λmp' e=>⟨mp',by rw[←h2];exact e,by rw[h5]⟩⟩
theorem ve{id off:Nat}:∀{n:Nat} {x:Nat},x∈FY id off n↔∃i,i<n/\x=2*(64*id+(off+i))
 |0,x=>Iff.intro (λh=>by cases h) (λ⟨i,h,_⟩=>absurd h (pD i))
 |n+1,x=>by
  unfold FY;rw[aE,ve];constructor
  .rintro(h|⟨i,h1,h2⟩)
   .exact⟨n,Nat.lt_succ_self n,h⟩
   .exact⟨i,Nat.lt_succ_of_lt h1,h2⟩
  .rintro⟨i,h1,h2⟩;by_cases he:i=n
   .subst he;exact .inl h2
   .exact .inr ⟨i,by omega,h2⟩
theorem WR{j id:Nat}{x:RV}(hn:mC (tK j) x=false)(h:id∈MH x):id≠j:=by
 cases x with
 |t l =>
  obtain⟨y,hy,h⟩:=cf.1 h;intro e;subst e;have:=pC.1 hn y hy;cases y with
  |s v=>cases v with
   |p i off=>cases aY.1 h;exact this (eH _)
   |_=>cases h
  |_=>cases h
 |_=>cases h
theorem M8(h:bX X s E sy a w χ)(hn:HX T X)(hd:d<X.n){t:Nat}{cs:List TV}{ss:List SV}(ht:newB T.nb s (some d) t cs k)(hf:FL (TR w χ E s) cs ss)(kk:Nx X (some d) s E a w χ k K):
  K (a.put (some d) (.pointer (some ⟨w.heap.size,0,none⟩))) (w.alloc (.cells (ss.map (aP E.ρ)).toArray t)):=by
 unfold newB at ht;obtain⟨hb,ht⟩:=dU ht;simp only[ak,eI]at hb;obtain⟨⟨⟨⟨⟨⟨b1,b2⟩,b3⟩,b4⟩,b5⟩,b7⟩,b6⟩:=hb;have hno:=Kv h b1 b2;have st0:St X.n (trim s d (d+1+T.nb) sy) E.ρ a w χ:=h.st.sub (λ_ _ e=>nq e) (λ_ _ e=>nq e);have hx:jo (d+1+T.nb)=true:=by have:=hn.le;simp[jo];omega
 have sU:∀c∈ss,names (d+1+T.nb) c=false:=CJ b3 hf;obtain⟨s1,s2⟩:=st0.aht (t:=t) (cs:=ss) hd hx (by unfold GB;rw[hno];rfl) sU;have m:=s2.m0 (by rfl);have tc:∀{id t':Nat} {dG:List TV},id=d+1+T.nb->aa s.boxes id=some (t',dG)->¬∀off,off<dG.length->2*(64*id+off)∉FY (d+1+T.nb) 0 cs.length++s.ca:=by
  intro id t' dG he e hu;subst he;have hl:dG.length=cs.length:=by unfold sameBox at b4;rw[e]at b4;simp only[ak]at b4;exact aD b4.2
  have h1:=aB b7;exact hu 0 (by omega) (aN _ (ve.2 ⟨0,h1,rfl⟩))
 refine kk _ ⟨λi=>if i=d+1+T.nb then w.heap.size else E.ρ i,E.σ,E.κ,E.μ,E.c,E.m⟩ _ _ _ _ ht (h.step s2 rfl rfl s1 (λt x e=>?_) (λi t' dG e=>?_) (λk x e=>.inr ⟨e,rfl,rfl,rfl,by
  have:=h.aQ.o k x e;unfold jo;rw[show Nat.ble (E.c k) 999=false from by cases hb:Nat.ble (E.c k) 999 with|false=>rfl|true=>have:=aB hb;omega,px]⟩) (λk x e=>.inr ⟨e,rfl,rfl,by
  have:=h.aQ.m k x e;unfold jo;rw[show Nat.ble (E.m k) 999=false from by cases hb:Nat.ble (E.m k) 999 with|false=>rfl|true=>have:=aB hb;omega,px]⟩) ⟨h.aQ.o,h.aQ.m,h.aQ.oo,h.aQ.om,h.aQ.mm⟩ (λq hq=>?_) λt x e e0 id hid=>if_neg ?_) ⟨λt x hne e=>?_,m,λb hb hk=>?_,λid x e hu=>?_,λ_ _ _ _=>⟨rfl,rfl,rfl⟩,λ_ _ _ _=>⟨rfl,rfl⟩,λx hx=>aG _ hx,λid _ _ hd=>if_neg (hn.nb▸hd d rfl)⟩
  ⟨λt ht=>bd λe=>ht (e▸aY.2 rfl),λid t' dG e=>?_,λ_ _=>rfl,λ_ _=>rfl,λx hx=>aG _ hx⟩
 .rcases aA e with⟨h1,h2⟩|⟨h1,h2⟩
  .subst h1 h2;exact .inl ⟨_,look_eq,rfl⟩
  .refine .inr ⟨h2,λsv e=>(bd h1).trans (qd (dx.2 ⟨wi h2,?_⟩) e),λy _=>jc rfl rfl rfl rfl rfl⟩;cases hb:Nat.beq t d with
   |false=>rfl
   |true=>exact absurd (aD hb).symm h1
 .rcases aA e with⟨h1,h2⟩|⟨h1,h2⟩
  .cases h2;subst h1;exact .inl ⟨ss,look_eq,DN (λy _ sv k=>TR.tr m (jc rfl rfl rfl rfl rfl) k) hf⟩
  .refine .inr ⟨h2,λss' e=>(bd h1).trans (qd (dx.2 ⟨wi h2,?_⟩) e),λy _=>jc rfl rfl rfl rfl rfl⟩;cases hb:Nat.beq i (d+1+T.nb)with
   |false=>rfl
   |true=>exact absurd (aD hb).symm h1
 .show(if q.1=d+1+T.nb then w.heap.size else E.ρ q.1)=q.2;have:=hn.qu q hq;rw[if_neg (by omega)];exact h.qu q hq
 .rcases aA e with⟨h1,h2⟩|⟨h1,h2⟩
  .subst h2;cases hid
  .exact WR (vb b1 h2 (bC h1)) hid
 .show(a.put (some d) _).tmps[t]?=_;simp only[Act.put];rw[jL (by intro e;subst e;exact hne rfl)]
 .have eB:∀dt,dt≠d+1+T.nb->χ b=dt->(w.alloc (.cells (ss.map (aP E.ρ)).toArray t)).heap[b]?=w.heap[b]?/\(if b=w.heap.size then d+1+T.nb else if χ b=d+1+T.nb then 999 else χ b)=χ b:=by intro dt hc he;rw[if_neg (by omega),if_neg (by rw[he];exact hc)];exact⟨(MapKept.heap_alloc w _).2 b hb,rfl⟩
  rcases hk with⟨id,t',dG,h1,rfl,h2⟩|⟨k,x,h1,h2,h3⟩|⟨k,x,h1,h2,h3⟩
  .obtain⟨ss',h3,h4⟩:=h.boxes id t' dG h1;obtain⟨h5,h6,_⟩:=h.st.boxes id _ h3;by_cases he:id=d+1+T.nb
   .exact absurd h2 (tc he h1)
   .exact eB _ he h5
  .have:=h.aQ.o k x h1;exact eB _ (by have:=hn.le;omega) h2
  .have:=h.aQ.m k x h1;exact eB _ (by have:=hn.le;omega) h2
 .show(if id=d+1+T.nb then w.heap.size else E.ρ id)=E.ρ id;by_cases he:id=d+1+T.nb
  .exact absurd hu (tc (t':=x.1) he e)
  .rw[if_neg he]
 .by_cases he:id=d+1+T.nb
  .subst he;have b4':=b4;unfold sameBox at b4';rw[e]at b4';simp only[ak]at b4';have g1:=aD b4'.1;have g2:=aD b4'.2;exact⟨cs,by rw[g1];exact look_eq,g2.symm,λoff ho hn=>absurd (aN _ (ve.2 ⟨off,by omega,by rw[bh]⟩)) hn⟩
  .exact⟨dG,(bd (bC he)).trans e,rfl,λ_ _ _=>rfl⟩
end
end
section
section
variable{P:Program}{T:Tb}{w:World}{χ:Nat->Nat}{E:En}{s:TS}{X:Cx}{sy:Sy}{a:Act}
variable{all:List Oper}{Q:Exit->Act->World->Prop}{K:Act->World->Prop}{k:TS->Prop}
variable{d ty:Nat}{pos:String}{af:Array Edge}{g:Option (Nat×Bool)}
theorem YJ(h:bX X s E sy a w χ)(hw:bK all sy g=true)(hn:HX T X)(hd:Nat.blt d X.n=true){t:Nat}{x:Operand}{v:RV}(hx:ev s x=some v)(ht:newB T.nb s (some d) t (aW v) k)(kk:Nx X (some d) s E a w χ k K):
  pJ P all.toArray Q ⟨some d,.box t x,ty,pos,af,g⟩ K a w:=by
 have PF:=ht;unfold newB at PF;obtain⟨hb,_⟩:=dU PF;simp only[ak,eI]at hb;obtain⟨sv,g1,g2⟩:=bq h hx;have hnt:∀l,v≠.t l:=λl e=>by have:=aB hb.1.2;rw[e]at this;exact absurd this (Nat.not_succ_le_zero 0)
 obtain⟨f1,f2⟩:=Dy hb.2 g2 hnt;have hk:=M8 h hn (aB hd) ht f1 kk;refine iG (de h.st (o:=⟨some d,.box t x,ty,pos,af,g⟩) hw) ?_;have hc:=pg (ρ:=E.ρ) sv;have Bb:(aP E.ρ sv).cells=((cellsOf sv).map (aP E.ρ)).toArray:=by rw[←hc]
 have hr:(execOp a.eval ⟨some d,.box t x,ty,pos,af,g⟩).run P w=.ok (.value (.pointer (some ⟨w.heap.size,0,none⟩))) (w.alloc (.cells ((cellsOf sv).map (aP E.ρ)).toArray t)):=by simp[execOp,h.st.cu g1,Instr.box,newVar,newRow,Bb]
 unfold Oper.wp;rw[hr];simp only[Oper.upon];exact hk
theorem Vs(TT:gW P T)(h:bX X s E sy a w χ)(hw:bK all sy g=true)(hn:HX T X)(hd:Nat.blt d X.n=true){t:Nat}{y:sX}{l:List TV}(hy:aa T.bj t=some y)(hl:Ig y.zero=some l)(ht:newB T.nb s (some d) t l k)(kk:Nx X (some d) s E a w χ k K):
  pJ P all.toArray Q ⟨some d,.alloc t,ty,pos,af,g⟩ K a w:=by
 obtain⟨i,dd,zv,hi,z6,hz,hs,lZ,lx,iA,_⟩:=a8 (TT.bj _ _ hy);have hf:∀{l:List TV} {vs:List Value},FL (CR w χ) l vs->FL (TR w χ E s) l (vs.map V):=by
  intro l
  induction l with
  |nil=>intro vs h;cases vs with|nil=>trivial|cons _ _=>exact h.elim
  |cons x l ih=>intro vs h;cases vs with
   |nil=>exact h.elim
   |cons v vs=>exact⟨kS h.1,ih h.2⟩
 have hk:=M8 h hn (aB hd) ht (hf (yE hl)) kk;rw[lV]at hk;refine iG (de h.st (o:=⟨some d,.alloc t,ty,pos,af,g⟩) hw) ?_;have hr:(execOp a.eval ⟨some d,.alloc t,ty,pos,af,g⟩).run P w=.ok (.value (.pointer (some ⟨w.heap.size,0,none⟩))) (w.alloc (.cells y.zero.toArray t)):=by
  have:zv.cells=y.zero.toArray:=by rw[←lx]
  simp[execOp,Instr.alloc,newVar,newRow,zeroValue,typeInfo,hi,hz,this]
 unfold Oper.wp;rw[hr];simp only[Oper.upon];exact hk
theorem x9{c:Nat}(h:1001<=c):jo c=false:=by
 unfold jo;rw[show Nat.ble c 999=false from by cases hb:Nat.ble c 999 with|false=>rfl|true=>have:=aB hb;omega,px]
theorem OB(TT:gW P T)(h:bX X s E sy a w χ)(hw:bK all sy g=true)(hn:X.n<=899){t id off:Nat}{x y:Operand}{v:RV}(hx:ev s x=some (.s (.p id off)))(hy:ev s y=some v)(ht:storeB s (Oy T t) id off v k)(kk:Nx X none s E a w χ k K):
  pJ P all.toArray Q ⟨none,.store t x y,ty,pos,af,g⟩ K a w:=by
 unfold storeB at ht;split at ht
 .rename_i bt cs n agg hb hs;obtain⟨hc,ht⟩:=dU ht;simp only[ak]at hc;obtain⟨⟨⟨⟨c0,c1⟩,c2⟩,c3⟩,c4⟩:=hc;obtain⟨Re,GS,jh,_⟩:=uJ hs;obtain⟨sv,g1,g2⟩:=bq h hx;obtain rfl:sv=Pt id off:=g2;obtain⟨su,g3,g4⟩:=bq h hy;obtain⟨ss,g5,g6⟩:=h.boxes id bt cs hb;have hnt:∀l,v≠.t l:=λl e=>by have h1:=aB c0;rw[←aD c1,e]at h1;exact absurd h1 (Nat.not_succ_le_zero 0)
  obtain⟨f1,f2⟩:=Dy c4 g4 hnt;have hlen:=f1.len;have c1':=aD c1;have c2':=aB c2;have hl6:=g6.len;have e:uK T.bj true sy ⟨none,.store t x y,ty,pos,af,g⟩=some ⟨sy.al,(id,(bt,Sv.wr ss off (cellsOf su)))::sy.boxes⟩:=by
   unfold uK;simp only[dV,cG,g1,g3,GS,g5];have k1:Nat.beq (cellsOf su).length Re.size=true:=by rw[←hlen,c1',jh];exact eH n
   have k2:Nat.ble (off+(cellsOf su).length) ss.length=true:=fq (by omega);rw[k1,k2,cond_eq_ite,if_pos];rw[jg,jg];exact aO.2 λc hc=>by
    have:=f2 c hc
    revert this
    split<;>intro this<;>first|rfl|cases this
  refine aaD TT.bj h.st hw (fq (by omega)) e λa' w' χ' st ev=>?_;have m:=ev.m0 (by rfl);have XZ:∀kO q,kO≠id->aa sy.boxes kO=some q->w'.heap[E.ρ kO]?=w.heap[E.ρ kO]?/\χ' (E.ρ kO)=χ (E.ρ kO):=λkO q hne e=>by obtain⟨h1,_,h2⟩:=h.st.boxes kO q e;obtain⟨h3,_,h4⟩:=st.boxes kO q ((bd (bC hne)).trans e);exact⟨h4.trans h2.symm,h3.trans h1.symm⟩
  refine kk _ E _ _ _ _ ht (h.step ev rfl rfl st (λt x e=>.inr ⟨e,λsv e=>e,λy _=>jc rfl rfl rfl rfl rfl⟩) (λi t' dG e=>?_) (λk x e=>.inr ⟨e,rfl,rfl,rfl,x9 (h.aQ.o k x e)⟩) (λk x e=>.inr ⟨e,rfl,rfl,x9 (h.aQ.m k x e)⟩) ⟨h.aQ.o,h.aQ.m,h.aQ.oo,h.aQ.om,h.aQ.mm⟩ h.qu) ⟨λt x _ e=>?_,m,λb rr hk=>?_,λ_ _ _ _=>rfl,λ_ _ _ _=>⟨rfl,rfl,rfl⟩,λ_ _ _ _=>⟨rfl,rfl⟩,λx hx=>aG _ hx,λ_ _ _ _=>rfl⟩
   ⟨λ_ _=>rfl,λkO t' dG e2=>?_,λ_ _=>rfl,λ_ _=>rfl,λx hx=>aG _ hx⟩
  .rcases aA e with⟨h1,h2⟩|⟨h1,h2⟩
   .cases h2;subst h1;refine .inl ⟨_,look_eq,DN (λy _ sv k=>TR.tr m (jc rfl rfl rfl rfl rfl) k) ?_⟩;unfold Sv.wr;rw[hlen];exact((g6.take off).app f1).app (g6.drop _)
   .exact .inr ⟨h2,λss' e=>(bd h1).trans e,λy _=>jc rfl rfl rfl rfl rfl⟩
  .obtain⟨sv,k1,_⟩:=h.al t x e;rw[h.st.al t sv k1,st.al t sv k1]
  .rcases hk with⟨kO,t',dG,h1,rfl,h2⟩|⟨k,x,h1,h2,h3⟩|⟨k,x,h1,h2,h3⟩
   .obtain⟨ss',h3,_⟩:=h.boxes kO t' dG h1;by_cases he:kO=id
    .subst he;rw[hb]at h1;cases h1;by_cases hz:(aW v).length=0
     .obtain⟨h4,_,h5⟩:=h.st.boxes kO _ g5;obtain⟨h6,_,h7⟩:=st.boxes kO _ look_eq;refine⟨?_,h6.trans h4.symm⟩;have XP:cellsOf su=[]:=jJ.1 (by omega);have:Sv.wr ss off (cellsOf su)=ss:=by unfold Sv.wr;rw[XP];simp
      rw[this]at h7;exact h7.trans h5.symm
     .exact absurd (aN _ (ve.2 ⟨0,by omega,rfl⟩)) (h2 (off+0) (by omega))
    .exact XZ kO _ he h3
   .exact ev.keep b rr (by rw[h2];exact x9 (h.aQ.o k x h1))
   .exact ev.keep b rr (by rw[h2];exact x9 (h.aQ.m k x h1))
  .by_cases he:kO=id
   .subst he;rw[hb]at e2;cases e2;refine⟨_,look_eq,?_,λq hq hn=>?_⟩
    .simp only[aS,bH,dy];omega
    .have Ke:(cs.take off).length=off:=by simp;omega
     by_cases h3:q<off
     .rw[bV,fU (by omega),bQ,if_pos h3]
     .by_cases h4:q<off+(aW v).length
      .exact absurd (aN _ (ve.2 ⟨q-off,by omega,by rw[Nat.add_sub_of_le (Nat.le_of_not_lt h3)]⟩)) hn
      .rw[eS (by rw[aS];omega),aS,Ke,eJ];congr 1;omega
   .exact⟨dG,(bd (bC he)).trans e2,rfl,λ_ _ _=>rfl⟩
 .cases ht
end
end
section
section
variable{P:Program}{T:Tb}{w:World}{χ:Nat->Nat}{E:En}{s:TS}{X:Cx}{sy:Sy}{a:Act}
variable{all:List Oper}{Q:Exit->Act->World->Prop}{K:Act->World->Prop}{k:TS->Prop}
variable{d ty:Nat}{pos:String}{af:Array Edge}{g:Option (Nat×Bool)}
theorem FL.nvx:∀{l q:List TV} {vs:List Value},FL (λb v=>∀y,NV b y->CR w χ y v) l vs->FL NV l q->FL (CR w χ) q vs
 |[],[],_,h,_=>by cases ‹List Value› with|nil=>trivial|cons _ _=>exact h.elim
 |_::_,_::_,[],h,_=>h.elim
 |_::_,_::_,_::_,h,n=>⟨h.1 _ n.1,FL.nvx h.2 n.2⟩
 |[],_::_,_,_,n=>n.elim
 |_::_,[],_,_,n=>n.elim
theorem ahj{χ':Nat->Nat}(m:M0 w χ w χ'):∀{l:List TV} {vs:List Value},(∀x∈l,∀k ow,x=.o k->aa s.own k=some ow->RS (bw ow.c) w χ' (E.σ k) ow.l (E.κ k))->l.all DU=true->FL (CV w χ E s) l vs->FL (λb v=>∀y,NV b y->CR w χ' y v) (l.map (qx s)) vs
 |[],[],_,_,_=>trivial
 |[],_::_,_,_,h=>h.elim
 |_::_,[],_,_,h=>h.elim
 |x::l,v::vs,hz,hn,h=>by rw[cd,ak]at hn;exact⟨λy n=>LP m (hz x aI) hn.1 n h.1,ahj m (λx hx=>hz x (aw _ hx)) hn.2 h.2⟩
theorem ahL:∀{l:List TV} {vs:List Value},FL (CR w χ) l vs->FL (λb v=>∀y,NV b y->CR w χ y v) l vs
 |[],[],_=>trivial
 |_::_,_::_,h=>⟨λy n=>h.1.nv n,ahL h.2⟩
 |[],_::_,h=>h.elim
 |_::_,[],h=>h.elim
theorem ahM{w':World}{χ':Nat->Nat}(m:M0 w χ w' χ'):∀{l:List TV} {vs:List Value},FL (λb v=>∀y,NV b y->CR w χ y v) l vs->FL (λb v=>∀y,NV b y->CR w' χ' y v) l vs
 |[],[],_=>trivial
 |_::_,_::_,h=>⟨λy n=>(h.1 y n).m0 m,ahM m h.2⟩
 |[],_::_,h=>h.elim
 |_::_,[],h=>h.elim
theorem Xr{ks:List Nat}{E:En}{s:TS}(hc:QD E s){c:Nat}(h:c<=1000):pF ((lf s ks).map E.c) c=false:=GJ hc yL h
theorem aeZ(h:QD E s){ks:List Nat}{k:Nat}{x:Wa}(e:aa s.own k=some x)(hn:k∉ks):pF ((lf s ks).map E.c) (E.c k)=false:=bl.2 λhm=>by
 obtain⟨j,hj,y,hy,he⟩:=sn _ hm;exact hn (h.oo j y k x hy e he.symm▸hj)
theorem acB{cs:List Nat}{b:Nat}(h:pF cs (χ b)=false):sV cs χ b=χ b:=by
 unfold sV;unfold pF at h;grind
theorem abG{j k:Nat}{l:List TV}(h:namesV (fa j) l=false)(hk:TV.o k∈l):k≠j:=λe=>by
 have:=kM h hk;subst e;rw[show fa k (.o k)=Nat.beq k k from rfl,eH]at this;grind
theorem zJ:∀{l:List TV} {k:Nat},k∈ownsV l->TV.o k∈l
 |y::l,k,h=>by
  cases y with
  |o j =>
   rcases aE.1 (show k∈j::ownsV l from h)with e|e
   .grind
   .exact aw _ (zJ e)
  |_=>exact aw _ (zJ (l:=l) h)
theorem aaE{α:Type}{L S:List α}{p q n:Nat}(hp:p+S.length<=L.length):
  (q+n<=p->((L.take p++S++L.drop (p+S.length)).drop q).take n=(L.drop q).take n)/\(p+S.length<=q->((L.take p++S++L.drop (p+S.length)).drop q).take n=(L.drop q).take n) :=
 ⟨(nG (by omega) hp).1,(nG (by omega) hp).2.2⟩
theorem OD{α:Type}{L S:List α}{o m off:Nat}(h1:off+S.length<=m)(h2:o+m<=L.length):
  ((L.take (o+off)++S++L.drop (o+off+S.length)).drop o).take m=(((L.drop o).take m).take off++S++((L.drop o).take m).drop (off+S.length)):=by
 apply mM;intro i;have l1:(L.take (o+off)).length=o+off:=by simp;omega
 have l2:((L.drop o).take m).length=m:=by simp;omega
 have l3:(((L.drop o).take m).take off).length=off:=by simp;omega
 rw[bQ,eJ];by_cases hi:i<m
 .rw[if_pos hi];by_cases h3:i<off
  .rw[bV,fU (by omega),bV,fU (by omega),bQ,bQ,bQ,eJ];rw[if_pos (by omega),if_pos (by omega),if_pos hi]
  .by_cases h4:i<off+S.length
   .rw[bV,eS (by omega),fU (by omega),bV,eS (by omega),fU (by omega),l1,l3];congr 1;omega
   .rw[bV,eS (by omega),eS (by omega),bV,eS (by omega),eS (by omega),l1,l3,eJ,eJ,bQ,eJ];rw[if_pos (by omega)];congr 1;omega
 .rw[if_neg hi];symm;rw[mO];simp;omega
theorem OA(TT:gW P T)(h:bX X s E sy a w χ)(hw:bK all sy g=true){t j off:Nat}{i:Int}{x y:Operand}{v:RV}(hx:ev s x=some (.s (.e j i off)))(hy:ev s y=some v)(ht:BP s (Oy T t) j i off v k)(kk:Nx X none s E a w χ k K):
  pJ P all.toArray Q ⟨none,.store t x y,ty,pos,af,g⟩ K a w:=by
 unfold BP at ht;split at ht
 .rename_i e c l n agg hj hs;split at ht
  .rename_i x' XH;obtain⟨hc,ht⟩:=dU ht;simp only[ak,eI]at hc;obtain⟨⟨⟨⟨⟨⟨c0,c1⟩,c2⟩,c3⟩,c4⟩,c5⟩,c6⟩:=hc;obtain⟨Re,GS,jh,_⟩:=uJ hs;have c1':=aD c1;have c2':=aB c2;have c0':=aB c0;obtain⟨ow,b,xH,ex,h0,h1,hσ⟩:=Yo h hx (by rw[hj];rfl);rw[hj]at xH;cases xH;obtain⟨su,g3,g4⟩:=bq h hy;have hnt:∀q,v≠.t q:=λq e=>by rw[←c1',e]at c0';exact absurd c0' (Nat.not_succ_le_zero 0)
   have A9:plainR s v=true:=by
    cases v with
    |s z=>have c4:(plainV s z&&true)=true:=c4;rw[Bool.and_true]at c4;exact c4
    |g q=>exact c4
    |t q=>exact absurd rfl (hnt q)
   obtain⟨u,rfl,hu⟩:=EG A9 g4;have Ls:=hu.len;obtain⟨f1,f2⟩:=h.wo (ownsV (aW v));have m1:=xJ ((lf s (ownsV (aW v))).map E.c) w χ;have hjn:j∉ownsV (aW v):=λhm=>abG c3 (zJ hm) rfl;have hj1:aa (hU (ownsV (aW v)) s).own j=some ⟨e,c,l⟩:=fH (f:=λi=>!(ownsV (aW v)).any (Nat.beq i)) (by rw[bl.2 hjn];rfl) hj;have hO:OS (bw c) e w (sV ((lf s (ownsV (aW v))).map E.c) χ) (E.c j) (E.σ j) l (E.κ j):=f1.own j _ hj1;have h1:i<(l.length:Int):=h1;have ex:a.eval x=.pointer (some ⟨b,i.toNat*(bw c).n+off,none⟩):=ex;rcases hO.row with⟨hn,_⟩|⟨b',cells,hb,nE,gk,hle,hcm,Ue,ll⟩
   .rw[hσ]at hn;cases hn
   rw[hσ]at hb;cases hb;obtain⟨fr,hh,Ja⟩:=id gk;have eB:i.toNat<l.length:=by omega
   have hi:=ll i.toNat _ (@qW _ (zU c) l i h0 h1);have Kf:=Cz c hi;have uC:=Kf.len;rw[(bw c).len hi]at uC;have m1':=dZ (m:=(bw c).n) eB;have m2':=cP (bw c).n hle;rw[Nat.add_mul,jf]at m1';have PC:u.cells.toList.length=n:=by rw[←Ls,c1']
   have xI:i.toNat*(bw c).n+off+n<=cells.size:=by rw[Ue];omega
   have GV:∀z∈u.cells.toList,z.oneCell'=true:=by
    intro z hz;have:∀{l:List TV} {vs:List Value},FL (CV w χ E s) l vs->∀z∈vs,z.oneCell'=true:=by
     intro l
     induction l with
     |nil=>intro vs h z hz;cases vs with|nil=>cases hz|cons _ _=>exact h.elim
     |cons y l ih=>intro vs h z hz;cases vs with
      |nil=>exact h.elim
      |cons v vs=>rcases aE.1 hz with e|e
                  .subst e;exact h.1.2
                  .exact ih h.2 z e
    exact this hu z hz
   obtain⟨inf,Us,hm⟩:=pN TT.bj (t:=t) (m:=n) (by unfold xj;rw[GS];show Nat.beq Re.size n=true;rw[jh];exact eH n);have im:=dW P b (i.toNat*(bw c).n+off) e fr u.cells.toList 0 cells w hh Ja (by rw[PC];simpa using xI) GV;simp only[c9]at im;have hr:(execOp a.eval ⟨none,.store t x y,ty,pos,af,g⟩).run P w=.ok .skip (w.setRow b (cells.toList.take (i.toNat*(bw c).n+off)++u.cells.toList++cells.toList.drop (i.toNat*(bw c).n+off+u.cells.toList.length)).toArray):=by
    have ey:a.eval y=u:=h.st.cu g3;have Uh:u.cells.size=inf.size:=by rw[←cm,PC,hm]
    have Fe:(storeVar t ⟨b,i.toNat*(bw c).n+off,none⟩ u).run P w=.ok () (w.setRow b (cells.toList.take (i.toNat*(bw c).n+off)++u.cells.toList++cells.toList.drop (i.toNat*(bw c).n+off+u.cells.toList.length)).toArray):=by simp only[storeVar,bU,Sv.run_sizeOf Us,bW,Uh,ne_eq,not_true_eq_false,gI];exact im
    simp only[execOp,ex,ey,Instr.storeAt,Instr.sureAddr,bU,cM,bW,Fe]
   have hcj:=h.aQ.o j _ hj;have ev:Ev (gK (E.c j)) w (sV ((lf s (ownsV (aW v))).map E.c) χ) (w.setRow b (cells.toList.take (i.toNat*(bw c).n+off)++u.cells.toList++cells.toList.drop (i.toNat*(bw c).n+off+u.cells.toList.length)).toArray) (sV ((lf s (ownsV (aW v))).map E.c) χ) :=
    ⟨rfl,rfl,rfl,by simp,λb' _ hp=>⟨setRow_other _ _ _ _ (by intro e;rw[e,nE]at hp;simp[gK]at hp),rfl⟩⟩
   have m2:=ev.m0 (iq (by omega));refine iG (de h.st (o:=⟨none,.store t x y,ty,pos,af,g⟩) hw) ?_;unfold Oper.wp;rw[hr];simp only[Oper.upon];have ab6:OS (bw c) e (w.setRow b (cells.toList.take (i.toNat*(bw c).n+off)++u.cells.toList++cells.toList.drop (i.toNat*(bw c).n+off+u.cells.toList.length)).toArray) (sV ((lf s (ownsV (aW v))).map E.c) χ) (E.c j) (E.σ j) (l.set i.toNat x') (E.κ j):=by
    refine⟨by simpa using hO.JS,.inr ⟨b,_,hσ,nE,gk.set (by simp only[gv,aS,bH,dy,cm,PC];omega),by simpa using hle,hcm,?_,?_⟩⟩
    .simp only[gv,aS,bH,dy,cm,PC];omega
    .intro q z hz;have hql:q<l.length:=by have:=(dz.1 hz).1;simpa using this
     rw[List.getElem?_set]at hz;have m3:=dZ (m:=(bw c).n) hql;rw[Nat.add_mul,jf]at m3;unfold chunk;simp only[bh];by_cases NB:i.toNat=q
     .subst NB;rw[if_pos rfl]at hz;split at hz
      .cases hz;show(bw c).R _ _ (((cells.toList.take (i.toNat*(bw c).n+off)++u.cells.toList++cells.toList.drop (i.toNat*(bw c).n+off+u.cells.toList.length)).drop (i.toNat*(bw c).n)).take (bw c).n) x';rw[OD (by omega) (by rw[cm];omega)];refine Gt c c6 (FL.nvx ?_ (mV c XH));have q1:=ahL (Kf.mono λ_ _ hc=>CR.m0 m2 hc);have q2:=ahM m2 (ahj m1 (λz hz k ow e1 e2=>f2 k (sg (e1▸hz)) ow e2) c5 hu);have q3:=((q1.take off).app q2).app (q1.drop (off+((aW v).map (qx s)).length));rw[da,Ls]at q3;unfold aey;rw[da,Ls];have hch:chunk cells 0 (bw c).n i.toNat=(cells.toList.drop (i.toNat*(bw c).n)).take (bw c).n:=by unfold chunk;rw[bh]
       rw[hch]at q3;exact q3
      .omega
     .rw[if_neg NB]at hz;have hx:=(bw c).mono m2 (ll q z hz);unfold chunk at hx;rw[bh]at hx;have QO:=aaE (L:=cells.toList) (S:=u.cells.toList) (p:=i.toNat*(bw c).n+off) (q:=q*(bw c).n) (n:=(bw c).n) (by have h9:=PC;simp only[cm]at h9 ⊢; omega);have:((cells.toList.take (i.toNat*(bw c).n+off)++u.cells.toList++cells.toList.drop (i.toNat*(bw c).n+off+u.cells.toList.length)).drop (q*(bw c).n)).take (bw c).n=(cells.toList.drop (q*(bw c).n)).take (bw c).n:=by
       rcases Nat.lt_or_gt_of_ne NB with XQ|hgt
       .have h3:=cP (bw c).n XQ;rw[kW]at h3;exact QO.2 (by rw[PC];omega)
       .have h3:=cP (bw c).n hgt;rw[kW]at h3;exact QO.1 (by omega)
      show(bw c).R _ _ (((cells.toList.take (i.toNat*(bw c).n+off)++u.cells.toList++cells.toList.drop (i.toNat*(bw c).n+off+u.cells.toList.length)).drop (q*(bw c).n)).take (bw c).n) z;rw[this];exact hx
   have nmj:∀y,Nm E E (hU (ownsV (aW v)) s) ⟨s.al,s.boxes,(j,⟨e,c,l.set i.toNat x'⟩)::(hU (ownsV (aW v)) s).own,s.aZ,(ownsV (aW v)).map (λk=>2*k+1)++(2*j+1)::s.ca⟩ y:=λy k _=>⟨λmQ e'=>by
    rcases aA e' with⟨p1,p2⟩|⟨p1,p2⟩
    .subst p1 p2;exact⟨_,hj1,by simp,rfl,rfl,rfl⟩
    .exact⟨mQ,p2,rfl,rfl,rfl,rfl⟩,λmp' e'=>⟨mp',e',rfl⟩⟩
   have e1:(hU (ownsV (aW v)) (⟨s.al,s.boxes,(j,⟨e,c,l.set i.toNat x'⟩)::s.own,s.aZ,(2*j+1)::s.ca⟩:TS))=⟨s.al,s.boxes,(j,⟨e,c,l.set i.toNat x'⟩)::(hU (ownsV (aW v)) s).own,s.aZ,(ownsV (aW v)).map (λk=>2*k+1)++(2*j+1)::s.ca⟩:=by unfold hU;rw[List.filter_cons_of_pos (by rw[show(ownsV (aW v)).any (Nat.beq j)=false from bl.2 hjn];rfl)]
   rw[e1]at ht;have lk:∀k x,aa (hU (ownsV (aW v)) s).own k=some x->k∉ownsV (aW v)/\aa s.own k=some x:=λk x e=>by obtain⟨h1,h2⟩:=bg (f:=λi=>!(ownsV (aW v)).any (Nat.beq i)) e;exact⟨bl.1 (by simpa using h1),h2⟩
   have cjk:∀k x,aa s.own k=some x->k≠j->gK (E.c j) (E.c k)=false:=λk x e hne=>iq λhe=>hne (h.aQ.oo k x j _ e hj he);have fin:=f1.step ev (iq (by omega)) (iq (by omega)) (f1.st.ev ev (jC (fq (by omega)))) (s':=⟨s.al,s.boxes,(j,⟨e,c,l.set i.toNat x'⟩)::(hU (ownsV (aW v)) s).own,s.aZ,(ownsV (aW v)).map (λk=>2*k+1)++(2*j+1)::s.ca⟩) (E':=E)
    (λt x e=>.inr ⟨e,λsv e=>e,λy _=>nmj y⟩) (λi t cs e=>.inr ⟨e,λss e=>e,λy _=>nmj y⟩) (λk x e'=>by
     rcases aA e' with⟨p1,p2⟩|⟨p1,p2⟩
     .subst p1 p2;exact .inl ab6
     .exact .inr ⟨p2,rfl,rfl,rfl,cjk k x (lk k x p2).2 (bC p1)⟩) (λk x e'=>.inr ⟨e',rfl,rfl,iq λhe=>h.aQ.om j _ k x hj e' he.symm⟩)
    ⟨λk x e'=>by
     rcases aA e' with⟨p1,p2⟩|⟨p1,p2⟩
     .subst p1;exact hcj
     .exact f1.aQ.o k x p2,f1.aQ.m,λk x q y e' xZ he=>by
     rcases aA e' with⟨p1,p2⟩|⟨p1,p2⟩<;>rcases aA xZ with⟨p3,p4⟩|⟨p3,p4⟩
     .rw[←p1,←p3]
     .subst p1;exact f1.aQ.oo _ _ q y hj1 p4 he
     .subst p3;exact f1.aQ.oo k x _ _ p2 hj1 he
     .exact f1.aQ.oo k x q y p2 p4 he,λk x q y e' xZ=>by
     rcases aA e' with⟨p1,p2⟩|⟨p1,p2⟩
     .subst p1;exact f1.aQ.om _ _ q y hj1 xZ
     .exact f1.aQ.om k x q y p2 xZ,f1.aQ.mm⟩ f1.qu
   have hF:∀b,χ b<=1000∨(∃k x,aa s.own k=some x/\χ b=E.c k/\k∉ownsV (aW v))∨(∃k x,aa s.aZ k=some x/\χ b=E.m k)->sV ((lf s (ownsV (aW v))).map E.c) χ b=χ b:=λb hb=>acB (by
    rcases hb with hb|⟨k,x,q1,q2,q3⟩|⟨k,x,q1,q2⟩
    .exact Xr h.aQ hb
    .rw[q2];exact aeZ h.aQ q1 q3
    .rw[q2];refine bl.2 λhm=>?_;obtain⟨j,hj,y,hy,he⟩:=sn _ hm;exact h.aQ.om j y k x hy q1 he.symm)
   refine kk _ E _ _ _ _ ht fin ⟨λ_ _ _ _=>rfl,M0.tr m1 m2,λb rr hk=>?_,λ_ _ _ _=>rfl,λ_ _ _ _=>⟨rfl,rfl,rfl⟩,λ_ _ _ _=>⟨rfl,rfl⟩,λx hx=>aG _ (aw _ hx),λ_ _ _ _=>rfl⟩
    ((Fr.hU s (ownsV (aW v))).trans (ds':=[]) ⟨λ_ _=>rfl,λid t' dG e=>⟨dG,e,rfl,λ_ _ _=>rfl⟩,λk hn=>bd λe=>hn (e▸aG _ aI),λ_ _=>rfl,λx hx=>(aV.1 hx).elim (λe=>aN _ e) λe=>aG _ (aw _ e)⟩)
   rcases hk with⟨id,t',dG,q1,rfl,_⟩|⟨k,x,q1,q2,q3⟩|⟨k,x,q1,q2,q3⟩
   .obtain⟨ss',q3,_⟩:=h.boxes id t' dG q1;obtain⟨q4,q5,_⟩:=h.st.boxes id _ q3;have hle:χ (E.ρ id)<=1000:=by rw[q4];simp[jo]at q5;omega
    have:=hF _ (.inl hle);obtain⟨r1,r2⟩:=ev.keep _ rr (by rw[this];exact iq (by omega));exact⟨r1,r2.trans this⟩
   .have hkn:k∉ownsV (aW v):=λhm=>q3 (aN _ (aq.2 ⟨k,hm,rfl⟩));have hkj:k≠j:=λe=>q3 (e▸aG _ aI);have:=hF b (.inr (.inl ⟨k,x,q1,q2,hkn⟩));obtain⟨r1,r2⟩:=ev.keep _ rr (by rw[this,q2];exact cjk k x q1 hkj);exact⟨r1,r2.trans this⟩
   .have:=hF b (.inr (.inr ⟨k,x,q1,q2⟩));obtain⟨r1,r2⟩:=ev.keep _ rr (by rw[this,q2];exact iq λhe=>h.aQ.om j _ k x hj q1 he.symm);exact⟨r1,r2.trans this⟩
  .cases ht
 .cases ht
end
end
section
section
variable{P:Program}{T:Tb}{w:World}{χ:Nat->Nat}{E:En}{s:TS}{X:Cx}{sy:Sy}{a:Act}
variable{all:List Oper}{Q:Exit->Act->World->Prop}{K:Act->World->Prop}{k:TS->Prop}
variable{d ty:Nat}{pos:String}{af:Array Edge}{g:Option (Nat×Bool)}
theorem YI(h:bX X s E sy a w χ){id t:Nat}{cs:List TV}(e:aa s.boxes id=some (t,cs)):χ (E.ρ id)=id/\id<=1000:=by
 obtain⟨ss,h4,_⟩:=h.boxes id t cs e;obtain⟨h5,h6,_⟩:=h.st.boxes id _ h4;refine⟨h5,?_⟩;simp[jo]at h6;omega
theorem M6(h:bX X s E sy a w χ){j0 t:Nat}{c:TC}(ht:newM j0 s (some d) t c k){cc r:Nat}(wO:1001<=cc)(hco:∀k x,aa s.own k=some x->E.c k≠cc)(hcm:∀k x,aa s.aZ k=some x->E.m k≠cc)
  {w':World} {χ':Nat->Nat} {a':Act} (ev:Ev eN w χ w' χ') (om:OM kI (bw c) (mR c) w' χ' cc r ([]:List (Int×den c))) (st:St X.n ⟨(d,V (.map (some r)))::sy.al,sy.boxes⟩ E.ρ a' w' χ') (kk:Nx X (some d) s E a w χ k K):K a' w':=by
 unfold newM at ht;obtain⟨hb,ht⟩:=dU ht;rw[ak,ak]at hb;obtain⟨⟨f1,f2⟩,f3⟩:=hb;have f3':aa s.own j0=none:=sM.1 f3;have nm:∀y,names1 (fa j0) y=false->Nm E ⟨E.ρ,E.σ,E.κ,iZ E.μ j0 r,E.c,iZ E.m j0 cc⟩ s ⟨(d,.s (.m j0))::s.al,s.boxes,s.own,(j0,⟨c,[]⟩)::s.aZ,(2*j0+1)::s.ca⟩ y:=λy hy k hk=>by have hne:=Ij (f:=fa j0) hy hk;exact⟨λmQ e'=>⟨mQ,e',rfl,rfl,rfl,rfl⟩,λmp' e'=>⟨mp',(bd (bC hne)).symm.trans e',cq hne⟩⟩
 refine kk _ ⟨E.ρ,E.σ,E.κ,iZ E.μ j0 r,E.c,iZ E.m j0 cc⟩ _ _ _ _ ht (h.step ev rfl rfl st (λt x e'=>?_) (λi t cs e'=>.inr ⟨e',λss e=>e,λy hy=>nm y (kM (yG f2 e') hy)⟩) (λk x e'=>.inr ⟨e',rfl,rfl,rfl,rfl⟩) (λk x e'=>?_) ⟨h.aQ.o,λk x e'=>?_,h.aQ.oo,λk x j y e' xZ=>?_,λk x j y e' xZ=>?_⟩ h.qu)
  (Hu.of h (o:=some d) st rfl (λt sv hne e=>(bd λhe=>hne (b8 some he)).trans e) ev rfl (λid t cs e _=>rfl) (λk x e hn=>⟨rfl,rfl,rfl,rfl⟩) (λk x e hn=>?_) λx hx=>aw _ hx)
  ⟨λt ht=>bd λe=>ht (e▸aY.2 rfl),λid t cs e=>⟨cs,e,rfl,λ_ _ _=>rfl⟩,λ_ _=>rfl,λk hn=>bd λe=>hn (e▸aI),λx hx=>aw _ hx⟩
 .rcases aA e' with⟨h1,h2⟩|⟨h1,h2⟩
  .subst h1 h2;exact .inl ⟨_,look_eq,_,rfl,λmp e=>by
    show _=Value.map (some (iZ E.μ j0 r j0));rw[eC]⟩
  .exact .inr ⟨h2,λsv e=>(bd h1).trans e,λy hy=>nm y (ni (vb f1 h2 (bC h1)) hy)⟩
 .rcases aA e' with⟨h1,h2⟩|⟨h1,h2⟩
  .subst h1 h2;refine .inl ?_;show OM _ _ _ _ _ (iZ E.m j0 cc j0) (iZ E.μ j0 r j0) _;rw[eC,eC];exact om
  .exact .inr ⟨h2,cq (bC h1),cq (bC h1),rfl⟩
 .show 1001<=iZ E.m j0 cc k;rcases aA e' with⟨h1,h2⟩|⟨h1,h2⟩
  .rw[←h1,eC];exact wO
  .rw[cq (bC h1)];exact h.aQ.m k x h2
 .show E.c k≠iZ E.m j0 cc j;rcases aA xZ with⟨h1,h2⟩|⟨h1,h2⟩
  .rw[←h1,eC];exact hco k x e'
  .rw[cq (bC h1)];exact h.aQ.om k x j y e' h2
 .show iZ E.m j0 cc k=iZ E.m j0 cc j->k=j;rcases aA e' with⟨h1,h2⟩|⟨h1,h2⟩<;>rcases aA xZ with⟨h3,h4⟩|⟨h3,h4⟩
  .intro _;rw[←h1,←h3]
  .rw[←h1,eC,cq (bC h3)];intro he;exact absurd he.symm (hcm j y h4)
  .rw[←h3,eC,cq (bC h1)];intro he;exact absurd he (hcm k x h2)
  .rw[cq (bC h1),cq (bC h3)];exact h.aQ.mm k x j y h2 h4
 .have hne:k≠j0:=λhe=>hn (he▸aI);exact⟨rfl,cq hne,cq hne⟩
theorem Ty(TT:gW P T)(h:bX X s E sy a w χ)(hw:bK all sy g=true)(hd:Nat.blt d X.n=true){t:Nat}{x:Option Operand}{c:TC}{q:Option Int}(hc:T.mt t=some c)(hx:pZ s x=some q){j0:Nat}(ht:newM j0 s (some d) t c k)(kk:Nx X (some d) s E a w χ k K):
  pJ P all.toArray Q ⟨some d,.makeMap t x,ty,pos,af,g⟩ K a w:=by
 obtain⟨cc,wO,hco,hcm⟩:=l7 E s;obtain⟨_,kt,et,zv,k1,_⟩:=TT.mt _ _ hc;unfold pZ at hx;split at hx
 .exact Sv.afe kI (bw c) (mR c) cc h.st hw hd λr a' w' χ' ev om st=>M6 h ht wO hco hcm ev om st kk
 .split at hx
  .rename_i hy;obtain⟨sv,g1,g2⟩:=bq h hy;obtain rfl:=g2.int;exact Sv.abr kI (bw c) (mR c) cc h.st hw hd g1 k1 λr a' w' χ' ev om st=>M6 h ht wO hco hcm ev om st kk
  .cases hx
theorem TB(h:bX X s E sy a w χ){j:Nat}{mp mp':J9}(hj:aa s.aZ j=some mp){tc:List Nat}{w':World}{a':Act}(ev:Ev (gK (E.m j)) w χ w' χ)(om:OM kI (bw mp'.c) (mR mp'.c) w' χ (E.m j) (E.μ j) mp'.l)(st:St X.n sy E.ρ a' w' χ)(htc:∀x∈s.ca,x∈tc)(hjt:2*j+1∈tc):
  bX X ⟨s.al,s.boxes,s.own,(j,mp')::s.aZ,tc⟩ E sy a' w' χ/\Hu X.nb none s ⟨s.al,s.boxes,s.own,(j,mp')::s.aZ,tc⟩ E E a a' w w' χ χ/\Fr [] s ⟨s.al,s.boxes,s.own,(j,mp')::s.aZ,tc⟩:=by
 have hcj:=h.aQ.m j _ hj;have nm:∀y,Nm E E s ⟨s.al,s.boxes,s.own,(j,mp')::s.aZ,tc⟩ y:=λy k _=>⟨λmQ e'=>⟨mQ,e',rfl,rfl,rfl,rfl⟩,λakN e'=>by
  rcases aA e' with⟨p1,p2⟩|⟨p1,p2⟩
  .subst p1;exact⟨mp,hj,rfl⟩
  .exact⟨akN,p2,rfl⟩⟩
 have ne:∀k x,aa s.aZ k=some x->k≠j->gK (E.m j) (E.m k)=false:=λk x e hne=>iq λhe=>hne (h.aQ.mm k x j _ e hj he)
 refine⟨h.step ev (iq (by omega)) (iq (by omega)) st (λt x e=>.inr ⟨e,λsv e=>e,λy _=>nm y⟩) (λi t cs e=>.inr ⟨e,λss e=>e,λy _=>nm y⟩) (λk x e=>.inr ⟨e,rfl,rfl,rfl,iq λhe=>h.aQ.om k x j _ e hj he⟩) (λk x e'=>?_) ⟨h.aQ.o,λk x e'=>?_,h.aQ.oo,λk x q y e' xZ=>?_,λk x q y e' xZ he=>?_⟩ h.qu,
  Hu.of h st rfl (λt sv _ e=>e) ev (iq (by omega)) (λid t cs e _=>iq (by have:=(YI h e).2;omega)) (λk x e hn=>⟨iq λhe=>h.aQ.om k x j _ e hj he,rfl,rfl,rfl⟩) (λk x e hn=>⟨ne k x e λhe=>hn (he▸hjt),rfl,rfl⟩) htc,⟨λ_ _=>rfl,λid t cs e=>⟨cs,e,rfl,λ_ _ _=>rfl⟩,λ_ _=>rfl,λk hn=>bd λe=>hn (e▸hjt),htc⟩⟩
 .rcases aA e' with⟨p1,p2⟩|⟨p1,p2⟩
  .subst p1 p2;exact .inl om
  .exact .inr ⟨p2,rfl,rfl,ne k x p2 (bC p1)⟩
 .rcases aA e' with⟨p1,p2⟩|⟨p1,p2⟩
  .subst p1;exact hcj
  .exact h.aQ.m k x p2
 .rcases aA xZ with⟨p1,p2⟩|⟨p1,p2⟩
  .subst p1;exact h.aQ.om k x _ _ e' hj
  .exact h.aQ.om k x q y e' p2
 .rcases aA e' with⟨p1,p2⟩|⟨p1,p2⟩<;>rcases aA xZ with⟨p3,p4⟩|⟨p3,p4⟩
  .rw[←p1,←p3]
  .subst p1;exact h.aQ.mm _ _ q y hj p4 he
  .subst p3;exact h.aQ.mm k x _ _ p2 hj he
  .exact h.aQ.mm k x q y p2 p4 he
theorem Xg(TT:gW P T)(h:bX X s E sy a w χ)(hw:bK all sy g=true){t:Nat}{x y z:Operand}(ht:putM s (T.mt t) (ev s x) (ev s y) (ev s z) k)(kk:Nx X none s E a w χ k K):pJ P all.toArray Q ⟨none,.mapUpdate t x y z,ty,pos,af,g⟩ K a w:=by
 unfold putM at ht;split at ht
 .rename_i j q v hx hy hz;split at ht
  .rename_i c l hj;split at ht
   .rename_i u hu;obtain⟨hc,ht⟩:=dU ht;simp only[ak,eI]at hc;obtain⟨hr,kt,et,zv,k1,k2,k3,k4⟩:=TT.mt _ _ (CQ hc.1);obtain⟨sv,g1,g2⟩:=bq h hx;obtain rfl:=TR.map (w:=w) (χ:=χ) g2 hj;obtain⟨su,g3,g4⟩:=bq h hy;obtain rfl:=g4.int;obtain⟨sz,g5,g6⟩:=bq h hz;obtain⟨f1,f2⟩:=h.wo (ownsV (aW v));have m1:=xJ ((lf s (ownsV (aW v))).map E.c) w χ;obtain⟨uv,rfl,hv,_⟩:=LY h m1 f2 hu g6 hr;have hO:=f1.aZ j _ hj;have hcj:=h.aQ.m j _ hj;refine Sv.akM kI (bw c) (mR c) q f1.st hw g1 g3 g5 k1 k2 (fq (by omega)) hO hv λa' w' ev om st=>?_;have kk1:=kk.hU h (sn (s:=s) (E:=E) (ks:=ownsV (aW v)));obtain⟨s1,s2,s3⟩:=TB f1 (mp':=⟨c,iU l q u⟩) hj (tc:=(ownsV (aW v)).map (λk=>2*k+1)++(2*j+1)::s.ca) ev om st (λx hx=>by
     rcases aV.1 hx with e|e
     .exact aN _ e
     .exact aG _ (aw _ e)) (aG _ aI)
    exact kk1 _ E _ _ _ _ ht s1 s2 s3
   .cases ht
  .cases ht
 .cases ht
theorem EL.del{α:Type}{R:b9 α}{ag:Bool}(k:Int):∀{es:List MapEntry} {m:List (Int×α)} (i:Nat),EL kI R ag w χ es m ->
  (Instr.findNow kI.d (kI.v k) es i=some none/\uy m k=m)∨∃j v,Instr.findNow kI.d (kI.v k) es i=some (some (i+j,v))/\j<es.length/\EL kI R ag w χ (es.eraseIdx j) (uy m k)
 |[],[],i,_=>.inl ⟨rfl,rfl⟩
 |e::es,(j,x)::m,i,h=>by
  obtain⟨h1,h2,h3⟩:=h;by_cases hk:k=j
  .subst hk;refine .inr ⟨0,e.val,?_,Nat.zero_lt_succ _,?_⟩
   .simp only[Instr.findNow,h1,qG,decide_true,c9]
   .simp only[uy,if_true,List.eraseIdx_zero,List.tail_cons];exact h3
  .have hs:Instr.sameNow kI.d (kI.v k) e.key=some false:=by rw[h1,qG];simp[hk]
   have PM:¬j=k:=λq=>hk q.symm;rcases EL.del k (i+1) h3 with⟨g1,g2⟩|⟨q,v,g1,g2,g3⟩
   .exact .inl ⟨by simp only[Instr.findNow,hs,g1],by simp only[uy,if_neg PM,g2]⟩
   .refine .inr ⟨q+1,v,?_,Nat.succ_lt_succ g2,?_⟩
    .simp only[Instr.findNow,hs,g1];congr 3;omega
    .simp only[uy,if_neg PM,List.eraseIdx_cons_succ];exact⟨h1,h2,g3⟩
 |[],_::_,_,h=>h.elim
 |_::_,[],_,h=>h.elim
theorem ac4(TT:gW P T)(h:bX X s E sy a w χ)(hw:bK all sy g=true){o:Option Nat}(ho:∀d,o=some d->d<X.n){t t':Nat}{x y:Operand}(ht:delM s o (T.mt t) (ev s x) (ev s y) k)(kk:Nx X o s E a w χ k K):pJ P all.toArray Q ⟨o,.call ⟨.builtin .delete,#[x,y],#[t,t']⟩,ty,pos,af,g⟩ K a w:=by
 unfold delM at ht;split at ht
 .rename_i j q hx hy;split at ht
  .rename_i c l hj;obtain⟨hc,ht⟩:=dU ht;obtain⟨hr,kt,et,zv,k1,k2,k3,k4⟩:=TT.mt _ _ (CQ hc);obtain⟨sv,g1,g2⟩:=bq h hx;obtain rfl:=TR.map (w:=w) (χ:=χ) g2 hj;obtain⟨su,g3,g4⟩:=bq h hy;obtain rfl:=g4.int;obtain⟨h1,es,clock,h2,im,h3⟩:=h.aZ j _ hj;have ex:a.eval x=.map (some (E.μ j)):=h.st.cu g1;have ey:a.eval y=kI.v q:=h.st.cu g3;have hcj:=h.aQ.m j _ hj;refine iG (de h.st (o:=⟨o,.call ⟨.builtin .delete,#[x,y],#[t,t']⟩,ty,pos,af,g⟩) hw) ?_;have fin:∀(BA:Array MapEntry),MapKept.Stamped BA clock->EL kI (bw c) (mR c) w χ BA.toList (uy l q)->(execOp a.eval ⟨o,.call ⟨.builtin .delete,#[x,y],#[t,t']⟩,ty,pos,af,g⟩).run P w=.ok (.value (.tuple #[])) { w with heap:=w.heap.setIfInBounds (E.μ j) (.map BA clock) }->(⟨o,.call ⟨.builtin .delete,#[x,y],#[t,t']⟩,ty,pos,af,g⟩:Oper).wp P a w K Q:=by
    intro BA abY he hr;have hs:=MapKept.heap_set (w:=w) (o':=.map BA clock) h2;have ev:Ev (gK (E.m j)) w χ { w with heap:=w.heap.setIfInBounds (E.μ j) (.map BA clock) } χ:=⟨rfl,rfl,rfl,by simp,λb' _ hp=>⟨hs.2 b' (by intro e;rw[e,h1]at hp;simp[gK]at hp),rfl⟩⟩
    have mm:=ev.m0 (iq (by omega));obtain⟨s1,s2,s3⟩:=TB h (mp':=⟨c,uy l q⟩) hj (tc:=(2*j+1)::s.ca) ev ⟨h1,BA,clock,hs.1,abY,he.mono mm⟩ (h.st.ev ev λc hc=>iq (by simp[jo]at hc;omega)) (λx hx=>aw _ hx) aI;unfold Oper.wp;rw[hr];simp only[Oper.upon];cases o with
    |none=>exact kk _ E _ _ _ _ ht s1 s2 s3
    |some d=>refine kk _ E _ _ _ _ ht (s1.put (rv:=.t []) (sv:=V (.tuple #[])) (ho d rfl) ⟨[],rfl,trivial⟩) ⟨λt x hne e=>?_,s2.m0,s2.keep,s2.box,s2.own,s2.map,s2.ca,λ_ _ _ _=>rfl⟩ (s3.trans (Fr.put _ (some d) _));simp only[Act.put];rw[jL (by intro e;subst e;exact hne rfl)]
   rcases EL.del q 0 h3 with⟨f1,f2⟩|⟨i,v,f1,f2,f3⟩
   .exact fin es im (by rw[f2];exact h3) (by simp[execOp,resolve,invoke,builtin,ex,ey,Builtin.delete_,aH k1,iE h2,MapKept.run_checkKey k2 (kI.TW q),MapKept.run_findKey k2 f1,MapKept.run_setObj_map _ h2,Result.andThen])
   .rw[bh]at f1;have f2':i<es.size:=by rw[←cm];exact f2
    exact fin (es.eraseIdxIfInBounds i) (MapKept.stamped_erase im i) (by
     unfold Array.eraseIdxIfInBounds;rw[dif_pos f2',Array.toList_eraseIdx];exact f3) (by simp[execOp,resolve,invoke,builtin,ex,ey,Builtin.delete_,aH k1,iE h2,MapKept.run_checkKey k2 (kI.TW q),MapKept.run_findKey k2 f1,MapKept.run_setObj_map _ h2,Result.andThen])
  .cases ht
 .cases ht
end
end
section
section
variable{P:Program}{T:Tb}{w:World}{χ:Nat->Nat}{E:En}{s:TS}{X:Cx}{sy:Sy}{a:Act}
variable{all:List Oper}{Q:Exit->Act->World->Prop}{K:Act->World->Prop}{k:TS->Prop}
variable{ty:Nat}{pos:String}{af:Array Edge}{g:Option (Nat×Bool)}{o:Option Nat}
theorem Hu.same(h:bX X s E sy a w χ){v:Value}{r:RV}:Hu X.nb o s (put s o r) E E a (a.put o v) w w χ χ:=by
 have e1:(put s o r).ca=s.ca:=by cases o<;>rfl
 refine⟨λt x hne e=>?_,M0.refl w χ,λ_ _ _=>⟨rfl,rfl⟩,λ_ _ _ _=>rfl,λ_ _ _ _=>⟨rfl,rfl,rfl⟩,λ_ _ _ _=>⟨rfl,rfl⟩,λx hx=>by rw[e1];exact hx,λ_ _ _ _=>rfl⟩;cases o with
 |none=>rfl
 |some d=>simp only[Act.put];rw[jL (by intro e;subst e;exact hne rfl)]
theorem OT(h:bX X s E sy a w χ)(ho:∀d,o=some d->d<X.n){r:RV}{sv:SV}(hv:fO w χ E s r sv):∃sy',bX X (put s o r) E sy' (a.put o (aP E.ρ sv)) w χ:=by
 cases o with
 |none=>exact⟨sy,h⟩
 |some d=>exact⟨_,h.put (ho d rfl) hv⟩
theorem HK(h:bX X s E sy a w χ)(hw:bK all sy g=true)(ho:∀d,o=some d->d<X.n){op:Op}{r:RV}{sv:SV}(hv:fO w χ E s r sv)(hr:(execOp a.eval ⟨o,op,ty,pos,af,g⟩).run P w=.ok (.value (aP E.ρ sv)) w)(hk:k (put s o r))(kk:Nx X o s E a w χ k K):pJ P all.toArray Q ⟨o,op,ty,pos,af,g⟩ K a w:=by
 obtain⟨sy',h'⟩:=OT h ho hv;refine iG (de h.st (o:=⟨o,op,ty,pos,af,g⟩) hw) ?_;unfold Oper.wp;rw[hr];simp only[Oper.upon];exact kk _ E _ _ _ _ hk h' (Hu.same h) (Fr.put s o r)
theorem OP(TT:gW P T)(h:bX X s E sy a w χ)(hw:bK all sy g=true)(ho:∀d,o=some d->d<X.n){op:Op}{q:Qr}(e:uV T true s op=some q)(ht:andP q.pre (smL q.F5 (k (put s o q.v))))(kk:Nx X o s E a w χ k K):pJ P all.toArray Q ⟨o,op,ty,pos,af,g⟩ K a w:=by
 have hp:(∀z,q.pre=some z->z)/\smL q.F5 (k (put s o q.v)):=by
  unfold andP at ht;split at ht
  .rename_i p hp;exact⟨λz e=>(by rw[hp]at e;cases e;exact ht.1),ht.2⟩
  .rename_i hp;exact⟨λz e=>(by rw[hp]at e;cases e),ht⟩
 obtain⟨⟨sv,hv,hr⟩,hs⟩:=uU TT h e hp.1;exact HK h hw ho hv (hr o ty pos af g w zh.refl) (hs _ hp.2) kk
theorem LQ(TT:gW P T)(h:bX X s E sy a w χ)(hw:bK all sy g=true)(ho:∀d,o=some d->d<X.n){t:Nat}{x:Operand}{lo hi:Option Operand}(ht:cutO s o (T.et t) (ev s x) (pZ s lo) (pZ s hi) k)(kk:Nx X o s E a w χ k K):pJ P all.toArray Q ⟨o,.slice t x lo hi none,ty,pos,af,g⟩ K a w:=by
 unfold cutO at ht;split at ht
 .rename_i j p q hx uC xX;split at ht
  .rename_i e0 c l hj;obtain⟨hc,ht⟩:=dU ht;obtain⟨e,he⟩:=vJ hc;obtain⟨t1,t2,t3,t4,_⟩:=TT.et _ _ _ he;obtain⟨sv,g1,g2⟩:=bq h hx;obtain rfl:=TR.own (w:=w) (χ:=χ) g2 hj;obtain⟨f1,f2⟩:=h.wo [j];have hR:=f2 j (aY.2 rfl) _ hj;have hp:(∀z,LR p q l.length=some z->z)/\k (put (hU [j] s) o (.s (.sl c (tX p q l)))):=by
    unfold andP at ht;split at ht
    .rename_i z hz;exact⟨λz' e=>(by rw[hz]at e;cases e;exact ht.1),ht.2⟩
    .rename_i hz;exact⟨λz' e=>(by rw[hz]at e;cases e),ht⟩
   obtain⟨sW,c',k1,k2⟩:=Ge TT.bj h (h.st.cu g1) uC xX hR t1 (vQ t2) hp.1;exact HK f1 hw ho (r:=.s (.sl c (tX p q l))) (sv:=V (.slice sW (tX p q l).length c')) ⟨_,rfl,sW,c',rfl,k1⟩ (k2 o ty pos af g w) hp.2 (kk.hU h sn)
  .cases ht
 .cases ht
theorem WA(TT:dD P T.bj){x:Operand}{src dst b:Nat}{ad:Option Addr}{ys:List Int}{c:Nat}{news:List Value}{o:Option Nat}(ex:a.eval x=.slice ad ys.length c)(hs:IQ T.bj src=true)(ht:isStr T.bj dst=true)(hN:Src (Rs .u8 b) w χ ad ys c news):(execOp a.eval ⟨o,.convert src dst x,ty,pos,af,g⟩).run P w=.ok (.value (.string (bs (ofBytes ys)))) w:=by
 obtain⟨e,hu,hue⟩:=XB TT hs;have I6:news=ys.map (Value.int .u8):=by
  have hl:news.length=ys.length:=by have:=hN.len;simpa[Rs]using this
  apply List.ext_getElem (by simp[hl]);intro i h1 h2;have hi:i<ys.length:=by omega
  have:=hN.el i ys[i] (fD hi);have h3:(news.drop (i*1)).take 1=[.int .u8 ys[i]]:=this;rw[Nat.mul_one,sR h1]at h3;simp only[List.take_succ_cons,List.take_zero,List.cons.injEq,and_true]at h3;rw[h3,List.getElem_map]
 have hb:(Conv.bytesToString (.slice ad ys.length c)).run P w=.ok (.string (bs (ofBytes ys))) w:=by
  cases ad with
  |none=>obtain⟨rfl,-⟩:=hN.nil rfl;rfl
  |some A=>have hl:=run_loadCells_list (P:=P) w A news (hN.cell A rfl);rw[I6]at hl;simp only[da]at hl;have:=run_bytesToString w A ys.length c ys hl;have e0:ByteArray.empty=bs []:=rfl;rw[this,e0,Ce];rfl
 simp[execOp,ex,convert,aH hu,aH hue,aH (yQ TT ht),hb]
theorem ac5(TT:gW P T)(h:bX X s E sy a w χ)(hw:bK all sy g=true)(ho:∀d,o=some d->d<X.n){t0 t:Nat}{x:Operand}(ht:cvtT (IQ T.bj t0&&isStr T.bj t) s o (ev s x) k)(kk:Nx X o s E a w χ k K):pJ P all.toArray Q ⟨o,.convert t0 t x,ty,pos,af,g⟩ K a w:=by
 unfold cvtT at ht;split at ht
 .rename_i j hx;split at ht
  .rename_i e0 l hj;obtain⟨hb,ht⟩:=dU ht;rw[ak]at hb;obtain⟨sv,g1,g2⟩:=bq h hx;obtain rfl:=TR.own (w:=w) (χ:=χ) g2 hj;obtain⟨news,hN⟩:=(h.own j _ hj).src;exact HK h hw ho (r:=.s (.str (ofBytes l))) (sv:=V (.string (bs (ofBytes l)))) ⟨_,rfl,rfl⟩ (WA TT.bj (h.st.cu g1) hb.1 hb.2 hN) ht kk
  .cases ht
 .cases ht
theorem abl(TT:gW P T)(h:bX X s E sy a w χ)(hw:bK all sy g=true)(ho:∀d,o=some d->d<X.n){op:BinOp}{t yt:Nat}{x y:Operand}(ht:nilT s (qT (aa T.bj t)) o op (ev s x) (ev s y) k)(kk:Nx X o s E a w χ k K):pJ P all.toArray Q ⟨o,.binOp op t x y yt,ty,pos,af,g⟩ K a w:=by
 have key:∀{c:TC} {l:List (den c)} {vy:RV},ev s x=some (.s (.sl c l))->ev s y=some vy->(GM vy&&qT (aa T.bj t))=true->∃a0 m cp e,a.eval x=.slice a0 m cp/\a.eval y=.slice none 0 0/\P.underlying t=some (.slice e)/\(a0.isNone=true->l=[]):=by
  intro c l vy hx hy hb;rw[ak]at hb;obtain⟨b1,b2,b3,b4,b5,hl⟩:=tJ hb.2;obtain⟨i,d,zv,hi,hd,hz,hs,lZ,lx,iA,_,_,_,Uf,_⟩:=a8 (TT.bj _ _ hl);obtain rfl:=Uf _ rfl;obtain⟨sv,g1,v,rfl,ad,cp,rfl,hR⟩:=bq h hx;obtain⟨su,g3,g4⟩:=bq h hy;have hb1:=hb.1;unfold GM at hb1;split at hb1
  .obtain⟨u,rfl,rfl,_⟩:=g4;refine⟨ad,_,cp,b5,h.st.cu g1,h.st.cu g3,hd,λhn=>?_⟩;cases ad with
   |none=>exact(hR.nil rfl).1
   |some _=>cases hn
  .cases hb1
 have hq:∀{a0:Option Addr} {m cp e:Nat},P.underlying t=some (.slice e)->(Op.equal t (.slice a0 m cp) (.slice none 0 0)).run P w=.ok a0.isNone w:=by intro a0 m cp e hu;unfold Op.equal Op.maxDepth;rw[show(10000:Nat)=9999+1 from rfl,Op.equalIn];cases a0<;>simp[aH hu,Result.andThen]
 unfold nilT at ht;split at ht
 .rename_i c l vy hx hy;obtain⟨hb,ht⟩:=dU ht;obtain⟨a0,m,cp,e,ex,ey,hu,hn⟩:=key hx hy hb;have hg:(eqGuard .eql t x y (.slice a0 m cp) (.slice none 0 0)).run P w=.ok () w:=by simp[eqGuard]
  exact HK h hw ho (r:=.s (.bool a0.isNone)) (sv:=B a0.isNone) ⟨_,rfl,rfl⟩ (by simp[execOp,ex,ey,binOp,hg,hq hu,Result.andThen,aP,bT]) (ht a0.isNone hn) kk
 .rename_i c l vy hx hy;obtain⟨hb,ht⟩:=dU ht;obtain⟨a0,m,cp,e,ex,ey,hu,hn⟩:=key hx hy hb;have hg:(eqGuard .neq t x y (.slice a0 m cp) (.slice none 0 0)).run P w=.ok () w:=by simp[eqGuard]
  exact HK h hw ho (r:=.s (.bool (!a0.isNone))) (sv:=B (!a0.isNone)) ⟨_,rfl,rfl⟩ (by simp[execOp,ex,ey,binOp,hg,hq hu,Result.andThen,aP,bT]) (ht a0.isNone hn) kk
 .cases ht
end
end
section
def UnB(s':TS)(id:Nat)(cs:List TV):Prop:=∀off,off<cs.length->2*(64*id+off)∉s'.ca
structure Kp (s s':TS) (E E':En) (w w':World) (χ χ':Nat->Nat):Prop where
 size:w.heap.size<=w'.heap.size
 box:∀id t cs,aa s.boxes id=some (t,cs)->UnB s' id cs->E'.ρ id=E.ρ id/\(E.ρ id<w.heap.size->w'.heap[E.ρ id]?=w.heap[E.ρ id]?/\χ' (E.ρ id)=χ (E.ρ id))
 map:∀k x,aa s.aZ k=some x->2*k+1∉s'.ca->(E'.μ k=E.μ k/\E'.m k=E.m k)/\∀b,b<w.heap.size->χ b=E.m k->w'.heap[b]?=w.heap[b]?/\χ' b=χ b
 own:∀k x,aa s.own k=some x->2*k+1∉s'.ca->(E'.σ k=E.σ k/\E'.κ k=E.κ k/\E'.c k=E.c k)/\∀b,b<w.heap.size->χ b=E.c k->w'.heap[b]?=w.heap[b]?/\χ' b=χ b
theorem Hu.kp{nb:Nat}{o:Option Nat}{s s':TS}{E E':En}{a a':Act}{w w':World}{χ χ':Nat->Nat}(A:Hu nb o s s' E E' a a' w w' χ χ'):Kp s s' E E' w w' χ χ' :=
 ⟨A.m0.size,λid t cs e hu=>⟨A.box id _ e hu,λhb=>A.keep _ hb (.inl ⟨id,t,cs,e,rfl,hu⟩)⟩,λk x e hu=>⟨A.map k x e hu,λb hb hc=>A.keep b hb (.inr (.inr ⟨k,x,e,hc,hu⟩))⟩,λk x e hu=>⟨A.own k x e hu,λb hb hc=>A.keep b hb (.inr (.inl ⟨k,x,e,hc,hu⟩))⟩⟩
theorem Kp.same{s s':TS}{E:En}{w w':World}{χ:Nat->Nat}(h:w'.heap=w.heap):Kp s s' E E w w' χ χ:=⟨by rw[h];exact aK _,λ_ _ _ _ _=>⟨rfl,λ_=>⟨by rw[h],rfl⟩⟩,λ_ _ _ _=>⟨⟨rfl,rfl⟩,λ_ _ _=>⟨by rw[h],rfl⟩⟩,λ_ _ _ _=>⟨⟨rfl,rfl,rfl⟩,λ_ _ _=>⟨by rw[h],rfl⟩⟩⟩
theorem Kp.trans{ds:List Nat}{s s1 s2:TS}{E E1 E2:En}{w w1 w2:World}{χ χ1 χ2:Nat->Nat}(h:Kp s s1 E E1 w w1 χ χ1)(F:Fr ds s s1)(tc:∀x∈s1.ca,x∈s2.ca)(k:Kp s1 s2 E1 E2 w1 w2 χ1 χ2):Kp s s2 E E2 w w2 χ χ2 :=
 ⟨bP h.size k.size,λid t cs e hu=>by
  obtain⟨g1,g2⟩:=h.box id t cs e λoff ho hm=>hu off ho (tc _ hm);obtain⟨Yu,f1,f2,_⟩:=F.boxes id t cs e;obtain⟨g3,g4⟩:=k.box id t Yu f1 λoff ho hm=>hu off (f2▸ho) hm;refine⟨g3.trans g1,λhb=>?_⟩;obtain⟨g5,g6⟩:=g2 hb;rw[g1]at g4;obtain⟨g7,g8⟩:=g4 (dH hb h.size);exact⟨g7.trans g5,g8.trans g6⟩,λq x e hu=>by
  have hu1:2*q+1∉s1.ca:=λhm=>hu (tc _ hm);obtain⟨⟨g1,g2⟩,g3⟩:=h.map q x e hu1;obtain⟨⟨g4,g5⟩,g6⟩:=k.map q x ((F.aZ q hu1).trans e) hu;refine⟨⟨g4.trans g1,g5.trans g2⟩,λb hb hc=>?_⟩;obtain⟨g7,g8⟩:=g3 b hb hc;obtain⟨g9,g10⟩:=g6 b (dH hb h.size) (by rw[g8,hc,g2]);exact⟨g9.trans g7,g10.trans g8⟩,λq x e hu=>by
  have hu1:2*q+1∉s1.ca:=λhm=>hu (tc _ hm);obtain⟨⟨g0,g1,g2⟩,g3⟩:=h.own q x e hu1;obtain⟨⟨g4,g5,g9⟩,g6⟩:=k.own q x ((F.own q hu1).trans e) hu;refine⟨⟨g4.trans g0,g5.trans g1,g9.trans g2⟩,λb hb hc=>?_⟩;obtain⟨g7,g8⟩:=g3 b hb hc;obtain⟨g9,g10⟩:=g6 b (dH hb h.size) (by rw[g8,hc,g2]);exact⟨g9.trans g7,g10.trans g8⟩⟩
def nY(P:Program)(T:Tb)(X:Cx):Prop:=∀{s:TS} {E:En} {sy:Sy} {a:Act} {w:World} {χ:Nat->Nat} {all:List Oper} {Q:Exit->Act->World->Prop} {K:Act->World->Prop} {k:TS->Prop} (o:Oper) (ce:Operand) (xs:Array Operand) (qo:Array TypeId),
 bX X s E sy a w χ->bK all sy o.guard=true->(∀d,o.dst=some d->d<X.n)->o.op=.call ⟨.value ce,xs,qo⟩->loudT T s o k->Nx X o.dst s E a w χ k K->pJ P all.toArray Q o K a w
section
variable{P:Program}{T:Tb}{w:World}{χ:Nat->Nat}{E:En}{s:TS}{X:Cx}{sy:Sy}{a:Act}
variable{all:List Oper}{Q:Exit->Act->World->Prop}{K:Act->World->Prop}{k:TS->Prop}
theorem sd{s:TS}{o:Option Nat}{e:Nat}{c:TC}{l:List (den c)}(h:newO s o e c l k):∃d,o=some d:=by
 cases o with
 |some d=>exact⟨d,rfl⟩
 |none=>cases h
theorem Il{s:TS}{o:Option Nat}{t:Nat}{nb:Nat}{l:List TV}(h:newB nb s o t l k):∃d,o=some d:=by
 cases o with
 |some d=>exact⟨d,rfl⟩
 |none=>cases h
theorem Aq{d n:Nat}(h:d<n):Nat.blt d n=true:=fq h
theorem Xp(TT:gW P T)(HC:nY P T X)(h:bX X s E sy a w χ)(hn:HX T X){o:Oper}(hw:bK all sy o.guard=true)(hd:∀d,o.dst=some d->d<X.n)(ht:loudT T s o k)(kk:Nx X o.dst s E a w χ k K):pJ P all.toArray Q o K a w:=by
 obtain⟨dst,op,ty,pos,af,g⟩:=o;have ht0:=ht;have hw:bK all sy g=true:=hw;have hd:∀d,dst=some d->d<X.n:=hd;have kk:Nx X dst s E a w χ k K:=kk;unfold loudT at ht;dsimp only at ht;split at ht
 .rename_i f xs qo;exact HC _ (.func f) xs qo h hw hd rfl ht0 kk
 .rename_i t xs qo;exact HC _ (.tmp t) xs qo h hw hd rfl ht0 kk
 .rename_i xs ts;split at ht
  .rename_i _ _ x y t t' Hr QN;obtain rfl:xs=#[x,y]:=by rw[←dI (xs:=xs),Hr]
   obtain rfl:ts=#[t,t']:=by rw[←dI (xs:=ts),QN]
   split at ht
   .rename_i e c vx vy he hx hy;obtain⟨hb,ht2⟩:=dU ht;have fp:∃d,dst=some d:=by
     have ZH:=ht2;unfold YP at ZH;split at ZH
     .exact sd ZH.2
     .split at ZH
      .exact sd ZH.2
      .cases ZH
    obtain⟨d,rfl⟩:=fp;obtain rfl:=aD hb;exact Qs TT h hw (Aq (hd d rfl)) he hx hy ht2 kk
   .cases ht
  .cases ht
 .exact ht.elim
 .exact abl TT h hw hd ht kk
 .exact LQ TT h hw hd ht kk
 .exact ac5 TT h hw hd ht kk
 .rename_i t m ps;split at ht
  .rename_i e c vs he hv;obtain⟨hb,ht⟩:=dU ht;have fp:∃d,dst=some d:=by
    unfold Xs at ht;split at ht
    .exact sd ht
    .cases ht
   obtain⟨d,rfl⟩:=fp;exact abB TT h hw (Aq (hd d rfl)) he hv hb (TT.en _ _ _ he) ht kk
  .cases ht
 .rename_i t x y;split at ht
  .rename_i he hx hy;split at ht
   .rename_i z hz;obtain⟨hb,ht⟩:=ht;obtain⟨d,rfl⟩:=sd ht;exact Xn TT h hw (Aq (hd d rfl)) he hx hy hz hb ht kk
   .cases ht
  .cases ht
 .rename_i t x;split at ht
  .rename_i v hx;obtain⟨d,rfl⟩:=Il ht;exact YJ h hw hn (Aq (hd d rfl)) hx ht kk
  .cases ht
 .rename_i t;split at ht
  .rename_i y hy;split at ht
   .rename_i l hl;obtain⟨d,rfl⟩:=Il ht;exact Vs TT h hw hn (Aq (hd d rfl)) hy hl ht kk
   .cases ht
  .cases ht
 .rename_i t x;split at ht
  .rename_i c q hc hx;have fp:∃d,dst=some d:=by
    cases dst with
    |some d=>exact⟨d,rfl⟩
    |none=>cases ht
   obtain⟨d,rfl⟩:=fp;exact Ty TT h hw (Aq (hd d rfl)) hc hx ht kk
  .cases ht
 .rename_i t x i v;have ht:=ht;cases dst with
  |none=>exact Xg TT h hw ht kk
  |some d=>cases ht
 .rename_i xs ts;split at ht
  .rename_i _ _ x i t t' Hr QN;obtain rfl:xs=#[x,i]:=by rw[←dI (xs:=xs),Hr]
   obtain rfl:ts=#[t,t']:=by rw[←dI (xs:=ts),QN]
   exact ac4 TT h hw hd ht kk
  .cases ht
 .rename_i t x y;cases dst with
  |some d=>cases ht
  |none =>
   have ht:storeT s (Oy T t) (ev s x) (ev s y) k:=ht;unfold storeT at ht;split at ht
   .rename_i hx hy;exact OA TT h hw hx hy ht kk
   .rename_i hx hy;exact OB TT h hw (by have:=hn.le;omega) hx hy ht kk
   .cases ht
 .cases ht
theorem CA(TT:gW P T)(HC:nY P T X)(h:bX X s E sy a w χ)(hn:HX T X){o:Oper}(hw:bK all sy o.guard=true)(hd:∀d,o.dst=some d->d<X.n)(ht:oneT T s o k)(kk:Nx X o.dst s E a w χ k K):pJ P all.toArray Q o K a w:=by
 unfold oneT at ht;split at ht
 .rename_i q hq;obtain⟨dst,op,ty,pos,af,g⟩:=o;exact OP TT h hw hd hq ht kk
 .exact Xp TT HC h hn hw hd ht kk
end
end
section
def rH(P:Program)(all:List Oper)(Q:Exit->Act->World->Prop)(S:World->Prop)(dr:Bool)(li:Array Bool)(l:List PO)(a:Act)(w:World):Prop:=match dr with
 |true=>Dr P all Q S li l.length a w
 |false=>wpList P all.toArray Q (l.map (·.2)) a w
def Sp(dr:Bool)(S:World->Prop)(w w1:World):Prop:=match dr with
 |true=>S w1
 |false=>w1=w
def Adm(dr:Bool)(all:List Oper)(li li':Array Bool)(i:Nat)(o:Oper):Prop:=dr=true->all[i]?=some o/\Region.noSelect all.toArray=true/\Region.free .any all.toArray li i=true/\(Region.ready .any all.toArray li).contains i=true/\li'=li.setIfInBounds i true
section
variable{P:Program}{T:Tb}{w:World}{χ:Nat->Nat}{E:En}{s:TS}{X:Cx}{sy:Sy}{a:Act}
variable{all:List Oper}{nrm ret:Act->World->Prop}{exs:List (Nat×(Act->World->Prop))}{S:World->Prop}{dr:Bool}{li li':Array Bool}
theorem uP{i:Nat}{o:Oper}{l:List PO}{v:Value}(hy:YieldsIf P all.toArray (Sp dr S w) o v a)(hS:dr=true->S w)(adm:Adm dr all li li' i o)(k:rH P all (Sv.qs nrm ret exs) S dr li' l (a.put o.dst v) w):rH P all (Sv.qs nrm ret exs) S dr li ((i,o)::l) a w:=by
 cases dr with
 |true=>obtain⟨h1,h2,h3,h4,rfl⟩:=adm rfl;exact wpAnyH_take (v:=v) (oi:=o) (by simp[h1]) h2 h3 h4 (λc a w hq=>hq.elim) hy (hS rfl) k
 |false =>
  rcases hy with⟨hw,hr⟩|⟨hw,rfl⟩
  .refine re hw ?_;unfold Oper.wp;rw[hr w rfl];exact k
  .exact wpList_skip hw k
theorem RQ{i:Nat}{o:Oper}{l:List PO}(hr:dr=true->Region.ready .any all.toArray li=[i]/\all[i]?=some o)(k:pJ P all.toArray (Sv.qs nrm ret exs) o (λa' w'=>(dr=true->S w')/\rH P all (Sv.qs nrm ret exs) S dr (li.setIfInBounds i true) l a' w') a w):rH P all (Sv.qs nrm ret exs) S dr li ((i,o)::l) a w:=by
 cases dr with
 |true =>
  obtain⟨h1,h2⟩:=hr rfl;refine Sv.only i h1 h2 ?_;unfold pJ at k ⊢; split
  .rename_i hw;rw[if_pos hw]at k;exact k.imp (Oper.wp_mono λa w h=>⟨h.1 rfl,h.2⟩) id
  .rename_i hw;rw[if_neg hw]at k;exact⟨k.1 rfl,k.2⟩
 |false =>
  refine A6 ?_;unfold pJ at k ⊢; split
  .rename_i hw;rw[if_pos hw]at k;exact k.imp (Oper.wp_mono λa w h=>h.2) id
  .rename_i hw;rw[if_neg hw]at k;exact k.2
theorem zR{β:Type}(f:Nat->β):∀{ks:List Nat} {t:Nat} {y:β},aa (ks.map (λt=>(t,f t))) t=some y->t∈ks/\y=f t
 |k::ks,t,y,e=>by
  rcases aA e with⟨h1,h2⟩|⟨_,h2⟩
  .grind
  .exact⟨aw _ (zR f h2).1,(zR f h2).2⟩
theorem E4{β:Type}(f:Nat->β):∀{ks:List Nat} {t:Nat},t∈ks->aa (ks.map (λt=>(t,f t))) t=some (f t)
 |k::ks,t,h=>by
  by_cases hk:k=t
  .grind[look_eq]
  .exact(bd hk).trans (E4 f ((aE.1 h).resolve_left (bC hk)))
theorem bX.uh(h:bX X s E sy a w χ){s':TS}{a':Act}(e1:s'.boxes=s.boxes)(e2:s'.own=s.own)(e3:s'.aZ=s.aZ)(hs:a'.tmps.size=X.n)(hd:a'.defers=[])
  (hr:∀t x,aa s'.al t=some x->(aa s.al t=some x/\a'.tmps[t]?=a.tmps[t]?)∨∃sv,fO w χ E s x sv/\a'.tmps[t]?=some (aP E.ρ sv)):∃sy',bX X s' E sy' a' w χ:=by
 have key:∀t x,aa s'.al t=some x->∃sv,fO w χ E s x sv/\a'.tmps[t]?=some (aP E.ρ sv):=λt x e=>by
  rcases hr t x e with⟨h1,h2⟩|h1
  .obtain⟨sv,h3,h4⟩:=h.al t x h1;exact⟨sv,h4,h2.trans (h.st.al t sv h3)⟩
  omega
 have ex:∀t,∃sv,∀x,aa s'.al t=some x->fO w χ E s x sv/\a'.tmps[t]?=some (aP E.ρ sv):=λt=>by
  cases e:aa s'.al t with
  |none=>exact⟨V undef,λx h=>by cases h⟩
  |some x=>simp_all
 let f:=λt=>Classical.choose (ex t)
 have hf:∀t x,aa s'.al t=some x->fO w χ E s x (f t)/\a'.tmps[t]?=some (aP E.ρ (f t)):=λt=>Classical.choose_spec (ex t);have nm:∀y,Nm E E s s' y:=λy=>jc e2 e3 rfl rfl rfl;refine⟨⟨(s'.al.map (·.1)).map (λt=>(t,f t)),sy.boxes⟩,⟨⟨hs,hd,λt sv e=>?_,h.st.boxes⟩,λt x e=>⟨f t,E4 f (wi e),(hf t x e).1.tr (M0.refl w χ) λy _=>nm y⟩,λid t cs e=>?_,λk x e=>h.own k x (e2▸e),λk x e=>h.aZ k x (e3▸e),⟨λk x e=>h.aQ.o k x (e2▸e),λk x e=>h.aQ.m k x (e3▸e),λk x j y e e'=>h.aQ.oo k x j y (e2▸e) (e2▸e'),λk x j y e e'=>h.aQ.om k x j y (e2▸e) (e3▸e'),λk x j y e e'=>h.aQ.mm k x j y (e3▸e) (e3▸e')⟩,h.lS,h.qu⟩⟩
 .obtain⟨h1,rfl⟩:=zR f e;obtain⟨x,hx⟩:=nu h1;grind
 .obtain⟨ss,h1,h2⟩:=h.boxes id t cs (e1▸e);exact⟨ss,h1,DN (λy _ sv k=>TR.tr (M0.refl w χ) (nm y) k) h2⟩
theorem aa7{a:Act}{o:Option Nat}{v:Value}{t:Nat}(h:o≠some t):(a.put o v).tmps[t]?=a.tmps[t]?:=by
 cases o with
 |none=>rfl
 |some d=>grind[only,Act.put,Array.getElem?_setIfInBounds_ne]
theorem Av{i:Nat}{o:Oper}{l:List PO}(h:jr dr all li ((i,o)::l)=some li'):∃l1,jr dr all li [(i,o)]=some l1/\jr dr all l1 l=some li':=by
 unfold jr at h;cases dr with
 |true =>
  cases hb:Region.free .any all.toArray li i&&(Region.ready .any all.toArray li).contains i with
  |false=>rw[hb]at h;cases h
  |true=>rw[hb]at h;exact⟨_,by unfold jr;simp only[cG,hb];rfl,h⟩
 |false=>exact⟨li,rfl,h⟩
theorem BK:∀{l q:List PO} {li li':Array Bool},jr dr all li (l++q)=some li'->∃l1,jr dr all li l=some l1/\jr dr all l1 q=some li'
 |[],q,li,li',h=>⟨li,rfl,h⟩
 |(i,o)::l,q,li,li',h=>by
  obtain⟨l1,h1,h2⟩:=Av h;obtain⟨l2,h3,h4⟩:=BK h2;refine⟨l2,?_,h4⟩;cases dr with
  |true=>unfold jr at h1 ⊢; obtain⟨hb,h1⟩:=dw (show(bif Region.free .any all.toArray li i&&(Region.ready .any all.toArray li).contains i then some (li.setIfInBounds i true)else none)=some l1 from h1);grind
  |false=>have:li=l1:=Option.some.inj h1;subst this;exact h3
theorem BL{i:Nat}{o:Oper}(h:jr dr all li [(i,o)]=some li')(hat:dr=true->Region.noSelect all.toArray=true/\all[i]?=some o):Adm dr all li li' i o:=by
 rintro rfl;obtain⟨hb,h⟩:=dw (show(bif Region.free .any all.toArray li i&&(Region.ready .any all.toArray li).contains i then some (li.setIfInBounds i true)else none)=some li' from h);grind
theorem vT{tc:Nat}:∀{l x y:List PO} {p:PO},zu tc l=some (x,p,y)->l=x++p::y
 |[],_,_,_,h=>by cases h
 |o::l,x,y,p,h=>by
  unfold zu at h;split at h
  .rename_i c _ _ _;cases hb:Nat.beq c tc with
   |true=>rw[hb]at h;cases h;rfl
   |false =>
    rw[hb]at h;split at h
    .rename_i h1;cases h;rw[vT h1];rfl
    grind
  .split at h
   .rename_i h1;cases h;rw[vT h1];rfl
   grind
theorem tV(o:PO)(l:List PO):dstsP (o::l)=dl o.2.dst++dstsP l:=by
 cases h:o.2.dst<;>simp only[dstsP,h,dl]<;>rfl
theorem wv:∀{l q:List PO},dstsP (l++q)=dstsP l++dstsP q
 |[],_=>rfl
 |o::l,q=>by rw[jK,tV,tV,wv,bV]
theorem BG(h:bX X s E sy a w χ){o:Oper}{j tc:Nat}{want b:Bool}{x:TV}(hg:o.guard=some (j,want))(ht:oT all j=some tc)(hl:aa s.al tc=some (.s x))(hb:ic x=some b):Region.wanted o (yielded all.toArray a.tmps)=(b==want):=by
 obtain⟨sv,h1,h2⟩:=h.al _ _ hl;obtain rfl:=fO.ic hb h2;exact qz h.st hg ht h1
theorem HA(h:bX X s E sy a w χ){o:Oper}{j tc:Nat}{want:Bool}{l:List RV}(hg:o.guard=some (j,want))(ht:oT all j=some tc)(hl:aa s.al tc=some (.t l)):Region.wanted o (yielded all.toArray a.tmps)=false:=by
 obtain⟨sv,h1,vs,rfl,_⟩:=h.al _ _ hl;exact oU h.st hg ht h1
theorem Oi(h:bX X s E sy a w χ){o:Oper}{j tc:Nat}{want b:Bool}{x:TV}(hg:o.guard=some (j,want))(ht:oT all j=some tc)(hl:aa s.al tc=some (.s x))(hb:ic x=some b)(hw:(b==want)=true):bK all sy o.guard=true:=by
 obtain⟨sv,h1,h2⟩:=h.al _ _ hl;obtain rfl:=fO.ic hb h2;unfold bK;grind
theorem Sx(TT:gW P T)(h:bX X s E sy a w χ){o:Oper}(hd:∀d,o.dst=some d->d<X.n){r:TS}(e:Cf T s o=some r):∃v sy',(∀w1,zh s E χ w w1->(execOp a.eval o).run P w1=.ok (.value v) w1)/\bX X r E sy' (a.put o.dst v) w χ:=by
 unfold Cf at e;split at e
 .rename_i v hv;cases e;unfold EB at hv;split at hv
  .rename_i u hq;cases hv;obtain⟨⟨sv,h1,h2⟩,_⟩:=uU TT h hq (λz hz=>by cases hz);obtain⟨sy',h3⟩:=OT h hd h1;obtain⟨dst,op,ty,pos,af,g⟩:=o;grind
  grind
 grind
theorem Ww(h:bX X s E sy a w χ){o:Oper}(hd:∀d,o.dst=some d->d<X.n):∃sy',bX X (pO s o) E sy' (a.put o.dst undef) w χ:=OT (sv:=V undef) h hd ⟨[],rfl,trivial⟩
theorem yn(h:bX X s E sy a w χ){tc:Nat}{b:Bool}(hl:a.tmps[tc]?=some (.bool b)):∃sy',bX X (pP s tc b) E sy' a w χ:=h.uh (s':=pP s tc b) rfl rfl rfl h.st.size h.st.defers λt x e=>by
 rcases aA e with⟨h1,h2⟩|⟨h1,h2⟩
 .subst h1 h2;exact .inr ⟨B b,⟨_,rfl,rfl⟩,hl⟩
 grind
theorem DB{o:Option RV}{b:Bool}(h:AU o=some b):∃x,o=some (.s x)/\ic x=some b:=by
 unfold AU at h;grind
theorem F7(h:bX X s E sy a w χ){t:Nat}{x:TV}{b:Bool}(hl:aa s.al t=some (.s x))(hb:ic x=some b):a.tmps[t]?=some (.bool b):=by
 obtain⟨sv,h1,h2⟩:=h.al _ _ hl;obtain rfl:=fO.ic hb h2;exact h.st.al _ _ h1
theorem GL(h:bX X s E sy a w χ){a':Act}{ds:List Nat}{d:Nat}{b:Bool}(hs:a'.tmps.size=X.n)(hd:a'.defers=[])(hf:∀t,t∉ds->t≠d->a'.tmps[t]?=a.tmps[t]?)(hb:a'.tmps[d]?=some (.bool b)):∃sy',bX X (yP s ds d b) E sy' a' w χ:=h.uh (s':=yP s ds d b) rfl rfl rfl hs hd λt x e=>by
 rcases aA e with⟨h1,h2⟩|⟨h1,h2⟩
 .subst h1 h2;exact .inr ⟨B b,⟨_,rfl,rfl⟩,hb⟩
 .obtain⟨h3,h4⟩:=bg (f:=λi=>!ds.any (Nat.beq i)) h2;exact .inl ⟨h4,hf t (bl.1 (by simpa using h3)) (bC h1)⟩
theorem rT(TT:gW P T):∀(f:Nat)(l:List PO) {rest:List PO} {sb r:TS} {Eb:En} {syb:Sy} {wb:World} {χb:Nat->Nat} {a:Act} {li li':Array Bool},pureL T all f l sb=some r->bX X sb Eb syb a wb χb->(∀w1,Sp dr S w w1->zh sb Eb χb wb w1)->(dr=true->S w)->jr dr all li l=some li'->(dr=true->Region.noSelect all.toArray=true/\∀q∈l,all[q.1]?=some q.2)->(∀q∈l,∀d,q.2.dst=some d->d<X.n) ->
  (∀Oz a',bX X r Eb Oz a' wb χb->(∀t,t∉dstsP l->a'.tmps[t]?=a.tmps[t]?)->rH P all (Sv.qs nrm ret exs) S dr li' rest a' w)->rH P all (Sv.qs nrm ret exs) S dr li (l++rest) a w
 |0,_,_,_,_,_,_,_,_,_,_,_,e,_,_,_,_,_,_,_=>by cases e
 |f+1,[],_,sb,r,Eb,syb,wb,χb,a,li,li',e,h,_,_,tk,_,_,k=>by cases e;cases(show some li=some li' from tk);exact k syb a h λ_ _=>rfl
 |f+1,(i,o)::l,rest,sb,r,Eb,syb,wb,χb,a,li,li',e,h,hSp,hS,tk,hat,hds,k=>by
  have hd:=hds (i,o) aI;have X3:dr=true->Region.noSelect all.toArray=true/\all[i]?=some o:=λxY=>⟨(hat xY).1,(hat xY).2 (i,o) aI⟩
  have Uy:dr=true->Region.noSelect all.toArray=true/\∀q∈l,all[q.1]?=some q.2:=λxY=>⟨(hat xY).1,λq hq=>(hat xY).2 q (aw _ hq)⟩
  have Ux:∀q∈l,∀d,q.2.dst=some d->d<X.n:=λq hq=>hds q (aw _ hq);obtain⟨l1,t1,t2⟩:=Av tk;have adm:=BL t1 X3;have My:∀{s1:TS},s1.boxes=sb.boxes->s1.own=sb.own->s1.aZ=sb.aZ->∀w1,Sp dr S w w1->zh s1 Eb χb wb w1:=λe1 e2 e3 w1 hw b hb hk=>hSp w1 hw b hb (by unfold Kn at hk ⊢; rw[e1,e2,e3]at hk;exact hk);have pb:∀v,(put sb o.dst v).boxes=sb.boxes/\(put sb o.dst v).own=sb.own/\(put sb o.dst v).aZ=sb.aZ:=λv=>by cases o.dst<;>exact⟨rfl,rfl,rfl⟩
  have frame:∀{v:Value} {a':Act},(∀t,t∉dstsP l->a'.tmps[t]?=(a.put o.dst v).tmps[t]?)->∀t,t∉dstsP ((i,o)::l)->a'.tmps[t]?=a.tmps[t]?:=by
   intro v a' hf t ht;unfold dstsP at ht;have:t∉dstsP l/\o.dst≠some t:=by
    cases fp:o.dst with
    |none=>simp only[fp]at ht;exact⟨ht,by simp⟩
    |some d=>simp only[fp]at ht;exact⟨λe=>ht (aw _ e),λe=>ht (by cases e;exact aI)⟩
   rw[hf t this.1,aa7 this.2]
  have goV:∀{r1:TS},Region.wanted o (yielded all.toArray a.tmps)=true->Cf T sb o=some r1->pureL T all f l r1=some r->rH P all (Sv.qs nrm ret exs) S dr li ((i,o)::l++rest) a w:=by
   intro r1 hw e1 e2;obtain⟨v,sy',h1,h2⟩:=Sx TT h hd e1;have hr1:r1.boxes=sb.boxes/\r1.own=sb.own/\r1.aZ=sb.aZ:=by
    unfold Cf at e1;split at e1
    .cases e1;exact pb _
    .cases e1
   refine uP (.inl ⟨hw,λw1 hs=>h1 w1 (hSp w1 hs)⟩) hS adm ?_;exact rT TT f l e2 h2 (My hr1.1 hr1.2.1 hr1.2.2) hS t2 Uy Ux λaaC a' h3 hf=>k aaC a' h3 (frame hf)
  have goS:Region.wanted o (yielded all.toArray a.tmps)=false->pureL T all f l (pO sb o)=some r->rH P all (Sv.qs nrm ret exs) S dr li ((i,o)::l++rest) a w:=by intro hw e2;obtain⟨sy',h2⟩:=Ww h hd;refine uP (.inr ⟨hw,rfl⟩) hS adm ?_;exact rT TT f l e2 h2 (My (pb _).1 (pb _).2.1 (pb _).2.2) hS t2 Uy Ux λaaC a' h3 hf=>k aaC a' h3 (frame hf)
  unfold pureL at e;split at e
  .rename_i hg;split at e
   .rename_i r1 hr;exact goV (by have hg:o.guard=none:=hg;simp[Region.wanted,hg]) hr e
   .cases e
  .rename_i j want hg;split at e
   .rename_i tc ht;split at e
    .rename_i hl;exact goS (HA h hg ht hl) e
    .rename_i b hl;have hw:=BG h hg ht hl (b:=b) rfl;cases hb:(b==want)with
     |true =>
      rw[hb]at e hw;simp only[cG]at e;split at e
      .rename_i r1 hr;exact goV hw hr e
      .cases e
     |false=>rw[hb]at e hw;exact goS hw e
    .rename_i b hl;have hw:=BG h hg ht hl (b:=b) rfl;cases hb:(b==want)with
     |true =>
      rw[hb]at e hw;simp only[cG]at e;split at e
      .rename_i r1 hr;exact goV hw hr e
      .cases e
     |false=>rw[hb]at e hw;exact goS hw e
    .rename_i b hl;have htb:=F7 h hl (b:=b) rfl;split at e
     .rename_i m9 pk after QO;split at e
      .rename_i d sT sF hpd hT hF;split at e
       .rename_i cT cF hcT hcF;have heq:=vT QO;have acs:(i,o)::l=(m9++[pk])++after:=by rw[heq,bV];rfl
        rw[acs]at tk hds hat k ⊢; obtain⟨l2,u1,u2⟩:=BK tk;obtain⟨syl,IX⟩:=yn h htb;have hin:∀q∈m9++[pk],q∈(m9++[pk])++after:=λq hq=>aN _ hq;have agz:∀q∈after,q∈(m9++[pk])++after:=λq hq=>aG _ hq;have hdp:dstsP (m9++[pk])=dstsP m9++[d]:=by rw[wv];congr 1;unfold dstsP;rw[hpd];rfl
        have main:∀{s1:TS} {c:Bool},pureL T all f (m9++[pk]) (pP sb tc b)=some s1->AU (aa s1.al d)=some c->pureL T all f after (yP sb (dstsP m9) d c)=some r->rH P all (Sv.qs nrm ret exs) S dr li (m9++[pk]++after++rest) a w:=by
         intro s1 c e1 ec e2;rw[bV];refine rT TT f (m9++[pk]) e1 IX (My rfl rfl rfl) hS u1 (λxY=>⟨(hat xY).1,λq hq=>(hat xY).2 q (hin q hq)⟩) (λq hq=>hds q (hin q hq)) λHq a2 h2 hf2=>?_;obtain⟨x,hx,hxb⟩:=DB ec;obtain⟨sy3,h3⟩:=GL h (ds:=dstsP m9) (d:=d) (b:=c) h2.st.size h2.st.defers (λt ht hne=>hf2 t (by rw[hdp];intro hm;rcases aV.1 hm with e|e;exact ht e;exact hne (aY.1 e))) (F7 h2 hx hxb);exact rT TT f after e2 h3 (My rfl rfl rfl) hS u2 (λxY=>⟨(hat xY).1,λq hq=>(hat xY).2 q (agz q hq)⟩) (λq hq=>hds q (agz q hq)) λsy4 a4 h4 hf4=>k sy4 a4 h4 λt ht=>by rw[wv]at ht;rw[hf4 t λe=>ht (aG _ e),hf2 t λe=>ht (aN _ e)]
        cases b with
        |true=>exact main hT hcT e
        |false=>exact main hF hcF e
       .cases e
      .cases e
     .cases e
    .cases e
   .cases e
end
end
end Go.Te
