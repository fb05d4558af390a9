/- Lemmas. Conditions: their own. -/
import Derived.Test.YtmgahplojkmcaaaGreatExG
set_option linter.all false
namespace Go.Ex
open Go Go.Sv
section
section
variable{P:Program}{tt:Tr sX}{mt:Tr (Nat×Nat×Value)}{tb:oQ}{ka:Nat->Nat->Bool}
variable{M:Mp}{a:Act}{w:World}{o:Oper}{av:AV}{vs:List AV}{h:Tr Bk}
def oJ(M:Mp)(k:Nat)(en:En):Mp:=λi=>if i=k then some en else M i
theorem js{k:Nat}{en:En}(h:M k=none):Le M (oJ M k en):=λi e hi=>by
 unfold oJ;split
 .rename_i q;subst q;rw[h]at hi;cases hi
 .exact hi
theorem fk(M:Mp)(k:Nat)(en:En):oJ M k en k=some en:=by simp[oJ]
theorem dN(M:Mp){k i:Nat}(en:En)(h:i≠k):oJ M k en i=M i:=by simp[oJ,h]
def Mk(P:Program)(M:Mp)(a:Act)(w:World)(o:Oper)(f:Nat->S)(b:Bk)(k:Nat):Prop:=∃v en w',(execOp a.eval o).run P w=.ok (.value v) w' /\
 ((w'=w/\en.wQ=none)∨∃ob,w'=w.alloc ob/\en.wQ=some w.heap.size)/\VS (oJ M k en) (f k) v/\BR (oJ M k en) w' en b
theorem Mk.cells{t k:Nat}{f:Nat->S}{l:List S}{arr:Array Value}{v:Value}(hM:M k=none)(run:(execOp a.eval o).run P w=.ok (.value v) (w.alloc (.cells arr t)))
  (hl:VL M l arr.toList) (hv:VS (oJ M k (.b w.heap.size 0 arr.size)) (f k) v):Mk P M a w o f (.c l) k:=by
 refine⟨v,.b w.heap.size 0 arr.size,_,run,.inr ⟨_,rfl,rfl⟩,hv,arr,t,heap_alloc_new w _,by simp,by have:=hl.len;simp at this;omega,?_⟩;have hlen:=hl.len;rw[nL,hlen,gT];exact hl.mono λ_ _=>VS.mono (js hM)
theorem Pc(T:ud P tt mt tb ka){t k:Nat}{f:Nat->S}{b:Bk}(hM:M k=none)(e:nAlloc tt t=some (f,b))(ho:o.op=.alloc t):Mk P M a w o f b k:=by
 unfold nAlloc at e;split at e
 .rename_i ty ht;cases e;obtain⟨i,d,z,hi,hd,hz,hs,lZ,lx,_⟩:=a8 (T.t _ _ ht);refine Mk.cells (t:=t) (arr:=z.cells) (v:=.pointer (some ⟨w.heap.size,0,none⟩)) hM ?_ (by rw[lx];exact Bh _) ⟨w.heap.size,0,z.cells.size,fk _ _ _,rfl⟩;simp[execOp,ho,Instr.alloc,zeroValue,typeInfo,hi,hz,newVar,newRow]
 .cases e
theorem Xe{t k:Nat}{x:Operand}{f:Nat->S}{b:Bk}(hM:M k=none)(e:nBox vs=some (f,b))(ho:o.op=.box t x)(hv:OR M a [x] vs):Mk P M a w o f b k:=by
 unfold nBox at e;split at e
 .split at e
  .rename_i l hl;cases e;refine Mk.cells (t:=t) (arr:=(a.eval x).cells) (v:=.pointer (some ⟨w.heap.size,0,none⟩)) hM ?_ (xQ hl hv.one) ⟨w.heap.size,0,_,fk _ _ _,rfl⟩;simp[execOp,ho,Instr.box,newVar,newRow]
  .cases e
 .cases e
theorem Hx(T:ud P tt mt tb ka){t n m xS:Nat}{l:List S}(e:Md tt t n=some (m,xS,l)):∃el i z,P.underlying t=some (.slice el)/\P.info? el=some i/\i.zero=some z/\i.size=m/\i.bytes=xS/\VL M l (madeCells z.cells (n*m)).toList:=by
 unfold Md at e;split at e
 .rename_i el ll;split at e
  .rename_i ty ht;replace e:=gP e;obtain⟨hc,e⟩:=e;have hc:=aB hc;cases e;obtain⟨i,d,z,hi,hd,hz,hs,lZ,lx,_⟩:=a8 (T.t _ _ ht);refine⟨el,i,z,l9 T ll,hi,hz,hs,lZ,?_⟩;have:(madeCells z.cells (n*ty.size)).toList=(List.range (n*ty.size)).map (λi=>ty.zero.getD (i%ty.zero.length) undef):=by
    apply mM;intro j;have jh:z.cells.size=ty.zero.length:=by rw[←lx,cm]
    by_cases hj:j<n*ty.size
    .have eB:j%ty.zero.length<z.cells.size:=by rw[jh];exact Nat.mod_lt _ (by omega)
     have XQ:j%ty.zero.length<ty.zero.length:=by omega
     have key:∀(zz:Array Value)(i:Nat),i<zz.size->zz[i]! = zz.toList.getD i undef:=by intro zz i h;rw[getElem!_pos zz i h,wC,iD,sK h];rfl
     have e1:=key z.cells _ eB;rw[lx]at e1;rw[←jh]at e1;rw[iD,List.getElem?_map,List.getElem?_range hj];simp only[madeCells,Array.getElem?_map,Array.getElem?_range,hj,if_true,Option.map_some,jh];rw[←jh];exact b8 some e1
    .have h1:n*ty.size<=j:=by omega
     simp[madeCells,h1]
   rw[this];exact Bh _
  .cases e
 .cases e
theorem Lj(T:ud P tt mt tb ka){t len k:Nat}{ps:Array (Nat×Operand)}{f:Nat->S}{b:Bk}(hM:M k=none)(e:nBuildS tt t len ps vs=some (f,b))(ho:o.op=.buildSlice t len ps)(hv:OR M a (ps.toList.map (·.2)) vs):Mk P M a w o f b k:=by
 unfold nBuildS at e;split at e
 .rename_i m xS z0 q QK hq;split at e
  .rename_i cs sU;split at e
   .rename_i r hr;replace e:=gP e;obtain⟨hc,e⟩:=e;rw[ak]at hc;have hb:=aB hc.1;cases e;obtain⟨el,i,z,hu,hi,hz,hs,lZ,ZE⟩:=Hx (M:=M) T QK;obtain⟨rv,k1,k2⟩:=y7 _ _ _ _ _ _ (Am sU (xV hq hv)) ZE hr;have qV:=lW _ _ _ _ k1;rw[dI]at qV;have hrl:=k2.len;refine Mk.cells (t:=el) (arr:=rv.toArray) (v:=.slice (some ⟨w.heap.size,0,none⟩) len len) hM ?_ (by simpa using k2) ?_
    .have hnb:¬(len*m>2^24):=by omega
     have Ur:(Instr.buildSlice t len (ps.map λ(i,x)=>(i,a.eval x))).run P w=.ok (.slice (some ⟨w.heap.size,0,none⟩) len len) (w.alloc (.cells rv.toArray el)):=by
      by_cases h0:len*m=0
      .have hmc:∀(zz:Array Value),(Array.range (len*m)).map (zz[· % zz.size]!)=madeCells z.cells (len*m):=λzz=>by rw[h0];simp[madeCells]
       simp only[Instr.buildSlice,bU,aH hu,bW,Sv.run_sizeOf hi,hs,vY,if_neg hnb,if_pos h0,cM,hmc,qV];rfl
      .have hmc:(Array.range (len*m)).map (z.cells[· % z.cells.size]!)=madeCells z.cells (len*m):=rfl;simp only[Instr.buildSlice,bU,aH hu,bW,Sv.run_sizeOf hi,hs,vY,if_neg hnb,if_neg h0,cM,zeroValue,typeInfo,run_program,hi,hz,hmc,qV];rfl
     simp only[execOp,ho,bU,Ur,bW,cM]
    .have hfl:∀(ps:List (Nat×Value)) (cs r:List Value),qY (λi=>some (i*m,m)) ps cs=some r->r.length=cs.length:=by
      intro ps
      induction ps with
      |nil=>intro cs r e;cases e;rfl
      |cons p ps ih=>intro cs r e;obtain⟨i,v⟩:=p;simp only[qY]at e;replace e:=gP e;obtain⟨hc,e⟩:=e;rw[ak]at hc;have h1:=aD hc.1;have h2:=aB hc.2;rw[ih _ _ e];simp[h1];omega
     have:=hfl _ _ _ k1;refine⟨w.heap.size,0,_,len,⟨w.heap.size,0,none⟩,fk _ _ _,rfl,aK _,.inl ⟨rfl,?_⟩⟩;simp[this,size_madeCells]
   .cases e
  .cases e
 .cases e
theorem FL.split{α β γ:Type}{R:α->γ->Prop}{g:β->γ}{x y:List β}{q:List α}(h:FL (λv b=>R v (g b)) q (x++y)):FL R (q.take x.length) (x.map g)/\FL R (q.drop x.length) (y.map g):=by
 have conv:∀{q:List α} {l:List β},FL (λv b=>R v (g b)) q l->FL R q (l.map g):=by
  intro q
  induction q with
  |nil=>intro l h;cases l with
   |nil=>trivial
   |cons _ _=>exact h.elim
  |cons a q ih=>intro l h;cases l with
   |nil=>exact h.elim
   |cons b l=>exact⟨h.1,ih h.2⟩
 have h1:=h.take x.length;have h2:=h.drop x.length;rw[List.take_left]at h1;rw[List.drop_left]at h2;exact⟨conv h1,conv h2⟩
theorem Tp{fn:Fn}{k:Nat}{p q:Array Operand}{f:Nat->S}{b:Bk}(hM:M k=none)(e:nFunc fn p.size vs=some (f,b))(ho:o.op=.makeFunc fn p q)(hv:OR M a (p.toList++q.toList) vs):Mk P M a w o f b k:=by
 unfold nFunc at e;split at e
 .rename_i g us hus;cases e;have:=(xV hus hv).split (R:=VV M) (g:=a.eval);rw[cm]at this;refine⟨.func (.func g) (p.map a.eval) (q.map a.eval),.f (.func (.func g) (p.map a.eval) (q.map a.eval)),w,?_,.inl ⟨rfl,rfl⟩,⟨fk _ _ _,_,_,_,rfl⟩,p.toList.map a.eval,q.toList.map a.eval,by simp[←Array.toList_map],?_,?_⟩
  .simp[execOp,ho,Instr.makeFunc]
  .exact this.1.mono λ_ _=>VV.mono (js hM)
  .exact this.2.mono λ_ _=>VV.mono (js hM)
 .cases e
theorem Xd(T:ud P tt mt tb ka){t k:Nat}{r:Option Operand}{f:Nat->S}{b:Bk}(hM:M k=none)(e:nMap mt t vs=some (f,b))(ho:o.op=.makeMap t r)(hv:OR M a r.toList vs):Mk P M a w o f b k:=by
 have fin:(execOp a.eval o).run P w=.ok (.value (.map (some w.heap.size))) (w.alloc (.map #[] 0))->Mk P M a w o (λk=>.m k) (.m [] 0) k:=λrun =>
  ⟨_,.m w.heap.size,_,run,.inr ⟨_,rfl,rfl⟩,⟨w.heap.size,fk _ _ _,rfl⟩,#[],heap_alloc_new w _,trivial⟩
 unfold nMap at e;split at e
 .cases e;cases r with
  |some _=>exact hv.elim
  |none=>exact fin (by simp[execOp,ho,Instr.makeMap])
 .rename_i kk n;split at e
  .rename_i q hm;cases e;obtain⟨hu,_⟩:=T.m _ q.1 q.2.1 q.2.2 hm;cases r with
   |none=>exact hv.elim
   |some y=>have hy:a.eval y=.int kk n:=hv.1;exact fin (by simp[execOp,ho,Instr.makeMap,hy,aH hu,asInt];rfl)
  .cases e
 .cases e
theorem To(T:ud P tt mt tb ka){t k:Nat}{x y:Operand}{f:Nat->S}{b:Bk}(hM:M k=none)(e:nMake tt t vs=some (f,b))(ho:o.op=.makeSlice t x y)(hv:OR M a [x,y] vs):Mk P M a w o f b k:=by
 unfold nMake at e;split at e
 .obtain⟨hx,hy⟩:=hv.two;split at e
  .rename_i n c hn hc;obtain⟨kl,hx⟩:=qf hn hx;obtain⟨kc,hy⟩:=qf hc hy;replace e:=gP e;obtain⟨Jd,e⟩:=e;rw[ak]at Jd;have:=aD Jd.1;subst this;have hk:=aB Jd.2;split at e
   .rename_i m xS z0 QK;replace e:=gP e;obtain⟨LB,e⟩:=e;rw[ak]at LB;have asa:=aB LB.1;cases e;obtain⟨el,i,z,hu,hi,hz,hs,lZ,ZE⟩:=Hx (M:=M) T QK;have hb:(i.bytes:Int)*(n:Int)<=281474976710656:=by have:i.bytes*n<=1000*1000:=gn (by omega) hk;rw[←Int.natCast_mul];exact Int.le_trans (Int.ofNat_le.mpr this) (by decide)
    have h63:(Int.ofNat n)<=9223372036854775807:=Int.le_trans (Int.ofNat_le.mpr hk) (by decide);have hr:=run_make (P:=P) w t el i z hu hi hz kl kc (.ofNat n) (.ofNat n) (Int.natCast_nonneg n) (eu _) hb h63;refine Mk.cells (t:=el) (arr:=madeCells z.cells (n*m)) (v:=.slice (some ⟨w.heap.size,0,none⟩) n n) hM ?_ ZE ?_
    .rw[hs]at hr;simp only[Int.ofNat_eq_natCast,Int.toNat_natCast]at hr hx hy;simp[execOp,ho,hx,hy,hr]
    .exact⟨w.heap.size,0,_,n,⟨w.heap.size,0,none⟩,fk _ _ _,rfl,aK _,.inl ⟨rfl,by rw[size_madeCells,bh];exact aK _⟩⟩
   .cases e
  .cases e
 .cases e
theorem Tm(T:ud P tt mt tb ka){k:Nat}{f:Nat->S}{b:Bk}(hM:M k=none)(e:oZ tt mt o vs=some (f,b))(hv:OR M a (jb o.op) vs):Mk P M a w o f b k:=by
 cases ho:o.op<;>simp only[oZ,ho]at e<;>try (cases e;done)
 all_goals rw[ho]at hv
 case alloc=>exact Pc T hM e ho
 case box=>exact Xe hM e ho hv
 case buildSlice=>exact Lj T hM e ho hv
 case makeFunc=>exact Tp hM e ho hv
 case makeMap=>exact Xd T hM e ho hv
 case makeSlice=>exact To T hM e ho hv
theorem Rel.Tz{w0:World}{z:Z}(R:Rel w0 M z w){k:Nat}{en:En}{w':World}(hM:M k=none)(hk:k<z.n){b:Bk}(hb:∀x,get z.h k=some x->x=b)(hw:(w'=w/\en.wQ=none)∨∃ob,w'=w.alloc ob/\en.wQ=some w.heap.size)(hB:BR (oJ M k en) w' en b):
  Rel w0 (oJ M k en) z w':=by
 have hold:∀j,j<w.heap.size->w'.heap[j]?=w.heap[j]?:=by
  rcases hw with⟨rfl,_⟩|⟨ob,rfl,_⟩
  .exact λ_ _=>rfl
  .exact λj hj=>heap_alloc_old w ob hj
 have PQ:∀x,en.wQ=some x->x=w.heap.size:=by
  rcases hw with⟨_,h⟩|⟨ob,_,h⟩
  .intro x hx;rw[h]at hx;cases hx
  .intro x hx;rw[h]at hx;cases hx;rfl
 have hp:Hp (oJ M k en) z.h w':=by
  intro i x e h1 h2;by_cases I8:i=k
  .subst I8;rw[fk]at h2;cases h2;rw[hb x h1];exact hB
  .rw[dN _ _ I8]at h2;have:=R.hp i x e h1 h2;exact this.mono (js hM) (λb hb=>hold b (this.lt hb))
 have eB:∀i x e b,get z.h i=some x->M i=some e->e.wQ=some b->b<w.heap.size:=λi x e b h1 h2 h3=>(R.hp i x e h1 h2).lt h3;refine⟨?_,?_,?_,?_,?_,?_,?_,?_,hp⟩
 .rcases hw with⟨rfl,_⟩|⟨ob,rfl,_⟩<;>exact R.os
 .rcases hw with⟨rfl,_⟩|⟨ob,rfl,_⟩<;>exact R.tape
 .rcases hw with⟨rfl,_⟩|⟨ob,rfl,_⟩<;>exact R.output
 .refine bP R.size ?_;rcases hw with⟨rfl,_⟩|⟨ob,rfl,_⟩
  .exact aK _
  .show w.heap.size<=(w.heap.push ob).size;rw[Array.size_push];omega
 .intro j hj;rw[hold j (dH hj R.size)];exact R.lS j hj
 .intro i hi;rw[dN _ _ (by omega)];exact R.nx i hi
 .intro i e b h0 h1 h2;by_cases I8:i=k
  .subst I8;rw[fk]at h1;cases h1;rw[PQ b h2];exact R.size
  .rw[dN _ _ I8]at h1;exact R.fresh i e b h0 h1 h2
 .intro i j x y e e' b h0 hi hj h1 h2 h3 h4;by_cases I8:i=k<;>by_cases PM:j=k
  .rw[I8,PM]
  .subst I8;rw[fk]at h1;rw[dN _ _ PM]at h2;cases h1;have:=eB j y e' b hj h2 h4;rw[PQ b h3]at this;omega
  .subst PM;rw[fk]at h2;rw[dN _ _ I8]at h1;cases h2;have:=eB i x e b hi h1 h3;rw[PQ b h4]at this;omega
  .rw[dN _ _ I8]at h1;rw[dN _ _ PM]at h2;exact R.inj i j x y e e' b h0 hi hj h1 h2 h3 h4
theorem Rel.promise{w0:World}{z:Z}(R:Rel w0 M z w)(b:Bk):Rel w0 M (new z b) w:=by
 have hn:M z.n=none:=R.nx z.n (aK _);have lS:∀i x e,get (new z b).h i=some x->M i=some e->get z.h i=some x:=by
  intro i x e h1 h2;rcases lM _ _ _ _ _ _ (show get (set depth z.h z.n (some b)) i=some x from h1)with⟨rfl,_⟩|⟨_,h⟩
  .rw[hn]at h2;cases h2
  .exact h
 refine⟨R.os,R.tape,R.output,R.size,R.lS,λi hi=>R.nx i (by have:z.n+1<=i:=hi;omega),R.fresh,?_,?_⟩
 .intro i j x y e e' b h0 hi hj h1 h2 h3 h4;exact R.inj i j x y e e' b h0 (lS _ _ _ hi h1) (lS _ _ _ hj h2) h1 h2 h3 h4
 .intro i x e h1 h2;exact R.hp i x e (lS _ _ _ h1 h2) h2
end
end
section
section
variable{P:Program}{tt:Tr sX}{mt:Tr (Nat×Nat×Value)}{tb:oQ}{ka:Nat->Nat->Bool}
variable{M:Mp}{a:Act}{w w0:World}{o:Oper}{av:AV}{vs:List AV}{z z':Z}
def Wr(P:Program)(w0:World)(M:Mp)(a:Act)(w:World)(o:Oper)(z:Z)(av:AV)(z':Z):Prop :=
 ∃nx v w' M',(execOp a.eval o).run P w=.ok nx w'/\(nx=.value v∨nx=.skip/\v=undef)/\Ext z M z' M'/\VA M' av v/\Rel w0 M' z' w'
theorem W7{x:S}{v:Value}(h:S8 x=true)(hv:VS M x v):v.oneCell'=true:=by
 cases x with
 |v y=>have:v=y:=hv;subst this;cases v<;>first|rfl|simp[S8]at h
 |p i o=>obtain⟨b,s,N,_,rfl⟩:=hv;rfl
 |sl i o m n=>obtain⟨b,s,N,cap,ad,_,rfl,_⟩:=hv;rfl
 |m i=>obtain⟨b,_,rfl⟩:=hv;rfl
 |c i=>obtain⟨_,p,q,r,rfl⟩:=hv;rfl
theorem Bq:∀{l:List S} {vs:List Value},l.all S8=true->VL M l vs->∀v∈vs,v.oneCell'=true
 |[],[],_,_,v,hv=>by cases hv
 |x::l,u::vs,h,k,v,hv=>by
  simp only[cd,ak]at h;rcases aE.1 hv with rfl|hv
  .exact W7 h.1 k.1
  .exact Bq h.2 k.2 v hv
 |[],_::_,_,k,_,_=>k.elim
 |_::_,[],_,k,_,_=>k.elim
theorem tO{i:Nat}{x:Bk}(h:Jl z i=some x):get z.h i=some x/\z.lo<=i:=let⟨a,b⟩:=gP h;⟨b,aB a⟩
theorem Bx{i j:Nat}{x:Option Bk}{y:Bk}(h:get (iZ z i x).h j=some y):(j=i/\x=some y)∨(j≠i/\get z.h j=some y):=lM _ _ _ _ _ _ (show get (set depth z.h i x) j=some y from h)
theorem Ext.iZ{i:Nat}{b:Option Bk}:Ext z M (iZ z i b) M:=⟨Le.refl _,λ_ _=>rfl,aK _⟩
theorem tQ{j:Nat}{x y:Bk}(h:get (new z x).h j=some y):(j=z.n/\x=y)∨(j≠z.n/\get z.h j=some y):=by
 rcases lM _ _ _ _ _ _ (show get (set depth z.h z.n (some x)) j=some y from h)with⟨h1,h2⟩|h
 .cases h2;exact .inl ⟨h1,rfl⟩
 .exact .inr h
theorem Rel.write(R:Rel w0 M z w){i b:Nat}{e:En}{x x':Bk}{w':World}(hi:Jl z i=some x)(hM:M i=some e)(hb:e.wQ=some b)(hos:w'.os=w.os)(htp:w'.tape=w.tape)(Uk:w'.output=w.output)(jh:w'.heap.size=w.heap.size)
  (hoth:∀k,k≠b->w'.heap[k]?=w.heap[k]?) (hB:BR M w' e x'):Rel w0 M (iZ z i (some x')) w':=by
 obtain⟨hi,uC⟩:=tO hi;have PT:w0.heap.size<=b:=R.fresh i e b uC hM hb;refine⟨hos.trans R.os,htp.trans R.tape,Uk.trans R.output,by rw[jh];exact R.size,λk hk=>(hoth k (by omega)).trans (R.lS k hk),R.nx,R.fresh,?_,?_⟩
 .intro j k y y' e1 e2 c h0 hj hk h1 h2 h3 h4;have live:∀{j y},get (iZ z i (some x')).h j=some y->∃y0,get z.h j=some y0:=by
   intro j y h;rcases Bx h with⟨rfl,_⟩|⟨_,h⟩
   .exact⟨x,hi⟩
   .exact⟨y,h⟩
  obtain⟨y0,g1⟩:=live hj;obtain⟨y1,g2⟩:=live hk;exact R.inj j k y0 y1 e1 e2 c h0 g1 g2 h1 h2 h3 h4
 .intro j y e1 hj h1;rcases Bx hj with⟨rfl,h⟩|⟨hne,h⟩
  .cases h;rw[hM]at h1;cases h1;exact hB
  .have:=R.hp j y e1 h h1;refine this.mono (Le.refl M) (λc hc=>hoth c λe2=>hne ?_);subst e2;exact(R.inj i j x y e e1 c uC hi h hM h1 hb hc).symm
theorem QZ{arr Be:List Value}{l q:List S}{s N off:Nat}{qs:List Value}(hs:arr.length=s+N)(hl:l.length<=N)(h:VL M l ((arr.drop s).take l.length))(hq:VL M q qs)(hle:off+q.length<=l.length)
  (ha:Be=arr.take (s+off)++qs++arr.drop (s+off+qs.length)):Be.length=arr.length/\(Y2 l off q).length=l.length/\VL M (Y2 l off q) ((Be.drop s).take (Y2 l off q).length):=by
 have hql:=hq.len;have hlen:(Y2 l off q).length=l.length:=by simp[Y2];omega
 refine⟨by rw[ha];simp;omega,hlen,?_⟩;rw[hlen];have h1:=(h.take off).app (hq.app (h.drop (off+q.length)));have e:(Be.drop s).take l.length=((arr.drop s).take l.length).take off++(qs++((arr.drop s).take l.length).drop (off+q.length)):=by
  rw[ha];apply mM;intro j;by_cases c1:j<l.length
  .rw[bQ,if_pos c1,eJ];by_cases c2:j<off
   .rw[bV,fU (by simp;omega),fU (by simp;omega)];rw[bQ,if_pos (by omega),bQ,if_pos c2,bQ,if_pos c1,eJ]
   .by_cases c3:j<off+q.length
    .rw[bV,eS (by simp;omega),fU (by simp;omega),eS (by simp;omega),fU (by simp;omega)];congr 1;simp;omega
    .rw[eS (by simp;omega),eS (by simp;omega),eS (by simp;omega)];simp only[aS,bH,dy];rw[eJ,eJ,bQ,if_pos (by omega),eJ];congr 1;omega
  .rw[mO (by simp;omega),mO (by simp;omega)]
 rw[e];exact h1
theorem Rel.cells(R:Rel w0 M z w){i b s N off t:Nat}{l q:List S}{arr:Array Value}{qs:List Value}(hi:Jl z i=some (.c l))(hM:M i=some (.b b s N))(ha:w.heap[b]?=some (.cells arr t (0,0)))(hq:VL M q qs)(hle:off+q.length<=l.length):
  s+off+qs.length<=arr.size/\Rel w0 M (iZ z i (some (.c (Y2 l off q)))) (w.setRow b (arr.toList.take (s+off)++qs++arr.toList.drop (s+off+qs.length)).toArray):=by
 obtain⟨asM,t0,h1,h2,h3,h4⟩:=R.hp _ _ _ (tO hi).1 hM;rw[ha]at h1;cases h1;have hql:=hq.len;obtain⟨g1,g2,g3⟩:=QZ (arr:=arr.toList) (by simpa using h2) h3 h4 hq hle rfl;refine⟨by omega,R.write hi hM rfl (by simp) (by simp) (by simp) (by simp) (λk hk=>setRow_other w b k _ hk) ⟨_,t,setRow_heap w b arr _ t (0,0) ha,?_,by rw[g2];exact h3,by simpa using g3⟩⟩;rw[gv,g1];simpa using h2
theorem Tl(n:Nat):Pa (0,0) n:=.inl (aK _)
theorem Py(T:ud P tt mt tb ka)(R:Rel w0 M z w){t:Nat}{x y:Operand}(e:lStore tt t vs z=some (av,z'))(ho:o.op=.store t x y)(hv:OR M a [x,y] vs):Wr P w0 M a w o z av z':=by
 unfold lStore at e;split at e
 .rename_i i off u;obtain⟨⟨b,s,N,h1,h2⟩,hu⟩:=hv.two;split at e
  .rename_i ty q l ht hq hg;replace e:=gP e;obtain⟨hc,e⟩:=e;rw[ak]at hc;cases e;have hql:=aD hc.1;have hle:=aB hc.2;obtain⟨inf,d,zv,hi,hd,hz,hs,_⟩:=a8 (T.t _ _ ht);have XJ:=xQ hq hu;obtain⟨arr,bt,g1,g2,g3,g4⟩:=R.hp _ _ _ (tO hg).1 h1;obtain⟨k1,k2⟩:=R.cells hg h1 g1 XJ hle;have hlen:=XJ.len;have GV:∀v∈(a.eval y).cells.toList,v.oneCell'=true:=by
    refine Bq ?_ XJ;cases u with
    |g q'=>simp only[cellsOf]at hq;replace hq:=gP hq;obtain⟨hc,hq⟩:=hq;cases hq;exact hc
    |s s'=>simp only[cellsOf]at hq;replace hq:=gP hq;obtain⟨Bb,hq⟩:=hq;cases hq;show(S8 s'&&true)=true;rw[Bb];rfl
   have im:=dW P b (s+off) bt (0,0) (a.eval y).cells.toList 0 arr w g1 (Tl _) (by simpa using k1) GV;simp only[c9]at im;have jh:(a.eval y).cells.size=inf.size:=by rw[hs,←hql,hlen,cm]
   refine⟨.skip,undef,_,M,?_,.inr ⟨rfl,rfl⟩,Ext.iZ,⟨[],rfl,trivial⟩,k2⟩;simp[execOp,ho,h2,Instr.storeAt,Instr.sureAddr,storeVar,Sv.run_sizeOf hi,jh,im]
  .cases e
 .cases e
theorem MF{x:Int}{u:V1}{uv:Value}{ck:Nat}(hu:VV M u uv):∀{es BA:List (Value×V1×Nat)} {g:Bool} {l:List MapEntry} (j:Nat),OU (.int .i64 x) u ck es=some (BA,g)->FL (EN M) es l ->
  (g=true/\Instr.findNow (.int .i64) (.int .i64 x) l j=some none/\FL (EN M) BA (l++[{ key:=.int .i64 x,val:=uv,born:=ck }])) ∨
  (g=false/\∃k e,Instr.findNow (.int .i64) (.int .i64 x) l j=some (some (j+k,e.val))/\l[k]?=some e/\e.key=.int .i64 x/\FL (EN M) BA (l.modify k (λe=>{ e with key:=.int .i64 x,val:=uv })))
 |[],BA,g,[],j,e,_=>by cases e;exact .inl ⟨rfl,rfl,⟨rfl,hu,rfl⟩,trivial⟩
 |(y,v,b)::es,BA,g,en::l,j,e,h=>by
  obtain⟨⟨h1,h2,h4⟩,h3⟩:=h;simp only[OU]at e;cases y with
  |int k z =>
   simp only[E8]at e;cases hk:sameKind .i64 k with
   |false=>rw[hk]at e;cases e
   |true =>
    have:=fQ hk;subst this;rw[hk]at e;simp only[cG]at e;simp only at h1;by_cases hxz:x=z
    .subst hxz;simp only[decide_true]at e;cases e;exact .inr ⟨rfl,0,en,by simp[Instr.findNow,Instr.sameNow,h1],rfl,h1,by simp only[List.modify_zero_cons];exact⟨⟨rfl,hu,h4⟩,h3⟩⟩
    .simp only[hxz,decide_false]at e;have hs:Instr.sameNow (.int .i64) (.int .i64 x) en.key=some false:=by simp[Instr.sameNow,h1,hxz]
     cases hp:OU (.int .i64 x) u ck es with
     |none=>rw[hp]at e;cases e
     |some r =>
      obtain⟨q,g'⟩:=r;rw[hp]at e;cases e;rcases MF hu (j+1) hp h3 with⟨a1,a2,a3⟩|⟨a1,k,e',a2,a3,a4,a5⟩
      .exact .inl ⟨a1,by simp only[Instr.findNow,hs];exact a2,⟨h1,h2,h4⟩,a3⟩
      .refine .inr ⟨a1,k+1,e',by simp only[Instr.findNow,hs];rw[a2];congr 3;omega,by simpa using a3,a4,?_⟩;simp only[List.modify_succ_cons];exact⟨⟨h1,h2,h4⟩,a5⟩
  |_=>simp[E8]at e
 |[],_,_,_::_,_,_,h=>h.elim
 |_::_,_,_,[],_,_,h=>h.elim
theorem Xy(T:ud P tt mt tb ka)(R:Rel w0 M z w){t:Nat}{x y u:Operand}(e:lPut mt ka t vs z=some (av,z'))(ho:o.op=.mapUpdate t x y u)(hv:OR M a [x,y,u] vs):Wr P w0 M a w o z av z':=by
 unfold lPut at e;split at e
 .rename_i i n v;obtain⟨⟨b,h1,h2⟩,hk,hu,_⟩:=hv;have hk:a.eval y=.int .i64 n:=hk;have hu:VV M v (a.eval u):=hu;split at e
  .rename_i kt q0 es ck hm hg;obtain⟨hun,_,hkt⟩:=T.m _ kt q0.1 q0.2 hm;split at e
   .rename_i q PW A8;cases Kh:ka 0 kt with
    |true=>rw[Kh]at A8;cases A8
    |false =>
     rw[Kh]at A8;have A8:OU (.int .i64 n) v ck es=some (q,PW):=A8;have hki:P.underlying kt=some (.int .i64):=by
      rcases hkt with h|⟨h,_⟩
      .exact h
      .rw[Kh]at h;cases h
     have e:=Option.some.inj e;simp only[Prod.mk.injEq]at e;obtain⟨rfl,rfl⟩:=e;obtain⟨arr,g1,g2⟩:=R.hp _ _ _ (tO hg).1 h1;have fin:∀(Be:Array MapEntry)(ck':Nat),(bif PW then Nat.succ ck else ck)=ck'->FL (EN M) q Be.toList->(execOp a.eval o).run P w=.ok .skip { w with heap:=w.heap.setIfInBounds b (.map Be ck') }->Wr P w0 M a w o z (.t []) (iZ z i (some (.m q (bif PW then Nat.succ ck else ck)))):=by intro Be ck' hck hf run;subst hck;have IX:=MapKept.heap_set (w:=w) (o':=.map Be (bif PW then Nat.succ ck else ck)) g1;refine⟨.skip,undef,_,M,run,.inr ⟨rfl,rfl⟩,Ext.iZ,⟨[],rfl,trivial⟩,R.write hg h1 rfl rfl rfl rfl (by simp) IX.2 ⟨Be,IX.1,hf⟩⟩
     rcases MF hu 0 A8 g2 with⟨rfl,a2,a3⟩|⟨rfl,k,en,a2,a3,a4,a5⟩
     .refine fin (arr.push { key:=.int .i64 n,val:=a.eval u,born:=ck }) (ck+1) rfl (by rw[Array.toList_push];exact a3) ?_;simp[execOp,ho,h2,hk,Instr.mapUpdate,aH hun,iE g1,MapKept.run_checkKey (k:=.int .i64 n) hki rfl,MapKept.run_findKey hki a2,MapKept.run_setObj_map _ g1]
     .have hj:arr[k]?=some en:=by simpa using a3
      rw[bh]at a2;refine fin (arr.modify k λe=>{ e with key:=.int .i64 n,val:=a.eval u }) ck rfl (by rw[Array.toList_modify];exact a5) ?_;simp[execOp,ho,h2,hk,Instr.mapUpdate,aH hun,iE g1,MapKept.run_checkKey (k:=.int .i64 n) hki rfl,MapKept.run_findKey hki a2,hj,a4,MapKept.run_keyThatStays (k:=.int .i64 n) (d:=.int .i64) rfl,MapKept.run_setObj_map _ g1]
   .cases e
  .cases e
 .cases e
end
end
section
section
variable{P:Program}{tt:Tr sX}{mt:Tr (Nat×Nat×Value)}{tb:oQ}{ka:Nat->Nat->Bool}
variable{M:Mp}{a:Act}{w w0:World}{o:Oper}{av:AV}{vs:List AV}{z z':Z}
theorem wV(R:Rel w0 M z w){m:Nat}{x:V1}{l:List S}{v:Value}(e:ti z.h m x=some l)(hv:VV M x v):
  (v=.slice none 0 0/\l=[])∨∃i off n b s N cap ad us,x=.s (.sl i off m n)/\M i=some (.b b s N)/\v=.slice (some ad) n cap/\n<=cap/\(ad=⟨b,s+off,none⟩/\off+cap*m<=N∨cap=0)/\VL M l us/\l.length=n*m/\(∀j u,us[j]?=some u->w.cell? (ad.add j)=some u):=by
 unfold ti at e;split at e
 .rename_i y;replace e:=gP e;obtain⟨hc,e⟩:=e;cases e;exact .inl ⟨by rw[←pw hc];exact hv,rfl⟩
 .rename_i i off m' n;obtain⟨b,s,N,cap,ad,h1,h2,h3,h4⟩:=hv;replace e:=gP e;obtain⟨hc,e⟩:=e;have:=aD hc;subst this;refine .inr ?_;cases hn:Nat.beq n 0 with
  |true=>rw[hn]at e;have hn:=aD hn;subst hn;cases e;exact⟨i,off,0,b,s,N,cap,ad,[],rfl,h1,h2,h3,h4,trivial,by simp,by simp⟩
  |false =>
   rw[hn]at e;have hn:n≠0:=λq=>by subst q;cases hn
   obtain⟨arr,t,g1,g2,g3,g4⟩:=zd R.hp e h1;rcases h4 with⟨rfl,h4⟩|h4
   .refine⟨i,off,n,b,s,N,cap,_,_,rfl,h1,h2,h3,.inl ⟨rfl,h4⟩,g3,g4,λj u hj=>?_⟩;rw[Addr.add_lit];simp only[World.cell?,g1];rw[bQ]at hj;split at hj
    .simpa using hj
    .cases hj
   .omega
 .cases e
theorem DJ{b p n:Nat}:(⟨b,p,none⟩:Addr).add n=⟨b,p+n,none⟩:=Addr.add_lit ..
theorem run_append_room{t ty e g p xm KF m c:Nat}{i:TypeInfo}{cur:Array Value}(ht:P.underlying t=some (.slice e))(hi:P.info? e=some i){bt:Nat}(hg:w.heap[g]?=some (.cells cur bt (0,0)))
  {ad:Addr} {news:List Value} (hl:news.length=m*i.size) (I6:∀j u,news[j]?=some u->w.cell? (ad.add j)=some u) (h1:∀u∈news,u.oneCell'=true) (uo:xm+m<=KF) (xI:p+xm*i.size+news.length<=cur.size) :
  (Builtin.append_ #[t,t] ty #[.slice (some ⟨g,p,none⟩) xm KF,.slice (some ad) m c]).run P w =
   .ok (.slice (some ⟨g,p,none⟩) (xm+m) KF) (w.setRow g (cur.toList.take (p+xm*i.size)++news++cur.toList.drop (p+xm*i.size+news.length)).toArray):=by
 have hf:=run_firstCells_some (P:=P) w i.size m ad m c news hl I6;have im:=dW P g (p+xm*i.size) bt (0,0) news 0 cur w hg (Tl _) (by simpa using xI) h1;simp only[c9]at im;simp[Builtin.append_,aH ht,sizeOf,typeInfo,hi,Builtin.lenOf,uo,hf,DJ,im]
theorem ui{t ty e n cap:Nat}{i:TypeInfo}{p:Option Addr}{v:Value}(ht:P.underlying t=some (.slice e))(hi:P.info? e=some i)(hn:n<=cap)(hv:v=.slice none 0 0∨∃ad c,v=.slice (some ad) 0 c):
  (Builtin.append_ #[t,t] ty #[.slice p n cap,v]).run P w=.ok (.slice p n cap) w:=by
 rcases hv with rfl|⟨ad,c,rfl⟩
 .cases p<;>simp[Builtin.append_,aH ht,sizeOf,typeInfo,hi,Builtin.lenOf,Builtin.firstCells,hn,storeCells]
 .have:=run_firstCells_some (P:=P) w i.size 0 ad 0 c [] (by simp) (by simp);cases p<;>simp[Builtin.append_,aH ht,sizeOf,typeInfo,hi,Builtin.lenOf,this,hn,storeCells]
theorem DH{c:Call}{x y:Operand}{t:Nat}{r:Value}{w':World}(ho:o.op=.call ⟨.builtin .append,#[x,y],#[t,t]⟩)(h:∀ty,(Builtin.append_ #[t,t] ty #[a.eval x,a.eval y]).run P w=.ok r w'):(execOp a.eval o).run P w=.ok (.value r) w':=by
 simp[execOp,ho,resolve,invoke,builtin,h]
theorem Rel.move(R:Rel w0 M z w){i b s N:Nat}{x:Bk}{en:En}{l:List S}{w':World}(hi:Jl z i=some x)(hM:M i=some (.b b s N))(hos:w'.os=w.os)(htp:w'.tape=w.tape)(Uk:w'.output=w.output)(jh:w.heap.size<=w'.heap.size)
  (PQ:en.wQ=some b∨en.wQ=some w.heap.size) (hoth:∀k,k<w.heap.size->k≠b->w'.heap[k]?=w.heap[k]?) (hB:BR (oJ M z.n en) w' en (.c l)) (hb:(∃c,en.wQ=some c/\c≠b)->w'.heap[b]?=w.heap[b]?) :
  Ext z M (new (iZ z i none) (.c l)) (oJ M z.n en)/\Rel w0 (oJ M z.n en) (new (iZ z i none) (.c l)) w':=by
 have hn:M z.n=none:=R.nx z.n (aK _);obtain⟨hi,uC⟩:=tO hi;have PT:w0.heap.size<=b:=R.fresh i _ b uC hM rfl;have ZY:b<w.heap.size:=(R.hp i x _ hi hM).lt rfl;have live:∀{j y},get (new (iZ z i none) (.c l)).h j=some y->j≠z.n->j≠i/\get z.h j=some y:=by
  intro j y h hj;rcases tQ h with⟨h1,_⟩|⟨_,h⟩
  .exact absurd h1 hj
  .rcases Bx h with⟨_,h⟩|h
   .cases h
   .exact h
 have abj:∀{j y e c},get z.h j=some y->j≠i->M j=some e->e.wQ=some c->c≠b/\c<w.heap.size:=by intro j y e c h hj h1 h2;exact⟨λq=>by subst q;exact hj (R.inj i j x y _ e c uC hi h hM h1 rfl h2).symm,(R.hp j y e h h1).lt h2⟩
 refine⟨⟨js hn,λj hj=>dN _ _ (by omega),Nat.le_succ _⟩,hos.trans R.os,htp.trans R.tape,Uk.trans R.output,bP R.size jh,λk hk=>(hoth k (by omega) (by omega)).trans (R.lS k hk),?_,?_,?_,?_⟩
 .intro j hj;have hj:z.n+1<=j:=hj;rw[dN _ _ (by omega)];exact R.nx j (by omega)
 .intro j e c h0 h1 h2;by_cases hj:j=z.n
  .subst hj;rw[fk]at h1;cases h1;rcases PQ with h|h<;>rw[h2]at h<;>cases h
   .exact PT
   .exact R.size
  .rw[dN _ _ hj]at h1;exact R.fresh j e c h0 h1 h2
 .intro j k y y' e e' c h0 hj hk h1 h2 h3 h4;by_cases cj:j=z.n<;>by_cases ck:k=z.n
  .rw[cj,ck]
  .subst cj;rw[fk]at h1;cases h1;rw[dN _ _ ck]at h2;obtain⟨q1,q2⟩:=live hk ck;obtain⟨q3,q4⟩:=abj q2 q1 h2 h4;rcases PQ with h|h<;>rw[h3]at h<;>cases h
   .exact absurd rfl q3
   .omega
  .subst ck;rw[fk]at h2;cases h2;rw[dN _ _ cj]at h1;obtain⟨q1,q2⟩:=live hj cj;obtain⟨q3,q4⟩:=abj q2 q1 h1 h3;rcases PQ with h|h<;>rw[h4]at h<;>cases h
   .exact absurd rfl q3
   .omega
  .rw[dN _ _ cj]at h1;rw[dN _ _ ck]at h2;exact R.inj j k y y' e e' c h0 (live hj cj).2 (live hk ck).2 h1 h2 h3 h4
 .intro j y e hj h1;by_cases cj:j=z.n
  .subst cj;rw[fk]at h1;cases h1;rcases tQ hj with⟨_,h⟩|⟨h,_⟩
   .cases h;exact hB
   .exact absurd rfl h
  .rw[dN _ _ cj]at h1;obtain⟨q1,q2⟩:=live hj cj;have:=R.hp j y e q2 h1;refine this.mono (js hn) (λc hc=>?_);obtain⟨q3,q4⟩:=abj q2 q1 h1 hc;exact hoth c q4 q3
theorem NK{n xS:Nat}(h1:n<=100000)(h2:xS<=1000):n*xS<=140737488355328:=by
 have:=gn h1 h2;omega
theorem XA(T:ud P tt mt tb ka)(R:Rel w0 M z w){t:Nat}{x y:V1}{xo yo:Operand}(e:abE tt t x y z=some (av,z'))(ho:o.op=.call ⟨.builtin .append,#[xo,yo],#[t,t]⟩)(hx:VV M x (a.eval xo))(hy:VV M y (a.eval yo)):Wr P w0 M a w o z av z':=by
 unfold abE at e;split at e
 .rename_i el ll;have hu:=l9 T ll;split at e
  .rename_i ty ht;obtain⟨inf,d,zv,hi,hd,hz,hs,lZ,lx,_⟩:=a8 (T.t _ _ ht);split at e
   .rename_i r8 news hox hoy;have cx:=wV R hox hx;have cy:=wV R hoy hy;have hn:M z.n=none:=R.nx z.n (aK _);have grown:∀(l:List S)(us:List Value)(k Ao:Nat)(arr:Array Value)(w1:World)(z1:Z),w1.heap=w.heap->w1.os=w.os->w1.tape=w.tape->w1.output=w.output ->
     VL M l us->l.length=k*ty.size->k<=Ao->arr.toList.take l.length=us->Ao*ty.size<=arr.size ->
     (∀j y,get z1.h j=some y->get z.h j=some y)->z1.n=z.n->z1.lo=z.lo ->
     (execOp a.eval o).run P w=.ok (.value (.slice (some ⟨w.heap.size,0,none⟩) k Ao)) (w1.alloc (.cells arr el))->Wr P w0 M a w o z (.o (.s (.sl z.n 0 ty.size k))) (new z1 (.c l)):=by
     intro l us k Ao arr w1 z1 q1 q2 q3 q4 hl hlen hk hus XY hz1 hzn ZE run;have hB:BR (oJ M z.n (.b w.heap.size 0 arr.size)) (w1.alloc (.cells arr el)) (.b w.heap.size 0 arr.size) (.c l):=by
      have hlu:=hl.len;have hle:l.length<=arr.size:=by
       have:(arr.toList.take l.length).length=l.length:=by rw[hus];exact hlu.symm
       have h0:arr.toList.length=arr.size:=cm;rw[bH]at this;omega
      refine⟨arr,el,?_,by simp,hle,?_⟩
      .show(w1.heap.push _)[w.heap.size]?=_;rw[q1];simp
      .rw[nL,hus];exact hl.mono λ_ _=>VS.mono (js hn)
     have R1:Rel w0 M z1 w1:=by
      refine⟨q2.trans R.os,q3.trans R.tape,q4.trans R.output,by rw[q1];exact R.size,λb hb=>by rw[q1];exact R.lS b hb,λj hj=>R.nx j (by omega),λi e b h=>R.fresh i e b (ZE▸h),?_,?_⟩
      .intro i j x y e e' b h0 hi hj;exact R.inj i j x y e e' b (ZE▸h0) (hz1 i x hi) (hz1 j y hj)
      .intro i x e h1 h2;exact(R.hp i x e (hz1 i x h1) h2).mono (Le.refl M) (λb _=>by rw[q1])
     have R2:=(R1.promise (.c l)).Tz (k:=z.n) (en:=.b w.heap.size 0 arr.size) (w':=w1.alloc (.cells arr el)) (b:=.c l) hn (by show z.n<z1.n+1;omega)
      (λx hx=>by
       rcases tQ hx with⟨_,h⟩|⟨h,_⟩
       .exact h.symm
       .exact absurd hzn.symm h) (.inr ⟨_,rfl,by rw[q1];rfl⟩) hB
     refine⟨_,_,_,_,run,.inl rfl,⟨js hn,λj hj=>dN _ _ (by omega),by show z.n<=z1.n+1;omega⟩,?_,R2⟩;exact⟨w.heap.size,0,arr.size,Ao,_,fk _ _ _,rfl,hk,.inl ⟨rfl,by omega⟩⟩
    split at e
    .rename_i i2 o2 m2 n;replace e:=gP e;obtain⟨wO,e⟩:=e;rw[ak]at wO;have hzs:zv.cells.size=ty.size:=by have h0:zv.cells.toList.length=zv.cells.size:=cm;rw[←h0,lx];exact aD wO.2
     rcases cy with⟨cy,_⟩|⟨i',abh,n',b',s',N',Ao,sW,QE,c1,c2,c3,c4,c5,c6,c7,c8⟩
     .obtain⟨_,_,_,_,_,_,h,_⟩:=hy;rw[h]at cy;cases cy
     cases c1;have GV:=Bq wO.1 c6;have Ls:=c6.len;unfold aaf at e;split at e
     ·
      rename_i xv;replace e:=gP e;obtain⟨hc,e⟩:=e;simp only[ak]at hc;have g1:=aB hc.1;have g2:=aB hc.2.1;have g3:=aB hc.2.2;cases e;rcases cx with⟨cx,rfl⟩|⟨_,_,_,_,_,_,_,_,_,h,_⟩
      .have xI:=NK g2 g3;have hr:=λOl=>run_append_nil (P:=P) w t Ol el inf zv hu hi hz sW n Ao QE (by rw[←Ls,c7,hs]) c8 g1 (by omega) (by rw[lZ];omega);have hge:=grownCap_ge w n 0 el;refine grown _ QE n (grownCap w n 0 el) (QE.toArray++Builtin.zeroCells zv.cells (grownCap w n 0 el-n)) w.drew z rfl rfl rfl rfl c6 (by simpa using c7) hge ?_ ?_ (λ_ _ h=>h) rfl rfl (DH (c:=⟨.builtin .append,#[xo,yo],#[t,t]⟩) ho λOl=>by rw[cx,c3];exact hr Ol)
       .rw[gU,Ls,pE,List.take_left' (by simp)]
       .simp only[pB,gv,size_zeroCells,hzs,←Ls,c7,←Nat.add_mul];exact cP _ (by omega)
      .cases h
     .rename_i i off q k;rcases cx with⟨cx,_⟩|⟨_,_,_,b,s,N,cap,ad,us,d1,d2,d3,d4,d5,d6,d7,d8⟩
      .obtain⟨_,_,_,_,_,_,h,_⟩:=hx;rw[h]at cx;cases cx
      cases d1;cases hn0:Nat.beq n 0 with
      |true=>rw[hn0]at e;have:=aD hn0;subst this;cases e;refine⟨_,_,w,M,DH (c:=⟨.builtin .append,#[xo,yo],#[t,t]⟩) ho (λOl=>by rw[d3,c3];exact ui hu hi d4 (.inr ⟨_,_,rfl⟩)),.inl rfl,Ext.refl _ _,?_,R⟩;exact⟨b,s,N,cap,ad,d2,rfl,d4,d5⟩
      |false =>
       rw[hn0]at e;have hn0:n≠0:=λq=>by subst q;cases hn0
       replace e:=gP e;obtain⟨hc,e⟩:=e;rw[ak]at hc;have g2:=aB hc.1;have g3:=aB hc.2;split at e
       .rename_i L hL;cases e;have Ux:=d6.len;by_cases uo:k+n<=cap
        .rcases d5 with⟨rfl,d5⟩|d5
         .obtain⟨arr,bt,p1,p2,p3,p4⟩:=R.hp _ _ _ (tO hL).1 d2;have hcm:(k+n)*ty.size<=cap*ty.size:=cP _ uo;have hkn:k*ty.size+QE.length=(k+n)*ty.size:=by rw[←Ls,c7,Nat.add_mul]
          have xI:s+off+k*inf.size+QE.length<=arr.size:=by rw[hs];omega
          have hr:=λOl=>run_append_room (P:=P) (w:=w) (ty:=Ol) (c:=Ao) hu hi p1 (by rw[←Ls,c7,hs]) c8 GV uo xI;have eB:=gF p1;rw[hs]at hr xI;have Ke:us=(arr.toList.drop (s+off)).take (k*ty.size):=by
           apply mM;intro j;by_cases hj:j<us.length
           .have:=d8 j us[j] (by simp[hj]);rw[DJ]at this;simp only[World.cell?,p1]at this;have h0:arr.toList[s+off+j]?=some us[j]:=by simpa using this
            rw[bQ,if_pos (by omega),eJ,h0,fD hj]
           .rw[mO (by omega),mO (by simp;omega)]
          obtain⟨q1,q2⟩:=R.move (en:=.b b (s+off) (N-off)) (l:=r8++news) (w':=w.setRow b (arr.toList.take (s+off+k*ty.size)++QE++arr.toList.drop (s+off+k*ty.size+QE.length)).toArray) hL d2 (by simp) (by simp) (by simp) (by simp) (.inl rfl) (λj _ hj=>setRow_other w b j _ hj)
           ⟨_,bt,setRow_heap w b arr _ bt (0,0) p1,by simp;omega,by simp;omega,by
            have agp:((arr.toList.take (s+off+k*ty.size)++QE++arr.toList.drop (s+off+k*ty.size+QE.length)).drop (s+off)).take (r8++news).length=us++QE:=by
             rw[aS,Ux,Ls,bV,sN (by simp;omega),←bV];rw[lD (by simp;omega)];have:(arr.toList.take (s+off+k*ty.size)).drop (s+off)=us:=by rw[Ke,py];congr 1;omega
             rw[this,fc (by simp)]
            rw[agp];exact(d6.app c6).mono λ_ _=>VS.mono (js hn)⟩ (λ⟨c,h1,h2⟩=>by cases h1;exact absurd rfl h2)
          refine⟨_,_,_,_,DH (c:=⟨.builtin .append,#[xo,yo],#[t,t]⟩) ho (λOl=>by rw[d3,c3];exact hr Ol),.inl rfl,q1,?_,q2⟩;exact⟨b,s+off,N-off,cap,_,fk _ _ _,rfl,uo,.inl ⟨rfl,by omega⟩⟩
         .omega
        .have xI:=NK g2 g3;have hr:=λOl=>run_append_grow (P:=P) w t Ol el inf zv hu hi hz ad k cap us (by rw[←Ux,d7,hs]) d8 sW n Ao QE (by rw[←Ls,c7,hs]) c8 (by omega) (by omega) (growslice_fits (by omega) (by rw[lZ];exact xI));have hge:=grownCap_ge w (k+n) cap el;refine grown _ (us++QE) (k+n) (grownCap w (k+n) cap el) _ w.drew (iZ z i none) rfl rfl rfl rfl (d6.app c6) (by rw[aS,d7,c7,Nat.add_mul]) hge ?_ ?_ (λj y hj=>by
          rcases Bx hj with⟨_,h⟩|⟨_,h⟩
          .cases h
          .exact h) rfl rfl (DH (c:=⟨.builtin .append,#[xo,yo],#[t,t]⟩) ho λOl=>by rw[d3,c3];exact hr Ol)
         .rw[aS,Ux,Ls];simp only[pE];rw[List.take_left' (by simp)]
         .simp only[pB,gv,size_zeroCells,hzs,←Ls,←Ux,d7,c7,←Nat.add_mul];exact cP _ (by omega)
       .cases e
     .cases e
    .split at e
     .rename_i i off m k;cases e;rcases cx with⟨cx,_⟩|⟨_,_,_,b,s,N,cap,ad,us,d1,d2,d3,d4,d5,d6,d7,d8⟩
      .obtain⟨_,_,_,_,_,_,h,_⟩:=hx;rw[h]at cx;cases cx
      cases d1;rcases cy with⟨cy,_⟩|⟨_,_,_,_,_,_,_,_,_,h,_⟩
      .refine⟨_,_,w,M,DH (c:=⟨.builtin .append,#[xo,yo],#[t,t]⟩) ho (λOl=>by rw[d3,cy];exact ui hu hi d4 (.inl rfl)),.inl rfl,Ext.refl _ _,?_,R⟩;exact⟨b,s,N,cap,ad,d2,rfl,d4,d5⟩
      .exact(‹∀(i o m n:Nat),y=V1.s (S.sl i o m n)->False› _ _ _ _ h).elim
     .cases e
   .cases e
  .cases e
 .cases e
end
end
section
section
variable{P:Program}{tt:Tr sX}{mt:Tr (Nat×Nat×Value)}{tb:oQ}{ka:Nat->Nat->Bool}
variable{M:Mp}{a:Act}{w w0:World}{o:Oper}{av:AV}{vs:List AV}{z z':Z}
theorem TP(T:ud P tt mt tb ka)(R:Rel w0 M z w){t:Nat}{x y:V1}{xo yo:Operand}{qo:Array TypeId}(e:lCopy tt t x y z=some (av,z'))(ho:o.op=.call ⟨.builtin .copy,#[xo,yo],qo⟩)(hat:qo[0]?=some t)(hx:VV M x (a.eval xo))(hy:VV M y (a.eval yo)):Wr P w0 M a w o z av z':=by
 unfold lCopy at e;split at e
 .rename_i i off m n i' abh m' n';obtain⟨b,s,N,cap,ad,h1,h2,h3,h4⟩:=hx;obtain⟨b',s',N',Ao,sW,k1,k2,k3,k4⟩:=hy;split at e
  .rename_i el ll;have hu:=l9 T ll;split at e
   .rename_i sz l jh hg;obtain⟨inf,hi,his⟩:=F4 T jh;replace e:=gP e;obtain⟨hc,e⟩:=e;rw[ak]at hc;have q1:=aD hc.1;have q2:=aD hc.2;subst q1 q2;dsimp only at e;cases hk:Nat.beq (Nat.min n' n) 0 with
    |true=>rw[hk]at e;have hk:=aD hk;have e:=Option.some.inj e;simp only[Prod.mk.injEq]at e;obtain⟨rfl,rfl⟩:=e;have hf:=run_firstCells_some (P:=P) w inf.size 0 sW n' Ao [] (by simp) (by simp);refine⟨_,.int .i64 0,w,M,?_,.inl rfl,Ext.refl _ _,rfl,R⟩;simp[execOp,ho,resolve,invoke,builtin,h2,k2,Builtin.copy_,hat,aH hu,Builtin.lenOf,Sv.run_sizeOf hi,hk,hf,storeCells,goInt]
    |false =>
     rw[hk]at e;have hk:Nat.min n' n≠0:=λq=>by rw[q]at hk;cases hk
     have hmn:Nat.min n' n<=n'/\Nat.min n' n<=n:=⟨Nat.min_le_left _ _,Nat.min_le_right _ _⟩
     simp only[eQ]at e;split at e
     .rename_i q hq;replace e:=gP e;obtain⟨LB,e⟩:=e;rw[ak]at LB;have e:=Option.some.inj e;simp only[Prod.mk.injEq]at e;obtain⟨rfl,rfl⟩:=e;rcases h4 with⟨rfl,h4⟩|h4
      .rcases k4 with⟨rfl,k4⟩|k4
       .obtain⟨Be,bt',g1,g2,g3,g4⟩:=zd R.hp hq k1;obtain⟨arr,bt,p1,p2,p3,p4⟩:=R.hp _ _ _ (tO hg).1 h1;have Ls:=g3.len;have hf:=run_firstCells_some (P:=P) w inf.size (Nat.min n' n) ⟨b',s'+abh,none⟩ n' Ao ((Be.toList.drop (s'+abh)).take (Nat.min n' n*sz)) (by rw[←Ls,g4,his]) (λj u hj=>by
         rw[DJ];simp only[World.cell?,g1];rw[bQ]at hj;split at hj
         .simpa using hj
         .cases hj)
        obtain⟨r1,r2⟩:=R.cells (off:=off) hg h1 p1 g3 (by rw[g4];exact aB LB.1);have im:=dW P b (s+off) bt (0,0) _ 0 arr w p1 (Tl _) (by simpa using r1) (Bq LB.2 g3);simp only[c9]at im;refine⟨_,.int .i64 (Nat.min n' n:Nat),_,M,?_,.inl rfl,Ext.iZ,rfl,r2⟩;simp only[execOp,ho,resolve,invoke,builtin,bU,cM,bW];simp[h2,k2,Builtin.copy_,hat,aH hu,Builtin.lenOf,Sv.run_sizeOf hi,hf,im,goInt]
       .omega
      .omega
     .cases e
   .cases e
  .cases e
 .cases e
theorem Xz(T:ud P tt mt tb ka)(R:Rel w0 M z w){b:Builtin}{args:Array Operand}{qo:Array TypeId}(e:lBlt tt b qo.toList vs z=some (av,z'))(ho:o.op=.call ⟨.builtin b,args,qo⟩)(hv:OR M a args.toList vs):Wr P w0 M a w o z av z':=by
 have two:∀{x y:V1},vs=[.o x,.o y]->∃xo yo,args=#[xo,yo]/\VV M x (a.eval xo)/\VV M y (a.eval yo):=by
  intro x y hvs;subst hvs
  match h:args.toList,hv with
  |[xo,yo],hv=>exact⟨xo,yo,by rw[←dI (xs:=args),h],hv.1,hv.2.1⟩
  |[_],hv=>exact hv.2.elim
  |_::_::_::_,hv=>exact hv.2.2.elim
 unfold lBlt at e;split at e
 .split at e
  .rename_i t t' x y LD;replace e:=gP e;obtain⟨hc,e⟩:=e;have:=aD hc;subst this;obtain⟨xo,yo,rfl,h1,h2⟩:=two rfl;have hb:qo=#[t,t]:=by rw[←dI (xs:=qo),LD]
   subst hb;exact XA T R e ho h1 h2
  .cases e
 .split at e
  .rename_i t t' x y LD;obtain⟨xo,yo,rfl,h1,h2⟩:=two rfl;have hb:qo=#[t,t']:=by rw[←dI (xs:=qo),LD]
   subst hb;exact TP T R e ho rfl h1 h2
  .cases e
 .cases e
def vO(P:Program)(call:FuncId->List V1->Z->Ld):Prop :=
 ∀f q z av z',call f q z=some (av,z')->eX P f=true/\∀w0 M w vals,QT M q vals->Rel w0 M z w ->
  Calls P f vals.toArray w (λe w'=>∃v M',e=.returned v/\Ext z M z' M'/\VA M' av v/\Rel w0 M' z' w')
def FI(P:Program)(idx:FuncId->Bool):Prop :=
 ∀f,idx f=true->∀(s:ByteArray)(n:Nat)(w:World),n<256->(callFunc f #[.string s,.int .u8 (.ofNat n)]).run P w=.ok (.value (.int .i64 (Fk n 0 s.data.toList))) w
theorem N9{l:List Operand}{q:List V1}(h:FL (λv x=>VV M v (a.eval x)) q l):QT M q (l.map a.eval):=by
 induction l generalizing q with
 |nil=>cases q with
  |nil=>trivial
  |cons _ _=>exact h.elim
 |cons x l ih=>cases q with
  |nil=>exact h.elim
  |cons v q=>exact⟨h.1,ih h.2⟩
variable{idx:FuncId->Bool}{call:FuncId->List V1->Z->Ld}{K:Act->World->Prop}{Q:Exit->Act->World->Prop}
def Nxt(w0:World)(M:Mp)(a:Act)(o:Oper)(z:Z)(av:AV)(z':Z)(K:Act->World->Prop):Prop :=
 ∀v w' M',Ext z M z' M'->VA M' av v->Rel w0 M' z' w'->K (a.put o.dst v) w'
theorem Wr.wp(h:Wr P w0 M a w o z av z')(k:Nxt w0 M a o z av z' K):o.wp P a w K Q:=by
 obtain⟨nx,v,w',M',run,hn,h1,h2,h3⟩:=h;unfold Oper.wp;rw[run];rcases hn with rfl|⟨rfl,rfl⟩
 .exact k v w' M' h1 h2 h3
 .exact k undef w' M' h1 h2 h3
theorem TQ(T:ud P tt mt tb ka)(hI:FI P idx)(hC:vO P call)(R:Rel w0 M z w){c:Call}(e:lCall tt idx call c vs z=some (av,z'))(ho:o.op=.call c)(hv:OR M a (jb o.op) vs)(k:Nxt w0 M a o z av z' K):o.wp P a w K Q:=by
 obtain⟨callee,args,qo⟩:=c;rw[ho]at hv;cases callee with
 |invoke r m=>cases e
 |builtin b=>exact(Xz T R e ho hv).wp k
 |value f =>
  have enter:∀{g:FuncId} {q:List V1} {vals:List Value},call g q z=some (av,z')->QT M q vals->(∀w,(execOp a.eval o).run P w=(callFunc g vals.toArray).run P w)->o.wp P a w K Q:=by intro g q vals agL hq run;obtain⟨hb,hc⟩:=hC _ _ _ _ _ agL;unfold Oper.wp;rw[run,oW hb];simp only[Oper.upon];refine Calls.mono (hc w0 M w vals hq R) ?_;rintro e w' ⟨v,M',rfl,h1,h2,h3⟩;exact k v w' M' h1 h2 h3
  change callV idx call vs z=some (av,z')at e;unfold callV at e;split at e
  .rename_i g p r us;obtain⟨hf,hv⟩:=hv;have hf:a.eval f=.func (.func g) p r:=hf;unfold cFn at e;split at e
   .rename_i q hp hr hq;have hp':p=#[]:=by rw[←dI (xs:=p),hp]
    have hr':r=#[]:=by rw[←dI (xs:=r),hr]
    subst hp' hr';have Uc:=N9 (xV hq hv);have run:∀w,(execOp a.eval o).run P w=(callFunc g (args.toList.map a.eval).toArray).run P w:=by
     intro w;have:args.map a.eval=(args.toList.map a.eval).toArray:=by rw[←Array.toList_map]
     simp[execOp,ho,resolve,hf,Deferred.ofValue,invoke,this]
    cases aco:idx g with
    |false=>rw[aco]at e;exact enter e Uc run
    |true =>
     rw[aco]at e;replace e:abR q z=some (av,z'):=e;unfold abR at e;split at e
     .rename_i s n;obtain⟨eB,e⟩:=gP e;cases e;have hl:∃xo yo,args.toList=[xo,yo]/\a.eval xo=.string s/\a.eval yo=.int .u8 (.ofNat n):=by
       have:=xV hq hv
       match h:args.toList,this with
       |[xo,yo],this=>exact⟨xo,yo,rfl,this.1,this.2.1⟩
       |[_],this=>exact this.2.elim
       |_::_::_::_,this=>exact this.2.2.elim
      obtain⟨xo,yo,h1,h2,h3⟩:=hl;have run':=run w;rw[h1]at run';simp only[ba,iC,h2,h3]at run';rw[hI g aco s n w (aB eB)]at run';unfold Oper.wp;rw[run'];exact k _ w M (Ext.refl _ _) rfl R
     .cases e
   .cases e
  .rename_i i us;obtain⟨⟨hM,hf⟩,hv⟩:=hv;unfold cClo at e;split at e
   .rename_i g p r q hg hq;obtain⟨vp,vr,h1,h2,h3⟩:=R.hp _ _ _ hg hM;have Uc:=N9 (xV hq hv);refine enter e (h2.app (Uc.app h3)) (λw=>?_);have:args.map a.eval=(args.toList.map a.eval).toArray:=by rw[←Array.toList_map]
    simp[execOp,ho,resolve,h1,Deferred.ofValue,invoke,this,Array.append_assoc]
   .cases e
  .cases e
theorem CA(T:ud P tt mt tb ka)(hI:FI P idx)(hC:vO P call)(R:Rel w0 M z w)(hn:∀t,.tmp t∈jb o.op->t<a.tmps.size)(hd:a.defers=[])(e:oneE P tt mt tb ka idx call o vs z=some (av,z'))(hv:OR M a (jb o.op) vs)(k:Nxt w0 M a o z av z' K):o.wp P a w K Q:=by
 unfold oneE W6 at e;split at e
 .cases hp:AA P tt mt tb ka o vs z.h with
  |none=>rw[hp]at e;cases e
  |some v=>rw[hp]at e;cases e;obtain⟨u,run,hu⟩:=MG T R.hp hn hd hp hv;unfold Oper.wp;rw[run];exact k u w M (Ext.refl _ _) hu R
 .cases hp:oZ tt mt o vs with
  |none=>rw[hp]at e;cases e
  |some q =>
   obtain⟨f,b⟩:=q;rw[hp]at e;cases e;have hz:M z.n=none:=R.nx z.n (aK _);obtain⟨v,en,w',run,h1,h2,h3⟩:=Tm (k:=z.n) (w:=w) T hz hp hv;unfold Oper.wp;rw[run];refine k v w' _ ⟨js hz,λj hj=>dN _ _ (by omega),Nat.le_succ _⟩ h2 ?_;exact(R.promise b).Tz hz (Nat.lt_succ_self _) (λx hx=>by
    rcases tQ hx with⟨_,h⟩|⟨h,_⟩
    .exact h.symm
    .exact absurd rfl h) h1 h3
 .cases ho:o.op<;>simp only[loudE,ho]at e<;>try (cases e;done)
  case store=>rw[ho]at hv;exact(Py T R e ho hv).wp k
  case mapUpdate=>rw[ho]at hv;exact(Xy T R e ho hv).wp k
  case call c=>exact TQ T hI hC R e ho hv k
end
end
section
section
variable{P:Program}{tt:Tr sX}{mt:Tr (Nat×Nat×Value)}{tb:oQ}{ka:Nat->Nat->Bool}
variable{M:Mp}{a:Act}{w w0:World}{o:Oper}{av:AV}{vs:List AV}{z z':Z}{r r':R}{nt:Nat}
variable{idx:FuncId->Bool}{call:FuncId->List V1->Z->Ld}{Q:Exit->Act->World->Prop}
theorem UU(h:RR nt M r a):∀{l:List Operand} {vs:List AV},j7 r l=some vs->∀t,.tmp t∈l->t<a.tmps.size
 |[],_,_,t,ht=>by cases ht
 |x::l,vs,e,t,ht=>by
  rw[Dd]at e;cases h1:ev r x with
  |none=>rw[h1]at e;cases e
  |some av =>
   cases h2:j7 r l with
   |none=>rw[h1,h2]at e;cases e
   |some q =>
    rcases aE.1 ht with rfl|ht
    .obtain⟨v,g,_⟩:=h.al t av h1;exact(gw.1 g).1
    .exact UU h h2 t ht
theorem UC{all:List Oper}(h:RR nt M r a){b:Bool}(e:guardE all r o.guard=some b):Region.wanted o (yielded all.toArray a.tmps)=b:=by
 cases hg:o.guard with
 |none=>rw[hg]at e;cases e;simp[Region.wanted,hg]
 |some q =>
  obtain⟨j,want⟩:=q;rw[hg]at e;replace e:gD r want all[j]?=some b:=e;cases xF:all[j]? with
  |none=>rw[xF]at e;cases e
  |some o' =>
   rw[xF]at e;simp only[gD]at e;cases hd:o'.dst with
   |none=>rw[hd]at e;cases e
   |some d =>
    rw[hd]at e;simp only at e;cases uB:get r d with
    |none=>rw[uB]at e;cases e
    |some av =>
     rw[uB]at e;obtain⟨v,h1,h2⟩:=h.al d _ uB
     match av,e,h2 with
     |.o (.s (.v (.bool b'))),e,h2 =>
      subst h2;cases e;have hy:yielded all.toArray a.tmps j=some b':=by simp[yielded,xF,hd,h1]
      simp only[Region.wanted,hg,hy];rfl
     |.t [],e,⟨vs,h2,h3⟩ =>
      subst h2;cases e;have hy:yielded all.toArray a.tmps j=none:=by simp[yielded,xF,hd,h1]
      simp only[Region.wanted,hg,hy];rfl
def V8(w0:World)(nt:Nat)(M:Mp)(z:Z)(r':R)(z':Z)(a':Act)(w':World):Prop:=∃M',Ext z M z' M'/\RR nt M' r' a'/\Rel w0 M' z' w'
theorem V8.trans{M1:Mp}{z1:Z}{a':Act}{w':World}(e:Ext z M z1 M1)(h:V8 w0 nt M1 z1 r' z' a' w'):V8 w0 nt M z r' z' a' w' :=
 let⟨M',h1,h2,h3⟩:=h;⟨M',e.trans h1,h2,h3⟩
structure OK (P:Program) (tt:Tr sX) (mt:Tr (Nat×Nat×Value)) (tb:oQ) (ka:Nat->Nat->Bool) (idx:FuncId->Bool) (call:FuncId->List V1->Z->Ld):Prop where
 t:ud P tt mt tb ka
 i:FI P idx
 c:vO P call
 m:P.follows .mixedOrders=true
theorem Wo(O:OK P tt mt tb ka idx call)(h:RR nt M r a)(R:Rel w0 M z w){all:List Oper}(e:HM P tt mt tb ka idx call nt all o r z=some (r',z')){K:Act->World->Prop}(k:∀a' w',V8 w0 nt M z r' z' a' w'->K a' w'):
  if Region.wanted o (yielded all.toArray a.tmps)then o.wp P a w K Q∨(o.asks P a w/\LetsOut Q)else K (a.put o.dst undef) w:=by
 unfold HM stepG at e;split at e
 .rename_i b hb;have hw:=UC h hb;cases b with
  |true =>
   rw[if_pos hw];refine .inl ?_;cases he:j7 r (jb o.op)with
   |none=>rw[he]at e;cases e
   |some vs =>
    cases ho:oneE P tt mt tb ka idx call o vs z with
    |none=>simp only[he,aaI,ho]at e;cases e
    |some q=>simp only[he,aaI,ho]at e;refine CA O.t O.i O.c R (UU h he) h.defers ho (UW h he) (λu w' M' h1 h2 h3=>?_);obtain⟨rfl,h4⟩:=(h.mono h1.le).put e h2;exact k _ _ ⟨M',h1,h4,h3⟩
  |false=>rw[if_neg (by rw[hw];simp)];obtain⟨rfl,h4⟩:=h.put e (v:=undef) ⟨[],rfl,trivial⟩;exact k _ _ ⟨M,Ext.refl _ _,h4,R⟩
 .cases e
theorem MD(O:OK P tt mt tb ka idx call){all:List Oper}:∀(l:List Oper) {M:Mp} {a:Act} {w:World} {r:R} {z:Z},RR nt M r a->Rel w0 M z w->aaM P tt mt tb ka idx call nt all l r z=some (r',z')->(∀a' w',V8 w0 nt M z r' z' a' w'->Q .normal a' w')->wpList P all.toArray Q l a w
 |[],M,a,w,r,z,h,R,e,k=>by cases e;exact k a w ⟨M,Ext.refl _ _,h,R⟩
 |o::l,M,a,w,r,z,h,R,e,k=>by
  have e:regK (aaM P tt mt tb ka idx call nt all l) (HM P tt mt tb ka idx call nt all o r z)=some (r',z'):=e;cases hs:HM P tt mt tb ka idx call nt all o r z with
  |none=>rw[hs]at e;cases e
  |some q=>rw[hs]at e;refine Wo O h R hs (λa1 w1 ⟨M1,h1,h2,h3⟩=>?_);exact MD O l h2 h3 e (λa' w' h'=>k a' w' (h'.trans h1))
def vN(P:Program)(tt:Tr sX)(mt:Tr (Nat×Nat×Value))(tb:oQ)(ka:Nat->Nat->Bool)(idx:FuncId->Bool)(call:FuncId->List V1->Z->Ld):Prop :=
 ∀(nt:Nat)(w0:World)(M:Mp)(a:Act)(w:World)(r:R)(z:Z)(r':R)(z':Z)(id:Nat)(ops:Array Oper)(Q:Exit->Act->World->Prop),
  RR nt M r a->Rel w0 M z w->Z8 P tt mt tb ka idx call nt ops.toList r z=some (r',z')->(∀a' w',V8 w0 nt M z r' z' a' w'->Q .normal a' w')->(Code.region id ops true).wp P Q a w
def ex:X->Exit
 |.n=>.normal
 |.x id=>.exit id
 |.g l=>.goto l
 |.r=>.ret
def QX(w0:World)(nt:Nat)(M:Mp)(z:Z)(x:X)(r':R)(z':Z)(e:Exit)(a':Act)(w':World):Prop:=e=ex x/\V8 w0 nt M z r' z' a' w'
structure adv (P:Program) (tt:Tr sX) (mt:Tr (Nat×Nat×Value)) (tb:oQ) (ka:Nat->Nat->Bool) (idx:FuncId->Bool) (call:FuncId->List V1->Z->Ld) (w0:World) (nt n:Nat):Prop where
 p:∀{c:Code} {M:Mp} {a:Act} {w:World} {r:R} {z:Z} {x:X} {r':R} {z':Z},RR nt M r a->Rel w0 M z w->j9 P tt mt tb ka idx call nt n none c r z=some (x,r',z')->c.wp P (QX w0 nt M z x r' z') a w
 s:∀{s c:Code} {M:Mp} {a:Act} {w:World} {r:R} {z:Z} {x:X} {r':R} {z':Z},RR nt M r a->Rel w0 M z w->j9 P tt mt tb ka idx call nt n (some s) c r z=some (x,r',z') ->
  ∀(b:Frame)(k:List Item)(cs:List Frame),∃e a' w',QX w0 nt M z x r' z' e a' w'/\Arrives P (lone (b.at a (.code c :: .inScope s::k)) cs w) b k cs e a' w'
 l:∀{c:Code} {M:Mp} {a:Act} {w:World} {r:R} {z:Z} {x:X} {r':R} {z':Z},RR nt M r a->Rel w0 M z w->j9 P tt mt tb ka idx call nt n none (.loop c) r z=some (x,r',z') ->
  ∀(b:Frame)(k:List Item)(cs:List Frame),∃e a' w',QX w0 nt M z x r' z' e a' w'/\Arrives P (lone (b.at a (.inLoop c::k)) cs w) b k cs e a' w'
theorem QX.trans{M1:Mp}{z1:Z}{x:X}{e:Exit}{a':Act}{w':World}(h:Ext z M z1 M1)(k:QX w0 nt M1 z1 x r' z' e a' w'):QX w0 nt M z x r' z' e a' w':=⟨k.1,k.2.trans h⟩
theorem Hg(O:OK P tt mt tb ka idx call)(D:vN P tt mt tb ka idx call)(w0:World)(nt:Nat):∀n,adv P tt mt tb ka idx call w0 nt n
 |0=>⟨λ_ _ e=>(by cases e),λ_ _ e=>(by cases e),λ_ _ e=>(by cases e)⟩
 |n+1=>by
  have ih:=Hg O D w0 nt n;have eq:∀sc c r z,j9 P tt mt tb ka idx call nt (n+1) sc c r z=codeS P tt mt tb ka idx call nt (j9 P tt mt tb ka idx call nt n) sc c r z:=λ_ _ _ _=>rfl;have round:∀{c:Code} {M:Mp} {a:Act} {w:World} {r:R} {z:Z} {x:X} {r':R} {z':Z},RR nt M r a->Rel w0 M z w->j9 P tt mt tb ka idx call nt (n+1) none (.loop c) r z=some (x,r',z') ->
   ∀(b:Frame)(k:List Item)(cs:List Frame),∃e a' w',QX w0 nt M z x r' z' e a' w'/\Arrives P (lone (b.at a (.code c :: .inLoop c::k)) cs w) b k cs e a' w':=by
   intro c M a w r z x r' z' h R e b k cs;have e:sqK (j9 P tt mt tb ka idx call nt n none (.loop c)) (j9 P tt mt tb ka idx call nt n none c r z)=some (x,r',z'):=e;cases hb:j9 P tt mt tb ka idx call nt n none c r z with
   |none=>rw[hb]at e;cases e
   |some q =>
    obtain⟨x1,r1,z1⟩:=q;rw[hb]at e;obtain⟨e1,a1,w1,⟨rfl,M1,h1,h2,h3⟩,harr⟩:=ih.p h R hb b (.inLoop c::k) cs;cases x1 with
    |n=>obtain⟨e2,a2,w2,hq,UA⟩:=ih.l h2 h3 e b k cs;exact⟨e2,a2,w2,hq.trans h1,.of_steps harr UA⟩
    |x id=>cases e;exact⟨_,a1,w1,⟨rfl,M1,h1,h2,h3⟩,.pass (x:=.inLoop c) rfl (λ_ _=>.inl (by simp[ex])) harr⟩
    |g l=>cases e;exact⟨_,a1,w1,⟨rfl,M1,h1,h2,h3⟩,.pass (x:=.inLoop c) rfl (λ_ _=>.inl (by simp[ex])) harr⟩
    |r=>cases e;exact⟨_,a1,w1,⟨rfl,M1,h1,h2,h3⟩,.pass (x:=.inLoop c) rfl (λ_ _=>.inl (by simp[ex])) harr⟩
  refine⟨?_,?_,?_⟩
  .intro c M a w r z x r' z' h R e;cases c with
   |skip=>cases e;exact wp_skip ⟨rfl,M,Ext.refl _ _,h,R⟩
   |label l=>cases e;exact wp_label ⟨rfl,M,Ext.refl _ _,h,R⟩
   |exit id=>cases e;exact wp_exit ⟨rfl,M,Ext.refl _ _,h,R⟩
   |goto l=>cases e;exact wp_goto ⟨rfl,M,Ext.refl _ _,h,R⟩
   |ret=>cases e;exact wp_ret ⟨rfl,M,Ext.refl _ _,h,R⟩
   |refuse=>cases e
   |rangeFunc=>cases e
   |region id ops dr =>
    have Zn:∀{y:Option (Go.Ex.R×Z)},outN y=some (x,r',z')->x=.n/\y=some (r',z'):=by
     intro y hy;cases y with
     |none=>cases hy
     |some q=>cases hy;exact⟨rfl,rfl⟩
    cases dr with
    |false=>obtain⟨rfl,e2⟩:=Zn e;refine wp_region_list ?_;have:=MD (Q:=QX w0 nt M z .n r' z') O ops.toList h R e2 (λa' w' h'=>⟨rfl,h'⟩);omega
    |true=>obtain⟨rfl,e2⟩:=Zn e;exact D nt w0 M a w r z r' z' id ops _ h R e2 (λa' w' h'=>⟨rfl,h'⟩)
   |seq y1 y2 =>
    have e:sqK (j9 P tt mt tb ka idx call nt n none y2) (j9 P tt mt tb ka idx call nt n none y1 r z)=some (x,r',z'):=e;cases hb:j9 P tt mt tb ka idx call nt n none y1 r z with
    |none=>rw[hb]at e;cases e
    |some q =>
     obtain⟨x1,r1,z1⟩:=q;rw[hb]at e;refine wp_seq (wp_mono (ih.p h R hb) ?_);rintro e1 a1 w1 ⟨rfl,M1,h1,h2,h3⟩;cases x1 with
     |n=>exact wp_mono (ih.p h2 h3 e) (λ_ _ _ q=>q.trans h1)
     |x id=>cases e;exact⟨rfl,M1,h1,h2,h3⟩
     |g l=>cases e;exact⟨rfl,M1,h1,h2,h3⟩
     |r=>cases e;exact⟨rfl,M1,h1,h2,h3⟩
   |cond c y1 y2 =>
    have e:cdK (j9 P tt mt tb ka idx call nt n none y1 r z) (j9 P tt mt tb ka idx call nt n none y2 r z) (ev r c)=some (x,r',z'):=e;unfold cdK at e;split at e
    .rename_i t hc;have hv:=Z3 h hc;cases t with
     |true=>exact wp_cond_true hv (ih.p h R e)
     |false=>exact wp_cond_false hv (ih.p h R e)
    grind
   |block id c =>
    have e:bkK id (j9 P tt mt tb ka idx call nt n none c r z)=some (x,r',z'):=e;cases hb:j9 P tt mt tb ka idx call nt n none c r z with
    |none=>rw[hb]at e;cases e
    |some q =>
     obtain⟨x1,r1,z1⟩:=q;rw[hb]at e;refine wp_block (wp_mono (ih.p h R hb) ?_);rintro e1 a1 w1 ⟨rfl,M1,h1,h2,h3⟩;cases x1 with
     |n=>cases e;exact⟨rfl,M1,h1,h2,h3⟩
     |g l=>cases e;exact⟨rfl,M1,h1,h2,h3⟩
     |r=>cases e;exact⟨rfl,M1,h1,h2,h3⟩
     |x j =>
      simp only[bkK]at e;show(if j=id then _ else _);cases hj:Nat.beq j id with
      |true=>rw[hj]at e;cases e;rw[if_pos (aD hj)];exact⟨rfl,M1,h1,h2,h3⟩
      |false=>rw[hj]at e;cases e;rw[if_neg (λq=>by rw[q,eH]at hj;cases hj)];exact⟨rfl,M1,h1,h2,h3⟩
   |loop c=>intro b k cs;obtain⟨e1,a1,w1,hq,harr⟩:=round h R (by rw[eq];exact e) b k cs;exact⟨e1,a1,w1,hq,.of_steps (.one step_loop) harr⟩
   |scope c=>intro b k cs;obtain⟨e1,a1,w1,hq,harr⟩:=ih.s h R e b k cs;exact⟨e1,a1,w1,hq,.of_steps (.one step_scope) harr⟩
  .intro s c M a w r z x r' z' h R e b k cs;have e:scK s (j9 P tt mt tb ka idx call nt n (some s)) (j9 P tt mt tb ka idx call nt n none c r z)=some (x,r',z'):=e;cases hb:j9 P tt mt tb ka idx call nt n none c r z with
   |none=>rw[hb]at e;cases e
   |some q =>
    obtain⟨x1,r1,z1⟩:=q;rw[hb]at e;obtain⟨e1,a1,w1,⟨rfl,M1,h1,h2,h3⟩,harr⟩:=ih.p h R hb b (.inScope s::k) cs;cases x1 with
    |n=>cases e;exact⟨.normal,a1,w1,⟨rfl,M1,h1,h2,h3⟩,Steps.trans harr (.one step_inScope)⟩
    |x id=>cases e;exact⟨.exit id,a1,w1,⟨rfl,M1,h1,h2,h3⟩,λk' hk=>harr k' (by simp[exitTo,hk])⟩
    |r=>cases e;exact⟨_,a1,w1,⟨rfl,M1,h1,h2,h3⟩,harr⟩
    |g l =>
     simp only[scK]at e;cases hf:findLabel s l with
     |none=>rw[hf]at e;cases e;exact⟨.goto l,a1,w1,⟨rfl,M1,h1,h2,h3⟩,λk' hk=>harr k' (by simp[gotoIn,hf,hk])⟩
     |some q=>rw[hf]at e;obtain⟨e2,a2,w2,hq,UA⟩:=ih.s h2 h3 e b k cs;exact⟨e2,a2,w2,hq.trans h1,.of_steps (harr _ (by simp[gotoIn,hf])) UA⟩
  .intro c M a w r z x r' z' h R e b k cs;obtain⟨e1,a1,w1,hq,harr⟩:=round h R e b k cs;exact⟨e1,a1,w1,hq,.of_steps (.one step_inLoop) harr⟩
theorem J0:∀(l:List V1)(i:Nat)(r:R)(t:Nat)(av:AV),get (args i l r) t=some av->(i<=t/\∃v,l[t-i]?=some v/\av=.o v)∨get r t=some av
 |[],_,_,_,_,h=>.inr h
 |v::l,i,r,t,av,h=>by
  rcases J0 l (i+1) (set 12 r i (some (.o v))) t av h with⟨h1,u,h2,h3⟩|h
  .refine .inl ⟨by omega,u,?_,h3⟩;rw[show t-i=(t-(i+1))+1 by omega];simpa using h2
  .rcases lM _ _ _ _ _ _ h with⟨rfl,h'⟩|⟨_,h'⟩
   .exact .inl ⟨aK _,v,by simp,(Option.some.inj h').symm⟩
   .exact .inr h'
theorem FL.get'{α β:Type}{R:α->β->Prop}{l:List α}{q:List β}(h:FL R l q){i:Nat}{x:α}(e:l[i]?=some x):∃y,q[i]?=some y/\R x y:=FL.get h i x e
theorem YN{nt:Nat}{q:List V1}{vals:List Value}(h:QT M q vals)(hn:q.length<=nt):RR nt M (args 0 q .e) { tmps:=vals.toArray++Array.replicate (nt-vals.toArray.size) undef,defers:=[] }:=by
 have hl:=h.len;refine⟨by simp;omega,rfl,λt av e=>?_⟩;rcases J0 _ _ _ _ _ e with⟨_,v,h1,rfl⟩|h
 .obtain⟨u,h2,h3⟩:=h.get' h1;have eB:=(dz.1 h2).1;refine⟨u,?_,h3⟩;rw[Array.getElem?_append_left (by simpa using eB)];simpa using h2
 .cases h
theorem Gj(T:ud P tt mt tb ka)(h:RR nt M r a)(R:Rel w0 M z w):∀(l:List ResultVar)(q:List V1),D8 tt r z l=some q->∃vs,(l.mapM (rv a.tmps)).run P w=.ok vs w/\QT M q vs
 |[],q,e=>by cases e;exact⟨[],rfl,trivial⟩
 |.tmp t::l,q,e=>by
  simp only[D8]at e;split at e
  .rename_i v q' hv hq;cases e;obtain⟨u,g1,g2⟩:=h.al _ _ hv;obtain⟨vs,k1,k2⟩:=Gj T h R l q' hq;refine⟨u::vs,?_,g2,k2⟩;simp only[kX,bU,cM,bW,k1,rv];simp[g1]
  grind
 |.cell b t::l,q,e=>by
  simp only[D8]at e;split at e
  .rename_i i off ty q' hv ht hq;split at e
   .rename_i v hr;cases e;obtain⟨u,g1,b',s,N,g2,rfl⟩:=h.al _ _ hv;obtain⟨vs,k1,k2⟩:=Gj T h R l q' hq;cases hl:ld z.h i off ty.size with
    |none=>rw[hl]at hr;cases hr
    |some c =>
     rw[hl]at hr;obtain⟨arr,bt,p1,p2,p3,p4⟩:=zd R.hp hl g2;obtain⟨inf,d,zv,hi,hd,hz,hs,lZ,lx,iA,_⟩:=a8 (T.t _ _ ht);have p1':w.heap[b']?=some (.cells arr.toList.toArray bt (0,0)):=by simpa using p1
     have uB:a.tmps.getD b undef=.pointer (some ⟨b',s+off,none⟩):=by simp[g1]
     have load:∃u,(loadVar t ⟨b',s+off,none⟩).run P w=.ok u w/\VV M v u:=by
      rcases Lk hr p3 with⟨ha,hv'⟩|⟨ha,u,hu,hv'⟩
      .refine⟨_,?_,hv'⟩;have:=lH (P:=P) (w:=w) (off:=s+off) hi hd (by rw[←iA,ha]) p1' (by simp;omega);rw[hs]at this;exact this
      .refine⟨_,?_,hv'⟩;have hg:arr.toList[s+off]?=some u:=by
        have:((arr.toList.drop (s+off)).take ty.size)[0]?=some u:=by rw[hu];rfl
        grind
       exact lG (P:=P) (w:=w) (off:=s+off) hd (by rw[←iA,ha]) p1' hg
     obtain⟨u,hu,huv⟩:=load;refine⟨u::vs,?_,huv,k2⟩;simp only[kX,bU,cM,bW,k1,rv,uB,asAddr,hu]
   .cases e
  grind
theorem Gy{q:List V1}{vs:List Value}(h:QT M q vs):VA M (oneR q) (one vs):=by
 match q,vs,h with
 |[],[],h=>exact⟨[],rfl,trivial⟩
 |[v],[u],h=>exact h.1
 |v::v'::q,u::u'::vs,h=>exact⟨u::u'::vs,rfl,h⟩
def ahK(P:Program)(ft:Tr Func):Prop:=∀f fn,get ft f=some fn->P.funcs[f]?=some fn/\(fn.name == "runtime.NumGoroutine")=false
def VG(P:Program)(C6:FuncId->List V1->Z->Option Ld):Prop :=
 ∀f q z av z',C6 f q z=some (some (av,z'))->eX P f=true/\∀w0 M w vals,QT M q vals->Rel w0 M z w ->
  Calls P f vals.toArray w (λe w'=>∃v M',e=.returned v/\Ext z M z' M'/\VA M' av v/\Rel w0 M' z' w')
theorem DA(T:ud P tt mt tb ka)(hI:FI P idx)(hm:P.follows .mixedOrders=true){ft:Tr Func}{C6:FuncId->List V1->Z->Option Ld}(hF:ahK P ft)(hH:VG P C6)
  (D:∀call,vO P call->vN P tt mt tb ka idx call):∀n,vO P (FB P tt mt tb ka ft idx C6 n)
 |0=>λ_ _ _ _ _ e=>(by cases e)
 |n+1=>by
  have ih:=DA T hI hm hF hH D n;intro f q z av z' e;have e:hkK (Vd P tt mt tb ka (FB P tt mt tb ka ft idx C6 n) idx q z (get ft f)) (C6 f q z)=some (av,z'):=e;cases hh:C6 f q z with
  |some y=>rw[hh]at e;subst e;exact hH f q z av z' hh
  |none =>
   rw[hh]at e;cases hg:get ft f with
   |none=>rw[hg]at e;cases e
   |some fn =>
    rw[hg]at e;obtain⟨hf,Um⟩:=hF f fn hg;simp only[Vd]at e;cases hb:fn.body with
    |none=>rw[hb]at e;cases e
    |some c =>
     rw[hb]at e;replace e:=gP e;obtain⟨hn,e⟩:=e;have hn:=aB hn;refine⟨by unfold eX;rw[hf];simp[hb,Um],λw0 M w vals hv R=>?_⟩;refine calls_of_wp hf hb ?_;have O:OK P tt mt tb ka idx (FB P tt mt tb ka ft idx C6 n):=⟨T,hI,ih,hm⟩
     cases hc:j9 P tt mt tb ka idx (FB P tt mt tb ka ft idx C6 n) fn.ntmps 100000 none c (args 0 q .e) z with
     |none=>rw[hc]at e;cases e
     |some y =>
      obtain⟨x,r',z1⟩:=y;rw[hc]at e;refine wp_mono ((Hg O (D _ ih) w0 fn.ntmps 100000).p (YN hv hn) R hc) ?_;rintro e1 a1 w1 ⟨rfl,M1,h1,h2,h3⟩;have fin:∀{q':List V1},D8 tt r' z1 fn.results.toList=some q'->(oneR q',z1)=(av,z')->a1.defers=[]/\∃v,(results fn a1.tmps).run P w1=.ok v w1/\∃v' M',Ending.returned v=.returned v'/\Ext z M z' M'/\VA M' av v'/\Rel w0 M' z' w1:=by
       intro q' hq he;cases he;obtain⟨vs,k1,k2⟩:=Gj T h2 h3 _ _ hq;refine⟨h2.defers,one vs,?_,one vs,M1,rfl,h1,Gy k2,h3⟩;rw[xp,Array.mapM_eq_mapM_toList,bU,Sem.run_map,k1];congr 1
       match vs with
       |[]=>rfl
       |[v]=>rfl
       |v::u::l=>simp[one]
      cases x with
      |n =>
       simp only[abc]at e;cases hq:D8 tt r' z1 fn.results.toList with
       |none=>rw[hq]at e;cases e
       |some q'=>rw[hq]at e;exact fin hq (Option.some.inj e)
      |r =>
       simp only[abc]at e;cases hq:D8 tt r' z1 fn.results.toList with
       |none=>rw[hq]at e;cases e
       |some q'=>rw[hq]at e;exact fin hq (Option.some.inj e)
      |x id=>cases e
      |g l=>cases e
end
end
section
theorem beq_iff{a b:Nat}:Nat.beq a b=true↔a=b:=⟨aD,λh=>by rw[h,eH]⟩
theorem Vk{a b:Nat}:Nat.beq a b=false↔a≠b:=by
 refine⟨λh e=>(by rw[e,eH]at h;cases h),λh=>?_⟩;cases hb:Nat.beq a b with
 |false=>rfl
 |true=>exact(h (beq_iff.1 hb)).elim
def L9(all:List Oper)(p:Pt):Prop:=all[p.i]?=some p.o/\p.k=vj p.o.op/\p.dm=Dj p.o.after.toList
theorem E7(o:Op):vj o=0∨vj o=1∨vj o=2:=by
 cases o<;>first|exact .inl rfl|exact .inr (.inl rfl)|exact .inr (.inr rfl)|skip
 rename_i c;show kindC c.callee=0∨kindC c.callee=1∨kindC c.callee=2;cases hc:c.callee<;>first|exact .inr (.inr rfl)|skip
 rename_i b;cases b<;>first|exact .inl rfl|exact .inr (.inr rfl)
theorem HE(i j:Nat):Nat.testBit (bit i) j=decide (i=j):=by
 have:bit i=2^i:=by show 1 <<< i=2^i;omega
 grind
theorem Np(m i j:Nat):isIn j (Nat.lor m (bit i))=true↔isIn j m=true∨j=i:=by
 show Nat.testBit (m ||| bit i) j=true↔Nat.testBit m j=true∨j=i;rw[Nat.testBit_or,HE,dS,decide_eq_true_iff];grind
theorem Fc(j:Nat):isIn j 0=false:=Nat.zero_testBit j
theorem Ru{a b:Nat}(h:sub a b=true){j:Nat}(k:isIn j a=true):isIn j b=true:=by
 have e:a &&& b=a:=beq_iff.1 h;have k:Nat.testBit a j=true:=k;show Nat.testBit b j=true;grind
theorem Ai(j:Nat):∀l:List Edge,isIn j (Dj l)=true↔∃e∈l,isB e=true/\e.on=j
 |[]=>by show isIn j 0=true↔_;grind[Fc]
 |e::l=>by
  have ih:=Ai j l;show isIn j (Bool.rec (Dj l) (Nat.lor (Dj l) (bit e.on)) (isB e))=true↔_;cases hb:isB e with
  |false=>grind
  |true=>grind[Nat.lor,Np]
theorem EC:∀(l:List Oper)(k:Nat)(p:Pt),p∈wX l k->∃j o,l[j]?=some o/\p=⟨k+j,o,vj o.op,Dj o.after.toList,0,0⟩
 |[],_,_,h=>by cases h
 |o::l,k,p,h=>by
  rcases aE.1 (show p∈_::wX l (k+1)from h)with rfl|h
  .exact⟨0,o,rfl,rfl⟩
  .obtain⟨j,o',h1,h2⟩:=EC l (k+1) p h;exact⟨j+1,o',by simpa using h1,by rw[h2];congr 1;omega⟩
theorem EY:∀(l:List Oper)(k j:Nat)(o:Oper),l[j]?=some o->(⟨k+j,o,vj o.op,Dj o.after.toList,0,0⟩:Pt)∈wX l k
 |[],_,_,_,h=>by simp at h
 |o::l,k,0,o',h=>by simp at h;subst h;exact aI
 |o::l,k,j+1,o',h=>by have:=EY l (k+1) j o' (by simpa using h);rw[show k+(j+1)=k+1+j by omega];exact aw _ this
theorem Ch{all:List Oper}{p:Pt}(h:p∈wX all 0):L9 all p:=by
 obtain⟨j,o,h1,rfl⟩:=EC all 0 p h;exact⟨by simpa using h1,rfl,rfl⟩
theorem vw{f:Pt->Bool}:∀{l:List Pt} {p:Pt},G6 f l=some p->p∈l/\f p=true
 |[],_,h=>by cases h
 |x::l,p,h=>by
  have h:(Bool.rec (G6 f l) (some x) (f x):Option Pt)=some p:=h;cases hf:f x with
  |true=>rw[hf]at h;cases h;exact⟨aI,hf⟩
  |false=>rw[hf]at h;exact⟨aw _ (vw h).1,(vw h).2⟩
theorem KX{l:List Pt}{m:Nat}{p:Pt}(h:H9 l m=some p):p∈l/\isIn p.i m=false/\sub p.dm m=true:=by
 unfold H9 at h;have two:∀a b:Option Pt,orE a b=some p->a=some p∨b=some p:=λa b h=>by
  cases a with
  |some x=>exact .inl h
  |none=>exact .inr h
 grind[vw]
def Ord:(Nat->Prop)->Nat->List Pt->Prop
 |_,_,[]=>True
 |S,c,p::q=>¬S p.i/\(∀j,isIn j p.dm=true->S j)/\p.c=c/\Ord (λj=>S j∨j=p.i) (bif Nat.beq p.k 2 then Nat.succ c else c) q
theorem Ord.congr:∀{q:List Pt} {S T:Nat->Prop} {c:Nat},(∀j,S j↔T j)->Ord S c q->Ord T c q
 |[],_,_,_,_,_=>trivial
 |p::q,S,T,c,e,h=>⟨λk=>h.1 ((e _).2 k),λj hj=>(e j).1 (h.2.1 j hj),h.2.2.1,Ord.congr (λj=>by rw[e j]) h.2.2.2⟩
theorem Cu{all:List Oper}{l:List Pt}(hl:∀p∈l,L9 all p):∀{n m c:Nat} {q:List Pt},order l n m c=some q->Ord (λj=>isIn j m=true) c q/\(∀p∈q,L9 all p)/\q.length=n
 |0,m,c,q,h=>by cases h;exact⟨trivial,(by simp),rfl⟩
 |n+1,m,c,q,h=>by
  have h:orderK (order l n) m c (H9 l m)=some q:=h;cases hp:H9 l m with
  |none=>rw[hp]at h;cases h
  |some p =>
   rw[hp]at h;obtain⟨h1,h2,h3⟩:=KX hp;simp only[orderK]at h;cases hq:order l n (Nat.lor m (bit p.i)) (bif Nat.beq p.k 2 then Nat.succ c else c)with
   |none=>rw[hq]at h;cases h
   |some q' =>
    rw[hq]at h;cases h;obtain⟨k1,k2,k3⟩:=Cu hl hq;refine⟨⟨by simp[h2],λj hj=>Ru h3 hj,rfl,k1.congr λj=>Np _ _ _⟩,?_,by simp[k3]⟩;intro x hx;rcases aE.1 hx with rfl|hx
    .exact hl p h1
    grind
theorem BE(l:List Pt)(C:Nat):∀{q:List Pt} {S:Nat->Prop} {c:Nat},Ord S c q->Ord S c (xe l C q)
 |[],_,_,_=>trivial
 |p::q,S,c,h=>⟨h.1,h.2.1,h.2.2.1,BE l C h.2.2.2⟩
theorem sZ{l:List Pt}{C:Nat}{q:List Pt}{p:Pt}(h:p∈xe l C q):∃u∈q,p=⟨u.i,u.o,u.k,u.dm,u.c,oN u.i C l⟩:=by
 obtain⟨u,h1,h2⟩:=aq.1 (show p∈q.map _ from h);grind
theorem xB{l:List Pt}{C:Nat}{q:List Pt}{u:Pt}(h:u∈q):(⟨u.i,u.o,u.k,u.dm,u.c,oN u.i C l⟩:Pt)∈xe l C q:=aq.2 ⟨u,h,rfl⟩
theorem Fg(i d:Nat):∀l:List Pt,oN i d l=d∨∃u∈l,u.k=2/\isIn i u.dm=true/\u.c=oN i d l
 |[]=>.inl rfl
 |p::l=>by
  have ih:=Fg i d l;show(Bool.rec (oN i d l) p.c (Nat.beq p.k 2&&isIn i p.dm):Nat)=d∨∃u∈p::l,u.k=2/\isIn i u.dm=true/\u.c=(Bool.rec (oN i d l) p.c (Nat.beq p.k 2&&isIn i p.dm):Nat)
  cases hb:(Nat.beq p.k 2&&isIn i p.dm)with
  |true=>simp_all
  |false=>grind
section
theorem qc(p:Pt)(q:List Pt):kZ (p::q)=(bif Nat.beq p.k 2 then Nat.succ (kZ q)else kZ q):=by
 show(Bool.rec (kZ q) (Nat.succ (kZ q)) (Nat.beq p.k 2):Nat)=_;cases Nat.beq p.k 2<;>rfl
theorem ya(l:List Pt)(C:Nat):∀q,kZ (xe l C q)=kZ q
 |[]=>rfl
 |p::q=>by have:=ya l C q;show kZ (_::xe l C q)=_;grind[qc]
theorem Ord.Xb:∀{q:List Pt} {S:Nat->Prop} {c:Nat},Ord S c q->∀p∈q,¬S p.i
 |[],_,_,_,x,hx,_=>by cases hx
 |p::q,S,c,h,x,hx,hs=>by
  rcases aE.1 hx with rfl|hx
  .exact h.1 hs
  .exact Ord.Xb h.2.2.2 x hx (.inl hs)
theorem Ord.uniq:∀{q:List Pt} {S:Nat->Prop} {c:Nat},Ord S c q->∀p∈q,∀u∈q,p.i=u.i->p=u
 |[],_,_,_,p,hp,_,_,_=>by cases hp
 |y::q,S,c,h,p,hp,u,hu,e=>by
  rcases aE.1 hp with rfl|hp'
  .rcases aE.1 hu with rfl|hu'
   .rfl
   .exact(Ord.Xb h.2.2.2 u hu' (.inr e.symm)).elim
  .rcases aE.1 hu with rfl|hu'
   .exact(Ord.Xb h.2.2.2 p hp' (.inr e)).elim
   .exact Ord.uniq h.2.2.2 p hp' u hu' e
theorem BO{p:Pt}{c:Nat}:c<=(bif Nat.beq p.k 2 then Nat.succ c else c):=by cases Nat.beq p.k 2<;>simp
theorem Ord.ge:∀{q:List Pt} {S:Nat->Prop} {c:Nat},Ord S c q->∀p∈q,c<=p.c
 |[],_,_,_,p,hp=>by cases hp
 |y::q,S,c,h,p,hp=>by
  rcases aE.1 hp with rfl|hp
  .exact Nat.le_of_eq h.2.2.1.symm
  .exact bP BO (Ord.ge h.2.2.2 p hp)
theorem Ord.Iw:∀{q:List Pt} {S:Nat->Prop} {c:Nat},Ord S c q->∀p∈q,∀u∈q,p.k=2->u.k=2->p.c=u.c->p=u
 |[],_,_,_,p,hp,_,_,_,_,_=>by cases hp
 |y::q,S,c,h,p,hp,u,hu,k1,k2,e=>by
  rcases aE.1 hp with rfl|hp'
  .rcases aE.1 hu with rfl|hu'
   .rfl
   .have:=Ord.ge h.2.2.2 u hu';rw[beq_iff.2 k1]at this;have h3:=h.2.2.1;simp at this;omega
  .rcases aE.1 hu with rfl|hu'
   .have:=Ord.ge h.2.2.2 p hp';rw[beq_iff.2 k2]at this;have h3:=h.2.2.1;simp at this;omega
   .exact Ord.Iw h.2.2.2 p hp' u hu' k1 k2 e
theorem Ord.lt:∀{q:List Pt} {S:Nat->Prop} {c:Nat},Ord S c q->∀p∈q,p.c<=c+kZ q/\(p.k=2->p.c<c+kZ q)
 |[],_,_,_,p,hp=>by cases hp
 |y::q,S,c,h,p,hp=>by
  have h3:=h.2.2.1;rw[qc];rcases aE.1 hp with rfl|hp
  .refine⟨?_,λk=>?_⟩
   .cases Nat.beq p.k 2<;>simp<;>omega
   .rw[beq_iff.2 k];simp;omega
  .have:=Ord.lt h.2.2.2 p hp;cases hb:Nat.beq y.k 2<;>rw[hb]at this<;>simp at this ⊢
   .exact this
   .exact⟨by omega,λk=>by have:=this.2 k;omega⟩
theorem Ord.ex:∀{q:List Pt} {S:Nat->Prop} {c:Nat},Ord S c q->∀k,k<kZ q->∃p∈q,p.k=2/\p.c=c+k
 |[],S,c,h,k,hk=>by simp[kZ]at hk
 |y::q,S,c,h,k,hk=>by
  have h3:=h.2.2.1;rw[qc]at hk;cases hb:Nat.beq y.k 2 with
  |false=>rw[hb]at hk;have h4:=h.2.2.2;obtain⟨p,k1,k2⟩:=Ord.ex h4 k (by simpa using hk);grind
  |true =>
   rw[hb]at hk;have h4:=h.2.2.2;simp at hk;cases k with
   |zero=>exact⟨y,aI,beq_iff.1 hb,h3⟩
   |succ k=>obtain⟨p,k1,k2,k3⟩:=Ord.ex h4 k (by omega);grind
theorem Ord.all:∀{q:List Pt} {S:Nat->Prop} {c:Nat} {L:Nat->Prop},Ord S c q->(∀j,S j->L j)->(∀p∈q,(∀j,isIn j p.dm=true->L j)->L p.i)->∀p∈q,L p.i
 |[],_,_,_,_,_,_,p,hp=>by cases hp
 |y::q,S,c,L,h,hs,hL,p,hp=>by
  have hy:L y.i:=hL y aI (λj hj=>hs j (h.2.1 j hj));rcases aE.1 hp with rfl|hp
  .exact hy
  .refine Ord.all h.2.2.2 ?_ (λx hx=>hL x (aw _ hx)) p hp;rintro j (hj|rfl)
   .exact hs j hj
   .exact hy
theorem pig:∀(n:Nat)(l:List Nat),l.Nodup->(∀x∈l,x<n)->l.length<=n
 |0,l,_,h=>by
  cases l with
  |nil=>simp
  |cons x l=>exact absurd (h x aI) (by omega)
 |n+1,l,hn,h=>by
  have:=pig n (l.erase n) (hn.erase n) (λx hx=>by
   have h1:=(hn.mem_erase_iff).1 hx;have:=h x h1.2;omega)
  grind
theorem Ord.nodup:∀{q:List Pt} {S:Nat->Prop} {c:Nat},Ord S c q->(q.map Pt.i).Nodup
 |[],_,_,_=>by simp
 |p::q,S,c,h=>by rw[ba,gS];refine⟨λhm=>?_,Ord.nodup h.2.2.2⟩;obtain⟨u,h1,h2⟩:=aq.1 hm;exact Ord.Xb h.2.2.2 u h1 (.inr h2)
theorem cover{n:Nat}{l:List Nat}(h:l.Nodup)(eB:∀x∈l,x<n)(hl:l.length=n){i:Nat}(hi:i<n):i∈l:=by
 by_cases hm:i∈l
 .exact hm
 .have:=pig n (i::l) (gS.2 ⟨hm,h⟩) (λx hx=>by
   rcases aE.1 hx with rfl|hx
   .exact hi
   .exact eB x hx)
  simp at this;omega
end
theorem Au(t:Nat)(p:Pt)(l:List Pt):writer t (p::l)=(match p.o.dst with
 |some d=>Bool.rec (writer t l) (some p) (Nat.beq d t)
 |none=>writer t l):=by
 rfl
theorem nZ{t:Nat}:∀{l:List Pt} {q:Pt},writer t l=some q->q∈l/\q.o.dst=some t
 |[],_,h=>by cases h
 |p::l,q,h=>by
  rw[Au]at h;cases hd:p.o.dst with
  |none=>rw[hd]at h;exact⟨aw _ (nZ h).1,(nZ h).2⟩
  |some d =>
   rw[hd]at h;cases hb:Nat.beq d t with
   |true=>simp only[hb]at h;cases h;exact⟨aI,by rw[hd,beq_iff.1 hb]⟩
   |false=>simp only[hb]at h;exact⟨aw _ (nZ h).1,(nZ h).2⟩
theorem As{t:Nat}:∀{l:List Pt} {p:Pt},p∈l->p.o.dst=some t->∃q,writer t l=some q
 |[],p,hp,_=>by cases hp
 |y::l,p,hp,hd=>by
  rw[Au];rcases aE.1 hp with rfl|hp
  .rw[hd];exact⟨p,by simp only[beq_iff.2 rfl]⟩
  .obtain⟨q,h⟩:=As hp hd;cases hy:y.o.dst with
   |none=>exact⟨q,h⟩
   |some d => 
    cases hb:Nat.beq d t with
    |true=>exact⟨y,by simp only[hb]⟩
    |false=>exact⟨q,by simp only[hb];exact h⟩
theorem Ie{l:List Pt}{p:Pt}:∀{ts:List Nat},okT l p ts=true->∀t∈ts,∀q,writer t l=some q->isIn q.i p.dm=true∨isIn p.i q.dm=true
 |[],_,t,ht,_,_=>by cases ht
 |y::ts,h,t,ht,q,hq=>by
  have h:(match writer y l with
   |some q=>(isIn q.i p.dm||isIn p.i q.dm)&&okT l p ts
   |none=>okT l p ts)=true:=h
  rcases aE.1 ht with rfl|ht
  .rw[hq]at h;simp at h;exact h.1
  .refine Ie (ts:=ts) ?_ t ht q hq;cases hw:writer y l with
   |none=>rw[hw]at h;exact h
   |some x=>rw[hw]at h;simp at h;exact h.2
theorem tz{l:List Pt}:∀{q:List Pt},S9 l q=true->∀p∈q,okT l p (tmps (jb p.o.op))=true/\okG p.dm p.o.guard=true/\okD l p=true
 |[],_,p,hp=>by cases hp
 |y::q,h,p,hp=>by
  have h:(okT l y (tmps (jb y.o.op))&&(okG y.dm y.o.guard&&(okD l y&&S9 l q)))=true:=h;simp only[ak]at h;rcases aE.1 hp with rfl|hp
  .exact⟨h.1,h.2.1,h.2.2.1⟩
  .exact tz h.2.2.2 p hp
theorem HD{t:Nat}:∀{l:List Operand},.tmp t∈l->t∈tmps l
 |[],h=>by cases h
 |x::l,h=>by
  rcases aE.1 h with rfl|h
  .exact aI
  .have:=HD h;cases x with
   |tmp _=>exact aw _ this
   |const _=>exact this
   |func _=>exact this
   |global _=>exact this
theorem Ve{p:Pt}{l:List Pt}(h:cOK l p=true):p.c=0∨∃q∈l,isIn q.i p.dm=true/\(bif Nat.beq q.k 2 then Nat.succ q.c else q.c)=p.c:=by
 simp only[cOK,dS]at h;rcases h with h|h
 .exact .inl (beq_iff.1 h)
 .refine .inr ?_;have:∀l:List Pt,(List.rec false (λq _ r=>(isIn q.i p.dm&&(Nat.beq (bif Nat.beq q.k 2 then Nat.succ q.c else q.c) p.c))||r) l:Bool)=true->∃q∈l,isIn q.i p.dm=true/\(bif Nat.beq q.k 2 then Nat.succ q.c else q.c)=p.c:=by
   intro l
   induction l with
   |nil=>intro h;cases h
   |cons y l ih =>
    intro h;simp only[dS,ak]at h;rcases h with⟨h1,h2⟩|h
    .exact⟨y,aI,h1,beq_iff.1 h2⟩
    grind
  exact this l h
structure ahF (all:List Oper) (q:List Pt):Prop where
 pt:∀p∈q,L9 all p
 cov:∀i,i<all.length->∃p∈q,p.i=i
 ord:Ord (λ_=>False) 0 q
 c:∀p∈q,p.c=0∨∃u∈q,isIn u.i p.dm=true/\(bif Nat.beq u.k 2 then Nat.succ u.c else u.c)=p.c
 hi:∀p∈q,p.hi=kZ q∨∃u∈q,u.k=2/\isIn p.i u.dm=true/\u.c=p.hi
 w:∀p∈q,∀u∈q,∀d,p.o.dst=some d->u.o.dst=some d->p=u
 t:∀p∈q,∀u∈q,∀t,.tmp t∈jb p.o.op->u.o.dst=some t->isIn u.i p.dm=true∨isIn p.i u.dm=true
 g:∀p∈q,∀j b,p.o.guard=some (j,b)->isIn j p.dm=true
theorem KV{all:List Oper}{q:List Pt}(h:H8 all=some q):ahF all q:=by
 unfold H8 at h;simp only at h;cases hq:order (wX all 0) all.length 0 0 with
 |none=>rw[hq]at h;cases h
 |some q0 =>
  rw[hq]at h;obtain⟨h1,h⟩:=gP h;cases h;simp only[ak]at h1;obtain⟨hA,hC⟩:=h1;obtain⟨k1,k2,k3⟩:=Cu (λp hp=>Ch hp) hq;have k1:Ord (λ_=>False) 0 q0:=k1.congr λj=>by simp[Fc]
  have XM:=BE q0 (kZ q0) k1;have hl:∀p∈q0,p.i<all.length:=λp hp=>(dz.1 (k2 p hp).1).1;have src:∀p∈xe q0 (kZ q0) q0,∃x∈wX all 0,x.i=p.i/\x.o=p.o/\x.dm=p.dm:=λp hp=>by obtain⟨u,hu,rfl⟩:=sZ hp;obtain⟨e1,e2,e3⟩:=k2 u hu;have:=EY all 0 u.i u.o e1;grind
  have ahg:∀x y:Pt,L9 all x->L9 all y->x.i=y.i->x.o=y.o/\x.dm=y.dm:=λx y h1 h2 e=>by
   have:x.o=y.o:=by have:=h1.1;rw[e,h2.1]at this;exact(Option.some.inj this).symm
   exact⟨this,by rw[h1.2.2,h2.2.2,this]⟩
  have wr:∀x∈wX all 0,∀d,x.o.dst=some d->∃y,writer d (wX all 0)=some y/\y∈wX all 0/\y.i=x.i:=λx hx d hd=>by obtain⟨y,hy⟩:=As hx hd;have:=(tz hA x hx).2.2;simp only[okD,hd,hy]at this;exact⟨y,hy,(nZ hy).1,beq_iff.1 this⟩
  refine⟨λp hp=>?_,λi hi=>?_,XM,λp hp=>?_,λp hp=>?_,λp hp u hu d h1 h2=>?_,λp hp u hu t h1 h2=>?_,λp hp j b h1=>?_⟩
  .obtain⟨u,hu,rfl⟩:=sZ hp;exact k2 u hu
  .have:=cover (n:=all.length) (l:=q0.map Pt.i) k1.nodup (λx hx=>by obtain⟨u,h1,rfl⟩:=aq.1 hx;exact hl u h1) (by simp[k3]) hi;obtain⟨u,h1,rfl⟩:=aq.1 this;exact⟨_,xB h1,rfl⟩
  .obtain⟨u,hu,rfl⟩:=sZ hp;rcases Ve (aO.1 hC u hu)with h|⟨x,h1,h2,h3⟩
   .exact .inl h
   .exact .inr ⟨_,xB h1,h2,h3⟩
  .obtain⟨u,hu,rfl⟩:=sZ hp;rw[ya];rcases Fg u.i (kZ q0) q0 with h|⟨x,h1,h2,h3,h4⟩
   .exact .inl h
   .exact .inr ⟨_,xB h1,h2,h3,h4⟩
  .obtain⟨x,hx,e1,e2,e3⟩:=src p hp;obtain⟨y,hy,f1,f2,f3⟩:=src u hu;obtain⟨a,ha,_,X5⟩:=wr x hx d (by rw[e2];exact h1);obtain⟨b,hb,_,rr⟩:=wr y hy d (by rw[f2];exact h2);rw[ha]at hb;cases hb;exact XM.uniq p hp u hu (by rw[←e1,←f1,←X5,←rr])
  .obtain⟨x,hx,e1,e2,e3⟩:=src p hp;obtain⟨y,hy,f1,f2,f3⟩:=src u hu;obtain⟨a,ha,ham,X5⟩:=wr y hy t (by rw[f2];exact h2);have:=Ie (tz hA x hx).1 t (HD (by rw[e2];exact h1)) a ha;rw[X5,e3,f1,e1,(ahg a y (Ch ham) (Ch hy) X5).2,f3]at this;exact this
  .obtain⟨x,hx,e1,e2,e3⟩:=src p hp;have:=(tz hA x hx).2.1;rw[e2,h1,e3]at this;exact this
end
section
theorem BZ{x y:Value}(h:sameVal x y=true):x=y:=by
 unfold sameVal at h;split at h
 .simp only[ak,aR]at h;rw[fQ h.1,h.2]
 .simp at h;rw[h]
 .rename_i a b;rcases a with⟨⟨l⟩⟩
  rcases b with⟨⟨q⟩⟩
  have h:l=q:=eq_of_beq h;rw[h]
 .rfl
 .rfl
 .rfl
 .rfl
 .rename_i f a b f' a' b';rw[ak]at h;obtain⟨h1,h2⟩:=h;rw[beq_iff.1 h1];split at h2
  .rename_i e1 e2 e3 e4;rcases a with⟨l1⟩
   rcases b with⟨l2⟩
   rcases a' with⟨l3⟩
   rcases b' with⟨l4⟩
   simp at e1 e2 e3 e4;rw[e1,e2,e3,e4]
  .cases h2
 .cases h
theorem B0{x y:S}(h:sameS x y=true):x=y:=by
 unfold sameS at h;split at h
 .rw[BZ h]
 .rw[ak]at h;rw[beq_iff.1 h.1,beq_iff.1 h.2]
 .simp only[ak]at h;rw[beq_iff.1 h.1.1.1,beq_iff.1 h.1.1.2,beq_iff.1 h.1.2,beq_iff.1 h.2]
 .rw[beq_iff.1 h]
 .rw[beq_iff.1 h]
 .cases h
theorem pS{α:Type}{f:α->α->Bool}(hf:∀{x y},f x y=true->x=y):∀{l q:List α},sameL f l q=true->l=q
 |[],[],_=>rfl
 |x::l,y::q,h=>by have h:(f x y&&sameL f l q)=true:=h;rw[ak]at h;rw[hf h.1,pS hf h.2]
 |[],_::_,h=>by cases h
 |_::_,[],h=>by cases h
theorem pn{x y:V1}(h:sameV1 x y=true):x=y:=by
 unfold sameV1 at h;split at h
 .rw[B0 h]
 .rw[pS B0 h]
 .cases h
theorem Ew{x y:AV}(h:sameAV x y=true):x=y:=by
 unfold sameAV at h;split at h
 .rw[pn h]
 .rw[pS pn h]
 .cases h
theorem zw{x y:Bk}(h:sameBk x y=true):x=y:=by
 unfold sameBk at h;split at h
 .rw[pS B0 h]
 .rw[beq_iff.1 h]
 .simp only[ak]at h;rw[beq_iff.1 h.1.1,pS pn h.1.2,pS pn h.2]
 .cases h
def J7(z z2:Z):Prop:=z.n<=z2.n/\∀(w0:World)(M:Mp)(w:World),Rel w0 M z w->Rel w0 M z2 w
theorem J7.refl(z:Z):J7 z z:=⟨aK _,λ_ _ _ h=>h⟩
theorem J7.trans{x y z:Z}(h:J7 x y)(k:J7 y z):J7 x z:=⟨bP h.1 k.1,λ_ _ _ r=>k.2 _ _ _ (h.2 _ _ _ r)⟩
theorem J7.new(z:Z)(b:Bk):J7 z (new z b):=⟨Nat.le_succ _,λ_ _ _ r=>r.promise b⟩
section
variable{P:Program}{tt:Tr sX}{mt:Tr (Nat×Nat×Value)}{tb:oQ}{ka:Nat->Nat->Bool}
variable{idx:FuncId->Bool}{call:FuncId->List V1->Z->Ld}{nt:Nat}{all:List Oper}{r0:Go.Ex.R}
structure Step (P:Program) (tt:Tr sX) (mt:Tr (Nat×Nat×Value)) (tb:oQ) (ka:Nat->Nat->Bool) (idx:FuncId->Bool) (call:FuncId->List V1->Z->Ld) (nt:Nat) (all:List Oper) (p:Pt) (d d1:Dr) (t:Tk):Prop where
 ep:t.p=p
 en:t.n=d.z.n
 eg:guardE all d.r p.o.guard=some t.w
 et:t.w=true->j7 d.r (jb p.o.op)=some t.vs/\W6 P tt mt tb ka idx call p.o t.vs d.z p.k=some (t.v,d1.z)
 ef:t.w=false->t.v=.t []/\d1.z=d.z
 aha:putE' nt d.r d1.z p.o.dst t.v=some (d1.r,d1.z)
 P5:d1.hs=Bool.rec d.hs (d.z::d.hs) (Nat.beq p.k 2)
 etk:d1.tk=t::d.tk
def Run(P:Program)(tt:Tr sX)(mt:Tr (Nat×Nat×Value))(tb:oQ)(ka:Nat->Nat->Bool)(idx:FuncId->Bool)(call:FuncId->List V1->Z->Ld)(nt:Nat)(all:List Oper):List Pt->Dr->Dr->Prop
 |[],d,d2=>d2=d
 |p::q,d,d2=>∃d1 t,Step P tt mt tb ka idx call nt all p d d1 t/\Run P tt mt tb ka idx call nt all q d1 d2
theorem WQ{r r':Go.Ex.R}{z z':Z}{d:Option Nat}{v:AV}(h:putE' nt r z d v=some (r',z')):z'=z:=by
 cases d with
 |none=>cases h;rfl
 |some d=>obtain⟨_,h⟩:=gP h;cases h;rfl
theorem Sw{r r':Go.Ex.R}{z z':Z}{d:Nat}{v:AV}(h:putE' nt r z (some d) v=some (r',z')):d<nt:=by
 obtain⟨h,_⟩:=gP h;exact aB h
theorem Di{d d1:Dr}{p:Pt}{w:Bool}{vs:List AV}{y:Ld}(h:drPut nt d p w vs y=some d1):∃v z,y=some (v,z)/\d1.z=z/\putE' nt d.r z p.o.dst v=some (d1.r,z)/\d1.hs=Bool.rec d.hs (d.z::d.hs) (Nat.beq p.k 2)/\d1.tk=⟨p,w,vs,v,d.z.n⟩::d.tk:=by
 cases y with
 |none=>cases h
 |some y =>
  obtain⟨v,z⟩:=y;simp only[drPut]at h;cases hp:putE' nt d.r z p.o.dst v with
  |none=>rw[hp]at h;cases h
  |some q=>obtain⟨r',z'⟩:=q;rw[hp]at h;cases h;have:=WQ hp;subst this;exact⟨v,_,rfl,rfl,hp,rfl,rfl⟩
theorem U0{d d1:Dr}{p:Pt}(h:drG P tt mt tb ka idx call nt d p (guardE all d.r p.o.guard)=some d1):∃t,Step P tt mt tb ka idx call nt all p d d1 t:=by
 cases hg:guardE all d.r p.o.guard with
 |none=>rw[hg]at h;cases h
 |some b =>
  rw[hg]at h;cases b with
  |false=>have h:drPut nt d p false [] (some (.t [],d.z))=some d1:=h;obtain⟨v,z,e1,e2,e3,e4,e5⟩:=Di h;cases e1;exact⟨_,rfl,rfl,hg,λk=>(by cases k),λ_=>⟨rfl,e2⟩,by rw[e2];exact e3,e4,e5⟩
  |true =>
   have h:Z9 P tt mt tb ka idx call nt d p (j7 d.r (jb p.o.op))=some d1:=h;cases he:j7 d.r (jb p.o.op)with
   |none=>rw[he]at h;cases h
   |some vs=>rw[he]at h;obtain⟨v,z,e1,e2,e3,e4,e5⟩:=Di (show drPut nt d p true vs _=some d1 from h);exact⟨_,rfl,rfl,hg,λ_=>⟨he,by rw[e2];exact e1⟩,λk=>(by cases k),by rw[e2];exact e3,e4,e5⟩
theorem Fq:∀{q:List Pt} {d d2:Dr},JD P tt mt tb ka idx call nt all q d=some d2->Run P tt mt tb ka idx call nt all q d d2
 |[],d,d2,h=>by cases h;rfl
 |p::q,d,d2,h=>by
  have h:drK (JD P tt mt tb ka idx call nt all q) (drG P tt mt tb ka idx call nt d p (guardE all d.r p.o.guard))=some d2:=h;cases hd:drG P tt mt tb ka idx call nt d p (guardE all d.r p.o.guard)with
  |none=>rw[hd]at h;cases h
  |some d1=>rw[hd]at h;obtain⟨t,ht⟩:=U0 hd;exact⟨d1,t,ht,Fq h⟩
def Src(r0 r:Go.Ex.R)(tk:List Tk):Prop:=∀s av,get r s=some av->(∃u∈tk,u.p.o.dst=some s/\u.v=av)∨(get r0 s=some av/\∀u∈tk,u.p.o.dst≠some s)
theorem Step.src{p:Pt}{d d1:Dr}{t:Tk}(h:Step P tt mt tb ka idx call nt all p d d1 t)(k:Src r0 d.r d.tk):Src r0 d1.r d1.tk:=by
 intro s av e;rw[h.etk];have hp:=h.aha;have lS:get d.r s=some av->t.p.o.dst≠some s->(∃u∈t::d.tk,u.p.o.dst=some s/\u.v=av)∨(get r0 s=some av/\∀u∈t::d.tk,u.p.o.dst≠some s):=by
  intro e2 hne;rcases k s av e2 with⟨u,h1,h2⟩|⟨h1,h2⟩
  .exact .inl ⟨u,aw _ h1,h2⟩
  .refine .inr ⟨h1,λu hu=>?_⟩;rcases aE.1 hu with rfl|hu
   .exact hne
   .exact h2 u hu
 cases hd:p.o.dst with
 |none=>rw[hd]at hp;have hr:d.r=d1.r:=(Prod.mk.inj (Option.some.inj hp)).1;rw[←hr]at e;exact lS e (by rw[h.ep,hd];simp)
 |some x =>
  rw[hd]at hp;obtain⟨_,hp⟩:=gP hp;have hr:set 12 d.r x (some t.v)=d1.r:=(Prod.mk.inj (Option.some.inj hp)).1;rw[←hr]at e;rcases lM _ _ _ _ _ _ e with⟨h1,h2⟩|⟨h1,h2⟩
  .exact .inl ⟨t,aI,by rw[h.ep,hd,h1],by cases h2;rfl⟩
  .exact lS h2 (by rw[h.ep,hd];intro e;cases e;exact h1 rfl)
structure Fact (P:Program) (tt:Tr sX) (mt:Tr (Nat×Nat×Value)) (tb:oQ) (ka:Nat->Nat->Bool) (idx:FuncId->Bool) (call:FuncId->List V1->Z->Ld) (nt:Nat) (all:List Oper) (r0:Go.Ex.R) (TK:List Tk) (HS:List Z) (t:Tk):Prop where
 al:∃(r:Go.Ex.R)(pre:List Tk),Src r0 r pre/\(∀u∈pre,u∈TK)/\(∀u∈pre,isIn t.p.i u.p.dm=false)/\(∀j,isIn j t.p.dm=true->∃u∈pre,u.p.i=j) /\
  guardE all r t.p.o.guard=some t.w/\(t.w=true->j7 r (jb t.p.o.op)=some t.vs)
 f:t.w=false->t.v=.t []
 dst:∀d,t.p.o.dst=some d->d<nt
 nw:t.w=true->t.p.k=1->∃f b,oZ tt mt t.p.o t.vs=some (f,b)/\t.v=.o (.s (f t.n))
 ld:t.p.k=2->∃za zb zc,HS[t.p.c]?=some za/\HS[t.p.c+1]?=some zc/\(t.w=true->loudE tt mt ka idx call t.p.o t.vs za=some (t.v,zb))/\(t.w=false->zb=za)/\J7 zb zc /\
  ∀u∈TK,sr u=true->u.p.c=t.p.c+1->zb.n<=u.n
theorem Step.prm{p:Pt}{d d1:Dr}{t:Tk}(h:Step P tt mt tb ka idx call nt all p d d1 t)(hk:p.k=0∨p.k=1):J7 d.z d1.z:=by
 cases hw:t.w with
 |false=>rw[(h.ef hw).2];exact J7.refl _
 |true =>
  have e:=(h.et hw).2;rcases hk with hk|hk<;>rw[hk]at e
  .have e:pK d.z (AA P tt mt tb ka p.o t.vs d.z.h)=some (t.v,d1.z):=e;cases hp:AA P tt mt tb ka p.o t.vs d.z.h with
   |none=>rw[hp]at e;cases e
   |some v=>rw[hp]at e;rw[←(Prod.mk.inj (Option.some.inj e)).2];exact J7.refl _
  .have e:nK d.z (oZ tt mt p.o t.vs)=some (t.v,d1.z):=e;cases hp:oZ tt mt p.o t.vs with
   |none=>rw[hp]at e;cases e
   |some q=>obtain⟨f,b⟩:=q;rw[hp]at e;rw[←(Prod.mk.inj (Option.some.inj e)).2];exact J7.new _ _
theorem Step.nw{p:Pt}{d d1:Dr}{t:Tk}(h:Step P tt mt tb ka idx call nt all p d d1 t)(hw:t.w=true)(hk:p.k=1):∃f b,oZ tt mt p.o t.vs=some (f,b)/\t.v=.o (.s (f t.n)):=by
 have e:=(h.et hw).2;rw[hk]at e;have e:nK d.z (oZ tt mt p.o t.vs)=some (t.v,d1.z):=e;cases hp:oZ tt mt p.o t.vs with
 |none=>rw[hp]at e;cases e
 |some q=>obtain⟨f,b⟩:=q;rw[hp]at e;exact⟨f,b,rfl,by rw[h.en];exact(Prod.mk.inj (Option.some.inj e)).1.symm⟩
theorem Run.facts:∀{q:List Pt} {S:Nat->Prop} {c:Nat} {d dF:Dr},Run P tt mt tb ka idx call nt all q d dF->Ord S c q->d.hs.length=c->(∀j,S j↔∃u∈d.tk,u.p.i=j)->(∀u∈d.tk,u.p.c<=c) ->
  (∀u∈d.tk,∀j,isIn j u.p.dm=true->S j)->Src r0 d.r d.tk->(∀p∈q,L9 all p) ->
  ∃h0 rest nw,(dF.z::dF.hs).reverse=d.hs.reverse++h0::rest/\J7 d.z h0/\dF.tk=nw++d.tk/\(∀p∈q,∃t∈nw,t.p=p)/\(∀t∈nw,t.p∈q)/\Src r0 dF.r dF.tk/\rest.length=kZ q /\
   ∀t∈nw,Fact P tt mt tb ka idx call nt all r0 dF.tk (dF.z::dF.hs).reverse t/\(t.p.c=c->sr t=true->d.z.n<=t.n)
 |[],S,c,d,dF,h,ho,hl,hS,hc,hd,hs,hp=>by have h:dF=d:=h;subst h;exact⟨dF.z,[],[],by simp,J7.refl _,rfl,(λp hp=>by cases hp),(λt ht=>by cases ht),hs,rfl,(λt ht=>by cases ht)⟩
 |p::q,S,c,d,dF,h,ho,hl,hS,hc,hd,hs,hp=>by
  obtain⟨d1,t,st,hr⟩:=h;obtain⟨o1,o2,o3,o4⟩:=ho;have Nu:=hp p aI;have hk:p.k=0∨p.k=1∨p.k=2:=by rw[Nu.2.1];exact E7 _
  have hl1:d1.hs.length=(bif Nat.beq p.k 2 then Nat.succ c else c):=by rw[st.P5];cases Nat.beq p.k 2<;>simp[hl]
  have hS1:∀j,(S j∨j=p.i)↔∃u∈d1.tk,u.p.i=j:=λj=>by
   rw[st.etk];constructor
   .rintro(h|rfl)
    .obtain⟨u,h1,h2⟩:=(hS j).1 h;exact⟨u,aw _ h1,h2⟩
    .exact⟨t,aI,by rw[st.ep]⟩
   .rintro⟨u,h1,h2⟩;rcases aE.1 h1 with rfl|h1
    .exact .inr (by rw[←h2,st.ep])
    .exact .inl ((hS j).2 ⟨u,h1,h2⟩)
  have hc1:∀u∈d1.tk,u.p.c<=(bif Nat.beq p.k 2 then Nat.succ c else c):=λu hu=>by
   rw[st.etk]at hu;rcases aE.1 hu with rfl|hu
   .rw[st.ep,o3];exact BO
   .exact bP (hc u hu) BO
  have hd1:∀u∈d1.tk,∀j,isIn j u.p.dm=true->S j∨j=p.i:=λu hu j hj=>by
   rw[st.etk]at hu;rcases aE.1 hu with rfl|hu
   .rw[st.ep]at hj;exact .inl (o2 j hj)
   .exact .inl (hd u hu j hj)
  obtain⟨h0,rest,nw,e1,e2,e3,e4,e5,e6,e7,e8⟩:=Run.facts hr o4 hl1 hS1 hc1 hd1 (st.src hs) (λx hx=>hp x (aw _ hx));have e3':dF.tk=(nw++[t])++d.tk:=by rw[e3,st.etk];simp
  have tin:∀u∈d.tk,u∈dF.tk:=λu hu=>by rw[e3'];exact aG _ hu
  have al:∃(r:Go.Ex.R)(pre:List Tk),Src r0 r pre/\(∀u∈pre,u∈dF.tk)/\(∀u∈pre,isIn t.p.i u.p.dm=false)/\(∀j,isIn j t.p.dm=true->∃u∈pre,u.p.i=j) /\
   guardE all r t.p.o.guard=some t.w/\(t.w=true->j7 r (jb t.p.o.op)=some t.vs):=by
   rw[st.ep];refine⟨d.r,d.tk,hs,tin,λu hu=>?_,λj hj=>(hS j).1 (o2 j hj),st.eg,λhw=>(st.et hw).1⟩;cases hb:isIn p.i u.p.dm with
   |false=>rfl
   |true=>exact(o1 (hd u hu _ hb)).elim
  have dst:∀x,t.p.o.dst=some x->x<nt:=λx hx=>by have:=st.aha;rw[st.ep]at hx;rw[hx]at this;exact Sw this
  have afg:∀x∈p::q,∃u∈nw++[t],u.p=x:=λx hx=>by
   rcases aE.1 hx with rfl|hx
   .exact⟨t,by simp,st.ep⟩
   .obtain⟨u,h1,h2⟩:=e4 x hx;exact⟨u,aN _ h1,h2⟩
  have aff:∀u∈nw++[t],u.p∈p::q:=λu hu=>by
   rcases aV.1 hu with hu|hu
   .exact aw _ (e5 u hu)
   .simp at hu;subst hu;rw[st.ep];exact aI
  by_cases yT:p.k=2
  .have hb:Nat.beq p.k 2=true:=beq_iff.2 yT;have P5:=st.P5;rw[hb]at P5;have P5:d1.hs=d.z::d.hs:=P5;have eHS:(dF.z::dF.hs).reverse=d.hs.reverse++d.z::h0::rest:=by rw[e1,P5];simp
   have e8':∀u∈nw,u.p.c=c+1->sr u=true->d1.z.n<=u.n:=λu hu k=>(e8 u hu).2 (by rw[hb];exact k);have hge:∀u∈nw,c+1<=u.p.c:=λu hu=>by have:=o4.ge u.p (e5 u hu);rw[hb]at this;exact this
   refine⟨d.z,h0::rest,nw++[t],eHS,J7.refl _,e3',afg,aff,e6,by rw[qc,hb];simp[e7],λu hu=>?_⟩;rcases aV.1 hu with hu|hu
   .exact⟨(e8 u hu).1,λk=>by have:=hge u hu;omega⟩
   .simp at hu;subst hu;refine⟨⟨al,λhw=>(st.ef hw).1,dst,λ_ k=>(by rw[st.ep,yT]at k;cases k),λ_=>?_⟩,λ_ hn=>?_⟩
    .refine⟨d.z,d1.z,h0,?_,?_,λhw=>?_,λhw=>(st.ef hw).2,e2,λu' hu' k1 k2=>?_⟩
     .rw[eHS,st.ep,o3,←hl];simp
     .rw[eHS,st.ep,o3,←hl,eS (by simp)];simp
     .have:=(st.et hw).2;rw[yT]at this;rw[st.ep];exact this
     .rw[st.ep,o3]at k2;rw[e3']at hu';rcases aV.1 hu' with hu'|hu'
      .rcases aV.1 hu' with hu'|hu'
       .exact e8' u' hu' k2 k1
       .simp at hu';subst hu';rw[st.ep,o3]at k2;omega
      .have:=hc u' hu';omega
    .simp[sr,st.ep,yT]at hn
  .have hb:Nat.beq p.k 2=false:=Vk.2 yT;have Lw:p.k=0∨p.k=1:=by omega
   have P5:=st.P5;rw[hb]at P5;have P5:d1.hs=d.hs:=P5;have pr:=st.prm Lw;refine⟨h0,rest,nw++[t],by rw[e1,P5],pr.trans e2,e3',afg,aff,e6,by rw[qc,hb];simp[e7],λu hu=>?_⟩;rcases aV.1 hu with hu|hu
   .refine⟨(e8 u hu).1,λk1 k2=>bP pr.1 ((e8 u hu).2 (by rw[hb];exact k1) k2)⟩
   .simp at hu;subst hu;refine⟨⟨al,λhw=>(st.ef hw).1,dst,λhw k=>?_,λk=>(yT (by rw[←st.ep];exact k)).elim⟩,λ_ _=>Nat.le_of_eq st.en.symm⟩;rw[st.ep]at k ⊢; exact st.nw hw k
theorem Run.uniq:∀{q:List Pt} {S:Nat->Prop} {c:Nat} {d dF:Dr},Run P tt mt tb ka idx call nt all q d dF->Ord S c q->(∀u∈d.tk,S u.p.i)->(∀t∈d.tk,∀u∈d.tk,t.p.i=u.p.i->t=u)->∀t∈dF.tk,∀u∈dF.tk,t.p.i=u.p.i->t=u
 |[],_,_,d,dF,h,_,_,k=>by have h:dF=d:=h;subst h;exact k
 |p::q,S,c,d,dF,h,ho,hS,k=>by
  obtain⟨d1,t,st,hr⟩:=h;refine Run.uniq hr ho.2.2.2 (λu hu=>?_) (λx hx y hy e=>?_)
  .rw[st.etk]at hu;rcases aE.1 hu with rfl|hu
   .exact .inr (by rw[st.ep])
   .exact .inl (hS u hu)
  .rw[st.etk]at hx hy;rcases aE.1 hx with h1|h1
   .rcases aE.1 hy with h2|h2
    .rw[h1,h2]
    .exact(ho.1 (by rw[←st.ep,←h1,e];exact hS y h2)).elim
   .rcases aE.1 hy with h2|h2
    .exact(ho.1 (by rw[←st.ep,←h2,←e];exact hS x h1)).elim
    .exact k x h1 y h2 e
theorem Aj:∀{l:List Tk} {b:Nat},Qb l b=true->(∀t∈l,sr t=true->t.n<b)/\∀t∈l,∀u∈l,sr t=true->sr u=true->t.n=u.n->t=u
 |[],_,_=>⟨(λt ht=>by cases ht),(λt ht=>by cases ht)⟩
 |x::l,b,h=>by
  have h:(Bool.rec (Qb l b) (Nat.blt x.n b&&Qb l x.n) (sr x):Bool)=true:=h;cases hx:sr x with
  |false =>
   rw[hx]at h;obtain⟨h1,h2⟩:=Aj (show Qb l b=true from h);refine⟨λt ht hn=>?_,λt ht u hu hn hm e=>?_⟩
   .rcases aE.1 ht with rfl|ht
    .rw[hx]at hn;cases hn
    .exact h1 t ht hn
   .rcases aE.1 ht with h3|h3
    .rw[h3,hx]at hn;cases hn
    .rcases aE.1 hu with h4|h4
     .rw[h4,hx]at hm;cases hm
     .exact h2 t h3 u h4 hn hm e
  |true =>
   rw[hx]at h;have h:(Nat.blt x.n b&&Qb l x.n)=true:=h;rw[ak]at h;obtain⟨h1,h2⟩:=Aj h.2;have hxb:x.n<b:=aB h.1;refine⟨λt ht hn=>?_,λt ht u hu hn hm e=>?_⟩
   .rcases aE.1 ht with rfl|ht
    .exact hxb
    .exact Nat.lt_trans (h1 t ht hn) hxb
   .rcases aE.1 ht with h3|h3
    .rcases aE.1 hu with h4|h4
     .rw[h3,h4]
     .have:=h1 u h4 hm;rw[←e,h3]at this;omega
    .rcases aE.1 hu with h4|h4
     .have:=h1 t h3 hn;rw[e,h4]at this;omega
     .exact h2 t h3 u h4 hn hm e
end
end
section
section
variable{P:Program}{ops:Array Oper}{Q:Exit->Act->World->Prop}{md:Region.Mode}{I:(Nat->Prop)->Act->World->Prop}
theorem NG{listed:Array Bool}{i:Nat}(h:i<listed.size):listed.getD i true=listed.getD i false:=by simp[Array.getD,h]
theorem xM:∀(l:List Bool)(i:Nat),l[i]?=some false->(l.set i true).count false+1=l.count false
 |[],_,h=>by simp at h
 |x::l,0,h=>by simp at h;subst h;simp
 |x::l,i+1,h=>by have:=xM l i (by simpa using h);simp only[List.set_cons_succ,List.count_cons];omega
theorem Oh
  (step:∀L a w i o,I L a w->ops[i]?=some o->¬L i->(∀e∈o.after,Region.binds md e=true->L e.on)->wpOp P ops Q i (λa' w'=>I (λj=>L j∨j=i) a' w') a w)
  (fin:∀L a w,I L a w->(∀i o,ops[i]?=some o->(∀e∈o.after,Region.binds md e=true->L e.on)->L i)->Q .normal a w) :
  ∀(fuel:Nat)(listed:Array Bool)(a:Act)(w:World),listed.size=ops.size->listed.toList.count false<=fuel->I (λj=>listed.getD j false=true) a w->wpAny P md ops Q fuel listed a w:=by
 have done:∀(listed:Array Bool)(a:Act)(w:World),listed.size=ops.size->I (λj=>listed.getD j false=true) a w->Region.ready md ops listed=[]->Q .normal a w:=by
  intro listed a w hs hI hr;refine fin _ a w hI λi o ho hd=>?_;show listed.getD i false=true;have eB:i<listed.size:=by rw[hs];exact(gw.1 ho).1
  cases hb:listed.getD i false with
  |true=>rfl
  |false=>have:i∈Region.ready md ops listed:=mem_ready.2 ⟨by rw[NG eB,hb],o,ho,hd⟩;rw[hr]at this;cases this
 intro fuel
 induction fuel with
 |zero =>
  intro listed a w hs hc hI;have hr:Region.ready md ops listed=[]:=by
   cases hr:Region.ready md ops listed with
   |nil=>rfl
   |cons i l =>
    obtain⟨h1,o,h2,_⟩:=mem_ready.1 (show i∈Region.ready md ops listed by rw[hr];exact aI);have eB:i<listed.size:=by rw[hs];exact(gw.1 h2).1
    have:listed.toList[i]?=some false:=by simp[Array.getD,eB]at h1;simp[eB,h1]
    have:=xM _ _ this;omega
  exact⟨hr,done listed a w hs hI hr⟩
 |succ fuel ih =>
  intro listed a w hs hc hI;refine⟨done listed a w hs hI,λi hi=>?_⟩;obtain⟨h1,o,h2,h3⟩:=mem_ready.1 hi;have eB:i<listed.size:=by rw[hs];exact(gw.1 h2).1
  have hf:listed.toList[i]?=some false:=by simp[Array.getD,eB]at h1;simp[eB,h1]
  refine wpOp_mono (λa' w' hI'=>ih _ a' w' (by simpa using hs) ?_ ?_) (step _ a w i o hI h2 (by rw[←NG eB,h1];simp) h3)
  .have:=xM _ _ hf;rw[Array.toList_setIfInBounds];omega
  .have:(λj=>(listed.setIfInBounds i true).getD j false=true)=(λj=>listed.getD j false=true∨j=i):=by
    funext j;by_cases hj:i=j
    .subst hj;simp[Array.getD,eB]
    .rw[getD_set_ne false hj];simp[bC hj]
   rw[this];exact hI'
end
section
variable{P:Program}{tt:Tr sX}{mt:Tr (Nat×Nat×Value)}{tb:oQ}{ka:Nat->Nat->Bool}
variable{idx:FuncId->Bool}{call:FuncId->List V1->Z->Ld}{nt:Nat}{all:List Oper}{r0:Go.Ex.R}
variable{q:List Pt}{TK:List Tk}{HS:List Z}{w0:World}{z0:Z}{M0:Mp}
theorem D7{t:Tk}{lo hi:Nat}{hs:List Z}(h:uL P tt mt tb ka t lo hi hs=true){c:Nat}{z:Z}(hz:hs[c]?=some z)(h1:lo<=c)(h2:c<=hi):stays P tt mt tb ka t z=true:=by
 have gen:∀(hs:List Z)(k c:Nat)(z:Z),(List.rec (λ_=>true) (λz _ g c=>Bool.rec (g (Nat.succ c)) (stays P tt mt tb ka t z&&g (Nat.succ c)) (Nat.ble lo c&&Nat.ble c hi)) hs k:Bool)=true->hs[c]?=some z->lo<=k+c->k+c<=hi->stays P tt mt tb ka t z=true:=by
  intro hs
  induction hs with
  |nil=>intro k c z _ h;simp at h
  |cons y hs ih =>
   intro k c z h hz h1 h2;simp only at h;cases c with
   |zero=>simp at hz;subst hz;rw[fq (show lo<=k from h1),fq (show k<=hi from h2)]at h;exact(ak _ _▸(show(stays P tt mt tb ka t y&&_)=true from h)).1
   |succ c =>
    refine ih (k+1) c z ?_ (by simpa using hz) (by omega) (by omega);cases hb:(Nat.ble lo k&&Nat.ble k hi)with
    |false=>rw[hb]at h;exact h
    |true=>rw[hb]at h;exact(ak _ _▸(show(stays P tt mt tb ka t y&&_)=true from h)).2
 exact gen hs 0 c z h hz (by omega) (by omega)
structure lj (P:Program) (tt:Tr sX) (mt:Tr (Nat×Nat×Value)) (tb:oQ) (ka:Nat->Nat->Bool) (idx:FuncId->Bool) (call:FuncId->List V1->Z->Ld) (nt:Nat) (all:List Oper) (r0:Go.Ex.R) (z0:Z) (q:List Pt) (TK:List Tk) (HS:List Z):Prop where
 pl:ahF all q
 f:∀t∈TK,Fact P tt mt tb ka idx call nt all r0 TK HS t
 un:∀t∈TK,∀u∈TK,t.p.i=u.p.i->t=u
 ex:∀p∈q,∃t∈TK,t.p=p
 CX:∀t∈TK,t.p∈q
 st:∀t∈TK,∀c z,HS[c]?=some z->t.p.c<=c->c<=t.p.hi->stays P tt mt tb ka t z=true
 dn:∀t∈TK,∀u∈TK,sr t=true->sr u=true->t.n=u.n->t=u
structure Inv (w0:World) (z0:Z) (M0:Mp) (nt:Nat) (r0:Go.Ex.R) (q:List Pt) (TK:List Tk) (HS:List Z) (L:Nat->Prop) (a:Act) (w:World) (c:Nat) (M:Mp):Prop where
 sz:a.tmps.size=nt
 df:a.defers=[]
 le:c<=kZ q
 ld:∀p∈q,p.k=2->(L p.i↔p.c<c)
 nl:∀p∈q,p.k≠2->L p.i->p.c<=c
 dc:∀p∈q,L p.i->∀j,isIn j p.dm=true->L j
 rel:∃h,HS[c]?=some h/\Rel w0 M h w/\Ext z0 M0 h M
 al:∀t∈TK,L t.p.i->∀d,t.p.o.dst=some d->∃v,a.tmps[d]?=some v/\VA M t.v v
 base:∀s av,get r0 s=some av->(∀t∈TK,L t.p.i->t.p.o.dst≠some s)->∃v,a.tmps[s]?=some v/\VA M av v
 pr:∀t∈TK,sr t=true->t.p.c<=c->¬L t.p.i->M t.n=none/\z0.n<=t.n
section
variable{L:Nat->Prop}{a:Act}{w:World}{c:Nat}{M M':Mp}{t:Tk}{v:Value}
variable(K:lj P tt mt tb ka idx call nt all r0 z0 q TK HS)(J:Inv w0 z0 M0 nt r0 q TK HS L a w c M)(ht:t∈TK)(hn:¬L t.p.i)(hd:∀j,isIn j t.p.dm=true->L j)
include K J ht hn hd
theorem lj.YB:t.p.c<=c:=by
 rcases K.pl.c t.p (K.CX t ht)with h|⟨u,h1,h2,h3⟩
 .omega
 .have hl:=hd _ h2;by_cases hk:u.k=2
  .rw[beq_iff.2 hk]at h3;have:=(J.ld u h1 hk).1 hl;simp at h3;omega
  .rw[Vk.2 hk]at h3;have:=J.nl u h1 hk hl;simp at h3;omega
theorem lj.adj(hk:t.p.k=2):t.p.c=c:=by
 have h1:=lj.YB K J ht hn hd;have h2:¬t.p.c<c:=λh=>hn ((J.ld _ (K.CX t ht) hk).2 h);omega
theorem lj.amO:c<=t.p.hi:=by
 rcases K.pl.hi t.p (K.CX t ht)with h|⟨u,h1,h2,h3,h4⟩
 .rw[h];exact J.le
 .have:¬u.c<c:=λh=>hn (J.dc u h1 ((J.ld u h1 h2).2 h) _ h3);omega
theorem lj.put(hM:Le M M')(hv:VA M' t.v v):
  (a.put t.p.o.dst v).tmps.size=nt/\(a.put t.p.o.dst v).defers=[]/\(∀p∈q,(L p.i∨p.i=t.p.i)->∀j,isIn j p.dm=true->(L j∨j=t.p.i)) /\
  (∀u∈TK,(L u.p.i∨u.p.i=t.p.i)->∀d,u.p.o.dst=some d->∃v',(a.put t.p.o.dst v).tmps[d]?=some v'/\VA M' u.v v') /\
  (∀s av,get r0 s=some av->(∀u∈TK,(L u.p.i∨u.p.i=t.p.i)->u.p.o.dst≠some s)->∃v',(a.put t.p.o.dst v).tmps[s]?=some v'/\VA M' av v'):=by
 have keep:∀s,t.p.o.dst≠some s->(a.put t.p.o.dst v).tmps[s]?=a.tmps[s]?:=λs hs=>by
  cases hd':t.p.o.dst with
  |none=>rfl
  |some d=>simp only[Act.put];rw[jL (λe=>hs (by rw[hd',e]))]
 refine⟨?_,?_,λp hp h j hj=>?_,λu hu h d hd'=>?_,λs av hs h=>?_⟩
 .rw[←J.sz];cases t.p.o.dst<;>simp[Act.put]
 .rw[←J.df];cases t.p.o.dst<;>rfl
 .rcases h with h|h
  .exact .inl (J.dc p hp h j hj)
  .have:=K.pl.ord.uniq p hp t.p (K.CX t ht) h;rw[this]at hj;exact .inl (hd j hj)
 .rcases h with h|h
  .have hne:t.p.o.dst≠some d:=λe=>by have:=K.pl.w u.p (K.CX u hu) t.p (K.CX t ht) d hd' e;rw[this]at h;exact hn h
   obtain⟨v',h1,h2⟩:=J.al u hu h d hd';exact⟨v',by rw[keep d hne];exact h1,h2.mono hM⟩
  .have:=K.un u hu t ht h;subst this;have eB:d<a.tmps.size:=by rw[J.sz];exact(K.f u ht).dst d hd'
   exact⟨v,by simp[hd',Act.put,eB],hv⟩
 .obtain⟨v',h1,h2⟩:=J.base s av hs (λu hu hl=>h u hu (.inl hl));exact⟨v',by rw[keep s (h t ht (.inr rfl))];exact h1,h2.mono hM⟩
theorem lj.still(hk:t.p.k≠2)(hv:VA M t.v v):Inv w0 z0 M0 nt r0 q TK HS (λj=>L j∨j=t.p.i) (a.put t.p.o.dst v) w c M:=by
 obtain⟨p1,p2,p3,p4,p5⟩:=lj.put K J ht hn hd (Le.refl M) hv;refine⟨p1,p2,J.le,λp hp h2=>?_,λp hp h2 h=>?_,p3,J.rel,p4,p5,λu hu h1 h2 h3=>J.pr u hu h1 h2 (λh=>h3 (.inl h))⟩
 .rw[←J.ld p hp h2];constructor
  .rintro(h|h)
   .exact h
   .have:=K.pl.ord.uniq p hp t.p (K.CX t ht) h;rw[this]at h2;exact(hk h2).elim
  .exact .inl
 .rcases h with h|h
  .exact J.nl p hp h2 h
  .have:=K.pl.ord.uniq p hp t.p (K.CX t ht) h;rw[this];exact lj.YB K J ht hn hd
theorem lj.mkb(hk:t.p.k=1){en:En}{w':World}(hw:sr t=true){h:Z}(hh:HS[c]?=some h)(hM:M t.n=none)(hz:z0.n<=t.n)(hR:Rel w0 (oJ M t.n en) h w')(hv:VA (oJ M t.n en) t.v v):
  Inv w0 z0 M0 nt r0 q TK HS (λj=>L j∨j=t.p.i) (a.put t.p.o.dst v) w' c (oJ M t.n en):=by
 obtain⟨p1,p2,p3,p4,p5⟩:=lj.put K J ht hn hd (js hM) hv;have S:=lj.still K J ht hn hd (v:=v) (by rw[hk];decide);refine⟨p1,p2,J.le,λp hp h2=>?_,λp hp h2 h=>?_,p3,⟨h,hh,hR,?_⟩,p4,p5,λu hu h1 h2 h3=>?_⟩
 .rw[←J.ld p hp h2];constructor
  .rintro(h|h)
   .exact h
   .have:=K.pl.ord.uniq p hp t.p (K.CX t ht) h;rw[this,hk]at h2;cases h2
  .exact .inl
 .rcases h with h|h
  .exact J.nl p hp h2 h
  .have:=K.pl.ord.uniq p hp t.p (K.CX t ht) h;rw[this];exact lj.YB K J ht hn hd
 .obtain⟨h',e1,_,e3⟩:=J.rel;rw[hh]at e1;cases e1;exact⟨e3.le.trans (js hM),λi hi=>by rw[dN _ _ (by omega)];exact e3.same i hi,e3.n⟩
 .obtain⟨k1,k2⟩:=J.pr u hu h1 h2 (λh=>h3 (.inl h));refine⟨?_,k2⟩;rw[dN _ _ (λe=>?_)]
  .exact k1
  .have:=K.dn u hu t ht h1 hw e;rw[this]at h3;exact h3 (.inr rfl)
theorem lj.TE(hk:t.p.k=2){w':World}{za zb zc:Z}(ha:HS[c]?=some za)(hc:HS[c+1]?=some zc)(hE:Ext za M zb M')(hR:Rel w0 M' zb w')(hv:VA M' t.v v)(hP:J7 zb zc)
  (hN:∀u∈TK,sr u=true->u.p.c=c+1->zb.n<=u.n) (eB:∀u∈TK,sr u=true->u.p.c<=c->¬L u.p.i->u.n<za.n) :
  Inv w0 z0 M0 nt r0 q TK HS (λj=>L j∨j=t.p.i) (a.put t.p.o.dst v) w' (c+1) M':=by
 obtain⟨p1,p2,p3,p4,p5⟩:=lj.put K J ht hn hd hE.le hv;have hce:=lj.adj K J ht hn hd hk;obtain⟨h',e1,e2,e3⟩:=J.rel;rw[ha]at e1;cases e1;have hl:=(K.pl.ord.lt t.p (K.CX t ht)).2 hk;refine⟨p1,p2,by omega,λp hp h2=>?_,λp hp h2 h=>?_,p3,⟨zc,hc,hP.2 _ _ _ hR,?_⟩,p4,p5,λu hu h1 h2 h3=>?_⟩
 .constructor
  .rintro(h|h)
   .have:=(J.ld p hp h2).1 h;omega
   .have:=K.pl.ord.uniq p hp t.p (K.CX t ht) h;rw[this];omega
  .intro h;by_cases hpc:p.c<c
   .exact .inl ((J.ld p hp h2).2 hpc)
   .have:=K.pl.ord.Iw p hp t.p (K.CX t ht) h2 hk (by omega);exact .inr (by rw[this])
 .rcases h with h|h
  .have:=J.nl p hp h2 h;omega
  .have:=K.pl.ord.uniq p hp t.p (K.CX t ht) h;rw[this]at h2;exact(h2 hk).elim
 .have:=e3.trans hE;exact⟨this.le,this.same,bP this.n hP.1⟩
 .by_cases hu2:u.p.c<=c
  .have hL:¬L u.p.i:=λh=>h3 (.inl h);obtain⟨k1,k2⟩:=J.pr u hu h1 hu2 hL;exact⟨by rw[hE.same _ (eB u hu h1 hu2 hL)];exact k1,k2⟩
  .have:=hN u hu h1 (by omega);exact⟨hR.nx _ this,by have:=(e3.trans hE).n;omega⟩
end
end
end
section
section
variable{P:Program}{tt:Tr sX}{mt:Tr (Nat×Nat×Value)}{tb:oQ}{ka:Nat->Nat->Bool}
variable{idx:FuncId->Bool}{call:FuncId->List V1->Z->Ld}{nt:Nat}{all:List Oper}{r0:Go.Ex.R}
variable{q:List Pt}{TK:List Tk}{HS:List Z}{w0:World}{z0:Z}{M0:Mp}
theorem NM{M:Mp}{a:Act}{r:Go.Ex.R}:∀{l:List Operand} {vs:List AV},(∀s av,.tmp s∈l->get r s=some av->∃v,a.tmps[s]?=some v/\VA M av v)->j7 r l=some vs->OR M a l vs/\∀t,.tmp t∈l->t<a.tmps.size
 |[],vs,_,e=>by cases e;exact⟨trivial,λt ht=>by cases ht⟩
 |x::l,vs,hs,e=>by
  rw[Dd]at e;cases h1:ev r x with
  |none=>rw[h1]at e;cases e
  |some av =>
   cases h2:j7 r l with
   |none=>rw[h1,h2]at e;cases e
   |some VM =>
    rw[h1,h2]at e;cases e;obtain⟨k1,k2⟩:=NM (λs av h=>hs s av (aw _ h)) h2;have hv:VA M av (a.eval x)/\∀t,x=.tmp t->t<a.tmps.size:=by
     cases x with
     |tmp t=>obtain⟨v,g1,g2⟩:=hs t av aI h1;refine⟨by simpa[Act.eval,g1]using g2,λt' e=>?_⟩;cases e;exact(gw.1 g1).1
     |const v=>cases h1;exact⟨CC M v,λt e=>by cases e⟩
     |func f=>cases h1;exact⟨(rfl:_=_),λt e=>by cases e⟩
     |global g=>cases h1
    refine⟨⟨hv.1,k1⟩,λt ht=>?_⟩;rcases aE.1 ht with h|h
    .exact hv.2 t h.symm
    .exact k2 t h
theorem PV{M:Mp}{a:Act}{r:Go.Ex.R}{o:Oper}(hs:∀j want o' d av,o.guard=some (j,want)->all[j]?=some o'->o'.dst=some d->get r d=some av->∃v,a.tmps[d]?=some v/\VA M av v){b:Bool}(e:guardE all r o.guard=some b):
  Region.wanted o (yielded all.toArray a.tmps)=b:=by
 cases hg:o.guard with
 |none=>rw[hg]at e;cases e;simp[Region.wanted,hg]
 |some y =>
  obtain⟨j,want⟩:=y;rw[hg]at e;replace e:gD r want all[j]?=some b:=e;cases xF:all[j]? with
  |none=>rw[xF]at e;cases e
  |some o' =>
   rw[xF]at e;simp only[gD]at e;cases hd:o'.dst with
   |none=>rw[hd]at e;cases e
   |some d =>
    rw[hd]at e;simp only at e;cases uB:get r d with
    |none=>rw[uB]at e;cases e
    |some av =>
     rw[uB]at e;obtain⟨v,h1,h2⟩:=hs j want o' d av hg xF hd uB
     match av,e,h2 with
     |.o (.s (.v (.bool b'))),e,h2 =>
      have h2:v=.bool b':=h2;subst h2;cases e;have hy:yielded all.toArray a.tmps j=some b':=by simp[yielded,xF,hd,h1]
      simp only[Region.wanted,hg,hy];rfl
     |.t [],e,⟨vs,h2,h3⟩ =>
      have:vs=[]:=by cases vs with
       |nil=>rfl
       |cons _ _=>exact h3.elim
      subst this;subst h2;cases e;have hy:yielded all.toArray a.tmps j=none:=by simp[yielded,xF,hd,h1]
      simp only[Region.wanted,hg,hy];rfl
theorem Kz{t:Tk}{z:Z}(h:stays P tt mt tb ka t z=true)(hw:t.w=true)(hk:t.p.k=0):AA P tt mt tb ka t.p.o t.vs z.h=some t.v:=by
 simp only[stays,hw,hk]at h;split at h
 .rename_i v hv;rw[hv,Ew h]
 .cases h
theorem Et{t:Tk}{z:Z}(h:stays P tt mt tb ka t z=true)(hw:t.w=true)(hk:t.p.k=1):∃f b,oZ tt mt t.p.o t.vs=some (f,b)/\get z.h t.n=some b/\t.n<z.n:=by
 simp only[stays,hw,hk]at h;split at h
 .rename_i f b b' h1 h2;rw[ak]at h;exact⟨f,b,h1,by rw[h2,zw h.1],aB h.2⟩
 .cases h
section
variable{L:Nat->Prop}{a:Act}{w:World}{c:Nat}{M:Mp}{t:Tk}
theorem lj.afi(K:lj P tt mt tb ka idx call nt all r0 z0 q TK HS)(J:Inv w0 z0 M0 nt r0 q TK HS L a w c M){za:Z}(ha:HS[c]?=some za){u:Tk}(hu:u∈TK)(hw:sr u=true)(hc:u.p.c<=c)(hL:¬L u.p.i):u.n<za.n:=by
 have xX:c<=u.p.hi:=by
  rcases K.pl.hi u.p (K.CX u hu)with h|⟨x,h1,h2,h3,h4⟩
  .rw[h];exact J.le
  .have:¬x.c<c:=λh=>hL (J.dc x h1 ((J.ld x h1 h2).2 h) _ h3);omega
 have:=K.st u hu c za ha hc xX;rw[sr,ak]at hw;obtain⟨_,_,_,_,h⟩:=Et this hw.1 (beq_iff.1 hw.2);exact h
variable(O:OK P tt mt tb ka idx call)(K:lj P tt mt tb ka idx call nt all r0 z0 q TK HS)(J:Inv w0 z0 M0 nt r0 q TK HS L a w c M)(ht:t∈TK)(hn:¬L t.p.i)(hd:∀j,isIn j t.p.dm=true->L j)
include O K J ht hn hd
theorem lj.step{Q:Exit->Act->World->Prop}:wpOp P all.toArray Q t.p.i (λa' w'=>∃c' M',Inv w0 z0 M0 nt r0 q TK HS (λj=>L j∨j=t.p.i) a' w' c' M') a w:=by
 have hq:=K.CX t ht;obtain⟨ho,hkk,hdm⟩:=K.pl.pt t.p hq;have F:=K.f t ht;obtain⟨r,pre,src,f1,f2,f3,f4,f5⟩:=F.al;have slot:∀s av,.tmp s∈jb t.p.o.op->get r s=some av->∃v,a.tmps[s]?=some v/\VA M av v:=by
  intro s av hs hg;rcases src s av hg with⟨u,hu,h1,h2⟩|⟨h1,h2⟩
  .rcases K.pl.t t.p hq u.p (K.CX u (f1 u hu)) s hs h1 with h|h
   .rw[←h2];exact J.al u (f1 u hu) (hd _ h) s h1
   .rw[f2 u hu]at h;cases h
  .refine J.base s av h1 (λu hu hl e=>?_);rcases K.pl.t t.p hq u.p (K.CX u hu) s hs e with h|h
   .obtain⟨x,hx,hxi⟩:=f3 _ h;have:=K.un x (f1 x hx) u hu hxi;rw[←this]at e;exact h2 x hx e
   .exact hn (J.dc u.p (K.CX u hu) hl _ h)
 have hw:Region.wanted t.p.o (yielded all.toArray a.tmps)=t.w:=by
  refine PV (M:=M) (r:=r) (λj want o' d av h1 h2 h3 h4=>?_) f4;have hj:=K.pl.g t.p hq j want h1;obtain⟨x,hx,hxi⟩:=f3 j hj;have hxo:x.p.o=o':=by have:=(K.pl.pt x.p (K.CX x (f1 x hx))).1;rw[hxi,h2]at this;exact(Option.some.inj this).symm
  rw[←hxo]at h3;rcases src d av h4 with⟨u,hu,g1,g2⟩|⟨g1,g2⟩
  .have:=K.pl.w u.p (K.CX u (f1 u hu)) x.p (K.CX x (f1 x hx)) d g1 h3;rw[←g2];exact J.al u (f1 u hu) (by rw[this,hxi];exact hd j hj) d g1
  .exact(g2 x hx h3).elim
 obtain⟨h,hh,hR,hE⟩:=J.rel;have hce:=lj.YB K J ht hn hd;have xX:=lj.amO K J ht hn hd;have im:=K.st t ht c h hh hce xX;have agu:t.p.k=0∨t.p.k=1∨t.p.k=2:=by rw[hkk];exact E7 _
 unfold wpOp;have xF:all.toArray[t.p.i]?=some t.p.o:=by simpa using ho
 rw[xF];simp only;rw[hw];cases QM:t.w with
 |false =>
  simp only[Bool.false_eq_true,gI];have hv:VA M t.v undef:=by rw[F.f QM];exact⟨[],rfl,trivial⟩
  by_cases hk:t.p.k=2
  .obtain⟨za,zb,zc,l1,l2,_,l4,l5,l6⟩:=F.ld hk;have hc:=lj.adj K J ht hn hd hk;rw[hc]at l1 l2 l6;rw[hh]at l1;cases l1;have:=l4 QM;subst this;exact⟨c+1,M,lj.TE K J ht hn hd hk hh l2 (Ext.refl _ _) hR hv l5 l6 (λu hu h1 h2 h3=>lj.afi K J hh hu h1 h2 h3)⟩
  .exact⟨c,M,lj.still K J ht hn hd hk hv⟩
 |true =>
  simp only[if_true];refine .inl ?_;obtain⟨hor,eB⟩:=NM slot (f5 QM);rcases agu with hk|hk|hk
  .obtain⟨u,run,hu⟩:=MG (w:=w) (a:=a) (M:=M) O.t hR.hp eB J.df (Kz im QM hk) hor;unfold Oper.wp;rw[run];exact⟨c,M,lj.still K J ht hn hd (by rw[hk];decide) hu⟩
  .obtain⟨f,b,n1,n2⟩:=F.nw QM hk;obtain⟨f',b',s1,s2,s3⟩:=Et im QM hk;rw[n1]at s1;cases s1;have hnw:sr t=true:=by simp[sr,QM,hk]
   obtain⟨hM,hz⟩:=J.pr t ht hnw hce hn;obtain⟨v,en,w',run,h1,h2,h3⟩:=Tm (k:=t.n) (w:=w) (a:=a) (M:=M) O.t hM n1 hor;unfold Oper.wp;rw[run];refine⟨c,oJ M t.n en,lj.mkb K J ht hn hd hk hnw hh hM hz ?_ ?_⟩
   .exact hR.Tz hM s3 (λx hx=>by rw[s2]at hx;exact(Option.some.inj hx).symm) h1 h3
   .rw[n2];exact h2
  .obtain⟨za,zb,zc,l1,l2,l3,_,l5,l6⟩:=F.ld hk;have hc:=lj.adj K J ht hn hd hk;rw[hc]at l1 l2 l6;rw[hh]at l1;cases l1;have e1:oneE P tt mt tb ka idx call t.p.o t.vs h=some (t.v,zb):=by unfold oneE;rw[←hkk,hk];exact l3 QM
   refine CA O.t O.i O.c hR eB J.df e1 hor (λu w' M' h1 h2 h3=>?_);exact⟨c+1,M',lj.TE K J ht hn hd hk hh l2 h1 h3 h2 l5 l6 (λu hu h1 h2 h3=>lj.afi K J hh hu h1 h2 h3)⟩
end
theorem FE(e:Edge):Region.binds .any e=isB e:=by
 unfold Region.binds isB;cases e.ground<;>rfl
theorem Hc(hI:FI P idx)(T:ud P tt mt tb ka)(hm:P.follows .mixedOrders=true)(hC:vO P call):vN P tt mt tb ka idx call:=by
 intro nt w0 M a w r z r' z' id ops Q h R e k;have O:OK P tt mt tb ka idx call:=⟨T,hI,hC,hm⟩
 refine wp_region_any hm ?_;have e:ahe P tt mt tb ka idx call nt ops.toList r z (H8 ops.toList)=some (r',z'):=e;cases hp:H8 ops.toList with
 |none=>rw[hp]at e;cases e
 |some q =>
  rw[hp]at e;have pl:=KV hp;have e:drFin P tt mt tb ka (JD P tt mt tb ka idx call nt ops.toList q ⟨r,z,[],[]⟩)=some (r',z'):=e;cases hd:JD P tt mt tb ka idx call nt ops.toList q ⟨r,z,[],[]⟩with
  |none=>rw[hd]at e;cases e
  |some dF =>
   rw[hd]at e;have e:(Bool.rec none (some (dF.r,dF.z)) (NS P tt mt tb ka dF (List.reverse (dF.z::dF.hs))):Option (Go.Ex.R×Z))=some (r',z'):=e;cases hc:NS P tt mt tb ka dF (List.reverse (dF.z::dF.hs))with
   |false=>rw[hc]at e;cases e
   |true =>
    rw[hc]at e;cases e;have run:=Fq hd;obtain⟨h0,rest,nw,e1,e2,e3,e4,e5,e6,e7,e8⟩:=run.facts (r0:=r) pl.ord rfl (λj=>by simp) (λu hu=>by cases hu) (λu hu=>by cases hu) (λs av hs=>.inr ⟨hs,λu hu=>by cases hu⟩) pl.pt;have e3:dF.tk=nw:=by simpa using e3
    have e1:(dF.z::dF.hs).reverse=h0::rest:=by simpa using e1
    rw[NS,ak]at hc;have im:∀(l:List Tk),(List.rec true (λt _ r=>(uL P tt mt tb ka t t.p.c t.p.hi (List.reverse (dF.z::dF.hs))&&r)) l:Bool)=true->∀t∈l,uL P tt mt tb ka t t.p.c t.p.hi (List.reverse (dF.z::dF.hs))=true:=by
     intro l
     induction l with
     |nil=>intro _ t ht;cases ht
     |cons x l ih =>
      intro h t ht;have h:=(ak _ _▸(show(uL P tt mt tb ka x x.p.c x.p.hi (List.reverse (dF.z::dF.hs))&&_)=true from h))
      rcases aE.1 ht with rfl|ht
      .exact h.1
      .exact ih h.2 t ht
    have K:lj P tt mt tb ka idx call nt ops.toList r z q dF.tk (dF.z::dF.hs).reverse :=
     ⟨pl,λt ht=>(e8 t (by rw[←e3];exact ht)).1,run.uniq pl.ord (λu hu=>by cases hu) (λt ht=>by cases ht),λp hp=>by rw[e3];exact e4 p hp,λt ht=>e5 t (by rw[←e3];exact ht),
      λt ht c z hz h1 h2=>D7 (im _ hc.1 t ht) hz h1 h2,(Aj hc.2).2⟩
    refine Oh (I:=λL a w=>∃c M',Inv w0 z M nt r q dF.tk (dF.z::dF.hs).reverse L a w c M') ?_ ?_ ops.size _ _ _ (by simp) ?_ ?_
    .rintro L a w i o ⟨c,M',J⟩ ho hn hd;obtain⟨p,hp,hpi⟩:=pl.cov i (by have:=(gw.1 ho).1;simpa using this);obtain⟨t,ht,htp⟩:=K.ex p hp;subst hpi;subst htp;have Nu:=pl.pt t.p hp;have hoo:o=t.p.o:=by have:=Nu.1;rw[iD,ho]at this;exact Option.some.inj this
     subst hoo;exact lj.step O K J ht hn (λj hj=>by
      rw[Nu.2.2]at hj;obtain⟨x,hx,hb,rfl⟩:=(Ai _ _).1 hj;exact hd x (by simpa using hx) (by rw[FE];exact hb))
    .rintro L a w ⟨c,M',J⟩ hL;have Qv:∀p∈q,L p.i:=pl.ord.all (λj h=>h.elim) (λp hp hj=>by
      have Nu:=pl.pt p hp;refine hL p.i p.o (by rw[←iD];exact Nu.1) (λx hx hb=>hj _ ?_);rw[Nu.2.2];exact(Ai _ _).2 ⟨x,by simpa using hx,by rw[←FE];exact hb,rfl⟩)
     have hcl:c=kZ q:=by
      rcases Nat.lt_or_ge c (kZ q)with h|h
      .obtain⟨p,h1,h2,h3⟩:=pl.ord.ex c h;have:=(J.ld p h1 h2).1 (Qv p h1);omega
      .exact Nat.le_antisymm J.le h
     obtain⟨h,hh,hR,hE⟩:=J.rel;have hlen:dF.hs.length=kZ q:=by have:=b8 List.length e1;simp at this;omega
     have hz:h=dF.z:=by rw[hcl,←hlen,List.reverse_cons,eS (by simp)]at hh;simpa using hh.symm
     subst hz;refine k a w ⟨M',hE,⟨J.sz,J.df,λs av hs=>?_⟩,hR⟩;rcases e6 s av hs with⟨u,h1,h2,h3⟩|⟨h1,h2⟩
     .rw[←h3];exact J.al u h1 (Qv _ (K.CX u h1)) s h2
     .exact J.base s av h1 (λu hu _=>h2 u hu)
    .simp
    .have hF:∀j,((Array.replicate ops.size false).getD j false=true)↔False:=λj=>by simp only[iff_false,Bool.not_eq_true];rw[Array.getD];split<;>simp
     have R':Rel w0 M z { w with drawn:=w.drawn+1 }:=⟨R.os,R.tape,R.output,R.size,R.lS,R.nx,R.fresh,R.inj,λi x en h1 h2=>(R.hp i x en h1 h2).mono (Le.refl M) (λ_ _=>rfl)⟩
     refine⟨0,M,h.size,h.defers,mb _,λp hp _=>by simp only[hF];simp,λp hp _ hl=>((hF _).1 hl).elim,λp hp hl=>((hF _).1 hl).elim,⟨h0,by rw[e1];rfl,e2.2 _ _ _ R',⟨Le.refl M,λ_ _=>rfl,e2.1⟩⟩,
      λt ht hl=>((hF _).1 hl).elim,λs av hs _=>h.al s av hs,λt ht h1 h2 _=>?_⟩
     have:=(e8 t (by rw[←e3];exact ht)).2 (by omega) h1;exact⟨R.nx _ this,this⟩
end
end
noncomputable section
theorem Rel.prune{w0 w:World}{M:Mp}{z z2:Z}(R:Rel w0 M z w)(h:∀i x,get z2.h i=some x->get z.h i=some x)(hn:z2.n=z.n)(hl:z2.lo=z.lo):Rel w0 M z2 w :=
 ⟨R.os,R.tape,R.output,R.size,R.lS,λi hi=>R.nx i (by omega),λi e b k=>R.fresh i e b (hl▸k),λi j x y e e' b h0 h1 h2=>R.inj i j x y e e' b (hl▸h0) (h i x h1) (h j y h2),λi x e h1 h2=>R.hp i x e (h i x h1) h2⟩
theorem RR.prune{nt:Nat}{M:Mp}{r r2:Go.Ex.R}{a:Act}(R:RR nt M r a)(h:∀t av,get r2 t=some av->get r t=some av):RR nt M r2 a :=
 ⟨R.size,R.defers,λt av e=>R.al t av (h t av e)⟩
def xW{α:Type}(l:List (Nat×α)):Tr α:=l.foldr (λq t=>set 12 t q.1 (some q.2)) .e
theorem Bt{α:Type}:∀{l:List (Nat×α)} {i:Nat} {x:α},get (xW l) i=some x->(i,x)∈l
 |[],i,x,h=>by cases h
 |q::l,i,x,h=>by
  rcases lM _ _ _ _ _ _ (show get (set 12 (xW l) q.1 (some q.2)) i=some x from h)with⟨h1,h2⟩|⟨_,h⟩
  .cases h2;subst h1;exact aI
  .exact aw _ (Bt h)
def cmpO{α:Type}(f:α->α->Bool):Option α->α->Bool
 |some x,y=>f x y
 |none,_=>false
def Rv{α:Type}(f:α->α->Bool)(t:Tr α)(l:List (Nat×α)):Bool:=List.rec true (λq _ r=>cmpO f (get t q.1) q.2&&r) l
theorem vR{α:Type}{f:α->α->Bool}(hf:∀{x y},f x y=true->x=y){t:Tr α}:∀{l:List (Nat×α)},Rv f t l=true->∀q∈l,get t q.1=some q.2
 |[],_,q,hq=>by cases hq
 |y::l,h,q,hq=>by
  have h:(cmpO f (get t y.1) y.2&&Rv f t l)=true:=h;rw[ak]at h;rcases aE.1 hq with rfl|hq
  .cases hg:get t q.1 with
   |none=>rw[hg]at h;exact absurd h.1 (by simp[cmpO])
   |some x=>rw[hg]at h;rw[hf (show f x q.2=true from h.1)]
  .exact vR hf h.2 q hq
def vC(rl:List (Nat×AV))(hl:List (Nat×Bk))(n:Nat):Option (X×R×Z)->Bool
 |some (.n,r,z)=>Nat.beq z.n n&&(Nat.beq z.lo 0&&(Rv sameAV r rl&&Rv sameBk z.h hl))
 |_=>false
theorem LQ{w0:World}{nt:Nat}{M:Mp}{z0:Z}{rl:List (Nat×AV)}{hl:List (Nat×Bk)}{n:Nat}{y:Option (X×Go.Ex.R×Z)}(h:vC rl hl n y=true):
  ∃r z,y=some (.n,r,z)/\∀a w,V8 w0 nt M z0 r z a w->V8 w0 nt M z0 (xW rl) ⟨xW hl,n,0⟩ a w:=by
 unfold vC at h;split at h
 .rename_i r z;simp only[ak]at h;refine⟨r,z,rfl,λa w ⟨M',h1,h2,h3⟩=>⟨M',⟨h1.le,h1.same,?_⟩,h2.prune (λt av e=>?_),h3.prune (λi x e=>?_) (beq_iff.1 h.1).symm (beq_iff.1 h.2.1).symm⟩⟩
  .have:=h1.n;rw[beq_iff.1 h.1]at this;exact this
  .exact vR Ew h.2.2.1 _ (Bt e)
  .exact vR zw h.2.2.2 _ (Bt e)
 .cases h
end
end Go.Ex
