/- Lemmas. Conditions: their own. -/
import Derived.Test.YtmgahplojkmcaaaGreatExV
import Derived.Test.YtmgahplojkmcaaaGreatGR
set_option linter.all false
namespace Go.Ex
open Go Go.Sv Go.Proofs Go.Proofs.Y
noncomputable section
section
variable{w0 w w':World}{M:Mp}{z:Z}
theorem Rel.ev(R:Rel w0 M z w)(h1:w'.os=w.os)(h2:w'.tape=w.tape)(h3:w'.output=w.output)(h4:w.heap.size<=w'.heap.size)(hk:∀b,b<w.heap.size->w'.heap[b]?=w.heap[b]?):Rel w0 M z w' :=
 ⟨h1.trans R.os,h2.trans R.tape,h3.trans R.output,bP R.size h4,λb hb=>(hk b (dH hb R.size)).trans (R.lS b hb),R.nx,R.fresh,R.inj,
  λi x e h1 h2=>(R.hp i x e h1 h2).mono (Le.refl M) λb hb=>hk b ((R.hp i x e h1 h2).lt hb)⟩
theorem Rel.got(R:Rel w0 M z w)(h1:w'.os=w.os)(h2:w'.tape=w.tape)(h3:w'.output=w.output)(h4:w.heap.size<=w'.heap.size)(hk:∀b,b<w.heap.size->w'.heap[b]?=w.heap[b]?){en:En}{b:Bk}
  (PQ:∀x,en.wQ=some x->w.heap.size<=x) (hB:BR (oJ M z.n en) w' en b):Ext z M (new z b) (oJ M z.n en)/\Rel w0 (oJ M z.n en) (new z b) w':=by
 have hn:M z.n=none:=R.nx z.n (aK _);have R':=R.ev h1 h2 h3 h4 hk;have eB:∀i x e b,get z.h i=some x->M i=some e->e.wQ=some b->b<w.heap.size:=λi x e b h1 h2 h3=>(R.hp i x e h1 h2).lt h3;refine⟨⟨js hn,λi hi=>dN _ _ (by omega),Nat.le_succ _⟩,R'.os,R'.tape,R'.output,R'.size,R'.lS,?_,?_,?_,?_⟩
 .intro i hi;have hi:z.n+1<=i:=hi;rw[dN _ _ (by omega)];exact R.nx i (by omega)
 .intro i e b h0 h1 h2;by_cases I8:i=z.n
  .subst I8;rw[fk]at h1;cases h1;exact bP R.size (PQ b h2)
  .rw[dN _ _ I8]at h1;exact R.fresh i e b h0 h1 h2
 .intro i j x y e e' b h0 hi hj h1 h2 h3 h4;rcases tQ hi with⟨rfl,_⟩|⟨lg,hi⟩<;>rcases tQ hj with⟨rfl,_⟩|⟨xH,hj⟩
  .rfl
  .rw[fk]at h1;rw[dN _ _ xH]at h2;cases h1;have:=eB j y e' b hj h2 h4;have:=PQ b h3;omega
  .rw[fk]at h2;rw[dN _ _ lg]at h1;cases h2;have:=eB i x e b hi h1 h3;have:=PQ b h4;omega
  .rw[dN _ _ lg]at h1;rw[dN _ _ xH]at h2;exact R.inj i j x y e e' b h0 hi hj h1 h2 h3 h4
 .intro i x e hi h1;rcases tQ hi with⟨rfl,hx⟩|⟨lg,hi⟩
  .rw[fk]at h1;cases h1;rw[←hx];exact hB
  .rw[dN _ _ lg]at h1;exact(R'.hp i x e hi h1).mono (js hn) λ_ _=>rfl
theorem RM{x y:Value×V1×Nat}(h:RN x y=true):x=y:=by
 obtain⟨a,b,c⟩:=x;obtain⟨a',b',c'⟩:=y;simp only[RN,ak]at h;rw[BZ h.1,pn h.2.1,beq_iff.1 h.2.2]
theorem XS{q:List V1}{av:AV}{z':Z}(h:hkS z q=some (some (av,z'))):
  ∃i j k,q=[.s (.c i)]/\get z.h i=some (.f 419 [] [.s (.p j 0)])/\get z.h j=some (.c [.m k])/\get z.h k=some (.m K0 6)/\av=.o (.s (.sl z.n 0 1 6))/\z'=new z (.c KB):=by
 unfold hkS at h;split at h
 .rename_i i;unfold hkS1 at h;split at h
  .rename_i f j o hi;obtain⟨hb,h2⟩:=gP h;rw[ak]at hb;have e1:=beq_iff.1 hb.1;have e2:=beq_iff.1 hb.2;clear h hb;subst e1 e2;unfold agv at h2;split at h2
   .rename_i k hj;unfold hkS3 at h2;split at h2
    .rename_i es c hk;obtain⟨hc,h3⟩:=gP h2;rw[ak]at hc;have e3:=pS RM hc.1;have e4:=beq_iff.1 hc.2;clear h2 hc;subst e3 e4;cases h3;exact⟨i,j,k,rfl,hi,hj,hk,rfl,rfl⟩
    .cases h2
   .cases h2
  .cases h
 .cases h
def Rt:Value->Option (DataW Unit×List MemPlace):=λ_=>some (.lit (.bool true),[])
def L6:List (Lit×DataW Unit):=[(.int .i64 0,.lit (.bool true)),(.int .i64 4,.lit (.bool true)),(.int .i64 8,.lit (.bool true)),(.int .i64 12,.lit (.bool true)),(.int .i64 16,.lit (.bool true)),(.int .i64 20,.lit (.bool true))]
def D6:DataW Unit:=.map (L6.foldr DataW.insert [])
theorem Az{e:MapEntry}{a:Int}(h:e.key=.int .i64 a)(hw:(Lit.int .i64 a).wf=true):WideElems.rd Tryz.prog 3 Rt e=some (.int .i64 a,.lit (.bool true)):=by
 unfold WideElems.rd;rw[h,Maps.keyOf_int_mk Tryz.underlying3 hw];rfl
theorem FL.c{α β:Type}{R:α->β->Prop}{a:α}{l:List α}{q:List β}(h:FL R (a::l) q):∃b q',q=b::q'/\R a b/\FL R l q':=by
 cases q with
 |nil=>exact h.elim
 |cons b q'=>exact⟨b,q',rfl,h.1,h.2⟩
theorem FL.n{α β:Type}{R:α->β->Prop}{q:List β}(h:FL R [] q):q=[]:=by
 cases q with
 |nil=>rfl
 |cons b q'=>exact h.elim
theorem ae0{bm:Nat}{arr:Array MapEntry}(hb:w.heap[bm]?=some (.map arr 6))(h:FL (EN M) K0 arr.toList):w.ownsMap Tryz.prog 3 Rt bm 6 D6:=by
 obtain⟨e0,q,hq,⟨k0,_,b0⟩,h⟩:=FL.c h;obtain⟨e1,q,rfl,⟨k1,_,b1⟩,h⟩:=FL.c h;obtain⟨e2,q,rfl,⟨k2,_,b2⟩,h⟩:=FL.c h;obtain⟨e3,q,rfl,⟨k3,_,b3⟩,h⟩:=FL.c h;obtain⟨e4,q,rfl,⟨k4,_,b4⟩,h⟩:=FL.c h;obtain⟨e5,q,rfl,⟨k5,_,b5⟩,h⟩:=FL.c h;obtain rfl:=FL.n h;have jh:arr.size=6:=by rw[←cm,hq];rfl
 have r0:=Az k0 (by decide);have r1:=Az k1 (by decide);have r2:=Az k2 (by decide);have r3:=Az k3 (by decide);have r4:=Az k4 (by decide);have r5:=Az k5 (by decide);refine⟨arr,6,hb,⟨by rw[jh];decide,⟨?_,?_,?_⟩,?_⟩,by omega,?_⟩
 .rw[hq];intro x hx;simp only[aE,pA,or_false]at hx;rcases hx with rfl|rfl|rfl|rfl|rfl|rfl
  .rw[b0];decide
  .rw[b1];decide
  .rw[b2];decide
  .rw[b3];decide
  .rw[b4];decide
  .rw[b5];decide
 .rw[hq];simp only[ba,iC,b0,b1,b2,b3,b4,b5];decide
 .rw[hq];simp only[ba,iC,k0,k1,k2,k3,k4,k5];simp
 .rw[hq];intro x hx;simp only[aE,pA,or_false]at hx;rcases hx with rfl|rfl|rfl|rfl|rfl|rfl
  .exact⟨_,r0⟩
  .exact⟨_,r1⟩
  .exact⟨_,r2⟩
  .exact⟨_,r3⟩
  .exact⟨_,r4⟩
  .exact⟨_,r5⟩
 .rw[hq];simp only[ba,iC,WideElems.rg,r0,r1,r2,r3,r4,r5];rfl
theorem amp{x:Int}:Maps.has D6 (.int .i64 x)=true↔x∈([0,4,8,12,16,20]:List Int):=by
 refine(Go.Te.GZ (l:=[((0:Int),()),(4,()),(8,()),(12,()),(16,()),(20,())])).trans ?_;simp only[bB,aE,pA,or_false];grind
theorem Wu:([0,4,8,12,16,20]:List Int).mergeSort (λx y=>decide (x<=y))=[0,4,8,12,16,20] :=
 List.mergeSort_of_pairwise (by simp)
theorem Yy{b s k:Nat}{l:List Value}{arr:Array Value}{t:TypeId}(h:w.heap[b]?=some (.cells arr t (0,0)))(hk:l=(arr.toList.drop s).take 1){v:Value}(hl:l=[v]):w.cell? ⟨b,s,none⟩=some v:=by
 have:arr.toList[s]?=some v:=by
  have h1:((arr.toList.drop s).take 1)[0]?=some v:=by rw[←hk,hl];rfl
  rw[bQ]at h1;simpa using h1
 unfold World.cell?; rw[h];simpa using this
theorem ach{q:List V1}{av:AV}{z':Z}(h:hkS z q=some (some (av,z'))){vals:List Value}(hv:QT M q vals)(R:Rel w0 M z w):
  Calls Tryz.prog 113 vals.toArray w (λe w'=>∃v M',e=.returned v/\Ext z M z' M'/\VA M' av v/\Rel w0 M' z' w'):=by
 obtain⟨i,j,k,rfl,hi,hj,hk,rfl,rfl⟩:=XS h;obtain⟨v,q,rfl,hv1,hq⟩:=FL.c hv;obtain rfl:=FL.n hq;obtain⟨hMi,_⟩:M i=some (.f v)/\∃p q r,v=.func p q r:=hv1;obtain⟨vp,vq,rfl,h1,h2⟩:=R.hp i _ _ hi hMi;obtain rfl:=FL.n h1;obtain⟨u,q,rfl,⟨b,s,N,hMj,rfl⟩,hq⟩:=FL.c h2;obtain rfl:=FL.n hq;obtain⟨arr,t,c1,c2,c3,c4⟩:=R.hp j _ _ hj hMj;obtain⟨u,q,hu,⟨bm,hMk,rfl⟩,hq⟩:=FL.c c4;obtain rfl:=FL.n hq;obtain⟨ma,m1,m2⟩:=R.hp k _ _ hk hMk;have jZ:w.cell? ⟨b,s+0,none⟩=some (.map (some bm)):=Yy (k:=k) c1 rfl hu;have zW:=ae0 m1 m2;have eB:b<w.heap.size:=(gw.1 c1).1;refine Calls.mono (Tryz.OE b (s+0) bm 6 D6 w eB jZ zW (by decide) (by decide)) ?_;rintro e w' ⟨v,ss,rfl,⟨hn,hm⟩,gk,XP,hB⟩;have hp:ss.Perm [0,4,8,12,16,20]:=(List.perm_ext_iff_of_nodup hn (by decide)).2 λx=>(hm x).trans amp;have hs:ss.mergeSort (λx y=>decide (x<=y))=[0,4,8,12,16,20]:=(mergeSort_of_perm_i hp).trans Wu;have hlen:ss.length=6:=hp.length_eq;rw[hs,hlen]at gk;obtain⟨_,⟨_,h0⟩|⟨g,cap,cur,rfl,hg,hc,hle,_,jh,PD⟩⟩:=gk
 .cases h0
 .have PD:(cur.toList.drop 0).take 6=[.int .i64 0,.int .i64 4,.int .i64 8,.int .i64 12,.int .i64 16,.int .i64 20]:=PD;obtain⟨x1,x2⟩:=R.got hB.os hB.tape hB.output hB.size hB.block (en:=.b g 0 cap) (b:=.c KB) (λx hx=>by cases hx;exact hg)
   ⟨cur,3,hc,by omega,hle,by
    show VL _ KB ((cur.toList.drop 0).take 6);rw[PD];exact⟨rfl,rfl,rfl,rfl,rfl,rfl,trivial⟩⟩
  exact⟨_,_,rfl,x1,⟨g,0,cap,cap,_,fk _ _ _,rfl,hle,.inl ⟨rfl,by omega⟩⟩,x2⟩
def N2:FuncId->List V1->Z->Ld:=FB Tryz.prog HB DW HG E9 Z0 wM (λ_ _ _=>none) 40
theorem C1:vO Tryz.prog N2:=DA T0 I0 zO F0 (λ_ _ _ _ _ h=>by cases h) (λ_ hC=>Hc I0 T0 zO hC) 40
def hM:List (Nat×Bk):=(1200,.c [.v (.int .i64 4),.sl 1199 0 1 6])::hN
def is0:Ld->Bool
 |some (.o (.s (.v (.int .i64 0))),_)=>true
 |_=>false
theorem aeD:is0 (N2 44 [.g [.v (.int .i64 4),.sl 1199 0 1 6]] ⟨xW hN,1200,1200⟩)=true:=by kernel_rfl
theorem aeC(l:Nat):(N2 90 [.s (.v (.func (.yield l) #[] #[])),.s (.p 1200 0)] ⟨xW hM,1201,1201⟩).isSome=true:=by kernel_rfl
def R4(w:World)(a:Option Addr)(c:Nat):Prop:=∃M,Rel w M ⟨xW hN,1200,1200⟩ w/\VS M (.sl 1199 0 1 6) (.slice a 6 c)
theorem Rel.below{M:Mp}{z:Z}{w w':World}(R:Rel w M z w'):RowKit.Below w.heap.size w w':=⟨R.os,R.tape,R.output,R.size,R.lS⟩
theorem TN{M:Mp}{l:List (Nat×Bk)}{n:Nat}{w:World}(h0:∀i,n<=i->M i=none)(hp:Hp M (xW l) w):Rel w M ⟨xW l,n,n⟩ w :=
 ⟨rfl,rfl,rfl,aK _,λ_ _=>rfl,h0,λi e b h h1=>(by rw[h0 i h]at h1;cases h1),λi j x y e e' b h _ _ h1=>(by rw[h0 i h]at h1;cases h1),hp⟩
theorem K4:Go.Proofs.Tryz.K4 R4 where
 rb:=λ⟨M,R,h⟩ hB=>⟨M,TN R.nx λi x e h1 h2=>(R.hp i x e h1 h2).mono (Le.refl M) λb hb=>hB.block b ((R.hp i x e h1 h2).lt hb),h⟩
 k44:=λw a c ⟨M,R,h⟩=>by
  have e:=aeD;cases hc:N2 44 [.g [.v (.int .i64 4),.sl 1199 0 1 6]] ⟨xW hN,1200,1200⟩with
  |none=>rw[hc]at e;cases e
  |some q =>
   refine((C1 _ _ _ _ _ hc).2 w M w [Tryz.Hm a c] ⟨⟨[.int .i64 4,.slice a 6 c],rfl,rfl,h,trivial⟩,trivial⟩ R).mono ?_;rintro e w' ⟨v,M',rfl,_,hv,R'⟩;rw[hc]at e;unfold is0 at e;split at e
   .rename_i heq;cases heq;exact⟨b8 _ hv,R'.below⟩
   .cases e
 k90:=λl bf a c w ⟨M,R,h⟩ hb=>by
  obtain⟨q,hc⟩:=bR.1 (aeC l);have R2:Rel w (oJ M 1200 (.b bf 0 2)) ⟨xW hM,1201,1201⟩ w:=TN (λi hi=>by rw[dN _ _ (by omega)];exact R.nx i (by show 1200<=i;omega)) λi x e h1 h2=>by
   have le:Le M (oJ M 1200 (.b bf 0 2)):=js (R.nx 1200 (aK _));rcases lM _ _ _ _ _ _ (show get (set 12 (xW hN) 1200 (some _)) i=some x from h1)with⟨rfl,e1⟩|⟨hi,h1⟩
   .cases e1;rw[fk]at h2;cases h2;exact⟨_,_,hb,rfl,aK _,rfl,VS.mono le h,trivial⟩
   .rw[dN _ _ hi]at h2;exact(R.hp i x e h1 h2).mono le λ_ _=>rfl
  refine((C1 _ _ _ _ _ hc).2 w _ w [.func (.yield l) #[] #[],.pointer (some ⟨bf,0,none⟩)] ⟨rfl,⟨bf,0,2,fk _ _ _,rfl⟩,trivial⟩ R2).mono ?_;rintro e w' ⟨v,M',rfl,_,_,R'⟩;exact⟨⟨v,rfl⟩,R'.below⟩
theorem XT{q:List V1}{av:AV}{z':Z}(h:hkC z q=some (some (av,z'))):
  q=[.g [.v (.int .i64 4),.sl 1199 0 1 6]]/\(∀x∈hN,get z.h x.1=some x.2)/\av=.t [.s (.v (.int .i64 0)),.s (.v (.int .i64 0))]/\z'=z:=by
 unfold hkC at h;split at h
 .obtain⟨hb,h⟩:=gP h;rw[ak]at hb;cases h;exact⟨by rw[pn hb.1],vR zw hb.2,rfl,rfl⟩
 .cases h
theorem aci{q:List V1}{av:AV}{z':Z}(h:hkC z q=some (some (av,z'))){vals:List Value}(hv:QT M q vals)(R:Rel w0 M z w):
  Calls Tryz.prog 16 vals.toArray w (λe w'=>∃v M',e=.returned v/\Ext z M z' M'/\VA M' av v/\Rel w0 M' z' w'):=by
 obtain⟨rfl,hN,rfl,rfl⟩:=XT h;obtain⟨v,q,rfl,⟨vs,rfl,hv1⟩,hq⟩:=FL.c hv;obtain rfl:=FL.n hq;obtain⟨u,q,rfl,hu,hv2⟩:=FL.c hv1;have hu:u=.int .i64 4:=hu;subst hu;obtain⟨u,q,rfl,hu,hv3⟩:=FL.c hv2;obtain rfl:=FL.n hv3;obtain⟨b,s,N,cap,a,h1,rfl,h2⟩:=hu;have hR:R4 w (some a) cap:=by
  refine⟨λi=>bif Nat.blt i 1200 then M i else none,TN (λi hi=>?_) (λi x e h1 h2=>?_),⟨b,s,N,cap,a,h1,rfl,h2⟩⟩
  .cases hb:Nat.blt i 1200 with
   |false=>rfl
   |true=>exact absurd (show i+1<=1200 from aB hb) (Nat.not_le.2 (Nat.lt_succ_of_le hi))
  .have hm:=Bt h1;have hg:=hN _ hm;simp only[Ex.hN,aE,pA,or_false,Prod.mk.injEq]at hm;rcases hm with⟨rfl,rfl⟩|⟨rfl,rfl⟩|⟨rfl,rfl⟩|⟨rfl,rfl⟩|⟨rfl,rfl⟩|⟨rfl,rfl⟩|⟨rfl,rfl⟩<;>cases e<;>first
    |exact(R.hp _ _ _ hg h2).elim
    |obtain⟨arr,t,g1,g2,g3,g4⟩:=R.hp _ _ _ hg h2
     refine⟨arr,t,g1,g2,g3,?_⟩
     revert g4
     generalize List.take _ _=q;intro g4;rcases q with _|⟨x0,_|⟨x1,_|⟨x2,_|⟨x3,_|⟨x4,_|⟨x5,_|⟨x6,q⟩⟩⟩⟩⟩⟩⟩<;>exact g4
 refine Calls.mono (Go.Proofs.Tryz.w16 K4 (some a) cap w hR) ?_;rintro e w' ⟨rfl,hB⟩;exact⟨_,M,rfl,Ext.refl _ _,⟨[.int .i64 0,.int .i64 0],rfl,rfl,rfl,trivial⟩,R.ev hB.os hB.tape hB.output hB.size λb hb=>hB.block b hb⟩
end
theorem hb113:eX Tryz.prog 113=true:=by kernel_rfl
theorem hb16:eX Tryz.prog 16=true:=by kernel_rfl
theorem H0:VG Tryz.prog Ul:=λf q z av z' h=>by
 unfold Ul at h;cases h1:Nat.beq f 113 with
 |true=>rw[h1]at h;have:=beq_iff.1 h1;subst this;exact⟨hb113,λw0 M w vals hv R=>ach h hv R⟩
 |false=>rw[h1]at h;have h:(bif Nat.beq f 16 then hkC z q else none)=some (some (av,z')):=h;obtain⟨h2,h⟩:=gP h;have:=beq_iff.1 h2;subst this;exact⟨hb16,λw0 M w vals hv R=>aci h hv R⟩
end
end Go.Ex
