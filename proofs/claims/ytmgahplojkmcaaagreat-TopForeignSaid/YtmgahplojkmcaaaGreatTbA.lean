/- Lemmas. Conditions: their own. -/
import Derived.Test.YtmgahplojkmcaaaGreatTe3
set_option linter.all false
namespace Go.Te
open Go Go.Sv Go.Proofs.Y
noncomputable section
section
variable{P:Program}{T:Tb}{la:Nat->Option LA}{w w0:World}{χ χ0 χ1 χ2:Nat->Nat}{E:En}{s S0:TS}{X:Cx}{sy:Sy}{a:Act}{H:Hd}{n:Nat}{ds:List Nat}
theorem G2{cs:List Nat}{b:Nat}(h:χ b∉cs):sV cs χ b=χ b:=by
 unfold sV;rw[bl.2 h];rfl
def qw(H:Hd)(S:Spec)(h:HL S.ar):List (Nat×Nat):=(lhP H S.ps S.ar h 0).map (λe=>(e.2,e.1))
theorem Ct{S:Spec}{h:HL S.ar}(hn:∀e∈lhP H S.ps S.ar h 0,∀e'∈lhP H S.ps S.ar h 0,e.2=e'.2->e.1=e'.1){e:Nat×Nat}(he:e∈lhP H S.ps S.ar h 0):mf (qw H S h) e.2=e.1 :=
 Dc (λa b b' h1 h2=>by
  obtain⟨y,hy,e1⟩:=aq.1 h1;obtain⟨z,hz,e2⟩:=aq.1 h2;cases e1;have:=hn y hy z hz (b8 Prod.fst e2).symm;exact this.trans (b8 Prod.snd e2)) (aq.2 ⟨e,he,rfl⟩)
theorem MS{S:Spec}{h:HL S.ar}(hn:∀e∈lhP H S.ps S.ar h 0,∀e'∈lhP H S.ps S.ar h 0,e.2=e'.2->e.1=e'.1)(c:Nat):(mf (qw H S h) c=0∨mf (qw H S h) c=1000)∨∃e∈lhP H S.ps S.ar h 0,c=e.2/\mf (qw H S h) c=e.1:=by
 by_cases hc:c∈(qw H S h).map (·.1)
 .obtain⟨y,hy,rfl⟩:=aq.1 hc;obtain⟨e,he,rfl⟩:=aq.1 hy;exact .inr ⟨e,he,rfl,Ct hn he⟩
 .left;rw[sC hc];cases Nat.beq c 0 with
  |true=>exact .inl rfl
  |false=>exact .inr rfl
theorem acZ{S:Spec}{hh:HL S.ar}{vars:List ResultVar}{vals:List Value}{l:List RV}{b it:List It}{oc mc:List Nat}{r:D1 S.rs}{qu:List (Nat×Nat)}
  (hA:AR w0 χ0 H S.bt S.ps S.ar hh 0 0 vals) (hn:∀e∈lhP H S.ps S.ar hh 0,∀e'∈lhP H S.ps S.ar hh 0,e.2=e'.2->e.1=e'.1) (hne:∀c∈(lhP H S.ps S.ar hh 0).map (·.2),c≠0/\c≠1000) (hu:∀q b,q<kj S.ps->χ0 b=H.c q->b=H.b q)
  (hS0:S0=startP S.bt S.ps S.ar hh 0 0 ⟨[],[],[],[],[]⟩) (agf:∀q,q<kj S.ps->E.ρ (901+q)=H.b q) (hnb:kj S.ps<=90) (hms:∀q∈S.ms,q<kj S.ps) (h64:S0.boxes.all (λq=>Nat.ble q.2.2.length 64)=true)
  {nb:Nat} (h:bX ⟨n,w0,χ0,mf (qw H S hh),qu,nb⟩ s E sy a w χ) (K:Kp S0 s (E0 H) E w0 w (λb=>mf (qw H S hh) (χ0 b)) χ) (F:Fr ds S0 s)
  (hl:Gi T s vars=some l) (hb:mU s (S.ms.map (λq=>901+q))=some b) (hf:wP s S.rk l=some (it,oc,mc)) (hr:Dt s S.rs (it++b)=some r) (Ed:kindsOK S.rk S.rs=true) (yT:nodup oc=true)
  (hk3:oc.all (λk=>!(datO S.rk l++b.flatMap (λx=>ownsV x.2)).any (Nat.beq k))=true) (hk4:nodup (mc++b.flatMap (λx=>mapsV x.2))=true) (hk5:ZU S hh s=true) (hk6:(S.ms.zip b).all (λx=>modM x.1 0 x.2.2)=true) :
  ∃vs χ',zy T.bj sy E.ρ vars=some vs/\Ev (pR (wrP H S.ms S.ps S.ar hh)) w0 χ0 w χ'/\Oc w χ' H.r (V9 w χ' H S.bt S.ms) S.rk (rY S.rs r) 0 vs:=by
 obtain⟨ss,hv1,hv2⟩:=Bn h hl;have Kf:=Ds hr;obtain⟨r1,r2,r3,r4⟩:=zA (i:=0) hf;obtain⟨c1,c2⟩:=Dm hb;rw[da]at c1;obtain⟨dG,EK,alT⟩:=Ic Kf;have A9:=EP alT c2;have held:∀k∈heldP S.ms S.ps S.ar hh 0,(∃x,aa S0.aZ k=some x/\aa s.aZ k=some x)/\2*k+1∉s.ca:=λk hk=>by
  have ht:2*k+1∉s.ca:=λhm=>by have:=aO.1 hk5 _ hm;rw[show(2*k+1)%2=1 from by omega,show(2*k+1)/2=k from by omega]at this;have this:(!(heldP S.ms S.ps S.ar hh 0).any (Nat.beq k))=true:=this;rw[any_beq.2 hk]at this;cases this
  obtain⟨x,hx⟩:=ko (l:=S0.aZ) (by rw[hS0];exact oq (ms:=S.ms) hk);exact⟨⟨x,hx,(F.aZ k ht).trans hx⟩,ht⟩
 have live:∀y∈va H S hh l b,(aa s.aZ y.1).isSome=true:=λy hy=>by
  rcases aV.1 hy with e|e
  .obtain⟨k,hk,rfl⟩:=aq.1 e;obtain⟨⟨x,_,hx⟩,_⟩:=held k hk;show(aa s.aZ k).isSome=true;rw[hx];rfl
  .rcases aV.1 e with e|e
   .obtain⟨x,hx,hy⟩:=cf.1 e;exact tE (A9 _ (List.of_mem_zip hx).2) y hy
   .obtain⟨z,hz,rfl⟩:=aq.1 e;exact rR hf Kf _ (r2▸aq.2 ⟨z,hz,rfl⟩)
 have ocl:∀y∈B8 S.rk l 0,(aa s.own y.1).isSome=true:=λy hy=>r3 _ (r1▸aq.2 ⟨y,hy,rfl⟩);obtain⟨fn,fge⟩:=U4 (H:=H) h.aQ hnb (Td hf c1 hk4 hk6) live (by rw[r1];exact mB yT) ocl;obtain⟨f1,f2⟩:=h.wo (datO S.rk l++b.flatMap (λx=>ownsV x.2));generalize sU:(lf s (datO S.rk l++b.flatMap (λx=>ownsV x.2))).map E.c=fz at f1 f2;have m:=xJ fz w χ;have fzm:∀c∈fz,∃k x,aa s.own k=some x/\E.c k=c:=λc hc=>by rw[←sU]at hc;obtain⟨k,hk,rfl⟩:=aq.1 hc;obtain⟨x,hx⟩:=bR.1 (yL k hk);exact⟨k,x,hx,rfl⟩
 have fat:∀{c v},(c,v)∈xc E H S hh l b->mf (xc E H S hh l b) c=v:=λhm=>Dc fn hm;have f00:mf (xc E H S hh l b) 0=0:=by rw[sC λhm=>?_];rfl;obtain⟨y,hy,e⟩:=aq.1 hm;have:=(fge y hy).1;omega
 have agV:∀q,q<kj S.ps->mf (xc E H S hh l b) (901+q)=H.c q:=λq hq=>fat (aN _ (aq.2 ⟨q,bM.2 hq,rfl⟩))
 have agU:∀{k v},(k,v)∈va H S hh l b->mf (xc E H S hh l b) (E.m k)=v:=λhm=>fat (aG _ (aN _ (aq.2 ⟨_,hm,rfl⟩)))
 have amC:∀{k i},(k,i)∈B8 S.rk l 0->mf (xc E H S hh l b) (E.c k)=H.r i:=λhm=>fat (aG _ (aG _ (aq.2 ⟨_,hm,rfl⟩)))
 have o00:∀c,mf (qw H S hh) c=0->c=0:=λc hc=>by
  rcases MS hn c with _|⟨e,he,h1,h2⟩
  .by_cases hm:c∈(qw H S hh).map (·.1)
   .obtain⟨y,hy,rfl⟩:=aq.1 hm;obtain⟨e,he,rfl⟩:=aq.1 hy;have:=Ct hn he;rcases xD (ms:=S.ms) hA he with⟨q,rfl,_⟩|⟨p,rfl,_⟩
    .have h1:mf (qw H S hh) (H.c q)=901+q:=this;have h2:mf (qw H S hh) (H.c q)=0:=hc;omega
    .have h1:mf (qw H S hh) (H.o p)=xN p:=this;have h2:mf (qw H S hh) (H.o p)=0:=hc;unfold xN at h1;omega
   .rw[sC hm]at hc;cases hb:Nat.beq c 0 with
    |true=>exact aD hb
    |false=>rw[hb]at hc;cases hc
  .rcases xD (ms:=S.ms) hA he with⟨q,rfl,_⟩|⟨p,rfl,_⟩
   .rw[hc]at h2;have h2:0=901+q:=h2;omega
   .rw[hc]at h2;have h2:0=xN p:=h2;unfold xN at h2;omega
 obtain⟨χ2,g1,g2,g3⟩:=abD (p:=pR (wrP H S.ms S.ps S.ar hh)) f1.lS o00 (mf (xc E H S hh l b)) f00 λb' rr hp=>by
  rcases MS hn (χ0 b')with hc|⟨e,he,h1,h2⟩
  .exact .inl hc
  .right;have hnw:χ0 b'∉wrP H S.ms S.ps S.ar hh:=λhm=>by have:pR (wrP H S.ms S.ps S.ar hh) (χ0 b')=true:=any_beq.2 hm;rw[hp]at this;cases this
   rcases xD (ms:=S.ms) hA he with⟨q,rfl,_,hq,hqw⟩|⟨p,rfl,hpw⟩
   .rw[bh]at hq;have hbq:=hu q b' hq h1;subst hbq;have hqm:q∉S.ms:=λhm=>hnw (h1▸hqw hm);obtain⟨lc,XR⟩:=mY (s:=⟨[],[],[],[],[]⟩) hA (j:=q) (by rw[bh];exact hq);rw[←hS0]at XR;obtain⟨k1,k2⟩:=K.box (901+q) _ lc XR λoff ho hm=>by
     have:=aO.1 hk5 _ hm;have hle:lc.length<=64:=aB (aO.1 h64 _ (ct XR));rw[show(2*(64*(901+q)+off))%2=0 from by omega,show(2*(64*(901+q)+off))/2/64=901+q from by omega]at this;have this:(Nat.blt (901+q) 901||S.ms.any (λj=>Nat.beq (901+j) (901+q)))=true:=this;rw[dS]at this;rcases this with h|h
     .have:=aB h;omega
     .obtain⟨j,hj,hjq⟩:=nM.1 h;have:=aD hjq;exact hqm (by rwa[show q=j from by omega])
    rw[DP]at k2;obtain⟨k3,k4⟩:=k2 rr;have k4:χ (H.b q)=mf (qw H S hh) (χ0 (H.b q)):=k4;rw[h2]at k4;have k4:χ (H.b q)=901+q:=k4;refine⟨k3,?_⟩;rw[G2 (by
     rw[k4];intro hm;obtain⟨k,x,hx,hc⟩:=fzm _ hm;have:=h.aQ.o k x hx;omega),k4,agV q hq]
    exact h1.symm
   .have hh1:χ0 b'=H.o p:=h1;have hpw:=hpw.resolve_right (λhm=>hnw (hh1▸hm));obtain⟨⟨x,hx0,hx⟩,ht⟩:=held _ hpw;obtain⟨⟨k1,k2⟩,k3⟩:=K.map _ x hx0 ht;have em:(E0 H).m (mapN p)=xN p:=rfl;obtain⟨k4,k5⟩:=k3 b' rr (by rw[em];exact h2);have k5:χ b'=mf (qw H S hh) (χ0 b'):=k5;rw[h2]at k5;have k5:χ b'=xN p:=k5;refine⟨k4,?_⟩;rw[G2 (by
     rw[k5];intro hm;obtain⟨k,y,hy,hc⟩:=fzm _ hm;exact h.aQ.om k y _ x hy hx (by rw[k2,em];exact hc)),k5]
    have:=agU (k:=mapN p) (v:=H.o (mapN p-500000)) (aN _ (aq.2 ⟨_,hpw,rfl⟩));rw[k2,em]at this;rw[this];show H.o (mapN p-500000)=χ0 b';rw[hh1,show mapN p-500000=p from by unfold mapN;omega]
 refine⟨ss.map (aP E.ρ),χ2,hv1,g1,?_⟩;have Zu:∀{k v},(k,v)∈va H S hh l b->∀mp,aa s.aZ k=some mp->OM kI (bw mp.c) (mR mp.c) w χ2 v (E.μ k) mp.l:=fun {k v} hm mp hx=>OM.out (f1.aZ k mp hx) g2 g3 (fq (h.aQ.m k mp hx)) (agU hm);refine B7 m g2 (b:=b) (λcs os ho=>?_) hf hv2 Kf Ed (λq hq ow hw=>f2 q (aN _ hq) ow hw) (λy hy ow hw=>?_) λy hy mp hx=>?_
 .refine Nb h m g2 hb ho (λq hq=>?_) (λk hk ow hw=>f2 k (aG _ hk) ow hw) λx hx j k e mp hmp=>?_
  .have zV:=hms q hq;obtain⟨lc,XR⟩:=mY (s:=⟨[],[],[],[],[]⟩) hA (j:=q) (by rw[bh];exact zV);rw[←hS0]at XR;obtain⟨cs2,e1,e2,_⟩:=F.boxes _ _ _ XR;refine⟨agf q zV,?_,λt l' e=>?_⟩
   .obtain⟨ss2,k1,_⟩:=f1.boxes _ _ _ (show aa (hU _ s).boxes (901+q)=some (_,cs2)from e1);obtain⟨k2,_,_⟩:=f1.st.boxes _ _ k1;rw[agf q zV]at k2;rw[g3 _ (by rw[k2];omega) (by rw[k2];omega),k2,agV q zV]
   .rw[e1]at e;cases e;rfl
  .have:=qb (o:=λi=>H.o (64*x.1+i)) (i:=0) e;rw[bh]at this;exact Zu (aG _ (aN _ (cf.2 ⟨x,hx,this⟩))) mp hmp
 .have hk:=aO.1 hk3 y.1 (r1▸aq.2 ⟨y,hy,rfl⟩);have hs:aa (hU (datO S.rk l++b.flatMap (λx=>ownsV x.2)) s).own y.1=some ow:=(tG (f:=λi=>!(datO S.rk l++b.flatMap (λx=>ownsV x.2)).any (Nat.beq i)) hk).trans hw;have hge:=h.aQ.o _ _ hw;exact(f1.own _ _ hs).Sa g2 λb' rr=>by rw[g3 b' (by rw[rr];omega) (by rw[rr];omega),rr];exact amC hy
 .exact Zu (aG _ (aG _ (aq.2 ⟨y,hy,rfl⟩))) mp hx
theorem mL{l:List Nat}{p:Nat->Bool}(h:l.all p=true):∀x∈l,p x=true:=aO.1 h
theorem Jp(TT:gW P T)(hm:P.follows .mixedOrders=true){NL:Nat}{F:Func}(hf:P.funcs[NL]?=some F){S:Spec}(HC:∀X,HX T X->nY P T X)(HI:∀i g,T.inl i=some g->g.hi<=900){Q:HL S.ar->D1 S.rs->Prop}(hQ:∀h r,Q h r->S.po h r)(hT:∀h,(∀p,S.pre=some p->p h)->fnT T la F S h (Q h)):mW P NL S:=by
 intro w χ h H vals uz hA hn hne hu hr;have hT:=hT h uz;unfold fnT at hT;split at hT
 .rename_i c hc;have hT:=yk hA hT;obtain⟨hb,hT⟩:=dU hT;simp only[ak]at hb;obtain⟨⟨⟨⟨⟨b2,b3⟩,b4⟩,b5⟩,b6⟩,b7⟩:=hb;have n90:=aB b4;have f00:mf (qw H S h) 0=0:=by rw[sC λhm=>?_];rfl;unfold qw at hm;rw[kV]at hm;exact(hne 0 hm).1 rfl
  have m:M0 w χ w (λb=>mf (qw H S h) (χ b)):=⟨aK _,λb _ hz=>⟨rfl,by rw[hz];exact f00⟩⟩
  obtain⟨oH,bxs,k1,k2,k3⟩:=DE m S.ps S.ar h 0 0 vals hA (λe he=>Ct hn he) (by rw[bh];exact n90);have hlen:oH.length=S.ps.length:=by have:=b8 List.length k1;rw[da,DQ hA]at this;exact this
  refine UY hf hc (mf (qw H S h)) (E0 H).ρ (args:=oH) (bxs:=bxs) (by rw[hlen];exact b3) k1 k2 f00 λa im hold Lu=>?_;have o0:=k3 ⟨oV 0 oH,bxs⟩ ⟨[],[],[],[],[]⟩ (λj sv e=>by have:=yi (i:=0) e;exact this) (λid x e=>e) ⟨(λt x e=>by cases e),(λid t cs e=>by cases e),rfl,(λk mp e=>by cases e)⟩;have abX:bX ⟨F.ntmps,w,χ,mf (qw H S h),(List.range (kj S.ps)).map (λq=>(901+q,H.b q)),T.nb⟩ (startP S.bt S.ps S.ar h 0 0 ⟨[],[],[],[],[]⟩) (E0 H) ⟨oV 0 oH,bxs⟩ a w (λb=>mf (qw H S h) (χ b)) :=
   ⟨im,λt x e=>by
    obtain⟨sv,g1,g2⟩:=o0.al t x e;exact⟨sv,g1,g2 _⟩,λid t cs e=>by
    obtain⟨ss,g1,g2⟩:=o0.boxes id t cs e;exact⟨ss,g1,g2 _⟩,(λk ow e=>by rw[o0.own]at e;cases e),(λk mp e=>o0.aZ k mp e),⟨(λk x e=>by rw[o0.own]at e;cases e),(λk x e=>by show 1001<=1002+2*k;omega),(λk x j y e=>by rw[o0.own]at e;cases e),(λk x j y e=>by rw[o0.own]at e;cases e),(λk x j y _ _ e=>by have e:1002+2*k=1002+2*j:=e;omega)⟩,hold,λq hq=>by
    obtain⟨j,hj,rfl⟩:=aq.1 hq;exact DP j⟩
  have hX:HX T ⟨F.ntmps,w,χ,mf (qw H S h),(List.range (kj S.ps)).map (λq=>(901+q,H.b q)),T.nb⟩:=⟨aB b2,λq hq=>by
   obtain⟨j,hj,rfl⟩:=aq.1 hq;have:F.ntmps+T.nb<=899:=aB b2;exact .inr (by show F.ntmps+T.nb<901+j;omega),rfl,λq hq i g hg=>by
   obtain⟨j,hj,rfl⟩:=aq.1 hq;have:=HI i g hg;exact .inr (by show g.hi<901+j;omega)⟩
  refine Q1 TT (HC _ hX) hm hX c hT (λt ht=>?_) abX λe s' E' sy' a' w' χ' hk h' Fr0 Kp0=>?_
  .exact aB (mL b7 t ht)
  .have key:acD T S h F.results.toList (Q h) .n s'->bodyPost P F (λe BH=>∃v χ',e=.returned v/\Ev (pR (wrP H S.ms S.ps S.ar h)) w χ BH χ'/\∃r vs,S.po h r/\v=Sv.one vs/\Oc BH χ' H.r (V9 BH χ' H S.bt S.ms) S.rk (rY S.rs r) 0 vs) .ret a' w':=λhk=>by
    unfold acD at hk;dsimp only at hk;split at hk
    .rename_i l b hl hb;split at hk
     .rename_i it oc mc Ba;split at hk
      .rename_i r hr';obtain⟨rr,hq⟩:=dU hk;simp only[ak]at rr;obtain⟨⟨⟨⟨⟨d1,d2⟩,d3⟩,d4⟩,d5⟩,d6⟩:=rr;obtain⟨vs,χ2,e1,e2,e3⟩:=acZ hA hn hne hu rfl (λq hq=>h'.qu (901+q,H.b q) (aq.2 ⟨q,bM.2 hq,rfl⟩)) n90 (λq hq=>aB (mL b5 q hq)) b6 h' Kp0 Fr0 hl hb Ba hr' d1 d2 d3 d4 d5 d6;exact Lo TT.bj h'.st e1 ⟨_,χ2,rfl,e2,r,vs,hQ h r hq,rfl,e3⟩
      .cases hk
     .cases hk
    .cases hk
   cases e with
   |n=>exact key hk
   |r=>exact key hk
   |x i=>cases hk
 .cases hT
end
end
noncomputable section
def um(s:TS)(ids:List Nat)(vs:List RV)(p:Nat):Option Nat:=bif Nat.blt p 100000 then(match ids[p/64]? with
 |some id=>(match bx s id with
  |some cs=>(match cs[p%64]? with|some (.m k)=>some k|_=>none)
  |none=>none)
 |none=>none)else(match vs[p-100000]? with|some (.s (.m k))=>some k|_=>none)
def Bg(s:TS)(E:En)(ids:List Nat)(vs:List RV)(c0:Nat):Hd where
 b q:=E.ρ (ids.getD q 0)
 c q:=ids.getD q 0
 o p:=match um s ids vs p with|some k=>E.m k|none=>c0+2*p
 μ p:=match um s ids vs p with|some k=>E.μ k|none=>0
 r i:=c0+2*i+1
def DG:Nat->List PK->List RV->List (Nat×Nat)
 |i,.d::ps,.s (.m k)::vs=>(k,100000+i)::DG (i+1) ps vs
 |i,_::ps,_::vs=>DG (i+1) ps vs
 |_,_,_=>[]
def Hj:Nat->List It->List (Nat×Nat)
 |_,[]=>[]
 |q,x::b=>qP (λj=>64*q+j) 0 x.2++Hj (q+1) b
section
variable{P:Program}{T:Tb}{w w0:World}{χ χ2:Nat->Nat}{E:En}{s:TS}{X:Cx}{sy:Sy}{a:Act}{H:Hd}{ids:List Nat}{vs:List RV}{c0:Nat}
theorem zN{q j id:Nat}{cs:List TV}{k:Nat}(hq:q<90)(hj:j<64)(h1:ids[q]?=some id)(h2:bx s id=some cs)(h3:cs[j]?=some (.m k)):um s ids vs (64*q+j)=some k:=by
 unfold um;rw[show Nat.blt (64*q+j) 100000=true from fq (by omega),show(64*q+j)/64=q from by omega,show(64*q+j)%64=j from by omega,h1];simp only[cG,h2,h3]
theorem ET{j k:Nat}(h:vs[j]?=some (.s (.m k))):um s ids vs (100000+j)=some k:=by
 unfold um;rw[show Nat.blt (100000+j) 100000=false from by
  cases hb:Nat.blt (100000+j) 100000 with
  |false=>rfl
  |true=>have:=aB hb;omega,show 100000+j-100000=j from by omega,h]
 rfl
theorem FJ{p k:Nat}(h:um s ids vs p=some k):(Bg s E ids vs c0).o p=E.m k/\(Bg s E ids vs c0).μ p=E.μ k:=by
 unfold Bg;simp only[h,and_self]
theorem Gu{f:Nat->Nat}:∀{l y:List TV} {i:Nat} {e:Nat×J9},l.all (plainV s)=true->FL NV (l.map (qx s)) y->e∈opN f i y->∃j k,l[j]?=some (.m k)/\e.1=f (i+j)
 |[],[],_,_,_,_,he=>by cases he
 |[],_::_,_,_,_,n,_=>n.elim
 |_::_,[],_,_,_,n,_=>n.elim
 |x::l,z::y,i,e,hp,n,he=>by
  rw[cd,ak]at hp;have rest:e∈opN f (i+1) y->∃j k,(x::l)[j]?=some (.m k)/\e.1=f (i+j):=λhe=>by obtain⟨j,k,h1,h2⟩:=Gu hp.2 n.2 he;exact⟨j+1,k,by simpa using h1,by rw[h2,show i+1+j=i+(j+1)from by omega]⟩
  cases z with
  |md c q =>
   rcases aE.1 (show e∈(f i,(⟨c,q⟩:J9))::opN f (i+1) y from he)with e1|e1
   .subst e1;have n1:=n.1;cases x with
    |m k=>exact⟨0,k,rfl,rfl⟩
    |o k =>
     obtain⟨ow,how⟩:=bR.1 hp.1;have:qx s (.o k)=.sl ow.c ow.l:=by simp only[qx,how]
     rw[this]at n1;cases n1
    |md _ _=>cases hp.1
    |v x =>
     have n1:NV (.v x) (.md c q):=n1;unfold NV at n1;split at n1<;>first|(rename_i e;cases e;done)|skip
     .obtain⟨_,hc⟩:=n1;cases hc
     .exact n1.elim
    |_=>cases n1
   .exact rest e1
  |_=>exact rest he
theorem nH{id:Nat}{ids:List Nat}{b:List It}(h:mU s (id::ids)=some b):∃cs b',bx s id=some cs/\mU s ids=some b'/\b=(none,cs)::b':=by
 unfold mU at h;split at h
 .rename_i cs q h1 h2;cases h;exact⟨cs,q,h1,h2,rfl⟩
 .cases h
theorem ji{c:TC}{cs:List TC}{it:It}{zk:List It}{h:HL (c::cs)}(e:je s (c::cs) (it::zk)=some h):clI s c it=some h.1/\je s cs zk=some h.2:=eD (x:=h.1) (q:=h.2) (show pairO (clI s c it) (je s cs zk)=some (h.1,h.2)from e)
theorem TL:∀{is:List Nat} {b:List It} {cs:List TC} {h:HL cs} {q:Nat} {e:Nat×Nat},mU s is=some b->je s cs b=some h->e∈lhB H cs h q->(∃j id,is[j]?=some id/\e=(901+(q+j),H.c (q+j)))∨∃j id cl i k,is[j]?=some id/\bx s id=some cl/\cl[i]?=some (.m k)/\e=(xN (64*(q+j)+i),H.o (64*(q+j)+i))/\(k,64*(q+j)+i)∈Hj q b
 |[],b,cs,h,q,e,hc,hl,he=>by
  cases hc;cases cs with
  |nil=>cases he
  |cons _ _=>cases hl
 |id::is,b,cs,h,q,e,hc,hl,he=>by
  obtain⟨cl,b',h1,h2,rfl⟩:=nH hc;cases cs with
  |nil=>cases hl
  |cons c dG =>
  obtain⟨h3,h4⟩:=ji hl;obtain⟨hp,hcl⟩:=lz h3;rcases aE.1 he with he|he
  .exact .inl ⟨0,id,rfl,he⟩
  .rcases aV.1 he with he|he
   .obtain⟨y,hy,rfl⟩:=aq.1 he;obtain⟨i,k,g1,g2⟩:=Gu hp (mV c hcl) hy;rw[bh]at g2;refine .inr ⟨0,id,cl,i,k,rfl,h1,g1,by rw[g2];rfl,aN _ ?_⟩;have:=qb (o:=λj=>64*q+j) (i:=0) g1;rw[bh]at this;exact this
   .rcases TL h2 h4 he with⟨j,kO,g1,g2⟩|⟨j,kO,Qf,i,k,g1,g2,g3,g4,g5⟩
    .exact .inl ⟨j+1,kO,g1,by rw[g2,show q+1+j=q+(j+1)from by omega]⟩
    .rw[show q+1+j=q+(j+1)from by omega]at g4 g5;exact .inr ⟨j+1,kO,Qf,i,k,g1,g2,g3,g4,aG _ g5⟩
theorem Q0{ms:List Nat}:∀{is:List Nat} {b:List It} {cs:List TC} {h:HL cs} {q:Nat} {c:Nat},mU s is=some b->je s cs b=some h->c∈wrB H ms cs h q->∃j id,is[j]?=some id/\q+j∈ms/\(c=H.c (q+j)∨∃cl i k,bx s id=some cl/\cl[i]?=some (.m k)/\c=H.o (64*(q+j)+i))
 |[],b,cs,h,q,e,hc,hl,he=>by
  cases hc;cases cs with
  |nil=>cases he
  |cons _ _=>cases hl
 |id::is,b,cs,h,q,e,hc,hl,he=>by
  obtain⟨cl,b',h1,h2,rfl⟩:=nH hc;cases cs with
  |nil=>cases hl
  |cons c dG =>
  obtain⟨h3,h4⟩:=ji hl;obtain⟨hp,hcl⟩:=lz h3;rcases aV.1 he with he|he
  .cases hq:ms.any (Nat.beq q)with
   |false=>rw[hq]at he;cases he
   |true =>
    rw[hq]at he;refine⟨0,id,rfl,any_beq.1 hq,?_⟩;rcases aE.1 he with he|he
    .exact .inl he
    .obtain⟨y,hy,rfl⟩:=aq.1 he;obtain⟨i,k,g1,g2⟩:=Gu hp (mV c hcl) hy;rw[bh]at g2;exact .inr ⟨cl,i,k,h1,g1,by rw[g2];rfl⟩
  .obtain⟨j,kO,g1,g2,g3⟩:=Q0 h2 h4 he;rw[show q+1+j=q+(j+1)from by omega]at g2 g3;exact⟨j+1,kO,g1,g2,g3⟩
theorem qk{k:PK}{ps:List PK}{v:RV}{vs:List RV}{q:List It}{is:List Nat}(e:coll (k::ps) (v::vs)=some (q,is)):
  (∃bb l q',k=.d/\sJ v=some (bb,l)/\coll ps vs=some (q',is)/\q=(some bb,l)::q') ∨
  (k=.z/\v=.s (.v (.slice none 0 0))/\coll ps vs=some (q,is)) ∨
  (∃id VU,k=.p/\v=.s (.p id 0)/\coll ps vs=some (q,VU)/\is=id::VU) ∨
  ∃g n cp VT XE,k=.f g n/\v=.s (.f g [] cp)/\cp.length=n/\Gm cp=some VT/\coll ps vs=some (q,XE)/\is=VT++XE:=by
 unfold coll at e;split at e
 .rename_i h1 _;cases h1
 .rename_i h1 h2;cases h1;cases h2;split at e
  .rename_i bb l q' VU hc hf;cases e;exact .inl ⟨bb,l,q',rfl,hc,hf,rfl⟩
  .cases e
 .rename_i h1 h2;cases h1;cases h2;exact .inr (.inl ⟨rfl,rfl,e⟩)
 .rename_i h1 h2;cases h1;cases h2;split at e
  .rename_i q' VU hf;cases e;exact .inr (.inr (.inl ⟨_,VU,rfl,rfl,hf,rfl⟩))
  .cases e
 .rename_i h1 h2;cases h1;cases h2;obtain⟨hb,e⟩:=dw e;rw[ak]at hb;split at e
  .rename_i VT q' XE hp hf;cases e;have:=aD hb.1;subst this;exact .inr (.inr (.inr ⟨_,_,_,VT,XE,rfl,rfl,aD hb.2,hp,hf,rfl⟩))
  .cases e
 .cases e
theorem vD{ps:List PK}{q:List It}{is:List Nat}(e:coll ps []=some (q,is)):ps=[]/\q=[]/\is=[]:=by
 cases ps with
 |nil=>cases e;exact⟨rfl,rfl,rfl⟩
 |cons k ps=>cases k<;>cases e
theorem sH{v:RV}{vs:List RV}{q:List It}{is:List Nat}(e:coll [] (v::vs)=some (q,is)):False:=by cases e
theorem Hh{c:TC}{v:RV}{bb:Bool}{l:List TV}{x:den c}(hc:sJ v=some (bb,l))(e:clI s c (some bb,l)=some x):(isMc c=false/\clR s c v=some x/\yy c=true/\l=aW v/\mapsV l=[]/\∀k,v≠.s (.m k))∨∃c' k mp,∃(hc:c=.m c'),v=.s (.m k)/\l=[.m k]/\aa s.aZ k=some mp/\∃(hm:mp.c=c'),(hc▸x:den (.m c'))=hm▸mp.l:=by
 obtain⟨hb,hr,hp,hd⟩:=Du e;have Ii:∀{l:List TV},l.all DU=true->mapsV l=[]:=by
  intro l
  induction l with
  |nil=>intro _;rfl
  |cons x l ih=>intro h;rw[cd,ak]at h;cases x<;>first|exact ih h.2|cases h.1
 cases hm:isMc c with
 |false =>
  rw[hm]at hr;have hr:=hr.resolve_right (λh=>by cases h);left;unfold sJ at hc;split at hc
  .rename_i y;cases hc;have hy:=(gu.1 hr.2).1;refine⟨rfl,?_,hr.1,rfl,Ii hr.2,λk e=>by cases e;cases hy⟩;show(bif mR c||!DU y then none else clD s c [y])=some x;rw[←hb,hy];exact hd
  .cases hc;refine⟨rfl,?_,hr.1,rfl,Ii hr.2,λk e=>by cases e⟩;show(bif mR c&&l.all DU then clD s c l else none)=some x;rw[←hb,hr.2];exact hd
  .cases hc
 |true =>
  right;obtain⟨c',rfl⟩:=Zw hm;have nv:=mV _ hd;unfold sJ at hc;split at hc
  .rename_i y;cases hc;obtain⟨j,k,g1,_⟩:=Gu (f:=λi=>i) (i:=0) (e:=(0,⟨c',x⟩)) hp nv aI;cases j with
   |succ j=>simp at g1
   |zero =>
    obtain rfl:y=.m k:=by simpa using g1
    obtain⟨mp,hmp⟩:=bR.1 (gu.1 hp).1;have ed:qx s (.m k)=.md mp.c mp.l:=by simp only[qx,hmp]
    rw[ba,iC,ed]at nv;have:=Zp nv;obtain⟨mc,ml⟩:=mp;have this:[TV.md c' x]=[TV.md mc ml]:=this;cases this;exact⟨c',k,_,rfl,rfl,rfl,hmp,rfl,rfl⟩
  .cases hc;cases hb
  .cases hc
end
end
section
section
variable{P:Program}{T:Tb}{w w0:World}{χ χ2:Nat->Nat}{E:En}{s:TS}{X:Cx}{sy:Sy}{a:Act}{H:Hd}{ids:List Nat}{c0:Nat}{b:List It}
theorem L4:∀{b:List It} {q:Nat},(Hj q b).map (·.1)=b.flatMap (λx=>mapsV x.2)
 |[],_=>rfl
 |x::b,q=>by unfold Hj;rw[gp,qO,L4];rfl
theorem FF{i:Nat}{ps:List PK}{v:RV}{vs:List RV}(h:∀k,v≠.s (.m k)):DG i (.d::ps) (v::vs)=DG (i+1) ps vs:=by
 cases v with
 |s x=>cases x<;>first|rfl|exact absurd rfl (h _)
 |_=>rfl
theorem xT:∀{ps:List PK} {vs:List RV} {q:List It} {is:List Nat} {cs:List TC} {hh:HL cs} {i:Nat},coll ps vs=some (q,is)->je s cs (q++b)=some hh->(DG i ps vs).map (·.1)=q.flatMap (λx=>mapsV x.2)
 |ps,[],q,is,cs,hh,i,e,_=>by obtain⟨rfl,rfl,rfl⟩:=vD e;rfl
 |[],v::vs,_,_,_,_,_,e,_=>(sH e).elim
 |k::ps,v::vs,q,is,cs,hh,i,e,hl=>by
  rcases qk e with⟨bb,l,q',rfl,h1,h2,rfl⟩|⟨rfl,rfl,h2⟩|⟨id,VU,rfl,rfl,h2,rfl⟩|⟨g,n,cp,VT,XE,rfl,rfl,h1,h3,h2,rfl⟩
  .cases cs with
   |nil=>cases hl
   |cons c dG =>
    obtain⟨h3,h4⟩:=ji hl;rcases Hh h1 h3 with⟨_,_,_,_,hm,hv⟩|⟨c',k,mp,hc,rfl,rfl,_⟩
    .rw[jI,hm,gU,←xT (i:=i+1) h2 h4,FF hv]
    .rw[jI];exact b8 (List.cons k) (xT (i:=i+1) h2 h4)
  .exact xT (i:=i+1) h2 hl
  .exact xT (i:=i+1) h2 hl
  .exact xT (i:=i+1) h2 hl
theorem TI:∀{ps:List PK} {vs:List RV} {q:List It} {is:List Nat} {cs:List TC} {hh:HL cs} {i:Nat} {e:Nat×Nat},coll ps vs=some (q,is)->je s cs (q++b)=some hh->e∈lhP H ps cs hh i ->
  (∃dG h',je s dG b=some h'/\e∈lhB H dG h' 0)∨∃j k,vs[j]?=some (.s (.m k))/\(k,100000+(i+j))∈DG i ps vs/\e=(xN (100000+(i+j)),H.o (100000+(i+j)))
 |ps,[],q,is,cs,hh,i,e,hc,hl,he=>by obtain⟨rfl,rfl,rfl⟩:=vD hc;exact .inl ⟨cs,hh,hl,he⟩
 |[],v::vs,_,_,_,_,_,_,e,_,_=>(sH e).elim
 |k::ps,v::vs,q,is,cs,hh,i,e,hc,hl,he=>by
  have sh:∀{q:List It} {is:List Nat} {cs:List TC} {hh:HL cs},coll ps vs=some (q,is)->je s cs (q++b)=some hh->e∈lhP H ps cs hh (i+1)->(∀y∈DG (i+1) ps vs,y∈DG i (k::ps) (v::vs))->(∃dG h',je s dG b=some h'/\e∈lhB H dG h' 0)∨∃j k',(v::vs)[j]?=some (.s (.m k'))/\(k',100000+(i+j))∈DG i (k::ps) (v::vs)/\e=(xN (100000+(i+j)),H.o (100000+(i+j))):=λg1 g2 g3 g4=>by
   rcases TI g1 g2 g3 with h|⟨j,k',h1,h2,h3⟩
   .exact .inl h
   .rw[show i+1+j=i+(j+1)from by omega]at h2 h3;exact .inr ⟨j+1,k',by simpa using h1,g4 _ h2,h3⟩
  rcases qk hc with⟨bb,l,q',rfl,h1,h2,rfl⟩|⟨rfl,rfl,h2⟩|⟨id,VU,rfl,rfl,h2,rfl⟩|⟨g,n,cp,VT,XE,rfl,rfl,h1,h3,h2,rfl⟩
  .cases cs with
   |nil=>cases hl
   |cons c dG =>
    obtain⟨h3,h4⟩:=ji hl;have he:e∈(bif isMc c then [(xN (100000+i),H.o (100000+i))]else [])++lhP H ps dG hh.2 (i+1):=he;rcases Hh h1 h3 with⟨hm,_,_,_,_,hv⟩|⟨c',k,mp,Bb,rfl,rfl,_⟩
    .rw[hm]at he;exact sh h2 h4 he λy hy=>by rw[FF hv];exact hy
    .subst Bb;rcases aE.1 (show e∈(xN (100000+i),H.o (100000+i))::lhP H ps dG hh.2 (i+1)from he)with he|he
     .exact .inr ⟨0,k,rfl,aI,he⟩
     .exact sh h2 h4 he λy hy=>aw _ hy
  .exact sh h2 hl he λy hy=>hy
  .exact sh h2 hl he λy hy=>hy
  .exact sh h2 hl he λy hy=>hy
theorem BD{ms:List Nat}:∀{ps:List PK} {vs:List RV} {q:List It} {is:List Nat} {cs:List TC} {hh:HL cs} {c:Nat},coll ps vs=some (q,is)->je s cs (q++b)=some hh->c∈wrP H ms ps cs hh->∃dG h',je s dG b=some h'/\c∈wrB H ms dG h' 0
 |ps,[],q,is,cs,hh,c,hc,hl,he=>by obtain⟨rfl,rfl,rfl⟩:=vD hc;exact⟨cs,hh,hl,he⟩
 |[],v::vs,_,_,_,_,_,e,_,_=>(sH e).elim
 |k::ps,v::vs,q,is,cs,hh,c,hc,hl,he=>by
  rcases qk hc with⟨bb,l,q',rfl,h1,h2,rfl⟩|⟨rfl,rfl,h2⟩|⟨id,VU,rfl,rfl,h2,rfl⟩|⟨g,n,cp,VT,XE,rfl,rfl,h1,h3,h2,rfl⟩
  .cases cs with
   |nil=>cases hl
   |cons c dG=>exact BD h2 (ji hl).2 he
  .exact BD h2 hl he
  .exact BD h2 hl he
  .exact BD h2 hl he
theorem adi{cp:List TV}:∀{is:List Nat} {c:List S0} {n:Nat},Gm cp=some is->FL (PR w χ) cp c->(∀j id,is[j]?=some id->H.b (n+j)=E.ρ id)->c.map (bT E.ρ)=Vb H n cp.length:=by
 induction cp with
 |nil=>intro is c n hp hc hb;cases c with|nil=>rfl|cons _ _=>exact hc.elim
 |cons x cp ih =>
  intro is c n hp hc hb;cases c with
  |nil=>exact hc.elim
  |cons y c =>
   unfold Gm at hp;split at hp
   .rename_i h1;cases h1
   .rename_i id l h1;cases h1;obtain⟨i1,r,g1,g2,rfl⟩:=fI hp;cases g1;rcases hc.1 with⟨kO,off,e1,e2⟩|⟨v,_,h2⟩
    .cases e1;subst e2;have h0:=hb 0 id rfl;rw[c9]at h0;show Value.pointer (some ⟨E.ρ id,0,none⟩)::c.map (bT E.ρ)=Value.pointer (some ⟨H.b n,0,none⟩)::Vb H (n+1) cp.length;rw[ih g2 hc.2 (λj kO e=>by
      have:=hb (j+1) kO (by simpa using e);rwa[show n+(j+1)=n+1+j from by omega]at this),h0]
    .exact h2.elim
   .cases hp
theorem J2(h:bX X s E sy a w χ)(m:M0 w χ w χ2){bt:List Nat}(hm2:∀k mp,aa s.aZ k=some mp->OM kI (bw mp.c) (mR mp.c) w χ2 (E.m k) (E.μ k) mp.l):∀{ps:List PK} {vs:List RV} {oH:List SV} {q:List It} {is:List Nat} {cs:List TC} {hh:HL cs} {i n:Nat},coll ps vs=some (q,is)->je s cs (q++b)=some hh->FL (fO w χ E s) vs oH ->
  (∀k∈q.flatMap (λx=>ownsV x.2),∀ow,aa s.own k=some ow->RS (bw ow.c) w χ2 (E.σ k) ow.l (E.κ k))->(∀j id,is[j]?=some id->H.b (n+j)=E.ρ id)->(∀j k,vs[j]?=some (.s (.m k))->H.o (100000+(i+j))=E.m k/\H.μ (100000+(i+j))=E.μ k) ->
  (∀dG h',je s dG b=some h'->BR w χ2 H bt dG h' 0/\dG.length=n+is.length)->AR w χ2 H bt ps cs hh i n (oH.map (aP E.ρ))
 |ps,[],[],q,is,cs,hh,i,n,hc,hl,_,_,_,_,hB=>by obtain⟨rfl,rfl,rfl⟩:=vD hc;obtain⟨h1,h2⟩:=hB cs hh hl;exact⟨h1,h2⟩
 |_,[],_::_,_,_,_,_,_,_,_,_,hv,_,_,_,_=>hv.elim
 |_,_::_,[],_,_,_,_,_,_,_,_,hv,_,_,_,_=>hv.elim
 |[],v::vs,_,_,_,_,_,_,_,e,_,_,_,_,_,_=>(sH e).elim
 |k::ps,v::vs,sv::oH,q,is,cs,hh,i,n,hc,hl,hv,hz,hb,ha,hB=>by
  have X5:∀j k,vs[j]?=some (.s (.m k))->H.o (100000+(i+1+j))=E.m k/\H.μ (100000+(i+1+j))=E.μ k:=λj k e=>by have:=ha (j+1) k (by simpa using e);rwa[show i+(j+1)=i+1+j from by omega]at this
  rcases qk hc with⟨bb,l,q',rfl,h1,h2,rfl⟩|⟨rfl,rfl,h2⟩|⟨id,VU,rfl,rfl,h2,rfl⟩|⟨g,nn,cp,VT,XE,rfl,rfl,h1,h3,h2,rfl⟩
  .cases cs with
   |nil=>cases hl
   |cons c dG =>
    obtain⟨h3,h4⟩:=ji hl;refine⟨?_,J2 h m hm2 h2 h4 hv.2 (λk hk=>hz k (aG _ hk)) hb X5 hB⟩;rcases Hh h1 h3 with⟨hmc,hr,hrc,hle,_,_⟩|⟨c',k,mp,Bb,rfl,rfl,hk,ZO,hm3⟩
    .obtain⟨u,rfl,hu,_⟩:=LY h m (λk hk ow e=>hz k (aN _ (by rw[hle];exact hk)) ow e) hr hv.1 hrc;cases c<;>first|exact hu|cases hmc
    .subst Bb;obtain⟨mc,ml⟩:=mp;have ZO:mc=c':=ZO;subst ZO;have hs:=TR.map (w:=w) (χ:=χ) hv.1 hk;subst hs;obtain⟨e1,e2⟩:=ha 0 k rfl;rw[c9]at e1 e2;refine⟨by rw[e2];rfl,?_⟩;rw[e1,e2];have hm3:hh.1=ml:=hm3;rw[hm3];exact hm2 k _ hk
  .obtain⟨u,rfl,rfl,_⟩:=hv.1;exact⟨rfl,J2 h m hm2 h2 hl hv.2 hz hb X5 hB⟩
  .obtain rfl:sv=Pt id 0:=hv.1;have h0:=hb 0 id rfl;rw[c9]at h0;refine⟨by rw[h0];rfl,J2 h m hm2 h2 hl hv.2 hz (λj kO e=>?_) X5 λdG h' e=>?_⟩
   .have:=hb (j+1) kO (by simpa using e);rwa[show n+(j+1)=n+1+j from by omega]at this
   .obtain⟨g1,g2⟩:=hB dG h' e;exact⟨g1,by rw[g2,bc];omega⟩
  .obtain⟨f,c,rfl,hf,hcp⟩:=hv.1;cases f with
   |cons _ _=>exact hf.elim
   |nil =>
    have hlen:∀{l:List TV} {is:List Nat},Gm l=some is->is.length=l.length:=by
     intro l
     induction l with
     |nil=>intro is e;cases e;rfl
     |cons x l ih =>
      intro is e;unfold Gm at e;split at e
      .rename_i h1;cases h1
      .rename_i h1;cases h1;obtain⟨i1,r,g1,g2,rfl⟩:=fI e;rw[bc,bc,ih g2]
      .cases e
    have hl1:=hlen h3;refine⟨?_,J2 h m hm2 h2 hl hv.2 hz (λj kO e=>?_) X5 λdG h' e=>?_⟩
    .rw[←h1,←adi (H:=H) (E:=E) h3 hcp λj id e=>hb j id (by rw[fU (dz.1 e).1];exact e)];rfl
    .have:=hb (VT.length+j) kO (by rw[eS (by omega),pI];exact e);rwa[hl1,h1,←jH]at this
    .obtain⟨g1,g2⟩:=hB dG h' e;exact⟨g1,by rw[g2,aS,hl1,h1];omega⟩
theorem aad(h:bX X s E sy a w χ)(m:M0 w χ w χ2){bt:List Nat}(hm2:∀k mp,aa s.aZ k=some mp->OM kI (bw mp.c) (mR mp.c) w χ2 (E.m k) (E.μ k) mp.l)(LB:∀id t cl,aa s.boxes id=some (t,cl)->χ2 (E.ρ id)=id):∀{is:List Nat} {b:List It} {cs:List TC} {hh:HL cs} {q:Nat},mU s is=some b->je s cs b=some hh->ta s is (bt.drop q)=true ->
  (∀k∈b.flatMap (λx=>ownsV x.2),∀ow,aa s.own k=some ow->RS (bw ow.c) w χ2 (E.σ k) ow.l (E.κ k))->(∀j id,is[j]?=some id->H.b (q+j)=E.ρ id/\H.c (q+j)=id)->(∀j id cl i k,is[j]?=some id->bx s id=some cl->cl[i]?=some (.m k)->i<64->H.o (64*(q+j)+i)=E.m k/\H.μ (64*(q+j)+i)=E.μ k)->BR w χ2 H bt cs hh q/\cs.length=is.length
 |[],b,cs,hh,q,hc,hl,_,_,_,_=>by
  cases hc;cases cs with
  |nil=>exact⟨trivial,rfl⟩
  |cons _ _=>cases hl
 |id::is,b,cs,hh,q,hc,hl,ht,hz,hb,ho=>by
  obtain⟨cl,b',h1,h2,rfl⟩:=nH hc;cases cs with
  |nil=>cases hl
  |cons c dG =>
  obtain⟨h3,h4⟩:=ji hl;unfold bx at h1;split at h1
  .rename_i t Qf Ny;cases h1;cases ZX:bt.drop q with
   |nil=>rw[ZX]at ht;cases ht
   |cons t' bt' =>
    rw[ZX]at ht;unfold ta at ht;rw[Ny]at ht;simp only[ak]at ht;obtain⟨⟨ht1,ht2⟩,ZH⟩:=ht;have h64:=aB ht2;have hg:bt.getD q 0=t':=by
     have:bt[q]?=some t':=by rw[←List.head?_drop,ZX];rfl
     rw[wC,this];rfl
    have hd:bt.drop (q+1)=bt':=by rw[←kx,ZX];rfl
    obtain⟨i1,i2⟩:=aad h m hm2 LB (bt:=bt) (q:=q+1) h2 h4 (by rw[hd];exact ZH) (λk hk=>hz k (aG _ hk)) (λj kO e=>by
     have:=hb (j+1) kO (by simpa using e);rwa[show q+(j+1)=q+1+j from by omega]at this) (λj kO Qf i k e1 e2 e3 e4=>by
     have:=ho (j+1) kO Qf i k (by simpa using e1) e2 e3 e4;rwa[show q+(j+1)=q+1+j from by omega]at this)
    refine⟨⟨?_,i1⟩,by rw[bc,bc,i2]⟩;obtain⟨ss,k1,k2⟩:=h.boxes _ _ _ Ny;obtain⟨_,_,k5⟩:=h.st.boxes _ _ k1;obtain⟨b1,b2⟩:=hb 0 id rfl;rw[c9]at b1 b2;obtain⟨hp,hcl⟩:=lz h3;refine⟨ss.map (aP E.ρ),⟨by rw[b1,b2];exact LB id t cl Ny,by rw[b1,hg,←aD ht1];exact k5⟩,?_⟩;refine Va m (M0.refl w χ2) hp (mV c hcl) k2 (λk hk=>hz k (aN _ hk)) λj k e=>?_;have hj:j<64:=dH (dz.1 e).1 h64;obtain⟨o1,o2⟩:=ho 0 id cl j k rfl (by unfold bx;rw[Ny]) e hj;rw[c9]at o1 o2;rw[bh,o1];exact⟨o2,λmp hmp=>hm2 k mp hmp⟩
  .cases h1
end
end
section
def zm(E:En)(ids:List Nat)(χ:Nat->Nat)(b:Nat):Nat:=bif ids.any (λid=>Nat.beq (χ b) id&&!Nat.beq b (E.ρ id))then 1000 else χ b
section
variable{P:Program}{T:Tb}{w w' w0:World}{χ χ1 χ2 χ':Nat->Nat}{E:En}{s:TS}{X:Cx}{sy:Sy}{a:Act}{H:Hd}{ids:List Nat}{c0:Nat}{b:List It}
theorem G1{c:Nat}{b:Nat}(h:χ b∉ids):zm E ids χ b=χ b:=by
 unfold zm;rw[show ids.any (λid=>Nat.beq (χ b) id&&!Nat.beq b (E.ρ id))=false from by
  rw[pC];intro id hid hb;rw[ak]at hb;exact h (aD hb.1▸hid)]
 rfl
theorem LG{id:Nat}{b:Nat}(h:χ b=id)(hb:b=E.ρ id):zm E ids χ b=id:=by
 unfold zm;rw[show ids.any (λid=>Nat.beq (χ b) id&&!Nat.beq b (E.ρ id))=false from by
  rw[pC];intro kO hid hh;rw[ak]at hh;have:=aD hh.1;rw[h]at this;subst this;have h2:Nat.beq b (E.ρ id)=true:=by rw[hb];exact eH _
  rw[h2]at hh;cases hh.2]
 exact h
theorem UL{id:Nat}{b:Nat}(hid:id∈ids)(hne:id≠1000)(h:zm E ids χ b=id):b=E.ρ id:=by
 unfold zm at h;cases hb:ids.any (λid=>Nat.beq (χ b) id&&!Nat.beq b (E.ρ id))with
 |true=>rw[hb]at h;exact absurd h.symm hne
 |false =>
  rw[hb]at h;have h:χ b=id:=h;rw[pC]at hb;have:=hb id hid;rw[h]at this;cases hc:Nat.beq b (E.ρ id)with
  |true=>exact aD hc
  |false=>rw[hc,eH]at this;exact absurd rfl this
theorem UK(w:World)(h0:∀id∈ids,id≠0/\id≠1000):Ev (pF ids) w χ w (zm E ids χ):=⟨rfl,rfl,rfl,aK _,λb _ hp=>⟨rfl,G1 (c:=0) (bl.1 hp)⟩⟩
theorem bX.zm(h:bX X s E sy a w χ)(h0:∀id∈ids,1<=id/\id<=999):bX X s E sy a w (zm E ids χ):=by
 have hi:∀c,(c=0∨1000<=c)->pF ids c=false:=λc hc=>bl.2 λhm=>by have:=h0 c hm;omega
 refine h.step (UK w λid hid=>by have:=h0 id hid;omega) (hi 0 (.inl rfl)) (hi 1000 (.inr (aK _))) ⟨h.st.size,h.st.defers,h.st.al,λid q e=>?_⟩ (λt x e=>.inr ⟨e,λsv e=>e,λy _=>Nm.same⟩) (λi t cs e=>.inr ⟨e,λss e=>e,λy _=>Nm.same⟩) (λk x e=>.inr ⟨e,rfl,rfl,rfl,hi _ (.inr (by have:=h.aQ.o k x e;omega))⟩) (λk x e=>.inr ⟨e,rfl,rfl,hi _ (.inr (by have:=h.aQ.m k x e;omega))⟩) h.aQ h.qu;obtain⟨g1,g2,g3⟩:=h.st.boxes id q e;exact⟨LG g1 rfl,g2,g3⟩
theorem tD:∀{l:List TV},l.all (plainV s)=true->∀k∈mapsV l,(aa s.aZ k).isSome=true:=fun {l} hp k hk=>by
 rw[←qO (o:=λi=>i) (i:=0)]at hk;obtain⟨y,hy,rfl⟩:=aq.1 hk;exact tE hp y hy
theorem mJ:∀{zk:List It} {cs:List TC} {hh:HL cs},je s cs zk=some hh->∀x∈zk,x.2.all (plainV s)=true
 |[],_,_,_,_,hx=>by cases hx
 |(bb,l)::zk,cs,hh,e,x,hx=>by
  cases cs with
  |nil=>cases e
  |cons c cs =>
   obtain⟨h1,h2⟩:=ji e;rcases aE.1 hx with e1|e1
   .subst e1;cases bb with
    |none=>exact(lz h1).1
    |some bb=>exact(Du h1).2.2.1
   .exact mJ h2 x e1
theorem vE:∀{ps:List PK} {vs:List RV} {q:List It} {is:List Nat},coll ps vs=some (q,is)->is.length=kj ps
 |ps,[],q,is,e=>by obtain⟨rfl,rfl,rfl⟩:=vD e;rfl
 |[],v::vs,_,_,e=>(sH e).elim
 |k::ps,v::vs,q,is,e=>by
  rcases qk e with⟨bb,l,q',rfl,h1,h2,rfl⟩|⟨rfl,rfl,h2⟩|⟨id,VU,rfl,rfl,h2,rfl⟩|⟨g,n,cp,VT,XE,rfl,rfl,h1,h3,h2,rfl⟩
  .exact(vE h2:is.length=kj ps)
  .exact(vE h2:is.length=kj ps)
  .rw[bc,vE h2];show kj ps+1=1+kj ps;omega
  .have hlen:∀{l:List TV} {is:List Nat},Gm l=some is->is.length=l.length:=by
    intro l
    induction l with
    |nil=>intro is e;cases e;rfl
    |cons x l ih =>
     intro is e;unfold Gm at e;split at e
     .rename_i h1;cases h1
     .rename_i h1;cases h1;obtain⟨i1,r,g1,g2,rfl⟩:=fI e;rw[bc,bc,ih g2]
     .cases e
   rw[aS,vE h2,hlen h3,h1];rfl
theorem oC:∀{ids:List Nat} {b:List It},mU s ids=some b->(∀id∈ids,∃t cl,aa s.boxes id=some (t,cl)/\(none,cl)∈b)
 |[],_,_,_,h=>by cases h
 |i::ids,b,e,id,hid=>by
  obtain⟨cs,b',h1,h2,rfl⟩:=nH e;rcases aE.1 hid with e1|e1
  .subst e1;unfold bx at h1;split at h1
   .rename_i t cl hl;cases h1;exact⟨t,cs,hl,aI⟩
   .cases h1
  .obtain⟨t,cl,g1,g2⟩:=oC h2 id e1;exact⟨t,cl,g1,aw _ g2⟩
theorem getD_some{l:List Nat}{j id:Nat}(h:l[j]?=some id):l.getD j 0=id:=by rw[wC,h];rfl
def scT:TV->Prop
 |.int _ _=>True
 |.bool _=>True
 |.str _=>True
 |_=>False
def scR:RV->Prop
 |.s x=>scT x
 |.g l=>∀x∈l,scT x
 |_=>False
theorem Zy:∀{cs:List TC} {h:HL cs},cs.all isSc1=true->∀x∈lfH cs h,scT x
 |[],_,_,_,hx=>by cases hx
 |c::cs,h,hc,x,hx=>by
  obtain⟨h1,h2⟩:=gu.1 hc;rcases aE.1 hx with e|e
  .subst e;cases c<;>first|(cases h1;done)|exact trivial
  .exact Zy h2 x e
theorem RI{c:TC}{x:den c}(h:TY c=true):scR (vd c (kd c x)):=by
 cases c with
 |t n=>exact Zy (cs:=(sh n).cs) h
 |_=>first|(cases h;done)|exact trivial
theorem Mx:∀{cs:List TC} {x:D1 cs},cs.all TY=true->∀o∈rY cs x,scR o
 |[],_,_,_,ho=>by cases ho
 |[c],x,h,o,ho=>by obtain rfl:=aY.1 ho;exact RI (gu.1 h).1
 |c::c'::cs,x,h,o,ho=>by
  obtain⟨h1,h2⟩:=gu.1 h;rcases aE.1 ho with e|e
  .subst e;exact RI h1
  .exact Mx (cs:=c'::cs) h2 o e
theorem aaF{x:TV}{v:Value}{χ':Nat->Nat}(h:scT x)(hd:CR w χ x v):CR w χ' x v:=by
 cases x<;>first|exact h.elim|exact hd
theorem RJ{χ':Nat->Nat}:∀{l:List TV} {vs:List Value},(∀x∈l,scT x)->FL (CR w χ) l vs->FL (CR w χ') l vs
 |[],[],_,_=>trivial
 |[],_::_,_,h=>h.elim
 |_::_,[],_,h=>h.elim
 |x::l,v::vs,hl,h=>⟨aaF (hl x aI) h.1,RJ (λy hy=>hl y (aw _ hy)) h.2⟩
theorem aaG{o:RV}{v:Value}(h:scR o)(hd:DV w χ o v):DV w χ' o v:=by
 cases o with
 |s x=>cases x<;>first|exact h.elim|exact hd
 |g l=>obtain⟨vs,e,hd⟩:=hd;exact⟨vs,e,RJ h hd⟩
 |t _=>exact h.elim
theorem VB{r:Nat->Nat}{k k':List RV->Prop}:∀{ks:List RK} {os:List RV} {i:Nat} {vs:List Value},(∀o∈os,scR o)->(∀EK,(∀o∈EK,scR o)->k EK->k' EK)->Oc w χ r k ks os i vs->Oc w χ' r k' ks os i vs
 |[],os,_,[],h,hk,hh=>hk os h hh
 |[],os,_,_::_,_,_,hh=>hh.elim
 |.d::ks,[],_,[],_,_,hh=>hh.elim
 |.d::ks,[],_,_::_,_,_,hh=>hh.elim
 |.d::ks,_::_,_,[],_,_,hh=>hh.elim
 |.d::ks,o::os,i,v::vs,h,hk,hh=>⟨aaG (h o aI) hh.1,VB (λo ho=>h o (aw _ ho)) hk hh.2⟩
 |.o e::ks,[],_,[],_,_,hh=>hh.elim
 |.o e::ks,[],_,_::_,_,_,hh=>hh.elim
 |.o e::ks,o::os,i,vs,h,hk,hh=>by
  have ho:=h o aI;cases o with
  |s x=>cases x<;>first|exact ho.elim|(cases vs<;>exact hh.elim)
  |g _=>cases vs<;>exact hh.elim
  |t _=>exact ho.elim
 |.m::ks,[],_,[],_,_,hh=>hh.elim
 |.m::ks,[],_,_::_,_,_,hh=>hh.elim
 |.m::ks,o::os,i,vs,h,hk,hh=>by
  have ho:=h o aI;cases o with
  |s x=>cases x<;>first|exact ho.elim|(cases vs<;>exact hh.elim)
  |g _=>cases vs<;>exact hh.elim
  |t _=>exact ho.elim
theorem Mc{o μ:Nat->Nat}:∀{l:List TV} {i:Nat} {vs:List Value},(∀x∈l,scT x)->CB w χ o μ i l vs->CB w χ' o μ i l vs
 |[],_,[],_,_=>trivial
 |[],_,_::_,_,h=>h.elim
 |x::l,i,[],_,h=>by cases x<;>exact h.elim
 |x::l,i,v::vs,hl,h=>by have hx:=hl x aI;have ht:=λy hy=>hl y (aw x hy);cases x<;>first|exact hx.elim|exact⟨h.1,Mc ht h.2⟩
theorem ahP{o μ:Nat->Nat}{v:RV}{i:Nat}{vs:List Value}(h:scR v)(hc:CB w χ o μ i (aW v) vs):CB w χ' o μ i (aW v) vs:=by
 cases v with
 |s x=>exact Mc (l:=[x]) (λy hy=>by cases aY.1 hy;exact h) hc
 |g l=>exact Mc h hc
 |t _=>exact h.elim
theorem VD{bt:List Nat}:∀{ms:List Nat} {os:List RV},(∀o∈os,scR o)->(∀q∈ms,χ (H.b q)=H.c q->χ' (H.b q)=H.c q)->V9 w χ H bt ms os->V9 w χ' H bt ms os
 |[],[],_,_,_=>trivial
 |[],_::_,_,_,h=>h.elim
 |_::_,[],_,_,h=>h.elim
 |q::ms,o::os,hs,hc,⟨⟨vals,μ,h1,h2⟩,h3⟩=>⟨⟨vals,μ,⟨hc q aI h1.1,h1.2⟩,ahP (hs o aI) h2⟩,VD (λo ho=>hs o (aw _ ho)) (λq hq=>hc q (aw _ hq)) h3⟩
end
end
section
section
variable{P:Program}{T:Tb}{w w' w0:World}{χ χ1 χ2 χ':Nat->Nat}{E:En}{s:TS}{X:Cx}{sy:Sy}{a:Act}{H:Hd}{ids:List Nat}{c0:Nat}{q b:List It}{vs:List RV}{oH:List SV}
theorem Y1{S:Spec}{hh:HL S.ar}(hc:coll S.ps vs=some (q,ids))(hb:mU s ids=some b)(hl:je s S.ar (q++b)=some hh)(arK:ids.length<=90)(h64:∀id t cl,aa s.boxes id=some (t,cl)->id∈ids->cl.length<=64){c:Nat}(hcw:c∈wrP (Bg s E ids vs c0) S.ms S.ps S.ar hh):
  ∃j id,ids[j]?=some id/\j∈S.ms/\(c=id∨∃t cl k,aa s.boxes id=some (t,cl)/\k∈mapsV cl/\(aa s.aZ k).isSome=true/\c=E.m k):=by
 obtain⟨dG,h',h1,h2⟩:=BD hc hl hcw;obtain⟨j,id,g1,g2,g3⟩:=Q0 hb h1 h2;rw[bh]at g2 g3;refine⟨j,id,g1,g2,?_⟩;rcases g3 with g3|⟨cl,i,k,e1,e2,e3⟩
 .left;rw[g3];exact getD_some g1
 .right;obtain⟨t,Qf,k1,k2⟩:=oC hb id (eR g1);have:Qf=cl:=by unfold bx at e1;rw[k1]at e1;cases e1;rfl
  subst this;have V0:k∈mapsV Qf:=by rw[←qO (o:=λi=>i) (i:=0)];exact aq.2 ⟨_,qb e2,rfl⟩
  refine⟨t,Qf,k,k1,V0,tD (mJ h1 _ k2) k V0,?_⟩;have hi:i<64:=dH (dz.1 e2).1 (h64 id t Qf k1 (eR g1));rw[e3,(FJ (zN (by have:=(dz.1 g1).1;omega) hi g1 e1 e2)).1]
theorem zp:∀{ids bt:List Nat},ta s ids bt=true->∀id t cl,aa s.boxes id=some (t,cl)->id∈ids->cl.length<=64
 |[],_,_,_,_,_,_,h=>by cases h
 |_::_,[],h,_,_,_,_,_=>by cases h
 |i::ids,t::bt,h,id,t',cl,hl,hid=>by
  unfold ta at h;rw[ak]at h;rcases aE.1 hid with e|e
  .subst e;rw[hl]at h;exact aB (gu.1 h.1).2
  .exact zp h.2 id t' cl hl e
theorem Qi(h:bX X s E sy a w χ){NL:Nat}{S:Spec}(hM:mW P NL S)(hv:FL (fO w χ E s) vs oH)(hc:coll S.ps vs=some (q,ids))(hb:mU s ids=some b){hh:HL S.ar}(hl:je s S.ar (q++b)=some hh)(n1:nodup ids=true)(n2:ta s ids S.bt=true)(n3:ids.length<=90)(n4:S.ms.all (λi=>Nat.blt i ids.length)=true)
  (n5:nodup ((q++b).flatMap (λx=>mapsV x.2))=true) (uz:∀p,S.pre=some p->p hh) (DX:1001<=c0) :
  ∃χa,bX X (qh S ((q++b).flatMap (λx=>ownsV x.2)) s) E sy a w χa/\M0 w χ w χa/\(∀b',(∀id∈ids,χ b'=id->b'=E.ρ id)->(∀k x,aa s.own k=some x->χ b'=E.c k->aa (qh S ((q++b).flatMap (λx=>ownsV x.2)) s).own k=some x)->χa b'=χ b') /\
   Bf P NL (oH.map (aP E.ρ)).toArray (pR (wrP (Bg s E ids vs c0) S.ms S.ps S.ar hh)) w χa λw' χ' v=>∃r us,S.po hh r/\v=Sv.one us/\Oc w' χ' (Bg s E ids vs c0).r (V9 w' χ' (Bg s E ids vs c0) S.bt S.ms) S.rk (rY S.rs r) 0 us:=by
 have wN:∀id∈ids,1<=id/\id<=999:=λid hid=>by obtain⟨t,cl,k1,_⟩:=oC hb id hid;obtain⟨ss,k2,_⟩:=h.boxes _ _ _ k1;have:=(h.st.boxes _ _ k2).2.1;simp[jo]at this;omega
 have h64:=zp n2;have A9:=mJ hl;obtain⟨f1,f2⟩:=h.wo ((q++b).flatMap (λx=>ownsV x.2));have Ja:∀c∈(lf s ((q++b).flatMap (λx=>ownsV x.2))).map E.c,∃k x,k∈(q++b).flatMap (λx=>ownsV x.2)/\aa s.own k=some x/\E.c k=c:=λc hc=>by obtain⟨k,hk,rfl⟩:=aq.1 hc;obtain⟨x,hx⟩:=bR.1 (yL k hk);exact⟨k,x,(dx.1 hk).1,hx,rfl⟩
 generalize(lf s ((q++b).flatMap (λx=>ownsV x.2))).map E.c=fz at f1 f2 Ja;have f3:=f1.zm wN;have m1:=xJ fz w χ;have gm:∀χ:Nat->Nat,M0 w χ w (zm E ids χ):=λχ=>(UK (E:=E) (χ:=χ) w (ids:=ids) λid hid=>by have:=wN id hid;omega).m0 (bl.2 λhm=>by have:=wN 0 hm;omega);have m2:=gm (sV fz χ);have m:=M0.tr m1 m2;have hm2:∀k mp,aa s.aZ k=some mp->OM kI (bw mp.c) (mR mp.c) w (zm E ids (sV fz χ)) (E.m k) (E.μ k) mp.l:=λk mp e=>f3.aZ k mp e;have LB:∀id t cl,aa s.boxes id=some (t,cl)->zm E ids (sV fz χ) (E.ρ id)=id:=λid t cl e=>by obtain⟨ss,k1,_⟩:=f3.boxes id t cl e;exact(f3.st.boxes id _ k1).1
 have hz:∀k∈(q++b).flatMap (λx=>ownsV x.2),∀ow,aa s.own k=some ow->RS (bw ow.c) w (zm E ids (sV fz χ)) (E.σ k) ow.l (E.κ k):=λk hk ow e=>(f2 k hk ow e).m0 m2;have hln:=vE hc;have hA:AR w (zm E ids (sV fz χ)) (Bg s E ids vs c0) S.bt S.ps S.ar hh 0 0 (oH.map (aP E.ρ)):=by
  refine J2 h m hm2 hc hl hv (λk hk=>hz k (by rw[lA];exact aN _ hk)) (λj id e=>?_) (λj k e=>?_) λdG h' e=>?_
  .rw[bh];show E.ρ (ids.getD j 0)=E.ρ id;rw[getD_some e]
  .rw[bh];exact FJ (ET e)
  .rw[bh];refine aad h m hm2 LB hb e (by rw[nL];exact n2) (λk hk=>hz k (by rw[lA];exact aG _ hk)) (λj id e=>?_) λj id cl i k e1 e2 e3 e4=>?_
   .rw[bh];refine⟨?_,getD_some e⟩;show E.ρ (ids.getD j 0)=E.ρ id;rw[getD_some e]
   .rw[bh];exact FJ (zN (by have:=(dz.1 e1).1;omega) e4 e1 e2 e3)
 have hin:∀e∈lhP (Bg s E ids vs c0) S.ps S.ar hh 0,(∃j id,ids[j]?=some id/\e=(901+j,id))∨∃k p,(k,p)∈DG 0 S.ps vs++Hj 0 b/\(aa s.aZ k).isSome=true/\e=(xN p,E.m k):=λe he=>by
  rcases TI hc hl he with⟨dG,h',k1,k2⟩|⟨j,k,k1,k2,k3⟩
  .rcases TL hb k1 k2 with⟨j,id,e1,e2⟩|⟨j,id,cl,i,k,e1,e2,e3,e4,e5⟩
   .left;rw[bh]at e2;exact⟨j,id,e1,by rw[e2];exact b8 (Prod.mk _) (getD_some e1)⟩
   .right;rw[bh]at e4 e5;obtain⟨t,Qf,g1,g2⟩:=oC hb id (eR e1);have:Qf=cl:=by unfold bx at e2;rw[g1]at e2;cases e2;rfl
    subst this;have V0:k∈mapsV Qf:=by rw[←qO (o:=λi=>i) (i:=0)];exact aq.2 ⟨_,qb e3,rfl⟩
    have hi:i<64:=dH (dz.1 e3).1 (h64 id t Qf g1 (eR e1));refine⟨k,_,aG _ e5,tD (mJ k1 _ g2) k V0,?_⟩;rw[e4,(FJ (zN (by have:=(dz.1 e1).1;omega) hi e1 e2 e3)).1]
  .right;rw[bh]at k2 k3;refine⟨k,_,aN _ k2,?_,by rw[k3,(FJ (ET k1)).1]⟩;have V0:k∈q.flatMap (λx=>mapsV x.2):=by rw[←xT (i:=0) hc hl];exact aq.2 ⟨_,k2,rfl⟩
   obtain⟨x,hx,hkx⟩:=cf.1 V0;exact tD (A9 x (aN _ hx)) k hkx
 have hPL:((DG 0 S.ps vs++Hj 0 b).map (·.1)).Nodup:=by rw[gp,xT hc hl,L4,←lA];exact mB n5
 have ZN:=mB n1;have p1:∀e∈lhP (Bg s E ids vs c0) S.ps S.ar hh 0,∀e'∈lhP (Bg s E ids vs c0) S.ps S.ar hh 0,e.2=e'.2->e.1=e'.1:=λe he e' PS heq=>by
  rcases hin e he with⟨j,id,g1,rfl⟩|⟨k,p,g1,g2,rfl⟩<;>rcases hin e' PS with⟨j',kO,X8,rfl⟩|⟨k',p',X8,g2',rfl⟩
  .have heq:id=kO:=heq;subst heq;have:=(List.getElem?_inj (dz.1 g1).1 ZN).1 (g1.trans X8.symm);subst this;rfl
  .have heq:id=E.m k':=heq;obtain⟨x,hx⟩:=bR.1 g2';have:=h.aQ.m k' x hx;have:=wN id (eR g1);omega
  .have heq:E.m k=kO:=heq;obtain⟨x,hx⟩:=bR.1 g2;have:=h.aQ.m k x hx;have:=wN kO (eR X8);omega
  .have heq:E.m k=E.m k':=heq;obtain⟨x,hx⟩:=bR.1 g2;obtain⟨x',XH⟩:=bR.1 g2';have:=h.aQ.mm k x k' x' hx XH heq;subst this;rw[wm hPL g1 X8]
 have p2:∀c∈(lhP (Bg s E ids vs c0) S.ps S.ar hh 0).map (·.2),c≠0/\c≠1000:=λc hcm=>by
  obtain⟨e,he,rfl⟩:=aq.1 hcm;rcases hin e he with⟨j,id,g1,rfl⟩|⟨k,p,g1,g2,rfl⟩
  .have:=wN id (eR g1);constructor
   .show id≠0;omega
   .show id≠1000;omega
  .obtain⟨x,hx⟩:=bR.1 g2;have:=h.aQ.m k x hx;constructor
   .show E.m k≠0;omega
   .show E.m k≠1000;omega
 have p3:∀j b',j<kj S.ps->zm E ids (sV fz χ) b'=(Bg s E ids vs c0).c j->b'=(Bg s E ids vs c0).b j:=λj b' hj e=>by
  rw[←hln]at hj;obtain⟨id,hid⟩:∃id,ids[j]?=some id:=⟨ids[j],fD hj⟩
  have e:zm E ids (sV fz χ) b'=ids.getD j 0:=e;show b'=E.ρ (ids.getD j 0);rw[getD_some hid]at e ⊢; exact UL (eR hid) (by have:=wN id (eR hid);omega) e
 have hR:=hM w (zm E ids (sV fz χ)) hh (Bg s E ids vs c0) (oH.map (aP E.ρ)) uz hA p1 p2 p3 (λi=>by show 1001<=c0+2*i+1;omega);cases hsc:S.rs.all TY with
 |false =>
  have hg:qh S ((q++b).flatMap (λx=>ownsV x.2)) s=hU ((q++b).flatMap (λx=>ownsV x.2)) s:=by unfold qh;rw[hsc];rfl
  rw[hg];refine⟨zm E ids (sV fz χ),f3,m,λb' h1 h2=>?_,hR⟩;have e1:sV fz χ b'=χ b':=G2 λhm=>by obtain⟨k,x,g1,g2,g3⟩:=Ja _ hm;have:=h2 k x g2 g3.symm;have:=(bg (f:=λi=>!((q++b).flatMap (λ(x:It)=>ownsV x.2)).any (Nat.beq i)) this).1;rw[any_beq.2 g1]at this;cases this
  by_cases hi:χ b'∈ids
  .have:=h1 _ hi rfl;exact LG e1 this
  .rw[G1 (c:=0) (by rw[e1];exact hi),e1]
 |true =>
  have hg:qh S ((q++b).flatMap (λx=>ownsV x.2)) s=s:=by unfold qh;rw[hsc];rfl
  rw[hg];have QL:∀{c},c∈wrP (Bg s E ids vs c0) S.ms S.ps S.ar hh->_:=λhm=>Y1 (E:=E) (c0:=c0) hc hb hl n3 h64 hm;have hw0:(0:Nat)∉wrP (Bg s E ids vs c0) S.ms S.ps S.ar hh:=λhm=>by
   obtain⟨j,id,g1,_,g2⟩:=QL hm;rcases g2 with g2|⟨t,cl,k,_,_,g3,g4⟩
   .have:=wN id (eR g1);omega
   .obtain⟨x,hx⟩:=bR.1 g3;have:=h.aQ.m k x hx;omega
  refine⟨zm E ids χ,h.zm wN,gm χ,λb' h1 h2=>?_,?_⟩
  .by_cases hi:χ b'∈ids
   .exact LG rfl (h1 _ hi rfl)
   .exact G1 (c:=0) hi
  .refine Calls.mono hR λe w' ⟨v,χ',r1,r2,r0,us,r5,r3,r4⟩=>⟨v,λb'=>if b'<w.heap.size then zm E ids χ b' else χ' b',r1,⟨r2.os,r2.tape,r2.output,r2.size,λb' rr hp=>⟨(r2.keep b' rr ?_).1,by simp[rr]⟩⟩,r0,us,r5,r3,?_⟩
   .by_cases Ec:χ b'∈fz
    .have e1:sV fz χ b'=0:=by unfold sV;rw[any_beq.2 Ec];rfl
     have e2:zm E ids (sV fz χ) b'=0:=by rw[G1 (c:=0) (by rw[e1];exact λhm=>by have:=wN 0 hm;omega),e1]
     rw[e2];exact bl.2 hw0
    .have e1:sV fz χ b'=χ b':=G2 Ec;have e2:zm E ids (sV fz χ) b'=zm E ids χ b':=by unfold zm;rw[e1]
     rw[e2];exact hp
   .refine VB (Mx hsc) (λEK ho hk=>VD ho (λj hj _=>?_) hk) r4;have xH:=aB (mL n4 j hj);obtain⟨id,hid⟩:∃id,ids[j]?=some id:=⟨ids[j],fD xH⟩
    obtain⟨t,cl,g1,_⟩:=oC hb id (eR hid);have Lx:=(h.zm (ids:=ids) wN).boxes id t cl g1;obtain⟨ss,g2,_⟩:=Lx;obtain⟨g3,_,g4⟩:=(h.zm (ids:=ids) wN).st.boxes id _ g2;have eb:(Bg s E ids vs c0).b j=E.ρ id:=b8 E.ρ (getD_some hid);have ec:(Bg s E ids vs c0).c j=id:=getD_some hid;rw[eb,ec,if_pos (gF g4)];exact g3
end
end
noncomputable section
def VW(s:TS)(W:List Nat):List Nat:=W.flatMap (λid=>match bx s id with|some cs=>mapsV cs|none=>[])
def jz(W:List Nat)(s:TS):TS:=⟨s.al,s.boxes.filter (λq=>!W.any (Nat.beq q.1)),s.own,s.aZ.filter (λq=>!(VW s W).any (Nat.beq q.1)),s.ca⟩
section
variable{P:Program}{T:Tb}{w w' w0:World}{χ χ1 χ2 χ':Nat->Nat}{E E':En}{s s':TS}{X:Cx}{sy:Sy}{a:Act}{H:Hd}{ids W:List Nat}
theorem Jy(s:TS):jz [] s=s:=by
 unfold jz;have e1:s.boxes.filter (λq=>!([]:List Nat).any (Nat.beq q.1))=s.boxes:=List.filter_eq_self.2 λ_ _=>rfl;have e2:s.aZ.filter (λq=>!(VW s []).any (Nat.beq q.1))=s.aZ:=List.filter_eq_self.2 λ_ _=>rfl;rw[e1,e2]
theorem Db{id:Nat}{x:Nat×List TV}:aa (jz W s).boxes id=some x↔id∉W/\aa s.boxes id=some x :=
 ⟨λe=>by
  obtain⟨h1,h2⟩:=bg (f:=λi=>!W.any (Nat.beq i)) e;exact⟨bl.1 (by simpa using h1),h2⟩,λ⟨h1,h2⟩=>fH (f:=λi=>!W.any (Nat.beq i)) (by rw[bl.2 h1];rfl) h2⟩
theorem ly{k:Nat}{x:J9}:aa (jz W s).aZ k=some x↔k∉VW s W/\aa s.aZ k=some x :=
 ⟨λe=>by
  obtain⟨h1,h2⟩:=bg (f:=λi=>!(VW s W).any (Nat.beq i)) e;exact⟨bl.1 (by simpa using h1),h2⟩,λ⟨h1,h2⟩=>fH (f:=λi=>!(VW s W).any (Nat.beq i)) (by rw[bl.2 h1];rfl) h2⟩
theorem CN{k:Nat}:k∈VW s W↔∃id∈W,∃cs,bx s id=some cs/\k∈mapsV cs:=by
 unfold VW;rw[cf];constructor
 .rintro⟨id,h1,h2⟩;split at h2
  .rename_i cs h;exact⟨id,h1,cs,h,h2⟩
  .cases h2
 .rintro⟨id,h1,cs,h2,h3⟩;exact⟨id,h1,by rw[h2];exact h3⟩
theorem Vt(h:bX X s E sy a w χ){wr:List Nat}(ev:Ev (pR wr) w χ w' χ')(QL:∀c∈wr,(c∈W/\1<=c/\c<=999)∨∃k x,k∈VW s W/\aa s.aZ k=some x/\c=E.m k):bX X (jz W s) E ⟨sy.al,sy.boxes.filter (λq=>!pR wr q.1)⟩ a w' χ':=by
 have pf:∀c,c∉wr->pR wr c=false:=λc hc=>bl.2 hc;have n0:∀c,c∈wr->1<=c/\(c<=999∨1001<=c):=λc hc=>by
  rcases QL c hc with h1|⟨k,x,_,h2,rfl⟩
  .omega
  .have:=h.aQ.m k x h2;omega
 have nm:∀y,Nm E E s (jz W s) y:=λy k _=>⟨λmQ e=>⟨mQ,e,rfl,rfl,rfl,rfl⟩,λmp' e=>⟨mp',(ly.1 e).2,rfl⟩⟩
 have np:∀id ss,aa sy.boxes id=some ss->id∉W->id∉wr:=λid ss e hw hm=>by
  rcases QL id hm with h1|⟨k,x,_,h2,h3⟩
  .exact hw h1.1
  .have:=h.aQ.m k x h2;have:=(h.st.boxes id ss e).2.1;simp[jo]at this;omega
 refine h.step ev (pf 0 λhm=>by have:=n0 0 hm;omega) (pf 1000 λhm=>by have:=n0 1000 hm;omega) (h.st.evp ev) (λt x e=>.inr ⟨e,λsv e=>e,λy _=>nm y⟩) (λi t cs e=>?_) (λk x e=>?_) (λk x e=>?_) ⟨λk x e=>h.aQ.o k x e,λk x e=>h.aQ.m k x (ly.1 e).2,λk x j y e e'=>h.aQ.oo k x j y e e',λk x j y e e'=>h.aQ.om k x j y e (ly.1 e').2,λk x j y e e'=>h.aQ.mm k x j y (ly.1 e).2 (ly.1 e').2⟩ h.qu
 .obtain⟨h1,h2⟩:=Db.1 e;exact .inr ⟨h2,λss e=>fH (f:=λi=>!pR wr i) (by rw[pf _ (np i _ e h1)];rfl) e,λy _=>nm y⟩
 .refine .inr ⟨e,rfl,rfl,rfl,pf _ λhm=>?_⟩;rcases QL _ hm with h1|⟨j,y,_,h2,h3⟩
  .have:=h.aQ.o k x e;omega
  .exact h.aQ.om k x j y e h2 h3
 .obtain⟨h1,h2⟩:=ly.1 e;refine .inr ⟨h2,rfl,rfl,pf _ λhm=>?_⟩;rcases QL _ hm with h3|⟨j,y,h4,h5,h6⟩
  .have:=h.aQ.m k x h2;omega
  .have:=h.aQ.mm k x j y h2 h5 h6;subst this;exact h1 h4
theorem Gw{o μ f:Nat->Nat}:∀{l:List TV} {i:Nat} {vs:List Value},(∀j,(∃c x,l[j]?=some (.md c x))->E.μ (f (i+j))=μ (i+j))->CB w χ o μ i l vs->FL (TR w χ E s) (W4 f i l) (vs.map V)
 |[],_,[],_,_=>trivial
 |[],_,_::_,_,h=>h.elim
 |x::l,i,[],_,h=>by cases x<;>exact h.elim
 |x::l,i,v::vs,hμ,h=>by
  have hμ':∀j,(∃c x,l[j]?=some (.md c x))->E.μ (f (i+1+j))=μ (i+1+j):=λj ⟨c,y,e⟩=>by have:=hμ (j+1) ⟨c,y,by simpa using e⟩;rwa[show i+(j+1)=i+1+j from by omega]at this
  cases x with
  |md c y=>obtain⟨⟨h1,h2⟩,h3⟩:=h;have:=hμ 0 ⟨c,y,rfl⟩;rw[c9]at this;exact⟨⟨v,rfl,λmp _=>by rw[h1,this]⟩,Gw hμ' h3⟩
  |_=>exact⟨kS h.1,Gw hμ' h.2⟩
theorem MW{f:Nat->Nat}:∀{l:List TV} {i j:Nat} {c:TC} {x:List (Int×den c)},l[j]?=some (.md c x)->f (i+j)∈(opN f i l).map (·.1)
 |z::l,i,0,c,x,e=>by
  obtain rfl:z=.md c x:=by simpa using e
  exact aI
 |z::l,i,j+1,c,x,e=>by have:=MW (f:=f) (l:=l) (i:=i+1) (j:=j) (c:=c) (x:=x) (by simpa using e);rw[show i+(j+1)=i+1+j from by omega];cases z<;>first|exact this|exact aw _ this
theorem S3{f:Nat->Nat}:∀{l:List TV} {i:Nat} {y:Nat×J9},y∈opN f i l->∃j,j<l.length/\y.1=f (i+j)
 |z::l,i,y,h=>by
  have rest:y∈opN f (i+1) l->∃j,j<(z::l).length/\y.1=f (i+j):=λh=>by obtain⟨j,h1,h2⟩:=S3 h;exact⟨j+1,by rw[bc];omega,by rw[h2,show i+1+j=i+(j+1)from by omega]⟩
  cases z with
  |md c x =>
   rcases aE.1 (show y∈(f i,(⟨c,x⟩:J9))::opN f (i+1) l from h)with e|e
   .subst e;exact⟨0,by rw[bc];omega,rfl⟩
   .exact rest e
  |_=>exact rest h
theorem MX{f:Nat->Nat}:∀{l:List TV} {i:Nat},(W4 f i l).length=l.length
 |[],_=>rfl
 |z::l,i=>by cases z<;>exact b8 (·+1) (MX (l:=l))
def oZ(E:En)(id:Nat)(l:List TV)(o μ:Nat->Nat):En:=⟨E.ρ,E.σ,E.κ,λk=>if k∈(opN (ke id) 0 l).map (·.1)then μ (k-(200000+id*64))else E.μ k,E.c,λk=>if k∈(opN (ke id) 0 l).map (·.1)then o (k-(200000+id*64))else E.m k⟩
theorem M7{id j:Nat}{l:List TV}{o μ:Nat->Nat}(h:ke id j∈(opN (ke id) 0 l).map (·.1)):(oZ E id l o μ).μ (ke id j)=μ j/\(oZ E id l o μ).m (ke id j)=o j:=by
 have:ke id j-(200000+id*64)=j:=by unfold ke;omega
 constructor
 .show(if _ then μ (ke id j-(200000+id*64))else _)=_;rw[if_pos h,this]
 .show(if _ then o (ke id j-(200000+id*64))else _)=_;rw[if_pos h,this]
theorem jE{id k:Nat}{l:List TV}{o μ:Nat->Nat}(h:k∉(opN (ke id) 0 l).map (·.1)):(oZ E id l o μ).μ k=E.μ k/\(oZ E id l o μ).m k=E.m k:=⟨if_neg h,if_neg h⟩
theorem BJ{id n:Nat}:∀{m off:Nat},n<=off->off<n+m->2*(64*id+off)∈FY id n m
 |0,off,h1,h2=>by omega
 |m+1,off,h1,h2=>by
  by_cases e:off=n+m
  .subst e;exact aI
  .exact aw _ (BJ h1 (by omega))
theorem Xj{id t:Nat}{l cs:List TV}{vals:List Value}{o μ:Nat->Nat}(h:bX X (jz (id::W) s) E sy a w χ)(hid:id∉W)(XZ:aa s.boxes id=some (t,cs))(hm:abq s id l=some s')(hx:jo id=true)(jZ:Cell w χ (E.ρ id) id t vals)(hCB:CB w χ o μ 0 l vals)
  (c1:∀i,i<64->1001<=o i) (c2:∀i j,i<64->j<64->o i=o j->i=j) (c3:∀i k x,i<64->aa s.own k=some x->E.c k≠o i) (c4:∀i k x,i<64->aa (jz (id::W) s).aZ k=some x->E.m k≠o i) :
  bX X (jz W s') (oZ E id l o μ) ⟨sy.al,(id,(t,vals.map V))::sy.boxes⟩ a w χ/\Fr [] s s'/\(∀k,2*k+1∉s'.ca->k∉(opN (ke id) 0 l).map (·.1))/\(∀j,j≠id->aa s'.boxes j=aa s.boxes j)/\s'.own=s.own/\s'.al=s.al/\(2*(64*id)∈s'.ca/\1<=cs.length/\∀k∈mapsV cs,2*k+1∈s'.ca)/\(∀k x,aa (jz W s').aZ k=some x->(∃i,i<64/\(oZ E id l o μ).m k=o i)∨(aa (jz (id::W) s).aZ k=some x/\(oZ E id l o μ).m k=E.m k)):=by
 unfold abq at hm;rw[XZ]at hm;obtain⟨hb,hm⟩:=dw hm;cases hm;simp only[ak]at hb;obtain⟨⟨⟨hb1,hb2⟩,hb4⟩,hb3⟩:=hb;have h1l:=aB hb4;have hlen:=aD hb1;have h64:=aB hb2;have hfr:∀k∈(opN (ke id) 0 l).map (·.1),freshN s id k=true:=λk hk=>by obtain⟨y,hy,rfl⟩:=aq.1 hk;exact aO.1 hb3 y hy
 have agC:∀k∈(opN (ke id) 0 l).map (·.1),(∀t x,aa s.al t=some x->mC (fa k) x=false)/\(∀j t cs,aa s.boxes j=some (t,cs)->j≠id->namesV (names1 (fa k)) cs=false)/\aa s.own k=none:=λk hk=>by
  have:=hfr k hk;unfold freshN at this;simp only[ak]at this;refine⟨λt x e=>by simpa using aO.1 this.1.1 _ (ct e),λj t cs e hj=>?_,sM.1 this.2⟩;have h2:=aO.1 this.1.2 _ (ct e);rw[dS]at h2;rcases h2 with h2|h2
  .exact absurd (aD h2) hj
  .simpa using h2
 generalize IY:(⟨s.al,(id,(t,W4 (ke id) 0 l))::s.boxes,s.own,opN (ke id) 0 l++s.aZ.filter (λx=>!(mapsV cs).any (Nat.beq x.1)),FY id 0 cs.length++((opN (ke id) 0 l).map (λx=>2*x.1+1)++((mapsV cs).map (λk=>2*k+1)++s.ca))⟩:TS)=s';have eb:∀j,j≠id->aa s'.boxes j=aa s.boxes j:=λj hj=>by rw[←IY];exact bd (bC hj)
 have eo:s'.own=s.own:=by rw[←IY]
 have er:s'.al=s.al:=by rw[←IY]
 have em:s'.aZ=opN (ke id) 0 l++s.aZ.filter (λx=>!(mapsV cs).any (Nat.beq x.1)):=by rw[←IY]
 have ebi:aa s'.boxes id=some (t,W4 (ke id) 0 l):=by rw[←IY];exact look_eq
 have eV:VW s' W=VW s W:=by
  unfold VW;have:∀(L:List Nat),id∉L->L.flatMap (λid=>match bx s' id with|some cs=>mapsV cs|none=>[])=L.flatMap (λid=>match bx s id with|some cs=>mapsV cs|none=>[]):=λL=>by
   induction L with
   |nil=>intro _;rfl
   |cons j L ih =>
    intro hn;have hj:bx s' j=bx s j:=by unfold bx;rw[eb j λe=>hn (e▸aI)]
    rw[jI,jI,hj,ih λe=>hn (aw _ e)]
  exact this W hid
 have Iy:∀k x,aa (jz W s').aZ k=some x->(k,x)∈opN (ke id) 0 l∨(k∉(opN (ke id) 0 l).map (·.1)/\aa (jz (id::W) s).aZ k=some x):=λk x e=>by
  obtain⟨h1,h2⟩:=ly.1 e;rw[em,iz]at h2;cases hk:aa (opN (ke id) 0 l) k with
  |some y=>rw[hk]at h2;cases h2;exact .inl (ct hk)
  |none =>
   rw[hk]at h2;have h2:aa (s.aZ.filter (λx=>!(mapsV cs).any (Nat.beq x.1))) k=some x:=h2;obtain⟨h3,h4⟩:=bg (f:=λi=>!(mapsV cs).any (Nat.beq i)) h2;refine .inr ⟨λhm=>?_,ly.2 ⟨λhm=>?_,h4⟩⟩
   .obtain⟨y,hy⟩:=ko hm;rw[hk]at hy;cases hy
   .obtain⟨j,hj,dG,e1,e2⟩:=CN.1 hm;rcases aE.1 hj with e3|e3
    .subst e3;unfold bx at e1;rw[XZ]at e1;cases e1;rw[any_beq.2 e2]at h3;cases h3
    .exact h1 (eV▸CN.2 ⟨j,e3,dG,e1,e2⟩)
 have nmk:∀y,(∀k∈(opN (ke id) 0 l).map (·.1),names1 (fa k) y=false)->Nm E (oZ E id l o μ) (jz (id::W) s) (jz W s') y:=λy hy k hk=>by
  have hkn:k∉(opN (ke id) 0 l).map (·.1):=λhm=>Ij (f:=fa k) (hy k hm) hk rfl;refine⟨λmQ e=>⟨mQ,by rw[show(jz (id::W) s).own=(jz W s').own from eo.symm];exact e,rfl,rfl,rfl,rfl⟩,λmp' e=>?_⟩;rcases Iy k mp' e with h1|⟨_,h2⟩
  .exact absurd (aq.2 ⟨_,h1,rfl⟩) hkn
  .exact⟨mp',h2,(jE hkn).1⟩
 have Ik:∀k x,(k,x)∈opN (ke id) 0 l->∃i,i<64/\k=ke id i/\OM kI (bw x.c) (mR x.c) w χ ((oZ E id l o μ).m k) ((oZ E id l o μ).μ k) x.l/\(oZ E id l o μ).m k=o i:=λk x hk=>by
  obtain⟨p,p1,p2,_⟩:=Gv hCB _ hk;obtain⟨j,j1,j2⟩:=S3 hk;have p1:k=ke id p:=p1;have j2:k=ke id (0+j):=j2;have hpj:p=j:=by rw[p1]at j2;unfold ke at j2;omega
  subst hpj;have hin:=M7 (E:=E) (o:=o) (μ:=μ) (id:=id) (j:=p) (l:=l) (by rw[←p1];exact aq.2 ⟨_,hk,rfl⟩);refine⟨p,by omega,p1,?_,by rw[p1];exact hin.2⟩;rw[p1,hin.1,hin.2];exact p2
 refine⟨h.step (Ev.refl (p:=eN) w χ) rfl rfl ⟨h.st.size,h.st.defers,h.st.al,λj q e=>?_⟩ (λt' x e=>.inr ⟨by rw[show(jz (id::W) s).al=(jz W s').al from er.symm];exact e,λsv e=>e,λy hy=>?_⟩) (λj t' dG e=>?_) (λk x e=>?_) (λk x e=>?_) ⟨λk x e=>?_,λk x e=>?_,λk x j y e e'=>?_,λk x j y e e'=>?_,λk x j y e e'=>?_⟩ h.qu,?_,?_,eb,eo,er,⟨?_,h1l,λk hk=>?_⟩,?_⟩
 .rcases aA e with⟨e1,e2⟩|⟨e1,e2⟩
  .subst e1 e2;exact⟨jZ.1,hx,by rw[lV];exact jZ.2⟩
  .exact h.st.boxes j q e2
 .refine nmk y λk hk=>?_;exact ni ((agC k hk).1 t' x (er▸e)) hy
 .obtain⟨h1,h2⟩:=Db.1 e;by_cases hj:j=id
  .subst hj;rw[ebi]at h2;cases h2;exact .inl ⟨_,look_eq,Gw (λi ⟨c,x,hi⟩=>by
    have:=MW (f:=ke j) (i:=0) hi;rw[bh]at this ⊢; exact(M7 this).1) hCB⟩
  .rw[eb j hj]at h2;refine .inr ⟨Db.2 ⟨λhm=>?_,h2⟩,λss e=>(bd (bC hj)).trans e,λy hy=>nmk y λk hk=>kM ((agC k hk).2.1 j t' dG h2 hj) hy⟩;rcases aE.1 hm with e1|e1
   .exact hj e1
   .exact h1 e1
 .exact .inr ⟨by rw[show(jz (id::W) s).own=(jz W s').own from eo.symm];exact e,rfl,rfl,rfl,rfl⟩
 .rcases Iy k x e with h1|⟨h1,h2⟩
  .obtain⟨i,_,_,h3,_⟩:=Ik k x h1;exact .inl h3
  .exact .inr ⟨h2,(jE h1).2,(jE h1).1,rfl⟩
 .exact h.aQ.o k x (by rw[show(jz (id::W) s).own=(jz W s').own from eo.symm];exact e)
 .rcases Iy k x e with h1|⟨h1,h2⟩
  .obtain⟨i,hi,_,_,h4⟩:=Ik k x h1;rw[h4];exact c1 i hi
  .rw[(jE h1).2];exact h.aQ.m k x h2
 .exact h.aQ.oo k x j y (by rw[show(jz (id::W) s).own=(jz W s').own from eo.symm];exact e) (by rw[show(jz (id::W) s).own=(jz W s').own from eo.symm];exact e')
 .have e0:aa s.own k=some x:=by rw[←eo];exact e
  rcases Iy j y e' with h1|⟨h1,h2⟩
  .obtain⟨i,hi,_,_,h4⟩:=Ik j y h1;rw[h4];exact c3 i k x hi e0
  .rw[(jE h1).2];exact h.aQ.om k x j y e0 h2
 .rcases Iy k x e with h1|⟨h1,h2⟩<;>rcases Iy j y e' with NC|⟨NC,V6⟩
  .obtain⟨i,hi,hk,_,h4⟩:=Ik k x h1;obtain⟨i',lg,Lw,_,h4'⟩:=Ik j y NC;rw[h4,h4'];intro he;rw[hk,Lw,c2 i i' hi lg he]
  .obtain⟨i,hi,hk,_,h4⟩:=Ik k x h1;rw[h4,(jE NC).2];intro he;exact absurd he.symm (c4 i j y hi V6)
  .obtain⟨i,hi,hk,_,h4⟩:=Ik j y NC;rw[h4,(jE h1).2];intro he;exact absurd he (c4 i k x hi h2)
  .rw[(jE h1).2,(jE NC).2];exact h.aQ.mm k x j y h2 V6
 .refine⟨λ_ _=>by rw[er],λj t' dG e=>?_,λk _=>by rw[eo],λk hn=>?_,λx hx=>?_⟩
  .by_cases hj:j=id
   .subst hj;rw[XZ]at e;cases e;refine⟨_,ebi,by rw[MX,hlen],λoff ho hn=>absurd ?_ hn⟩;rw[←IY];exact aN _ (BJ (mb _) (by omega))
   .exact⟨dG,(eb j hj).trans e,rfl,λ_ _ _=>rfl⟩
  .have n1:k∉(opN (ke id) 0 l).map (·.1):=λhm=>hn (by
    rw[←IY];obtain⟨y,hy,rfl⟩:=aq.1 hm;exact aG _ (aN _ (aq.2 ⟨y,hy,rfl⟩)))
   have n2:k∉mapsV cs:=λhm=>hn (by
    rw[←IY];exact aG _ (aG _ (aN _ (aq.2 ⟨k,hm,rfl⟩))))
   rw[em,iz];cases hk:aa (opN (ke id) 0 l) k with
   |some y=>exact absurd (aq.2 ⟨_,ct hk,rfl⟩) n1
   |none=>exact tG (f:=λi=>!(mapsV cs).any (Nat.beq i)) (by rw[bl.2 n2];rfl)
  .rw[←IY];exact aG _ (aG _ (aG _ hx))
 .intro k hn hm;obtain⟨y,hy,rfl⟩:=aq.1 hm;refine hn ?_;rw[←IY];exact aG _ (aN _ (aq.2 ⟨y,hy,rfl⟩))
 .rw[←IY];have:=BJ (id:=id) (n:=0) (m:=cs.length) (off:=0) (aK _) (by omega);rw[c9]at this;exact aN _ this
 .rw[←IY];exact aG _ (aG _ (aN _ (aq.2 ⟨k,hk,rfl⟩)))
 .intro k x e;rcases Iy k x e with h1|⟨h1,h2⟩
  .obtain⟨i,hi,_,_,h4⟩:=Ik k x h1;exact .inl ⟨i,hi,h4⟩
  .exact .inr ⟨h2,(jE h1).2⟩
end
end
section
section
variable{P:Program}{T:Tb}{w w' w0:World}{χ χ1 χ2 χ':Nat->Nat}{E E':En}{s s':TS}{X:Cx}{sy:Sy}{a:Act}{H:Hd}{ids W:List Nat}
theorem EW{n:Nat}{bt:List Nat}(inj:∀j i j' i',j<n->j'<n->i<64->i'<64->H.o (64*j+i)=H.o (64*j'+i')->j=j'/\i=i')(ge:∀j i,j<n->i<64->1001<=H.o (64*j+i)):∀{ms:List Nat} {os:List RV} {s s':TS} {E:En} {sy:Sy},bX X (jz (ms.map (λi=>ids.getD i 0)) s) E sy a w χ->modAll ids ms os s=some s'->V9 w χ H bt ms os ->
  (∀j∈ms,j<n/\H.b j=E.ρ (ids.getD j 0)/\H.c j=ids.getD j 0/\(∃t cs,aa s.boxes (ids.getD j 0)=some (t,cs)/\bt.getD j 0=t)/\jo (ids.getD j 0)=true)->(ms.map (λi=>ids.getD i 0)).Nodup ->
  (∀j∈ms,∀i k x,i<64->aa s.own k=some x->E.c k≠H.o (64*j+i))->(∀j∈ms,∀i k x,i<64->aa (jz (ms.map (λi=>ids.getD i 0)) s).aZ k=some x->E.m k≠H.o (64*j+i)) ->
  ∃E' sy',bX X s' E' sy' a w χ/\E'.ρ=E.ρ/\E'.σ=E.σ/\E'.κ=E.κ/\E'.c=E.c/\(∀k,2*k+1∉s'.ca->E'.μ k=E.μ k/\E'.m k=E.m k)/\Fr [] s s'/\s'.own=s.own/\s'.al=s.al /\
   (∀j∈ms,∀t cs,aa s.boxes (ids.getD j 0)=some (t,cs)->2*(64*ids.getD j 0)∈s'.ca/\1<=cs.length/\∀k∈mapsV cs,2*k+1∈s'.ca) /\
   ∀k x,aa s'.aZ k=some x->(∃j∈ms,∃i,i<64/\E'.m k=H.o (64*j+i))∨(aa (jz (ms.map (λi=>ids.getD i 0)) s).aZ k=some x/\E'.m k=E.m k)
 |[],[],s,s',E,sy,h,hm,_,_,_,_,_=>by cases hm;rw[iC,Jy]at h;refine⟨E,sy,h,rfl,rfl,rfl,rfl,λ_ _=>⟨rfl,rfl⟩,⟨λ_ _=>rfl,λid t cs e=>⟨cs,e,rfl,λ_ _ _=>rfl⟩,λ_ _=>rfl,λ_ _=>rfl,λ_ h=>h⟩,rfl,rfl,(λj hj=>by cases hj),λk x e=>.inr ⟨?_,rfl⟩⟩;rw[iC,Jy];exact e
 |[],_::_,_,_,_,_,_,hm,_,_,_,_,_=>by cases hm
 |_::_,[],_,_,_,_,_,hm,_,_,_,_,_=>by cases hm
 |j::ms,o::os,s,s',E,sy,h,hm,hP,hb,hn,ho,hmp=>by
  unfold modAll at hm;split at hm
  .rename_i s1 hs1;obtain⟨⟨vals,μ,g1,g2⟩,g3⟩:=hP;obtain⟨b1,b2,b3,⟨t,cs,b4,b5⟩,b6⟩:=hb j aI;rw[ba,gS]at hn;rw[b2,b3,b5]at g1;obtain⟨m1,m2,m3,m4,m5,m6,m8,m7⟩:=Xj (o:=λi=>H.o (64*j+i)) (μ:=μ) h hn.1 b4 hs1 b6 g1 g2 (λi hi=>ge j i b1 hi) (λi i' h1 h2 e=>(inj j i j i' b1 b1 h1 h2 e).2) (λi k x hi e=>ho j aI i k x hi e) (λi k x hi e=>hmp j aI i k x hi e);have hne:∀j'∈ms,ids.getD j' 0≠ids.getD j 0:=λj' xH e=>hn.1 (aq.2 ⟨j',xH,e⟩);obtain⟨E',sy',k1,k2,k3,k4,k5,k6,k7,k8,k9,k11,k10⟩:=EW inj ge m1 hm g3 (λj' xH=>by
    obtain⟨c1,c2,c3,⟨t',dG,c4,c5⟩,c6⟩:=hb j' (aw _ xH);exact⟨c1,c2,c3,⟨t',dG,(m4 _ (hne j' xH)).trans c4,c5⟩,c6⟩) hn.2 (λj' xH i k x hi e=>ho j' (aw _ xH) i k x hi (m5▸e)) (λj' xH i k x hi e=>by
    rcases m7 k x e with⟨i',lg,e1⟩|⟨e1,e2⟩
    .rw[e1];intro he;have:=(inj j i' j' i b1 (hb j' (aw _ xH)).1 lg hi he).1;subst this;exact hne j xH rfl
    .rw[e2];exact hmp j' (aw _ xH) i k x hi e1)
   refine⟨E',sy',k1,k2,k3,k4,k5,λk hk=>?_,(m2.trans k7).wk (λt ht=>by cases ht),k8.trans m5,k9.trans m6,λj' xH t' dG e=>?_,λk x e=>?_⟩
   .obtain⟨p1,p2⟩:=k6 k hk;have Ed:=m3 k λhm=>hk (k7.ca _ hm);exact⟨p1.trans (jE Ed).1,p2.trans (jE Ed).2⟩
   .rcases aE.1 xH with e1|e1
    .subst e1;rw[b4]at e;cases e;exact⟨k7.ca _ m8.1,m8.2.1,λk hk=>k7.ca _ (m8.2.2 k hk)⟩
    .exact k11 j' e1 t' dG ((m4 _ (hne j' e1)).trans e)
   .rcases k10 k x e with⟨j',xH,i',h1,h2⟩|⟨h1,h2⟩
    .exact .inl ⟨j',aw _ xH,i',h1,h2⟩
    .rcases m7 k x h1 with⟨i',lg,e1⟩|⟨e1,e2⟩
     .exact .inl ⟨j,aI,i',‹_›,h2.trans e1⟩
     .exact .inr ⟨e1,h2.trans e2⟩
  .cases hm
theorem adu{o:RV}{v:Value}(h:DV w χ o v):Oa w χ E s o (V v):=by
 cases o with
 |s x=>exact kS h
 |g l=>obtain⟨vs,rfl,h⟩:=h;exact⟨vs,rfl,ue h⟩
 |t _=>exact h.elim
theorem yx{r f:Nat->Nat}{kK:List RV->Prop}:∀{rk:List RK} {os:List RV} {i:Nat} {vs:List Value} {q:List RV} {ow:List (Nat×Wa)} {mp:List (Nat×J9)} {E:En},Oc w χ r kK rk os i vs->uk f i rk (os.take rk.length)=some (q,ow,mp)->(ow.map (·.1)++mp.map (·.1)).Nodup ->
  (∃E':En,E'.ρ=E.ρ/\(∀k,k∉ow.map (·.1)->E'.σ k=E.σ k/\E'.κ k=E.κ k/\E'.c k=E.c k)/\(∀k,k∉mp.map (·.1)->E'.μ k=E.μ k/\E'.m k=E.m k) /\
   (∀y∈ow,OS (bw y.2.c) y.2.e w χ (E'.c y.1) (E'.σ y.1) y.2.l (E'.κ y.1)/\∃j,i<=j/\y.1=f j/\E'.c y.1=r j)/\(∀y∈mp,OM kI (bw y.2.c) (mR y.2.c) w χ (E'.m y.1) (E'.μ y.1) y.2.l/\∃j,i<=j/\y.1=f j/\E'.m y.1=r j) /\
   ∀(E2:En)(s2:TS),(∀y∈ow,aa s2.own y.1=some y.2/\E2.σ y.1=E'.σ y.1/\E2.κ y.1=E'.κ y.1)->(∀y∈mp,aa s2.aZ y.1=some y.2/\E2.μ y.1=E'.μ y.1)->FL (Oa w χ E2 s2) q (vs.map V))/\kK (os.drop rk.length)
 |[],os,i,vs,q,ow,mp,E,h,e,_=>by
  cases vs with
  |nil =>
   cases e;refine⟨⟨E,rfl,λ_ _=>⟨rfl,rfl,rfl⟩,λ_ _=>⟨rfl,rfl⟩,?_,?_,λ_ _ _ _=>trivial⟩,h⟩
   .intro y hy;cases hy
   .intro y hy;cases hy
  |cons _ _=>exact h.elim
 |.d::ks,os,i,vs,q,ow,mp,E,h,e,hn=>by
  cases os with
  |nil=>cases vs<;>exact h.elim
  |cons o os=>cases vs with
   |nil=>exact h.elim
   |cons v vs =>
    have e:uk f i (.d::ks) (o::os.take ks.length)=some (q,ow,mp):=e;unfold uk at e;split at e
    .rename_i q' mQ mp' he;cases e;obtain⟨⟨E',g1,g2,g3,g4,g5,g6⟩,g7⟩:=yx (E:=E) h.2 he hn;refine⟨⟨E',g1,g2,g3,λy hy=>?_,λy hy=>?_,λE2 s2 h1 h2=>⟨adu h.1,g6 E2 s2 h1 h2⟩⟩,g7⟩
     .obtain⟨p1,j,p2,p3⟩:=g4 y hy;exact⟨p1,j,by omega,p3⟩
     .obtain⟨p1,j,p2,p3⟩:=g5 y hy;exact⟨p1,j,by omega,p3⟩
    .cases e
 |.o e0::ks,os,i,vs,q,ow,mp,E,h,e,hn=>by
  cases os with
  |nil=>cases vs<;>exact h.elim
  |cons o os=>cases vs with
   |nil=>cases o with
    |s x=>cases x<;>exact h.elim
    |g _=>exact h.elim
    |t _=>exact h.elim
   |cons v vs =>
    have e:uk f i (.o e0::ks) (o::os.take ks.length)=some (q,ow,mp):=e;cases o with
    |g _=>exact h.elim
    |t _=>exact h.elim
    |s x =>
     cases x with
     |sl c x =>
      unfold uk at e;split at e
      .rename_i q' mQ mp' he;cases e;obtain⟨⟨ad,cp,rfl,hO⟩,h2⟩:=h;have hn':(f i::(mQ.map (·.1)++mp.map (·.1))).Nodup:=hn;rw[gS]at hn';obtain⟨⟨E',g1,g2,g3,g4,g5,g6⟩,g7⟩:=yx (E:=E) h2 he hn'.2;have n1:∀y∈mQ,y.1≠f i:=λy hy e=>hn'.1 (e▸aN _ (aq.2 ⟨y,hy,rfl⟩));refine⟨⟨⟨E'.ρ,iZ E'.σ (f i) ad,iZ E'.κ (f i) cp,E'.μ,iZ E'.c (f i) (r i),E'.m⟩,g1,λk hk=>?_,g3,λy hy=>?_,λy hy=>?_,λE2 s2 h1 h2=>⟨?_,g6 E2 s2 (λy hy=>?_) h2⟩⟩,g7⟩
       .have hne:k≠f i:=λe=>hk (e▸aI);obtain⟨p1,p2,p3⟩:=g2 k λhm=>hk (aw _ hm);exact⟨(cq hne).trans p1,(cq hne).trans p2,(cq hne).trans p3⟩
       .rcases aE.1 hy with e|e
        .subst e;refine⟨?_,i,aK _,rfl,eC⟩;show OS _ _ _ _ (iZ E'.c (f i) (r i) (f i)) (iZ E'.σ (f i) ad (f i)) _ (iZ E'.κ (f i) cp (f i));rw[eC,eC,eC];exact hO
        .obtain⟨p1,j,p2,p3,p4⟩:=g4 y e;have hne:=n1 y e;refine⟨?_,j,by omega,p3,(cq hne).trans p4⟩;show OS _ _ _ _ (iZ E'.c (f i) (r i) y.1) (iZ E'.σ (f i) ad y.1) _ (iZ E'.κ (f i) cp y.1);rw[cq hne,cq hne,cq hne];exact p1
       .obtain⟨p1,j,p2,p3⟩:=g5 y hy;exact⟨p1,j,by omega,p3⟩
       .obtain⟨p1,p2,p3⟩:=h1 _ aI;have p2:E2.σ (f i)=iZ E'.σ (f i) ad (f i):=p2;have p3:E2.κ (f i)=iZ E'.κ (f i) cp (f i):=p3;rw[eC]at p2 p3;exact⟨_,rfl,λow hw=>by
         have p1:aa s2.own (f i)=some _:=p1;rw[p1]at hw;cases hw;rw[p2,p3]⟩
       .obtain⟨p1,p2,p3⟩:=h1 y (aw _ hy);exact⟨p1,p2.trans (cq (n1 y hy)),p3.trans (cq (n1 y hy))⟩
      .cases e
     |_=>exact h.elim
 |.m::ks,os,i,vs,q,ow,mp,E,h,e,hn=>by
  cases os with
  |nil=>cases vs<;>exact h.elim
  |cons o os=>cases vs with
   |nil=>cases o with
    |s x=>cases x<;>exact h.elim
    |g _=>exact h.elim
    |t _=>exact h.elim
   |cons v vs =>
    have e:uk f i (.m::ks) (o::os.take ks.length)=some (q,ow,mp):=e;cases o with
    |g _=>exact h.elim
    |t _=>exact h.elim
    |s x =>
     cases x with
     |md c x =>
      unfold uk at e;split at e
      .rename_i q' mQ mp' he;cases e;obtain⟨⟨ad,rfl,hO⟩,h2⟩:=h;have hn':(ow.map (·.1)++f i::mp'.map (·.1)).Nodup:=hn;have hn':=List.perm_middle.nodup_iff.1 hn';rw[gS]at hn';obtain⟨⟨E',g1,g2,g3,g4,g5,g6⟩,g7⟩:=yx (E:=E) h2 he hn'.2;have n1:∀y∈mp',y.1≠f i:=λy hy e=>hn'.1 (e▸aG _ (aq.2 ⟨y,hy,rfl⟩));refine⟨⟨⟨E'.ρ,E'.σ,E'.κ,iZ E'.μ (f i) ad,E'.c,iZ E'.m (f i) (r i)⟩,g1,g2,λk hk=>?_,λy hy=>?_,λy hy=>?_,λE2 s2 h1 h2=>⟨?_,g6 E2 s2 h1 λy hy=>?_⟩⟩,g7⟩
       .have hne:k≠f i:=λe=>hk (e▸aI);obtain⟨p1,p2⟩:=g3 k λhm=>hk (aw _ hm);exact⟨(cq hne).trans p1,(cq hne).trans p2⟩
       .obtain⟨p1,j,p2,p3⟩:=g4 y hy;exact⟨p1,j,by omega,p3⟩
       .rcases aE.1 hy with e|e
        .subst e;refine⟨?_,i,aK _,rfl,eC⟩;show OM _ _ _ _ _ (iZ E'.m (f i) (r i) (f i)) (iZ E'.μ (f i) ad (f i)) _;rw[eC,eC];exact hO
        .obtain⟨p1,j,p2,p3,p4⟩:=g5 y e;have hne:=n1 y e;refine⟨?_,j,by omega,p3,(cq hne).trans p4⟩;show OM _ _ _ _ _ (iZ E'.m (f i) (r i) y.1) (iZ E'.μ (f i) ad y.1) _;rw[cq hne,cq hne];exact p1
       .obtain⟨p1,p2⟩:=h2 _ aI;have p2:E2.μ (f i)=iZ E'.μ (f i) ad (f i):=p2;rw[eC]at p2;exact⟨_,rfl,λmp hw=>by rw[p2]⟩
       .obtain⟨p1,p2⟩:=h2 y (aw _ hy);exact⟨p1,p2.trans (cq (n1 y hy))⟩
      .cases e
     |_=>exact h.elim
theorem S7:∀{q:List RV} {vs:List Value},FL (Oa w χ E s) q (vs.map V)->fO w χ E s (oneOf q) (V (Sv.one vs))
 |[],[],_=>⟨[],rfl,trivial⟩
 |[],_::_,h=>h.elim
 |_::_,[],h=>h.elim
 |[x],[v],h=>by
  have:=h.1;cases x with
  |s x=>exact this
  |g l=>exact this
  |t l=>exact this.elim
 |[_],_::_::_,h=>h.2.elim
 |_::_::_,[_],h=>h.2.elim
 |x::y::q,v::u::vs,h=>⟨v::u::vs,rfl,by
  have key:∀{q:List RV} {vs:List Value},FL (Oa w χ E s) q (vs.map V)->FL (Kj w χ E s) q vs:=by
   intro q
   induction q with
   |nil=>intro vs h;cases vs with|nil=>trivial|cons _ _=>exact h.elim
   |cons z q ih=>intro vs h;cases vs with|nil=>exact h.elim|cons v vs=>exact⟨Kj.of h.1,ih h.2⟩
  exact key h⟩
end
end
noncomputable section
def YV(P:Program)(T:Tb):Prop:=∀i S,T.sp i=some S->eX P S.fd=true/\mW P S.fd S
def smA:List RV->Prop->Prop
 |[],p=>p
 |o::os,p=>smL (aW o) (smA os p)
section
variable{P:Program}{T:Tb}{w w' w0:World}{χ χ1 χ2 χ':Nat->Nat}{E E':En}{s s':TS}{X:Cx}{sy:Sy}{a:Act}{H:Hd}{ids W:List Nat}
theorem Za:∀{cs:List TC} {x:D1 cs} {p:Prop},smR cs x p->smA (rY cs x) p
 |[],_,_,h=>h
 |[c],x,p,h=>by show smL (aW (vd c (kd c x))) p;rw[xP];exact h
 |c::c'::cs,x,p,h=>by
  show smL (aW (vd c (kd c x.1))) (smA (rY (c'::cs) x.2) p);rw[xP];have h:smL (kd c x.1) (smR (c'::cs) x.2 p):=h;have mono:∀{l:List TV} {p q:Prop},(p->q)->smL l p->smL l q:=by
   intro l
   induction l with
   |nil=>intro p q hpq h;exact hpq h
   |cons z l ih=>intro p q hpq h;cases z<;>first|exact ih hpq h|exact λhs=>ih hpq (h hs)
  exact mono Za h
theorem VC{bt:List Nat}:∀{ms:List Nat} {os:List RV},V9 w χ H bt ms os->∀p,smA os p->p
 |[],[],_,_,hp=>hp
 |[],_::_,h,_,_=>h.elim
 |_::_,[],h,_,_=>h.elim
 |_::_,_::_,⟨⟨_,_,_,h2⟩,h3⟩,p,hp=>VC h3 p (F6 h2 _ hp)
theorem Hn{r:Nat->Nat}{k:List RV->Prop}(hk:∀os,k os->∀p,smA os p->p):∀{ks:List RK} {os:List RV} {i:Nat} {vs:List Value},Oc w χ r k ks os i vs->∀p,smA os p->p
 |[],os,_,[],h,p,hp=>hk os h p hp
 |[],os,_,_::_,h,_,_=>h.elim
 |.d::ks,[],_,vs,h,_,_=>by cases vs<;>exact h.elim
 |.d::ks,_::_,_,[],h,_,_=>h.elim
 |.d::ks,o::os,i,v::vs,h,p,hp=>Hn hk h.2 p (by
  cases o with
  |s x=>exact ia (w:=w) (χ:=χ) (l:=[x]) (vs:=[v]) ⟨h.1,trivial⟩ _ hp
  |g l=>obtain⟨us,_,h1⟩:=h.1;exact ia h1 _ hp
  |t _=>exact h.1.elim)
 |.o e::ks,[],_,vs,h,_,_=>by cases vs<;>exact h.elim
 |.m::ks,[],_,vs,h,_,_=>by cases vs<;>exact h.elim
 |.o e::ks,o::os,i,vs,h,p,hp=>by
  cases o with
  |g _=>exact h.elim
  |t _=>exact h.elim
  |s x =>
   cases x with
   |sl c l =>
    cases vs with
    |nil=>exact h.elim
    |cons v vs=>obtain⟨⟨ad,cp,_,h1⟩,h2⟩:=h;exact Hn hk h2 p (hp (h1.sm (fq (xf c))))
   |_=>exact h.elim
 |.m::ks,o::os,i,vs,h,p,hp=>by
  cases o with
  |g _=>exact h.elim
  |t _=>exact h.elim
  |s x =>
   cases x with
   |md c l =>
    cases vs with
    |nil=>exact h.elim
    |cons v vs=>exact Hn hk h.2 p hp
   |_=>exact h.elim
theorem zi{r:Nat->Nat}{k:List RV->Prop}:∀{ks:List RK} {os:List RV} {i:Nat} {vs:List Value},Oc w χ r k ks os i vs->k (os.drop ks.length)
 |[],os,_,[],h=>h
 |[],os,_,_::_,h=>h.elim
 |.d::ks,[],_,vs,h=>by cases vs<;>exact h.elim
 |.d::ks,_::_,_,[],h=>h.elim
 |.d::ks,o::os,i,v::vs,h=>zi (ks:=ks) h.2
 |.o e::ks,[],_,vs,h=>by cases vs<;>exact h.elim
 |.m::ks,[],_,vs,h=>by cases vs<;>exact h.elim
 |.o e::ks,o::os,i,vs,h=>by
  cases o with
  |g _=>exact h.elim
  |t _=>exact h.elim
  |s x =>
   cases x with
   |sl c l=>cases vs with
    |nil=>exact h.elim
    |cons v vs=>exact zi (ks:=ks) h.2
   |_=>exact h.elim
 |.m::ks,o::os,i,vs,h=>by
  cases o with
  |g _=>exact h.elim
  |t _=>exact h.elim
  |s x =>
   cases x with
   |md c l=>cases vs with
    |nil=>exact h.elim
    |cons v vs=>exact zi (ks:=ks) h.2
   |_=>exact h.elim
theorem aa6(h:bX X s E sy a w χ){r:Nat->Nat}{kK:List RV->Prop}{S:Spec}{os:List RV}{vs:List Value}{o:Option Nat}{k:TS->Prop}(hP:Oc w χ r kK S.rk os 0 vs)(ht:putR s o S (os.take S.rk.length) k)(hd:∀d,o=some d->d<X.n)(r1:∀i,1001<=r i)(aaJ:∀i j,r i=r j->i=j)
  (r2:∀k x i,aa s.own k=some x->E.c k≠r i) (r3:∀k x i,aa s.aZ k=some x->E.m k≠r i) :
  ∃s' E' sy',k s'/\bX X s' E' sy' (a.put o (Sv.one vs)) w χ/\E'.ρ=E.ρ/\Fr (dl o) s s'/\∀j,2*j+1∉s'.ca->E'.σ j=E.σ j/\E'.κ j=E.κ j/\E'.c j=E.c j/\E'.μ j=E.μ j/\E'.m j=E.m j:=by
 cases o with
 |none=>exact⟨s,E,sy,(dU ht).2,h,rfl,.same (λ_ _=>rfl) rfl rfl rfl rfl,λ_ _=>⟨rfl,rfl,rfl,rfl,rfl⟩⟩
 |some d =>
  have ht:(match uk (aeH d S.rk.length) 0 S.rk (os.take S.rk.length)with
   |some (q,ow,mp)=>bif (ow.map (·.1)++mp.map (·.1)).all (λn=>noReg (fa n) d s&&tB (fa n) s&&(aa s.aZ n).isNone&&(aa s.own n).isNone)&&nodup (ow.map (·.1)++mp.map (·.1))then k ⟨(d,oneOf q)::s.al,s.boxes,ow++s.own,mp++s.aZ,ow.map (λx=>2*x.1+1)++(mp.map (λx=>2*x.1+1)++s.ca)⟩else Er 62
   |none=>Er 63):=ht
  split at ht
  .rename_i q ow mp hq;obtain⟨hb,ht⟩:=dU ht;rw[ak]at hb;have hn:=mB hb.2;obtain⟨⟨E1,g1,g2,g3,g4,g5,g6⟩,_⟩:=yx (E:=E) hP hq hn;have hfr:∀n∈ow.map (·.1)++mp.map (·.1),noReg (fa n) d s=true/\tB (fa n) s=true/\aa s.aZ n=none/\aa s.own n=none:=λn hm=>by have:=aO.1 hb.1 n hm;simp only[ak]at this;exact⟨this.1.1.1,this.1.1.2,sM.1 this.1.2,sM.1 this.2⟩
   rw[List.nodup_append]at hn;have akO:∀y∈ow,aa (ow++s.own) y.1=some y.2:=λy hy=>by
    rw[iz];obtain⟨x,hx⟩:=ko (l:=ow) (aq.2 ⟨y,hy,rfl⟩);rw[hx];have:=ct hx;have key:∀{l:List (Nat×Wa)} {k:Nat} {u v:Wa},(l.map (·.1)).Nodup->(k,u)∈l->(k,v)∈l->u=v:=by
     intro l
     induction l with
     |nil=>intro k u v _ h;cases h
     |cons z l ih =>
      intro k u v hn h1 h2;rw[ba,gS]at hn;rcases aE.1 h1 with e1|e1<;>rcases aE.1 h2 with e2|e2
      .rw[←e2]at e1;cases e1;rfl
      .subst e1;exact absurd (aq.2 ⟨_,e2,rfl⟩) hn.1
      .subst e2;exact absurd (aq.2 ⟨_,e1,rfl⟩) hn.1
      .exact ih hn.2 e1 e2
    exact b8 some (key hn.1 this hy)
   have lmap:∀y∈mp,aa (mp++s.aZ) y.1=some y.2:=λy hy=>by
    rw[iz];obtain⟨x,hx⟩:=ko (l:=mp) (aq.2 ⟨y,hy,rfl⟩);rw[hx];have:=ct hx;have key:∀{l:List (Nat×J9)} {k:Nat} {u v:J9},(l.map (·.1)).Nodup->(k,u)∈l->(k,v)∈l->u=v:=by
     intro l
     induction l with
     |nil=>intro k u v _ h;cases h
     |cons z l ih =>
      intro k u v hn h1 h2;rw[ba,gS]at hn;rcases aE.1 h1 with e1|e1<;>rcases aE.1 h2 with e2|e2
      .rw[←e2]at e1;cases e1;rfl
      .subst e1;exact absurd (aq.2 ⟨_,e2,rfl⟩) hn.1
      .subst e2;exact absurd (aq.2 ⟨_,e1,rfl⟩) hn.1
      .exact ih hn.2 e1 e2
    exact b8 some (key hn.2.1 this hy)
   have zK:∀k x,aa (ow++s.own) k=some x->(k,x)∈ow∨(k∉ow.map (·.1)/\aa s.own k=some x):=λk x e=>by
    rw[iz]at e;cases hk:aa ow k with
    |some y=>rw[hk]at e;cases e;exact .inl (ct hk)
    |none=>rw[hk]at e;refine .inr ⟨λhm=>?_,e⟩;obtain⟨y,hy⟩:=ko hm;rw[hk]at hy;cases hy
   have zQ:∀k x,aa (mp++s.aZ) k=some x->(k,x)∈mp∨(k∉mp.map (·.1)/\aa s.aZ k=some x):=λk x e=>by
    rw[iz]at e;cases hk:aa mp k with
    |some y=>rw[hk]at e;cases e;exact .inl (ct hk)
    |none=>rw[hk]at e;refine .inr ⟨λhm=>?_,e⟩;obtain⟨y,hy⟩:=ko hm;rw[hk]at hy;cases hy
   have nmk:∀y,(∀n∈ow.map (·.1)++mp.map (·.1),names1 (fa n) y=false)->Nm E E1 s ⟨(d,oneOf q)::s.al,s.boxes,ow++s.own,mp++s.aZ,ow.map (λx=>2*x.1+1)++(mp.map (λx=>2*x.1+1)++s.ca)⟩ y:=λy hy k hk=>by
    have hkn:k∉ow.map (·.1)++mp.map (·.1):=λhm=>Ij (f:=fa k) (hy k hm) hk rfl;have h1:k∉ow.map (·.1):=λhm=>hkn (aN _ hm);have h2:k∉mp.map (·.1):=λhm=>hkn (aG _ hm);refine⟨λmQ e=>?_,λmp' e=>?_⟩
    .rcases zK k mQ e with e1|⟨_,e1⟩
     .exact absurd (aq.2 ⟨_,e1,rfl⟩) h1
     .exact⟨mQ,e1,rfl,rfl,(g2 k h1).1,(g2 k h1).2.1⟩
    .rcases zQ k mp' e with e1|⟨_,e1⟩
     .exact absurd (aq.2 ⟨_,e1,rfl⟩) h2
     .exact⟨mp',e1,(g3 k h2).1⟩
   have im:St X.n ⟨(d,V (Sv.one vs))::sy.al,sy.boxes⟩ E1.ρ (a.put (some d) (Sv.one vs)) w χ:=by rw[g1];exact h.st.put (sv:=V (Sv.one vs)) (hd d rfl)
   refine⟨_,E1,⟨(d,V (Sv.one vs))::sy.al,sy.boxes⟩,ht,h.step (Ev.refl (p:=eN) w χ) rfl rfl im (λt x e=>?_) (λi t cs e=>.inr ⟨e,λss e=>e,λy hy=>nmk y λn hm=>kM (yG (hfr n hm).2.1 e) hy⟩) (λk x e=>?_) (λk x e=>?_) ⟨λk x e=>?_,λk x e=>?_,λk x j y e e'=>?_,λk x j y e e'=>?_,λk x j y e e'=>?_⟩ (by rw[g1];exact h.qu) (λ_ _ _ _ _ _=>by rw[g1]),g1,⟨λt ht=>bd λe=>ht (e▸aY.2 rfl),λid t cs e=>⟨cs,e,rfl,λ_ _ _=>rfl⟩,λk hn=>?_,λk hn=>?_,λx hx=>aG _ (aG _ hx)⟩,λj hj=>?_⟩
   .rcases aA e with⟨e1,e2⟩|⟨e1,e2⟩
    .subst e1 e2;exact .inl ⟨_,look_eq,S7 (g6 E1 _ (λy hy=>⟨akO y hy,rfl,rfl⟩) λy hy=>⟨lmap y hy,rfl⟩)⟩
    .exact .inr ⟨e2,λsv e=>(bd e1).trans e,λy hy=>nmk y λn hm=>ni (vb (hfr n hm).1 e2 (bC e1)) hy⟩
   .rcases zK k x e with e1|⟨e1,e2⟩
    .exact .inl (g4 _ e1).1
    .exact .inr ⟨e2,(g2 k e1).2.2,(g2 k e1).1,(g2 k e1).2.1,rfl⟩
   .rcases zQ k x e with e1|⟨e1,e2⟩
    .exact .inl (g5 _ e1).1
    .exact .inr ⟨e2,(g3 k e1).2,(g3 k e1).1,rfl⟩
   .rcases zK k x e with e1|⟨e1,e2⟩
    .obtain⟨_,j,_,_,hj⟩:=g4 _ e1;have hj:E1.c k=r j:=hj;rw[hj];exact r1 j
    .rw[(g2 k e1).2.2];exact h.aQ.o k x e2
   .rcases zQ k x e with e1|⟨e1,e2⟩
    .obtain⟨_,j,_,_,hj⟩:=g5 _ e1;have hj:E1.m k=r j:=hj;rw[hj];exact r1 j
    .rw[(g3 k e1).2];exact h.aQ.m k x e2
   .rcases zK k x e with e1|⟨e1,e2⟩<;>rcases zK j y e' with Fm|⟨Fm,Z7⟩
    .obtain⟨_,i,_,n1,hi⟩:=g4 _ e1;obtain⟨_,i',_,n1',lg⟩:=g4 _ Fm;have hi:E1.c k=r i:=hi;have lg:E1.c j=r i':=lg;intro he;rw[hi,lg]at he;have:=aaJ _ _ he;subst this;exact n1.trans n1'.symm
    .obtain⟨_,i,_,_,hi⟩:=g4 _ e1;have hi:E1.c k=r i:=hi;rw[hi,(g2 j Fm).2.2];intro he;exact absurd he.symm (r2 j y i Z7)
    .obtain⟨_,i,_,_,hi⟩:=g4 _ Fm;have hi:E1.c j=r i:=hi;rw[hi,(g2 k e1).2.2];intro he;exact absurd he (r2 k x i e2)
    .rw[(g2 k e1).2.2,(g2 j Fm).2.2];exact h.aQ.oo k x j y e2 Z7
   .rcases zK k x e with e1|⟨e1,e2⟩<;>rcases zQ j y e' with Fm|⟨Fm,Z7⟩
    .obtain⟨_,i,_,n1,hi⟩:=g4 _ e1;obtain⟨_,i',_,n1',lg⟩:=g5 _ Fm;have hi:E1.c k=r i:=hi;have lg:E1.m j=r i':=lg;rw[hi,lg];intro he;have:=aaJ _ _ he;subst this;have hkj:k=j:=n1.trans n1'.symm;subst hkj;exact hn.2.2 k (aq.2 ⟨_,e1,rfl⟩) k (aq.2 ⟨_,Fm,rfl⟩) rfl
    .obtain⟨_,i,_,_,hi⟩:=g4 _ e1;have hi:E1.c k=r i:=hi;rw[hi,(g3 j Fm).2];exact λhe=>r3 j y i Z7 he.symm
    .obtain⟨_,i,_,_,hi⟩:=g5 _ Fm;have hi:E1.m j=r i:=hi;rw[hi,(g2 k e1).2.2];exact λhe=>r2 k x i e2 he
    .rw[(g2 k e1).2.2,(g3 j Fm).2];exact h.aQ.om k x j y e2 Z7
   .rcases zQ k x e with e1|⟨e1,e2⟩<;>rcases zQ j y e' with Fm|⟨Fm,Z7⟩
    .obtain⟨_,i,_,n1,hi⟩:=g5 _ e1;obtain⟨_,i',_,n1',lg⟩:=g5 _ Fm;have hi:E1.m k=r i:=hi;have lg:E1.m j=r i':=lg;intro he;rw[hi,lg]at he;have:=aaJ _ _ he;subst this;exact n1.trans n1'.symm
    .obtain⟨_,i,_,_,hi⟩:=g5 _ e1;have hi:E1.m k=r i:=hi;rw[hi,(g3 j Fm).2];intro he;exact absurd he.symm (r3 j y i Z7)
    .obtain⟨_,i,_,_,hi⟩:=g5 _ Fm;have hi:E1.m j=r i:=hi;rw[hi,(g3 k e1).2];intro he;exact absurd he (r3 k x i e2)
    .rw[(g3 k e1).2,(g3 j Fm).2];exact h.aQ.mm k x j y e2 Z7
   .have h1:k∉ow.map (·.1):=λhm=>hn (by
     obtain⟨y,hy,rfl⟩:=aq.1 hm;exact aN _ (aq.2 ⟨y,hy,rfl⟩))
    show aa (ow++s.own) k=aa s.own k;rw[iz];cases hk:aa ow k with
    |some y=>exact absurd (aq.2 ⟨_,ct hk,rfl⟩) h1
    |none=>rfl
   .have h1:k∉mp.map (·.1):=λhm=>hn (by
     obtain⟨y,hy,rfl⟩:=aq.1 hm;exact aG _ (aN _ (aq.2 ⟨y,hy,rfl⟩)))
    show aa (mp++s.aZ) k=aa s.aZ k;rw[iz];cases hk:aa mp k with
    |some y=>exact absurd (aq.2 ⟨_,ct hk,rfl⟩) h1
    |none=>rfl
   .have h1:j∉ow.map (·.1):=λhm=>hj (by
     obtain⟨y,hy,rfl⟩:=aq.1 hm;exact aN _ (aq.2 ⟨y,hy,rfl⟩))
    have h2:j∉mp.map (·.1):=λhm=>hj (by
     obtain⟨y,hy,rfl⟩:=aq.1 hm;exact aG _ (aN _ (aq.2 ⟨y,hy,rfl⟩)))
    exact⟨(g2 j h1).1,(g2 j h1).2.1,(g2 j h1).2.2,(g3 j h2).1,(g3 j h2).2⟩
  .cases ht
end
end
section
section
variable{P:Program}{T:Tb}{w w' w0:World}{χ χ1 χ2 χ':Nat->Nat}{E E':En}{s s':TS}{X:Cx}{sy:Sy}{a:Act}{H:Hd}{ids W:List Nat}
variable{all:List Oper}{Q:Exit->Act->World->Prop}{K:Act->World->Prop}{k:TS->Prop}{vs:List RV}{oH:List SV}{q b:List It}
theorem N4:∀{is:List Nat} {b:List It} {n j id i k:Nat} {cs:List TV},mU s is=some b->is[j]?=some id->bx s id=some cs->cs[i]?=some (.m k)->(k,64*(n+j)+i)∈Hj n b
 |[],_,_,_,_,_,_,_,_,e,_,_=>by simp at e
 |id0::is,b,n,0,id,i,k,cs,hc,e,h1,h2=>by
  obtain⟨cl,b',g1,g2,rfl⟩:=nH hc;obtain rfl:id0=id:=by simpa using e
  rw[g1]at h1;cases h1;have:=qb (o:=λj=>64*n+j) (i:=0) h2;rw[bh]at this;exact aN _ this
 |id0::is,b,n,j+1,id,i,k,cs,hc,e,h1,h2=>by obtain⟨cl,b',g1,g2,rfl⟩:=nH hc;have:=N4 (n:=n+1) g2 (by simpa using e) h1 h2;rw[show n+1+j=n+(j+1)from by omega]at this;exact aG _ this
theorem O9{j i k:Nat}(hj:j<90)(hi:i<64)(h:um s ids vs (64*j+i)=some k):∃id cs,ids[j]?=some id/\bx s id=some cs/\cs[i]?=some (.m k):=by
 unfold um at h;grind[Nat.blt,Nat.ble_eq_true_of_le,only]
theorem Qd(E:En)(s:TS):∃c,1001<=c/\(∀k x,aa s.own k=some x->E.c k<c)/\∀k x,aa s.aZ k=some x->E.m k<c:=by
 have mx:∀{α:Type} (f:Nat->Nat) (l:List (Nat×α)),∃n,∀k x,aa l k=some x->f k<=n:=by
  intro α f l
  induction l with
  |nil=>exact⟨0,λk x e=>by cases e⟩
  |cons q l ih=>obtain⟨n,hn⟩:=ih;refine⟨n+f q.1,λk x e=>?_⟩;grind[aA]
 obtain⟨n,hn⟩:=mx E.c s.own;obtain⟨m,hm⟩:=mx E.m s.aZ;exact⟨1001+n+m,by omega,λk x e=>by have:=hn k x e;omega,λk x e=>by have:=hm k x e;omega⟩
theorem Jj(S:Spec)(ks:List Nat)(s:TS):(qh S ks s).al=s.al/\(qh S ks s).boxes=s.boxes/\(qh S ks s).aZ=s.aZ/\Fr [] s (qh S ks s)/\(∀k x,aa (qh S ks s).own k=some x->aa s.own k=some x):=by
 unfold qh;cases S.rs.all TY with
 |true=>exact⟨rfl,rfl,rfl,⟨λ_ _=>rfl,λid t cs e=>⟨cs,e,rfl,λ_ _ _=>rfl⟩,λ_ _=>rfl,λ_ _=>rfl,λ_ h=>h⟩,λ_ _ e=>e⟩
 |false=>exact⟨rfl,rfl,rfl,Fr.hU s ks,λk x e=>(bg (f:=λi=>!ks.any (Nat.beq i)) e).2⟩
theorem yF{f:Nat->Nat}:∀{l:List Nat},(∀x∈l,∀y∈l,f x=f y->x=y)->l.Nodup->(l.map f).Nodup
 |[],_,_=>List.nodup_nil
 |x::l,h,hn=>by rw[gS]at hn;rw[ba,gS];refine⟨λhm=>?_,yF (λy hy z hz=>h y (aw _ hy) z (aw _ hz)) hn.2⟩;grind
theorem Ej:∀{ids bt:List Nat} {j id t:Nat} {cl:List TV},ta s ids bt=true->ids[j]?=some id->aa s.boxes id=some (t,cl)->bt.getD j 0=t
 |[],_,_,_,_,_,_,e,_=>by simp at e
 |_::_,[],_,_,_,_,h,_,_=>by cases h
 |i::ids,t'::bt,j,id,t,cl,h,e,hl=>by
  unfold ta at h;rw[ak]at h;cases j with
  |zero=>simp_all
  |succ j=>exact(Ej (ids:=ids) (bt:=bt) (j:=j) h.2 (by simpa using e) hl:bt.getD j 0=t)
theorem Vc(SP:YV P T)(h:bX X s E sy a w χ){o:Option Nat}{op:Op}{ty:Nat}{pos:String}{af:Array Edge}{g:Option (Nat×Bool)}(hw:bK all sy g=true)(hd:∀d,o=some d->d<X.n){f i:Nat}(hv:FL (fO w χ E s) vs oH)
  (nz:eX P f=true->(execOp a.eval ⟨o,op,ty,pos,af,g⟩).run P w=.ok (.enter f (oH.map (aP E.ρ)).toArray) w) (ht:callT s o f vs k (T.sp i)) (kk:Nx X o s E a w χ k K):pJ P all.toArray Q ⟨o,op,ty,pos,af,g⟩ K a w:=by
 unfold callT at ht;split at ht
 .rename_i S hS;split at ht
  .rename_i q ids hc;split at ht
   .rename_i b hb;obtain⟨GY,hc⟩:=dw hc;obtain⟨agO,hM⟩:=SP i S hS;have GY:=aD GY;rw[GY]at agO hM;unfold callS at ht;split at ht
    .rename_i hh hl;obtain⟨agH,ht⟩:=dU ht;simp only[ak]at agH;obtain⟨⟨⟨⟨⟨n1,n2⟩,n3⟩,n6⟩,n4⟩,n5⟩:=agH;have n3:=aB n3;have Hs:(∀p,S.pre=some p->p hh)/\∀r:D1 S.rs,S.po hh r->smR S.rs r (match modAll ids S.ms ((rY S.rs r).drop S.rk.length) (qh S ((q++b).flatMap (λx=>ownsV x.2)) s)with
      |some s'=>putR s' o S ((rY S.rs r).take S.rk.length) k
      |none=>Er 65):=by
      unfold andP at ht;split at ht
      .rename_i p hp;refine⟨λp' e=>?_,ht.2⟩;rw[e]at hp;cases hp;exact ht.1
      .rename_i hp;refine⟨λp' e=>?_,ht⟩;rw[e]at hp;cases hp
     obtain⟨uz,alL⟩:=Hs;obtain⟨c0,b1,b2,b3⟩:=Qd E s;obtain⟨χa,h1,m1,keep,hR⟩:=Qi h hM hv hc hb hl n1 n2 n3 n4 n5 uz b1;obtain⟨er,eb,em,F0,eo⟩:=Jj S ((q++b).flatMap (λx=>ownsV x.2)) s;generalize hsa:qh S ((q++b).flatMap (λx=>ownsV x.2)) s=sa at h1 keep er eb em F0 eo;have ebx:∀id,bx sa id=bx s id:=λid=>by unfold bx;rw[eb]
     refine sY h.st hw (nz agO) hR λv w' χb ev ⟨r,us,hpo,XI,hPR⟩=>?_;have A9:=mJ hl;have h64:=zp n2;have wN:∀id∈ids,1<=id/\id<=999:=λid hid=>by obtain⟨t,cl,k1,_⟩:=oC hb id hid;obtain⟨ss,k2,_⟩:=h.boxes _ _ _ k1;have:=(h.st.boxes _ _ k2).2.1;simp[jo]at this;omega
     have aca:∀j∈S.ms,∃id,ids[j]?=some id/\ids.getD j 0=id:=λj hj=>by have xH:=aB (mL n4 j hj);have e:ids[j]?=some ids[j]:=fD xH;exact⟨_,e,getD_some e⟩
     have QL:∀c∈wrP (Bg s E ids vs c0) S.ms S.ps S.ar hh,(c∈S.ms.map (λi=>ids.getD i 0)/\1<=c/\c<=999)∨∃k x,k∈VW sa (S.ms.map (λi=>ids.getD i 0))/\aa sa.aZ k=some x/\c=E.m k:=λc hcw=>by
      obtain⟨j,id,g1,g2,g3⟩:=Y1 hc hb hl n3 h64 hcw;rcases g3 with rfl|⟨t,cl,k',e1,e2,e3,e4⟩
      .exact .inl ⟨aq.2 ⟨j,g2,getD_some g1⟩,wN _ (eR g1)⟩
      .obtain⟨x,hx⟩:=bR.1 e3;exact .inr ⟨k',x,CN.2 ⟨id,aq.2 ⟨j,g2,getD_some g1⟩,cl,by rw[ebx];unfold bx;rw[e1],e2⟩,by rw[em];exact hx,e4⟩
     have h2:=Vt h1 ev QL;have hPL:((Hj 0 b).map (·.1)).Nodup:=by rw[L4];have:=mB n5;rw[lA,List.nodup_append]at this;exact this.2.1
     have PH:∀j i,j<90->i<64->(∃k x,um s ids vs (64*j+i)=some k/\(k,64*j+i)∈Hj 0 b/\aa s.aZ k=some x/\(Bg s E ids vs c0).o (64*j+i)=E.m k/\∃id cl,ids[j]?=some id/\bx s id=some cl/\k∈mapsV cl)∨(Bg s E ids vs c0).o (64*j+i)=c0+2*(64*j+i):=λj i hj hi=>by
      cases hn:um s ids vs (64*j+i)with
      |none=>right;show(match um s ids vs (64*j+i)with|some k=>E.m k|none=>c0+2*(64*j+i))=_;rw[hn]
      |some k' =>
       left;obtain⟨id,cs,g1,g2,g3⟩:=O9 hj hi hn;have V0:k'∈mapsV cs:=by rw[←qO (o:=λi=>i) (i:=0)];exact aq.2 ⟨_,qb g3,rfl⟩
       obtain⟨t,cl,g4,g5⟩:=oC hb id (eR g1);have:cl=cs:=by unfold bx at g2;rw[g4]at g2;cases g2;rfl
       subst this;obtain⟨x,hx⟩:=bR.1 (tD (A9 _ (aG _ g5)) k' V0);have rr:=N4 (n:=0) hb g1 g2 g3;rw[bh]at rr;exact⟨k',x,rfl,rr,hx,(FJ hn).1,id,cl,g1,g2,V0⟩
     have inj:∀j i j' i',j<90->j'<90->i<64->i'<64->(Bg s E ids vs c0).o (64*j+i)=(Bg s E ids vs c0).o (64*j'+i')->j=j'/\i=i':=λj i j' i' hj xH hi lg he=>by
      have hp:64*j+i=64*j'+i':=by
       rcases PH j i hj hi with⟨k1,x1,_,p1,l1,e1,_⟩|e1<;>rcases PH j' i' xH lg with⟨k2,x2,_,p2,l2,e2,_⟩|e2
       .rw[e1,e2]at he;have:=h.aQ.mm k1 x1 k2 x2 l1 l2 he;subst this;exact wm hPL p1 p2
       .rw[e1,e2]at he;have:=b3 k1 x1 l1;omega
       .rw[e1,e2]at he;have:=b3 k2 x2 l2;omega
       .rw[e1,e2]at he;omega
      omega
     have ge:∀j i,j<90->i<64->1001<=(Bg s E ids vs c0).o (64*j+i):=λj i hj hi=>by
      rcases PH j i hj hi with⟨k1,x1,_,_,l1,e1,_⟩|e1
      .rw[e1];exact h.aQ.m k1 x1 l1
      .rw[e1];omega
     have XU:∀j∈S.ms,j<90:=λj hj=>dH (aB (mL n4 j hj)) n3;have hr:=alL r hpo;have hr:=Hn (λos=>VC) hPR _ (Za hr);split at hr
     .rename_i s1 hs1;rw[hsa]at hs1;have hW:(S.ms.map (λi=>ids.getD i 0)).Nodup:=yF (λj hj j' xH he=>by
       obtain⟨id,g1,g2⟩:=aca j hj;obtain⟨kO,X8,g2'⟩:=aca j' xH;have he:ids.getD j 0=ids.getD j' 0:=he;rw[g2,g2']at he;subst he;exact(List.getElem?_inj (dz.1 g1).1 (mB n1)).1 (g1.trans X8.symm)) (mB n6)
      obtain⟨E1,DS,t1,u2,u3,u4,u5,u_m,F1,u6,u7,u8,u9⟩:=EW (bt:=S.bt) inj ge h2 hs1 (zi hPR) (λj hj=>by
       obtain⟨id,g1,g2⟩:=aca j hj;obtain⟨t,cl,k1,_⟩:=oC hb id (eR g1);obtain⟨ss,k2,_⟩:=h.boxes _ _ _ k1;refine⟨XU j hj,rfl,rfl,⟨t,cl,by rw[g2,eb];exact k1,Ej n2 g1 k1⟩,by rw[g2];exact(h.st.boxes _ _ k2).2.1⟩) hW (λj hj i k' x hi e=>by
       rcases PH j i (XU j hj) hi with⟨k1,x1,_,_,l1,e1,_⟩|e1
       .rw[e1];exact h.aQ.om k' x k1 x1 (eo k' x e) l1
       .rw[e1];have:=b2 k' x (eo k' x e);omega) (λj hj i k' x hi e=>by
       obtain⟨e2,e3⟩:=ly.1 e;rw[em]at e3;rcases PH j i (XU j hj) hi with⟨k1,x1,_,_,l1,e1,id,cl,g1,g2,g3⟩|e1
       .rw[e1];intro he;have:=h.aQ.mm k' x k1 x1 e3 l1 he;subst this;exact e2 (CN.2 ⟨id,aq.2 ⟨j,hj,getD_some g1⟩,cl,by rw[ebx];exact g2,g3⟩)
       .rw[e1];have:=b3 k' x e3;omega)
      obtain⟨s',E2,Hq,hk,t2,v1,F2,v2⟩:=aa6 t1 hPR hr hd (λi=>by show 1001<=c0+2*i+1;omega) (λi j e=>by
       have e:c0+2*i+1=c0+2*j+1:=e;omega) (λk' x i e=>by
       rw[u5];rw[u6]at e;have:=b2 k' x (eo k' x e);show E.c k'≠c0+2*i+1;omega) (λk' x i e=>by
       show E1.m k'≠c0+2*i+1;rcases u9 k' x e with⟨j,hj,i',lg,e1⟩|⟨e1,e2⟩
       .rcases PH j i' (XU j hj) lg with⟨k1,x1,_,_,l1,e3,_⟩|e3
        .rw[e1,e3];have:=b3 k1 x1 l1;omega
        .rw[e1,e3];omega
       .rw[e2];have:=(ly.1 e1).2;rw[em]at this;have:=b3 k' x this;omega)
      subst XI;have tcs:∀x∈sa.ca,x∈s'.ca:=λx hx=>F2.ca x (F1.ca x hx);have cid:∀id t cs,aa s.boxes id=some (t,cs)->χ (E.ρ id)=id/\1<=id/\id<=999:=λid t cs e=>by obtain⟨ss,k2,_⟩:=h.boxes _ _ _ e;obtain⟨k3,k4,_⟩:=h.st.boxes _ _ k2;simp[jo]at k4;exact⟨k3,by omega⟩
      refine kk s' E2 Hq _ w' χb hk t2 ⟨λt x hne _=>?_,M0.tr m1 (ev.m0 (bl.2 λhm=>?_)),λb' rr agK=>?_,λid x _ _=>by rw[v1,u2],λj x e hn=>?_,λj x e hn=>?_,λx hx=>tcs x (F0.ca x hx),λid x _ _=>by rw[v1,u2]⟩ (((F0.trans F1).trans F2).wk λt ht=>by simpa using ht)
      .cases o with
       |none=>rfl
       |some d=>simp only[Act.put];rw[jL (by intro e;subst e;exact hne rfl)]
      .rcases QL 0 hm with g|⟨k1,x1,_,g2,g3⟩
       .omega
       .rw[em]at g2;have:=h.aQ.m k1 x1 g2;omega
      .rcases agK with⟨id,t,cs,e,rfl,hu⟩|⟨j,x,e,Bb,hn⟩|⟨j,x,e,Bb,hn⟩
       .obtain⟨g1,g2⟩:=cid id t cs e;have Kh:=keep (E.ρ id) (λkO _ he=>by rw[g1]at he;rw[he]) (λk1 x1 e1 he=>by
         have:=h.aQ.o k1 x1 e1;omega)
        have Kg:=ev.keep _ rr (by
         rw[Kh,g1];refine bl.2 λhm=>?_;rcases QL id hm with⟨g3,_⟩|⟨k1,x1,_,g4,g5⟩
         .obtain⟨j,hj,QQ⟩:=aq.1 g3;have QQ:ids.getD j 0=id:=QQ;obtain⟨p1,p2,_⟩:=u8 j hj t cs (by rw[QQ,eb];exact e);rw[QQ]at p1;exact hu 0 (by omega) (F2.ca _ p1)
         .rw[em]at g4;have:=h.aQ.m k1 x1 g4;omega)
        exact⟨Kg.1,Kg.2.trans Kh⟩
       .have hge:=h.aQ.o j x e;have Kh:=keep b' (λkO hid he=>by have:=wN kO hid;omega) (λk1 x1 e1 he=>by
         have:=h.aQ.oo j x k1 x1 e e1 (Bb.symm.trans he);subst this;rw[e]at e1;cases e1;exact(F0.own j λhm=>hn (tcs _ hm)).trans e)
        have Kg:=ev.keep _ rr (by
         rw[Kh,Bb];refine bl.2 λhm=>?_;rcases QL _ hm with⟨_,g3⟩|⟨k1,x1,_,g4,g5⟩
         .omega
         .rw[em]at g4;exact h.aQ.om j x k1 x1 e g4 g5)
        exact⟨Kg.1,Kg.2.trans Kh⟩
       .have hge:=h.aQ.m j x e;have Kh:=keep b' (λkO hid he=>by have:=wN kO hid;omega) (λk1 x1 e1 he=>absurd (he.symm.trans Bb) (h.aQ.om k1 x1 j x e1 e));have Kg:=ev.keep _ rr (by
         rw[Kh,Bb];refine bl.2 λhm=>?_;rcases QL _ hm with⟨_,g3⟩|⟨k1,x1,g6,g4,g5⟩
         .omega
         .rw[em]at g4;have:=h.aQ.mm j x k1 x1 e g4 g5;subst this;obtain⟨id,hid,cs,e1,e2⟩:=CN.1 g6;obtain⟨j',xH,QQ⟩:=aq.1 hid;have QQ:ids.getD j' 0=id:=QQ;unfold bx at e1;split at e1
          .rename_i t dG e3;cases e1;exact hn (F2.ca _ ((u8 j' xH t cs (by rw[QQ];exact e3)).2.2 j e2))
          .cases e1)
        exact⟨Kg.1,Kg.2.trans Kh⟩
      .obtain⟨p1,p2,p3,_,_⟩:=v2 j hn;rw[p1,p2,p3,u3,u4,u5];exact⟨rfl,rfl,rfl⟩
      .obtain⟨_,_,_,p4,p5⟩:=v2 j hn;obtain⟨p6,p7⟩:=u_m j λhm=>hn (F2.ca _ hm);exact⟨p4.trans p6,p5.trans p7⟩
     .cases hr
    .cases ht
   .cases ht
  .cases ht
 .cases ht
theorem Mb:∀{fi:List (Bool×List TV)} {f:List S0} {ws:List RV},rvF fi=some ws->FL (FR w χ) fi f->FL (fO w χ E s) ws (f.map SV.s)
 |[],[],ws,e,_=>by cases e;trivial
 |[],_::_,_,_,h=>h.elim
 |(true,l)::q,[],_,_,h=>h.elim
 |(false,l)::q,[],_,_,h=>h.elim
 |(true,l)::q,y::f,ws,e,h=>by
  obtain⟨x,r,h1,h2,rfl⟩:=fI e;cases h1;refine⟨?_,Mb h2 h.2⟩;cases y with
  |v v=>obtain⟨vs,rfl,hv⟩:=h.1;exact⟨vs,rfl,ue hv⟩
  |p _ _=>exact h.1.elim
 |(false,[])::q,y::f,ws,e,h=>by cases e
 |(false,_::_::_)::q,y::f,ws,e,h=>by cases e
 |(false,[x])::q,y::f,ws,e,h=>by
  obtain⟨x',r,h1,h2,rfl⟩:=fI e;cases h1;refine⟨?_,Mb h2 h.2⟩;rcases(show PR w χ x y from h.1)with⟨id,off,rfl,rfl⟩|⟨v,rfl,hv⟩
  .rfl
  .exact kS hv
theorem Ob:∀{cp:List TV} {c:List S0},FL (PR w χ) cp c->FL (fO w χ E s) (cp.map RV.s) (c.map SV.s)
 |[],[],_=>trivial
 |[],_::_,h=>h.elim
 |_::_,[],h=>h.elim
 |x::cp,y::c,h=>by
  refine⟨?_,Ob h.2⟩;rcases h.1 with⟨id,off,rfl,rfl⟩|⟨v,rfl,hv⟩
  .rfl
  .exact kS hv
def VF(P:Program)(T:Tb):Prop:=∀i g,T.inl i=some g->g.hi<=900/\eX P g.fd=true/\∀(X:Cx),X.n<=899->(∀q∈X.qu,q.1<g.lo∨g.hi<q.1)->∀{s:TS} {E:En} {sy:Sy} {a:Act} {w:World} {χ:Nat->Nat} {vs:List RV} {oH:List SV} {o:Option Nat} {k:TS->Prop},bX X s E sy a w χ->FL (fO w χ E s) vs oH->(∀d,o=some d->d<X.n)->g.run s o vs k ->
 Bf P g.fd (oH.map (aP E.ρ)).toArray (λ_=>true) w χ λw' χ' v=>∃s' E' sy',k s'/\bX X s' E' sy' (a.put o v) w' χ'/\Hu X.nb o s s' E E' a (a.put o v) w w' χ χ'/\Fr (dl o) s s'
theorem JQ(SP:YV P T)(IN:VF P T)(hn:HX T X)(h:bX X s E sy a w χ){o:Option Nat}{op:Op}{ty:Nat}{pos:String}{af:Array Edge}{g:Option (Nat×Bool)}(hw:bK all sy g=true)(hd:∀d,o=some d->d<X.n){f i:Nat}(hv:FL (fO w χ E s) vs oH)
  (nz:eX P f=true->(execOp a.eval ⟨o,op,ty,pos,af,g⟩).run P w=.ok (.enter f (oH.map (aP E.ρ)).toArray) w) (ht:callX T s o f vs k i) (kk:Nx X o s E a w χ k K):pJ P all.toArray Q ⟨o,op,ty,pos,af,g⟩ K a w:=by
 unfold callX at ht;split at ht
 .rename_i q hq;obtain⟨hb,ht⟩:=dU ht;obtain⟨_,h1,h2⟩:=IN i q hq;have hf:=aD hb;rw[hf]at h1 h2;exact sY h.st hw (nz h1) (h2 X (by have:=hn.le;omega) (λp hp=>hn.inl p hp i q hq) h hv hd ht) λv w' χ' _ ⟨s',E',sy',h3,h4,h5,h6⟩=>kk s' E' sy' _ w' χ' h3 h4 h5 h6
 .exact Vc SP h hw hd hv nz ht kk
theorem Dz(SP:YV P T)(IN:VF P T):∀X,HX T X->nY P T X:=by
 intro X hn;intro s E sy a w χ all Q K k o ce xs qo h hw hd ho ht kk;obtain⟨dst,op,ty,pos,af,g⟩:=o;have ho:op=.call ⟨.value ce,xs,qo⟩:=ho;subst ho;have hw:bK all sy g=true:=hw;have hd:∀d,dst=some d->d<X.n:=hd;have kk:Nx X dst s E a w χ k K:=kk;unfold loudT at ht;dsimp only at ht;split at ht
 .rename_i f VJ amT heq;cases heq;split at ht
  .rename_i vs hv;obtain⟨ss,h1,h2⟩:=ry h hv;have he:=h.st.j7 h1;refine JQ SP IN hn h hw hd h2 (λhb=>?_) ht kk;have:xs.map a.eval=(ss.map (aP E.ρ)).toArray:=by rw[←he,←Array.toList_map]
   simp[execOp,resolve,Act.eval,Deferred.ofValue,invoke,this,oW hb]
  .cases ht
 .rename_i t VJ amT heq;cases heq;split at ht
  .rename_i f fi cp vs hf hv;split at ht
   .rename_i ws hws;obtain⟨ss,h1,h2⟩:=ry h hv;have he:=h.st.j7 h1;obtain⟨sv,g1,f',c',rfl,g2,g3⟩:=h.al t _ hf;have hfl:FL (fO w χ E s) (ws++vs++cp.map RV.s) (f'.map SV.s++ss++c'.map SV.s):=((Mb hws g2).app h2).app (Ob g3);refine JQ SP IN hn h hw hd hfl (λhb=>?_) ht kk;have e1:xs.map a.eval=(ss.map (aP E.ρ)).toArray:=by rw[←he,←Array.toList_map]
    have e2:a.eval (.tmp t)=.func (.func f) (f'.map (bT E.ρ)).toArray (c'.map (bT E.ρ)).toArray:=h.st.cu (x:=.tmp t) g1;have e3:∀l:List S0,(l.map SV.s).map (aP E.ρ)=l.map (bT E.ρ):=λl=>by rw[kV];rfl
    rw[gp,gp,e3,e3];simp[execOp,resolve,e2,Deferred.ofValue,invoke,e1,oW hb]
   .cases ht
  .cases ht
 all_goals first|(cases ht;done)|(rename_i heq;cases heq)
end
end
section
section
variable{P:Program}{T:Tb}{la:Nat->Option LA}{w w' w0:World}{χ χ1 χ2 χ':Nat->Nat}{E E':En}{s s':TS}{X:Cx}{sy:Sy}{a:Act}
theorem B9{R:RV->SV->Prop}:∀{vs:List RV} {oH:List SV} {i t:Nat} {x:RV},FL R vs oH->aa (HW i vs) t=some x->∃sv,aa (oV i oH) t=some sv/\R x sv
 |[],_,_,_,_,_,e=>by cases e
 |_::_,[],_,_,_,h,_=>h.elim
 |v::vs,sv::oH,i,t,x,h,e=>by
  rcases aA e with⟨h1,h2⟩|⟨h1,h2⟩
  .subst h1 h2;exact⟨sv,look_eq,h.1⟩
  .obtain⟨su,g1,g2⟩:=B9 h.2 h2;exact⟨su,(bd h1).trans g1,g2⟩
theorem Kj.to{x:RV}{sv:SV}(hf:UP x=true)(h:fO w χ E s x sv):Kj w χ E s x (aP E.ρ sv):=by
 cases x with
 |s y=>cases y with
  |p id off=>cases h;rfl
  |f _ _ _=>cases hf
  |j=>trivial
  |a c x off=>obtain⟨b,o,rfl,hv⟩:=h;exact⟨b,o,rfl,hv⟩
  |_=>obtain⟨v,rfl,hv⟩:=h;exact⟨v,rfl,hv⟩
 |g l=>obtain⟨vs,rfl,hv⟩:=h;exact⟨vs,rfl,hv⟩
 |t l=>cases hf
theorem Gy{l:List RV}{r:List SV}(hl:S6 l=true)(h:FL (fO w χ E s) l r):∃sv,fO w χ E s (oneOf l) sv/\aP E.ρ sv=Sv.one (r.map (aP E.ρ)):=by
 have key:∀{l:List RV} {r:List SV},l.all UP=true->FL (fO w χ E s) l r->FL (Kj w χ E s) l (r.map (aP E.ρ)):=by
  intro l
  induction l with
  |nil=>intro r _ h;cases r with|nil=>trivial|cons _ _=>exact h.elim
  |cons x l ih=>intro r hl h;cases r with
   |nil=>exact h.elim
   |cons v r=>rw[cd,ak]at hl;exact⟨Kj.to hl.1 h.1,ih hl.2 h.2⟩
 match l,r,h with
 |[],[],_=>exact⟨V (.tuple #[]),⟨[],rfl,trivial⟩,rfl⟩
 |[x],[v],h=>exact⟨v,h.1,rfl⟩
 |x::y::l,v::u::r,h=>exact⟨V (.tuple ((v::u::r).map (aP E.ρ)).toArray),⟨_,rfl,key (by cases x<;>exact hl) h⟩,rfl⟩
 |[_],_::_::_,h=>exact h.2.elim
 |_::_::_,[_],h=>exact h.2.elim
theorem abK(TT:gW P T)(SP:YV P T)(IN:VF P T)(hm:P.follows .mixedOrders=true){NL:Nat}{F:Func}(hf:P.funcs[NL]?=some F){lo hi:Nat}(uC:lo<=T.nb+1)(xX:T.nb+F.ntmps<=hi)(agl:∀i g,T.inl i=some g->lo<=g.lo/\g.hi<=hi)(hpX:∀q∈X.qu,q.1<lo∨hi<q.1){vs:List RV}{oH:List SV}{o:Option Nat}{k:TS->Prop}
  (h:bX X s E sy a w χ) (hv:FL (fO w χ E s) vs oH) (hd:∀d,o=some d->d<X.n) (ht:vn T la F lo hi s o vs k) :
  Bf P NL (oH.map (aP E.ρ)).toArray (λ_=>true) w χ λw' χ' v=>∃s' E' sy',k s'/\bX X s' E' sy' (a.put o v) w' χ'/\Hu X.nb o s s' E E' a (a.put o v) w w' χ χ'/\Fr (dl o) s s':=by
 unfold vn at ht;split at ht
 .rename_i c d hc;obtain⟨hb,ht⟩:=dU ht;simp only[ak]at hb;obtain⟨⟨⟨⟨b1,b2⟩,b3⟩,b4⟩,b5⟩:=hb;have b1:F.ntmps+T.nb<=899:=aB b1;have hd:=hd d rfl;refine UY hf hc (λc=>c) E.ρ (args:=oH) (bxs:=sy.boxes) (by rw[←hv.len];exact b2) rfl (λid q e=>⟨(h.st.boxes id q e).2.1,(h.st.boxes id q e).1,(h.st.boxes id q e).2.2⟩) rfl λa0 im hold Lu=>?_;have ZJ:∀q∈X.qu++s.boxes.map (λq=>(q.1,E.ρ q.1)),q.1<lo∨hi<q.1:=λq hq=>by
   rcases aV.1 hq with hq|hq
   .exact hpX q hq
   .obtain⟨y,hy,rfl⟩:=aq.1 hq;have:=aO.1 b4 y hy;rw[dS]at this;exact this.imp aB aB
  have hX:HX T ⟨F.ntmps,w,χ,λc=>c,X.qu++s.boxes.map (λq=>(q.1,E.ρ q.1)),T.nb⟩:=⟨b1,λq hq=>by
   show q.1<=T.nb∨F.ntmps+T.nb<q.1;rcases ZJ q hq with h|h<;>omega,rfl,λq hq i g hg=>by
   obtain⟨h1,h2⟩:=agl i g hg;rcases ZJ q hq with h|h<;>omega⟩
  have nm0:∀y,Nm E E s ⟨HW 0 vs,s.boxes,s.own,s.aZ,[]⟩ y:=λy=>jc rfl rfl rfl rfl rfl;have abX:bX ⟨F.ntmps,w,χ,λc=>c,X.qu++s.boxes.map (λq=>(q.1,E.ρ q.1)),T.nb⟩ ⟨HW 0 vs,s.boxes,s.own,s.aZ,[]⟩ E ⟨oV 0 oH,sy.boxes⟩ a0 w χ :=
   ⟨im,λt x e=>by
    obtain⟨sv,g1,g2⟩:=B9 hv e;exact⟨sv,g1,g2.tr (M0.refl w χ) λy _=>nm0 y⟩,λid t cs e=>by
    obtain⟨ss,g1,g2⟩:=h.boxes id t cs e;exact⟨ss,g1,DN (λy _ sv k=>TR.tr (M0.refl w χ) (nm0 y) k) g2⟩,h.own,h.aZ,⟨h.aQ.o,h.aQ.m,h.aQ.oo,h.aQ.om,h.aQ.mm⟩,hold,λq hq=>by
    rcases aV.1 hq with hq|hq
    .exact h.qu q hq
    .obtain⟨y,hy,rfl⟩:=aq.1 hq;rfl⟩
  refine Q1 TT (Dz SP IN _ hX) hm hX c ht (λt ht=>aB (mL b3 t ht)) abX λe s' E' sy' a' w' χ' hk h' F0 K0=>?_;have pinB:∀id x,aa s.boxes id=some x->E'.ρ id=E.ρ id:=λid x e=>h'.qu (id,E.ρ id) (aG _ (aq.2 ⟨_,ct e,rfl⟩));have pb:∀id∈s.boxes.map (·.1),E'.ρ id=E.ρ id:=λid hi=>by obtain⟨x,hx⟩:=nu hi;exact pinB id x hx
  have m:M0 w χ w' χ':=⟨h'.lS.size,λb hb hz=>⟨(h'.lS.keep b hb (.inl hz)).1,(h'.lS.keep b hb (.inl hz)).2.trans hz⟩⟩
  have tl:∀{x:Nat},x∉s'.ca++s.ca->x∉s'.ca:=λhx hm=>hx (aN _ hm);have key:(match Gi T s' F.results.toList with
   |some l=>bif s.al.all (λq=>Nat.beq q.1 d||(match aa s.al q.1 with|some x=>!mC (ahv s') x|none=>true))&&S6 l then k ⟨(d,oneOf l)::s.al,s'.boxes,s'.own,s'.aZ,s'.ca++s.ca⟩else Er 89
   |none=>Er 90)->bodyPost P F (λe BH=>∃v χ',e=.returned v/\Ev (λ_=>true) w χ BH χ'/\∃s' E' sy',k s'/\bX X s' E' sy' (a.put (some d) v) BH χ'/\Hu X.nb (some d) s s' E E' a (a.put (some d) v) w BH χ χ'/\Fr (dl (some d)) s s') .ret a' w':=by
   intro hk;split at hk
   .rename_i l hl;obtain⟨hb,hk⟩:=dU hk;rw[ak]at hb;obtain⟨r,e1,e2⟩:=Bn h' hl;obtain⟨sv,e3,e4⟩:=Gy hb.2 e2;refine Lo TT.bj h'.st e1 ⟨_,χ',rfl,⟨h'.lS.os,h'.lS.tape,h'.lS.output,h'.lS.size,λb _ hp=>by cases hp⟩,_,E',⟨(d,sv)::qL ((s.al.map (·.1)).filter (λt=>!Nat.beq t d)) sy.al,sy'.boxes⟩,hk,?_,?_,?_⟩
    .have nm:∀t x,t≠d->aa s.al t=some x->∀y∈Dw x,Nm E E' s ⟨(d,oneOf l)::s.al,s'.boxes,s'.own,s'.aZ,s'.ca++s.ca⟩ y:=λt x hne e y hy k hk=>by
      have h1:=aO.1 hb.1 _ (ct e);rw[dS]at h1;have h1:=h1.resolve_left λh=>hne (aD h);rw[e]at h1;have h2:=ni (by simpa using h1) hy;have ht:2*k+1∉s'.ca:=λhm=>by have hm:=any_beq.2 hm;cases y<;>first|(cases hk;done)|(have e:=aD hk;subst e;cases hm.symm.trans h2)
      refine⟨λmQ e'=>?_,λmp' e'=>?_⟩
      .have e0:aa s.own k=some mQ:=(F0.own k ht).symm.trans e';obtain⟨⟨g1,g2,_⟩,_⟩:=K0.own k mQ e0 ht;exact⟨mQ,e0,rfl,rfl,g1,g2⟩
      .have e0:aa s.aZ k=some mp':=(F0.aZ k ht).symm.trans e';exact⟨mp',e0,(K0.map k mp' e0 ht).1.1⟩
     have live:∀t x,t≠d->aa s.al t=some x->liveR (s.boxes.map (·.1)) s s x=true:=λt x hne e=>by have h1:=aO.1 b5 _ (ct e);rw[dS]at h1;exact h1.resolve_left λh=>hne (aD h)
     have st1:St X.n ⟨qL ((s.al.map (·.1)).filter (λt=>!Nat.beq t d)) sy.al,sy'.boxes⟩ E'.ρ a w' χ':=⟨h.st.size,h.st.defers,λt sv e=>by
      obtain⟨m1,m2⟩:=qa (ct e);obtain⟨m3,m4⟩:=dx.1 m1;have hne:t≠d:=by intro e;rw[e,eH]at m4;cases m4
      obtain⟨x,hx⟩:=nu m3;obtain⟨su,g1,g2⟩:=h.al t x hx;rw[m2]at g1;cases g1;rw[Fs g2 (live t x hne hx) pb];exact h.st.al t _ m2,h'.st.boxes⟩
     have st2:=st1.put (sv:=sv) hd;rw[e4]at st2;refine⟨st2,λt x e=>?_,λid t cs e=>?_,h'.own,h'.aZ,⟨h'.aQ.o,h'.aQ.m,h'.aQ.oo,h'.aQ.om,h'.aQ.mm⟩,⟨h'.lS.os.trans h.lS.os,h'.lS.tape.trans h.lS.tape,h'.lS.output.trans h.lS.output,bP h.lS.size h'.lS.size,λb hb hc=>?_⟩,λq hq=>h'.qu q (aN _ hq)⟩
     .rcases aA e with⟨h1,h2⟩|⟨h1,h2⟩
      .subst h1 h2;exact⟨sv,look_eq,e3.tr (M0.refl w' χ') λy _=>jc rfl rfl rfl rfl rfl⟩
      .obtain⟨su,g1,g2⟩:=h.al t x h2;refine⟨su,(bd h1).trans (qd (dx.2 ⟨wi h2,?_⟩) g1),g2.tr m (nm t x (bC h1) h2) λid hid=>pb id (ED (live t x (bC h1) h2) hid)⟩;cases hb:Nat.beq t d with
       |false=>rfl
       |true=>exact absurd (aD hb).symm h1
     .obtain⟨ss,g1,g2⟩:=h'.boxes id t cs e;exact⟨ss,g1,DN (λy _ sv k=>TR.tr (M0.refl w' χ') (jc rfl rfl rfl rfl rfl) k) g2⟩
     .obtain⟨k1,k2⟩:=h.lS.keep b hb hc;obtain⟨k3,k4⟩:=h'.lS.keep b (dH hb h.lS.size) (by show χ b=0∨χ b=1000;rw[k2];exact hc);exact⟨k3.trans k1,k4.trans k2⟩
    .refine⟨λt x hne e=>?_,m,λb hb hk=>?_,λid x e _=>pinB id x e,λk x e hn=>(K0.own k x e (tl hn)).1,λk x e hn=>(K0.map k x e (tl hn)).1,λx hx=>aG _ hx,λid x e _=>pinB id x e⟩
     .simp only[Act.put];rw[jL (by intro e;subst e;exact hne rfl)]
     .rcases hk with⟨id,t',dG,h1,rfl,h2⟩|⟨k,x,h1,h2,h3⟩|⟨k,x,h1,h2,h3⟩
      .exact(K0.box id t' dG h1 λoff ho hm=>h2 off ho (aN _ hm)).2 hb
      .exact(K0.own k x h1 (tl h3)).2 b hb h2
      .exact(K0.map k x h1 (tl h3)).2 b hb h2
    .exact⟨λt ht=>bd λe=>ht (e▸aY.2 rfl),λid t cs e=>by
      obtain⟨dG,g1,g2,g3⟩:=F0.boxes id t cs e;exact⟨dG,g1,g2,λoff ho hn=>g3 off ho (tl hn)⟩,λk hn=>F0.own k (tl hn),λk hn=>F0.aZ k (tl hn),λx hx=>aG _ hx⟩
   .cases hk
  cases e with
  |n=>exact key hk
  |r=>exact key hk
  |x i=>cases hk
 .cases ht
end
end
end Go.Te
namespace Go.Te
open Go Go.Sv Go.Proofs Go.Proofs.Y
noncomputable section
def et0:Nat->Option (Nat×TC)
 |22=>some (44,.t 44)
 |24=>some (110,.t 110)
 |27=>some (86,.t 86)
 |28=>some (42,.l (.i .i64))
 |42=>some (3,.i .i64)
 |45=>some (79,.t 79)
 |52=>some (212,.t 212)
 |71=>some (52,.l (.t 212))
 |73=>some (82,.l (.t 132))
 |82=>some (132,.t 132)
 |90=>some (145,.t 145)
 |97=>some (103,.l (.t 106))
 |103=>some (106,.t 106)
 |249=>some (28,.l (.l (.i .i64)))
 |332=>some (5,.i .u8)
 |_=>none
def DW:Nat->Option TC
 |122=>some (.l (.i .i64))
 |170=>some (.i .i64)
 |275=>some (.l (.l (.i .i64)))
 |314=>some (.t 86)
 |_=>none
def kt0:Nat->Option (List Bool)
 |79=>some [true,true,true]
 |86=>some [true,true,true,true,true]
 |106=>some [true,true,false]
 |110=>some [true,true,true,true]
 |132=>some [true,true,false]
 |191=>some [true,true]
 |212=>some [true,true]
 |253=>some [true,true,true]
 |_=>none
def Zj:Nat->Bool
 |67=>true
 |177=>true
 |_=>false
def tb(sp:Nat->Option Spec)(nb:Nat)(mn:Nat->Nat)(inl:Nat->Option zn):Tb:=⟨bj,sp,et0,DW,kt0,Zj,nb,mn,inl⟩
section
variable{sp:Nat->Option Spec}{nb:Nat}{mn:Nat->Nat}{inl:Nat->Option zn}
def ahO(T:Tb)(t e:Nat)(c:TC):Prop:=wL T.bj t e=true/\Bc T.bj e (bw c).n (bw c).bytes=true/\Nat.ble (bw c).bytes 128=true/\yy c=true/\∀z,zC T c=some z->∀w χ,(match aa T.bj e with|some s=>(bw c).R w χ s.zero z|none=>False)
theorem LL{t e:Nat}{c:TC}(z0:den c)(zs:List Value)(hr:∀w χ,(bw c).R w χ zs z0)(h1:wL bj t e=true:=by kernel_rfl)(h2:Bc bj e (bw c).n (bw c).bytes=true:=by kernel_rfl)(h3:Nat.ble (bw c).bytes 128=true:=by kernel_rfl)(h4:yy c=true:=by kernel_rfl)(h5:zC (tb sp nb mn inl) c=some z0:=by kernel_rfl)(h6:(aa bj e).map sX.zero=some zs:=by kernel_rfl):ahO (tb sp nb mn inl) t e c :=
 ⟨h1,h2,h3,h4,λz hz w χ=>by
  cases hz.symm.trans h5;show(match aa bj e with|some s=>(bw c).R w χ s.zero z0|none=>False);cases hl:aa bj e with
  |none=>rw[hl]at h6;cases h6
  |some s=>rw[hl]at h6;cases h6;exact hr w χ⟩
theorem ag8:∀t e c,et0 t=some (e,c)->ahO (tb sp nb mn inl) t e c:=by
 intro t e c h;unfold et0 at h;split at h<;>cases h
 .exact LL (⟨0,0,[],[]⟩:DD 44) [.int .i64 0,.int .i64 0,.slice none 0 0,.slice none 0 0] λ_ _=>⟨none,0,none,0,rfl,RS.empty _ _ _,RS.empty _ _ _⟩
 .exact LL (⟨0,0,0,0⟩:DD 110) [.int .i64 0,.int .i64 0,.int .i64 0,.int .i64 0] λ_ _=>rfl
 .exact LL (⟨0,0,0,0,0⟩:DD 86) [.int .i64 0,.int .i64 0,.int .i64 0,.int .i64 0,.int .i64 0] λ_ _=>rfl
 .exact LL ([]:List (den (.i .i64))) [.slice none 0 0] λ_ _=>⟨none,0,rfl,RS.empty _ _ _⟩
 .exact LL (0:Int) [.int .i64 0] λ_ _=>rfl
 .exact LL (⟨0,0,0⟩:DD 79) [.int .i64 0,.int .i64 0,.int .i64 0] λ_ _=>rfl
 .exact LL (⟨0,0⟩:DD 212) [.int .i64 0,.int .i64 0] λ_ _=>rfl
 .exact LL ([]:List (den (.t 212))) [.slice none 0 0] λ_ _=>⟨none,0,rfl,RS.empty _ _ _⟩
 .exact LL ([]:List (den (.t 132))) [.slice none 0 0] λ_ _=>⟨none,0,rfl,RS.empty _ _ _⟩
 .exact LL (⟨0,0,[]⟩:DD 132) [.int .i64 0,.int .i64 0,.string ⟨#[]⟩] λ_ _=>rfl
 .exact LL ((0,0):DD 145) [.int .i64 0,.int .i64 0] λ_ _=>rfl
 .exact LL ([]:List (den (.t 106))) [.slice none 0 0] λ_ _=>⟨none,0,rfl,RS.empty _ _ _⟩
 .exact LL (⟨0,0,[]⟩:DD 106) [.int .i64 0,.int .i64 0,.string ⟨#[]⟩] λ_ _=>rfl
 .exact LL ([]:List (den (.l (.i .i64)))) [.slice none 0 0] λ_ _=>⟨none,0,rfl,RS.empty _ _ _⟩
 .exact LL (0:Int) [.int .u8 0] λ_ _=>rfl
theorem ahc:∀t e c,et0 t=some (e,c)->Nat.ble ((bw c).n*4096) 16777216=true:=by
 intro t e c h;unfold et0 at h;split at h<;>cases h<;>kernel_rfl
def ahG(T:Tb)(t:Nat)(c:TC):Prop:=yy c=true/\∃kt et zv,(Tryz.prog).underlying t=some (.map kt et)/\(Tryz.prog).underlying kt=some (.int .i64)/\((Tryz.prog).info? et).bind (·.zero)=some zv/\∀z,zC T c=some z->∀w χ,VR (bw c) (mR c) w χ zv z
theorem mtK{t:Nat}{c:TC}(kt et:Nat)(zv:Value)(z0:den c)(hr:∀w χ,VR (bw c) (mR c) w χ zv z0)(h1:yy c=true:=by kernel_rfl)(h2:(Tryz.prog).underlying t=some (.map kt et):=by kernel_rfl)(h3:(Tryz.prog).underlying kt=some (.int .i64):=by kernel_rfl)(h4:((Tryz.prog).info? et).bind (·.zero)=some zv:=by kernel_rfl)(h5:zC (tb sp nb mn inl) c=some z0:=by kernel_rfl):ahG (tb sp nb mn inl) t c :=
 ⟨h1,kt,et,zv,h2,h3,h4,λz hz w χ=>by cases hz.symm.trans h5;exact hr w χ⟩
theorem ae9:∀t c,DW t=some c->ahG (tb sp nb mn inl) t c:=by
 intro t c h;unfold DW at h;split at h<;>cases h
 .exact mtK 3 42 (.slice none 0 0) ([]:List (den (.i .i64))) λ_ _=>⟨none,0,rfl,RS.empty _ _ _⟩
 .exact mtK 3 3 (.int .i64 0) (0:Int) λ_ _=>rfl
 .exact mtK 3 28 (.slice none 0 0) ([]:List (den (.l (.i .i64)))) λ_ _=>⟨none,0,rfl,RS.empty _ _ _⟩
 .exact mtK 3 86 (.agg #[.int .i64 0,.int .i64 0,.int .i64 0,.int .i64 0,.int .i64 0]) (⟨0,0,0,0,0⟩:DD 86) λ_ _=>⟨_,rfl,rfl⟩
theorem aeU:∀t,Zj t=true->∃e,(Tryz.prog).underlying t=some (.pointer e):=by
 intro t h;unfold Zj at h;split at h
 .exact⟨124,by kernel_rfl⟩
 .exact⟨86,by kernel_rfl⟩
 .cases h
theorem qe{ks:List Bool}{xs:List Value}(h:kindV (true::ks) xs=true):∃k n l,xs=.int k n::l/\kindV ks l=true:=by
 match xs,h with
 |.int k n::l,h=>exact⟨k,n,l,rfl,h⟩
theorem afQ{ks:List Bool}{xs:List Value}(h:kindV (false::ks) xs=true):∃s l,xs=.string s::l/\kindV ks l=true:=by
 match xs,h with
 |.string s::l,h=>exact⟨s,l,rfl,h⟩
theorem II{xs:List Value}(h:kindV [] xs=true):xs=[]:=by
 match xs,h with
 |[],_=>rfl
theorem alr(xs:List Value)(h0:kindV [true,true,true] xs=true):oB (Tryz.prog) 79 xs=true/\nf bj 79=some xs.length:=by
 obtain⟨k0,n0,l0,rfl,h1⟩:=qe h0;obtain⟨k1,n1,l1,rfl,h2⟩:=qe h1;obtain⟨k2,n2,l2,rfl,h3⟩:=qe h2;cases II h3;exact⟨by kernel_rfl,by kernel_rfl⟩
theorem alq(xs:List Value)(h0:kindV [true,true,true,true,true] xs=true):oB (Tryz.prog) 86 xs=true/\nf bj 86=some xs.length:=by
 obtain⟨k0,n0,l0,rfl,h1⟩:=qe h0;obtain⟨k1,n1,l1,rfl,h2⟩:=qe h1;obtain⟨k2,n2,l2,rfl,h3⟩:=qe h2;obtain⟨k3,n3,l3,rfl,h4⟩:=qe h3;obtain⟨k4,n4,l4,rfl,h5⟩:=qe h4;cases II h5;exact⟨by kernel_rfl,by kernel_rfl⟩
theorem afX(xs:List Value)(h0:kindV [true,true,false] xs=true):oB (Tryz.prog) 106 xs=true/\nf bj 106=some xs.length:=by
 obtain⟨k0,n0,l0,rfl,h1⟩:=qe h0;obtain⟨k1,n1,l1,rfl,h2⟩:=qe h1;obtain⟨s2,l2,rfl,h3⟩:=afQ h2;cases II h3;exact⟨by kernel_rfl,by kernel_rfl⟩
theorem afW(xs:List Value)(h0:kindV [true,true,true,true] xs=true):oB (Tryz.prog) 110 xs=true/\nf bj 110=some xs.length:=by
 obtain⟨k0,n0,l0,rfl,h1⟩:=qe h0;obtain⟨k1,n1,l1,rfl,h2⟩:=qe h1;obtain⟨k2,n2,l2,rfl,h3⟩:=qe h2;obtain⟨k3,n3,l3,rfl,h4⟩:=qe h3;cases II h4;exact⟨by kernel_rfl,by kernel_rfl⟩
theorem afV(xs:List Value)(h0:kindV [true,true,false] xs=true):oB (Tryz.prog) 132 xs=true/\nf bj 132=some xs.length:=by
 obtain⟨k0,n0,l0,rfl,h1⟩:=qe h0;obtain⟨k1,n1,l1,rfl,h2⟩:=qe h1;obtain⟨s2,l2,rfl,h3⟩:=afQ h2;cases II h3;exact⟨by kernel_rfl,by kernel_rfl⟩
theorem afU(xs:List Value)(h0:kindV [true,true] xs=true):oB (Tryz.prog) 191 xs=true/\nf bj 191=some xs.length:=by
 obtain⟨k0,n0,l0,rfl,h1⟩:=qe h0;obtain⟨k1,n1,l1,rfl,h2⟩:=qe h1;cases II h2;exact⟨by kernel_rfl,by kernel_rfl⟩
theorem afT(xs:List Value)(h0:kindV [true,true] xs=true):oB (Tryz.prog) 212 xs=true/\nf bj 212=some xs.length:=by
 obtain⟨k0,n0,l0,rfl,h1⟩:=qe h0;obtain⟨k1,n1,l1,rfl,h2⟩:=qe h1;cases II h2;exact⟨by kernel_rfl,by kernel_rfl⟩
theorem afS(xs:List Value)(h0:kindV [true,true,true] xs=true):oB (Tryz.prog) 253 xs=true/\nf bj 253=some xs.length:=by
 obtain⟨k0,n0,l0,rfl,h1⟩:=qe h0;obtain⟨k1,n1,l1,rfl,h2⟩:=qe h1;obtain⟨k2,n2,l2,rfl,h3⟩:=qe h2;cases II h3;exact⟨by kernel_rfl,by kernel_rfl⟩
theorem afR:∀t ks,kt0 t=some ks->∀xs,kindV ks xs=true->oB (Tryz.prog) t xs=true/\nf bj t=some xs.length:=by
 intro t ks h;unfold kt0 at h;split at h<;>cases h
 .exact alr
 .exact alq
 .exact afX
 .exact afW
 .exact afV
 .exact afU
 .exact afT
 .exact afS
theorem Rn:gW (Tryz.prog) (tb sp nb mn inl):=⟨T,ag8,ahc,ae9,aeU,afR⟩
end
end
end Go.Te
