/- Lemmas. Conditions: their own. -/
import Derived.Test.YtmgahplojkmcaaaGreatFV21
set_option linter.all false
namespace Go.Proofs.Y
open Go Go.Sv Go.Pu
section
theorem Kq{x:Int}:0<varOf x↔x≠0/\-100000<=x/\x<=100000:=by
 unfold varOf;omega
theorem Ra(x:Int):varOf (-x)=varOf x:=by
 unfold varOf;omega
theorem Eh(x:Int):0<=varOf x:=by
 unfold varOf;omega
theorem aef{x p:Int}(hp:0<varOf p)(h:varOf x=varOf p):x=p∨x=-p:=by
 unfold varOf at h hp;omega
theorem GC{x:Int}(h:0<varOf x):lU x=-x:=by
 have:=Kq.1 h;unfold lU;grind[dj]
theorem EV{x:Int}(h:0<varOf x):jF x=-x:=by
 unfold jF;omega
theorem Lv{m:Mo}{x:Int}(h:0<varOf x):hl m (-x)↔¬hl m x:=by
 have:=Kq.1 h;unfold hl;rw[Ra];by_cases hx:x>0
 .rw[jP hx,kY (show ¬-x>0 by omega)];cases m (varOf x)<;>simp[h]
 grind
theorem v238(a b:Int):VC238 a b (λ_=>True):=λ_ _=>⟨λ_ _ _=>trivial,λ_=>trivial⟩
theorem v239(a:Int):VC239 a (λ_=>True):=trivial
theorem agP{i j:Int}(h0:0<=i)(h1:i<=1000000000000000)(h2:0<=j)(h3:j<=1000000000000000):IntKind.i64.wrap ((IntKind.u64.wrap (IntKind.i64.wrap (i+j))).fdiv (2^1))=(i+j)/2:=by
 have e:IntKind.u64.wrap (IntKind.i64.wrap (i+j))=i+j:=by simp[IntKind.wrap,IntKind.signed,IntKind.bits];try omega
 grind[Int.fdiv_eq_ediv_of_nonneg,dj]
theorem v182(l:List Int)(t:Int):VC182 l t (λ_=>True):=by
 unfold VC182 iF bD lN wI dE fj eM;intro hs;unfold sm at hs;refine⟨λi j=>0<=i/\i<=j/\j<=l.length,λi j=>(j-i).toNat,⟨by omega,by omega,by omega⟩,?_⟩;rintro i j ⟨i0,ij,jl⟩;rw[agP (by omega) (by omega) (by omega) (by omega)];refine⟨λh=>?_,λh=>?_⟩
 .have h:=aF h;rw[dj (n:=(i+j)/2+1) (by omega) (by omega)];exact⟨⟨by omega,by omega⟩,λ_ _=>⟨λ_=>⟨⟨by omega,by omega,by omega⟩,by dsimp only;omega⟩,λ_=>⟨⟨by omega,by omega,by omega⟩,by dsimp only;omega⟩⟩⟩
 .refine⟨λhi=>?_,λ_=>trivial⟩;have hi:=aF hi;exact⟨⟨i0,hi⟩,λ_=>trivial,λ_=>⟨⟨i0,hi⟩,λ_ _=>⟨λ_ _ _=>trivial,λ_=>trivial⟩⟩⟩
theorem Hz{l:List Int}{lo:Int}(h:jv l lo=true):l.length<=1000/\∀n∈l,lo<=n/\n<=10000000:=by
 unfold jv FO at h;rw[ak,aR,aO]at h;refine⟨h.1,λn hn=>?_⟩;have:=h.2 n hn;unfold VX at this;grind
theorem v111(s:cz):VC111 s (zD s):=by
 unfold VC111 iF lN dE;intro _ _;refine⟨λ_=>⟨λhi r hr=>⟨λhc=>?_,λ_ h=>(by cases h)⟩,λ_ h=>(by cases h)⟩,λ_=>⟨λ_=>⟨λhc=>?_,λ_ h=>(by cases h)⟩,λ_ h=>(by cases h)⟩⟩
 .rintro _ rfl hw;obtain⟨h1,h2⟩:=Hz hw;rw[ak]at hi;have:=aF hi.1;have:=aF hi.2;exact⟨hr (eq_of_beq hc),h1,h2,by omega,by omega⟩
 .rintro _ rfl hw;obtain⟨h1,h2⟩:=Hz hw;rw[ak,ak]at hc;have:=eq_of_beq hc.2;have:=aF hc.1.1;have:=aF hc.1.2;exact⟨by omega,h1,λh hh=>by have:=h2 h hh;omega,by omega,by omega⟩
theorem v110(s:cz):VC110 s (ri s):=λ_ _ r hr h=>hr (by simpa using h)
theorem v109_110(l:List cz):VC109_110 l (cR l):=by
 unfold VC109_110 iF bD lN wI dE oM oK;intro hs;unfold sm at hs;refine⟨λx=>0<=x/\x<=l.length/\∀s∈l.take x.toNat,okS s,λx=>(l.length-x).toNat,⟨by omega,by omega,by simp⟩,?_⟩;rintro x ⟨x0,x1,x2⟩;rw[dj (n:=x+1) (by omega) (by omega)];refine⟨λhx=>?_,λhx=>?_⟩
 .have hx:=aF hx;refine⟨⟨x0,hx⟩,λ_ _ r hr=>⟨λ_ h=>absurd h (by omega),λhf=>⟨⟨by omega,by omega,λs hm=>?_⟩,by dsimp only;omega⟩⟩⟩;rw[fW x0 hx]at hm;rcases aV.1 hm with hm|hm
  .exact x2 s hm
  .rw[aY]at hm;rw[hm];exact hr hf
 .have hx:=aL hx;rw[fc (by omega)]at x2;exact λ_=>x2
theorem v51(l:List cz):VC51 l (uW l):=by
 unfold VC51 iF lN dE;intro _;refine⟨λ_ h=>(by cases h),λ_ r hr=>⟨λ_ h=>(by cases h),λhn _=>hr ?_⟩⟩;grind
theorem v313(x:Int):VC313 x (λr=>r=mH x):=by
 unfold VC313 iF wI;rintro _ rfl;unfold xC mH;refine⟨λh=>?_,λh=>?_⟩
 .have h:varOf x=0:=by simpa using h
  unfold jF;rw[if_pos h]
 .have h:varOf x≠0:=by simpa using h
  have:=Eh x;show lU x=_;rw[GC (by omega),EV (by omega)]
theorem v410(x:Int)(m:List (Int×Int)):VC410 x m (λr=>r=fZ x m):=by
 unfold VC410 fZ lU iF wI dE;grind
theorem v317(l:List Int)(x:Int):VC317 l x (λr=>r=mK l x):=by
 unfold VC317 iF wI;rintro _ _ rfl;unfold mK vl kN cb lU;grind
theorem v318(c:List Int)(x:Int):VC318 c x (λr=>r=ql c x):=by
 unfold VC318 iF dE;rintro _ _ rfl;unfold ql kN cb;grind
theorem abt(m:List (Int×Int))(k q v:Int):bB (iU m k v) q=if k=q then some v else bB m q:=jd m k q v
def U6(l:List Int)(m:List (Int×Int)):Prop:=∀y,(bB m y).getD 0=(l.count y:Int)
theorem Fw{l:List Int}{m:List (Int×Int)}{x:Int}(h:U6 l m)(hl:l.length<=1000000000000):U6 (l++[x]) (iU m x (IntKind.i64.wrap ((bB m x).getD 0+1))):=by
 intro y;have hx:=h x;have:=List.count_le_length (a:=x) (l:=l);rw[abt,hx,dj (by omega) (by omega),List.count_append];by_cases e:x=y
 .subst e;rw[if_pos rfl];simp
 .rw[if_neg e,h y];simp[e]
theorem NX{l:List Int}{m:List (Int×Int)}(h:U6 l m)(x:Int):fZ x m=vl l x:=by
 have k:∀y,(bB m y).getD 0>0↔y∈l:=λy=>by rw[h y,←List.count_pos_iff];omega
 unfold fZ vl;grind
theorem vF(l c:List Int)(x v:Int):vG l (c++[x]) v=vG l c v+if 0<varOf x/\vl l x=v then 1 else 0:=by
 unfold vG;grind
theorem LV(l c:List Int)(v:Int):vG l c v<=c.length:=List.length_filter_le _ _
theorem Kr(l:List Int)(x:Int):vl l x=1∨vl l x=-1∨vl l x=0:=by
 unfold vl;omega
theorem v417(l c:List Int)(hp:qK l c):VC417 l c (λr=>r=kT l c):=by
 unfold VC417 iF bD lN wI dE fj ZA eM QG;intro _ hs;unfold sm at hs;unfold qK at hp;refine⟨λx m=>0<=x/\x<=l.length/\U6 (l.take x.toNat) m,λx _=>(l.length-x).toNat,⟨by omega,by omega,λy=>by simp[bB]⟩,?_⟩;rintro x m ⟨x0,x1,x2⟩;refine⟨λhx=>?_,λhx=>?_⟩
 .have hx:=aF hx;rw[dj (n:=x+1) (by omega) (by omega)];refine⟨⟨x0,hx⟩,⟨by omega,by omega,?_⟩,by dsimp only;omega⟩;rw[fW x0 hx];exact Fw x2 (by rw[bH];omega)
 .have hx:=aL hx;rw[fc (by omega)]at x2;refine⟨λk a b d=>0<=k/\k<=c.length/\a=vG l (c.take k.toNat) 1/\b=vG l (c.take k.toNat) (-1)/\d=vG l (c.take k.toNat) 0,λk _ _ _=>(c.length-k).toNat,⟨by omega,by omega,rfl,rfl,rfl⟩,?_⟩;rintro k a b d ⟨k0,k1,rfl,rfl,rfl⟩;refine⟨λhk=>?_,λhk=>?_⟩
  .have hk:=aF hk;have l1:=LV l (c.take k.toNat) 1;have l2:=LV l (c.take k.toNat) (-1);have l3:=LV l (c.take k.toNat) 0;rw[bH]at l1 l2 l3;rw[dj (n:=k+1) (by omega) (by omega),dj (n:=(vG l (c.take k.toNat) 1:Int)+1) (by omega) (by omega),dj (n:=(vG l (c.take k.toNat) (-1):Int)+1) (by omega) (by omega),dj (n:=(vG l (c.take k.toNat) 0:Int)+1) (by omega) (by omega)];have hv:=Eh (gi c k);refine⟨⟨k0,hk⟩,?_⟩;rintro _ rfl;unfold kN;refine⟨λh0=>?_,λh0=>?_⟩
   .have h0:=eq_of_beq h0;refine⟨⟨by omega,by omega,?_,?_,?_⟩,by dsimp only;omega⟩<;>rw[fW k0 hk,vF,if_neg (by omega)]<;>rfl
   .have h0:varOf (gi c k)≠0:=by simpa using h0
    have h0:0<varOf (gi c k):=by omega
    rintro _ rfl;rw[NX x2];refine⟨λh1=>?_,λh1=>⟨λh2=>?_,λh2=>?_⟩⟩
    .have h1:=eq_of_beq h1;refine⟨⟨by omega,by omega,?_,?_,?_⟩,by dsimp only;omega⟩<;>rw[fW k0 hk,vF]
     .rw[if_pos ⟨h0,h1⟩];omega
     .rw[if_neg (by omega)];omega
     .rw[if_neg (by omega)];omega
    .have h2:=eq_of_beq h2;refine⟨⟨by omega,by omega,?_,?_,?_⟩,by dsimp only;omega⟩<;>rw[fW k0 hk,vF]
     .rw[if_neg (by omega)];omega
     .rw[if_pos ⟨h0,h2⟩];omega
     .rw[if_neg (by omega)];omega
    .have h1:vl l (gi c k)≠1:=by simpa using h1
     have h2:vl l (gi c k)≠-1:=by simpa using h2
     have h3:vl l (gi c k)=0:=by rcases Kr l (gi c k)with h|h|h<;>omega
     refine⟨⟨by omega,by omega,?_,?_,?_⟩,by dsimp only;omega⟩<;>rw[fW k0 hk,vF]
     .rw[if_neg (by omega)];omega
     .rw[if_neg (by omega)];omega
     .rw[if_pos ⟨h0,h3⟩];omega
  .have hk:=aL hk;rw[fc (by omega)];rfl
theorem v384(l c:List Int)(hp:qK l c):VC384 l c (rG l c):=by
 unfold VC384 iF dE;refine λ_ _=>⟨hp,?_⟩
 rintro _ rfl;unfold kT;refine⟨λ_ h=>absurd h (by decide),λh1=>⟨λ_ h=>absurd h (by decide),λh2 _=>?_⟩⟩;grind
theorem v385(l c:List Int)(hp:qK l c):VC385 l c (vL l c):=by
 unfold VC385 iF bD lN wI dE oM fj oK eM;intro _ hs;unfold sm at hs;refine⟨hp,?_⟩;rintro _ rfl;unfold kT qK at *; refine⟨λ_ h=>(by cases h),λhn=>?_⟩;have hn:vG l c 1=0/\vG l c 0=1:=by
  cases hd:decide ((vG l c 1:Int)>0)with
  |true=>rw[hd]at hn;cases hn
  |false=>grind
 refine⟨λx m=>0<=x/\x<=l.length/\U6 (l.take x.toNat) m,λx _=>(l.length-x).toNat,⟨by omega,by omega,λy=>by simp[bB]⟩,?_⟩;rintro x m ⟨x0,x1,x2⟩;refine⟨λhx=>?_,λhx=>?_⟩
 .have hx:=aF hx;rw[dj (n:=x+1) (by omega) (by omega)];refine⟨⟨x0,hx⟩,⟨by omega,by omega,?_⟩,by dsimp only;omega⟩;rw[fW x0 hx];exact Fw x2 (by rw[bH];omega)
 .have hx:=aL hx;rw[fc (by omega)]at x2;refine⟨λk=>0<=k/\k<=c.length/\vG l (c.take k.toNat) 0=0,λk=>(c.length-k).toNat,⟨by omega,by omega,by simp[vG]⟩,?_⟩;rintro k ⟨k0,k1,k2⟩;refine⟨λhk=>?_,λhk=>?_⟩
  .have hk:=aF hk;rw[dj (n:=k+1) (by omega) (by omega)];have go:¬(0<varOf (gi c k)/\vl l (gi c k)=0)->(0<=k+1/\k+1<=c.length/\vG l (c.take (k+1).toNat) 0=0)/\(c.length-(k+1)).toNat<(c.length-k).toNat:=λh =>
    ⟨⟨by omega,by omega,by rw[fW k0 hk,vF,if_neg h,k2]⟩,by omega⟩
   refine⟨⟨k0,hk⟩,?_⟩;rintro _ rfl;refine⟨λhv=>?_,λhv=>⟨λh=>(by cases h),λ_=>go λh=>?_⟩⟩
   .have hv:=aF hv;rintro _ rfl;rw[NX x2];refine⟨λh0=>⟨⟨k0,hk⟩,λ_=>⟨hn.1,hn.2,dq k0 hk,hv,eq_of_beq h0⟩⟩,λh0=>go λh=>?_⟩;rw[h.2]at h0;cases h0
   .exact absurd h.1 (aL hv)
  .have hk:=aL hk;rw[fc (by omega)]at k2;omega
theorem ade{l c:List Int}{v:Int}(h:vG l c v=0){x:Int}(hx:x∈c)(hv:0<varOf x):vl l x≠v:=by
 intro e;have:x∈c.filter λx=>decide (0<varOf x)&&vl l x==v:=dx.2 ⟨hx,by simp[hv,e]⟩;unfold vG at h;grind
theorem amK{l c:List Int}(h:vG l c 0=1){x y:Int}(hx:x∈c)(h1:0<varOf x)(h2:vl l x=0)(hy:y∈c)(h3:0<varOf y)(h4:vl l y=0):x=y:=by
 obtain⟨z,hz⟩:=List.length_eq_one_iff.1 h;have a:x∈c.filter λx=>decide (0<varOf x)&&vl l x==0:=dx.2 ⟨hx,by simp[h1,h2]⟩;have b:y∈c.filter λx=>decide (0<varOf x)&&vl l x==0:=dx.2 ⟨hy,by simp[h3,h4]⟩;grind
theorem Y4{m:Mo}{l:List Int}{x:Int}(hv:0<varOf x)(h:vl l x=-1)(ha:uc m l):¬hl m x:=by
 have:lU x∈l:=by unfold vl at h;grind
 rw[GC hv]at this;exact(Lv hv).1 (ha _ this)
theorem v314(l h:List Int)(hp:MI l h):VC314 l h (B2 l h):=by
 unfold VC314 iF lN dE;intro _ _;unfold MI at hp;have hp1:qK l h:=by unfold qK;omega
 refine⟨hp1,λr1 h1=>⟨λhn=>⟨hp,?_⟩,λ_=>⟨hp1,λr2 h2=>⟨λ_=>⟨by simp,λh=>(by cases h)⟩,λhb=>⟨a2 rfl,⟨by simp;omega,by simp⟩,by simp,λ_=>⟨λh=>(by cases h),λ_ m ha hs=>?_⟩⟩⟩⟩⟩⟩
 .rintro _ rfl _;obtain⟨c1,c0⟩:=h1 (aF hn);refine⟨by simp[bE],λ_=>⟨λ_ m ha=>?_,λh=>(by cases h)⟩⟩;rintro⟨x,hx,hh⟩;have n1:=ade c1 hx hh.1;have n0:=ade c0 hx hh.1;exact Y4 hh.1 (by rcases Kr l x with h|h|h<;>omega) ha hh
 .obtain⟨c1,c0,u1,u2,u3⟩:=h2 (by simpa using hb);obtain⟨x,hx,hh⟩:=hs;have n1:=ade c1 hx hh.1;intro y hy;rcases aV.1 hy with hy|hy
  .exact ha y hy
  .rw[aY]at hy;rw[hy];rcases Kr l x with h|h|h
   .omega
   .exact absurd hh (Y4 hh.1 h ha)
   .rw[amK c0 u1 u2 u3 hx hh.1 h];exact hh
theorem v236(l:List Int)(hs:List (List Int))(hp:H5 l hs):VC236 l hs (rN l hs):=by
 unfold VC236 iF bD lN wI dE fj eM;intro _ _;obtain⟨p1,p2⟩:=hp;refine⟨show _<=_ by omega,?_⟩;rintro _ rfl _;refine⟨λq x=>0<=x/\x<=hs.length/\q.length<=l.length+x.toNat/\∀m,uc m l->yq m hs->uc m q,λ_ x=>(hs.length-x).toNat,⟨by omega,by omega,by simp[bE],λ_ h _=>h⟩,?_⟩;rintro q x ⟨x0,x1,x2,x3⟩;refine⟨λhx=>?_,λhx=>?_⟩
 .have hx:=aF hx;rw[dj (n:=x+1) (by omega) (by omega)];refine⟨⟨x0,hx⟩,λ_=>⟨show _<=_ by omega,λr ⟨r0,r1⟩ _=>⟨λhn=>?_,λhz=>⟨λhc=>?_,λhc=>?_⟩⟩⟩⟩
  .have hn:r.2.2≠0:=by simpa using hn
   refine⟨by simp,λh=>absurd h hn,λh m ha hA=>?_⟩;intro y hy;cases hy
  .obtain⟨s1,s2⟩:=r1 (by simpa using hz);refine⟨by dsimp only;omega,λ_ m ha hA=>s1 hc m (x3 m ha hA) (hA _ (dq x0 hx)),λh=>(by cases h)⟩
  .obtain⟨s1,s2⟩:=r1 (by simpa using hz);exact⟨⟨by omega,by omega,by omega,λm ha hA=>s2 hc m (x3 m ha hA) (hA _ (dq x0 hx))⟩,by dsimp only;omega⟩
 .exact⟨by dsimp only;omega,λh=>(by cases h),λ_=>x3⟩
theorem v235(c:List Int)(hp:H6 c):VC235 c (vU c):=by
 unfold VC235 iF bD lN dE fj;intro _;unfold H6 at hp;refine⟨λq x=>0<=x/\x<=c.length/\q.length<=x/\(∀y∈c.take x.toNat,0<varOf y)/\∀m,(∀y∈c.take x.toNat,¬hl m y)->uc m q,λ_ x=>(c.length-x).toNat,⟨by omega,by omega,by simp,by simp,λ_ _ y hy=>(by cases hy)⟩,?_⟩;rintro q x ⟨x0,x1,x2,x3,x4⟩;refine⟨λhx=>?_,λhx=>?_⟩
 .have hx:=aF hx;unfold VC235_J2 wI eM;rw[dj (n:=x+1) (by omega) (by omega)];refine⟨⟨x0,hx⟩,?_⟩;rintro _ rfl;refine⟨λ_=>⟨by simp,λh=>(by cases h)⟩,λhn=>?_⟩;have hv:0<varOf (gi c x):=by
   have:=Eh (gi c x);have hn:jF (gi c x)≠0:=by simpa[mH]using hn
   unfold jF at hn;split at hn
   .exact absurd rfl hn
   .omega
  have e:mH (gi c x)=-gi c x:=EV hv;rw[e];have w:∀y∈c.take (x+1).toNat,0<varOf y:=by grind[fW,List.mem_singleton]
  have t:∀{m:Mo},(∀y∈c.take (x+1).toNat,¬hl m y)->uc m q/\hl m (-gi c x):=λh=>by grind[fW,List.mem_append_left,Lv,List.mem_append_right]
  rintro _ rfl;refine⟨λ_=>⟨by simp;omega,⟨by omega,by omega,by simp;omega,w,λm h y hy=>?_⟩,by dsimp only;omega⟩,λ_=>⟨⟨by omega,by omega,by omega,w,λm h=>(t h).1⟩,by dsimp only;omega⟩⟩;rcases aV.1 hy with hy|hy
  .exact(t h).1 y hy
  .rw[aY]at hy;rw[hy];exact(t h).2
 .have hx:=aL hx;rw[fc (by omega)]at x3 x4;exact λ_ _=>⟨λ_=>⟨by simp,λh=>(by cases h)⟩,λ_=>⟨by dsimp only;omega,λ_=>⟨x3,x4⟩⟩⟩
theorem v179(c:List Int)(hs:List (List Int))(hp:SA c hs):VC179 c hs (B3 c hs):=by
 unfold VC179 iF;intro _ _;obtain⟨p1,p2⟩:=hp;refine⟨p1,λr ⟨r0,r1⟩ _=>⟨λhn h=>absurd h (by simpa using hn),λhz=>⟨⟨by omega,p2⟩,λq ⟨q0,q1,q2⟩ _ h m hA=>?_⟩⟩⟩;obtain⟨s1,s2⟩:=r1 (by simpa using hz);refine fC λhn=>q1 h m (s2 m λy hy hh=>hn ⟨y,hy,hh⟩) hA
end
end Go.Proofs.Y
namespace Go.Proofs.Y
open Go Go.Sv Go.Pu Go.Te
section
theorem v242(C:List (List Int))(p:Int)(hp:MP C p):VC242 C p (pV C p):=by
 unfold VC242 iF bD lN dE fj;intro _;unfold MP at hp;refine⟨λq x=>0<=x/\x<=C.length/\q.length<=x/\(∀i∈q,0<=i/\i<C.length)/\∀k:Nat,k<x->jF p≠0->jF p∈gi C (k:Int)->(k:Int)∈q,λ_ x=>(C.length-x).toNat,⟨by omega,by omega,by simp,by simp,λk hk=>by omega⟩,?_⟩;rintro q x ⟨x0,x1,x2,x3,x4⟩;refine⟨λhx=>?_,λhx=>?_⟩
 .have hx:=aF hx;have j:∀b:Bool,(b=false->jF p≠0->jF p∉gi C x)->VC242_J3 (λq x=>0<=x/\x<=C.length/\q.length<=x/\(∀i∈q,0<=i/\i<C.length)/\∀k:Nat,k<x->jF p≠0->jF p∈gi C (k:Int)->(k:Int)∈q) (λ_ x=>(C.length-x).toNat) q x q b:=by
   intro b hb;unfold VC242_J3 VC242_J2 iF wI eM;rw[dj (n:=x+1) (by omega) (by omega)];refine⟨λ_=>⟨by simp;omega,⟨by omega,by omega,by simp;omega,λi hi=>?_,λk hk h1 h2=>?_⟩,by dsimp only;omega⟩,λhf=>⟨⟨by omega,by omega,by omega,x3,λk hk h1 h2=>?_⟩,by dsimp only;omega⟩⟩
   .rcases aV.1 hi with hi|hi
    .exact x3 i hi
    .rw[aY]at hi;omega
   .by_cases e:(k:Int)=x
    .rw[e];simp
    .exact aN _ (x4 k (by omega) h1 h2)
   grind
  refine⟨⟨x0,hx⟩,?_⟩;rintro _ _ rfl;refine⟨λhn=>?_,λhn=>j _ λ_ h=>absurd (show mH p=0 by simpa using hn) h⟩;rintro _ rfl;refine j _ λhf hz hm=>?_;have hv:varOf p≠0:=by intro e;unfold jF at hz;rw[if_pos e]at hz;exact hz rfl
  have hv:0<varOf p:=by have:=Eh p;omega
  have h2:0<varOf (jF p):=by rw[EV hv,Ra];exact hv
  unfold ql at hf;have:(decide (varOf (jF p)>0)&&decide (jF p∈gi C x))=true:=by simp[h2,hm]
  rw[show mH p=jF p from rfl,this]at hf;cases hf
 .have hx:=aL hx;exact⟨x3,λk hk=>x4 k (by omega)⟩
theorem v241(l nJ:List Int)(p:Int)(hs:List (List Int))(hp:SC l nJ p hs):VC241 l nJ p hs (tv l nJ p hs):=by
 unfold VC241 iF bD lN dE fj;intro _ _ _;obtain⟨p1,p2,p3⟩:=hp;refine⟨show _<=_ by omega,?_⟩;rintro _ rfl _;refine⟨λq x=>0<=x/\x<=nJ.length/\q.length<=l.length+x.toNat/\∀m,uc m l->(∀y∈nJ,y≠jF p->¬hl m y)->uc m q,λ_ x=>(nJ.length-x).toNat,⟨by omega,by omega,by simp[bE],λ_ h _=>h⟩,?_⟩;rintro q x ⟨x0,x1,x2,x3⟩;refine⟨λhx=>?_,λhx=>?_⟩
 .have hx:=aF hx;have j:∀b:Bool,(b=false->0<varOf (gi nJ x)/\gi nJ x≠jF p)->VC241_J3 nJ (tv l nJ p hs) (λq x=>0<=x/\x<=nJ.length/\q.length<=l.length+x.toNat/\∀m,uc m l->(∀y∈nJ,y≠jF p->¬hl m y)->uc m q) (λ_ x=>(nJ.length-x).toNat) q x q b:=by
   intro b hb;unfold VC241_J3 VC241_J2 iF wI eM;rw[dj (n:=x+1) (by omega) (by omega)];have same:(0<=x+1/\x+1<=(nJ.length:Int)/\q.length<=l.length+(x+1).toNat/\∀m,uc m l->(∀y∈nJ,y≠jF p->¬hl m y)->uc m q)/\(nJ.length-(x+1)).toNat<(nJ.length-x).toNat:=⟨⟨by omega,by omega,by omega,x3⟩,by omega⟩
   refine⟨λ_=>same,λhf=>?_⟩;obtain⟨hv,hne⟩:=hb hf;have hm:=dq x0 hx;rintro _ rfl;unfold mK;refine⟨λh1 _ m ha hc=>?_,λ_=>⟨λh0=>?_,λ_=>same⟩⟩
   .have h1:=eq_of_beq h1;have:gi nJ x∈q:=by unfold vl at h1;grind
    exact absurd (x3 m ha hc _ this) (hc _ hm hne)
   .refine⟨by simp;omega,⟨by omega,by omega,by simp;omega,λm ha hc y hy=>?_⟩,by dsimp only;omega⟩;rcases aV.1 hy with hy|hy
    .exact x3 m ha hc y hy
    .rw[aY]at hy;rw[hy];show hl m (lU (gi nJ x));rw[GC hv];exact(Lv hv).2 (hc _ hm hne)
  refine⟨⟨x0,hx⟩,?_⟩;rintro _ rfl;have hn:=Eh (gi nJ x);refine⟨λ_=>j _ λh=>(by cases h),λh0=>?_⟩;have h0:varOf (gi nJ x)≠0:=by simpa[kN]using h0
  rintro _ rfl;exact j _ λh=>⟨by omega,by simpa[mH]using h⟩
 .refine⟨⟨by omega,p3⟩,λr ⟨r0,r1,r2⟩ _=>⟨λ_ h=>(by cases h),λhz _ m ha hc=>r1 (by simpa using hz) m (x3 m ha hc)⟩⟩
theorem v240(i:Int)(each:List (Int×List (List Int)))(l:List Int)(C:List (List Int))(c:List Int)(hp:SB i each l C c):VC240 i each l C c (xt i each l C c):=by
 unfold VC240 iF bD lN;intro _ _ _;obtain⟨p0,p1,p2,p3,p4,p5⟩:=hp;refine⟨λh=>?_,λ_ h=>(by cases h)⟩;obtain⟨g,hg⟩:=bR.1 h;have hc:=lB.2 p2;rw[hg];refine⟨⟨p0,p1⟩,λ_=>⟨⟨by omega,by omega⟩,⟨p3,p5 _ (dq p0 p1),p4 _ _ hg⟩,λr hr ht=>⟨g,hg,hr (eq_of_beq ht)⟩⟩⟩
def flip(m:Mo)(p:Int):Mo:=λv=>if v=varOf p then decide (p>0)else m v
theorem UN{m:Mo}{p:Int}(hp:0<varOf p):hl (flip m p) p:=⟨hp,by unfold flip;rw[if_pos rfl]⟩
theorem acC{m:Mo}{p x:Int}(hp:0<varOf p)(h:hl m x)(hne:x≠-p):hl (flip m p) x:=by
 by_cases e:varOf x=varOf p
 .rcases aef hp e with h1|h1
  .rw[h1];exact UN hp
  .exact absurd h1 hne
 .exact⟨h.1,by unfold flip;rw[if_neg e];exact h.2⟩
theorem abu{α:Type}[Inhabited α]{l:List α}{x:α}(h:x∈l):∃k:Nat,k<l.length/\gi l (k:Int)=x:=by
 grind[List.getElem_of_mem,dM]
theorem v183(C:List (List Int))(c:List Int)(ah:List (List Int))(each:List (Int×List (List Int)))(hp:SE C c ah each):VC183 C c ah each (Ca C c ah each):=by
 unfold VC183 iF bD lN wI dE oM oK;intro _ _ _;obtain⟨p0,p1,p2,p3,p4⟩:=hp;refine⟨p1,λr ⟨r0,r1⟩ _=>⟨λhn h=>absurd h (by simpa using hn),λhz=>⟨λ_ h=>(by cases h),λhl0=>⟨⟨by omega,by omega⟩,λq ⟨q0,q1,q2⟩ _=>?_⟩⟩⟩⟩;obtain⟨s1,s2⟩:=r1 (by simpa using hz);have hlen:0<c.length:=by grind
 have hpv:0<varOf (gi c 0):=s1 _ (dq (by omega) (by omega));refine⟨λhn h m hC hA _=>?_,λh23=>?_⟩
 .refine fC λhno=>?_;have hc:¬sat m c:=λh=>hno ⟨m,hC,h⟩;exact q1 h m (s2 m λy hy hh=>hc ⟨y,hy,hh⟩) hA
 have q2:=q2 (by simpa using h23);refine⟨⟨by omega,by omega⟩,p0,λK ⟨k0,k1⟩ hks=>?_⟩;unfold sm at hks;refine⟨λx=>0<=x/\x<=K.length/\∀i∈K.take x.toNat,∃h,bB each i=some h/\rfR q.1 (gi C i) (gi c 0) h,λx=>(K.length-x).toNat,⟨by omega,by omega,by simp⟩,?_⟩;rintro x ⟨x0,x1,x2⟩;refine⟨λhx=>?_,λhx=>?_⟩
 .have hx:=aF hx;rw[dj (n:=x+1) (by omega) (by omega)];have hki:=k0 _ (dq x0 hx);refine⟨⟨x0,hx⟩,⟨hki.1,hki.2,by intro e;rw[e]at hlen;simp at hlen,by omega,p3,p4⟩,λb hb=>⟨λ_ h=>(by cases h),λhf=>⟨⟨by omega,by omega,λi hi=>?_⟩,by dsimp only;omega⟩⟩⟩;rw[fW x0 hx]at hi;rcases aV.1 hi with hi|hi
  .exact x2 i hi
  .rw[aY]at hi;rw[hi];exact hb (by simpa using hf)
 .have hx:=aL hx;rw[fc (by omega)]at x2;intro _ m hC hA hE;by_cases hc:sat m c
  .exact⟨m,hC,hc⟩
  have z7:=q2 m (s2 m λy hy hh=>hc ⟨y,hy,hh⟩) hA;refine⟨flip m (gi c 0),λD hD=>?_,⟨_,dq (by omega) (by omega),UN hpv⟩⟩;have key:∃y∈D,y≠-gi c 0/\hl m y:=by
   by_cases hin:jF (gi c 0)∈D
   .obtain⟨k,hk,e⟩:=abu hD;rw[←e]at hin;obtain⟨h,g1,g2⟩:=x2 _ (k1 k hk (by rw[EV hpv];have:=Kq.1 hpv;omega) hin);refine fC λhno=>g2 m z7 (λy hy hne hh=>hno ⟨y,by rw[←e];exact hy,by rwa[←EV hpv],hh⟩) (hE _ _ g1)
   .obtain⟨y,hy,hh⟩:=hC D hD;exact⟨y,hy,λe=>hin (by rw[EV hpv,←e];exact hy),hh⟩
  obtain⟨y,hy,hne,hh⟩:=key;exact⟨y,hy,acC hpv hh hne⟩
theorem CL{α:Type}:∀{m:List (Int×α)} {k:Int} {x:α},bB m k=some x->k∈m.map (·.1)
 |(j,y)::m,k,x,h=>by
  unfold bB at h;by_cases e:j=k
  .rw[ba,e];exact aI
  .rw[if_neg e]at h;exact aw _ (CL h)
theorem Cc{α:Type}:∀(m:List (Int×α)) (k:Int) (x:α),(iU m k x).map (·.1)=if k∈m.map (·.1)then m.map (·.1)else m.map (·.1)++[k]
 |[],k,x=>by simp[iU]
 |(j,y)::m,k,x=>by
  unfold iU;by_cases e:j=k
  .rw[if_pos e];subst e;simp
  .rw[if_neg e,ba,Cc m k x];by_cases h:k∈m.map (·.1)
   .rw[if_pos h,ba,if_pos (aw _ h)]
   .rw[if_neg h,ba,if_neg (λh2=>by rcases aE.1 h2 with h2|h2;exact e h2.symm;exact h h2)];rfl
theorem ME{α:Type}(m:List (Int×α))(k:Int)(x:α):(iU m k x).length<=m.length+1:=by
 have:=b8 List.length (Cc m k x);grind
theorem Su{m:List (Int×List Int)}(h:nd m)(k:Int)(x:List Int):nd (iU m k x):=by
 unfold nd at h ⊢; grind[Cc,List.nodup_append,List.mem_singleton]
theorem NT{α:Type}:∀(m:List (Int×α)) (k:Int),((uy m k).map (·.1)).Sublist (m.map (·.1))
 |[],_=>by simp[uy]
 |(j,y)::m,k=>by
  unfold uy;split
  .exact List.sublist_cons_self _ _
  .exact(NT m k).cons₂ _
theorem NU{α:Type}:∀{m:List (Int×α)} {k j:Int} {x:α},(m.map (·.1)).Nodup->bB (uy m k) j=some x->bB m j=some x
 |(i,y)::m,k,j,x,hn,h=>by
  rw[ba,gS]at hn;unfold uy at h;unfold bB;by_cases e:i=k
  .rw[if_pos e]at h;rw[if_neg (λe2=>hn.1 (by show i∈_;rw[e2];exact CL h))];exact h
  .rw[if_neg e]at h;unfold bB at h;by_cases e2:i=j
   .rw[if_pos e2]at h ⊢; exact h
   .rw[if_neg e2]at h ⊢; exact NU hn.2 h
theorem Tn:∀{r K:List Int},r.Nodup->(∀x∈r,x∈K)->r.length<=K.length
 |[],_,_,_=>by simp
 |x::r,K,hn,hs=>by rw[gS]at hn;have:=Tn (K:=K.erase x) hn.2 λy hy=>(List.mem_erase_of_ne (λe=>hn.1 (by rw[←e];exact hy))).2 (hs y (aw _ hy));grind
theorem v50(ch:aU):VC50 ch (λr=>r=ix ch):=rfl
theorem v177(k:Int)(ch:aU):VC177 k ch (λr=>r=gj k ch):=rfl
theorem v21(ch:aU):VC21 ch (λr=>r=jX ch):=by
 rintro _ rfl;rfl
theorem Nd{α:Type}:∀{m:List (Int×α)} {p:Int×α},p∈m->∃c,bB m p.1=some c
 |(j,y)::m,p,h=>by
  unfold bB;by_cases hj:j=p.1
  .exact⟨y,if_pos hj⟩
  .rw[if_neg hj];rcases aE.1 h with e|h
   .exact absurd (b8 Prod.fst e).symm hj
   .exact Nd h
theorem v180(ch:aU)(hp:SH ch):VC180 ch (nk ch):=by
 unfold VC180 iF;rintro _ rfl;exact⟨λh=>(by cases h),λ_=>⟨⟨hp.2.1,λp h=>by
  obtain⟨c,hc⟩:=Nd h;exact(hp.2.2 _ _ hc).2⟩,λr hr=>hr⟩⟩
theorem abv(a b:Int):(if b>a then b else a)=max a b:=by
 omega
theorem v115(ids:List Int)(ch:aU):VC115 ids ch (jx ids ch):=by
 unfold VC115 iF bD lN wI dE oM oK;intro hs;unfold sm at hs;refine⟨λx=>0<=x/\x<=ids.length/\∀k∈ids.take x.toNat,(bB ch.clauses (max k (IntKind.i64.wrap (0-k)))).isSome=true,λx=>(ids.length-x).toNat,⟨by omega,by omega,by simp⟩,?_⟩;rintro x ⟨x0,x1,x2⟩;refine⟨λhx=>?_,λhx=>?_⟩
 .have hx:=aF hx;rw[dj (n:=x+1) (by omega) (by omega),abv];refine⟨⟨x0,hx⟩,λ_ h=>?_,λhf=>⟨⟨by omega,by omega,λk hk=>?_⟩,by dsimp only;omega⟩⟩
  .rw[jP x0]at h;cases h
  rw[fW x0 hx]at hk;rcases aV.1 hk with hk|hk
  .exact x2 k hk
  .rw[aY]at hk;rw[hk];simpa using hf
 .have hx:=aL hx;rw[fc (by omega)]at x2;exact λ_=>x2
theorem v52(ids:List Int)(ch:aU):VC52 ids ch (iy ids ch):=by
 unfold VC52 iF bD lN wI dE fj eM;intro hs r r2;unfold sm at hs;have same:∀e:Int,iy ids ch (e,ch):=λe h=>⟨h,rfl,aK _,λ_ _ h=>h⟩
 have loop:∃(I4:Int->List (Int×List Int)->Prop),∃(μ5:Int->List (Int×List Int)->Nat),(I4 0 ch.clauses)/\(∀(r6:Int),∀(r7:List (Int×List Int)),(I4 r6 r7)->((decide (r6<((ids.length:Nat):Int))=true)->(((0:Int)<=r6)/\(r6<((ids.length:Nat):Int)))/\((I4 (IntKind.i64.wrap (r6+1)) (uy r7 (gi ids r6)))/\(μ5 (IntKind.i64.wrap (r6+1)) (uy r7 (gi ids r6))<μ5 r6 r7)))/\((decide (r6<((ids.length:Nat):Int))=false)->iy ids ch (0,{ clauses:=r7,last:=ch.last,done:=ch.done }))):=by
  refine⟨λx m=>0<=x/\x<=ids.length/\(Gz ch->nd m/\m.length<=ch.clauses.length/\∀k c,bB m k=some c->bB ch.clauses k=some c),λx _=>(ids.length-x).toNat,⟨by omega,by omega,λh=>⟨h.1,aK _,λ_ _ h=>h⟩⟩,?_⟩;rintro x m ⟨x0,x1,x2⟩;refine⟨λhx=>?_,λ_ h=>?_⟩
  .have hx:=aF hx;rw[dj (n:=x+1) (by omega) (by omega)];refine⟨⟨x0,hx⟩,⟨by omega,by omega,λh=>?_⟩,by dsimp only;omega⟩;obtain⟨a,b,d⟩:=x2 h;have af8:=NT m (gi ids x);have hle:=af8.length_le;rw[da,da]at hle;exact⟨a.sublist af8,by omega,λk c hk=>d k c (NU a hk)⟩
  .obtain⟨a,b,d⟩:=x2 h;exact⟨⟨a,bP b h.2.1,λk c hk=>h.2.2 k c (d k c hk)⟩,rfl,b,d⟩
 grind
def here(cl:List (Int×List Int))(C:List (List Int)):Prop:=∀c∈C,∃k,bB cl k=some c
theorem yU{m:Mo}{cl:List (Int×List Int)}{C:List (List Int)}(h:here cl C)(hm:KE m cl):yq m C:=λc hc=>by
 obtain⟨k,hk⟩:=h c hc;exact hm k c hk
theorem zY{cl:List (Int×List Int)}{C:List (List Int)}{k:Int}(h:here cl C)(hk:(bB cl k).isSome=true):here cl (C++[(bB cl k).getD []]):=λc hc=>by
 rcases aV.1 hc with hc|hc
 .exact h c hc
 .rw[aY]at hc;obtain⟨d,hd⟩:=bR.1 hk;exact⟨k,by rw[hc,hd];rfl⟩
theorem Rm{hints:List Int}{ch:aU}(h:thr hints ch){k:Int}(h0:0<=k)(hk:k∈hints):(bB ch.clauses k).isSome=true:=by
 have:=(h k hk).2.2;grind
theorem v116(lits hints:List Int)(ch:aU)(hp:Sz lits hints ch):VC116 lits hints ch (mF lits hints ch):=by
 unfold VC116 iF bD lN wI dE fj eM;intro _ _;obtain⟨⟨o1,o2,o3⟩,hl,hh,ht⟩:=hp;refine⟨show _<=_ by omega,λr ⟨a1,a2,a3⟩ _ hsr=>?_⟩;refine⟨λq x=>0<=x/\x<=r.1.length/\q.length=x/\here ch.clauses q,λ_ x=>(r.1.length-x).toNat,⟨by omega,by omega,rfl,λc hc=>(by cases hc)⟩,?_⟩;rintro q x ⟨x0,x1,x2,x3⟩;refine⟨λhx=>?_,λhx=>?_⟩
 .have hx:=aF hx;rw[dj (n:=x+1) (by omega) (by omega)];refine⟨⟨x0,hx⟩,?_⟩;rintro _ rfl _;obtain⟨k0,k1⟩:=a1 _ (dq x0 hx);exact⟨by simp;omega,⟨by omega,by omega,by simp;omega,zY x3 (Rm ht k0 k1)⟩,by dsimp only;omega⟩
 refine⟨⟨by omega,by omega⟩,λu hu=>⟨λhc h hm=>?_,λhc=>⟨⟨o1,o2,o3⟩,λI hI _=>?_⟩⟩⟩
 .have he:u.2=0:=h;obtain⟨m,hm⟩:=hm;exact⟨m,hm,hu he m (yU x3 hm)⟩
 obtain⟨I1,I2⟩:=hI;have hIl:I.length<=10000000:=by
  have:=Tn (K:=ch.clauses.map (·.1)) (I1.imp λh=>by omega) λx hx=>by obtain⟨c,hc⟩:=bR.1 ((I2 x).1 hx);exact CL hc
  grind
 refine⟨λx E=>0<=x/\x<=r.2.length/\∀i h,bB E i=some h->h.length<=1000/\here ch.clauses h,λx _=>(r.2.length-x).toNat,⟨by omega,by omega,λi h hm=>(by cases hm)⟩,?_⟩;rintro y E ⟨y0,y1,y2⟩;refine⟨λhy=>?_,λhy=>?_⟩
 .have hy:=aF hy;obtain⟨g0,g1,g2,g3⟩:=a3 _ (dq y0 hy);have uA:=lB.2 g0;generalize hg:gi r.2 y=g at *; have hmul:r.2.length<=140737488355328:=hsr;rw[dj (n:=y+1) (by omega) (by omega)];refine⟨⟨y0,hy⟩,λ_=>⟨⟨by omega,by omega⟩,λb _=>⟨λ_=>⟨⟨by omega,by omega⟩,?_⟩,λ_=>⟨⟨by omega,by omega,y2⟩,by dsimp only;omega⟩⟩⟩⟩;refine⟨λq z=>0<=z/\z<=(g.drop 1).length/\q.length=z/\here ch.clauses q,λ_ z=>((g.drop 1).length-z).toNat,⟨by omega,by omega,rfl,λc hc=>(by cases hc)⟩,?_⟩;rintro q2 z ⟨z0,z1,z2,z3⟩;have hd:(g.drop 1).length<=1000:=by rw[dy];omega
  refine⟨λhz=>?_,λhz=>⟨⟨by omega,by omega,λi h hm=>?_⟩,by dsimp only;omega⟩⟩
  .have hz:z<(g.drop 1).length:=aF hz;rw[dj (n:=z+1) (by omega) (by omega)];refine⟨⟨z0,hz⟩,?_⟩;rintro _ rfl _;obtain⟨k0,k1⟩:=g3 _ (dq z0 hz);exact⟨by simp;omega,⟨by omega,by omega,by simp;omega,zY z3 (Rm ht k0 k1)⟩,by dsimp only;omega⟩
  .rw[Go.Sv.jd]at hm;split at hm
   .cases hm;exact⟨by omega,z3⟩
   .exact y2 i h hm
 refine⟨λq z=>0<=z/\z<=I.length/\q.length=z/\here ch.clauses q/\∀k∈I.take z.toNat,∀c,bB ch.clauses k=some c->c∈q,λ_ z=>(I.length-z).toNat,⟨by omega,by omega,rfl,λc hc=>(by cases hc),λk hk=>(by simp at hk)⟩,?_⟩;rintro C z ⟨z0,z1,z2,z3,z4⟩;refine⟨λhz=>?_,λhz=>?_⟩
 .have hz:=aF hz;rw[dj (n:=z+1) (by omega) (by omega)];refine⟨⟨z0,hz⟩,?_⟩;rintro _ rfl _;refine⟨by simp;omega,⟨by omega,by omega,by simp;omega,zY z3 ((I2 _).1 (dq z0 hz)),λk hk c hc=>?_⟩,by dsimp only;omega⟩;rw[fW z0 hz]at hk;rcases aV.1 hk with hk|hk
  .exact aN _ (z4 k hk c hc)
  .rw[aY]at hk;rw[hk]at hc;refine aG _ (aY.2 ?_);show c=(bB ch.clauses (gi I z)).getD [];rw[hc];rfl
 .have hz:=aL hz;rw[fc (by omega)]at z4;refine⟨⟨by omega,by omega,by omega,λi h hm=>bP (y2 i h hm).1 (by omega),λc hc=>?_⟩,λv hv=>⟨λ_ h=>(by cases h),λhe _ hm=>?_⟩⟩
  .obtain⟨k,hk⟩:=z3 c hc;exact bP (o3 k c hk).1 (by omega)
  .obtain⟨m,hm⟩:=hm;obtain⟨m',h1,h2⟩:=hv (by simpa using he) m (yU z3 hm) (yU x3 hm) λi h hk=>yU (y2 i h hk).2 hm;exact⟨m',λk c hk=>h1 c (z4 k ((I2 k).2 (by rw[hk];rfl)) c hk),h2⟩
theorem v53(s:cz)(ch:aU)(hp:SK s ch):VC53 s ch (nj s ch):=by
 unfold VC53 iF lN dE;obtain⟨ok,hl,k1,k2,k3,k4,k5⟩:=hp;intro _ _;refine⟨λ_ h=>(by cases h),λ_ b _=>⟨λ_ h=>(by cases h),λ_ t ht=>⟨λ_ h=>(by cases h),λhtf=>?_⟩⟩⟩;have ht:=ht (by simpa using htf);have alG:thr s.Hints ch:=λx hx=>by grind[dj]
 refine⟨⟨ok,k1,k2,alG⟩,λe he=>⟨λhn h=>absurd (show e=0 from h) (by simpa using hn),λhz=>⟨show _<=_ by omega,?_⟩⟩⟩;have he:=he (by simpa using hz);rintro _ rfl _ _;obtain⟨o1,o2,o3⟩:=ok;have A9:=ME ch.clauses s.Id s.mT;unfold bE;refine⟨⟨Su o1 _ _,by dsimp only;omega,λk c hk=>?_⟩,A9,λhm=>?_,λhd=>?_⟩
 .rw[Go.Sv.jd]at hk;split at hk
  .rename_i e;cases hk;exact⟨k1,e▸⟨show(-9223372036854775808:Int)<=s.Id by omega,show s.Id<=9223372036854775807 by omega⟩⟩
  .exact o3 k c hk
 .obtain⟨m,h1,h2⟩:=he hm;refine⟨m,λk c hk=>?_⟩;rw[Go.Sv.jd]at hk;split at hk
  .cases hk;exact h2
  .exact h1 k c hk
 .cases hcd:ch.done with
  |true=>exact .inl rfl
  |false=>right;rintro⟨m,hm⟩;obtain⟨x,hx,_⟩:=hm s.Id s.mT (by rw[Go.Sv.jd,if_pos rfl]);grind
theorem v20(s:cz)(ch:aU)(hp:KQ s ch):VC20 s ch (mG s ch):=by
 unfold VC20 iF;obtain⟨ok,hl⟩:=hp;rintro _ _ _ rfl;refine⟨λh=>(by cases h),λ_ r hr=>⟨λhn h=>absurd (show r.2=0 from h) (by simpa using hn),λhz=>⟨λ_ q hq _=>?_,λ_=>?_⟩⟩⟩
 .obtain⟨h1,h2,h3,h4⟩:=hq ok;exact⟨h1,by omega,λ⟨m,hm⟩=>⟨m,λk c hk=>hm k c (h4 k c hk)⟩,λhd=>.inl (by rw[←h2];exact hd)⟩
 .exact⟨⟨ok,hl,hr (by simpa using hz) s aI⟩,λq hq=>hq⟩
theorem v8(f:bJ)(l:List cz)(hp:MN f l):VC8 f l (tF f l):=by
 unfold VC8 iF bD lN wI dE ZA QG;intro _ _ r hr;unfold MN at hp;refine⟨λhn=>⟨λ_ h=>absurd (show r.2=0 from h) (by simpa using hn),λh=>by rw[hn]at h;cases h⟩,λhz=>?_⟩;obtain⟨f1,f2⟩:=hr (by simpa using hz);refine⟨λx la d cl=>0<=x/\x<=f.bL.length/\la=x/\nd cl/\cl.length<=x/\(∀k c,bB cl k=some c->c∈f.bL/\0<=k/\k<=x)/\(d=true->[]∈f.bL),λx _ _ _=>(f.bL.length-x).toNat,⟨by omega,by omega,rfl,by simp[nd],by simp,λk c h=>(by cases h),λh=>(by cases h)⟩,?_⟩;rintro x la d cl ⟨x0,x1,rfl,x3,x4,x5,x6⟩;refine⟨λhx=>?_,λhx=>⟨λh=>(by cases h),λ_=>?_⟩⟩
 .have hx:=aF hx;have hm:=dq x0 hx;rw[dj (n:=la+1) (by omega) (by omega)];refine⟨⟨x0,hx⟩,λ_=>⟨bP (f2 _ hm) (by omega),?_⟩⟩;rintro _ rfl _;have A9:=ME cl (la+1) (gi f.bL la);unfold bE;refine⟨⟨by omega,by omega,rfl,Su x3 _ _,by omega,λk c hk=>?_,λhd=>?_⟩,by dsimp only;omega⟩
  .rw[Go.Sv.jd]at hk;split at hk
   .rename_i e;cases hk;exact⟨hm,by omega,by omega⟩
   .have:=x5 k c hk;exact⟨this.1,by omega,by omega⟩
  .cases d with
   |true=>exact x6 rfl
   |false=>simp_all
 refine⟨λi la d cl=>0<=i/\i<=l.length/\Gz ⟨cl,la,d⟩/\cl.length<=1000000+i/\((∃m,yq m f.bL)->∃m,KE m cl)/\(d=true->¬∃m,yq m f.bL),λi _ _ _=>(l.length-i).toNat,⟨by omega,by omega,⟨x3,by dsimp only;omega,λk c hk=>⟨f2 c (x5 k c hk).1,show(-9223372036854775808:Int)<=k by have:=x5 k c hk;omega,show k<=9223372036854775807 by have:=x5 k c hk;omega⟩⟩,by omega,λ⟨m,hm⟩=>⟨m,λk c hk=>hm c (x5 k c hk).1⟩,λhd ⟨m,hm⟩=>?_⟩,?_⟩
 .obtain⟨y,hy,_⟩:=hm [] (x6 hd);cases hy
 rintro i la2 d2 cl2 ⟨i0,i1,i2,i3,i4,i5⟩;refine⟨λhi=>?_,λhi=>?_⟩
 .have hi:=aF hi;rw[dj (n:=i+1) (by omega) (by omega)];refine⟨⟨i0,hi⟩,λ_ _=>⟨⟨i2,by dsimp only;omega⟩,λq hq=>⟨λhn h=>absurd (show q.1=0 from h) (by simpa using hn),λhz=>?_⟩⟩⟩;obtain⟨s1,s2,s3,s4⟩:=hq (by simpa using hz);dsimp only at s2;refine⟨⟨by omega,by omega,s1,by omega,λh=>s3 (i4 h),λhd=>?_⟩,by dsimp only;omega⟩;rcases s4 hd with h|h
  .exact i5 h
  .exact λhF=>h (s3 (i4 hF))
 .rintro _ rfl;exact⟨λ_ h=>(by cases h),λhd _=>i5 (by simpa[jX]using hd)⟩
theorem v176(h:List Int)(hp:MJ h):VC176 h (qJ h):=by
 unfold VC176 iF bD lN wI dE IH;intro _;unfold MJ at hp;refine⟨λa G x=>0<=x/\x<=h.length/\(∀y∈a,0<=y/\y∈h)/\a.length<=x/\G.length<=x/\∀g∈G,g≠[]/\g.length<=x/\gi g 0∈h/\∀y∈g.drop 1,0<=y/\y∈h,λ_ _ x=>(h.length-x).toNat,⟨by omega,by omega,by simp,by simp,by simp,by simp⟩,?_⟩;rintro a G x ⟨x0,x1,x2,x3,x4,x5⟩;refine⟨λhx=>?_,λhx=>?_⟩
 .have hx:=aF hx;have hm:=dq x0 hx;unfold VC176_J2 wI GD;rw[dj (n:=x+1) (by omega) (by omega),dj (n:=((G.length:Nat):Int)-1) (by omega) (by omega)];have up:∀g∈G,g≠[]/\g.length<=x+1/\gi g 0∈h/\∀y∈g.drop 1,0<=y/\y∈h:=λg hg=>by grind
  refine⟨⟨x0,hx⟩,λ_=>⟨by omega,⟨by omega,by omega,x2,by omega,by simp;omega,λg hg=>?_⟩,by dsimp only;omega⟩,λhn=>?_⟩
  .rcases aV.1 hg with hg|hg
   .exact up g hg
   .rw[aY]at hg;rw[hg];exact⟨by simp,by simp;omega,hm,by simp⟩
  .have hn:=aL hn;refine⟨λhk=>⟨by simp;omega,⟨by omega,by omega,λy hy=>?_,by simp;omega,by omega,up⟩,by dsimp only;omega⟩,λhk=>?_⟩
   .rcases aV.1 hy with hy|hy
    .exact x2 y hy
    .rw[aY]at hy;rw[hy];exact⟨by omega,hm⟩
   .have hk:=aL hk;have ags:=dq (l:=G) (i:=(G.length:Int)-1) (by omega) (by omega);obtain⟨g0,g1,g2,g3⟩:=x5 _ ags;generalize gi G ((G.length:Int)-1)=g at *; refine⟨⟨by omega,by omega⟩,by simp;omega,⟨by omega,by omega⟩,⟨by omega,by omega,x2,by omega,by simp;omega,λg' hg=>?_⟩,by dsimp only;omega⟩;rcases aV.1 hg with hg|hg
    .exact up g' (List.dropLast_subset G hg)
    .rw[aY]at hg;rw[hg];have uA:=lB.2 g0;refine⟨by simp,by simp;omega,?_,λy hy=>?_⟩
     .have e:gi (g++[gi h x]) 0=gi g 0:=by grind[kR,List.getElem_append_left]
      rw[e];exact g2
     .rw[sN (by omega)]at hy;rcases aV.1 hy with hy|hy
      .exact g3 y hy
      .rw[aY]at hy;rw[hy];exact⟨by omega,hm⟩
 .have hx:=aL hx;exact⟨x2,by dsimp only;omega,λg hg=>by obtain⟨a,b,c⟩:=x5 g hg;exact⟨a,by omega,c⟩⟩
end
end Go.Proofs.Y
namespace Go.Proofs.Y
open Go Go.Sv Go.Pu
section
theorem abC{m:List Bool}{x:Int}(h:yN m x=true):hl (λv=>if v<=m.length then gi m (v-1)else false) x:=by
 unfold yN at h;rw[ak]at h;obtain⟨h1,h2⟩:=h;have h2:=eq_of_beq h2;have e:(fR x).1=varOf x/\(varOf x≠0->(fR x).2=decide (x>0)):=by
  unfold fR varOf;split
  .rename_i h;exact⟨rfl,λ_=>by simp[h.1]⟩
  .split
   .rename_i h;exact⟨by simp,λ_=>by simp;omega⟩
   .exact⟨rfl,λh=>absurd rfl h⟩
 rw[e.1]at h1 h2;have hv:varOf x≠0:=by simpa using h1
 have:=Eh x;exact⟨by omega,h2.trans (e.2 hv)⟩
theorem W8{m:List Bool}{C:List (List Int)}(h:C.all (wJ m)=true):∃M,yq M C:=by
 refine⟨λv=>if v<=m.length then gi m (v-1)else false,λc hc=>?_⟩;obtain⟨x,hx,hh⟩:=nM.1 (aO.1 h c hc);exact⟨x,hx,abC hh⟩
theorem Qp{s:Bs}(h:(dv s).2.2.2≠0):(bZ s).1.lY=[]:=by
 show(nI s).2.1=[]
 have h:(nI s).2.2.2≠0:=h;unfold nI at h ⊢; split at h
 .rename_i h1;rw[if_pos h1]
 .rename_i h1;rw[if_neg h1];unfold JO at h ⊢; split at h
  .rename_i h2;rw[if_pos h2]
  .rename_i h2;rw[if_neg h2];split at h
   .rename_i h3;rw[if_pos h3]
   .exact absurd rfl h
theorem Yf{s:Bs}{r:kz}(h:uS s r)(hl:r.L.length<=4):wZ s/\HZ s:=by
 by_cases e:(dv s).2.2.2=0
 .have:=(h.1 e).2;rw[this]at hl;exact⟨hl,λ_=>hl⟩
 .refine⟨?_,λh=>absurd h e⟩;unfold wZ;rw[Qp e];unfold lI;split<;>simp[opsOf,rX]
theorem Ye{s:Bs}{f:bJ}{l:List cz}{r:Int×Int}{b:Bool}(hp:wZ s)(hf:RP s f)(hr:tF f l r)(h0:r.2=0)(hb:yf s b):b=false:=by
 obtain⟨h1,z,hz,hc⟩:=hf;refine fC λhn=>?_;have hb1:b=true:=by cases b;exact absurd rfl hn;rfl
 have hb:=hb h1;rw[hb1]at hb;have hne:=aF hb.symm;obtain⟨p,hpm⟩:=List.exists_mem_of_ne_nil _ hne;obtain⟨e1,ho,hco,_,_⟩:=Bl hz;have hw:=(YQ ho hco (show(lI (bZ s).1.lY).1.length<=5 from bP hp (by decide))).1 hpm;obtain⟨m,_,hm⟩:=TG hz hw;rw[←e1,←hc]at hm;exact hr h0 (W8 hm)
theorem v3(s:Bs)(l:List cz):VC3 s l (λr=>r=true):=by
 unfold VC3 iF lN dE;have j1:∀b,(b=false->l.length<=60/\wZ s/\HZ s)->VC3_J1 s l (λr=>r=true) b:=by
  intro b hb;refine⟨λ_=>by rintro _ rfl;rfl,λhf=>?_⟩;obtain⟨hl,h1,h2⟩:=hb hf;refine⟨h1,λr hr _=>⟨λhn=>⟨λ_=>by rintro _ rfl;rfl,λh=>?_⟩,λhz=>⟨show _<=_ by omega,λq hq=>⟨λh0=>⟨h2,λb hb=>⟨λht=>?_,λ_=>by rintro _ rfl;rfl⟩⟩,λ_=>⟨λh=>(by cases h),λ_=>by rintro _ rfl;rfl⟩⟩⟩⟩⟩
  .rw[hr.1 (by simpa using hn)]at h;cases h
  .rw[Ye h1 (hr.2 (by simpa using hz)) hq (eq_of_beq h0) hb]at ht;cases ht
 intro _;refine⟨λ_=>j1 _ λh=>(by cases h),λ_=>?_⟩;rintro _ rfl;refine⟨λ_=>j1 _ λh=>(by cases h),λagD r hr _ _ _=>j1 _ λhL=>?_⟩;rw[cO]at agD;have h60:=aL agD.2;have hL:=aL hL;exact⟨by omega,Yf hr (by omega)⟩
end
end Go.Proofs.Y
namespace Go.Te
open Go Go.Sv Go.Proofs Go.Proofs.Y
section
section
variable{P:Program}{f:FuncId}{vals:Array Value}{w:World}{χ:Nat->Nat}{post:World->(Nat->Nat)->Value->Prop}
theorem WD(h:Bf P f vals (pR []) w χ post):Bf P f vals eN w χ post :=
 Calls.mono h λ_ _ ⟨v,χ',h1,h2,h3⟩=>⟨v,χ',h1,⟨h2.os,h2.tape,h2.output,h2.size,λb hb _=>h2.keep b hb rfl⟩,h3⟩
theorem aaK(h:Bf P f vals eN w χ post):Bf P f vals (pR []) w χ post :=
 Calls.mono h λ_ _ ⟨v,χ',h1,h2,h3⟩=>⟨v,χ',h1,⟨h2.os,h2.tape,h2.output,h2.size,λb hb _=>h2.keep b hb rfl⟩,h3⟩
end
def H1:Hd:=⟨λ_=>0,λ_=>0,λ_=>0,λ_=>0,λi=>1001+i⟩
theorem Wx(h:mW Tryz.prog 214 s214):S214:=λw χ x y hp =>
 (WD (h w χ (x,y,()) H1 [.int .u64 x,.int .u64 y] (λp e=>by cases e;exact hp) ⟨rfl,rfl,trivial,rfl⟩ (λe he=>by cases he) (λc hc=>by cases hc) (λq b hq=>absurd hq (pD q)) (λi=>Nat.le_add_right _ _))).mono λw' χ' v _ ⟨r,vs,hr,hv,hP⟩=>by
  match vs,hP with
  |[v1,v2],⟨h1,h2,_⟩=>cases h1;cases h2;have hr:gH x y=r:=hr;rw[hv,hr];rfl
theorem Wz(h:mW Tryz.prog 135 s135):S135:=λw χ x y hp =>
 (WD (h w χ (x,y,()) H1 [.string (bs x),.string (bs y)] (λp e=>by cases e;exact hp) ⟨rfl,rfl,trivial,rfl⟩ (λe he=>by cases he) (λc hc=>by cases hc) (λq b hq=>absurd hq (pD q)) (λi=>Nat.le_add_right _ _))).mono λw' χ' v _ ⟨r,vs,hr,hv,hP⟩=>by
  match vs,hP with
  |[v1],⟨h1,_⟩=>cases h1;have hr:fX x y=r:=hr;rw[hv,hr];rfl
theorem Wy(h:mW Tryz.prog 136 s136):S136:=λw χ x y =>
 (WD (h w χ (x,y,()) H1 [.string (bs x),.int .u8 y] (λp e=>by cases e) ⟨rfl,rfl,trivial,rfl⟩ (λe he=>by cases he) (λc hc=>by cases hc) (λq b hq=>absurd hq (pD q)) (λi=>Nat.le_add_right _ _))).mono λw' χ' v _ ⟨r,vs,hr,hv,hP⟩=>by
  match vs,hP with
  |[v1],⟨h1,_⟩=>cases h1;have hr:strings_IndexByte x y=r:=hr;rw[hv,hr];rfl
theorem h130(k:mW Tryz.prog 214 s214):mW Tryz.prog 130 s130:=by
 rintro w χ ⟨x,n,u⟩ H vals uz hA _ _ _ _
 match vals,hA with
 |[v1,v2],⟨⟨a,c,e1,hR⟩,h2,_⟩=>cases e1;cases h2;refine(aaK (W130 (Wx k) w χ x n a c (H.r 0) (λr=>r=fA x n) (v130 x n (uz _ rfl)) hR)).mono ?_;rintro w' χ' v _ ⟨r,hq,ra,rc,rfl,hO⟩;exact⟨r,[_],hq.symm,rfl,⟨ra,rc,rfl,hO⟩,trivial⟩
theorem h83(k:mW Tryz.prog 135 s135)(k2:mW Tryz.prog 136 s136):mW Tryz.prog 83 s83:=by
 rintro w χ ⟨x,n,m,u⟩ H vals uz hA _ _ _ _
 match vals,hA with
 |[v1,v2,v3],⟨h1,h2,h3,_⟩=>cases h1;cases h2;cases h3;refine(aaK (W83 (Wz k) (Wy k2) w χ x n m (λr=>r=jq x n m) (v83 x n m (uz _ rfl)))).mono ?_;rintro w' χ' v _ ⟨r,hq,ra,rc,rfl,hO⟩;exact⟨r,[_],hq.symm,rfl,⟨ra,rc,rfl,hO⟩,trivial⟩
theorem h176:mW Tryz.prog 176 s176:=by
 rintro w χ ⟨x,u⟩ H vals uz hA _ _ _ _
 match vals,hA with
 |[v1],⟨⟨a,c,e1,hR⟩,_⟩=>cases e1;refine(aaK (W176 w χ x a c (qJ x) (v176 x (uz _ rfl)) hR)).mono ?_;rintro w' χ' v _ ⟨r,hq,ra,rc,ra2,rc2,rfl,hO,hO2⟩;exact⟨r,[_,_],hq,rfl,⟨ra,rc,rfl,hO⟩,⟨ra2,rc2,rfl,hO2⟩,trivial⟩
theorem DZ.at{l:List (Nat×Spec)}(o:DZ l)(i:Nat)(S:Spec)(e:aa l i=some S:=by kernel_rfl):mW Tryz.prog S.fd S:=(o i S e).2
end
end Go.Te
