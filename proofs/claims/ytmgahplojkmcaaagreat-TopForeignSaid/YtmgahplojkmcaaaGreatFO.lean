/- Lemmas. Conditions: their own. -/
import Derived.Test.YtmgahplojkmcaaaGreatEY
import Derived.Test.YtmgahplojkmcaaaGreatExXA
import Derived.Test.YtmgahplojkmcaaaGreatExXB
import Derived.Test.YtmgahplojkmcaaaGreatExXC
import Derived.Test.YtmgahplojkmcaaaGreatExXD
set_option linter.all false
namespace Go.Ex
open Go Go.Sv Go.Proofs Go.Proofs.Y
section
def Km(P:Program)(Q:Exit->Act->World->Prop):List Code->Act->World->Prop
 |[],a,w=>Q .normal a w
 |c::l,a,w=>c.wp P (Exit.then (Km P Q l) Q) a w
theorem Ek{P:Program}{N N':Act->World->Prop}{Q Q':Exit->Act->World->Prop}(h:∀a w,N a w->N' a w)(hQ:∀e a w,Q e a w->Q' e a w):∀e a w,Exit.then N Q e a w->Exit.then N' Q' e a w:=by
 intro e a w q;cases e<;>first|exact h _ _ q|exact hQ _ _ _ q
theorem Mf{P:Program}{Q:Exit->Act->World->Prop}:∀(l q:List Code)(a:Act)(w:World),Km P Q (l++q) a w->Km P (Exit.then (Km P Q q) Q) l a w
 |[],q,a,w,h=>h
 |c::l,q,a,w,h=>wp_mono h λe a w k=>by
  cases e with
  |normal=>exact Mf l q a w k
  |_=>exact k
theorem FN{P:Program}:∀(c:Code) {Q:Exit->Act->World->Prop} {a:Act} {w:World},Km P Q (flat c) a w->c.wp P Q a w
 |.seq x y,Q,a,w,h=>by
  refine wp_seq (FN x ?_);have h:=Mf (flat x) (flat y) a w h;have mono:∀(l:List Code) {Q Q':Exit->Act->World->Prop} (hQ:∀e a w,Q e a w->Q' e a w) (a:Act) (w:World),Km P Q l a w->Km P Q' l a w:=by
   intro l
   induction l with
   |nil=>intro Q Q' hQ a w h;exact hQ _ _ _ h
   |cons c l ih=>intro Q Q' hQ a w h;exact wp_mono h (Ek (P:=P) (ih hQ) hQ)
  refine mono (flat x) (Ek (P:=P) (λa w k=>FN y k) λ_ _ _ k=>k) a w h
 |.skip,Q,a,w,h | .label _,Q,a,w,h | .exit _,Q,a,w,h | .goto _,Q,a,w,h | .ret,Q,a,w,h | .refuse ..,Q,a,w,h | .rangeFunc ..,Q,a,w,h | .region ..,Q,a,w,h | .cond ..,Q,a,w,h | .block ..,Q,a,w,h | .loop ..,Q,a,w,h | .scope ..,Q,a,w,h=>wp_mono h λe a w k=>by cases e<;>exact k
theorem MB{call:FuncId->List V1->Z->Ld}(O:OK Tryz.prog HB DW HG E9 wM call)(D:vN Tryz.prog HB DW HG E9 wM call){w0:World}{nt:Nat}{Q:Exit->Act->World->Prop}{q:List Code}{r':Go.Ex.R}{z':Z}(hc:call=ze):
  ∀(l:List Code) {M:Mp} {a:Act} {w:World} {r:Go.Ex.R} {z:Z},RR nt M r a->Rel w0 M z w->fY nt l r z=some (.n,r',z')->(∀a' w',V8 w0 nt M z r' z' a' w'->Km Tryz.prog Q q a' w')->Km Tryz.prog Q (l++q) a w
 |[],M,a,w,r,z,h,R,e,k=>by cases e;exact k a w ⟨M,Ext.refl _ _,h,R⟩
 |c::l,M,a,w,r,z,h,R,e,k=>by
  have e:sqK (fY nt l) (j9 Tryz.prog HB DW HG E9 wM ze nt 10 none c r z)=some (.n,r',z'):=e;cases hb:j9 Tryz.prog HB DW HG E9 wM ze nt 10 none c r z with
  |none=>rw[hb]at e;cases e
  |some y =>
   obtain⟨x1,r1,z1⟩:=y;rw[hb]at e;rw[←hc]at hb;refine wp_mono ((Hg O D w0 nt 10).p h R hb) ?_;rintro e1 a1 w1 ⟨rfl,M1,h1,h2,h3⟩;cases x1 with
   |n=>exact MB O D hc l h2 h3 e λa' w' h'=>k a' w' (h'.trans h1)
   |x id=>cases e
   |g l=>cases e
   |r=>cases e
theorem BB{rl:List (Nat×AV)}{hl:List (Nat×Bk)}{n:Nat}{call:FuncId->List V1->Z->Ld}(O:OK Tryz.prog HB DW HG E9 wM call)(D:vN Tryz.prog HB DW HG E9 wM call)(hc:call=ze){w0:World}{nt:Nat}{Q:Exit->Act->World->Prop}{q l:List Code}
  {M:Mp} {a:Act} {w:World} {r:Go.Ex.R} {z:Z} (h:RR nt M r a) (R:Rel w0 M z w) (e:vC rl hl n (fY nt l r z)=true) (k:∀M' a' w',RR nt M' (xW rl) a'->Rel w0 M' ⟨xW hl,n,0⟩ w'->Km Tryz.prog Q q a' w'):Km Tryz.prog Q (l++q) a w:=by
 obtain⟨r1,z1,e1,h1⟩:=LQ (w0:=w0) (nt:=nt) (M:=M) (z0:=z) e;refine MB O D hc l h R e1 λa' w' hs=>?_;obtain⟨M',_,h2,h3⟩:=h1 a' w' hs;exact k M' a' w' h2 h3
theorem PX{call:FuncId->List V1->Z->Ld}(O:OK Tryz.prog HB DW HG E9 wM call)(D:vN Tryz.prog HB DW HG E9 wM call)(hc:call=ze){w0:World}{nt:Nat}{Q:Exit->Act->World->Prop}{l:List Code}{M:Mp}{a:Act}{w:World}{r:Go.Ex.R}{z:Z}
  (h:RR nt M r a) (R:Rel w0 M z w) {r1 r2 r3 r4:List (Nat×AV)} {h1 h2 h3 h4:List (Nat×Bk)} {n1 n2 n3 n4:Nat} (Ly:l.drop 8=[.ret])
  (e1:vC r1 h1 n1 (fY nt ((l.drop 0).take 2) r z)=true) (e2:vC r2 h2 n2 (fY nt ((l.drop 2).take 2) (xW r1) ⟨xW h1,n1,0⟩)=true)
  (e3:vC r3 h3 n3 (fY nt ((l.drop 4).take 3) (xW r2) ⟨xW h2,n2,0⟩)=true) (e4:vC r4 h4 n4 (fY nt ((l.drop 7).take 1) (xW r3) ⟨xW h3,n3,0⟩)=true)
  (k:∀M' a' w',RR nt M' (xW r4) a'->Rel w0 M' ⟨xW h4,n4,0⟩ w'->Km Tryz.prog Q [.ret] a' w'):Km Tryz.prog Q l a w:=by
 have abZ:l=(l.drop 0).take 2++((l.drop 2).take 2++((l.drop 4).take 3++((l.drop 7).take 1++[.ret]))):=by rw[←Ly,show l.drop 8=(l.drop 7).drop 1 by rw[kx],lC,show l.drop 7=(l.drop 4).drop 3 by rw[kx],lC,show l.drop 4=(l.drop 2).drop 2 by rw[kx],lC,nL,lC]
 rw[abZ];refine BB O D hc h R e1 λM1 a1 w1 h1 R1=>?_;refine BB O D hc h1 R1 e2 λM2 a2 w2 h2 R2=>?_;refine BB O D hc h2 R2 e3 λM3 a3 w3 h3 R3=>?_;exact BB O D hc h3 R3 e4 k
theorem R0(w:World):Rel w (λ_=>none) ⟨.e,0,0⟩ w:=⟨rfl,rfl,rfl,aK _,λ_ _=>rfl,λ_ _=>rfl,λ_ _ _ _ h=>(by cases h),λ_ _ _ _ _ _ _ _ h=>(by cases h),λ_ _ _ h=>(by cases h)⟩
theorem ag5:(get Z0 6).isSome=true:=by kernel_rfl
theorem acX:Go.Ex.f5.drop 8=[.ret]:=by kernel_rfl
theorem Yk{fn:Func}(hg:get Z0 6=some fn){c:Code}(hb:fn.body=some c):Go.Ex.f5=flat c:=by
 unfold Go.Ex.f5;rw[hg];simp only[hb]
theorem ag6{fn:Func}(hg:get Z0 6=some fn):fn=Tryz.f6:=by
 have:=Tryz.func6;rw[(F0 6 fn hg).1]at this;exact Option.some.inj this
theorem acW{call:FuncId->List V1->Z->Ld}(O:OK Tryz.prog HB DW HG E9 wM call)(D:vN Tryz.prog HB DW HG E9 wM call)(hc:call=ze){w:World}{a:Act}{Q:Exit->Act->World->Prop}{l:List Code}(hl:l=Go.Ex.f5)(h:RR 84 (λ_=>none) .e a)
  (k:∀M' a' w',RR 84 M' (xW rD) a'->Rel w M' ⟨xW hD,nD,0⟩ w'->Km Tryz.prog Q [.ret] a' w'):Km Tryz.prog Q l a w :=
 by
 have e1:=amJ;have e2:=amI;have e3:=amH;have e4:=amG;have e5:=acX;rw[←hl]at e1 e2 e3 e4 e5;exact PX O D hc h (R0 w) e5 e1 e2 e3 e4 k
theorem JP:∃call,call=ze/\OK Tryz.prog HB DW HG E9 wM call/\vN Tryz.prog HB DW HG E9 wM call:=by
 have C0:vO Tryz.prog ze:=DA T0 I0 zO F0 H0 (λcall hC=>Hc I0 T0 zO hC) 100;exact⟨_,rfl,⟨T0,I0,C0,zO⟩,Hc I0 T0 zO C0⟩
theorem Vo(w:World):Calls Tryz.prog 6 #[] w λe w'=>e=.returned (.bool true)/\∀χ,Ev (pR []) w χ w' χ:=by
 obtain⟨call,hc,O,D⟩:=JP;cases hg:get Z0 6 with
 |none=>have:=ag5;rw[hg]at this;cases this
 |some fn =>
  have Uu:=ag6 hg;subst Uu;have hb:∃c,Tryz.f6.body=some c:=⟨_,rfl⟩
  obtain⟨c,hb⟩:=hb;refine calls_of_wp Tryz.func6 hb (FN c ?_);refine acW O D hc (Yk hg hb).symm ?_ ?_
  .exact⟨by rw[Tryz.ntmps6];simp,rfl,λt av e=>(by cases e)⟩
  intro M4 a4 w4 h4 R4;refine wp_ret ?_;obtain⟨v,hv,XI⟩:=h4.al 0 (.o (.s (.v (.bool true)))) rfl;have XI:v=.bool true:=XI;subst XI;unfold Exit.then;refine bodyPost_ret (v:=.bool true) ?_ h4.defers ?_
  .simp[xp,show Tryz.f6.results=#[ResultVar.tmp 0]from rfl,rv,hv]
  .exact⟨rfl,λχ=>⟨R4.os,R4.tape,R4.output,R4.size,λb hb _=>⟨R4.lS b hb,rfl⟩⟩⟩
end
end Go.Ex
namespace Go.Te
open Go Go.Sv Go.Proofs Go.Proofs.Y
section
theorem h6:mW Tryz.prog 6 s6:=by
 rintro w χ u H vals uz hA _ _ _ _
 match vals,hA with
 |[],_=>refine Calls.mono (Go.Ex.Vo w) ?_;rintro e w' ⟨rfl,hE⟩;exact⟨_,χ,rfl,hE χ,true,[.bool true],rfl,rfl,rfl,trivial⟩
theorem o0:DZ l0:=(DZ.cons (DZ.cons (DZ.cons (l:=[]) (λi S e=>by cases e) 136 s136 h136) 217 s217 h217) 6 s6 h6)
end
end Go.Te
