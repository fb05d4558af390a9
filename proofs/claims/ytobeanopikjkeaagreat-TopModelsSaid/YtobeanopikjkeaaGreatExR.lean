/- The closed call returns true. Condition: the walk of Count. -/
import Derived.Test.YtobeanopikjkeaaGreatExZ
import Derived.Test.YtobeanopikjkeaaGreatExXA
import Derived.Test.YtobeanopikjkeaaGreatExXB
import Derived.Test.YtobeanopikjkeaaGreatExXC
import Derived.Test.YtobeanopikjkeaaGreatExXD
set_option linter.all false
namespace Go.Ex
open Go Go.Sv Go.Proofs Go.Proofs.YtobeanopikjkeaaGreat
def wpL (P:Program) (Q:Exit→Act→World→Prop):List Code→Act→World→Prop
 | [],a,w=>Q .normal a w
 | c :: l,a,w=>c.wp P (Exit.then (wpL P Q l) Q) a w
theorem uu {P:Program} {N N':Act→World→Prop} {Q Q':Exit→Act→World→Prop} (h:∀ a w,N a w→N' a w) (hQ:∀ e a w,Q e a w→Q' e a w):∀ e a w,Exit.then N Q e a w→Exit.then N' Q' e a w:=by
 intro e a w q
 cases e <;> first | exact h _ _ q | exact hQ _ _ _ q
theorem AY {P:Program} {Q:Exit→Act→World→Prop}:∀ (l q:List Code) (a:Act) (w:World),wpL P Q (l++q) a w→wpL P (Exit.then (wpL P Q q) Q) l a w
 | [],q,a,w,h=>h
 | c :: l,q,a,w,h=>wp_mono h fun e a w k=>by
  cases e with
  | normal=>exact AY l q a w k
  | _=>exact k
theorem vD {P:Program}:∀ (c:Code) {Q:Exit→Act→World→Prop} {a:Act} {w:World},wpL P Q (flat c) a w→c.wp P Q a w
 | .seq x y,Q,a,w,h=>by
  refine wp_seq (vD x ?_)
  have h:=AY (flat x) (flat y) a w h
  have mono:∀ (l:List Code) {Q Q':Exit→Act→World→Prop} (hQ:∀ e a w,Q e a w→Q' e a w) (a:Act) (w:World),wpL P Q l a w→wpL P Q' l a w:=by
   intro l
   induction l with
   | nil=>intro Q Q' hQ a w h; exact hQ _ _ _ h
   | cons c l ih=>intro Q Q' hQ a w h; exact wp_mono h (uu (P:=P) (ih hQ) hQ)
  refine mono (flat x) (uu (P:=P) (fun a w k=>vD y k) fun _ _ _ k=>k) a w h
 | .skip,Q,a,w,h | .label _,Q,a,w,h | .exit _,Q,a,w,h | .goto _,Q,a,w,h | .ret,Q,a,w,h | .refuse ..,Q,a,w,h | .rangeFunc ..,Q,a,w,h | .region ..,Q,a,w,h | .cond ..,Q,a,w,h | .block ..,Q,a,w,h | .loop ..,Q,a,w,h | .scope ..,Q,a,w,h=>wp_mono h fun e a w k=>by cases e <;> exact k
theorem Bf {call:FuncId→List V1→Z→Ld} (O:OK Tryz.prog yT xN yU wm oI call) (D:np Tryz.prog yT xN yU wm oI call) {w0:World} {nt:Nat} {Q:Exit→Act→World→Prop} {q:List Code} {r':Go.Ex.R} {z':Z} (hc:call=pZ) :
  ∀ (l:List Code) {M:Mp} {a:Act} {w:World} {r:Go.Ex.R} {z:Z},RR nt M r a→Rel w0 M z w→eK nt l r z=some (.n,r',z')→(∀ a' w',St' w0 nt M z r' z' a' w'→wpL Tryz.prog Q q a' w')→wpL Tryz.prog Q (l++q) a w
 | [],M,a,w,r,z,h,R,e,k=>by
  cases e
  exact k a w ⟨M,Ext.refl _ _,h,R⟩
 | c :: l,M,a,w,r,z,h,R,e,k=>by
  have e:sqK (eK nt l) (fY Tryz.prog yT xN yU wm oI pZ nt 10 none c r z)=some (.n,r',z'):=e
  cases hb:fY Tryz.prog yT xN yU wm oI pZ nt 10 none c r z with
  | none=>rw [hb] at e; cases e
  | some y =>
   obtain ⟨x1,r1,z1⟩:=y
   rw [hb] at e
   rw [← hc] at hb
   refine wp_mono ((wF O D w0 nt 10).p h R hb) ?_
   rintro e1 a1 w1 ⟨rfl,M1,h1,h2,h3⟩
   cases x1 with
   | n=>exact Bf O D hc l h2 h3 e fun a' w' h'=>k a' w' (h'.trans h1)
   | x id=>cases e
   | g l=>cases e
   | r=>cases e
theorem sq {rl:List (Nat × AV)} {hl:List (Nat × Bk)} {n:Nat} {call:FuncId→List V1→Z→Ld} (O:OK Tryz.prog yT xN yU wm oI call) (D:np Tryz.prog yT xN yU wm oI call) (hc:call=pZ) {w0:World} {nt:Nat} {Q:Exit→Act→World→Prop} {q l:List Code}
  {M:Mp} {a:Act} {w:World} {r:Go.Ex.R} {z:Z} (h:RR nt M r a) (R:Rel w0 M z w) (e:nc rl hl n (eK nt l r z)=true) (k:∀ M' a' w',RR nt M' (tS rl) a'→Rel w0 M' ⟨tS hl,n⟩ w'→wpL Tryz.prog Q q a' w'):wpL Tryz.prog Q (l++q) a w:=by
 obtain ⟨r1,z1,e1,h1⟩:=NC (w0:=w0) (nt:=nt) (M:=M) (z0:=z) e
 refine Bf O D hc l h R e1 fun a' w' hs=>?_
 obtain ⟨M',_,h2,h3⟩:=h1 a' w' hs
 exact k M' a' w' h2 h3
theorem Dy {call:FuncId→List V1→Z→Ld} (O:OK Tryz.prog yT xN yU wm oI call) (D:np Tryz.prog yT xN yU wm oI call) (hc:call=pZ) {w0:World} {nt:Nat} {Q:Exit→Act→World→Prop} {l:List Code} {M:Mp} {a:Act} {w:World} {r:Go.Ex.R} {z:Z}
  (h:RR nt M r a) (R:Rel w0 M z w) {r1 r2 r3 r4:List (Nat × AV)} {h1 h2 h3 h4:List (Nat × Bk)} {n1 n2 n3 n4:Nat} (Uy:l.drop 8=[.ret])
  (e1:nc r1 h1 n1 (eK nt ((l.drop 0).take 2) r z)=true) (e2:nc r2 h2 n2 (eK nt ((l.drop 2).take 2) (tS r1) ⟨tS h1,n1⟩)=true)
  (e3:nc r3 h3 n3 (eK nt ((l.drop 4).take 3) (tS r2) ⟨tS h2,n2⟩)=true) (e4:nc r4 h4 n4 (eK nt ((l.drop 7).take 1) (tS r3) ⟨tS h3,n3⟩)=true)
  (k:∀ M' a' w',RR nt M' (tS r4) a'→Rel w0 M' ⟨tS h4,n4⟩ w'→wpL Tryz.prog Q [.ret] a' w'):wpL Tryz.prog Q l a w:=by
 have MI:l=(l.drop 0).take 2++((l.drop 2).take 2++((l.drop 4).take 3++((l.drop 7).take 1++[.ret]))):=by
  rw [← Uy,show l.drop 8=(l.drop 7).drop 1 by rw [List.drop_drop],List.take_append_drop,show l.drop 7=(l.drop 4).drop 3 by rw [List.drop_drop],List.take_append_drop,show l.drop 4=(l.drop 2).drop 2 by rw [List.drop_drop],List.take_append_drop,List.drop_zero,List.take_append_drop]
 rw [MI]
 refine sq O D hc h R e1 fun M1 a1 w1 h1 R1=>?_
 refine sq O D hc h1 R1 e2 fun M2 a2 w2 h2 R2=>?_
 refine sq O D hc h2 R2 e3 fun M3 a3 w3 h3 R3=>?_
 exact sq O D hc h3 R3 e4 k
theorem R0 (w:World):Rel w (fun _=>none) ⟨.e,0⟩ w:=⟨rfl,rfl,rfl,Nat.le_refl _,fun _ _=>rfl,fun _ _=>rfl,fun _ _ _ h=>(by cases h),fun _ _ _ _ _ _ _ h=>(by cases h),fun _ _ _ h=>(by cases h)⟩
theorem QE:(get Nc 5).isSome=true:=by kernel_rfl
theorem NA:Go.Ex.f5.drop 8=[.ret]:=by kernel_rfl
theorem I9 {fn:Func} (hg:get Nc 5=some fn) {c:Code} (hb:fn.body=some c):Go.Ex.f5=flat c:=by
 unfold Go.Ex.f5
 rw [hg]
 simp only [hb]
theorem QF {fn:Func} (hg:get Nc 5=some fn):fn=Tryz.f5:=by
 have:=Tryz.func5
 rw [(F0 5 fn hg).1] at this
 exact Option.some.inj this
theorem Nz {call:FuncId→List V1→Z→Ld} (O:OK Tryz.prog yT xN yU wm oI call) (D:np Tryz.prog yT xN yU wm oI call) (hc:call=pZ) {w:World} {a:Act} {Q:Exit→Act→World→Prop} {l:List Code} (hl:l=Go.Ex.f5) (h:RR 84 (fun _=>none) .e a)
  (k:∀ M' a' w',RR 84 M' (tS rD) a'→Rel w M' ⟨tS hD,nD⟩ w'→wpL Tryz.prog Q [.ret] a' w'):wpL Tryz.prog Q l a w :=
 by
 have e1:=U1
 have e2:=U0
 have e3:=UZ
 have e4:=UY
 have e5:=NA
 rw [← hl] at e1 e2 e3 e4 e5
 exact Dy O D hc h (R0 w) e5 e1 e2 e3 e4 k
theorem yy (k7:S7):∃ call,call=pZ∧OK Tryz.prog yT xN yU wm oI call∧np Tryz.prog yT xN yU wm oI call:=by
 have C0:oY Tryz.prog pZ:=yz T0 I0 wj F0 (H0 k7) (fun call hC=>Ck I0 T0 wj hC) 100
 exact ⟨_,rfl,⟨T0,I0,C0,wj⟩,Ck I0 T0 wj C0⟩
theorem RF (k7:S7):S5:=by
 intro w χ
 obtain ⟨call,hc,O,D⟩:=yy k7
 cases hg:get Nc 5 with
 | none=>have:=QE; rw [hg] at this; cases this
 | some fn =>
  have IU:=QF hg
  subst IU
  have hb:∃ c,Tryz.f5.body=some c:=⟨_,rfl⟩
  obtain ⟨c,hb⟩:=hb
  refine calls_of_wp Tryz.func5 hb (vD c ?_)
  refine Nz O D hc (I9 hg hb).symm ?_ ?_
  ·exact ⟨by rw [Tryz.ntmps5]; simp,rfl,fun t av e=>(by cases e)⟩
  intro M4 a4 w4 h4 R4
  refine wp_ret ?_
  obtain ⟨v,hv,MF⟩:=h4.bc 0 (.o (.s (.v (.bool true)))) rfl
  have MF:v=.bool true:=MF
  subst MF
  unfold Exit.then
  refine bodyPost_ret (v:=.bool true) ?_ h4.defers ?_
  ·simp [ow,show Tryz.f5.results=#[ResultVar.tmp 0] from rfl,rv,hv]
  ·exact ⟨_,χ,rfl,⟨R4.os,R4.tape,R4.output,R4.size,fun b hb _=>⟨R4.old b hb,rfl⟩⟩,rfl⟩
end Go.Ex
