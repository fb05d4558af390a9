/- TopForeignSaid holds. No condition. -/
import Derived.Test.YtmgahplojkmcaaaGreatFM
import Derived.Test.YtmgahplojkmcaaaGreatOp
import Derived.Test.YtmgahplojkmcaaaGreatFA3
set_option linter.all false
namespace Go.Proofs.YtmgahplojkmcaaaGreat
open Go Go.Proofs.Y Go.Sv Go.Op Go.ChangeShapes Go.WideShapes Go.ChangeAt Go.RowKit
section
def Oj(x:cz):Prop:=zl .i64 x.Kind/\zl .i64 x.Id/\(∀x6∈x.mT,zl .i64 x6)/\(∀x7∈x.Hints,zl .i64 x7)
theorem O8:J8 Tryz.prog aeo Oj 44:=by
 intro H enc w base spare held fuel cs d ps h hw;obtain⟨hl,hf⟩:=Ih Tryz.underlying44 h hw;have hl:cs.length=4:=hl.trans (by kernel_rfl);obtain⟨c0,c1,c2,c3,rfl⟩:=akQ hl;clear hf;obtain⟨_,_,_,g0,w0⟩:=Bu Tryz.underlying44 h hw 0 (off:=0) (ft:=3) (k:=1) rfl rfl rfl (by kernel_rfl);obtain⟨y0,r0,u0⟩:=(MZ (bytes:=8) Tryz.underlying3) _ _ _ _ _ _ _ _ _ g0 w0;have r0:tI.R w z0 [c0] y0:=r0;cases r0;obtain⟨_,_,_,g1,w1⟩:=Bu Tryz.underlying44 h hw 1 (off:=1) (ft:=3) (k:=1) rfl rfl rfl (by kernel_rfl);obtain⟨y1,r1,u1⟩:=(MZ (bytes:=8) Tryz.underlying3) _ _ _ _ _ _ _ _ _ g1 w1;have r1:tI.R w z0 [c1] y1:=r1;cases r1;obtain⟨_,_,_,g2,w2⟩:=Bu Tryz.underlying44 h hw 2 (off:=2) (ft:=42) (k:=1) rfl rfl rfl (by kernel_rfl);obtain⟨y2,r2,u2⟩:=(GA Tryz.underlying42 (by kernel_rfl) (by kernel_rfl) (MZ (bytes:=8) Tryz.underlying3)) _ _ _ _ _ _ _ _ _ g2 w2;have r2:(tg tI).R w z0 [c2] y2:=r2;obtain⟨a2,k2,e2,q2⟩:=r2;cases e2;obtain⟨_,_,_,g3,w3⟩:=Bu Tryz.underlying44 h hw 3 (off:=3) (ft:=42) (k:=1) rfl rfl rfl (by kernel_rfl);obtain⟨y3,r3,u3⟩:=(GA Tryz.underlying42 (by kernel_rfl) (by kernel_rfl) (MZ (bytes:=8) Tryz.underlying3)) _ _ _ _ _ _ _ _ _ g3 w3;have r3:(tg tI).R w z0 [c3] y3:=r3;obtain⟨a3,k3,e3,q3⟩:=r3;cases e3;exact⟨⟨y0,y1,y2,y3⟩,⟨a2,k2,a3,k3,rfl,q2,q3⟩,u0,u1,u2,u3⟩
theorem own:ownKnob Tryz.prog.godebug=none:=by kernel_rfl
theorem laidOut:laidOutB Tryz.prog=true:=by kernel_rfl
set_option maxRecDepth 100000 in
theorem lifted3(os:Os)(started:os.Started)(H:Type)(enc:TypeId×Value->H):
  ReturnsInHanded {} Tryz.checked os 3 .any (Rows.topForeignSpec.pre6 enc Tryz.prog Tryz.f3 Rows.topForeignRow.domain false) (Rows.topForeignSpec.post enc Tryz.prog Tryz.f3 false true false false):=by
 refine returnsInHanded_of_change_sized (C:=Tryz.checked) own started (by kernel_rfl) Tryz.func3
  (ChangeSpec.witness6 (enc:=enc) (C:=Tryz.checked) false ⟨#[],#[.string ⟨#[]⟩,.slice none 0 0],[]⟩ 8 (by kernel_rfl) (by kernel_rfl) (by kernel_rfl) (by kernel_rfl)) ?_
 intro W base args ds gs before ZG hW ar5 jh _;have abV:∀(j:Nat) t v,Tryz.f3.params[j]?=some t->args[j]?=some v->Value.okWide Tryz.prog W .any base t v:=ZG;have hW':=hW;obtain⟨p,q,hA0,hV,rfl,Ja,ZN⟩:=hW;have alQ:Tryz.f3.params=#[9,22]:=by kernel_rfl
 have hA:DataW.TrodAll enc Tryz.prog W 0 (λ_=>true) true Tryz.f3.params.toList args.toList ds p:=hA0;rw[alQ]at hA abV jh;clear hA0 ZG;obtain⟨v0,vs0,d0,ds0,p0,q0,Fh,rfl,rfl,h0,r0⟩:=trodAll_cons hA;obtain⟨v1,vs1,d1,ds1,p1,q1,rfl,rfl,rfl,h1,r1⟩:=trodAll_cons r0;obtain⟨rfl,rfl,rfl⟩:=trodAll_nil r1;obtain rfl:args=#[v0,v1]:=by cases args;simp_all
 obtain⟨rfl,rfl⟩:=trodVars_none hV;obtain⟨zz0,jh⟩:=Mq (t:=9) jh;obtain⟨zz1,jh⟩:=Mq (t:=22) jh;have k0:=h0;have lt0:∀x∈p0,x.block<W.heap.size:=by obtain⟨m,hm⟩:=k0;exact DataW.trod_lt m _ _ _ hm
 obtain⟨aod,hf0⟩:=h0;have agj:=Lb Tryz.underlying9 (abV 0 9 v0 rfl rfl);obtain⟨s_,hR0,hv0⟩:=(ae3 Tryz.underlying9) _ _ _ _ _ _ _ _ _ hf0 zz0;rw[agj]at hR0;obtain rfl:v0=.string (bs s_):=head_eq hR0;have k1:=h1;have lt1:∀x∈p1,x.block<W.heap.size:=by obtain⟨m,hm⟩:=k1;exact DataW.trod_lt m _ _ _ hm
 obtain⟨aoc,hf1⟩:=h1;have agi:=O7 Tryz.underlying22 (abV 1 22 v1 rfl rfl);obtain⟨l_,hR1,hv1⟩:=(GA Tryz.underlying22 (by kernel_rfl) (by kernel_rfl) O8) _ _ _ _ _ _ _ _ _ hf1 zz1;rw[agi]at hR1;obtain⟨a1,c1,hR1,Hh1⟩:=hR1;obtain rfl:v1=.slice a1 l_.length c1:=head_eq hR1;refine(below ((Go.Te.WD ((Go.Te.ajs 3 Go.Te.s3 (by kernel_rfl)).2 W Go.Op.z0 (s_,l_,()) Go.Te.H1 [.string (bs s_),.slice a1 l_.length c1] (λp e=>by cases e) ⟨rfl,⟨a1,c1,rfl,Hh1⟩,trivial,rfl⟩ (λe he=>by cases he) (λc hc=>by cases hc) (λq b hq=>absurd hq (pD q)) (λi=>Nat.le_add_right _ _))).mono λw' χ' v _ ⟨r,vs,hr,hv,hP⟩=>by
  match vs,hP with
  |[v1],⟨h1,_⟩ =>
   cases h1;rw[hv,←hr];rfl) (post:=λ_ _ v=>v=.bool true)).mono λe W' ⟨⟨v,χ,he,hp⟩,bel⟩=>?_
 subst hp;subst he;exact⟨_,rfl,_,_,_,[],_,[],hW',trodAll_mk1 (shut_bool Tryz.underlying4 _),(trodAll_cons_mk (Below.trod laidOut (by kernel_rfl) (aF (by kernel_rfl)) k0 bel lt0) (trodAll_cons_mk (Below.trod laidOut (by kernel_rfl) (aF (by kernel_rfl)) k1 bel lt1) trodAll_mk0)),rfl,bel.frame _,λh=>by cases h⟩
theorem holds3:Rows.TopForeignSaid :=
 OpenClaim.holds_of_wide 3 Tryz.f3 rfl rfl rfl rfl rfl rfl rfl ⟨rfl,rfl,rfl,rfl,rfl⟩ rfl rfl rfl rfl rfl (by kernel_rfl) Tryz.func3 Yw
  (aF (by kernel_rfl)) (by unfold Func.isWrapper;first|(rw[if_pos (by decide +kernel)];kernel_rfl)|(rw[if_neg (by decide +kernel)];exact⟨rfl,rfl⟩))
  (λos started H enc _=>lifted3 os started H enc)
end
end Go.Proofs.YtmgahplojkmcaaaGreat
