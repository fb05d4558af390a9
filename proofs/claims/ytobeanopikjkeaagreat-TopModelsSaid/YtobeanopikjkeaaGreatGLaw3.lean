/- The statement TopModelsSaid of the seat's rows holds. Conditions: those of the row, no other. -/
import Derived.Test.YtobeanopikjkeaaGreatGChain3
set_option linter.all false
namespace Go.Proofs.YtobeanopikjkeaaGreat
open Go Go.Sv Go.Op Go.ChangeShapes Go.WideShapes Go.ChangeAt Go.RowKit
set_option maxRecDepth 100000 in
theorem lifted3 (os:Os) (started:os.Started) (H:Type) (enc:TypeId × Value→H) :
    ReturnsInHanded {} Tryz.checked os 3 .any (Rows.topModelsSpec.pre6 enc Tryz.prog Tryz.f3 Rows.topModelsRow.domain false) (Rows.topModelsSpec.post enc Tryz.prog Tryz.f3 false true false false):=by
  refine returnsInHanded_of_change_sized (C:=Tryz.checked) own started (by kernel_rfl) Tryz.func3
    (ChangeSpec.witness6 (enc:=enc) (C:=Tryz.checked) false ⟨#[],#[.agg #[.int .i64 0,.int .i64 0,.int .i64 0,.slice none 0 0],.slice none 0 0],[]⟩ 8 (by kernel_rfl) (by kernel_rfl) (by kernel_rfl) (by kernel_rfl)) ?_
  intro W base args ds gs before Kf hW Z5 gB _
  have MG:∀ (j:Nat) t v,Tryz.f3.params[j]?=some t→args[j]?=some v→Value.okWide Tryz.prog W .any base t v:=Kf
  have hW':=hW
  obtain ⟨p,q,Ec,hV,rfl,BZ,MM⟩:=hW
  have T9:Tryz.f3.params=#[24,25]:=by kernel_rfl
  have hA:DataW.TrodAll enc Tryz.prog W 0 (fun _=>true) true Tryz.f3.params.toList args.toList ds p:=Ec
  rw [T9] at hA MG gB
  clear Ec Kf
  obtain ⟨v0,vs0,d0,ds0,p0,q0,u6,rfl,rfl,h0,r0⟩:=trodAll_cons hA
  obtain ⟨v1,vs1,d1,ds1,p1,q1,rfl,rfl,rfl,h1,r1⟩:=trodAll_cons r0
  obtain ⟨rfl,rfl,rfl⟩:=trodAll_nil r1
  obtain rfl:args=#[v0,v1]:=by cases args; simp_all
  obtain ⟨rfl,rfl⟩:=trodVars_none hV
  obtain ⟨Xn,gB⟩:=Bb (t:=24) gB
  obtain ⟨Xm,gB⟩:=Bb (t:=25) gB
  have k0:=h0
  have Y4:∀ x∈p0,x.block < W.heap.size:=by obtain ⟨m,hm⟩:=k0; exact DataW.trod_lt m _ _ _ hm
  obtain ⟨W5,P9⟩:=h0
  obtain ⟨U2,rfl,_⟩:=okWide_struct Tryz.underlying24 (MG 0 24 v0 rfl rfl)
  obtain ⟨o_,Hz,hv0⟩:=xM _ _ _ _ _ _ _ _ _ P9 Xn
  obtain ⟨a1,c1,Hz,Hh1⟩:=Hz
  have Hz:U2.toList=[.int .i64 o_.ab,.int .i64 o_.aP,.int .i64 o_.aU,.slice a1 o_.Rows.length c1]:=Hz
  obtain rfl:U2=#[.int .i64 o_.ab,.int .i64 o_.aP,.int .i64 o_.aU,.slice a1 o_.Rows.length c1]:=by cases U2; simpa using Hz
  have k1:=h1
  have Y3:∀ x∈p1,x.block < W.heap.size:=by obtain ⟨m,hm⟩:=k1; exact DataW.trod_lt m _ _ _ hm
  obtain ⟨W0,Uw⟩:=h1
  have PN:=Db Tryz.underlying25 (MG 1 25 v1 rfl rfl)
  obtain ⟨l_,Sz,hv1⟩:=(BC Tryz.underlying25 (by kernel_rfl) (by kernel_rfl) Dc) _ _ _ _ _ _ _ _ _ Uw Xm
  rw [PN] at Sz
  obtain ⟨a2,c2,Sz,Hh2⟩:=Sz
  obtain rfl:v1=.slice a2 l_.length c2:=head_eq Sz
  refine (below ((W3 s10 s11 s4 s5 s6 s7 s8 s9 W Go.Op.z0 o_ l_ a1 c1 a2 c2 (fun r=>r=true) (v3 o_ l_ hv0 hv1) Hh1 Hh2).mono (fun _ _ _ _ ⟨r,hr,hp⟩=>(hp.trans (by rw [hr])))) (post:=fun _ _ v=>v=.bool true)).mono fun e W' ⟨⟨v,χ,he,hp⟩,Vi⟩=>?_
  subst hp
  subst he
  exact ⟨_,rfl,_,_,_,[],_,[],hW',trodAll_mk1 (shut_bool Tryz.underlying4 _),(trodAll_cons_mk (Below.trod laidOut (by kernel_rfl) (of_decide_eq_true (by kernel_rfl)) k0 Vi Y4) (trodAll_cons_mk (Below.trod laidOut (by kernel_rfl) (of_decide_eq_true (by kernel_rfl)) k1 Vi Y3) trodAll_mk0)),rfl,Vi.frame _,fun h=>by cases h⟩
theorem holds3:Rows.TopModelsSaid :=
  OpenClaim.holds_of_wide 3 Tryz.f3 rfl rfl rfl rfl rfl rfl rfl ⟨rfl,rfl,rfl,rfl,rfl⟩ rfl rfl rfl rfl rfl (by kernel_rfl) Tryz.func3 Jg
    (of_decide_eq_true (by kernel_rfl)) (by unfold Func.isWrapper; first | (rw [if_pos (by decide +kernel)]; kernel_rfl) | (rw [if_neg (by decide +kernel)]; exact ⟨rfl,rfl⟩))
    (fun os started H enc _=>lifted3 os started H enc)
end Go.Proofs.YtobeanopikjkeaaGreat
