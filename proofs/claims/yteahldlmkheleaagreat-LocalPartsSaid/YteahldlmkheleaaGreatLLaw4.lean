import Derived.Test.YteahldlmkheleaaGreatLChain4
set_option linter.all false
namespace Go.Proofs.YteahldlmkheleaaGreat
open Go Go.Sv Go.Op Go.ChangeShapes Go.WideShapes Go.ChangeAt Go.RowKit
set_option maxRecDepth 100000 in
theorem lifted4 (os:Os) (started:os.Started) (H:Type) (enc:TypeId × Value→H) :
    ReturnsInHanded {} Tryz.checked os 4 .any (Rows.localPartsSpec.pre6 enc Tryz.prog Tryz.f4 Rows.localPartsRow.domain false) (Rows.localPartsSpec.post enc Tryz.prog Tryz.f4 false true false false):=by
  refine returnsInHanded_of_change_sized (C:=Tryz.checked) own started (by kernel_rfl) Tryz.func4
    (ChangeSpec.witness6 (enc:=enc) (C:=Tryz.checked) false ⟨#[],#[.agg #[.slice none 0 0,.slice none 0 0]],[]⟩ 8 (by kernel_rfl) (by kernel_rfl) (by kernel_rfl) (by kernel_rfl)) ?_
  intro W base args ds gs before D1 hW Po jU _
  have Hq:∀ (j:Nat) t v,Tryz.f4.params[j]?=some t→args[j]?=some v→Value.okWide Tryz.prog W .any base t v:=D1
  have PF:=hW
  obtain ⟨p,q,zT,hV,rfl,zS,Ro⟩:=hW
  have K6:Tryz.f4.params=#[25]:=by kernel_rfl
  have hA:DataW.TrodAll enc Tryz.prog W 0 (fun _=>true) true Tryz.f4.params.toList args.toList ds p:=zT
  rw [K6] at hA Hq jU
  clear zT D1
  obtain ⟨v0,vs0,d0,Ry,p0,q0,rK,rfl,rfl,h0,r0⟩:=trodAll_cons hA
  obtain ⟨rfl,rfl,rfl⟩:=trodAll_nil r0
  obtain rfl:args=#[v0]:=by cases args; simp_all
  obtain ⟨rfl,rfl⟩:=trodVars_none hV
  obtain ⟨Nv,jU⟩:=CF (t:=25) jU
  have k0:=h0
  have Of:∀ x∈p0,x.block < W.heap.size:=by obtain ⟨m,hm⟩:=k0; exact DataW.trod_lt m _ _ _ hm
  obtain ⟨Nk,HF⟩:=h0
  obtain ⟨LJ,rfl,_⟩:=okWide_struct Tryz.underlying25 (Hq 0 25 v0 rfl rfl)
  obtain ⟨h_,Co,hv0⟩:=p8 _ _ _ _ _ _ _ _ _ HF Nv
  obtain ⟨a1,c1,a2,c2,Co,QB,QA⟩:=Co
  have Co:LJ.toList=[.slice a1 h_.ae.length c1,.slice a2 h_.ao.length c2]:=Co
  obtain rfl:LJ=#[.slice a1 h_.ae.length c1,.slice a2 h_.ao.length c2]:=by cases LJ; simpa using Co
  refine (below ((W4 s11 s14 s6 s7 s8 s9 W Go.Op.z0 h_ a1 c1 a2 c2 (fun r=>r=true) (v4 h_ hv0) QB QA).mono (fun _ _ _ _ ⟨r,hr,hp⟩=>(hp.trans (by rw [hr])))) (post:=fun _ _ v=>v=.bool true)).mono fun e W' ⟨⟨v,χ,he,hp⟩,Nq⟩=>?_
  subst hp
  subst he
  exact ⟨_,rfl,_,_,_,[],_,[],PF,trodAll_mk1 (shut_bool Tryz.underlying4 _),(trodAll_cons_mk (Below.trod laidOut (by kernel_rfl) (of_decide_eq_true (by kernel_rfl)) k0 Nq Of) trodAll_mk0),rfl,Nq.frame _,fun h=>by cases h⟩
theorem holds4:Rows.LocalPartsSaid :=
  OpenClaim.holds_of_wide 4 Tryz.f4 rfl rfl rfl rfl rfl rfl rfl ⟨rfl,rfl,rfl,rfl,rfl⟩ rfl rfl rfl rfl rfl (by kernel_rfl) Tryz.func4 (by kernel_rfl)
    (of_decide_eq_true (by kernel_rfl)) (by unfold Func.isWrapper; first | (rw [if_pos (by decide +kernel)]; kernel_rfl) | (rw [if_neg (by decide +kernel)]; exact ⟨rfl,rfl⟩))
    (fun os started H enc _=>lifted4 os started H enc)
end Go.Proofs.YteahldlmkheleaaGreat
