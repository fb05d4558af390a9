/- The statement LocalPartsSaid of the seat's rows holds. Conditions: those of the row, no other. -/
import Derived.Test.YteahldlmkheleaaGreatLChain4
set_option linter.all false
namespace Go.Proofs.YteahldlmkheleaaGreat
open Go Go.Sv Go.Op Go.ChangeShapes Go.WideShapes Go.ChangeAt Go.RowKit
set_option maxRecDepth 100000 in
theorem lifted4 (os:Os) (started:os.Started) (H:Type) (enc:TypeId × Value→H) :
    ReturnsInHanded {} Tryz.checked os 4 .any (Rows.localPartsSpec.pre6 enc Tryz.prog Tryz.f4 Rows.localPartsRow.domain false) (Rows.localPartsSpec.post enc Tryz.prog Tryz.f4 false true false false):=by
  refine returnsInHanded_of_change_sized (C:=Tryz.checked) own started (by kernel_rfl) Tryz.func4
    (ChangeSpec.witness6 (enc:=enc) (C:=Tryz.checked) false ⟨#[],#[.agg #[.slice none 0 0,.slice none 0 0]],[]⟩ 8 (by kernel_rfl) (by kernel_rfl) (by kernel_rfl) (by kernel_rfl)) ?_
  intro W base args ds gs before Fj hW QS kJ _
  have IP:∀ (j:Nat) t v,Tryz.f4.params[j]?=some t→args[j]?=some v→Value.okWide Tryz.prog W .any base t v:=Fj
  have Q7:=hW
  obtain ⟨p,q,A8,hV,rfl,A7,S1⟩:=hW
  have Mv:Tryz.f4.params=#[25]:=by kernel_rfl
  have hA:DataW.TrodAll enc Tryz.prog W 0 (fun _=>true) true Tryz.f4.params.toList args.toList ds p:=A8
  rw [Mv] at hA IP kJ
  clear A8 Fj
  obtain ⟨v0,vs0,d0,Tf,p0,q0,sV,rfl,rfl,h0,r0⟩:=trodAll_cons hA
  obtain ⟨rfl,rfl,rfl⟩:=trodAll_nil r0
  obtain rfl:args=#[v0]:=by cases args; simp_all
  obtain ⟨rfl,rfl⟩:=trodVars_none hV
  obtain ⟨OZ,kJ⟩:=DX (t:=25) kJ
  have k0:=h0
  have PM:∀ x∈p0,x.block < W.heap.size:=by obtain ⟨m,hm⟩:=k0; exact DataW.trod_lt m _ _ _ hm
  obtain ⟨OO,I9⟩:=h0
  obtain ⟨Nb,rfl,_⟩:=okWide_struct Tryz.underlying25 (IP 0 25 v0 rfl rfl)
  obtain ⟨h_,DF,hv0⟩:=qW _ _ _ _ _ _ _ _ _ I9 OZ
  obtain ⟨a1,c1,a2,c2,DF,R6,R5⟩:=DF
  have DF:Nb.toList=[.slice a1 h_.ae.length c1,.slice a2 h_.aq.length c2]:=DF
  obtain rfl:Nb=#[.slice a1 h_.ae.length c1,.slice a2 h_.aq.length c2]:=by cases Nb; simpa using DF
  refine (below ((W4 s11 s14 s6 s7 s8 s9 W Go.Op.z0 h_ a1 c1 a2 c2 (fun r=>r=true) (v4 h_ hv0) R6 R5).mono (fun _ _ _ _ ⟨r,hr,hp⟩=>(hp.trans (by rw [hr])))) (post:=fun _ _ v=>v=.bool true)).mono fun e W' ⟨⟨v,χ,he,hp⟩,OU⟩=>?_
  subst hp
  subst he
  exact ⟨_,rfl,_,_,_,[],_,[],Q7,trodAll_mk1 (shut_bool Tryz.underlying4 _),(trodAll_cons_mk (Below.trod laidOut (by kernel_rfl) (of_decide_eq_true (by kernel_rfl)) k0 OU PM) trodAll_mk0),rfl,OU.frame _,fun h=>by cases h⟩
theorem holds4:Rows.LocalPartsSaid :=
  OpenClaim.holds_of_wide 4 Tryz.f4 rfl rfl rfl rfl rfl rfl rfl ⟨rfl,rfl,rfl,rfl,rfl⟩ rfl rfl rfl rfl rfl (by kernel_rfl) Tryz.func4 (by kernel_rfl)
    (of_decide_eq_true (by kernel_rfl)) (by unfold Func.isWrapper; first | (rw [if_pos (by decide +kernel)]; kernel_rfl) | (rw [if_neg (by decide +kernel)]; exact ⟨rfl,rfl⟩))
    (fun os started H enc _=>lifted4 os started H enc)
end Go.Proofs.YteahldlmkheleaaGreat
