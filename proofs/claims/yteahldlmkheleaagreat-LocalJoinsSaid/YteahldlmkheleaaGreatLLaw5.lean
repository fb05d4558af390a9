/- The statement LocalJoinsSaid of the seat's rows holds. Conditions: those of the row, no other. -/
import Derived.Test.YteahldlmkheleaaGreatLChain5
set_option linter.all false
namespace Go.Proofs.YteahldlmkheleaaGreat
open Go Go.Sv Go.Op Go.ChangeShapes Go.WideShapes Go.ChangeAt Go.RowKit
set_option maxRecDepth 100000 in
theorem lifted5 (os:Os) (started:os.Started) (H:Type) (enc:TypeId × Value→H) :
    ReturnsInHanded {} Tryz.checked os 5 .any (Rows.localJoinsSpec.pre6 enc Tryz.prog Tryz.f5 Rows.localJoinsRow.domain false) (Rows.localJoinsSpec.post enc Tryz.prog Tryz.f5 false true false false):=by
  refine returnsInHanded_of_change_sized (C:=Tryz.checked) own started (by kernel_rfl) Tryz.func5
    (ChangeSpec.witness6 (enc:=enc) (C:=Tryz.checked) false ⟨#[],#[.agg #[.slice none 0 0,.slice none 0 0]],[]⟩ 8 (by kernel_rfl) (by kernel_rfl) (by kernel_rfl) (by kernel_rfl)) ?_
  intro W base args ds gs before E4 hW Qm kW _
  have Iy:∀ (j:Nat) t v,Tryz.f5.params[j]?=some t→args[j]?=some v→Value.okWide Tryz.prog W .any base t v:=E4
  have QB:=hW
  obtain ⟨p,q,Bk,hV,rfl,Bj,Sx⟩:=hW
  have LX:Tryz.f5.params=#[25]:=by kernel_rfl
  have hA:DataW.TrodAll enc Tryz.prog W 0 (fun _=>true) true Tryz.f5.params.toList args.toList ds p:=Bk
  rw [LX] at hA Iy kW
  clear Bk E4
  obtain ⟨v0,vs0,d0,SI,p0,q0,tb,rfl,rfl,h0,r0⟩:=trodAll_cons hA
  obtain ⟨rfl,rfl,rfl⟩:=trodAll_nil r0
  obtain rfl:args=#[v0]:=by cases args; simp_all
  obtain ⟨rfl,rfl⟩:=trodVars_none hV
  obtain ⟨Oe,kW⟩:=DU (t:=25) kW
  have k0:=h0
  have Pj:∀ x∈p0,x.block < W.heap.size:=by obtain ⟨m,hm⟩:=k0; exact DataW.trod_lt m _ _ _ hm
  obtain ⟨N4,IP⟩:=h0
  obtain ⟨Mz,rfl,_⟩:=okWide_struct Tryz.underlying25 (Iy 0 25 v0 rfl rfl)
  obtain ⟨h_,Dy,hv0⟩:=qV _ _ _ _ _ _ _ _ _ IP Oe
  obtain ⟨a1,c1,a2,c2,Dy,Ry,Rx⟩:=Dy
  have Dy:Mz.toList=[.slice a1 h_.ae.length c1,.slice a2 h_.al.length c2]:=Dy
  obtain rfl:Mz=#[.slice a1 h_.ae.length c1,.slice a2 h_.al.length c2]:=by cases Mz; simpa using Dy
  refine (below ((W5 s11 s12 s13 s15 s16 s17 s18 s19 s20 s6 s7 s8 s9 W Go.Op.z0 h_ a1 c1 a2 c2 (fun r=>r=true) (v5 h_ hv0) Ry Rx).mono (fun _ _ _ _ ⟨r,hr,hp⟩=>(hp.trans (by rw [hr])))) (post:=fun _ _ v=>v=.bool true)).mono fun e W' ⟨⟨v,χ,he,hp⟩,N9⟩=>?_
  subst hp
  subst he
  exact ⟨_,rfl,_,_,_,[],_,[],QB,trodAll_mk1 (shut_bool Tryz.underlying4 _),(trodAll_cons_mk (Below.trod laidOut (by kernel_rfl) (of_decide_eq_true (by kernel_rfl)) k0 N9 Pj) trodAll_mk0),rfl,N9.frame _,fun h=>by cases h⟩
theorem holds5:Rows.LocalJoinsSaid :=
  OpenClaim.holds_of_wide 5 Tryz.f5 rfl rfl rfl rfl rfl rfl rfl ⟨rfl,rfl,rfl,rfl,rfl⟩ rfl rfl rfl rfl rfl (by kernel_rfl) Tryz.func5 (by kernel_rfl)
    (of_decide_eq_true (by kernel_rfl)) (by unfold Func.isWrapper; first | (rw [if_pos (by decide +kernel)]; kernel_rfl) | (rw [if_neg (by decide +kernel)]; exact ⟨rfl,rfl⟩))
    (fun os started H enc _=>lifted5 os started H enc)
end Go.Proofs.YteahldlmkheleaaGreat
