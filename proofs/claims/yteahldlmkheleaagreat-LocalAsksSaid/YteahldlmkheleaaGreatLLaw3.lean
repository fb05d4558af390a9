/- The statement LocalAsksSaid of the seat's rows holds. Conditions: those of the row, no other. -/
import Derived.Test.YteahldlmkheleaaGreatLChain3
set_option linter.all false
namespace Go.Proofs.YteahldlmkheleaaGreat
open Go Go.Sv Go.Op Go.ChangeShapes Go.WideShapes Go.ChangeAt Go.RowKit
set_option maxRecDepth 100000 in
theorem lifted3 (os:Os) (started:os.Started) (H:Type) (enc:TypeId × Value→H) :
    ReturnsInHanded {} Tryz.checked os 3 .any (Rows.localAsksSpec.pre6 enc Tryz.prog Tryz.f3 Rows.localAsksRow.domain false) (Rows.localAsksSpec.post enc Tryz.prog Tryz.f3 false true false false):=by
  refine returnsInHanded_of_change_sized (C:=Tryz.checked) own started (by kernel_rfl) Tryz.func3
    (ChangeSpec.witness6 (enc:=enc) (C:=Tryz.checked) false ⟨#[],#[.agg #[.slice none 0 0,.slice none 0 0],.slice none 0 0],[]⟩ 8 (by kernel_rfl) (by kernel_rfl) (by kernel_rfl) (by kernel_rfl)) ?_
  intro W base args ds gs before Fd hW Qj jM _
  have GT:∀ (j:Nat) t v,Tryz.f3.params[j]?=some t→args[j]?=some v→Value.okWide Tryz.prog W .any base t v:=Fd
  have Qw:=hW
  obtain ⟨p,q,AW,hV,rfl,AV,PT⟩:=hW
  have Md:Tryz.f3.params=#[25,26]:=by kernel_rfl
  have hA:DataW.TrodAll enc Tryz.prog W 0 (fun _=>true) true Tryz.f3.params.toList args.toList ds p:=AW
  rw [Md] at hA GT jM
  clear AW Fd
  obtain ⟨v0,vs0,d0,Ss,p0,q0,sx,rfl,rfl,h0,r0⟩:=trodAll_cons hA
  obtain ⟨v1,vs1,d1,Sr,p1,q1,rfl,rfl,rfl,h1,r1⟩:=trodAll_cons r0
  obtain ⟨rfl,rfl,rfl⟩:=trodAll_nil r1
  obtain rfl:args=#[v0,v1]:=by cases args; simp_all
  obtain ⟨rfl,rfl⟩:=trodVars_none hV
  obtain ⟨Oy,jM⟩:=xN (t:=25) jM
  obtain ⟨Ox,jM⟩:=xN (t:=26) jM
  have k0:=h0
  have Pi:∀ x∈p0,x.block < W.heap.size:=by obtain ⟨m,hm⟩:=k0; exact DataW.trod_lt m _ _ _ hm
  obtain ⟨Ok,IS⟩:=h0
  obtain ⟨MO,rfl,_⟩:=okWide_struct Tryz.underlying25 (GT 0 25 v0 rfl rfl)
  obtain ⟨h_,Dt,hv0⟩:=qC _ _ _ _ _ _ _ _ _ IS Oy
  obtain ⟨a1,c1,a2,c2,Dt,Rm,Rl⟩:=Dt
  have Dt:MO.toList=[.slice a1 h_.ah.length c1,.slice a2 h_.al.length c2]:=Dt
  obtain rfl:MO=#[.slice a1 h_.ah.length c1,.slice a2 h_.al.length c2]:=by cases MO; simpa using Dt
  have k1:=h1
  have Ph:∀ x∈p1,x.block < W.heap.size:=by obtain ⟨m,hm⟩:=k1; exact DataW.trod_lt m _ _ _ hm
  obtain ⟨Oj,G6⟩:=h1
  have II:=zU Tryz.underlying26 (GT 1 26 v1 rfl rfl)
  obtain ⟨ac,KB,hv1⟩:=(pO Tryz.underlying26 (by kernel_rfl) (by kernel_rfl) zX) _ _ _ _ _ _ _ _ _ G6 Ox
  rw [II] at KB
  obtain ⟨a3,c3,KB,Rk⟩:=KB
  obtain rfl:v1=.slice a3 ac.length c3:=head_eq KB
  refine (below ((W3 s10 s11 s12 s13 s6 s7 s8 s9 W Go.Op.z0 h_ ac a1 c1 a2 c2 a3 c3 (fun r=>r=true) (v3 h_ ac hv0 hv1) Rm Rl Rk).mono (fun _ _ _ _ ⟨r,hr,hp⟩=>(hp.trans (by rw [hr])))) (post:=fun _ _ v=>v=.bool true)).mono fun e W' ⟨⟨v,χ,he,hp⟩,MY⟩=>?_
  subst hp
  subst he
  exact ⟨_,rfl,_,_,_,[],_,[],Qw,trodAll_mk1 (shut_bool Tryz.underlying4 _),(trodAll_cons_mk (Below.trod laidOut (by kernel_rfl) (of_decide_eq_true (by kernel_rfl)) k0 MY Pi) (trodAll_cons_mk (Below.trod laidOut (by kernel_rfl) (of_decide_eq_true (by kernel_rfl)) k1 MY Ph) trodAll_mk0)),rfl,MY.frame _,fun h=>by cases h⟩
theorem holds3:Rows.LocalAsksSaid :=
  OpenClaim.holds_of_wide 3 Tryz.f3 rfl rfl rfl rfl rfl rfl rfl ⟨rfl,rfl,rfl,rfl,rfl⟩ rfl rfl rfl rfl rfl (by kernel_rfl) Tryz.func3 (by kernel_rfl)
    (of_decide_eq_true (by kernel_rfl)) (by unfold Func.isWrapper; first | (rw [if_pos (by decide +kernel)]; kernel_rfl) | (rw [if_neg (by decide +kernel)]; exact ⟨rfl,rfl⟩))
    (fun os started H enc _=>lifted3 os started H enc)
end Go.Proofs.YteahldlmkheleaaGreat
