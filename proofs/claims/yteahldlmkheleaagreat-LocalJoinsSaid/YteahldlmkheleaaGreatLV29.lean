/- The statements of histories of several objects. -/
import Derived.Test.YteahldlmkheleaaGreatLV27
set_option linter.all false
namespace Go.Proofs.YteahldlmkheleaaGreat
open Go Go.Sv Go.Pu
theorem BZ (h:ak):(fm h).map toL=h.al:=by
 unfold fm
 rw [List.map_map]
 have:(toL ∘ fun x:aV=>(⟨x.az,x.aN⟩:aK))=id:=by funext x; rfl
 rw [this,List.map_id]
theorem Cq (h:ak):(⟨h.ae,(fm h).map toL⟩:ak)=h:=by rw [BZ]
theorem B0 (h:ak):(fm h).length=h.al.length:=by unfold fm; rw [List.length_map]
theorem Ep {h:ak} {A:ao→Prop} (ho:∀ o∈h.ae,inR .i64 o.au∧inR .i64 o.aA∧A o) (hf:ie h=true):gr h∧h.ae.length≤10∧h.al.length≤20:=by
 unfold ie at hf
 rw [Bool.and_eq_true,Bool.and_eq_true,decide_eq_true_eq,decide_eq_true_eq,List.all_eq_true] at hf
 obtain ⟨⟨h1,h2⟩,h3⟩:=hf
 refine ⟨⟨fun o hm=>⟨(ho o hm).1,(ho o hm).2.1⟩,by omega,fun o hm=>?_⟩,h1,h2⟩
 have:=h3 o hm
 unfold ig at this
 rw [decide_eq_true_eq] at this
 omega
theorem BX (h:ak):dc h.ae (fm h)=cY h:=by unfold dc; rw [Cq]
theorem CS (h:ak):((bw h).length:Int)=fu h:=by
 unfold bw
 rw [pt]
 unfold lf bo fu
 rw [List.countP_map]; rfl
theorem Ji (l:List aw):(bE l).2≠41:=by
 unfold bE
 split
 ·decide
 ·have:∀ (f:Nat) (i:Int),(m6 l f i).2≠41:=by
   intro f
   induction f with
   | zero=>intro i; rw [m6]; show (0:Int)≠41; decide
   | succ f ih =>
    intro i
    rw [lB]
    split
    ·unfold evE; dsimp only; repeat' split
     all_goals decide
    ·split
     ·show (33:Int)≠41; decide
     ·exact ih _
  exact this _ _
theorem G5 (h:ak):(aD h).2≠41:=by
 unfold aD
 split
 ·decide
 ·split
  ·exact Ji _
  ·have:∀ (l:List aV) (i:Int) (b:List (Int × Int)),(hGo h.ae l i b).2≠41:=by
    intro l
    induction l with
    | nil=>intro i b; rw [hGo]; show (0:Int)≠41; decide
    | cons x l ih =>
     intro i b
     rw [hGo]
     split
     ·unfold iE; dsimp only; repeat' split
      all_goals decide
     ·exact ih _ _
   exact this _ _ _
theorem BM {h:ak} (hc:(aD h).2=0) (h20:(bw h).length≤20) (hok:∀ j,j < h.ae.length→jc (bw h) (ofH h) h.ae j) {k:Nat} (hk:k < h.ae.length):j6 h (k:Int) (g7 h)=mW h k:=by
 have hj:=sX hc h20 hok
 have h1:=vj (k:=(k:Int)) hj.1
 rw [ri hc h20 hok hk,qD hk] at h1
 have hN:=qW h (k:Int)
 have Qb:=Ag (k:=(k:Int)) hj.1
 have Cs:=(mM (hok k hk)).2
 have inj:∀ (a b:List aa),(∀ q∈a,0≤q.Oper∧q.Oper < (dn (bw h) (ofH h) (k:Int)).length)→(∀ q∈b,0≤q.Oper∧q.Oper < (dn (bw h) (ofH h) (k:Int)).length)→a.map (gk (aW (ofH h) (k:Int)))=b.map (gk (aW (ofH h) (k:Int)))→a=b:=by
  intro a
  induction a with
  | nil =>
   intro b _ _ e
   cases b with
   | nil=>rfl
   | cons y b=>cases e
  | cons x a ih =>
   intro b ha hb e
   cases b with
   | nil=>cases e
   | cons y b =>
    rw [List.map_cons,List.map_cons,List.cons.injEq] at e
    have hx:=ha x (List.mem_cons_self ..)
    have hy:=hb y (List.mem_cons_self ..)
    have e1:gi (aW (ofH h) (k:Int)) x.Oper=gi (aW (ofH h) (k:Int)) y.Oper:=by have:=congrArg aa.Oper e.1; exact this
    have e2:x.Result=y.Result:=by have:=congrArg aa.Result e.1; exact this
    have e3:=uc hN hx.1 hx.2 hy.1 hy.2 e1
    rw [ih b (fun q hq=>ha q (List.mem_cons_of_mem _ hq)) (fun q hq=>hb q (List.mem_cons_of_mem _ hq)) e.2]
    congr 1
    obtain ⟨xo,xr⟩:=x
    obtain ⟨yo,yr⟩:=y
    dsimp only at e2 e3
    rw [e2,e3]
 exact inj _ _ Qb Cs h1
theorem vi {h:ak} (k:Int) {p:List aa} {t:Nat} (ht:t < p.length):j6 h k (p.take (t+1))=j6 h k (p.take t)++(if (gi (ofH h) (gi p (t:Int)).Oper == k)=true then [⟨ew (ofH h) (gi p (t:Int)).Oper,(gi p (t:Int)).Result⟩] else []):=by
 unfold j6
 rw [o4 _ _ ht,List.map_append]
 split <;> rfl
theorem v5 {A:ao→Prop} {B:Prop} (h:ak) (ho:(∀ o∈h.ae,inR .i64 o.au∧inR .i64 o.aA∧A o)∧B):VC5 h (fun r=>r=true):=by
 have j1t:VC5_J1 h (fun r=>r=true) true:=⟨fun _=>by rintro _ rfl; rfl,fun hh=>by cases hh⟩
 unfold VC5
 intro _ _
 rintro _ rfl
 refine ⟨fun _=>j1t,fun hf=>?_⟩
 obtain ⟨hp,h10,Mh⟩:=Ep ho.1 (by simpa using hf)
 rintro _ rfl
 cases eb:decide (fu h > 8) with
 | true=>exact j1t
 | false =>
  have hb:fu h≤8:=by simp at eb; omega
  have h8:(bw h).length≤8:=by have:=CS h; omega
  have hE:(⟨h.ae,h.al⟩:ak)=h:=rfl
  have SB:=B0 h
  unfold VC5_J1
  rw [hE]
  refine ⟨fun hh=>(by cases hh),fun _=>⟨hp,?_⟩⟩
  rintro _ rfl _
  refine ⟨hp,?_⟩
  rintro _ rfl
  have G2:((((bV h).2 == 0) != (fe h).1 || ((bV h).2 == 41 && (fe h).2 != 0)) || ((bV h).2 != 0 && (((bV h).1.length:Nat):Int) != 0))=false:=by
   unfold fe
   rcases rj h with ⟨h1,e⟩ | ⟨_,_,e⟩ | ⟨_,_,_,e⟩ | ⟨_,_,_,e⟩
   ·rw [e]
    dsimp only
    have h41:=G5 h
    rw [if_neg h41,show ((aD h).2 == 0)=false from beq_eq_false_iff_ne.2 h1,show ((aD h).2 == 41)=false from beq_eq_false_iff_ne.2 h41]
    simp
   ·rw [e]; rfl
   ·rw [e]; rfl
   ·rw [e]; simp
  rw [G2]
  refine ⟨fun hh=>(by cases hh),fun _=>⟨fun _=>(by rintro _ rfl; rfl),fun he=>?_⟩⟩
  have he:(bV h).2=0:=by simpa using he
  obtain ⟨hc,h20,hok,e⟩:(aD h).2=0∧(bw h).length≤20∧(∀ j,j < h.ae.length→jc (bw h) (ofH h) h.ae j)∧bV h=(g7 h,0):=by
   rcases rj h with ⟨h1,e⟩ | ⟨_,_,e⟩ | ⟨_,_,_,e⟩ | hh
   ·rw [e] at he; exact absurd he h1
   ·rw [e] at he; cases he
   ·rw [e] at he; cases he
   ·exact hh
  have hj:=sX hc h20 hok
  have GX:(g7 h).length≤20:=by
   unfold g7
   rw [List.length_map,(lp hc h20 hok).1]
   exact yF h20 hok
  rw [e]
  dsimp only
  refine ⟨hp.2.1,?_⟩
  rintro _ rfl _
  refine ⟨⟨hp.1,by omega,by omega⟩,?_⟩
  rintro _ rfl
  have PF:fM h.ae (fm h) (g7 h)=true:=(xx hc (BZ h) _).2 hj
  rw [PF]
  refine ⟨fun hh=>(by cases hh),fun _=>⟨⟨hp,by omega⟩,?_⟩⟩
  rintro _ rfl
  rw [(AE hc _).2 hj]
  unfold VC5_J2
  rw [hE]
  refine ⟨fun hh=>(by cases hh),fun _=>⟨hp.2.1,?_⟩⟩
  rintro _ rfl _
  refine ⟨⟨hp.1,by omega⟩,?_⟩
  rintro _ rfl _ _
  rw [BX,qS hc]
  dsimp only
  refine ⟨fun x=>∃ t:Nat,x=t∧t≤h.ae.length,fun x=>(h.ae.length - x).toNat,⟨0,rfl,by omega⟩,?_⟩
  rintro _ ⟨t,rfl,ht⟩
  refine ⟨fun hi=>⟨hp,?_⟩,fun hi=>?_⟩
  ·rw [decide_eq_true_eq] at hi
   have LQ:t < h.ae.length:=by omega
   rintro _ rfl _ _ _ rfl _
   have LW:dG h (t:Int)=⟨gi h.ae (t:Int),dR h.al (t:Int)⟩:=by
    unfold dG; rw [if_neg (by unfold o7; omega)]
   have PS:gD (dR h.al (t:Int))=(opsOf (dR h.al (t:Int)),0):=tY (tT hc _)
   rw [LW]
   dsimp only
   rw [PS]
   have hl:=ff h
   refine ⟨fun own x=>∃ u:Nat,x=u∧u≤(g7 h).length∧own=j6 h (t:Int) ((g7 h).take u),fun _ x=>((g7 h).length - x).toNat,⟨0,rfl,by omega,rfl⟩,?_⟩
   rintro _ _ ⟨u,rfl,hu,rfl⟩
   have Sp:(j6 h (t:Int) ((g7 h).take u)).length≤u:=by
    unfold j6; rw [List.length_map]; exact yI _ _ _ _
   refine ⟨fun GO=>?_,fun GO=>?_⟩
   ·rw [decide_eq_true_eq] at GO
    have kF:=hj.1 _ (eJ (l:=g7 h) (i:=(u:Int)) (by omega) GO)
    have hw:=wrp (n:=(u:Int)+1) (by omega) (by omega)
    have hs:=vi (h:=h) (t:Int) (p:=g7 h) (t:=u) (by omega)
    refine ⟨⟨by omega,GO⟩,by omega,fun hk=>⟨⟨by omega,GO⟩,⟨by omega,GO⟩,⟨by omega,by omega⟩,?_⟩,fun hk=>?_⟩
    ·rintro _ rfl
     refine ⟨by simp; omega,?_⟩
     unfold VC5_J5
     rw [hw]
     exact ⟨⟨u+1,by push_cast; rfl,by omega,by rw [hs,if_pos hk]⟩,by dsimp only; omega⟩
    ·unfold VC5_J5
     rw [hw]
     exact ⟨⟨u+1,by push_cast; rfl,by omega,by rw [hs,if_neg (by rw [hk]; decide),List.append_nil]⟩,by dsimp only; omega⟩
   ·rw [decide_eq_false_iff_not] at GO
    rw [List.take_of_length_le (by omega),BM hc h20 hok LQ]
    have Du:(mW h t).length≤1000000:=by
     have:=ph (hok t LQ)
     have:=lO h (t:Int)
     unfold mW; omega
    unfold VC5_J4
    refine ⟨⟨hp.1 _ (eJ (by omega) hi),Du⟩,?_⟩
    rintro _ rfl
    rw [DZ (sM hc (t:Int)) (qM hc h20 _) (ob (hok t LQ))]
    refine ⟨fun hh=>(by cases hh),fun _=>?_⟩
    rw [wrp (n:=(t:Int)+1) (by omega) (by omega)]
    exact ⟨⟨t+1,by push_cast; rfl,by omega⟩,by dsimp only; omega⟩
  ·unfold VC5_J3
   rintro _ rfl
   rfl
end Go.Proofs.YteahldlmkheleaaGreat
