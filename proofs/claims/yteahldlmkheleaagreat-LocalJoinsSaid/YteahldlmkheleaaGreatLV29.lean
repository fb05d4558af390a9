/- z1 EM of zq of CE objects. -/
import Derived.Test.YteahldlmkheleaaGreatLV27
set_option linter.all false
namespace Go.Proofs.YteahldlmkheleaaGreat
open Go Go.Sv Go.Pu
theorem AK (h:aj):(eV h).map toL=h.ak:=by
 unfold eV
 rw [List.map_map]
 have:(toL ∘ fun x:aR=>(⟨x.aw,x.aK⟩:aH))=id:=by funext x; rfl
 rw [this,List.map_id]
theorem Bb (h:aj):(⟨h.ae,(eV h).map toL⟩:aj)=h:=by rw [AK]
theorem AL (h:aj):(eV h).length=h.ak.length:=by unfold eV; rw [List.length_map]
theorem Db {h:aj} {A:al→Prop} (ho:∀ o∈h.ae,inR .i64 o.aq∧inR .i64 o.ax∧A o) (hf:gQ h=true):fV h∧h.ae.length≤10∧h.ak.length≤20:=by
 unfold gQ at hf
 rw [Bool.and_eq_true,Bool.and_eq_true,decide_eq_true_eq,decide_eq_true_eq,List.all_eq_true] at hf
 obtain ⟨⟨h1,h2⟩,h3⟩:=hf
 refine ⟨⟨fun o hm=>⟨(ho o hm).1,(ho o hm).2.1⟩,by omega,fun o hm=>?_⟩,h1,h2⟩
 have:=h3 o hm
 unfold gR at this
 rw [decide_eq_true_eq] at this
 omega
theorem AJ (h:aj):cX h.ae (eV h)=cJ h:=by unfold cX; rw [Bb]
theorem BE (h:aj):((bo h).length:Int)=eY h:=by
 unfold bo
 rw [oy]
 unfold kx bk eY
 rw [List.countP_map]; rfl
theorem HO (l:List au):(bw l).2≠41:=by
 unfold bw
 split
 ·decide
 ·have:∀ (f:Nat) (i:Int),(mh l f i).2≠41:=by
   intro f
   induction f with
   | zero=>intro i; rw [mh]; show (0:Int)≠41; decide
   | succ f ih =>
    intro i
    rw [kO]
    split
    ·unfold evE; dsimp only; repeat' split
     all_goals decide
    ·split
     ·show (33:Int)≠41; decide
     ·exact ih _
  exact this _ _
theorem FN (h:aj):(aA h).2≠41:=by
 unfold aA
 split
 ·decide
 ·split
  ·exact HO _
  ·have:∀ (l:List aR) (i:Int) (b:List (Int × Int)),(hGo h.ae l i b).2≠41:=by
    intro l
    induction l with
    | nil=>intro i b; rw [hGo]; show (0:Int)≠41; decide
    | cons x l ih =>
     intro i b
     rw [hGo]
     split
     ·unfold hX; dsimp only; repeat' split
      all_goals decide
     ·exact ih _ _
   exact this _ _ _
theorem Ay {h:aj} (hc:(aA h).2=0) (h20:(bo h).length≤20) (hok:∀ j,j < h.ae.length→iA (bo h) (ofH h) h.ae j) {k:Nat} (hk:k < h.ae.length):jv h (k:Int) (gD h)=me h k:=by
 have hj:=rT hc h20 hok
 have h1:=uh (k:=(k:Int)) hj.1
 rw [qn hc h20 hok hk,pN hk] at h1
 have hN:=p9 h (k:Int)
 have OF:=yQ (k:=(k:Int)) hj.1
 have Bd:=(l3 (hok k hk)).2
 have inj:∀ (a b:List aa),(∀ q∈a,0≤q.Oper∧q.Oper < (dc (bo h) (ofH h) (k:Int)).length)→(∀ q∈b,0≤q.Oper∧q.Oper < (dc (bo h) (ofH h) (k:Int)).length)→a.map (fP (aS (ofH h) (k:Int)))=b.map (fP (aS (ofH h) (k:Int)))→a=b:=by
  intro a
  induction a with
  | nil =>
   intro b _ _ e
   cases b with
   | nil=>rfl
   | cons y b=>cases e
  | cons x a ih =>
   intro b ha hb e
   cases b with
   | nil=>cases e
   | cons y b =>
    rw [List.map_cons,List.map_cons,List.cons.injEq] at e
    have hx:=ha x (List.mem_cons_self ..)
    have hy:=hb y (List.mem_cons_self ..)
    have e1:gi (aS (ofH h) (k:Int)) x.Oper=gi (aS (ofH h) (k:Int)) y.Oper:=by have:=congrArg aa.Oper e.1; exact this
    have e2:x.Result=y.Result:=by have:=congrArg aa.Result e.1; exact this
    have e3:=sX hN hx.1 hx.2 hy.1 hy.2 e1
    rw [ih b (fun q hq=>ha q (List.mem_cons_of_mem _ hq)) (fun q hq=>hb q (List.mem_cons_of_mem _ hq)) e.2]
    congr 1
    obtain ⟨xo,xr⟩:=x
    obtain ⟨yo,yr⟩:=y
    dsimp only at e2 e3
    rw [e2,e3]
 exact inj _ _ OF Bd h1
theorem ug {h:aj} (k:Int) {p:List aa} {t:Nat} (ht:t < p.length):jv h k (p.take (t+1))=jv h k (p.take t)++(if (gi (ofH h) (gi p (t:Int)).Oper == k)=true then [⟨dV (ofH h) (gi p (t:Int)).Oper,(gi p (t:Int)).Result⟩] else []):=by
 unfold jv
 rw [n9 _ _ ht,List.map_append]
 split <;> rfl
theorem v5 {A:al→Prop} {B:Prop} (h:aj) (ho:(∀ o∈h.ae,inR .i64 o.aq∧inR .i64 o.ax∧A o)∧B):VC5 h (fun r=>r=true):=by
 have j1t:VC5_J1 h (fun r=>r=true) true:=⟨fun _=>by rintro _ rfl; rfl,fun hh=>by cases hh⟩
 unfold VC5
 intro _ _
 rintro _ rfl
 refine ⟨fun _=>j1t,fun hf=>?_⟩
 obtain ⟨hp,h10,KU⟩:=Db ho.1 (by simpa using hf)
 rintro _ rfl
 cases eb:decide (eY h > 8) with
 | true=>exact j1t
 | false =>
  have hb:eY h≤8:=by simp at eb; omega
  have h8:(bo h).length≤8:=by have:=BE h; omega
  have hE:(⟨h.ae,h.ak⟩:aj)=h:=rfl
  have Q1:=AL h
  unfold VC5_J1
  rw [hE]
  refine ⟨fun hh=>(by cases hh),fun _=>⟨hp,?_⟩⟩
  rintro _ rfl _
  refine ⟨hp,?_⟩
  rintro _ rfl
  have FK:((((bP h).2 == 0) != (eQ h).1 || ((bP h).2 == 41 && (eQ h).2 != 0)) || ((bP h).2 != 0 && (((bP h).1.length:Nat):Int) != 0))=false:=by
   unfold eQ
   rcases qo h with ⟨h1,e⟩ | ⟨_,_,e⟩ | ⟨_,_,_,e⟩ | ⟨_,_,_,e⟩
   ·rw [e]
    dsimp only
    have h41:=FN h
    rw [if_neg h41,show ((aA h).2 == 0)=false from beq_eq_false_iff_ne.2 h1,show ((aA h).2 == 41)=false from beq_eq_false_iff_ne.2 h41]
    simp
   ·rw [e]; rfl
   ·rw [e]; rfl
   ·rw [e]; simp
  rw [FK]
  refine ⟨fun hh=>(by cases hh),fun _=>⟨fun _=>(by rintro _ rfl; rfl),fun he=>?_⟩⟩
  have he:(bP h).2=0:=by simpa using he
  obtain ⟨hc,h20,hok,e⟩:(aA h).2=0∧(bo h).length≤20∧(∀ j,j < h.ae.length→iA (bo h) (ofH h) h.ae j)∧bP h=(gD h,0):=by
   rcases qo h with ⟨h1,e⟩ | ⟨_,_,e⟩ | ⟨_,_,_,e⟩ | hh
   ·rw [e] at he; exact absurd he h1
   ·rw [e] at he; cases he
   ·rw [e] at he; cases he
   ·exact hh
  have hj:=rT hc h20 hok
  have FF:(gD h).length≤20:=by
   unfold gD
   rw [List.length_map,(kE hc h20 hok).1]
   exact xi h20 hok
  rw [e]
  dsimp only
  refine ⟨hp.2.1,?_⟩
  rintro _ rfl _
  refine ⟨⟨hp.1,by omega,by omega⟩,?_⟩
  rintro _ rfl
  have N8:fq h.ae (eV h) (gD h)=true:=(we hc (AK h) _).2 hj
  rw [N8]
  refine ⟨fun hh=>(by cases hh),fun _=>⟨⟨hp,by omega⟩,?_⟩⟩
  rintro _ rfl
  rw [(zm hc _).2 hj]
  unfold VC5_J2
  rw [hE]
  refine ⟨fun hh=>(by cases hh),fun _=>⟨hp.2.1,?_⟩⟩
  rintro _ rfl _
  refine ⟨⟨hp.1,by omega⟩,?_⟩
  rintro _ rfl _ _
  rw [AJ,p5 hc]
  dsimp only
  refine ⟨fun x=>∃ t:Nat,x=t∧t≤h.ae.length,fun x=>(h.ae.length - x).toNat,⟨0,rfl,by omega⟩,?_⟩
  rintro _ ⟨t,rfl,ht⟩
  refine ⟨fun hi=>⟨hp,?_⟩,fun hi=>?_⟩
  ·rw [decide_eq_true_eq] at hi
   have Ku:t < h.ae.length:=by omega
   rintro _ rfl _ _ _ rfl _
   have Kz:dw h (t:Int)=⟨gi h.ae (t:Int),dG h.ak (t:Int)⟩:=by
    unfold dw; rw [if_neg (by unfold oc; omega)]
   have Ok:gh (dG h.ak (t:Int))=(opsOf (dG h.ak (t:Int)),0):=sS (sN hc _)
   rw [Kz]
   dsimp only
   rw [Ok]
   have hl:=eR h
   refine ⟨fun own x=>∃ u:Nat,x=u∧u≤(gD h).length∧own=jv h (t:Int) ((gD h).take u),fun _ x=>((gD h).length - x).toNat,⟨0,rfl,by omega,rfl⟩,?_⟩
   rintro _ _ ⟨u,rfl,hu,rfl⟩
   have QS:(jv h (t:Int) ((gD h).take u)).length≤u:=by
    unfold jv; rw [List.length_map]; exact xl _ _ _ _
   refine ⟨fun Fx=>?_,fun Fx=>?_⟩
   ·rw [decide_eq_true_eq] at Fx
    have jS:=hj.1 _ (ep (l:=gD h) (i:=(u:Int)) (by omega) Fx)
    have hw:=wrp (n:=(u:Int)+1) (by omega) (by omega)
    have hs:=ug (h:=h) (t:Int) (p:=gD h) (t:=u) (by omega)
    refine ⟨⟨by omega,Fx⟩,by omega,fun hk=>⟨⟨by omega,Fx⟩,⟨by omega,Fx⟩,⟨by omega,by omega⟩,?_⟩,fun hk=>?_⟩
    ·rintro _ rfl
     refine ⟨by simp; omega,?_⟩
     unfold VC5_J5
     rw [hw]
     exact ⟨⟨u+1,by push_cast; rfl,by omega,by rw [hs,if_pos hk]⟩,by dsimp only; omega⟩
    ·unfold VC5_J5
     rw [hw]
     exact ⟨⟨u+1,by push_cast; rfl,by omega,by rw [hs,if_neg (by rw [hk]; decide),List.append_nil]⟩,by dsimp only; omega⟩
   ·rw [decide_eq_false_iff_not] at Fx
    rw [List.take_of_length_le (by omega),Ay hc h20 hok Ku]
    have Cd:(me h t).length≤1000000:=by
     have:=ou (hok t Ku)
     have:=k4 h (t:Int)
     unfold me; omega
    unfold VC5_J4
    refine ⟨⟨hp.1 _ (ep (by omega) hi),Cd⟩,?_⟩
    rintro _ rfl
    rw [CH (rH hc (t:Int)) (pX hc h20 _) (ns (hok t Ku))]
    refine ⟨fun hh=>(by cases hh),fun _=>?_⟩
    rw [wrp (n:=(t:Int)+1) (by omega) (by omega)]
    exact ⟨⟨t+1,by push_cast; rfl,by omega⟩,by dsimp only; omega⟩
  ·unfold VC5_J3
   rintro _ rfl
   rfl
end Go.Proofs.YteahldlmkheleaaGreat
