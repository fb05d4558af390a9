/- IZ linearizations and the mQ answers,as the code xX them. -/
import Derived.Test.YteahldlmkheleaaGreatLV19
set_option linter.all false
namespace Go.Proofs.YteahldlmkheleaaGreat
open Go Go.Sv Go.Pu
theorem v32 (i:Int) (ac:List aa) (l:List ab) (of:List Int) (k:Int) (hp:xg i ac l of k):VC32 i ac l of k (fun r=>r=dD i ac l of k):=by
 obtain ⟨h0,h1,h2⟩:=hp
 unfold VC32
 intro _ _ _
 refine ⟨⟨h0,h1⟩,fun hb=>?_,fun hb=>⟨by simp at hb; omega,?_⟩⟩
 ·unfold dD
  rw [show decide ((gi ac i).Oper < 0∨(gi ac i).Oper≥l.length)=true from decide_eq_true (by simpa using hb)]; rfl
 ·unfold dD
  rw [show decide ((gi ac i).Oper < 0∨(gi ac i).Oper≥l.length)=false from decide_eq_false (by simpa using hb)]; rfl
theorem v31_32 (x ac:List aa) (l:List ab) (of:List Int) (k:Int) (hp:xf x ac l of k):VC31_32 x ac l of k (fun r=>r=bL x ac l of k):=by
 obtain ⟨o4,mt,xI⟩:=hp
 unfold VC31_32
 intro _ _ _ _
 refine ⟨fun out i=>∃ t:Nat,i=t∧t≤x.length∧out=gx (fun i=>dD i ac l of k) (x.take t) 0,fun _ i=>(x.length - i).toNat,⟨0,rfl,by omega,rfl⟩,?_⟩
 rintro _ _ ⟨t,rfl,ht,rfl⟩
 have hl:=mL (fun i=>dD i ac l of k) x t
 refine ⟨fun hi=>?_,fun hi=>?_⟩
 ·rw [decide_eq_true_eq] at hi
  have hw:=wrp (n:=(t:Int)+1) (by omega) (by omega)
  have hs:=kW (fun i=>dD i ac l of k) (l:=x) (k:=t) (by omega)
  refine ⟨⟨by omega,hi⟩,⟨by omega,by omega,xI⟩,?_⟩
  rintro _ rfl
  refine ⟨fun hc=>⟨by simp; omega,?_⟩,fun hc=>?_⟩ <;> unfold VC31_32_J2 <;> rw [hw] <;> refine ⟨⟨t+1,by push_cast; rfl,by omega,?_⟩,by dsimp only; omega⟩
  ·rw [hs,if_pos hc]
  ·rw [hs,if_neg (by rw [show dD (t:Int) ac l of k=false from hc]; decide),List.append_nil]
 ·rw [decide_eq_false_iff_not] at hi
  unfold VC31_32_J1 bL
  rw [List.take_of_length_le (by omega)]
theorem Hh (ac:List aa) (l:List ab) (of:List Int) (k:Int):bL ac ac l of k=CR l of k ac:=by
 have:=rG (fun p:aa=>decide (p.Oper < 0∨p.Oper≥l.length) || gi of p.Oper == k) (fun p=>p) ac
 rw [List.map_id'] at this
 rw [List.map_id'] at this
 exact this
theorem p5 {h:ak} (hc:(aB h).2=0):cA h=(bp h,ofH h):=by unfold cA; rw [if_neg (by omega)]
theorem uh {h:ak} (hc:(aB h).2=0):(bp h).length≤10000:=by
 have:=sH (je hc).1
 unfold bp; omega
theorem yv {l:List ab} {of:List Int} {ac:List aa} {os:List ah} {t:Nat} (h:t < os.length):j8 l of ac (os.drop t) t=if (cC (gi os (t:Int)) l (CR l of (t:Int) ac)).2.2≠0 then false else j8 l of ac (os.drop (t+1)) ((t:Int)+1):=by
 rw [gJ h,j8]
theorem v12 (h:ak) (ac:List aa) (hp:ub h ac):VC12 h ac (fun r=>r=fS h ac):=by
 obtain ⟨⟨o4,mt,xI⟩,Hv⟩:=hp
 unfold VC12
 intro xD _ _
 simp only [sm] at xD
 refine ⟨⟨o4,mt,xI⟩,?_⟩
 rintro _ rfl
 unfold fS
 refine ⟨fun he=>by rw [if_pos (by simpa using he)],fun he=>⟨⟨o4,mt,xI⟩,?_⟩⟩
 have hc:(aB h).2=0:=by simpa using he
 rw [if_neg (by omega)]
 rintro _ rfl _ _
 rw [p5 hc]
 dsimp only
 refine ⟨fun x=>∃ t:Nat,x=t∧t≤h.ae.length∧j8 (bp h) (ofH h) ac (h.ae.drop t) t=j8 (bp h) (ofH h) ac h.ae 0,fun x=>(h.ae.length - x).toNat,⟨0,rfl,by omega,rfl⟩,?_⟩
 rintro _ ⟨t,rfl,ht,hg⟩
 refine ⟨fun hi=>?_,fun hi=>?_⟩
 ·rw [decide_eq_true_eq] at hi
  rw [yv (by omega)] at hg
  refine ⟨⟨by omega,hi⟩,fun _=>⟨⟨by omega,Hv,eA h⟩,?_⟩⟩
  rintro _ rfl _
  rw [Hh]
  have Cl:(CR (bp h) (ofH h) (t:Int) ac).length≤ac.length:=List.length_filter_le _ _
  refine ⟨⟨o4 _ (dq (by omega) hi),by omega⟩,?_⟩
  rintro _ rfl
  refine ⟨fun hr=>?_,fun hr=>?_⟩
  ·rw [if_pos (by simpa using hr)] at hg
   rw [← hg]; rfl
  ·rw [if_neg (by simpa using hr)] at hg
   rw [wrp (n:=(t:Int)+1) (by omega) (by omega)]
   exact ⟨⟨t+1,by push_cast; rfl,by omega,by push_cast; exact hg⟩,by dsimp only; omega⟩
 ·rw [decide_eq_false_iff_not] at hi
  have:t=h.ae.length:=by omega
  subst this
  rw [List.drop_length,j8] at hg
  unfold VC12_J1
  rw [← hg]
  rintro _ rfl
  refine ⟨fun ho=>⟨by have:=uh hc; unfold pU; dsimp only; omega,?_⟩,fun ho=>by rw [ho]; rfl⟩
  rintro _ rfl _
  rw [ho]
  dsimp only
  rw [Bool.true_and,Bool.true_and,Bool.eq_iff_iff,beq_iff_eq,beq_iff_eq]
  omega
theorem vP {n t:Nat} {f:Nat→Bool} (h:t < n) (ht:f t=true) (hb:∀ y,y < t→f y=false):(List.range n).find? f=some t:=by
 rw [List.find?_range_eq_some]
 exact ⟨ht,List.mem_range.2 h,fun y hy=>by simp [hb y hy]⟩
theorem vO {n:Nat} {f:Nat→Bool} (hb:∀ y,y < n→f y=false):(List.range n).find? f=none:=by
 rw [List.find?_eq_none]
 intro y hy
 rw [hb y (List.mem_range.1 hy)]; decide
theorem v37 (l:List ab) (ac:List aa):VC37 l ac (fun r=>r=ep l ac):=by
 unfold VC37
 intro hl hp
 simp only [sm] at hl hp
 refine ⟨fun x=>∃ t:Nat,x=t∧t≤ac.length∧∀ y:Nat,y < t→oG l ac y=false,fun x=>(ac.length - x).toNat,⟨0,rfl,by omega,fun y hy=>by omega⟩,?_⟩
 rintro _ ⟨t,rfl,ht,hb⟩
 refine ⟨fun hi=>?_,fun hi=>?_⟩
 ·rw [decide_eq_true_eq] at hi
  refine ⟨⟨by omega,hi⟩,fun x=>∃ u:Nat,x=u∧u≤l.length∧∀ k:Nat,k < u→(bh (gi l (k:Int)) (gi l (gi ac (t:Int)).Oper) && (decide (cc ac k < 0) || decide (cc ac k≥t)))=false,fun x=>(l.length - x).toNat,⟨0,rfl,by omega,fun y hy=>by omega⟩,?_⟩
  rintro _ ⟨u,rfl,hu,hk⟩
  refine ⟨fun hj=>?_,fun hj=>?_⟩
  ·have hj:(u:Int) < l.length∧0≤(gi ac (t:Int)).Oper∧(gi ac (t:Int)).Oper < l.length:=by simp at hj; omega
   rintro _ rfl
   refine ⟨⟨by omega,hj.1⟩,hj.2,?_⟩
   have j3:∀ z,z=(bh (gi l (u:Int)) (gi l (gi ac (t:Int)).Oper) && (decide (cc ac (u:Int) < 0) || decide (cc ac (u:Int)≥t)))→VC37_J3 (fun r=>r=ep l ac) (t:Int) (fun x=>∃ u:Nat,x=u∧u≤l.length∧∀ k:Nat,k < u→(bh (gi l (k:Int)) (gi l (gi ac (t:Int)).Oper) && (decide (cc ac k < 0) || decide (cc ac k≥t)))=false) (fun x=>(l.length - x).toNat) (u:Int) z:=fun z hz=>by
    unfold VC37_J3
    refine ⟨fun h1=>?_,fun h1=>?_⟩
    ·have ha:oG l ac t=true:=by
      unfold oG
      rw [decide_eq_true hj.2,Bool.true_and]
      exact List.any_eq_true.2 ⟨u,List.mem_range.2 (by omega),by rw [← hz]; exact h1⟩
     unfold ep
     rw [vP (by omega) ha hb]
    ·rw [wrp (n:=(u:Int)+1) (by omega) (by omega)]
     refine ⟨⟨u+1,by push_cast; rfl,by omega,fun k Li=>?_⟩,by dsimp only; omega⟩
     by_cases e:k=u
     ·subst e; rw [← hz]; exact h1
     ·exact hk k (by omega)
   rintro _ rfl
   refine ⟨fun ha=>j3 _ ?_,fun ha=>j3 _ ?_⟩
   ·rw [show bh (gi l (u:Int)) (gi l (gi ac (t:Int)).Oper)=true from ha]; rfl
   ·rw [show bh (gi l (u:Int)) (gi l (gi ac (t:Int)).Oper)=false from ha]; rfl
  ·unfold VC37_J2
   rw [wrp (n:=(t:Int)+1) (by omega) (by omega)]
   refine ⟨⟨t+1,by push_cast; rfl,by omega,fun y hy=>?_⟩,by dsimp only; omega⟩
   by_cases e:y=t
   ·subst e
    unfold oG
    by_cases hr:0≤(gi ac (y:Int)).Oper∧(gi ac (y:Int)).Oper < l.length
    ·have Oy:u=l.length:=by simp at hj; omega
     rw [Bool.and_eq_false_iff]; right
     rw [List.any_eq_false]
     intro k Li
     rw [hk k (by rw [Oy]; exact List.mem_range.1 Li)]; decide
    ·rw [decide_eq_false hr]; rfl
   ·exact hb y (by omega)
 ·rw [decide_eq_false_iff_not] at hi
  unfold VC37_J1 ep
  rw [vO (fun y hy=>hb y (by omega))]
def nL (l:List ab) (ac:List aa) (pe:Bool) (t:Nat):List Int:=((List.range t).filter (oQ l ac pe)).map fun i:Nat=>(i:Int)
theorem qH (l:List ab) (ac:List aa) (pe:Bool) (t:Nat):nL l ac pe (t+1)=nL l ac pe t++(if oQ l ac pe t=true then [(t:Int)] else []):=by
 unfold nL
 rw [List.range_succ,List.filter_append,List.map_append,List.filter_cons,List.filter_nil]
 split <;> rfl
theorem BQ (l:List ab) (ac:List aa) (pe:Bool) (t:Nat):(nL l ac pe t).length≤t:=by
 unfold nL
 rw [List.length_map]
 have:=List.length_filter_le (oQ l ac pe) (List.range t)
 rw [List.length_range] at this; exact this
theorem v38 (l:List ab) (ac:List aa) (pe:Bool) (vo:rp l ac pe):VC38 l ac pe (fun r=>r=eF l ac pe):=by
 unfold VC38 rp at *
 intro _ _
 refine ⟨fun out x=>∃ t:Nat,x=t∧t≤l.length∧out=nL l ac pe t,fun _ x=>(l.length - x).toNat,⟨0,rfl,by omega,rfl⟩,?_⟩
 rintro _ _ ⟨t,rfl,ht,rfl⟩
 have hl:=BQ l ac pe t
 refine ⟨fun hi=>?_,fun hi=>?_⟩
 ·rw [decide_eq_true_eq] at hi
  have hw:=wrp (n:=(t:Int)+1) (by omega) (by omega)
  have j3:∀ z,z=oQ l ac pe t→VC38_J3 (fun out x=>∃ t:Nat,x=t∧t≤l.length∧out=nL l ac pe t) (fun _ x=>(l.length - x).toNat) (nL l ac pe t) (t:Int) (nL l ac pe t) z:=fun z hz=>by
   unfold VC38_J3 VC38_J2
   rw [hw]
   refine ⟨fun h1=>⟨by simp; omega,⟨t+1,by push_cast; rfl,by omega,?_⟩,by dsimp only; omega⟩,fun h1=>⟨⟨t+1,by push_cast; rfl,by omega,?_⟩,by dsimp only; omega⟩⟩
   ·rw [qH,if_pos (by rw [← hz]; exact h1)]
   ·rw [qH,if_neg (by rw [← hz,h1]; decide),List.append_nil]
  rintro _ rfl
  refine ⟨fun hc=>⟨⟨by omega,hi⟩,j3 _ ?_⟩,fun hc=>j3 _ ?_⟩
  ·unfold oQ; rw [hc]; rfl
  ·unfold oQ; rw [hc]; rfl
 ·rw [decide_eq_false_iff_not] at hi
  have:t=l.length:=by omega
  subst this
  rfl
theorem zj {os:List ah} {ops:List ab} {of order:List Int} {t:Nat} (h:t < order.length) (st:List Int) (out:List aa):iI os ops of (order.drop t) st out=if (bq (gi os (gi of (gi order (t:Int)))) (gi st (gi of (gi order (t:Int)))) (gi ops (gi order (t:Int))).Kind).2.2=false then ([],false) else iI os ops of (order.drop (t+1)) (st.set (gi of (gi order (t:Int))).toNat (bq (gi os (gi of (gi order (t:Int)))) (gi st (gi of (gi order (t:Int)))) (gi ops (gi order (t:Int))).Kind).1) (out++[⟨gi order (t:Int),(bq (gi os (gi of (gi order (t:Int)))) (gi st (gi of (gi order (t:Int)))) (gi ops (gi order (t:Int))).Kind).2.1⟩]):=by
 rw [gJ h,iI]
theorem v40 (os:List ah) (ops:List ab) (of order:List Int) (hp:uc os ops of order):VC40 os ops of order (fun r=>r=c9 os ops of order):=by
 obtain ⟨h1,h2,h3,h4,h5⟩:=hp
 unfold VC40
 intro _ _ _ _
 refine ⟨fun st x=>∃ t:Nat,x=t∧t≤os.length∧st=(os.take t).map (·.aE),fun _ x=>(os.length - x).toNat,⟨0,rfl,by omega,rfl⟩,?_⟩
 rintro _ _ ⟨t,rfl,ht,rfl⟩
 refine ⟨fun hi=>?_,fun hi=>?_⟩
 ·rw [decide_eq_true_eq] at hi
  rw [wrp (n:=(t:Int)+1) (by omega) (by omega)]
  refine ⟨⟨by omega,hi⟩,by simp; omega,⟨t+1,by push_cast; rfl,by omega,?_⟩,by dsimp only; omega⟩
  rw [e9 (by omega),List.map_append]; rfl
 ·rw [decide_eq_false_iff_not] at hi
  rw [List.take_of_length_le (by omega)]
  unfold VC40_J1
  refine ⟨fun st out x=>∃ t:Nat,x=t∧t≤order.length∧st.length=os.length∧out.length≤t∧iI os ops of (order.drop t) st out=c9 os ops of order,fun _ _ x=>(order.length - x).toNat,⟨0,rfl,by omega,by simp,by simp,rfl⟩,?_⟩
  rintro st out _ ⟨u,rfl,hu,Cj,Cl,hg⟩
  refine ⟨fun hj=>?_,fun hj=>?_⟩
  ·rw [decide_eq_true_eq] at hj
   rw [zj (by omega)] at hg
   have a1:=h5 _ (dq (by omega) hj)
   have a2:=h4 _ (dq (l:=of) a1.1 (by omega))
   refine ⟨⟨by omega,hj⟩,by omega,a2,fun _=>⟨⟨by omega,hj⟩,a1,by omega,?_⟩⟩
   rintro _ rfl
   refine ⟨fun hm=>?_,fun hm=>⟨by omega,⟨by omega,hj⟩,by simp; omega,?_⟩⟩
   ·rw [if_pos (by simpa using hm)] at hg; exact hg
   ·rw [if_neg (by simpa using hm)] at hg
    rw [wrp (n:=(u:Int)+1) (by omega) (by omega)]
    exact ⟨⟨u+1,by push_cast; rfl,by omega,by simpa using Cj,by simp; omega,hg⟩,by dsimp only; omega⟩
  ·rw [decide_eq_false_iff_not] at hj
   have:u=order.length:=by omega
   subst this
   rw [List.drop_length,iI] at hg
   exact hg
theorem pL {l:List ab} {of:List Int} {ac:List aa} {os:List ah} {t:Nat} (h:t < os.length):lp l of ac (os.drop t) t=if (cN (gi os (t:Int)) l (gi os (t:Int)).aE (gv of (t:Int) ac)).2.2≠0 then false else lp l of ac (os.drop (t+1)) ((t:Int)+1):=by
 rw [gJ h,lp]
theorem rl (of:List Int) (k:Int) {ac:List aa} {t:Nat} (h:t < ac.length):gv of k (ac.take (t+1))=gv of k (ac.take t)++(if (gi of (gi ac (t:Int)).Oper == k)=true then [gi ac (t:Int)] else []):=by
 unfold gv
 rw [e9 h,List.filter_append,List.filter_cons,List.filter_nil]
theorem CO (of:List Int) (k:Int) (ac:List aa) (t:Nat):(gv of k (ac.take t)).length≤t:=by
 unfold gv
 have:=List.length_filter_le (fun p:aa=>gi of p.Oper == k) (ac.take t)
 have:=List.length_take_le t ac
 omega
theorem rk {os:List ah} {l:List aD} (hc:(dz os l).2=0):bb os l=(bp ⟨os,l.map toL⟩,ofH ⟨os,l.map toL⟩):=p5 hc
theorem v13 (os:List ah) (l:List aD) (ac:List aa) (hp:wZ os l ac):VC13 os l ac (fun r=>r=dW os l ac):=by
 obtain ⟨o4,mt,xI⟩:=hp
 unfold VC13
 intro xD _ _
 simp only [sm] at xD
 refine ⟨⟨o4,mt⟩,?_⟩
 rintro _ rfl
 unfold dW
 refine ⟨fun he=>by rw [if_pos (by simpa using he)],fun he=>⟨⟨o4,mt⟩,?_⟩⟩
 have hc:(dz os l).2=0:=by simpa using he
 rw [if_neg (by omega)]
 rintro _ rfl _ _
 rw [rk hc]
 have Cl:=eA ⟨os,l.map toL⟩
 have hlen:=uh (h:=⟨os,l.map toL⟩) hc
 generalize bp ⟨os,l.map toL⟩=ops at *
 generalize ofH ⟨os,l.map toL⟩=of at *
 dsimp only
 refine ⟨fun x=>∃ t:Nat,x=t∧t≤ac.length∧∀ y:Nat,y < t→0≤(gi ac (y:Int)).Oper∧(gi ac (y:Int)).Oper < ops.length,fun x=>(ac.length - x).toNat,⟨0,rfl,by omega,fun y hy=>by omega⟩,?_⟩
 rintro _ ⟨t,rfl,ht,hb⟩
 refine ⟨fun hi=>?_,fun hi=>?_⟩
 ·rw [decide_eq_true_eq] at hi
  have j5:∀ z,(z=true↔((gi ac (t:Int)).Oper < 0∨(gi ac (t:Int)).Oper≥ops.length))→VC13_J5 (fun r=>r=(if ac.any (fun p=>decide (p.Oper < 0∨p.Oper≥ops.length))=true then false else lp ops of ac os 0 && decide (ep ops ac < 0) && ((eF ops ac false).length == 0))) (fun x=>∃ t:Nat,x=t∧t≤ac.length∧∀ y:Nat,y < t→0≤(gi ac (y:Int)).Oper∧(gi ac (y:Int)).Oper < ops.length) (fun x=>(ac.length - x).toNat) (t:Int) z:=fun z hz=>by
   unfold VC13_J5
   refine ⟨fun h1=>?_,fun h1=>?_⟩
   ·rw [if_pos (List.any_eq_true.2 ⟨_,dq (by omega) hi,decide_eq_true (hz.1 h1)⟩)]
   ·rw [wrp (n:=(t:Int)+1) (by omega) (by omega)]
    refine ⟨⟨t+1,by push_cast; rfl,by omega,fun y hy=>?_⟩,by dsimp only; omega⟩
    by_cases e:y=t
    ·subst e
     have:¬ _:=fun hh=>by rw [hz.2 hh] at h1; cases h1
     omega
    ·exact hb y (by omega)
  refine ⟨⟨by omega,hi⟩,fun h0=>j5 _ ?_,fun h0=>⟨⟨by omega,hi⟩,j5 _ ?_⟩⟩
  ·rw [decide_eq_true_eq] at h0
   exact ⟨fun _=>.inl h0,fun _=>rfl⟩
  ·rw [decide_eq_false_iff_not] at h0
   rw [decide_eq_true_eq]
   exact ⟨fun h=>.inr h,fun h=>h.resolve_left h0⟩
 ·rw [decide_eq_false_iff_not] at hi
  have:t=ac.length:=by omega
  subst this
  have LA:ac.any (fun p=>decide (p.Oper < 0∨p.Oper≥ops.length))=false:=by
   rw [List.any_eq_false]
   intro p ON
   obtain ⟨i,A8,rfl⟩:=List.getElem_of_mem ON
   have:=hb i A8
   rw [bS _ _ A8] at this
   rw [decide_eq_true_eq]; omega
  rw [LA,if_neg (by decide)]
  unfold VC13_J1
  refine ⟨fun x=>∃ t:Nat,x=t∧t≤os.length∧lp ops of ac (os.drop t) t=lp ops of ac os 0,fun x=>(os.length - x).toNat,⟨0,rfl,by omega,rfl⟩,?_⟩
  rintro _ ⟨t,rfl,ht,hg⟩
  refine ⟨fun hi=>?_,fun hi=>?_⟩
  ·rw [decide_eq_true_eq] at hi
   rw [pL (by omega)] at hg
   refine ⟨fun own x=>∃ u:Nat,x=u∧u≤ac.length∧own=gv of (t:Int) (ac.take u),fun _ x=>(ac.length - x).toNat,⟨0,rfl,by omega,rfl⟩,?_⟩
   rintro _ _ ⟨u,rfl,hu,rfl⟩
   have hle:=CO of (t:Int) ac u
   refine ⟨fun hj=>?_,fun hj=>?_⟩
   ·rw [decide_eq_true_eq] at hj
    have Rt:=hb u (by omega)
    refine ⟨⟨by omega,hj⟩,by dsimp only; omega,fun hk=>⟨⟨by omega,hj⟩,by simp; omega,?_⟩,fun hk=>?_⟩ <;> unfold VC13_J4 <;> rw [wrp (n:=(u:Int)+1) (by omega) (by omega)] <;> refine ⟨⟨u+1,by push_cast; rfl,by omega,?_⟩,by dsimp only; omega⟩
    ·rw [rl of _ (by omega),if_pos hk]
    ·rw [rl of _ (by omega),if_neg (by rw [hk]; decide),List.append_nil]
   ·rw [decide_eq_false_iff_not] at hj
    rw [List.take_of_length_le (by omega)]
    unfold VC13_J3
    refine ⟨⟨by omega,hi⟩,fun _=>⟨⟨by omega,hi⟩,?_⟩⟩
    rintro _ rfl
    refine ⟨fun hr=>?_,fun hr=>?_⟩
    ·rw [if_pos (by simpa using hr)] at hg
     rw [← hg]; rfl
    ·rw [if_neg (by simpa using hr)] at hg
     rw [wrp (n:=(t:Int)+1) (by omega) (by omega)]
     exact ⟨⟨t+1,by push_cast; rfl,by omega,by push_cast; exact hg⟩,by dsimp only; omega⟩
  ·rw [decide_eq_false_iff_not] at hi
   have:t=os.length:=by omega
   subst this
   rw [List.drop_length,lp] at hg
   unfold VC13_J2
   rw [← hg]
   rintro _ rfl
   refine ⟨fun ho=>⟨by unfold rp; dsimp only; omega,?_⟩,fun ho=>by rw [ho]; rfl⟩
   rintro _ rfl _
   rw [ho]
   dsimp only
   rw [Bool.true_and,Bool.true_and,Bool.eq_iff_iff,beq_iff_eq,beq_iff_eq]
   omega
theorem yL {n:Nat} (hn:n≤5):∀ x∈c7 (n:Int),x.length≤10∧∀ i∈x,0≤i∧i < n:=by
 have h:((List.range 6).all fun n=>(c7 (n:Int)).all fun x=>decide (x.length≤10) && x.all fun i=>decide (0≤i∧i < n))=true:=by decide +kernel
 rw [List.all_eq_true] at h
 have h:=h n (List.mem_range.2 (by omega))
 rw [List.all_eq_true] at h
 intro x hx
 have h:=h x hx
 rw [Bool.and_eq_true,decide_eq_true_eq,List.all_eq_true] at h
 exact ⟨h.1,fun i hi=>by simpa using h.2 i hi⟩
theorem uQ {os:List ah} {ops:List ab} {of:List Int}:∀ (order st:List Int) (out:List aa),(iI os ops of order st out).1.length≤out.length+order.length
 | [],st,out=>by simp [iI]
 | i :: r,st,out=>by
  rw [iI]
  split
  ·simp
  ·have:=uQ (os:=os) (ops:=ops) (of:=of) r (st.set (gi of i).toNat (bq (gi os (gi of i)) (gi st (gi of i)) (gi ops i).Kind).1) (out++[⟨i,(bq (gi os (gi of i)) (gi st (gi of i)) (gi ops i).Kind).2.1⟩])
   simp at this ⊢
   omega
theorem xu {h:ak} (hc:(aB h).2=0):∀ k∈ofH h,0≤k∧k < h.ae.length:=by
 obtain ⟨h1,h2,h3⟩:=je hc
 have i5:∀ (l:List ba) (i:Int) (b:List (Int × Int)),(hGo h.ae l i b).2=0→∀ x∈l,0≤x.ax∧x.ax < h.ae.length:=by
  intro l
  induction l with
  | nil=>intro i b _ x hx; cases hx
  | cons y l ih =>
   intro i b hh x hx
   rw [hGo] at hh
   by_cases e:iT h.ae b y≠0
   ·rw [if_pos e] at hh; exact absurd hh e
   ·rw [if_neg e] at hh
    rcases List.mem_cons.1 hx with rfl | hx
    ·have e:iT h.ae b x=0:=by omega
     unfold iT at e
     by_cases hr:x.ax < 0∨x.ax≥h.ae.length
     ·rw [if_pos hr] at e; cases e
     ·omega
    ·exact ih _ _ hh x hx
 intro k hk
 unfold ofH at hk
 obtain ⟨o,ho,rfl⟩:=List.mem_map.1 hk
 obtain ⟨i,hi,rfl⟩:=List.getElem_of_mem ho
 have hin:=sI hc (i:=(i:Int)) (by omega) (by omega)
 rw [bS _ _ hi] at hin
 exact i5 _ _ _ h3 _ (dq hin.1 hin.2)
theorem v14 (os:List ah) (l:List aD) (hp:pV os l):VC14 os l (fun r=>r=fq os l):=by
 obtain ⟨o4,mt,xI,Hv⟩:=hp
 unfold VC14
 intro xD _
 refine ⟨⟨o4,mt⟩,?_⟩
 rintro _ rfl _ _
 have M9:(bb os l).1.length≤5:=by
  unfold bb cA
  split
  ·simp
  ·show (opsOf (bN ⟨os,l.map toL⟩)).length≤5
   rw [lY]; exact xI
 refine ⟨⟨by omega,by omega⟩,?_⟩
 rintro _ rfl _
 have ho:=yK M9
 have Nc:=yL M9
 unfold fq
 generalize hO:c7 ((bb os l).1.length:Int)=O at *
 have hfl:∀ x∈O,uc os (bb os l).1 (bb os l).2 x:=fun x hx=>by
  have:=Nc x hx
  unfold bb cA at this ⊢
  by_cases hc:(aB ⟨os,l.map toL⟩).2≠0
  ·rw [if_pos hc] at this ⊢
   exact ⟨Hv,by omega,rfl,(fun k hk=>by cases hk),this.2⟩
  ·rw [if_neg hc] at this ⊢
   have hc:(aB ⟨os,l.map toL⟩).2=0:=by omega
   exact ⟨by have:=(p7 hc).2; dsimp only at this; omega,by omega,eA _,xu hc,this.2⟩
 refine ⟨fun x=>∃ t:Nat,x=t∧t≤O.length∧∀ y:Nat,y < t→((c9 os (bb os l).1 (bb os l).2 (gi O (y:Int))).2 && dW os l (c9 os (bb os l).1 (bb os l).2 (gi O (y:Int))).1)=false,fun x=>(O.length - x).toNat,⟨0,rfl,by omega,fun y hy=>by omega⟩,?_⟩
 rintro _ ⟨t,rfl,ht,hb⟩
 refine ⟨fun hi=>?_,fun hi=>?_⟩
 ·rw [decide_eq_true_eq] at hi
  have hm:gi O (t:Int)∈O:=dq (by omega) hi
  refine ⟨⟨by omega,hi⟩,fun _=>⟨hfl _ hm,?_⟩⟩
  have j2:∀ z,z=((c9 os (bb os l).1 (bb os l).2 (gi O (t:Int))).2 && dW os l (c9 os (bb os l).1 (bb os l).2 (gi O (t:Int))).1)→VC14_J2 (fun r=>r=O.any fun x=>(c9 os (bb os l).1 (bb os l).2 x).2 && dW os l (c9 os (bb os l).1 (bb os l).2 x).1) (fun x=>∃ t:Nat,x=t∧t≤O.length∧∀ y:Nat,y < t→((c9 os (bb os l).1 (bb os l).2 (gi O (y:Int))).2 && dW os l (c9 os (bb os l).1 (bb os l).2 (gi O (y:Int))).1)=false) (fun x=>(O.length - x).toNat) (t:Int) z:=fun z hz=>by
   unfold VC14_J2
   refine ⟨fun h1=>?_,fun h1=>?_⟩
   ·exact (List.any_eq_true.2 ⟨_,hm,by rw [← hz]; exact h1⟩).symm
   ·rw [wrp (n:=(t:Int)+1) (by omega) (by omega)]
    refine ⟨⟨t+1,by push_cast; rfl,by omega,fun y hy=>?_⟩,by dsimp only; omega⟩
    by_cases e:y=t
    ·subst e; rw [← hz]; exact h1
    ·exact hb y (by omega)
  rintro _ rfl _
  refine ⟨fun hf=>⟨⟨o4,mt,?_⟩,?_⟩,fun hf=>j2 _ (by rw [hf]; rfl)⟩
  ·have h1:=uQ (os:=os) (ops:=(bb os l).1) (of:=(bb os l).2) (gi O (t:Int)) (os.map (·.aE)) []
   have h2:=(Nc _ hm).1
   unfold c9
   simp at h1
   omega
  ·rintro _ rfl
   exact j2 _ (by rw [hf]; rfl)
 ·rw [decide_eq_false_iff_not] at hi
  unfold VC14_J1
  refine Eq.symm ?_
  rw [List.any_eq_false]
  intro x hx
  obtain ⟨i,A8,rfl⟩:=List.getElem_of_mem hx
  have:=hb i (by omega)
  rw [bS _ _ A8] at this
  rw [this]; decide
end Go.Proofs.YteahldlmkheleaaGreat
