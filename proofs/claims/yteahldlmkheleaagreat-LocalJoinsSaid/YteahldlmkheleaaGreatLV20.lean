/- IH linearizations and the mY answers,as the code yg them. -/
import Derived.Test.YteahldlmkheleaaGreatLV19
set_option linter.all false
namespace Go.Proofs.YteahldlmkheleaaGreat
open Go Go.Sv Go.Pu
theorem v32 (i:Int) (ac:List aa) (l:List ab) (of:List Int) (k:Int) (hp:xC i ac l of k):VC32 i ac l of k (fun r=>r=dy i ac l of k):=by
 obtain ⟨h0,h1,h2⟩:=hp
 unfold VC32
 intro _ _ _
 refine ⟨⟨h0,h1⟩,fun hb=>?_,fun hb=>⟨by simp at hb; omega,?_⟩⟩
 ·unfold dy
  rw [show decide ((gi ac i).Oper < 0∨(gi ac i).Oper≥l.length)=true from decide_eq_true (by simpa using hb)]; rfl
 ·unfold dy
  rw [show decide ((gi ac i).Oper < 0∨(gi ac i).Oper≥l.length)=false from decide_eq_false (by simpa using hb)]; rfl
theorem v31_32 (x ac:List aa) (l:List ab) (of:List Int) (k:Int) (hp:xB x ac l of k):VC31_32 x ac l of k (fun r=>r=bL x ac l of k):=by
 obtain ⟨qV,nH,z5⟩:=hp
 unfold VC31_32
 intro _ _ _ _
 refine ⟨fun out i=>∃ t:Nat,i=t∧t≤x.length∧out=fS (fun i=>dy i ac l of k) (x.take t) 0,fun _ i=>(x.length - i).toNat,⟨0,rfl,by omega,rfl⟩,?_⟩
 rintro _ _ ⟨t,rfl,ht,rfl⟩
 have hl:=mQ (fun i=>dy i ac l of k) x t
 refine ⟨fun hi=>?_,fun hi=>?_⟩
 ·rw [decide_eq_true_eq] at hi
  have hw:=wrp (n:=(t:Int)+1) (by omega) (by omega)
  have hs:=k5 (fun i=>dy i ac l of k) (l:=x) (k:=t) (by omega)
  refine ⟨⟨by omega,hi⟩,⟨by omega,by omega,z5⟩,?_⟩
  rintro _ rfl
  refine ⟨fun hc=>⟨by simp; omega,?_⟩,fun hc=>?_⟩ <;> unfold VC31_32_J2 <;> rw [hw] <;> refine ⟨⟨t+1,by push_cast; rfl,by omega,?_⟩,by dsimp only; omega⟩
  ·rw [hs,if_pos hc]
  ·rw [hs,if_neg (by rw [show dy (t:Int) ac l of k=false from hc]; decide),List.append_nil]
 ·rw [decide_eq_false_iff_not] at hi
  unfold VC31_32_J1 bL
  rw [List.take_of_length_le (by omega)]
theorem GZ (ac:List aa) (l:List ab) (of:List Int) (k:Int):bL ac ac l of k=q7 l of k ac:=by
 have:=ob (fun p:aa=>decide (p.Oper < 0∨p.Oper≥l.length) || gi of p.Oper == k) (fun p=>p) ac
 rw [List.map_id'] at this
 rw [List.map_id'] at this
 exact this
theorem p5 {h:aj} (hc:(aA h).2=0):cJ h=(bo h,ofH h):=by unfold cJ; rw [if_neg (by omega)]
theorem ux {h:aj} (hc:(aA h).2=0):(bo h).length≤10000:=by
 have:=pq (hY hc).1
 unfold bo; omega
theorem rm {l:List ab} {of:List Int} {ac:List aa} {os:List al} {t:Nat} (h:t < os.length):iq l of ac (os.drop t) t=if (b7 (gi os (t:Int)) l (q7 l of (t:Int) ac)).2.2≠0 then false else iq l of ac (os.drop (t+1)) ((t:Int)+1):=by
 rw [gx h,iq]
theorem v12 (h:aj) (ac:List aa) (hp:rB h ac):VC12 h ac (fun r=>r=ec h ac):=by
 obtain ⟨⟨qV,nH,z5⟩,KB⟩:=hp
 unfold VC12
 intro zn _ _
 simp only [sm] at zn
 refine ⟨⟨qV,nH,z5⟩,?_⟩
 rintro _ rfl
 unfold ec
 refine ⟨fun he=>by rw [if_pos (by simpa using he)],fun he=>⟨⟨qV,nH,z5⟩,?_⟩⟩
 have hc:(aA h).2=0:=by simpa using he
 rw [if_neg (by omega)]
 rintro _ rfl _ _
 rw [p5 hc]
 dsimp only
 refine ⟨fun x=>∃ t:Nat,x=t∧t≤h.ae.length∧iq (bo h) (ofH h) ac (h.ae.drop t) t=iq (bo h) (ofH h) ac h.ae 0,fun x=>(h.ae.length - x).toNat,⟨0,rfl,by omega,rfl⟩,?_⟩
 rintro _ ⟨t,rfl,ht,hg⟩
 refine ⟨fun hi=>?_,fun hi=>?_⟩
 ·rw [decide_eq_true_eq] at hi
  rw [rm (by omega)] at hg
  refine ⟨⟨by omega,hi⟩,fun _=>⟨⟨by omega,KB,eR h⟩,?_⟩⟩
  rintro _ rfl _
  rw [GZ]
  have DS:(q7 (bo h) (ofH h) (t:Int) ac).length≤ac.length:=List.length_filter_le _ _
  refine ⟨⟨qV _ (ep (by omega) hi),by omega⟩,?_⟩
  rintro _ rfl
  refine ⟨fun hr=>?_,fun hr=>?_⟩
  ·rw [if_pos (by simpa using hr)] at hg
   rw [← hg]; rfl
  ·rw [if_neg (by simpa using hr)] at hg
   rw [wrp (n:=(t:Int)+1) (by omega) (by omega)]
   exact ⟨⟨t+1,by push_cast; rfl,by omega,by push_cast; exact hg⟩,by dsimp only; omega⟩
 ·rw [decide_eq_false_iff_not] at hi
  have:t=h.ae.length:=by omega
  subst this
  rw [List.drop_length,iq] at hg
  unfold VC12_J1
  rw [← hg]
  rintro _ rfl
  refine ⟨fun ho=>⟨by have:=ux hc; unfold pS; dsimp only; omega,?_⟩,fun ho=>by rw [ho]; rfl⟩
  rintro _ rfl _
  rw [ho]
  dsimp only
  rw [Bool.true_and,Bool.true_and,Bool.eq_iff_iff,beq_iff_eq,beq_iff_eq]
  omega
theorem wi {n t:Nat} {f:Nat→Bool} (h:t < n) (ht:f t=true) (hb:∀ y,y < t→f y=false):(List.range n).find? f=some t:=by
 rw [List.find?_range_eq_some]
 exact ⟨ht,List.mem_range.2 h,fun y hy=>by simp [hb y hy]⟩
theorem wh {n:Nat} {f:Nat→Bool} (hb:∀ y,y < n→f y=false):(List.range n).find? f=none:=by
 rw [List.find?_eq_none]
 intro y hy
 rw [hb y (List.mem_range.1 hy)]; decide
theorem v37 (l:List ab) (ac:List aa):VC37 l ac (fun r=>r=ea l ac):=by
 unfold VC37
 intro hl hp
 simp only [sm] at hl hp
 refine ⟨fun x=>∃ t:Nat,x=t∧t≤ac.length∧∀ y:Nat,y < t→oQ l ac y=false,fun x=>(ac.length - x).toNat,⟨0,rfl,by omega,fun y hy=>by omega⟩,?_⟩
 rintro _ ⟨t,rfl,ht,hb⟩
 refine ⟨fun hi=>?_,fun hi=>?_⟩
 ·rw [decide_eq_true_eq] at hi
  refine ⟨⟨by omega,hi⟩,fun x=>∃ u:Nat,x=u∧u≤l.length∧∀ k:Nat,k < u→(bb (gi l (k:Int)) (gi l (gi ac (t:Int)).Oper) && (decide (ca ac k < 0) || decide (ca ac k≥t)))=false,fun x=>(l.length - x).toNat,⟨0,rfl,by omega,fun y hy=>by omega⟩,?_⟩
  rintro _ ⟨u,rfl,hu,hk⟩
  refine ⟨fun hj=>?_,fun hj=>?_⟩
  ·have hj:(u:Int) < l.length∧0≤(gi ac (t:Int)).Oper∧(gi ac (t:Int)).Oper < l.length:=by simp at hj; omega
   rintro _ rfl
   refine ⟨⟨by omega,hj.1⟩,hj.2,?_⟩
   have j3:∀ z,z=(bb (gi l (u:Int)) (gi l (gi ac (t:Int)).Oper) && (decide (ca ac (u:Int) < 0) || decide (ca ac (u:Int)≥t)))→VC37_J3 (fun r=>r=ea l ac) (t:Int) (fun x=>∃ u:Nat,x=u∧u≤l.length∧∀ k:Nat,k < u→(bb (gi l (k:Int)) (gi l (gi ac (t:Int)).Oper) && (decide (ca ac k < 0) || decide (ca ac k≥t)))=false) (fun x=>(l.length - x).toNat) (u:Int) z:=fun z hz=>by
    unfold VC37_J3
    refine ⟨fun h1=>?_,fun h1=>?_⟩
    ·have ha:oQ l ac t=true:=by
      unfold oQ
      rw [decide_eq_true hj.2,Bool.true_and]
      exact List.any_eq_true.2 ⟨u,List.mem_range.2 (by omega),by rw [← hz]; exact h1⟩
     unfold ea
     rw [wi (by omega) ha hb]
    ·rw [wrp (n:=(u:Int)+1) (by omega) (by omega)]
     refine ⟨⟨u+1,by push_cast; rfl,by omega,fun k KM=>?_⟩,by dsimp only; omega⟩
     by_cases e:k=u
     ·subst e; rw [← hz]; exact h1
     ·exact hk k (by omega)
   rintro _ rfl
   refine ⟨fun ha=>j3 _ ?_,fun ha=>j3 _ ?_⟩
   ·rw [show bb (gi l (u:Int)) (gi l (gi ac (t:Int)).Oper)=true from ha]; rfl
   ·rw [show bb (gi l (u:Int)) (gi l (gi ac (t:Int)).Oper)=false from ha]; rfl
  ·unfold VC37_J2
   rw [wrp (n:=(t:Int)+1) (by omega) (by omega)]
   refine ⟨⟨t+1,by push_cast; rfl,by omega,fun y hy=>?_⟩,by dsimp only; omega⟩
   by_cases e:y=t
   ·subst e
    unfold oQ
    by_cases hr:0≤(gi ac (y:Int)).Oper∧(gi ac (y:Int)).Oper < l.length
    ·have N3:u=l.length:=by simp at hj; omega
     rw [Bool.and_eq_false_iff]; right
     rw [List.any_eq_false]
     intro k KM
     rw [hk k (by rw [N3]; exact List.mem_range.1 KM)]; decide
    ·rw [decide_eq_false hr]; rfl
   ·exact hb y (by omega)
 ·rw [decide_eq_false_iff_not] at hi
  unfold VC37_J1 ea
  rw [wh (fun y hy=>hb y (by omega))]
def nX (l:List ab) (ac:List aa) (pe:Bool) (t:Nat):List Int:=((List.range t).filter (oX l ac pe)).map fun i:Nat=>(i:Int)
theorem qM (l:List ab) (ac:List aa) (pe:Bool) (t:Nat):nX l ac pe (t+1)=nX l ac pe t++(if oX l ac pe t=true then [(t:Int)] else []):=by
 unfold nX
 rw [List.range_succ,List.filter_append,List.map_append,List.filter_cons,List.filter_nil]
 split <;> rfl
theorem BP (l:List ab) (ac:List aa) (pe:Bool) (t:Nat):(nX l ac pe t).length≤t:=by
 unfold nX
 rw [List.length_map]
 have:=List.length_filter_le (oX l ac pe) (List.range t)
 rw [List.length_range] at this; exact this
theorem v38 (l:List ab) (ac:List aa) (pe:Bool) (vG:rz l ac pe):VC38 l ac pe (fun r=>r=eF l ac pe):=by
 unfold VC38 rz at *
 intro _ _
 refine ⟨fun out x=>∃ t:Nat,x=t∧t≤l.length∧out=nX l ac pe t,fun _ x=>(l.length - x).toNat,⟨0,rfl,by omega,rfl⟩,?_⟩
 rintro _ _ ⟨t,rfl,ht,rfl⟩
 have hl:=BP l ac pe t
 refine ⟨fun hi=>?_,fun hi=>?_⟩
 ·rw [decide_eq_true_eq] at hi
  have hw:=wrp (n:=(t:Int)+1) (by omega) (by omega)
  have j3:∀ z,z=oX l ac pe t→VC38_J3 (fun out x=>∃ t:Nat,x=t∧t≤l.length∧out=nX l ac pe t) (fun _ x=>(l.length - x).toNat) (nX l ac pe t) (t:Int) (nX l ac pe t) z:=fun z hz=>by
   unfold VC38_J3 VC38_J2
   rw [hw]
   refine ⟨fun h1=>⟨by simp; omega,⟨t+1,by push_cast; rfl,by omega,?_⟩,by dsimp only; omega⟩,fun h1=>⟨⟨t+1,by push_cast; rfl,by omega,?_⟩,by dsimp only; omega⟩⟩
   ·rw [qM,if_pos (by rw [← hz]; exact h1)]
   ·rw [qM,if_neg (by rw [← hz,h1]; decide),List.append_nil]
  rintro _ rfl
  refine ⟨fun hc=>⟨⟨by omega,hi⟩,j3 _ ?_⟩,fun hc=>j3 _ ?_⟩
  ·unfold oX; rw [hc]; rfl
  ·unfold oX; rw [hc]; rfl
 ·rw [decide_eq_false_iff_not] at hi
  have:t=l.length:=by omega
  subst this
  rfl
theorem pK {l:List ab} {of:List Int} {ac:List aa} {os:List al} {t:Nat} (h:t < os.length):lp l of ac (os.drop t) t=if (cH (gi os (t:Int)) l (gi os (t:Int)).aE (jU of (t:Int) ac)).2.2≠0 then false else lp l of ac (os.drop (t+1)) ((t:Int)+1):=by
 rw [gx h,lp]
theorem n9 (of:List Int) (k:Int) {ac:List aa} {t:Nat} (h:t < ac.length):jU of k (ac.take (t+1))=jU of k (ac.take t)++(if (gi of (gi ac (t:Int)).Oper == k)=true then [gi ac (t:Int)] else []):=by
 unfold jU
 rw [eE h,List.filter_append,List.filter_cons,List.filter_nil]
theorem xl (of:List Int) (k:Int) (ac:List aa) (t:Nat):(jU of k (ac.take t)).length≤t:=by
 unfold jU
 have:=List.length_filter_le (fun p:aa=>gi of p.Oper == k) (ac.take t)
 have:=List.length_take_le t ac
 omega
theorem rr {os:List al} {l:List aH} (hc:(du os l).2=0):cX os l=(bo ⟨os,l.map toL⟩,ofH ⟨os,l.map toL⟩):=p5 hc
theorem v13 (os:List al) (l:List aH) (ac:List aa) (hp:xt os l ac):VC13 os l ac (fun r=>r=fq os l ac):=by
 obtain ⟨qV,nH,z5⟩:=hp
 unfold VC13
 intro zn _ _
 simp only [sm] at zn
 refine ⟨⟨qV,nH⟩,?_⟩
 rintro _ rfl
 unfold fq
 refine ⟨fun he=>by rw [if_pos (by simpa using he)],fun he=>⟨⟨qV,nH⟩,?_⟩⟩
 have hc:(du os l).2=0:=by simpa using he
 rw [if_neg (by omega)]
 rintro _ rfl _ _
 rw [rr hc]
 have DS:=eR ⟨os,l.map toL⟩
 have hlen:=ux (h:=⟨os,l.map toL⟩) hc
 generalize bo ⟨os,l.map toL⟩=ops at *
 generalize ofH ⟨os,l.map toL⟩=of at *
 dsimp only
 refine ⟨fun x=>∃ t:Nat,x=t∧t≤ac.length∧∀ y:Nat,y < t→0≤(gi ac (y:Int)).Oper∧(gi ac (y:Int)).Oper < ops.length,fun x=>(ac.length - x).toNat,⟨0,rfl,by omega,fun y hy=>by omega⟩,?_⟩
 rintro _ ⟨t,rfl,ht,hb⟩
 refine ⟨fun hi=>?_,fun hi=>?_⟩
 ·rw [decide_eq_true_eq] at hi
  have j5:∀ z,(z=true↔((gi ac (t:Int)).Oper < 0∨(gi ac (t:Int)).Oper≥ops.length))→VC13_J5 (fun r=>r=(if ac.any (fun p=>decide (p.Oper < 0∨p.Oper≥ops.length))=true then false else lp ops of ac os 0 && decide (ea ops ac < 0) && ((eF ops ac false).length == 0))) (fun x=>∃ t:Nat,x=t∧t≤ac.length∧∀ y:Nat,y < t→0≤(gi ac (y:Int)).Oper∧(gi ac (y:Int)).Oper < ops.length) (fun x=>(ac.length - x).toNat) (t:Int) z:=fun z hz=>by
   unfold VC13_J5
   refine ⟨fun h1=>?_,fun h1=>?_⟩
   ·rw [if_pos (List.any_eq_true.2 ⟨_,ep (by omega) hi,decide_eq_true (hz.1 h1)⟩)]
   ·rw [wrp (n:=(t:Int)+1) (by omega) (by omega)]
    refine ⟨⟨t+1,by push_cast; rfl,by omega,fun y hy=>?_⟩,by dsimp only; omega⟩
    by_cases e:y=t
    ·subst e
     have:¬ _:=fun hh=>by rw [hz.2 hh] at h1; cases h1
     omega
    ·exact hb y (by omega)
  refine ⟨⟨by omega,hi⟩,fun h0=>j5 _ ?_,fun h0=>⟨⟨by omega,hi⟩,j5 _ ?_⟩⟩
  ·rw [decide_eq_true_eq] at h0
   exact ⟨fun _=>.inl h0,fun _=>rfl⟩
  ·rw [decide_eq_false_iff_not] at h0
   rw [decide_eq_true_eq]
   exact ⟨fun h=>.inr h,fun h=>h.resolve_left h0⟩
 ·rw [decide_eq_false_iff_not] at hi
  have:t=ac.length:=by omega
  subst this
  have K3:ac.any (fun p=>decide (p.Oper < 0∨p.Oper≥ops.length))=false:=by
   rw [List.any_eq_false]
   intro p Od
   obtain ⟨i,Bd,rfl⟩:=List.getElem_of_mem Od
   have:=hb i Bd
   rw [cd _ _ Bd] at this
   rw [decide_eq_true_eq]; omega
  rw [K3,if_neg (by decide)]
  unfold VC13_J1
  refine ⟨fun x=>∃ t:Nat,x=t∧t≤os.length∧lp ops of ac (os.drop t) t=lp ops of ac os 0,fun x=>(os.length - x).toNat,⟨0,rfl,by omega,rfl⟩,?_⟩
  rintro _ ⟨t,rfl,ht,hg⟩
  refine ⟨fun hi=>?_,fun hi=>?_⟩
  ·rw [decide_eq_true_eq] at hi
   rw [pK (by omega)] at hg
   refine ⟨fun own x=>∃ u:Nat,x=u∧u≤ac.length∧own=jU of (t:Int) (ac.take u),fun _ x=>(ac.length - x).toNat,⟨0,rfl,by omega,rfl⟩,?_⟩
   rintro _ _ ⟨u,rfl,hu,rfl⟩
   have hle:=xl of (t:Int) ac u
   refine ⟨fun hj=>?_,fun hj=>?_⟩
   ·rw [decide_eq_true_eq] at hj
    have Q3:=hb u (by omega)
    refine ⟨⟨by omega,hj⟩,by dsimp only; omega,fun hk=>⟨⟨by omega,hj⟩,by simp; omega,?_⟩,fun hk=>?_⟩ <;> unfold VC13_J4 <;> rw [wrp (n:=(u:Int)+1) (by omega) (by omega)] <;> refine ⟨⟨u+1,by push_cast; rfl,by omega,?_⟩,by dsimp only; omega⟩
    ·rw [n9 of _ (by omega),if_pos hk]
    ·rw [n9 of _ (by omega),if_neg (by rw [hk]; decide),List.append_nil]
   ·rw [decide_eq_false_iff_not] at hj
    rw [List.take_of_length_le (by omega)]
    unfold VC13_J3
    refine ⟨⟨by omega,hi⟩,fun _=>⟨⟨by omega,hi⟩,?_⟩⟩
    rintro _ rfl
    refine ⟨fun hr=>?_,fun hr=>?_⟩
    ·rw [if_pos (by simpa using hr)] at hg
     rw [← hg]; rfl
    ·rw [if_neg (by simpa using hr)] at hg
     rw [wrp (n:=(t:Int)+1) (by omega) (by omega)]
     exact ⟨⟨t+1,by push_cast; rfl,by omega,by push_cast; exact hg⟩,by dsimp only; omega⟩
  ·rw [decide_eq_false_iff_not] at hi
   have:t=os.length:=by omega
   subst this
   rw [List.drop_length,lp] at hg
   unfold VC13_J2
   rw [← hg]
   rintro _ rfl
   refine ⟨fun ho=>⟨by unfold rz; dsimp only; omega,?_⟩,fun ho=>by rw [ho]; rfl⟩
   rintro _ rfl _
   rw [ho]
   dsimp only
   rw [Bool.true_and,Bool.true_and,Bool.eq_iff_iff,beq_iff_eq,beq_iff_eq]
   omega
theorem G0 {h:aj} (hc:(aA h).2=0):∀ k∈ofH h,0≤k∧k < h.ae.length:=by
 obtain ⟨h1,h2,h3⟩:=hY hc
 have jH:∀ (l:List aR) (i:Int) (b:List (Int × Int)),(hGo h.ae l i b).2=0→∀ x∈l,0≤x.aw∧x.aw < h.ae.length:=by
  intro l
  induction l with
  | nil=>intro i b _ x hx; cases hx
  | cons y l ih =>
   intro i b hh x hx
   rw [hGo] at hh
   by_cases e:hX h.ae b y≠0
   ·rw [if_pos e] at hh; exact absurd hh e
   ·rw [if_neg e] at hh
    rcases List.mem_cons.1 hx with rfl | hx
    ·have e:hX h.ae b x=0:=by omega
     unfold hX at e
     by_cases hr:x.aw < 0∨x.aw≥h.ae.length
     ·rw [if_pos hr] at e; cases e
     ·omega
    ·exact ih _ _ hh x hx
 intro k hk
 unfold ofH at hk
 obtain ⟨o,ho,rfl⟩:=List.mem_map.1 hk
 obtain ⟨i,hi,rfl⟩:=List.getElem_of_mem ho
 have jS:=sR hc (i:=(i:Int)) (by omega) (by omega)
 rw [cd _ _ hi] at jS
 exact jH _ _ _ h3 _ (ep jS.1 jS.2)
end Go.Proofs.YteahldlmkheleaaGreat
