/- Lemmas. -/
import Derived.Test.YteahldlmkheleaaGreatLV19
set_option linter.all false
namespace Go.Proofs.YteahldlmkheleaaGreat
open Go Go.Sv Go.Pu
theorem v32 (i:Int) (ac:List aa) (l:List ab) (of:List Int) (k:Int) (hp:yf i ac l of k):VC32 i ac l of k (fun r=>r=dI i ac l of k):=by
 obtain ⟨h0,h1,h2⟩:=hp
 unfold VC32
 intro _ _ _
 refine ⟨⟨h0,h1⟩,fun hb=>?_,fun hb=>⟨by simp at hb; omega,?_⟩⟩
 ·unfold dI
  rw [show decide ((gi ac i).Oper < 0∨(gi ac i).Oper≥l.length)=true from decide_eq_true (by simpa using hb)]; rfl
 ·unfold dI
  rw [show decide ((gi ac i).Oper < 0∨(gi ac i).Oper≥l.length)=false from decide_eq_false (by simpa using hb)]; rfl
theorem v31_32 (x ac:List aa) (l:List ab) (of:List Int) (k:Int) (hp:ye x ac l of k):VC31_32 x ac l of k (fun r=>r=bN x ac l of k):=by
 obtain ⟨oD,mq,yG⟩:=hp
 unfold VC31_32
 intro _ _ _ _
 refine ⟨fun out i=>∃ t:Nat,i=t∧t≤x.length∧out=gb (fun i=>dI i ac l of k) (x.take t) 0,fun _ i=>(x.length - i).toNat,⟨0,rfl,by omega,rfl⟩,?_⟩
 rintro _ _ ⟨t,rfl,ht,rfl⟩
 have hl:=nm (fun i=>dI i ac l of k) x t
 refine ⟨fun hi=>?_,fun hi=>?_⟩
 ·rw [decide_eq_true_eq] at hi
  have hw:=wrp (n:=(t:Int)+1) (by omega) (by omega)
  have hs:=lI (fun i=>dI i ac l of k) (l:=x) (k:=t) (by omega)
  refine ⟨⟨by omega,hi⟩,⟨by omega,by omega,yG⟩,?_⟩
  rintro _ rfl
  refine ⟨fun hc=>⟨by simp; omega,?_⟩,fun hc=>?_⟩ <;> unfold VC31_32_J2 <;> rw [hw] <;> refine ⟨⟨t+1,by push_cast; rfl,by omega,?_⟩,by dsimp only; omega⟩
  ·rw [hs,if_pos hc]
  ·rw [hs,if_neg (by rw [show dI (t:Int) ac l of k=false from hc]; decide),List.append_nil]
 ·rw [decide_eq_false_iff_not] at hi
  unfold VC31_32_J1 bN
  rw [List.take_of_length_le (by omega)]
theorem Iq (ac:List aa) (l:List ab) (of:List Int) (k:Int):bN ac ac l of k=rB l of k ac:=by
 have:=oI (fun p:aa=>decide (p.Oper < 0∨p.Oper≥l.length) || gi of p.Oper == k) (fun p=>p) ac
 rw [List.map_id'] at this
 rw [List.map_id'] at this
 exact this
theorem nR {h:ak} (hc:(aB h).2=0):cV h=(bB h,ofH h):=by unfold cV; rw [if_neg (by omega)]
theorem uV {h:ak} (hc:(aB h).2=0):(bB h).length≤10000:=by
 have:=pN (iZ hc).1
 unfold bB; omega
theorem rS {l:List ab} {of:List Int} {ac:List aa} {os:List ae} {t:Nat} (h:t < os.length):iv l of ac (os.drop t) t=if (cg (gi os (t:Int)) l (rB l of (t:Int) ac)).2.2≠0 then false else iv l of ac (os.drop (t+1)) ((t:Int)+1):=by
 rw [fT h,iv]
theorem v12 (h:ak) (ac:List aa) (hp:r7 h ac):VC12 h ac (fun r=>r=dT h ac):=by
 obtain ⟨⟨oD,mq,yG⟩,Me⟩:=hp
 unfold VC12
 intro xp _ _
 simp only [sm] at xp
 refine ⟨⟨oD,mq,yG⟩,?_⟩
 rintro _ rfl
 unfold dT
 refine ⟨fun he=>by rw [if_pos (by simpa using he)],fun he=>⟨⟨oD,mq,yG⟩,?_⟩⟩
 have hc:(aB h).2=0:=by simpa using he
 rw [if_neg (by omega)]
 rintro _ rfl _ _
 rw [nR hc]
 dsimp only
 refine ⟨fun x=>∃ t:Nat,x=t∧t≤h.ah.length∧iv (bB h) (ofH h) ac (h.ah.drop t) t=iv (bB h) (ofH h) ac h.ah 0,fun x=>(h.ah.length - x).toNat,⟨0,rfl,by omega,rfl⟩,?_⟩
 rintro _ ⟨t,rfl,ht,hg⟩
 refine ⟨fun hi=>?_,fun hi=>?_⟩
 ·rw [decide_eq_true_eq] at hi
  rw [rS (by omega)] at hg
  refine ⟨⟨by omega,hi⟩,fun _=>⟨⟨by omega,Me,gu h⟩,?_⟩⟩
  rintro _ rfl _
  rw [Iq]
  have Ab:(rB (bB h) (ofH h) (t:Int) ac).length≤ac.length:=List.length_filter_le _ _
  refine ⟨⟨oD _ (e7 (by omega) hi),by omega⟩,?_⟩
  rintro _ rfl
  refine ⟨fun hr=>?_,fun hr=>?_⟩
  ·rw [if_pos (by simpa using hr)] at hg
   rw [← hg]; rfl
  ·rw [if_neg (by simpa using hr)] at hg
   rw [wrp (n:=(t:Int)+1) (by omega) (by omega)]
   exact ⟨⟨t+1,by push_cast; rfl,by omega,by push_cast; exact hg⟩,by dsimp only; omega⟩
 ·rw [decide_eq_false_iff_not] at hi
  have:t=h.ah.length:=by omega
  subst this
  rw [List.drop_length,iv] at hg
  unfold VC12_J1
  rw [← hg]
  rintro _ rfl
  refine ⟨fun ho=>⟨by have:=uV hc; unfold ql; dsimp only; omega,?_⟩,fun ho=>by rw [ho]; rfl⟩
  rintro _ rfl _
  rw [ho]
  dsimp only
  rw [Bool.true_and,Bool.true_and,Bool.eq_iff_iff,beq_iff_eq,beq_iff_eq]
  omega
theorem wL {n t:Nat} {f:Nat→Bool} (h:t < n) (ht:f t=true) (hb:∀ y,y < t→f y=false):(List.range n).find? f=some t:=by
 rw [List.find?_range_eq_some]
 exact ⟨ht,List.mem_range.2 h,fun y hy=>by simp [hb y hy]⟩
theorem wK {n:Nat} {f:Nat→Bool} (hb:∀ y,y < n→f y=false):(List.range n).find? f=none:=by
 rw [List.find?_eq_none]
 intro y hy
 rw [hb y (List.mem_range.1 hy)]; decide
theorem v37 (l:List ab) (ac:List aa):VC37 l ac (fun r=>r=eB l ac):=by
 unfold VC37
 intro hl hp
 simp only [sm] at hl hp
 refine ⟨fun x=>∃ t:Nat,x=t∧t≤ac.length∧∀ y:Nat,y < t→pb l ac y=false,fun x=>(ac.length - x).toNat,⟨0,rfl,by omega,fun y hy=>by omega⟩,?_⟩
 rintro _ ⟨t,rfl,ht,hb⟩
 refine ⟨fun hi=>?_,fun hi=>?_⟩
 ·rw [decide_eq_true_eq] at hi
  refine ⟨⟨by omega,hi⟩,fun x=>∃ u:Nat,x=u∧u≤l.length∧∀ k:Nat,k < u→(aZ (gi l (k:Int)) (gi l (gi ac (t:Int)).Oper) && (decide (aX ac k < 0) || decide (aX ac k≥t)))=false,fun x=>(l.length - x).toNat,⟨0,rfl,by omega,fun y hy=>by omega⟩,?_⟩
  rintro _ ⟨u,rfl,hu,hk⟩
  refine ⟨fun hj=>?_,fun hj=>?_⟩
  ·have hj:(u:Int) < l.length∧0≤(gi ac (t:Int)).Oper∧(gi ac (t:Int)).Oper < l.length:=by simp at hj; omega
   rintro _ rfl
   refine ⟨⟨by omega,hj.1⟩,hj.2,?_⟩
   have j3:∀ z,z=(aZ (gi l (u:Int)) (gi l (gi ac (t:Int)).Oper) && (decide (aX ac (u:Int) < 0) || decide (aX ac (u:Int)≥t)))→VC37_J3 (fun r=>r=eB l ac) (t:Int) (fun x=>∃ u:Nat,x=u∧u≤l.length∧∀ k:Nat,k < u→(aZ (gi l (k:Int)) (gi l (gi ac (t:Int)).Oper) && (decide (aX ac k < 0) || decide (aX ac k≥t)))=false) (fun x=>(l.length - x).toNat) (u:Int) z:=fun z hz=>by
    unfold VC37_J3
    refine ⟨fun h1=>?_,fun h1=>?_⟩
    ·have ha:pb l ac t=true:=by
      unfold pb
      rw [decide_eq_true hj.2,Bool.true_and]
      exact List.any_eq_true.2 ⟨u,List.mem_range.2 (by omega),by rw [← hz]; exact h1⟩
     unfold eB
     rw [wL (by omega) ha hb]
    ·rw [wrp (n:=(u:Int)+1) (by omega) (by omega)]
     refine ⟨⟨u+1,by push_cast; rfl,by omega,fun k Fl=>?_⟩,by dsimp only; omega⟩
     by_cases e:k=u
     ·subst e; rw [← hz]; exact h1
     ·exact hk k (by omega)
   rintro _ rfl
   refine ⟨fun ha=>j3 _ ?_,fun ha=>j3 _ ?_⟩
   ·rw [show aZ (gi l (u:Int)) (gi l (gi ac (t:Int)).Oper)=true from ha]; rfl
   ·rw [show aZ (gi l (u:Int)) (gi l (gi ac (t:Int)).Oper)=false from ha]; rfl
  ·unfold VC37_J2
   rw [wrp (n:=(t:Int)+1) (by omega) (by omega)]
   refine ⟨⟨t+1,by push_cast; rfl,by omega,fun y hy=>?_⟩,by dsimp only; omega⟩
   by_cases e:y=t
   ·subst e
    unfold pb
    by_cases hr:0≤(gi ac (y:Int)).Oper∧(gi ac (y:Int)).Oper < l.length
    ·have PC:u=l.length:=by simp at hj; omega
     rw [Bool.and_eq_false_iff]; right
     rw [List.any_eq_false]
     intro k Fl
     rw [hk k (by rw [PC]; exact List.mem_range.1 Fl)]; decide
    ·rw [decide_eq_false hr]; rfl
   ·exact hb y (by omega)
 ·rw [decide_eq_false_iff_not] at hi
  unfold VC37_J1 eB
  rw [wK (fun y hy=>hb y (by omega))]
def ou (l:List ab) (ac:List aa) (pe:Bool) (t:Nat):List Int:=((List.range t).filter (pn l ac pe)).map fun i:Nat=>(i:Int)
theorem rj (l:List ab) (ac:List aa) (pe:Bool) (t:Nat):ou l ac pe (t+1)=ou l ac pe t++(if pn l ac pe t=true then [(t:Int)] else []):=by
 unfold ou
 rw [List.range_succ,List.filter_append,List.map_append,List.filter_cons,List.filter_nil]
 split <;> rfl
theorem CY (l:List ab) (ac:List aa) (pe:Bool) (t:Nat):(ou l ac pe t).length≤t:=by
 unfold ou
 rw [List.length_map]
 have:=List.length_filter_le (pn l ac pe) (List.range t)
 rw [List.length_range] at this; exact this
theorem v38 (l:List ab) (ac:List aa) (pe:Bool) (Ca:rZ l ac pe):VC38 l ac pe (fun r=>r=eL l ac pe):=by
 unfold VC38 rZ at *
 intro _ _
 refine ⟨fun out x=>∃ t:Nat,x=t∧t≤l.length∧out=ou l ac pe t,fun _ x=>(l.length - x).toNat,⟨0,rfl,by omega,rfl⟩,?_⟩
 rintro _ _ ⟨t,rfl,ht,rfl⟩
 have hl:=CY l ac pe t
 refine ⟨fun hi=>?_,fun hi=>?_⟩
 ·rw [decide_eq_true_eq] at hi
  have hw:=wrp (n:=(t:Int)+1) (by omega) (by omega)
  have j3:∀ z,z=pn l ac pe t→VC38_J3 (fun out x=>∃ t:Nat,x=t∧t≤l.length∧out=ou l ac pe t) (fun _ x=>(l.length - x).toNat) (ou l ac pe t) (t:Int) (ou l ac pe t) z:=fun z hz=>by
   unfold VC38_J3 VC38_J2
   rw [hw]
   refine ⟨fun h1=>⟨by simp; omega,⟨t+1,by push_cast; rfl,by omega,?_⟩,by dsimp only; omega⟩,fun h1=>⟨⟨t+1,by push_cast; rfl,by omega,?_⟩,by dsimp only; omega⟩⟩
   ·rw [rj,if_pos (by rw [← hz]; exact h1)]
   ·rw [rj,if_neg (by rw [← hz,h1]; decide),List.append_nil]
  rintro _ rfl
  refine ⟨fun hc=>⟨⟨by omega,hi⟩,j3 _ ?_⟩,fun hc=>j3 _ ?_⟩
  ·unfold pn; rw [hc]; rfl
  ·unfold pn; rw [hc]; rfl
 ·rw [decide_eq_false_iff_not] at hi
  have:t=l.length:=by omega
  subst this
  rfl
theorem rW {os:List ae} {l:List az} {r:List ae} {t:Nat} (h:t < r.length):iS os l (r.drop t) t=if (eV (gi r (t:Int)) (eu (de os l t).1).1).length=0 then false else iS os l (r.drop (t+1)) ((t:Int)+1):=by
 rw [fT h,iS]
theorem xB (l:List aR) (k:Int):fN (dt l k)≤fN (l.map (·.aI)):=by
 unfold fN dt
 have hs:((l.filter (fun x=>x.ax == k)).map (·.aI)).Sublist (l.map (·.aI)):=List.Sublist.map _ List.filter_sublist
 have:=hs.countP_le (p:=fun x:au=>x.bh == 1)
 omega
theorem zW (l:List au):((eu l).1.length:Int)≤fN l:=by
 show ((fD l).1.length:Int)≤fN l
 unfold fD
 split
 ·simp [fN]
 ·rw [lA]; exact Int.le_refl _
theorem Bv (os:List ae) (l:List az) (k:Int) (h5:(opsOf (bQ l)).length≤5):(eu (de os l k).1).1.length≤5:=by
 have h1:=zW (de os l k).1
 have h2:=lA (bQ l)
 have h3:fN (de os l k).1≤fN (bQ l):=by
  unfold de
  split
  ·have:0≤fN (bQ l):=by unfold fN; omega
   simpa [fN] using this
  ·have:=xB (l.map toL) k
   have e:(l.map toL).map (·.aI)=bQ l:=by unfold bQ; rw [List.map_map]; rfl
   rw [e] at this; exact this
 omega
theorem v10 (os:List ae) (l:List az) (hp:qm os l):VC10 os l (fun r=>r=gO os l):=by
 obtain ⟨oD,mq,yG,_⟩:=hp
 unfold VC10
 intro xp _
 simp only [sm] at xp
 refine ⟨⟨oD,mq⟩,?_⟩
 rintro _ rfl
 unfold gO
 refine ⟨fun he=>by rw [if_pos (by simpa using he)],fun he=>⟨⟨oD,mq⟩,?_⟩⟩
 rw [if_neg (by simpa using he)]
 rintro _ rfl _ _
 refine ⟨fun h20=>by rw [if_pos (by simp at h20; omega)],fun h20=>?_⟩
 rw [if_neg (by simp at h20; omega)]
 refine ⟨fun x=>∃ t:Nat,x=t∧t≤os.length∧iS os l (os.drop t) t=iS os l os 0,fun x=>(os.length - x).toNat,⟨0,rfl,by omega,rfl⟩,?_⟩
 rintro _ ⟨t,rfl,ht,hg⟩
 refine ⟨fun hi=>?_,fun hi=>?_⟩
 ·rw [decide_eq_true_eq] at hi
  rw [rW (by omega)] at hg
  refine ⟨⟨oD,mq⟩,?_⟩
  rintro _ rfl _ _ rfl _
  refine ⟨⟨by omega,hi⟩,fun _=>⟨Bv os l (t:Int) yG,?_⟩⟩
  rintro _ rfl _
  refine ⟨fun h0=>?_,fun h0=>?_⟩
  ·rw [if_pos (by rw [beq_iff_eq] at h0; omega)] at hg
   rw [← hg]
  ·rw [if_neg (by rw [beq_eq_false_iff_ne] at h0; omega)] at hg
   rw [wrp (n:=(t:Int)+1) (by omega) (by omega)]
   exact ⟨⟨t+1,by push_cast; rfl,by omega,by push_cast; exact hg⟩,by dsimp only; omega⟩
 ·rw [decide_eq_false_iff_not] at hi
  have:t=os.length:=by omega
  subst this
  rw [List.drop_length,iS] at hg
  unfold VC10_J1
  rw [← hg]
theorem qe {l:List ab} {of:List Int} {ac:List aa} {os:List ae} {t:Nat} (h:t < os.length):lY l of ac (os.drop t) t=if (bL (gi os (t:Int)) l (gi os (t:Int)).aC (nb of (t:Int) ac)).2.2≠0 then false else lY l of ac (os.drop (t+1)) ((t:Int)+1):=by
 rw [fT h,lY]
theorem rX (of:List Int) (k:Int) {ac:List aa} {t:Nat} (h:t < ac.length):nb of k (ac.take (t+1))=nb of k (ac.take t)++(if (gi of (gi ac (t:Int)).Oper == k)=true then [gi ac (t:Int)] else []):=by
 unfold nb
 rw [eJ h,List.filter_append,List.filter_cons,List.filter_nil]
theorem DX (of:List Int) (k:Int) (ac:List aa) (t:Nat):(nb of k (ac.take t)).length≤t:=by
 unfold nb
 have:=List.length_filter_le (fun p:aa=>gi of p.Oper == k) (ac.take t)
 have:=List.length_take_le t ac
 omega
theorem rV {os:List ae} {l:List az} (hc:(cc os l).2=0):cU os l=(bB ⟨os,l.map toL⟩,ofH ⟨os,l.map toL⟩):=nR hc
theorem v13 (os:List ae) (l:List az) (ac:List aa) (hp:xY os l ac):VC13 os l ac (fun r=>r=fc os l ac):=by
 obtain ⟨oD,mq,yG⟩:=hp
 unfold VC13
 intro xp _ _
 simp only [sm] at xp
 refine ⟨⟨oD,mq⟩,?_⟩
 rintro _ rfl
 unfold fc
 refine ⟨fun he=>by rw [if_pos (by simpa using he)],fun he=>⟨⟨oD,mq⟩,?_⟩⟩
 have hc:(cc os l).2=0:=by simpa using he
 rw [if_neg (by omega)]
 rintro _ rfl _ _
 rw [rV hc]
 have Ab:=gu ⟨os,l.map toL⟩
 have hlen:=uV (h:=⟨os,l.map toL⟩) hc
 generalize bB ⟨os,l.map toL⟩=ops at *
 generalize ofH ⟨os,l.map toL⟩=of at *
 dsimp only
 refine ⟨fun x=>∃ t:Nat,x=t∧t≤ac.length∧∀ y:Nat,y < t→0≤(gi ac (y:Int)).Oper∧(gi ac (y:Int)).Oper < ops.length,fun x=>(ac.length - x).toNat,⟨0,rfl,by omega,fun y hy=>by omega⟩,?_⟩
 rintro _ ⟨t,rfl,ht,hb⟩
 refine ⟨fun hi=>?_,fun hi=>?_⟩
 ·rw [decide_eq_true_eq] at hi
  have j5:∀ z,(z=true↔((gi ac (t:Int)).Oper < 0∨(gi ac (t:Int)).Oper≥ops.length))→VC13_J5 (fun r=>r=(if ac.any (fun p=>decide (p.Oper < 0∨p.Oper≥ops.length))=true then false else lY ops of ac os 0 && decide (eB ops ac < 0) && ((eL ops ac false).length == 0))) (fun x=>∃ t:Nat,x=t∧t≤ac.length∧∀ y:Nat,y < t→0≤(gi ac (y:Int)).Oper∧(gi ac (y:Int)).Oper < ops.length) (fun x=>(ac.length - x).toNat) (t:Int) z:=fun z hz=>by
   unfold VC13_J5
   refine ⟨fun h1=>?_,fun h1=>?_⟩
   ·rw [if_pos (List.any_eq_true.2 ⟨_,e7 (by omega) hi,decide_eq_true (hz.1 h1)⟩)]
   ·rw [wrp (n:=(t:Int)+1) (by omega) (by omega)]
    refine ⟨⟨t+1,by push_cast; rfl,by omega,fun y hy=>?_⟩,by dsimp only; omega⟩
    by_cases e:y=t
    ·subst e
     have:¬ _:=fun hh=>by rw [hz.2 hh] at h1; cases h1
     omega
    ·exact hb y (by omega)
  refine ⟨⟨by omega,hi⟩,fun h0=>j5 _ ?_,fun h0=>⟨⟨by omega,hi⟩,j5 _ ?_⟩⟩
  ·rw [decide_eq_true_eq] at h0
   exact ⟨fun _=>.inl h0,fun _=>rfl⟩
  ·rw [decide_eq_false_iff_not] at h0
   rw [decide_eq_true_eq]
   exact ⟨fun h=>.inr h,fun h=>h.resolve_left h0⟩
 ·rw [decide_eq_false_iff_not] at hi
  have:t=ac.length:=by omega
  subst this
  have MH:ac.any (fun p=>decide (p.Oper < 0∨p.Oper≥ops.length))=false:=by
   rw [List.any_eq_false]
   intro p PL
   obtain ⟨i,Em,rfl⟩:=List.getElem_of_mem PL
   have:=hb i Em
   rw [cN _ _ Em] at this
   rw [decide_eq_true_eq]; omega
  rw [MH,if_neg (by decide)]
  unfold VC13_J1
  refine ⟨fun x=>∃ t:Nat,x=t∧t≤os.length∧lY ops of ac (os.drop t) t=lY ops of ac os 0,fun x=>(os.length - x).toNat,⟨0,rfl,by omega,rfl⟩,?_⟩
  rintro _ ⟨t,rfl,ht,hg⟩
  refine ⟨fun hi=>?_,fun hi=>?_⟩
  ·rw [decide_eq_true_eq] at hi
   rw [qe (by omega)] at hg
   refine ⟨fun own x=>∃ u:Nat,x=u∧u≤ac.length∧own=nb of (t:Int) (ac.take u),fun _ x=>(ac.length - x).toNat,⟨0,rfl,by omega,rfl⟩,?_⟩
   rintro _ _ ⟨u,rfl,hu,rfl⟩
   have hle:=DX of (t:Int) ac u
   refine ⟨fun hj=>?_,fun hj=>?_⟩
   ·rw [decide_eq_true_eq] at hj
    have Sn:=hb u (by omega)
    refine ⟨⟨by omega,hj⟩,by dsimp only; omega,fun hk=>⟨⟨by omega,hj⟩,by simp; omega,?_⟩,fun hk=>?_⟩ <;> unfold VC13_J4 <;> rw [wrp (n:=(u:Int)+1) (by omega) (by omega)] <;> refine ⟨⟨u+1,by push_cast; rfl,by omega,?_⟩,by dsimp only; omega⟩
    ·rw [rX of _ (by omega),if_pos hk]
    ·rw [rX of _ (by omega),if_neg (by rw [hk]; decide),List.append_nil]
   ·rw [decide_eq_false_iff_not] at hj
    rw [List.take_of_length_le (by omega)]
    unfold VC13_J3
    refine ⟨⟨by omega,hi⟩,fun _=>⟨⟨by omega,hi⟩,?_⟩⟩
    rintro _ rfl
    refine ⟨fun hr=>?_,fun hr=>?_⟩
    ·rw [if_pos (by simpa using hr)] at hg
     rw [← hg]; rfl
    ·rw [if_neg (by simpa using hr)] at hg
     rw [wrp (n:=(t:Int)+1) (by omega) (by omega)]
     exact ⟨⟨t+1,by push_cast; rfl,by omega,by push_cast; exact hg⟩,by dsimp only; omega⟩
  ·rw [decide_eq_false_iff_not] at hi
   have:t=os.length:=by omega
   subst this
   rw [List.drop_length,lY] at hg
   unfold VC13_J2
   rw [← hg]
   rintro _ rfl
   refine ⟨fun ho=>⟨by unfold rZ; dsimp only; omega,?_⟩,fun ho=>by rw [ho]; rfl⟩
   rintro _ rfl _
   rw [ho]
   dsimp only
   rw [Bool.true_and,Bool.true_and,Bool.eq_iff_iff,beq_iff_eq,beq_iff_eq]
   omega
end Go.Proofs.YteahldlmkheleaaGreat
