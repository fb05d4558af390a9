/- Joint linearizations and the document's answers, as the code finds them. -/
import Derived.Test.YteahldlmkheleaaGreatLV19
set_option linter.all false
namespace Go.Proofs.YteahldlmkheleaaGreat
open Go Go.Sv Go.Pu
theorem v32 (i:Int) (ah:List aa) (l:List ab) (of:List Int) (k:Int) (hp:yz i ah l of k):VC32 i ah l of k (fun r=>r=dN i ah l of k):=by
 obtain ⟨h0,h1,h2⟩:=hp
 unfold VC32
 intro _ _ _
 refine ⟨⟨h0,h1⟩,fun hb=>?_,fun hb=>⟨by simp at hb; omega,?_⟩⟩
 ·unfold dN
  rw [show decide ((gi ah i).Oper < 0∨(gi ah i).Oper≥l.length)=true from decide_eq_true (by simpa using hb)]; rfl
 ·unfold dN
  rw [show decide ((gi ah i).Oper < 0∨(gi ah i).Oper≥l.length)=false from decide_eq_false (by simpa using hb)]; rfl
theorem v31_32 (x ah:List aa) (l:List ab) (of:List Int) (k:Int) (hp:yy x ah l of k):VC31_32 x ah l of k (fun r=>r=bR x ah l of k):=by
 obtain ⟨pZ,np,za⟩:=hp
 unfold VC31_32
 intro _ _ _ _
 refine ⟨fun out i=>∃ t:Nat,i=t∧t≤x.length∧out=gV (fun i=>dN i ah l of k) (x.take t) 0,fun _ i=>(x.length - i).toNat,⟨0,rfl,by omega,rfl⟩,?_⟩
 rintro _ _ ⟨t,rfl,ht,rfl⟩
 have hl:=nG (fun i=>dN i ah l of k) x t
 refine ⟨fun hi=>?_,fun hi=>?_⟩
 ·rw [decide_eq_true_eq] at hi
  have hw:=wrp (n:=(t:Int)+1) (by omega) (by omega)
  have hs:=lK (fun i=>dN i ah l of k) (l:=x) (k:=t) (by omega)
  refine ⟨⟨by omega,hi⟩,⟨by omega,by omega,za⟩,?_⟩
  rintro _ rfl
  refine ⟨fun hc=>⟨by simp; omega,?_⟩,fun hc=>?_⟩ <;> unfold VC31_32_J2 <;> rw [hw] <;> refine ⟨⟨t+1,by push_cast; rfl,by omega,?_⟩,by dsimp only; omega⟩
  ·rw [hs,if_pos hc]
  ·rw [hs,if_neg (by rw [show dN (t:Int) ah l of k=false from hc]; decide),List.append_nil]
 ·rw [decide_eq_false_iff_not] at hi
  unfold VC31_32_J1 bR
  rw [List.take_of_length_le (by omega)]
theorem ID (ah:List aa) (l:List ab) (of:List Int) (k:Int):bR ah ah l of k=D9 l of k ah:=by
 have:=sK (fun p:aa=>decide (p.Oper < 0∨p.Oper≥l.length) || gi of p.Oper == k) (fun p=>p) ah
 rw [List.map_id'] at this
 rw [List.map_id'] at this
 exact this
theorem qT {h:al} (hc:(aE h).2=0):cN h=(bz h,ofH h):=by unfold cN; rw [if_neg (by omega)]
theorem vn {h:al} (hc:(aE h).2=0):(bz h).length≤10000:=by
 have:=tP (jJ hc).1
 unfold bz; omega
theorem zT {l:List ab} {of:List Int} {ah:List aa} {os:List aj} {t:Nat} (h:t < os.length):kR l of ah (os.drop t) t=if (cS (gi os (t:Int)) l (D9 l of (t:Int) ah)).2.2≠0 then false else kR l of ah (os.drop (t+1)) ((t:Int)+1):=by
 rw [hX h,kR]
theorem v12 (h:al) (ah:List aa) (hp:vh h ah):VC12 h ah (fun r=>r=gn h ah):=by
 obtain ⟨⟨pZ,np,za⟩,IV⟩:=hp
 unfold VC12
 intro yV _ _
 simp only [sm] at yV
 refine ⟨⟨pZ,np,za⟩,?_⟩
 rintro _ rfl
 unfold gn
 refine ⟨fun he=>by rw [if_pos (by simpa using he)],fun he=>⟨⟨pZ,np,za⟩,?_⟩⟩
 have hc:(aE h).2=0:=by simpa using he
 rw [if_neg (by omega)]
 rintro _ rfl _ _
 rw [qT hc]
 dsimp only
 refine ⟨fun x=>∃ t:Nat,x=t∧t≤h.ae.length∧kR (bz h) (ofH h) ah (h.ae.drop t) t=kR (bz h) (ofH h) ah h.ae 0,fun x=>(h.ae.length - x).toNat,⟨0,rfl,by omega,rfl⟩,?_⟩
 rintro _ ⟨t,rfl,ht,hg⟩
 refine ⟨fun hi=>?_,fun hi=>?_⟩
 ·rw [decide_eq_true_eq] at hi
  rw [zT (by omega)] at hg
  refine ⟨⟨by omega,hi⟩,fun _=>⟨⟨by omega,IV,eR h⟩,?_⟩⟩
  rintro _ rfl _
  rw [ID]
  have DC:(D9 (bz h) (ofH h) (t:Int) ah).length≤ah.length:=List.length_filter_le _ _
  refine ⟨⟨pZ _ (dB (by omega) hi),by omega⟩,?_⟩
  rintro _ rfl
  refine ⟨fun hr=>?_,fun hr=>?_⟩
  ·rw [if_pos (by simpa using hr)] at hg
   rw [← hg]; rfl
  ·rw [if_neg (by simpa using hr)] at hg
   rw [wrp (n:=(t:Int)+1) (by omega) (by omega)]
   exact ⟨⟨t+1,by push_cast; rfl,by omega,by push_cast; exact hg⟩,by dsimp only; omega⟩
 ·rw [decide_eq_false_iff_not] at hi
  have:t=h.ae.length:=by omega
  subst this
  rw [List.drop_length,kR] at hg
  unfold VC12_J1
  rw [← hg]
  rintro _ rfl
  refine ⟨fun ho=>⟨by have:=vn hc; unfold qK; dsimp only; omega,?_⟩,fun ho=>by rw [ho]; rfl⟩
  rintro _ rfl _
  rw [ho]
  dsimp only
  rw [Bool.true_and,Bool.true_and,Bool.eq_iff_iff,beq_iff_eq,beq_iff_eq]
  omega
theorem xf {n t:Nat} {f:Nat→Bool} (h:t < n) (ht:f t=true) (hb:∀ y,y < t→f y=false):(List.range n).find? f=some t:=by
 rw [List.find?_range_eq_some]
 exact ⟨ht,List.mem_range.2 h,fun y hy=>by simp [hb y hy]⟩
theorem xe {n:Nat} {f:Nat→Bool} (hb:∀ y,y < n→f y=false):(List.range n).find? f=none:=by
 rw [List.find?_eq_none]
 intro y hy
 rw [hb y (List.mem_range.1 hy)]; decide
theorem v37 (l:List ab) (ah:List aa):VC37 l ah (fun r=>r=eK l ah):=by
 unfold VC37
 intro hl hp
 simp only [sm] at hl hp
 refine ⟨fun x=>∃ t:Nat,x=t∧t≤ah.length∧∀ y:Nat,y < t→pE l ah y=false,fun x=>(ah.length - x).toNat,⟨0,rfl,by omega,fun y hy=>by omega⟩,?_⟩
 rintro _ ⟨t,rfl,ht,hb⟩
 refine ⟨fun hi=>?_,fun hi=>?_⟩
 ·rw [decide_eq_true_eq] at hi
  refine ⟨⟨by omega,hi⟩,fun x=>∃ u:Nat,x=u∧u≤l.length∧∀ k:Nat,k < u→(bl (gi l (k:Int)) (gi l (gi ah (t:Int)).Oper) && (decide (cn ah k < 0) || decide (cn ah k≥t)))=false,fun x=>(l.length - x).toNat,⟨0,rfl,by omega,fun y hy=>by omega⟩,?_⟩
  rintro _ ⟨u,rfl,hu,hk⟩
  refine ⟨fun hj=>?_,fun hj=>?_⟩
  ·have hj:(u:Int) < l.length∧0≤(gi ah (t:Int)).Oper∧(gi ah (t:Int)).Oper < l.length:=by simp at hj; omega
   rintro _ rfl
   refine ⟨⟨by omega,hj.1⟩,hj.2,?_⟩
   have j3:∀ z,z=(bl (gi l (u:Int)) (gi l (gi ah (t:Int)).Oper) && (decide (cn ah (u:Int) < 0) || decide (cn ah (u:Int)≥t)))→VC37_J3 (fun r=>r=eK l ah) (t:Int) (fun x=>∃ u:Nat,x=u∧u≤l.length∧∀ k:Nat,k < u→(bl (gi l (k:Int)) (gi l (gi ah (t:Int)).Oper) && (decide (cn ah k < 0) || decide (cn ah k≥t)))=false) (fun x=>(l.length - x).toNat) (u:Int) z:=fun z hz=>by
    unfold VC37_J3
    refine ⟨fun h1=>?_,fun h1=>?_⟩
    ·have ha:pE l ah t=true:=by
      unfold pE
      rw [decide_eq_true hj.2,Bool.true_and]
      exact List.any_eq_true.2 ⟨u,List.mem_range.2 (by omega),by rw [← hz]; exact h1⟩
     unfold eK
     rw [xf (by omega) ha hb]
    ·rw [wrp (n:=(u:Int)+1) (by omega) (by omega)]
     refine ⟨⟨u+1,by push_cast; rfl,by omega,fun k MH=>?_⟩,by dsimp only; omega⟩
     by_cases e:k=u
     ·subst e; rw [← hz]; exact h1
     ·exact hk k (by omega)
   rintro _ rfl
   refine ⟨fun ha=>j3 _ ?_,fun ha=>j3 _ ?_⟩
   ·rw [show bl (gi l (u:Int)) (gi l (gi ah (t:Int)).Oper)=true from ha]; rfl
   ·rw [show bl (gi l (u:Int)) (gi l (gi ah (t:Int)).Oper)=false from ha]; rfl
  ·unfold VC37_J2
   rw [wrp (n:=(t:Int)+1) (by omega) (by omega)]
   refine ⟨⟨t+1,by push_cast; rfl,by omega,fun y hy=>?_⟩,by dsimp only; omega⟩
   by_cases e:y=t
   ·subst e
    unfold pE
    by_cases hr:0≤(gi ah (y:Int)).Oper∧(gi ah (y:Int)).Oper < l.length
    ·have P4:u=l.length:=by simp at hj; omega
     rw [Bool.and_eq_false_iff]; right
     rw [List.any_eq_false]
     intro k MH
     rw [hk k (by rw [P4]; exact List.mem_range.1 MH)]; decide
    ·rw [decide_eq_false hr]; rfl
   ·exact hb y (by omega)
 ·rw [decide_eq_false_iff_not] at hi
  unfold VC37_J1 eK
  rw [xe (fun y hy=>hb y (by omega))]
def oH (l:List ab) (ah:List aa) (pe:Bool) (t:Nat):List Int:=((List.range t).filter (pN l ah pe)).map fun i:Nat=>(i:Int)
theorem rI (l:List ab) (ah:List aa) (pe:Bool) (t:Nat):oH l ah pe (t+1)=oH l ah pe t++(if pN l ah pe t=true then [(t:Int)] else []):=by
 unfold oH
 rw [List.range_succ,List.filter_append,List.map_append,List.filter_cons,List.filter_nil]
 split <;> rfl
theorem C2 (l:List ab) (ah:List aa) (pe:Bool) (t:Nat):(oH l ah pe t).length≤t:=by
 unfold oH
 rw [List.length_map]
 have:=List.length_filter_le (pN l ah pe) (List.range t)
 rw [List.length_range] at this; exact this
theorem v38 (l:List ab) (ah:List aa) (pe:Bool) (wH:su l ah pe):VC38 l ah pe (fun r=>r=eW l ah pe):=by
 unfold VC38 su at *
 intro _ _
 refine ⟨fun out x=>∃ t:Nat,x=t∧t≤l.length∧out=oH l ah pe t,fun _ x=>(l.length - x).toNat,⟨0,rfl,by omega,rfl⟩,?_⟩
 rintro _ _ ⟨t,rfl,ht,rfl⟩
 have hl:=C2 l ah pe t
 refine ⟨fun hi=>?_,fun hi=>?_⟩
 ·rw [decide_eq_true_eq] at hi
  have hw:=wrp (n:=(t:Int)+1) (by omega) (by omega)
  have j3:∀ z,z=pN l ah pe t→VC38_J3 (fun out x=>∃ t:Nat,x=t∧t≤l.length∧out=oH l ah pe t) (fun _ x=>(l.length - x).toNat) (oH l ah pe t) (t:Int) (oH l ah pe t) z:=fun z hz=>by
   unfold VC38_J3 VC38_J2
   rw [hw]
   refine ⟨fun h1=>⟨by simp; omega,⟨t+1,by push_cast; rfl,by omega,?_⟩,by dsimp only; omega⟩,fun h1=>⟨⟨t+1,by push_cast; rfl,by omega,?_⟩,by dsimp only; omega⟩⟩
   ·rw [rI,if_pos (by rw [← hz]; exact h1)]
   ·rw [rI,if_neg (by rw [← hz,h1]; decide),List.append_nil]
  rintro _ rfl
  refine ⟨fun hc=>⟨⟨by omega,hi⟩,j3 _ ?_⟩,fun hc=>j3 _ ?_⟩
  ·unfold pN; rw [hc]; rfl
  ·unfold pN; rw [hc]; rfl
 ·rw [decide_eq_false_iff_not] at hi
  have:t=l.length:=by omega
  subst this
  rfl
theorem AA {os:List aj} {ops:List ab} {of order:List Int} {t:Nat} (h:t < order.length) (st:List Int) (out:List aa):jk os ops of (order.drop t) st out=if (bA (gi os (gi of (gi order (t:Int)))) (gi st (gi of (gi order (t:Int)))) (gi ops (gi order (t:Int))).Kind).2.2=false then ([],false) else jk os ops of (order.drop (t+1)) (st.set (gi of (gi order (t:Int))).toNat (bA (gi os (gi of (gi order (t:Int)))) (gi st (gi of (gi order (t:Int)))) (gi ops (gi order (t:Int))).Kind).1) (out++[⟨gi order (t:Int),(bA (gi os (gi of (gi order (t:Int)))) (gi st (gi of (gi order (t:Int)))) (gi ops (gi order (t:Int))).Kind).2.1⟩]):=by
 rw [hX h,jk]
theorem v40 (os:List aj) (ops:List ab) (of order:List Int) (hp:vi os ops of order):VC40 os ops of order (fun r=>r=dj os ops of order):=by
 obtain ⟨h1,h2,h3,h4,h5⟩:=hp
 unfold VC40
 intro _ _ _ _
 refine ⟨fun st x=>∃ t:Nat,x=t∧t≤os.length∧st=(os.take t).map (·.aH),fun _ x=>(os.length - x).toNat,⟨0,rfl,by omega,rfl⟩,?_⟩
 rintro _ _ ⟨t,rfl,ht,rfl⟩
 refine ⟨fun hi=>?_,fun hi=>?_⟩
 ·rw [decide_eq_true_eq] at hi
  rw [wrp (n:=(t:Int)+1) (by omega) (by omega)]
  refine ⟨⟨by omega,hi⟩,by simp; omega,⟨t+1,by push_cast; rfl,by omega,?_⟩,by dsimp only; omega⟩
  rw [fy (by omega),List.map_append]; rfl
 ·rw [decide_eq_false_iff_not] at hi
  rw [List.take_of_length_le (by omega)]
  unfold VC40_J1
  refine ⟨fun st out x=>∃ t:Nat,x=t∧t≤order.length∧st.length=os.length∧out.length≤t∧jk os ops of (order.drop t) st out=dj os ops of order,fun _ _ x=>(order.length - x).toNat,⟨0,rfl,by omega,by simp,by simp,rfl⟩,?_⟩
  rintro st out _ ⟨u,rfl,hu,DA,DC,hg⟩
  refine ⟨fun hj=>?_,fun hj=>?_⟩
  ·rw [decide_eq_true_eq] at hj
   rw [AA (by omega)] at hg
   have a1:=h5 _ (dB (by omega) hj)
   have a2:=h4 _ (dB (l:=of) a1.1 (by omega))
   refine ⟨⟨by omega,hj⟩,by omega,a2,fun _=>⟨⟨by omega,hj⟩,a1,by omega,?_⟩⟩
   rintro _ rfl
   refine ⟨fun hm=>?_,fun hm=>⟨by omega,⟨by omega,hj⟩,by simp; omega,?_⟩⟩
   ·rw [if_pos (by simpa using hm)] at hg; exact hg
   ·rw [if_neg (by simpa using hm)] at hg
    rw [wrp (n:=(u:Int)+1) (by omega) (by omega)]
    exact ⟨⟨u+1,by push_cast; rfl,by omega,by simpa using DA,by simp; omega,hg⟩,by dsimp only; omega⟩
  ·rw [decide_eq_false_iff_not] at hj
   have:u=order.length:=by omega
   subst this
   rw [List.drop_length,jk] at hg
   exact hg
theorem qC {l:List ab} {of:List Int} {ah:List aa} {os:List aj} {t:Nat} (h:t < os.length):l4 l of ah (os.drop t) t=if (c6 (gi os (t:Int)) l (gi os (t:Int)).aH (gT of (t:Int) ah)).2.2≠0 then false else l4 l of ah (os.drop (t+1)) ((t:Int)+1):=by
 rw [hX h,l4]
theorem sq (of:List Int) (k:Int) {ah:List aa} {t:Nat} (h:t < ah.length):gT of k (ah.take (t+1))=gT of k (ah.take t)++(if (gi of (gi ah (t:Int)).Oper == k)=true then [gi ah (t:Int)] else []):=by
 unfold gT
 rw [fy h,List.filter_append,List.filter_cons,List.filter_nil]
theorem D6 (of:List Int) (k:Int) (ah:List aa) (t:Nat):(gT of k (ah.take t)).length≤t:=by
 unfold gT
 have:=List.length_filter_le (fun p:aa=>gi of p.Oper == k) (ah.take t)
 have:=List.length_take_le t ah
 omega
theorem sn {os:List aj} {l:List aG} (hc:(dJ os l).2=0):bf os l=(bz ⟨os,l.map toL⟩,ofH ⟨os,l.map toL⟩):=qT hc
theorem v13 (os:List aj) (l:List aG) (ah:List aa) (hp:yn os l ah):VC13 os l ah (fun r=>r=eA os l ah):=by
 obtain ⟨pZ,np,za⟩:=hp
 unfold VC13
 intro yV _ _
 simp only [sm] at yV
 refine ⟨⟨pZ,np⟩,?_⟩
 rintro _ rfl
 unfold eA
 refine ⟨fun he=>by rw [if_pos (by simpa using he)],fun he=>⟨⟨pZ,np⟩,?_⟩⟩
 have hc:(dJ os l).2=0:=by simpa using he
 rw [if_neg (by omega)]
 rintro _ rfl _ _
 rw [sn hc]
 have DC:=eR ⟨os,l.map toL⟩
 have hlen:=vn (h:=⟨os,l.map toL⟩) hc
 generalize bz ⟨os,l.map toL⟩=ops at *
 generalize ofH ⟨os,l.map toL⟩=of at *
 dsimp only
 refine ⟨fun x=>∃ t:Nat,x=t∧t≤ah.length∧∀ y:Nat,y < t→0≤(gi ah (y:Int)).Oper∧(gi ah (y:Int)).Oper < ops.length,fun x=>(ah.length - x).toNat,⟨0,rfl,by omega,fun y hy=>by omega⟩,?_⟩
 rintro _ ⟨t,rfl,ht,hb⟩
 refine ⟨fun hi=>?_,fun hi=>?_⟩
 ·rw [decide_eq_true_eq] at hi
  have j5:∀ z,(z=true↔((gi ah (t:Int)).Oper < 0∨(gi ah (t:Int)).Oper≥ops.length))→VC13_J5 (fun r=>r=(if ah.any (fun p=>decide (p.Oper < 0∨p.Oper≥ops.length))=true then false else l4 ops of ah os 0 && decide (eK ops ah < 0) && ((eW ops ah false).length == 0))) (fun x=>∃ t:Nat,x=t∧t≤ah.length∧∀ y:Nat,y < t→0≤(gi ah (y:Int)).Oper∧(gi ah (y:Int)).Oper < ops.length) (fun x=>(ah.length - x).toNat) (t:Int) z:=fun z hz=>by
   unfold VC13_J5
   refine ⟨fun h1=>?_,fun h1=>?_⟩
   ·rw [if_pos (List.any_eq_true.2 ⟨_,dB (by omega) hi,decide_eq_true (hz.1 h1)⟩)]
   ·rw [wrp (n:=(t:Int)+1) (by omega) (by omega)]
    refine ⟨⟨t+1,by push_cast; rfl,by omega,fun y hy=>?_⟩,by dsimp only; omega⟩
    by_cases e:y=t
    ·subst e
     have:¬ _:=fun hh=>by rw [hz.2 hh] at h1; cases h1
     omega
    ·exact hb y (by omega)
  refine ⟨⟨by omega,hi⟩,fun h0=>j5 _ ?_,fun h0=>⟨⟨by omega,hi⟩,j5 _ ?_⟩⟩
  ·rw [decide_eq_true_eq] at h0
   exact ⟨fun _=>.inl h0,fun _=>rfl⟩
  ·rw [decide_eq_false_iff_not] at h0
   rw [decide_eq_true_eq]
   exact ⟨fun h=>.inr h,fun h=>h.resolve_left h0⟩
 ·rw [decide_eq_false_iff_not] at hi
  have:t=ah.length:=by omega
  subst this
  have MZ:ah.any (fun p=>decide (p.Oper < 0∨p.Oper≥ops.length))=false:=by
   rw [List.any_eq_false]
   intro p Qi
   obtain ⟨i,Cn,rfl⟩:=List.getElem_of_mem Qi
   have:=hb i Cn
   rw [bZ _ _ Cn] at this
   rw [decide_eq_true_eq]; omega
  rw [MZ,if_neg (by decide)]
  unfold VC13_J1
  refine ⟨fun x=>∃ t:Nat,x=t∧t≤os.length∧l4 ops of ah (os.drop t) t=l4 ops of ah os 0,fun x=>(os.length - x).toNat,⟨0,rfl,by omega,rfl⟩,?_⟩
  rintro _ ⟨t,rfl,ht,hg⟩
  refine ⟨fun hi=>?_,fun hi=>?_⟩
  ·rw [decide_eq_true_eq] at hi
   rw [qC (by omega)] at hg
   refine ⟨fun own x=>∃ u:Nat,x=u∧u≤ah.length∧own=gT of (t:Int) (ah.take u),fun _ x=>(ah.length - x).toNat,⟨0,rfl,by omega,rfl⟩,?_⟩
   rintro _ _ ⟨u,rfl,hu,rfl⟩
   have hle:=D6 of (t:Int) ah u
   refine ⟨fun hj=>?_,fun hj=>?_⟩
   ·rw [decide_eq_true_eq] at hj
    have Ta:=hb u (by omega)
    refine ⟨⟨by omega,hj⟩,by dsimp only; omega,fun hk=>⟨⟨by omega,hj⟩,by simp; omega,?_⟩,fun hk=>?_⟩ <;> unfold VC13_J4 <;> rw [wrp (n:=(u:Int)+1) (by omega) (by omega)] <;> refine ⟨⟨u+1,by push_cast; rfl,by omega,?_⟩,by dsimp only; omega⟩
    ·rw [sq of _ (by omega),if_pos hk]
    ·rw [sq of _ (by omega),if_neg (by rw [hk]; decide),List.append_nil]
   ·rw [decide_eq_false_iff_not] at hj
    rw [List.take_of_length_le (by omega)]
    unfold VC13_J3
    refine ⟨⟨by omega,hi⟩,fun _=>⟨⟨by omega,hi⟩,?_⟩⟩
    rintro _ rfl
    refine ⟨fun hr=>?_,fun hr=>?_⟩
    ·rw [if_pos (by simpa using hr)] at hg
     rw [← hg]; rfl
    ·rw [if_neg (by simpa using hr)] at hg
     rw [wrp (n:=(t:Int)+1) (by omega) (by omega)]
     exact ⟨⟨t+1,by push_cast; rfl,by omega,by push_cast; exact hg⟩,by dsimp only; omega⟩
  ·rw [decide_eq_false_iff_not] at hi
   have:t=os.length:=by omega
   subst this
   rw [List.drop_length,l4] at hg
   unfold VC13_J2
   rw [← hg]
   rintro _ rfl
   refine ⟨fun ho=>⟨by unfold su; dsimp only; omega,?_⟩,fun ho=>by rw [ho]; rfl⟩
   rintro _ rfl _
   rw [ho]
   dsimp only
   rw [Bool.true_and,Bool.true_and,Bool.eq_iff_iff,beq_iff_eq,beq_iff_eq]
   omega
theorem Ab {n:Nat} (hn:n≤5):∀ x∈dh (n:Int),x.length≤10∧∀ i∈x,0≤i∧i < n:=by
 have h:((List.range 6).all fun n=>(dh (n:Int)).all fun x=>decide (x.length≤10) && x.all fun i=>decide (0≤i∧i < n))=true:=by decide +kernel
 rw [List.all_eq_true] at h
 have h:=h n (List.mem_range.2 (by omega))
 rw [List.all_eq_true] at h
 intro x hx
 have h:=h x hx
 rw [Bool.and_eq_true,decide_eq_true_eq,List.all_eq_true] at h
 exact ⟨h.1,fun i hi=>by simpa using h.2 i hi⟩
theorem vX {os:List aj} {ops:List ab} {of:List Int}:∀ (order st:List Int) (out:List aa),(jk os ops of order st out).1.length≤out.length+order.length
 | [],st,out=>by simp [jk]
 | i :: r,st,out=>by
  rw [jk]
  split
  ·simp
  ·have:=vX (os:=os) (ops:=ops) (of:=of) r (st.set (gi of i).toNat (bA (gi os (gi of i)) (gi st (gi of i)) (gi ops i).Kind).1) (out++[⟨i,(bA (gi os (gi of i)) (gi st (gi of i)) (gi ops i).Kind).2.1⟩])
   simp at this ⊢
   omega
theorem yM {h:al} (hc:(aE h).2=0):∀ k∈ofH h,0≤k∧k < h.ae.length:=by
 obtain ⟨h1,h2,h3⟩:=jJ hc
 have jE:∀ (l:List bd) (i:Int) (b:List (Int × Int)),(hGo h.ae l i b).2=0→∀ x∈l,0≤x.aA∧x.aA < h.ae.length:=by
  intro l
  induction l with
  | nil=>intro i b _ x hx; cases hx
  | cons y l ih =>
   intro i b hh x hx
   rw [hGo] at hh
   by_cases e:jv h.ae b y≠0
   ·rw [if_pos e] at hh; exact absurd hh e
   ·rw [if_neg e] at hh
    rcases List.mem_cons.1 hx with rfl | hx
    ·have e:jv h.ae b x=0:=by omega
     unfold jv at e
     by_cases hr:x.aA < 0∨x.aA≥h.ae.length
     ·rw [if_pos hr] at e; cases e
     ·omega
    ·exact ih _ _ hh x hx
 intro k hk
 unfold ofH at hk
 obtain ⟨o,ho,rfl⟩:=List.mem_map.1 hk
 obtain ⟨i,hi,rfl⟩:=List.getElem_of_mem ho
 have hin:=tQ hc (i:=(i:Int)) (by omega) (by omega)
 rw [bZ _ _ hi] at hin
 exact jE _ _ _ h3 _ (dB hin.1 hin.2)
theorem v14 (os:List aj) (l:List aG) (hp:qL os l):VC14 os l (fun r=>r=fM os l):=by
 obtain ⟨pZ,np,za,IV⟩:=hp
 unfold VC14
 intro yV _
 refine ⟨⟨pZ,np⟩,?_⟩
 rintro _ rfl _ _
 have OC:(bf os l).1.length≤5:=by
  unfold bf cN
  split
  ·simp
  ·show (opsOf (bT ⟨os,l.map toL⟩)).length≤5
   rw [mK]; exact za
 refine ⟨⟨by omega,by omega⟩,?_⟩
 rintro _ rfl _
 have ho:=Aa OC
 have OF:=Ab OC
 unfold fM
 generalize hO:dh ((bf os l).1.length:Int)=O at *
 have hfl:∀ x∈O,vi os (bf os l).1 (bf os l).2 x:=fun x hx=>by
  have:=OF x hx
  unfold bf cN at this ⊢
  by_cases hc:(aE ⟨os,l.map toL⟩).2≠0
  ·rw [if_pos hc] at this ⊢
   exact ⟨IV,by omega,rfl,(fun k hk=>by cases hk),this.2⟩
  ·rw [if_neg hc] at this ⊢
   have hc:(aE ⟨os,l.map toL⟩).2=0:=by omega
   exact ⟨by have:=(qV hc).2; dsimp only at this; omega,by omega,eR _,yM hc,this.2⟩
 refine ⟨fun x=>∃ t:Nat,x=t∧t≤O.length∧∀ y:Nat,y < t→((dj os (bf os l).1 (bf os l).2 (gi O (y:Int))).2 && eA os l (dj os (bf os l).1 (bf os l).2 (gi O (y:Int))).1)=false,fun x=>(O.length - x).toNat,⟨0,rfl,by omega,fun y hy=>by omega⟩,?_⟩
 rintro _ ⟨t,rfl,ht,hb⟩
 refine ⟨fun hi=>?_,fun hi=>?_⟩
 ·rw [decide_eq_true_eq] at hi
  have hm:gi O (t:Int)∈O:=dB (by omega) hi
  refine ⟨⟨by omega,hi⟩,fun _=>⟨hfl _ hm,?_⟩⟩
  have j2:∀ z,z=((dj os (bf os l).1 (bf os l).2 (gi O (t:Int))).2 && eA os l (dj os (bf os l).1 (bf os l).2 (gi O (t:Int))).1)→VC14_J2 (fun r=>r=O.any fun x=>(dj os (bf os l).1 (bf os l).2 x).2 && eA os l (dj os (bf os l).1 (bf os l).2 x).1) (fun x=>∃ t:Nat,x=t∧t≤O.length∧∀ y:Nat,y < t→((dj os (bf os l).1 (bf os l).2 (gi O (y:Int))).2 && eA os l (dj os (bf os l).1 (bf os l).2 (gi O (y:Int))).1)=false) (fun x=>(O.length - x).toNat) (t:Int) z:=fun z hz=>by
   unfold VC14_J2
   refine ⟨fun h1=>?_,fun h1=>?_⟩
   ·exact (List.any_eq_true.2 ⟨_,hm,by rw [← hz]; exact h1⟩).symm
   ·rw [wrp (n:=(t:Int)+1) (by omega) (by omega)]
    refine ⟨⟨t+1,by push_cast; rfl,by omega,fun y hy=>?_⟩,by dsimp only; omega⟩
    by_cases e:y=t
    ·subst e; rw [← hz]; exact h1
    ·exact hb y (by omega)
  rintro _ rfl _
  refine ⟨fun hf=>⟨⟨pZ,np,?_⟩,?_⟩,fun hf=>j2 _ (by rw [hf]; rfl)⟩
  ·have h1:=vX (os:=os) (ops:=(bf os l).1) (of:=(bf os l).2) (gi O (t:Int)) (os.map (·.aH)) []
   have h2:=(OF _ hm).1
   unfold dj
   simp at h1
   omega
  ·rintro _ rfl
   exact j2 _ (by rw [hf]; rfl)
 ·rw [decide_eq_false_iff_not] at hi
  unfold VC14_J1
  refine Eq.symm ?_
  rw [List.any_eq_false]
  intro x hx
  obtain ⟨i,Cn,rfl⟩:=List.getElem_of_mem hx
  have:=hb i (by omega)
  rw [bZ _ _ Cn] at this
  rw [this]; decide
end Go.Proofs.YteahldlmkheleaaGreat
