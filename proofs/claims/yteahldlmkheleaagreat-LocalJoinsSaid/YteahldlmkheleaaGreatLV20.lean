/- Joint linearizations and the document's answers, as the code finds them. -/
import Derived.Test.YteahldlmkheleaaGreatLV19
set_option linter.all false
namespace Go.Proofs.YteahldlmkheleaaGreat
open Go Go.Sv Go.Pu
theorem v32 (i:Int) (aj:List aa) (l:List ab) (of:List Int) (k:Int) (hp:yW i aj l of k):VC32 i aj l of k (fun r=>r=dI i aj l of k):=by
 obtain ⟨h0,h1,h2⟩:=hp
 unfold VC32
 intro _ _ _
 refine ⟨⟨h0,h1⟩,fun hb=>?_,fun hb=>⟨by simp at hb; omega,?_⟩⟩
 ·unfold dI
  rw [show decide ((gi aj i).Oper < 0∨(gi aj i).Oper≥l.length)=true from decide_eq_true (by simpa using hb)]; rfl
 ·unfold dI
  rw [show decide ((gi aj i).Oper < 0∨(gi aj i).Oper≥l.length)=false from decide_eq_false (by simpa using hb)]; rfl
theorem v31_32 (x aj:List aa) (l:List ab) (of:List Int) (k:Int) (hp:yV x aj l of k):VC31_32 x aj l of k (fun r=>r=bR x aj l of k):=by
 obtain ⟨rX,oA,Bi⟩:=hp
 unfold VC31_32
 intro _ _ _ _
 refine ⟨fun out i=>∃ t:Nat,i=t∧t≤x.length∧out=gn (fun i=>dI i aj l of k) (x.take t) 0,fun _ i=>(x.length - i).toNat,⟨0,rfl,by omega,rfl⟩,?_⟩
 rintro _ _ ⟨t,rfl,ht,rfl⟩
 have hl:=nJ (fun i=>dI i aj l of k) x t
 refine ⟨fun hi=>?_,fun hi=>?_⟩
 ·rw [decide_eq_true_eq] at hi
  have hw:=wrp (n:=(t:Int)+1) (by omega) (by omega)
  have hs:=lP (fun i=>dI i aj l of k) (l:=x) (k:=t) (by omega)
  refine ⟨⟨by omega,hi⟩,⟨by omega,by omega,Bi⟩,?_⟩
  rintro _ rfl
  refine ⟨fun hc=>⟨by simp; omega,?_⟩,fun hc=>?_⟩ <;> unfold VC31_32_J2 <;> rw [hw] <;> refine ⟨⟨t+1,by push_cast; rfl,by omega,?_⟩,by dsimp only; omega⟩
  ·rw [hs,if_pos hc]
  ·rw [hs,if_neg (by rw [show dI (t:Int) aj l of k=false from hc]; decide),List.append_nil]
 ·rw [decide_eq_false_iff_not] at hi
  unfold VC31_32_J1 bR
  rw [List.take_of_length_le (by omega)]
theorem Ik (aj:List aa) (l:List ab) (of:List Int) (k:Int):bR aj aj l of k=sa l of k aj:=by
 have:=o6 (fun p:aa=>decide (p.Oper < 0∨p.Oper≥l.length) || gi of p.Oper == k) (fun p=>p) aj
 rw [List.map_id'] at this
 rw [List.map_id'] at this
 exact this
theorem qS {h:ak} (hc:(aD h).2=0):cY h=(bw h,ofH h):=by unfold cY; rw [if_neg (by omega)]
theorem vA {h:ak} (hc:(aD h).2=0):(bw h).length≤10000:=by
 have:=qf (iG hc).1
 unfold bw; omega
theorem sr {l:List ab} {of:List Int} {aj:List aa} {os:List ao} {t:Nat} (h:t < os.length):iS l of aj (os.drop t) t=if (cd (gi os (t:Int)) l (sa l of (t:Int) aj)).2.2≠0 then false else iS l of aj (os.drop (t+1)) ((t:Int)+1):=by
 rw [gU h,iS]
theorem v12 (h:ak) (aj:List aa) (hp:sE h aj):VC12 h aj (fun r=>r=eH h aj):=by
 obtain ⟨⟨rX,oA,Bi⟩,LY⟩:=hp
 unfold VC12
 intro AF _ _
 simp only [sm] at AF
 refine ⟨⟨rX,oA,Bi⟩,?_⟩
 rintro _ rfl
 unfold eH
 refine ⟨fun he=>by rw [if_pos (by simpa using he)],fun he=>⟨⟨rX,oA,Bi⟩,?_⟩⟩
 have hc:(aD h).2=0:=by simpa using he
 rw [if_neg (by omega)]
 rintro _ rfl _ _
 rw [qS hc]
 dsimp only
 refine ⟨fun x=>∃ t:Nat,x=t∧t≤h.ae.length∧iS (bw h) (ofH h) aj (h.ae.drop t) t=iS (bw h) (ofH h) aj h.ae 0,fun x=>(h.ae.length - x).toNat,⟨0,rfl,by omega,rfl⟩,?_⟩
 rintro _ ⟨t,rfl,ht,hg⟩
 refine ⟨fun hi=>?_,fun hi=>?_⟩
 ·rw [decide_eq_true_eq] at hi
  rw [sr (by omega)] at hg
  refine ⟨⟨by omega,hi⟩,fun _=>⟨⟨by omega,LY,ff h⟩,?_⟩⟩
  rintro _ rfl _
  rw [Ik]
  have E9:(sa (bw h) (ofH h) (t:Int) aj).length≤aj.length:=List.length_filter_le _ _
  refine ⟨⟨rX _ (eJ (by omega) hi),by omega⟩,?_⟩
  rintro _ rfl
  refine ⟨fun hr=>?_,fun hr=>?_⟩
  ·rw [if_pos (by simpa using hr)] at hg
   rw [← hg]; rfl
  ·rw [if_neg (by simpa using hr)] at hg
   rw [wrp (n:=(t:Int)+1) (by omega) (by omega)]
   exact ⟨⟨t+1,by push_cast; rfl,by omega,by push_cast; exact hg⟩,by dsimp only; omega⟩
 ·rw [decide_eq_false_iff_not] at hi
  have:t=h.ae.length:=by omega
  subst this
  rw [List.drop_length,iS] at hg
  unfold VC12_J1
  rw [← hg]
  rintro _ rfl
  refine ⟨fun ho=>⟨by have:=vA hc; unfold qH; dsimp only; omega,?_⟩,fun ho=>by rw [ho]; rfl⟩
  rintro _ rfl _
  rw [ho]
  dsimp only
  rw [Bool.true_and,Bool.true_and,Bool.eq_iff_iff,beq_iff_eq,beq_iff_eq]
  omega
theorem xA {n t:Nat} {f:Nat→Bool} (h:t < n) (ht:f t=true) (hb:∀ y,y < t→f y=false):(List.range n).find? f=some t:=by
 rw [List.find?_range_eq_some]
 exact ⟨ht,List.mem_range.2 h,fun y hy=>by simp [hb y hy]⟩
theorem xz {n:Nat} {f:Nat→Bool} (hb:∀ y,y < n→f y=false):(List.range n).find? f=none:=by
 rw [List.find?_eq_none]
 intro y hy
 rw [hb y (List.mem_range.1 hy)]; decide
theorem v37 (l:List ab) (aj:List aa):VC37 l aj (fun r=>r=eG l aj):=by
 unfold VC37
 intro hl hp
 simp only [sm] at hl hp
 refine ⟨fun x=>∃ t:Nat,x=t∧t≤aj.length∧∀ y:Nat,y < t→pL l aj y=false,fun x=>(aj.length - x).toNat,⟨0,rfl,by omega,fun y hy=>by omega⟩,?_⟩
 rintro _ ⟨t,rfl,ht,hb⟩
 refine ⟨fun hi=>?_,fun hi=>?_⟩
 ·rw [decide_eq_true_eq] at hi
  refine ⟨⟨by omega,hi⟩,fun x=>∃ u:Nat,x=u∧u≤l.length∧∀ k:Nat,k < u→(bf (gi l (k:Int)) (gi l (gi aj (t:Int)).Oper) && (decide (cl aj k < 0) || decide (cl aj k≥t)))=false,fun x=>(l.length - x).toNat,⟨0,rfl,by omega,fun y hy=>by omega⟩,?_⟩
  rintro _ ⟨u,rfl,hu,hk⟩
  refine ⟨fun hj=>?_,fun hj=>?_⟩
  ·have hj:(u:Int) < l.length∧0≤(gi aj (t:Int)).Oper∧(gi aj (t:Int)).Oper < l.length:=by simp at hj; omega
   rintro _ rfl
   refine ⟨⟨by omega,hj.1⟩,hj.2,?_⟩
   have j3:∀ z,z=(bf (gi l (u:Int)) (gi l (gi aj (t:Int)).Oper) && (decide (cl aj (u:Int) < 0) || decide (cl aj (u:Int)≥t)))→VC37_J3 (fun r=>r=eG l aj) (t:Int) (fun x=>∃ u:Nat,x=u∧u≤l.length∧∀ k:Nat,k < u→(bf (gi l (k:Int)) (gi l (gi aj (t:Int)).Oper) && (decide (cl aj k < 0) || decide (cl aj k≥t)))=false) (fun x=>(l.length - x).toNat) (u:Int) z:=fun z hz=>by
    unfold VC37_J3
    refine ⟨fun h1=>?_,fun h1=>?_⟩
    ·have ha:pL l aj t=true:=by
      unfold pL
      rw [decide_eq_true hj.2,Bool.true_and]
      exact List.any_eq_true.2 ⟨u,List.mem_range.2 (by omega),by rw [← hz]; exact h1⟩
     unfold eG
     rw [xA (by omega) ha hb]
    ·rw [wrp (n:=(u:Int)+1) (by omega) (by omega)]
     refine ⟨⟨u+1,by push_cast; rfl,by omega,fun k L9=>?_⟩,by dsimp only; omega⟩
     by_cases e:k=u
     ·subst e; rw [← hz]; exact h1
     ·exact hk k (by omega)
   rintro _ rfl
   refine ⟨fun ha=>j3 _ ?_,fun ha=>j3 _ ?_⟩
   ·rw [show bf (gi l (u:Int)) (gi l (gi aj (t:Int)).Oper)=true from ha]; rfl
   ·rw [show bf (gi l (u:Int)) (gi l (gi aj (t:Int)).Oper)=false from ha]; rfl
  ·unfold VC37_J2
   rw [wrp (n:=(t:Int)+1) (by omega) (by omega)]
   refine ⟨⟨t+1,by push_cast; rfl,by omega,fun y hy=>?_⟩,by dsimp only; omega⟩
   by_cases e:y=t
   ·subst e
    unfold pL
    by_cases hr:0≤(gi aj (y:Int)).Oper∧(gi aj (y:Int)).Oper < l.length
    ·have PA:u=l.length:=by simp at hj; omega
     rw [Bool.and_eq_false_iff]; right
     rw [List.any_eq_false]
     intro k L9
     rw [hk k (by rw [PA]; exact List.mem_range.1 L9)]; decide
    ·rw [decide_eq_false hr]; rfl
   ·exact hb y (by omega)
 ·rw [decide_eq_false_iff_not] at hi
  unfold VC37_J1 eG
  rw [xz (fun y hy=>hb y (by omega))]
def oR (l:List ab) (aj:List aa) (pe:Bool) (t:Nat):List Int:=((List.range t).filter (pT l aj pe)).map fun i:Nat=>(i:Int)
theorem rN (l:List ab) (aj:List aa) (pe:Bool) (t:Nat):oR l aj pe (t+1)=oR l aj pe t++(if pT l aj pe t=true then [(t:Int)] else []):=by
 unfold oR
 rw [List.range_succ,List.filter_append,List.map_append,List.filter_cons,List.filter_nil]
 split <;> rfl
theorem C1 (l:List ab) (aj:List aa) (pe:Bool) (t:Nat):(oR l aj pe t).length≤t:=by
 unfold oR
 rw [List.length_map]
 have:=List.length_filter_le (pT l aj pe) (List.range t)
 rw [List.length_range] at this; exact this
theorem v38 (l:List ab) (aj:List aa) (pe:Bool) (wZ:sC l aj pe):VC38 l aj pe (fun r=>r=eW l aj pe):=by
 unfold VC38 sC at *
 intro _ _
 refine ⟨fun out x=>∃ t:Nat,x=t∧t≤l.length∧out=oR l aj pe t,fun _ x=>(l.length - x).toNat,⟨0,rfl,by omega,rfl⟩,?_⟩
 rintro _ _ ⟨t,rfl,ht,rfl⟩
 have hl:=C1 l aj pe t
 refine ⟨fun hi=>?_,fun hi=>?_⟩
 ·rw [decide_eq_true_eq] at hi
  have hw:=wrp (n:=(t:Int)+1) (by omega) (by omega)
  have j3:∀ z,z=pT l aj pe t→VC38_J3 (fun out x=>∃ t:Nat,x=t∧t≤l.length∧out=oR l aj pe t) (fun _ x=>(l.length - x).toNat) (oR l aj pe t) (t:Int) (oR l aj pe t) z:=fun z hz=>by
   unfold VC38_J3 VC38_J2
   rw [hw]
   refine ⟨fun h1=>⟨by simp; omega,⟨t+1,by push_cast; rfl,by omega,?_⟩,by dsimp only; omega⟩,fun h1=>⟨⟨t+1,by push_cast; rfl,by omega,?_⟩,by dsimp only; omega⟩⟩
   ·rw [rN,if_pos (by rw [← hz]; exact h1)]
   ·rw [rN,if_neg (by rw [← hz,h1]; decide),List.append_nil]
  rintro _ rfl
  refine ⟨fun hc=>⟨⟨by omega,hi⟩,j3 _ ?_⟩,fun hc=>j3 _ ?_⟩
  ·unfold pT; rw [hc]; rfl
  ·unfold pT; rw [hc]; rfl
 ·rw [decide_eq_false_iff_not] at hi
  have:t=l.length:=by omega
  subst this
  rfl
theorem qA {l:List ab} {of:List Int} {aj:List aa} {os:List ao} {t:Nat} (h:t < os.length):l4 l of aj (os.drop t) t=if (cW (gi os (t:Int)) l (gi os (t:Int)).aH (kH of (t:Int) aj)).2.2≠0 then false else l4 l of aj (os.drop (t+1)) ((t:Int)+1):=by
 rw [gU h,l4]
theorem o4 (of:List Int) (k:Int) {aj:List aa} {t:Nat} (h:t < aj.length):kH of k (aj.take (t+1))=kH of k (aj.take t)++(if (gi of (gi aj (t:Int)).Oper == k)=true then [gi aj (t:Int)] else []):=by
 unfold kH
 rw [eV h,List.filter_append,List.filter_cons,List.filter_nil]
theorem yI (of:List Int) (k:Int) (aj:List aa) (t:Nat):(kH of k (aj.take t)).length≤t:=by
 unfold kH
 have:=List.length_filter_le (fun p:aa=>gi of p.Oper == k) (aj.take t)
 have:=List.length_take_le t aj
 omega
theorem sx {os:List ao} {l:List aK} (hc:(dE os l).2=0):dc os l=(bw ⟨os,l.map toL⟩,ofH ⟨os,l.map toL⟩):=qS hc
theorem v13 (os:List ao) (l:List aK) (aj:List aa) (hp:yN os l aj):VC13 os l aj (fun r=>r=fM os l aj):=by
 obtain ⟨rX,oA,Bi⟩:=hp
 unfold VC13
 intro AF _ _
 simp only [sm] at AF
 refine ⟨⟨rX,oA⟩,?_⟩
 rintro _ rfl
 unfold fM
 refine ⟨fun he=>by rw [if_pos (by simpa using he)],fun he=>⟨⟨rX,oA⟩,?_⟩⟩
 have hc:(dE os l).2=0:=by simpa using he
 rw [if_neg (by omega)]
 rintro _ rfl _ _
 rw [sx hc]
 have E9:=ff ⟨os,l.map toL⟩
 have hlen:=vA (h:=⟨os,l.map toL⟩) hc
 generalize bw ⟨os,l.map toL⟩=ops at *
 generalize ofH ⟨os,l.map toL⟩=of at *
 dsimp only
 refine ⟨fun x=>∃ t:Nat,x=t∧t≤aj.length∧∀ y:Nat,y < t→0≤(gi aj (y:Int)).Oper∧(gi aj (y:Int)).Oper < ops.length,fun x=>(aj.length - x).toNat,⟨0,rfl,by omega,fun y hy=>by omega⟩,?_⟩
 rintro _ ⟨t,rfl,ht,hb⟩
 refine ⟨fun hi=>?_,fun hi=>?_⟩
 ·rw [decide_eq_true_eq] at hi
  have j5:∀ z,(z=true↔((gi aj (t:Int)).Oper < 0∨(gi aj (t:Int)).Oper≥ops.length))→VC13_J5 (fun r=>r=(if aj.any (fun p=>decide (p.Oper < 0∨p.Oper≥ops.length))=true then false else l4 ops of aj os 0 && decide (eG ops aj < 0) && ((eW ops aj false).length == 0))) (fun x=>∃ t:Nat,x=t∧t≤aj.length∧∀ y:Nat,y < t→0≤(gi aj (y:Int)).Oper∧(gi aj (y:Int)).Oper < ops.length) (fun x=>(aj.length - x).toNat) (t:Int) z:=fun z hz=>by
   unfold VC13_J5
   refine ⟨fun h1=>?_,fun h1=>?_⟩
   ·rw [if_pos (List.any_eq_true.2 ⟨_,eJ (by omega) hi,decide_eq_true (hz.1 h1)⟩)]
   ·rw [wrp (n:=(t:Int)+1) (by omega) (by omega)]
    refine ⟨⟨t+1,by push_cast; rfl,by omega,fun y hy=>?_⟩,by dsimp only; omega⟩
    by_cases e:y=t
    ·subst e
     have:¬ _:=fun hh=>by rw [hz.2 hh] at h1; cases h1
     omega
    ·exact hb y (by omega)
  refine ⟨⟨by omega,hi⟩,fun h0=>j5 _ ?_,fun h0=>⟨⟨by omega,hi⟩,j5 _ ?_⟩⟩
  ·rw [decide_eq_true_eq] at h0
   exact ⟨fun _=>.inl h0,fun _=>rfl⟩
  ·rw [decide_eq_false_iff_not] at h0
   rw [decide_eq_true_eq]
   exact ⟨fun h=>.inr h,fun h=>h.resolve_left h0⟩
 ·rw [decide_eq_false_iff_not] at hi
  have:t=aj.length:=by omega
  subst this
  have Mq:aj.any (fun p=>decide (p.Oper < 0∨p.Oper≥ops.length))=false:=by
   rw [List.any_eq_false]
   intro p PK
   obtain ⟨i,Cs,rfl⟩:=List.getElem_of_mem PK
   have:=hb i Cs
   rw [cq _ _ Cs] at this
   rw [decide_eq_true_eq]; omega
  rw [Mq,if_neg (by decide)]
  unfold VC13_J1
  refine ⟨fun x=>∃ t:Nat,x=t∧t≤os.length∧l4 ops of aj (os.drop t) t=l4 ops of aj os 0,fun x=>(os.length - x).toNat,⟨0,rfl,by omega,rfl⟩,?_⟩
  rintro _ ⟨t,rfl,ht,hg⟩
  refine ⟨fun hi=>?_,fun hi=>?_⟩
  ·rw [decide_eq_true_eq] at hi
   rw [qA (by omega)] at hg
   refine ⟨fun own x=>∃ u:Nat,x=u∧u≤aj.length∧own=kH of (t:Int) (aj.take u),fun _ x=>(aj.length - x).toNat,⟨0,rfl,by omega,rfl⟩,?_⟩
   rintro _ _ ⟨u,rfl,hu,rfl⟩
   have hle:=yI of (t:Int) aj u
   refine ⟨fun hj=>?_,fun hj=>?_⟩
   ·rw [decide_eq_true_eq] at hj
    have SD:=hb u (by omega)
    refine ⟨⟨by omega,hj⟩,by dsimp only; omega,fun hk=>⟨⟨by omega,hj⟩,by simp; omega,?_⟩,fun hk=>?_⟩ <;> unfold VC13_J4 <;> rw [wrp (n:=(u:Int)+1) (by omega) (by omega)] <;> refine ⟨⟨u+1,by push_cast; rfl,by omega,?_⟩,by dsimp only; omega⟩
    ·rw [o4 of _ (by omega),if_pos hk]
    ·rw [o4 of _ (by omega),if_neg (by rw [hk]; decide),List.append_nil]
   ·rw [decide_eq_false_iff_not] at hj
    rw [List.take_of_length_le (by omega)]
    unfold VC13_J3
    refine ⟨⟨by omega,hi⟩,fun _=>⟨⟨by omega,hi⟩,?_⟩⟩
    rintro _ rfl
    refine ⟨fun hr=>?_,fun hr=>?_⟩
    ·rw [if_pos (by simpa using hr)] at hg
     rw [← hg]; rfl
    ·rw [if_neg (by simpa using hr)] at hg
     rw [wrp (n:=(t:Int)+1) (by omega) (by omega)]
     exact ⟨⟨t+1,by push_cast; rfl,by omega,by push_cast; exact hg⟩,by dsimp only; omega⟩
  ·rw [decide_eq_false_iff_not] at hi
   have:t=os.length:=by omega
   subst this
   rw [List.drop_length,l4] at hg
   unfold VC13_J2
   rw [← hg]
   rintro _ rfl
   refine ⟨fun ho=>⟨by unfold sC; dsimp only; omega,?_⟩,fun ho=>by rw [ho]; rfl⟩
   rintro _ rfl _
   rw [ho]
   dsimp only
   rw [Bool.true_and,Bool.true_and,Bool.eq_iff_iff,beq_iff_eq,beq_iff_eq]
   omega
theorem Il {h:ak} (hc:(aD h).2=0):∀ k∈ofH h,0≤k∧k < h.ae.length:=by
 obtain ⟨h1,h2,h3⟩:=iG hc
 have km:∀ (l:List aV) (i:Int) (b:List (Int × Int)),(hGo h.ae l i b).2=0→∀ x∈l,0≤x.az∧x.az < h.ae.length:=by
  intro l
  induction l with
  | nil=>intro i b _ x hx; cases hx
  | cons y l ih =>
   intro i b hh x hx
   rw [hGo] at hh
   by_cases e:iE h.ae b y≠0
   ·rw [if_pos e] at hh; exact absurd hh e
   ·rw [if_neg e] at hh
    rcases List.mem_cons.1 hx with rfl | hx
    ·have e:iE h.ae b x=0:=by omega
     unfold iE at e
     by_cases hr:x.az < 0∨x.az≥h.ae.length
     ·rw [if_pos hr] at e; cases e
     ·omega
    ·exact ih _ _ hh x hx
 intro k hk
 unfold ofH at hk
 obtain ⟨o,ho,rfl⟩:=List.mem_map.1 hk
 obtain ⟨i,hi,rfl⟩:=List.getElem_of_mem ho
 have kF:=tX hc (i:=(i:Int)) (by omega) (by omega)
 rw [cq _ _ hi] at kF
 exact km _ _ _ h3 _ (eJ kF.1 kF.2)
end Go.Proofs.YteahldlmkheleaaGreat
