/- Walks of the functions: each returns what its condition asks. Condition: the contracts of its callees, handed in. -/
import Derived.Test.YtobeanopikjkeaaGreatGWalksS
set_option linter.all false
namespace Go.Proofs.YtobeanopikjkeaaGreat
open Go Go.Sv
abbrev zN0 (gx:Nat):Nat->Nat:=fun c=>(bif Nat.beq c 1009 then gx else c)
set_option maxHeartbeats 1000000
theorem W211 (w0) (X0) (n_:Int) (vars:Int) (Q:Bool->Prop) (hm:VC211 n_ vars Q) :
  rt 211 #[ii n_,ii vars] aB w0 X0 (fun w X' v=>∃ r,Q r/\v=.bool r):=by
 unfold VC211 at hm
 refine enter Tryz.func211 rfl (vals:=[ii n_,ii vars]) kr ?_
 intro Z a hS hO hM
 refine rPe T hS [] [] fun a hS=>(rPe T hS [0,1] [(4,B (((n_ != 0) && (decide (n_≥(wR (0 - vars))))) && (decide (n_≤vars))))] (sp:=[7,13]) fun a hS=>?_)
 refine aR ?_
 exact fin T hS hO (fun c=>c) rfl (r:=[.bool (((n_ != 0) && (decide (n_≥(wR (0 - vars))))) && (decide (n_≤vars)))]) kr (fun X' hM hC=>⟨_,hm,rfl⟩)
theorem C211 (v:∀ (n_:Int) (vars:Int),xC n_ vars->VC211 n_ vars (fun r=>r=dW n_ vars)):S211:=fun w X n_ vars hp=>mo1 (W211 w X n_ vars _ (v n_ vars hp))
theorem W164 (zV:S211) (w0) (X0) (lit:Int) (vars:Int) (Q:Int->Prop) (hm:VC164 lit vars Q) :
  rt 164 #[ii lit,ii vars] aB w0 X0 (fun w X' v=>∃ r,Q r/\v=ii r):=by
 unfold VC164 at hm
 refine enter Tryz.func164 rfl (vals:=[ii lit,ii vars]) kr ?_
 intro Z a hS hO hM
 refine rPe T hS [] [] fun a hS=>(a8 ?_)
 refine aH (rPe T hS [] [(5,B ((decide (vars < 0)) || (decide (vars > 100000))))] (sp:=[8]) fun a hS=>?_)
 refine aC hS (b:=((decide (vars < 0)) || (decide (vars > 100000)))) kr (fun hb=>?_) fun hb=>?_
 ·replace hm:=hm.1 hb
  refine rPe T hS [0,1,5] [(4,I 2)] fun a hS=>(aR ?_)
  exact fin T hS hO (fun c=>c) rfl (r:=[ii 2]) kr (fun X' hM hC=>⟨2,hm,rfl⟩)
 replace hm:=hm.2 hb
 refine bk (oPe T hS 2 [0,1,5] [(13,I lit),(14,I vars)] fun a hS=>?_)
 obtain ⟨hq,hm⟩:=hm
 refine op1 (call hS kr kr hb211 kr (fun _ _=>rfl) (zV _ _ lit vars hq) ?_)
 intro v101 a eI eN hE hp hS
 replace hO:=hO.m2 hE
 generalize hr:dW lit vars=al at hp
 replace hm:=hm al hr
 subst hp
 refine ePe T hS [13,14,15] [(12,B (!al))] fun a hS=>(aC hS (b:=(!al)) kr (fun hb=>?_) fun hb=>?_)
 ·replace hm:=hm.1 hb
  refine rPe T hS [12] [(4,I 10)] fun a hS=>(aR ?_)
  exact fin T hS hO (fun c=>c) rfl (r:=[ii 10]) kr (fun X' hM hC=>⟨_,hm,rfl⟩)
 replace hm:=hm.2 hb
 refine aI (rPe T hS [12] [(4,I 0)] fun a hS=>?_)
 refine aR ?_
 exact fin T hS hO (fun c=>c) rfl (r:=[ii 0]) kr (fun X' hM hC=>⟨0,hm,rfl⟩)
theorem C164 (zV:S211) (v:∀ (lit:Int) (vars:Int),VC164 lit vars (fun r=>r=iK lit vars)):S164:=fun w X lit vars=>mo1 (W164 zV w X lit vars _ (v lit vars))
theorem W269 (zV:S211) (w0) (X0) (lit:Int) (Q:Bool->Prop) (hm:VC269 lit Q) :
  rt 269 #[ii lit] aB w0 X0 (fun w X' v=>∃ r,Q r/\v=.bool r):=by
 unfold VC269 at hm
 refine enter Tryz.func269 rfl (vals:=[ii lit]) kr ?_
 intro Z a hS hO hM
 refine rPe T hS [] [] fun a hS=>(rPe T hS [0] [(3,.f (.func 211) [.v (ii lit)] [])] fun a hS=>?_)
 refine bk (oPe T hS 1 [3] [(6,.f (.func 211) [.v (ii lit)] [])] fun a hS=>?_)
 obtain ⟨hq,hm⟩:=hm
 refine op1 (GR (fi:=[.v (ii lit)]) (cp:=[]) hS kr kr hb211 kr kr (fun _ _=>rfl) (zV _ _ lit 100000 hq) ?_)
 intro v101 a eI eN hE hp hS
 replace hO:=hO.m2 hE
 generalize hr:dW lit 100000=al at hp
 replace hm:=hm al hr
 subst hp
 refine ePe T hS [6,7] [(2,B al)] fun a hS=>(aR ?_)
 exact fin T hS hO (fun c=>c) rfl (r:=[.bool al]) kr (fun X' hM hC=>⟨_,hm,rfl⟩)
theorem C269 (zV:S211) (v:∀ (lit:Int),VC269 lit (fun r=>r=oF lit)):S269:=fun w X lit=>mo1 (W269 zV w X lit _ (v lit))
theorem W212 (Ma:S269) (w0) (X0) (lit:Int) (Q:Int->Prop) (hm:VC212 lit Q) :
  rt 212 #[ii lit] aB w0 X0 (fun w X' v=>∃ r,Q r/\v=ii r):=by
 unfold VC212 at hm
 refine enter Tryz.func212 rfl (vals:=[ii lit]) kr ?_
 intro Z a hS hO hM
 refine rPe T hS [] [] fun a hS=>(a8 ?_)
 refine bk (oPe T hS 1 [] [(3,I lit)] fun a hS=>?_)
 refine op1 (call hS kr kr hb269 kr (fun _ _=>rfl) (Ma _ _ lit) ?_)
 intro v101 a eI eN hE hp hS
 replace hO:=hO.m2 hE
 generalize hr:oF lit=al at hp
 replace hm:=hm al hr
 subst hp
 refine ePe T hS [3,4] [(5,B (!al))] fun a hS=>(aC hS (b:=(!al)) kr (fun hb=>?_) fun hb=>?_)
 ·replace hm:=hm.1 hb
  refine rPe T hS [0,5] [(2,I 0)] fun a hS=>(aR ?_)
  exact fin T hS hO (fun c=>c) rfl (r:=[ii 0]) kr (fun X' hM hC=>⟨0,hm,rfl⟩)
 replace hm:=hm.2 hb
 refine aI (rPe T hS [0,5] [(2,I (if (wR (0 - lit)) > lit then (wR (0 - lit)) else lit))] fun a hS=>?_)
 refine aR ?_
 exact fin T hS hO (fun c=>c) rfl (r:=[ii (if (wR (0 - lit)) > lit then (wR (0 - lit)) else lit)]) kr (fun X' hM hC=>⟨_,hm,rfl⟩)
theorem C212 (Ma:S269) (v:∀ (lit:Int),VC212 lit (fun r=>r=nG lit)):S212:=fun w X lit=>mo1 (W212 Ma w X lit _ (v lit))
theorem W165 (Mb:S212) (w0) (X0) (c_:List Int) (a1) (c1) (gx) (Q:(List (Int × Int))->Prop) (hm:VC165 c_ Q) (h1:RS tI w0 X0 a1 c_ c1) :
  rt 165 #[.slice a1 c_.length c1] aB w0 X0 (fun w X' v=>∃ r,Q r/\∃ O0,v=.map (some O0)/\OM kI tI false w X' gx O0 r):=by
 unfold VC165 at hm
 replace hm:=hm (h1.sm kr)
 refine enter Tryz.func165 rfl (vals:=[.slice a1 c_.length c1]) kr ?_
 intro Z a hS hO hM
 replace h1:=h1.m0 hM
 refine rPe T hS [] [] fun a hS=>(bk ?_)
 refine oPe T hS 2 [] [(7,I (lN c_))] fun a hS=>(op1 (LX (hk:=.i64) (hn:=(lN c_)) kI tI false 1009 hS kr kr kr Tryz.underlying192 ?_))
 intro ij a eI eN hE h104 hS
 have ⟨hO,h1⟩:=e2e hE hO.m2 h1.m1
 refine ePe T hS [7,8] [(3,V (.map (some ij)))] fun a hS=>(cg (fun a w=>∃ Z X,∃ (cN:List (Int × Int)),VC165_J1 Q cN/\St Tryz.f165.ntmps ⟨[(3,V (.map (some ij)))],[]⟩ Z a w X/\Old w0 X0 w X/\OM kI tI false w X 1009 ij cN) ?_ ?_)
 ·refine rPe T hS [0] [(9,Sl a1 c_ c1),(10,I (lN c_)),(11,I 0)] fun a hS=>(aH ?_)
  obtain ⟨I1,μ1,cC,hm⟩:=hm
  refine cu (σ:=(List (Int × Int)) × Int) (fun s a w=>∃ Z X,I1 s.1 s.2/\St Tryz.f165.ntmps ⟨[(3,V (.map (some ij))),(9,Sl a1 c_ c1),(10,I (lN c_)),(11,I s.2)],[]⟩ Z a w X/\Old w0 X0 w X/\OM kI tI false w X 1009 ij s.1/\RS tI w X a1 c_ c1) (fun s=>μ1 s.1 s.2) (⟨([]:List (Int × Int)),0⟩) ?_ ?_
  ·exact ⟨Z,_,cC,hS.sl _,hO,h104,h1⟩
  rintro ⟨dG,bZ⟩ a vE ⟨Z,AO,hI,hS,hO,h108,h109⟩
  replace hm:=hm dG bZ hI
  clear hI cC
  refine rPe T hS [] [(12,B (decide (bZ < (lN c_))))] fun a hS=>(a8 ?_)
  refine aC hS (b:=decide (bZ < (lN c_))) kr (fun hb=>?_) fun hb=>?_
  ·replace hm:=hm.1 hb
   refine aI (cg (fun a w=>∃ Z X,∃ (bO:List (Int × Int)),VC165_J2 I1 μ1 dG bZ bO/\St Tryz.f165.ntmps ⟨[(3,V (.map (some ij))),(9,Sl a1 c_ c1),(10,I (lN c_)),(11,I bZ)],[]⟩ Z a w X/\Old w0 X0 w X/\OM kI tI false w X 1009 ij bO/\RS tI w X a1 c_ c1) ?_ ?_)
   ·refine aH (bk ?_)
    obtain ⟨hq,hm⟩:=hm
    refine op1 (index (e:=3) (k:=.i64) T hS kr kr kr kr h109 kr kr hq.1 hq.2 ?_)
    intro RN a h115 hS
    refine op1 (fc T hS kr kr kr h115 rfl kr ?_)
    intro v116 a hv hS
    cases hv
    refine ePe T hS [12,13,14] [(5,I (gi c_ bZ))] fun a hS=>(bk ?_)
    refine oPe T hS 1 [] [(15,I (gi c_ bZ))] fun a hS=>(op1 (call hS kr kr hb212 kr (fun _ _=>rfl) (Mb _ _ (gi c_ bZ)) ?_))
    intro v117 a OL Hj hE hp hS
    have ⟨hO,h108,h109⟩:=e3e hE hO.m2 h108.m2 h109.m1
    generalize hr:nG (gi c_ bZ)=nJ at hp
    replace hm:=hm nJ hr
    subst hp
    refine ePe T hS [15,16] [(17,B (decide (nJ > 0)))] fun a hS=>(aC hS (b:=decide (nJ > 0)) kr (fun hb=>?_) fun hb=>?_)
    ·replace hm:=hm.1 hb
     refine region (oPe T hS 2 [5,17] [(18,V (.map (some ij))),(19,I (gi c_ bZ))] fun a hS=>?_)
     refine op1 (pB kI tI false (zv:=ii 0) (z:=0) (gi c_ bZ) hS kr kr kr kr Tryz.underlying192 Tryz.underlying3 kr rfl h108 ?_)
     intro v121 a hv hS
     replace hv:tI.R _ _ [v121] _:=hv
     cases hv
     refine oPe T hS 1 [20] [(21,I (wR (((cd dG (gi c_ bZ)).getD 0)+1)))] fun a hS=>(op1 (Ip kI tI false (v:=I (wR (((cd dG (gi c_ bZ)).getD 0)+1))) (u:=wR (((cd dG (gi c_ bZ)).getD 0)+1)) (gi c_ bZ) hS kr kr kr kr Tryz.underlying192 Tryz.underlying3 kr h108 rfl ?_))
     intro a Lx hE h123 hS
     clear h108
     have ⟨hO,h109⟩:=e2e hE hO.m2 h109.m1
     refine gM ?_
     exact ⟨Z,_,gb dG (gi c_ bZ) (wR (((cd dG (gi c_ bZ)).getD 0)+1)),hm,hS.sl _,hO,h123,h109⟩
    replace hm:=hm.2 hb
    refine aI ?_
    exact ⟨Z,_,dG,hm,hS.sl _,hO,h108,h109⟩
   rintro a CA ⟨Z,D3,bO,hm,hS,hO,h112,h113⟩
   unfold VC165_J2 at hm
   refine region (ePe T hS [] [(11,I (wR (bZ+1)))] fun a hS=>?_)
   exact ⟨⟨bO,wR (bZ+1)⟩,⟨Z,_,hm.1,hS.sl _,hO,h112,h113⟩,hm.2⟩
  replace hm:=hm.2 hb
  refine cl (by rfl) ?_
  exact ⟨Z,_,dG,hm,hS.sl _,hO,h108⟩
 rintro a EC ⟨Z,AN,cN,hm,hS,hO,h106⟩
 unfold VC165_J1 at hm
 refine rPe T hS [3] [(2,V (.map (some ij)))] fun a hS=>(aR ?_)
 exact fin T hS hO (zN0 gx) rfl (r:=[.map (some ij)]) kr (fun X' hM hC=>⟨cN,hm,ij,rfl,(h106.out (f:=(zN0 gx)) hM hC kr kr)⟩)
theorem C165 (Mb:S212) (v:∀ (c_:List Int),pv c_->VC165 c_ (fun r=>r=fe c_)):S165:=fun w X c_ a1 c1 gx hp h1=>mo1 (W165 Mb w X c_ a1 c1 gx _ (v c_ hp) h1)
theorem W119 (Mg:S164) (zW:S165) (w0) (X0) (c_:List Int) (vars:Int) (a1) (c1) (Q:Int->Prop) (hm:VC119 c_ vars Q) (h1:RS tI w0 X0 a1 c_ c1) :
  rt 119 #[.slice a1 c_.length c1,ii vars] aB w0 X0 (fun w X' v=>∃ r,Q r/\v=ii r):=by
 unfold VC119 at hm
 replace hm:=hm (h1.sm kr)
 refine enter Tryz.func119 rfl (vals:=[.slice a1 c_.length c1,ii vars]) kr ?_
 intro Z a hS hO hM
 replace h1:=h1.m0 hM
 refine rPe T hS [] [] fun a hS=>(a8 ?_)
 refine aH (rPe T hS [] [(8,B ((decide (vars < 0)) || (decide (vars > 100000))))] (sp:=[11]) fun a hS=>?_)
 refine aC hS (b:=((decide (vars < 0)) || (decide (vars > 100000)))) kr (fun hb=>?_) fun hb=>?_
 ·replace hm:=hm.1 hb
  refine rPe T hS [0,1,8] [(4,I 2)] fun a hS=>(aR ?_)
  exact fin T hS hO (fun c=>c) rfl (r:=[ii 2]) kr (fun X' hM hC=>⟨2,hm,rfl⟩)
 replace hm:=hm.2 hb
 refine rPe T hS [8] [(15,B (decide ((lN c_) > 1000)))] fun a hS=>(aC hS (b:=decide ((lN c_) > 1000)) kr (fun hb=>?_) fun hb=>?_)
 ·replace hm:=hm.1 hb
  refine rPe T hS [0,1,15] [(4,I 3)] fun a hS=>(aR ?_)
  exact fin T hS hO (fun c=>c) rfl (r:=[ii 3]) kr (fun X' hM hC=>⟨3,hm,rfl⟩)
 replace hm:=hm.2 hb
 refine aI (cg (fun a w=>∃ Z X,VC119_J1 c_ Q/\St Tryz.f119.ntmps ⟨[(0,Sl a1 c_ c1)],[]⟩ Z a w X/\Old w0 X0 w X/\RS tI w X a1 c_ c1) ?_ ?_)
 ·refine rPe T hS [15] [(19,Sl a1 c_ c1),(20,I (lN c_)),(21,I 0)] fun a hS=>(aH ?_)
  obtain ⟨I1,μ1,cC,hm⟩:=hm
  refine cu (σ:=Int) (fun s a w=>∃ Z X,I1 s/\St Tryz.f119.ntmps ⟨[(0,Sl a1 c_ c1),(1,I vars),(19,Sl a1 c_ c1),(20,I (lN c_)),(21,I s)],[]⟩ Z a w X/\Old w0 X0 w X/\RS tI w X a1 c_ c1/\RS tI w X a1 c_ c1) (fun s=>μ1 s) (0) ?_ ?_
  ·exact ⟨Z,_,cC,hS.sl _,hO,h1,h1⟩
  rintro bZ a CC ⟨Z,yP,hI,hS,hO,h108,h109⟩
  replace hm:=hm bZ hI
  clear hI cC
  refine rPe T hS [] [(22,B (decide (bZ < (lN c_))))] fun a hS=>(a8 ?_)
  refine aC hS (b:=decide (bZ < (lN c_))) kr (fun hb=>?_) fun hb=>?_
  ·replace hm:=hm.1 hb
   refine aI (a8 ?_)
   refine aH (bk ?_)
   obtain ⟨hq,hm⟩:=hm
   refine op1 (index (e:=3) (k:=.i64) T hS kr kr kr kr h109 kr kr hq.1 hq.2 ?_)
   intro RO a h112 hS
   refine op1 (fc T hS kr kr kr h112 rfl kr ?_)
   intro v113 a hv hS
   cases hv
   refine ePe T hS [22,23,24] [(6,I (gi c_ bZ))] fun a hS=>(bk ?_)
   refine oPe T hS 2 [6] [(25,I (gi c_ bZ)),(26,I vars)] fun a hS=>(op1 (call hS kr kr hb164 kr (fun _ _=>rfl) (Mg _ _ (gi c_ bZ) vars) ?_))
   intro v114 a CD JS hE hp hS
   have ⟨hO,h108,h109⟩:=e3e hE hO.m2 h108.m1 h109.m1
   generalize hr:iK (gi c_ bZ) vars=l9 at hp
   replace hm:=hm l9 hr
   subst hp
   refine ePe T hS [25,26,27] [(7,I l9)] fun a hS=>(rPe T hS [] [(29,B (l9 != 0))] fun a hS=>?_)
   refine aC hS (b:=(l9 != 0)) kr (fun hb=>?_) fun hb=>?_
   ·replace hm:=hm.1 hb
    refine rPe T hS [0,1,7,19,20,21,29] [(4,I l9)] fun a hS=>(aR ?_)
    exact fin T hS hO (fun c=>c) rfl (r:=[ii l9]) kr (fun X' hM hC=>⟨_,hm,rfl⟩)
   replace hm:=hm.2 hb
   refine aI (region (ePe T hS [7,29] [(21,I (wR (bZ+1)))] fun a hS=>?_))
   exact ⟨wR (bZ+1),⟨Z,_,hm.1,hS.sl _,hO,h108,h109⟩,hm.2⟩
  replace hm:=hm.2 hb
  refine cl (by rfl) ?_
  exact ⟨Z,_,hm,hS.sl _,hO,h108⟩
 rintro a xa ⟨Z,D4,hm,hS,hO,h101⟩
 unfold VC119_J1 at hm
 refine a8 (bk ?_)
 refine oPe T hS 1 [] [(32,Sl a1 c_ c1)] fun a hS=>?_
 obtain ⟨hq,hm⟩:=hm
 refine op1 (call hS kr kr hb165 kr (fun _ _=>rfl) (zW _ _ c_ a1 c1 2107 hq h101) ?_)
 intro v102 a Ly N5 hE hp hS
 have ⟨hO,h101⟩:=e2e hE hO.m2 h101.m1
 obtain ⟨Y1,hp,h106⟩:=hp
 obtain ⟨jU,hr⟩:∃ r,fe c_=r:=⟨_,rfl⟩
 replace hm:=hm jU hr
 rw [hr] at h106
 clear hr
 subst hp
 refine op1 (Tn hS kr kr kr Tryz.underlying192 h106 ?_)
 intro a hS
 refine ePe T hS [0,32,33,34] [(37,B (decide ((lN jU) < (lN c_))))] fun a hS=>(aC hS (b:=decide ((lN jU) < (lN c_))) kr (fun hb=>?_) fun hb=>?_)
 ·replace hm:=hm.1 hb
  refine rPe T hS [37] [(4,I 21)] fun a hS=>(aR ?_)
  exact fin T hS hO (fun c=>c) rfl (r:=[ii 21]) kr (fun X' hM hC=>⟨_,hm,rfl⟩)
 replace hm:=hm.2 hb
 refine aI (rPe T hS [37] [(4,I 0)] fun a hS=>?_)
 refine aR ?_
 exact fin T hS hO (fun c=>c) rfl (r:=[ii 0]) kr (fun X' hM hC=>⟨0,hm,rfl⟩)
theorem C119 (Mg:S164) (zW:S165) (v:∀ (c_:List Int) (vars:Int),VC119 c_ vars (fun r=>r=fH c_ vars)):S119:=fun w X c_ vars a1 c1 h1=>mo1 (W119 Mg zW w X c_ vars a1 c1 _ (v c_ vars) h1)
theorem W167 (w0) (X0) (l_:Int) (aj:List (Int × Int)) (r1) (m1) (b1) (i1) (Q:Bool->Prop) (hm:VC167 l_ aj Q) (h1:OM kI tI false w0 X0 m1 r1 aj) (eO:Cell w0 X0 b1 i1 192 [.map (some r1)]) (hA:dL [i1,m1]) :
  rt 167 #[ii l_,.pointer (some ⟨b1,0,none⟩)] (pR [i1,m1]) w0 X0 (fun w X' v=>∃ r,Q r/\v=.bool r/\Cell w X' b1 i1 192 [.map (some r1)]/\OM kI tI false w X' m1 r1 aj):=by
 unfold VC167 at hm
 refine fO Tryz.func167 rfl (eH [(i1,901),(m1,2001)]) (zi1 b1) (args:=[I l_,Pt 901 0]) (bxs:=[(901,(192,[V (.map (some r1))]))]) kr rfl (aY.cons kr (eO.map (cr 0 hA.1 rfl)) aY.nil) (fC (fun q hq=>(hA.2 q.1 (List.mem_map.2 ⟨q,hq,rfl⟩)).1)) ?_
 intro a hS hO hM
 have hP:=pn1 b1
 generalize (zi1 b1)=Z at hS hP
 clear eO
 replace h1:=h1.map (f:=eH [(i1,901),(m1,2001)]) (cr 1 hA.1 rfl) hM
 refine rPe T hS [] [] fun a hS=>(bk ?_)
 refine oPe T hS 2 [] [(4,V (.map (some r1))),(5,I l_)] fun a hS=>(op1 (pB kI tI false (zv:=ii 0) (z:=0) l_ hS kr kr kr kr Tryz.underlying192 Tryz.underlying3 kr rfl h1 ?_))
 intro v101 a hv hS
 replace hv:tI.R _ _ [v101] _:=hv
 cases hv
 refine oPe T hS 2 [4,5,6] [(8,B (decide (((cd aj l_).getD 0) > 0)))] fun a hS=>?_
 rcases bft (decide (((cd aj l_).getD 0) > 0)) with hb | hb
 ·replace hS:=hS.lit (t:=8) kr hb
  replace hm:=hm.1 hb
  refine oPe T hS 3 [0,1] [(9,V (.map (some r1))),(11,I (wR (0 - l_)))] fun a hS=>(op1 (pB kI tI false (zv:=ii 0) (z:=0) (wR (0 - l_)) hS kr kr kr kr Tryz.underlying192 Tryz.underlying3 kr rfl h1 ?_))
  intro v102 a hv hS
  replace hv:tI.R _ _ [v102] _:=hv
  cases hv
  refine ePe T hS [8,9,11,12] [(3,B (decide (((cd aj (wR (0 - l_))).getD 0) > 0)))] fun a hS=>(aR ?_)
  exact jP T hS hO (fun c h=>cw kr h) (fun c h=>cz (l:=[(i1,901),(m1,2001)]) h) (dC [(i1,901),(m1,2001)]) rfl (r:=[.bool (decide (((cd aj (wR (0 - l_))).getD 0) > 0))]) kr (fun X' hM hC=>⟨_,hm,rfl,((hS.cell (id:=901) (t:=192) (cs:=[V (.map (some r1))]) kr).out (f:=(dC [(i1,901),(m1,2001)])) hC kr kr (hP.at 0 rfl)),(h1.out (f:=(dC [(i1,901),(m1,2001)])) hM hC kr kr)⟩)
 replace hS:=hS.lit (t:=8) kr hb
 replace hm:=hm.2 hb
 refine ePe T hS [0,1,8] [(3,B false)] fun a hS=>(aR ?_)
 exact jP T hS hO (fun c h=>cw kr h) (fun c h=>cz (l:=[(i1,901),(m1,2001)]) h) (dC [(i1,901),(m1,2001)]) rfl (r:=[.bool false]) kr (fun X' hM hC=>⟨_,hm,rfl,((hS.cell (id:=901) (t:=192) (cs:=[V (.map (some r1))]) kr).out (f:=(dC [(i1,901),(m1,2001)])) hC kr kr (hP.at 0 rfl)),(h1.out (f:=(dC [(i1,901),(m1,2001)])) hM hC kr kr)⟩)
theorem C167 (v:∀ (l_:Int) (aj:List (Int × Int)),Bl l_ aj->VC167 l_ aj (fun r=>r=dz l_ aj)):S167:=fun w X l_ aj r1 m1 b1 i1 hp h1 eO hA=>mo1 (W167 w X l_ aj r1 m1 b1 i1 _ (v l_ aj hp) h1 eO hA)
theorem W213_167 (Mf:S167) (w0) (X0) (s_:List Int) (aj:List (Int × Int)) (a1) (c1) (r2) (m2) (b1) (i1) (Q:Int->Prop) (hm:VC213_167 s_ aj Q) (h1:RS tI w0 X0 a1 s_ c1) (h2:OM kI tI false w0 X0 m2 r2 aj) (eO:Cell w0 X0 b1 i1 192 [.map (some r2)]) (hA:dL [i1,m2]) :
  rt 213 #[.slice a1 s_.length c1,.func (.func 167) #[] #[.pointer (some ⟨b1,0,none⟩)]] (pR [i1,m2]) w0 X0 (fun w X' v=>∃ r,Q r/\v=ii r/\Cell w X' b1 i1 192 [.map (some r2)]/\OM kI tI false w X' m2 r2 aj):=by
 unfold VC213_167 at hm
 replace hm:=hm (h1.sm kr)
 refine fO Tryz.func213 rfl (eH [(i1,901),(m2,2002)]) (zi1 b1) (args:=[Sl a1 s_ c1,.f (.func 167) [] [.p 901 0]]) (bxs:=[(901,(192,[V (.map (some r2))]))]) kr rfl (aY.cons kr (eO.map (cr 0 hA.1 rfl)) aY.nil) (fC (fun q hq=>(hA.2 q.1 (List.mem_map.2 ⟨q,hq,rfl⟩)).1)) ?_
 intro a hS hO hM
 have hP:=pn1 b1
 generalize (zi1 b1)=Z at hS hP
 clear eO
 replace h1:=h1.m0 hM
 replace h2:=h2.map (f:=eH [(i1,901),(m2,2002)]) (cr 1 hA.1 rfl) hM
 refine rPe T hS [] [] fun a hS=>(cg (fun a w=>∃ Z X,VC213_167_J1 Q/\St Tryz.f213.ntmps ⟨[],[(901,(192,[V (.map (some r2))]))]⟩ Z a w X/\iR (eH [(i1,901),(m2,2002)]) w0 X0 w X/\Pin [(901,b1)] Z/\OM kI tI false w X 2002 r2 aj) ?_ ?_)
 ·refine rPe T hS [] [(7,I (lN s_)),(8,I 0)] fun a hS=>(aH ?_)
  obtain ⟨I1,μ1,cC,hm⟩:=hm
  refine cu (σ:=Int) (fun s a w=>∃ Z X,I1 s/\St Tryz.f213.ntmps ⟨[(0,Sl a1 s_ c1),(1,.f (.func 167) [] [.p 901 0]),(7,I (lN s_)),(8,I s)],[(901,(192,[V (.map (some r2))]))]⟩ Z a w X/\iR (eH [(i1,901),(m2,2002)]) w0 X0 w X/\Pin [(901,b1)] Z/\RS tI w X a1 s_ c1/\OM kI tI false w X 2002 r2 aj) (fun s=>μ1 s) (0) ?_ ?_
  ·exact ⟨Z,_,cC,hS.sl _,hO,hP,h1,h2⟩
  rintro dX a CD ⟨Z,wW,hI,hS,hO,hP,h102,h104⟩
  replace hm:=hm dX hI
  clear hI cC
  refine rPe T hS [] [(9,B (decide (dX < (lN s_))))] fun a hS=>(a8 ?_)
  refine aC hS (b:=decide (dX < (lN s_))) kr (fun hb=>?_) fun hb=>?_
  ·replace hm:=hm.1 hb
   refine aI (a8 ?_)
   refine aH (rPe T hS [9] [(5,I dX)] fun a hS=>?_)
   refine bk (oPe T hS 3 [] [(11,.f (.func 167) [] [.p 901 0]),(12,Sl a1 s_ c1),(13,I dX)] fun a hS=>?_)
   obtain ⟨hq,hm⟩:=hm
   refine op1 (index (e:=3) (k:=.i64) T hS kr kr kr kr h102 kr kr hq.1 hq.2 ?_)
   intro N9 a h106 hS
   refine op1 (fc T hS kr kr kr h106 rfl kr ?_)
   intro v107 a hv hS
   cases hv
   obtain ⟨hq,hm⟩:=hm
   refine op1 (gJ (fi:=[]) (cp:=[.p 901 0]) hS kr kr hb167 kr kr (Mf _ _ (gi s_ dX) aj r2 2002 (Z 901) 901 hq h104 (hS.cell (id:=901) (t:=192) (cs:=[V (.map (some r2))]) kr) ⟨by decide,by decide⟩) ?_)
   intro v108 a sx um hE hp hS
   clear h104
   have ⟨hO,h102,h106⟩:=e3e hE hO.m2 h102.m1 h106.m1
   obtain ⟨hp,u5,h113⟩:=hp
   generalize hr:dz (gi s_ dX) aj=CV at hp
   replace hm:=hm CV hr
   subst hp
   replace hS:=hS.cZ (id:=901) (t:=192) (cs:=[V (.map (some r2))]) kr u5
   clear u5
   refine gM (aC hS (b:=CV) kr (fun hb=>?_) fun hb=>?_)
   ·replace hm:=hm.1 hb
    refine rPe T hS [0,1,5,7,8,16] [(4,I dX)] fun a hS=>(aR ?_)
    exact jP T hS hO (fun c h=>cw kr h) (fun c h=>cz (l:=[(i1,901),(m2,2002)]) h) (dC [(i1,901),(m2,2002)]) rfl (r:=[ii dX]) kr (fun X' hM hC=>⟨_,hm,rfl,((hS.cell (id:=901) (t:=192) (cs:=[V (.map (some r2))]) kr).out (f:=(dC [(i1,901),(m2,2002)])) hC kr kr (hP.at 0 rfl)),(h113.out (f:=(dC [(i1,901),(m2,2002)])) hM hC kr kr)⟩)
   replace hm:=hm.2 hb
   refine aI (region (ePe T hS [5,16] [(8,I (wR (dX+1)))] fun a hS=>?_))
   exact ⟨wR (dX+1),⟨Z,_,hm.1,hS.sl _,hO,hP,h102,h113⟩,hm.2⟩
  replace hm:=hm.2 hb
  refine cl (by rfl) ?_
  exact ⟨Z,_,hm,hS.sl _,hO,hP,h104⟩
 rintro a y5 ⟨Z,JS,hm,hS,hO,hP,h101⟩
 unfold VC213_167_J1 at hm
 refine rPe T hS [] [(4,I (-1))] fun a hS=>(aR ?_)
 exact jP T hS hO (fun c h=>cw kr h) (fun c h=>cz (l:=[(i1,901),(m2,2002)]) h) (dC [(i1,901),(m2,2002)]) rfl (r:=[ii (-1)]) kr (fun X' hM hC=>⟨_,hm,rfl,((hS.cell (id:=901) (t:=192) (cs:=[V (.map (some r2))]) kr).out (f:=(dC [(i1,901),(m2,2002)])) hC kr kr (hP.at 0 rfl)),(h101.out (f:=(dC [(i1,901),(m2,2002)])) hM hC kr kr)⟩)
theorem C213_167 (Mf:S167) (v:∀ (s_:List Int) (aj:List (Int × Int)),qZ s_ aj->VC213_167 s_ aj (fun r=>r=bI s_ aj)):S213_167:=fun w X s_ aj a1 c1 r2 m2 b1 i1 hp h1 h2 eO hA=>mo1 (W213_167 Mf w X s_ aj a1 c1 r2 m2 b1 i1 _ (v s_ aj hp) h1 h2 eO hA)
theorem W166_167 (tn:S213_167) (w0) (X0) (s_:List Int) (aj:List (Int × Int)) (a1) (c1) (r2) (m2) (b1) (i1) (Q:Bool->Prop) (hm:VC166_167 s_ aj Q) (h1:RS tI w0 X0 a1 s_ c1) (h2:OM kI tI false w0 X0 m2 r2 aj) (eO:Cell w0 X0 b1 i1 192 [.map (some r2)]) (hA:dL [i1,m2]) :
  rt 166 #[.slice a1 s_.length c1,.func (.func 167) #[] #[.pointer (some ⟨b1,0,none⟩)]] (pR [i1,m2]) w0 X0 (fun w X' v=>∃ r,Q r/\v=.bool r/\Cell w X' b1 i1 192 [.map (some r2)]/\OM kI tI false w X' m2 r2 aj):=by
 unfold VC166_167 at hm
 replace hm:=hm (h1.sm kr)
 refine fO Tryz.func166 rfl (eH [(i1,901),(m2,2002)]) (zi1 b1) (args:=[Sl a1 s_ c1,.f (.func 167) [] [.p 901 0]]) (bxs:=[(901,(192,[V (.map (some r2))]))]) kr rfl (aY.cons kr (eO.map (cr 0 hA.1 rfl)) aY.nil) (fC (fun q hq=>(hA.2 q.1 (List.mem_map.2 ⟨q,hq,rfl⟩)).1)) ?_
 intro a hS hO hM
 have hP:=pn1 b1
 generalize (zi1 b1)=Z at hS hP
 clear eO
 replace h1:=h1.m0 hM
 replace h2:=h2.map (f:=eH [(i1,901),(m2,2002)]) (cr 1 hA.1 rfl) hM
 refine rPe T hS [] [] fun a hS=>(bk ?_)
 refine oPe T hS 2 [0,1] [(5,Sl a1 s_ c1),(6,.f (.func 167) [] [.p 901 0])] fun a hS=>?_
 obtain ⟨hq,hm⟩:=hm
 refine op1 (pY hS kr kr hb213 kr (tn _ _ s_ aj a1 c1 r2 2002 (Z 901) 901 hq h1 h2 (hS.cell (id:=901) (t:=192) (cs:=[V (.map (some r2))]) kr) ⟨by decide,by decide⟩) ?_)
 intro v101 a eI eN hE hp hS
 clear h2
 have ⟨hO,h1⟩:=e2e hE hO.m2 h1.m1
 obtain ⟨hp,rn,h106⟩:=hp
 generalize hr:bI s_ aj=al at hp
 replace hm:=hm al hr
 subst hp
 replace hS:=hS.cZ (id:=901) (t:=192) (cs:=[V (.map (some r2))]) kr rn
 clear rn
 refine ePe T hS [5,6,7] [(4,B (decide (al≥0)))] fun a hS=>(aR ?_)
 exact jP T hS hO (fun c h=>cw kr h) (fun c h=>cz (l:=[(i1,901),(m2,2002)]) h) (dC [(i1,901),(m2,2002)]) rfl (r:=[.bool (decide (al≥0))]) kr (fun X' hM hC=>⟨_,hm,rfl,((hS.cell (id:=901) (t:=192) (cs:=[V (.map (some r2))]) kr).out (f:=(dC [(i1,901),(m2,2002)])) hC kr kr (hP.at 0 rfl)),(h106.out (f:=(dC [(i1,901),(m2,2002)])) hM hC kr kr)⟩)
theorem C166_167 (tn:S213_167) (v:∀ (s_:List Int) (aj:List (Int × Int)),qZ s_ aj->VC166_167 s_ aj (fun r=>r=bB s_ aj)):S166_167:=fun w X s_ aj a1 c1 r2 m2 b1 i1 hp h1 h2 eO hA=>mo1 (W166_167 tn w X s_ aj a1 c1 r2 m2 b1 i1 _ (v s_ aj hp) h1 h2 eO hA)
theorem W120 (zW:S165) (tr:S166_167) (w0) (X0) (c_:List Int) (a1) (c1) (Q:Bool->Prop) (hm:VC120 c_ Q) (h1:RS tI w0 X0 a1 c_ c1) :
  rt 120 #[.slice a1 c_.length c1] aB w0 X0 (fun w X' v=>∃ r,Q r/\v=.bool r):=by
 unfold VC120 at hm
 replace hm:=hm (h1.sm kr)
 refine enter Tryz.func120 rfl (vals:=[.slice a1 c_.length c1]) kr ?_
 intro Z a hS hO hM
 replace h1:=h1.m0 hM
 refine rPe T hS [] [] fun a hS=>(bk ?_)
 refine oPe T hS 1 [] [(4,Sl a1 c_ c1)] fun a hS=>?_
 obtain ⟨hq,hm⟩:=hm
 refine op1 (call hS kr kr hb165 kr (fun _ _=>rfl) (zW _ _ c_ a1 c1 2106 hq h1) ?_)
 intro v101 a eI eN hE hp hS
 have ⟨hO,h1⟩:=e2e hE hO.m2 h1.m1
 obtain ⟨iz,hp,h105⟩:=hp
 obtain ⟨al,hr⟩:∃ r,fe c_=r:=⟨_,rfl⟩
 replace hm:=hm al hr
 rw [hr] at h105
 clear hr
 subst hp
 refine eM T hS ⟨[(0,Sl a1 c_ c1),(3,Pt 4 0)],[(4,(192,[V (.map (some iz))]))]⟩ fun Z a xc wW hS hE hr=>?_
 have ⟨hO,h1,h105⟩:=e3e hE hO.m2 h1.m1 h105.m2
 clear hE hr
 refine bk (oPe T hS 2 [0,3] [(6,Sl a1 c_ c1),(7,.f (.func 167) [] [.p 4 0])] fun a hS=>?_)
 obtain ⟨hq,hm⟩:=hm
 refine op1 (pY hS kr kr hb166 kr (tr _ _ c_ al a1 c1 iz 2106 (Z 4) 4 hq h1 h105 (hS.cell (id:=4) (t:=192) (cs:=[V (.map (some iz))]) kr) ⟨by decide,by decide⟩) ?_)
 intro v107 a HR tN hE hp hS
 clear h105
 have ⟨hO,h1⟩:=e2e hE hO.m2 h1.m1
 obtain ⟨hp,rk,h112⟩:=hp
 generalize hr:bB c_ al=fS at hp
 replace hm:=hm fS hr
 subst hp
 replace hS:=hS.cZ (id:=4) (t:=192) (cs:=[V (.map (some iz))]) kr rk
 clear rk
 refine eP T hS ⟨[(2,B fS)],[]⟩ fun a hS=>(aR ?_)
 exact fin T hS hO (fun c=>c) rfl (r:=[.bool fS]) kr (fun X' hM hC=>⟨_,hm,rfl⟩)
theorem C120 (zW:S165) (tr:S166_167) (v:∀ (c_:List Int),Bj c_->VC120 c_ (fun r=>r=iM c_)):S120:=fun w X c_ a1 c1 hp h1=>mo1 (W120 zW tr w X c_ a1 c1 _ (v c_ hp) h1)
theorem W78 (Ms:S119) (Mr:S120) (w0) (X0) (f_:aL) (a1) (c1) (Q:Int × Int->Prop) (hm:VC78 f_ Q) (h1:RS (aA tI) w0 X0 a1 f_.ai c1) :
  rt 78 #[.agg #[ii f_.bC,.slice a1 f_.ai.length c1]] aB w0 X0 (fun w X' v=>∃ r,Q r/\v=.tuple #[ii r.1,ii r.2]):=by
 unfold VC78 at hm
 replace hm:=hm (h1.sm kr)
 refine enter Tryz.func78 rfl (vals:=[.agg #[ii f_.bC,.slice a1 f_.ai.length c1]]) kr ?_
 intro Z a hS hO hM
 replace h1:=h1.m0 hM
 refine rM T hS ⟨[(1,Pt 2 0)],[(2,(30,[I f_.bC,Sl a1 f_.ai c1]))]⟩ fun Z a HP D3 hS hE hr=>?_
 have ⟨hO,h1⟩:=e2e hE hO.m2 h1.m1
 clear hE hr
 refine a8 (aH ?_)
 refine rPe T hS [] [(7,B ((decide (f_.bC < 0)) || (decide (f_.bC > 100000))))] (sp:=[11]) fun a hS=>(aC hS (b:=((decide (f_.bC < 0)) || (decide (f_.bC > 100000)))) kr (fun hb=>?_) fun hb=>?_)
 ·replace hm:=hm.1 hb
  refine rP T hS ⟨[(2,I 0),(3,I 2)],[]⟩ fun a hS=>(aR ?_)
  exact fin T hS hO (fun c=>c) rfl (r:=[ii 0,ii 2]) kr (fun X' hM hC=>⟨_,hm,rfl⟩)
 replace hm:=hm.2 hb
 refine rPe T hS [7] [(16,B (decide ((lN f_.ai) > 1000000)))] fun a hS=>(aC hS (b:=decide ((lN f_.ai) > 1000000)) kr (fun hb=>?_) fun hb=>?_)
 ·replace hm:=hm.1 hb
  refine rP T hS ⟨[(2,I 0),(3,I 3)],[]⟩ fun a hS=>(aR ?_)
  exact fin T hS hO (fun c=>c) rfl (r:=[ii 0,ii 3]) kr (fun X' hM hC=>⟨_,hm,rfl⟩)
 replace hm:=hm.2 hb
 refine aI (cg (fun a w=>∃ Z X,VC78_J1 f_ Q/\St Tryz.f78.ntmps ⟨[(1,Pt 2 0)],[(2,(30,[I f_.bC,Sl a1 f_.ai c1]))]⟩ Z a w X/\Old w0 X0 w X/\RS (aA tI) w X a1 f_.ai c1) ?_ ?_)
 ·refine rPe T hS [16] [(22,Sl a1 f_.ai c1),(23,I (lN f_.ai)),(24,I 0)] fun a hS=>(aH ?_)
  obtain ⟨I1,μ1,cC,hm⟩:=hm
  refine cu (σ:=Int) (fun s a w=>∃ Z X,I1 s/\St Tryz.f78.ntmps ⟨[(1,Pt 2 0),(22,Sl a1 f_.ai c1),(23,I (lN f_.ai)),(24,I s)],[(2,(30,[I f_.bC,Sl a1 f_.ai c1]))]⟩ Z a w X/\Old w0 X0 w X/\RS (aA tI) w X a1 f_.ai c1/\RS (aA tI) w X a1 f_.ai c1) (fun s=>μ1 s) (0) ?_ ?_
  ·exact ⟨Z,_,cC,hS.sl _,hO,h1,h1⟩
  rintro dX a ED ⟨Z,Hj,hI,hS,hO,h102,h104⟩
  replace hm:=hm dX hI
  clear hI cC
  refine rPe T hS [] [(25,B (decide (dX < (lN f_.ai))))] fun a hS=>(a8 ?_)
  refine aC hS (b:=decide (dX < (lN f_.ai))) kr (fun hb=>?_) fun hb=>?_
  ·replace hm:=hm.1 hb
   refine aI (a8 ?_)
   refine aH (bk ?_)
   refine oPe T hS 1 [25] [(26,I dX)] fun a hS=>?_
   obtain ⟨hq,hm⟩:=hm
   refine op1 (index (e:=79) (k:=.i64) T hS kr kr kr kr h102 kr kr hq.1 hq.2 ?_)
   intro N9 a h106 hS
   refine op1 (fc T hS kr kr kr h106 rfl kr ?_)
   intro v107 a hv hS
   obtain ⟨lQ,lP,hv,h110⟩:=hv
   cases hv
   replace hm:=hm (h110.sm kr)
   refine ePe T hS [26,27,28] [(4,I dX),(5,Sl lQ (gi f_.ai dX) lP)] fun a hS=>(a8 ?_)
   refine bk (oPe T hS 3 [] [(29,Sl lQ (gi f_.ai dX) lP),(31,I f_.bC)] fun a hS=>?_)
   refine op1 (call hS kr kr hb119 kr (fun _ _=>rfl) (Ms _ _ (gi f_.ai dX) f_.bC lQ lP h110) ?_)
   intro v111 a EF AP hE hp hS
   have ⟨hO,h102,h104,h110⟩:=e4e hE hO.m2 h102.m1 h104.m1 h110.m1
   generalize hr:fH (gi f_.ai dX) f_.bC=fR at hp
   replace hm:=hm fR hr
   subst hp
   refine ePe T hS [29,31,32] [(6,I fR)] fun a hS=>(rPe T hS [] [(34,B (fR != 0))] fun a hS=>?_)
   refine aC hS (b:=(fR != 0)) kr (fun hb=>?_) fun hb=>?_
   ·replace hm:=hm.1 hb
    refine rP T hS ⟨[(2,I dX),(3,I fR)],[]⟩ fun a hS=>(aR ?_)
    exact fin T hS hO (fun c=>c) rfl (r:=[ii dX,ii fR]) kr (fun X' hM hC=>⟨_,hm,rfl⟩)
   replace hm:=hm.2 hb
   refine aI (bk ?_)
   refine oPe T hS 1 [5,6,34] [(37,Sl lQ (gi f_.ai dX) lP)] fun a hS=>?_
   obtain ⟨hq,hm⟩:=hm
   refine op1 (call hS kr kr hb120 kr (fun _ _=>rfl) (Mr _ _ (gi f_.ai dX) lQ lP hq h110) ?_)
   intro v115 a EE Hk hE hp hS
   have ⟨hO,h102,h104,h110⟩:=e4e hE hO.m2 h102.m1 h104.m1 h110.m1
   generalize hr:iM (gi f_.ai dX)=jF at hp
   replace hm:=hm jF hr
   subst hp
   refine gM (aC hS (b:=jF) kr (fun hb=>?_) fun hb=>?_)
   ·replace hm:=hm.1 hb
    refine rP T hS ⟨[(2,I dX),(3,I 11)],[]⟩ fun a hS=>(aR ?_)
    exact fin T hS hO (fun c=>c) rfl (r:=[ii dX,ii 11]) kr (fun X' hM hC=>⟨_,hm,rfl⟩)
   replace hm:=hm.2 hb
   refine aI (region (ePe T hS [4,38] [(24,I (wR (dX+1)))] fun a hS=>?_))
   exact ⟨wR (dX+1),⟨Z,_,hm.1,hS.sl _,hO,h102,h104⟩,hm.2⟩
  replace hm:=hm.2 hb
  refine cl (by rfl) ?_
  exact ⟨Z,_,hm,hS.sl _,hO,h104⟩
 rintro a Lx ⟨Z,JR,hm,hS,hO,h101⟩
 unfold VC78_J1 at hm
 refine rP T hS ⟨[(2,I (lN f_.ai)),(3,I 0)],[]⟩ fun a hS=>(aR ?_)
 exact fin T hS hO (fun c=>c) rfl (r:=[ii (lN f_.ai),ii 0]) kr (fun X' hM hC=>⟨_,hm,rfl⟩)
theorem C78 (Ms:S119) (Mr:S120) (v:∀ (f_:aL),VC78 f_ (fun r=>r=fj f_)):S78:=fun w X f_ a1 c1 h1=>mo1 (W78 Ms Mr w X f_ a1 c1 _ (v f_) h1)
theorem W27 (Tx:S78) (w0) (X0) (f_:aL) (a1) (c1) (Q:Int->Prop) (hm:VC27 f_ Q) (h1:RS (aA tI) w0 X0 a1 f_.ai c1) :
  rt 27 #[.agg #[ii f_.bC,.slice a1 f_.ai.length c1]] aB w0 X0 (fun w X' v=>∃ r,Q r/\v=ii r):=by
 unfold VC27 at hm
 replace hm:=hm (h1.sm kr)
 refine enter Tryz.func27 rfl (vals:=[.agg #[ii f_.bC,.slice a1 f_.ai.length c1]]) kr ?_
 intro Z a hS hO hM
 replace h1:=h1.m0 hM
 refine rM T hS ⟨[(1,Pt 2 0)],[(2,(30,[I f_.bC,Sl a1 f_.ai c1]))]⟩ fun Z a qj oW hS hE hr=>?_
 have ⟨hO,h1⟩:=e2e hE hO.m2 h1.m1
 clear hE hr
 refine a8 (bk ?_)
 refine oPe T hS 1 [] [(6,V (.agg #[ii f_.bC,.slice a1 f_.ai.length c1]))] fun a hS=>(op1 (call hS kr kr hb78 kr (fun _ _=>rfl) (Tx _ _ f_ a1 c1 h1) ?_))
 intro v101 a eI eN hE hp hS
 have ⟨hO,h1⟩:=e2e hE hO.m2 h1.m1
 generalize hr:fj f_=al at hp
 replace hm:=hm al hr
 subst hp
 refine ePe T hS [6,7] [(4,I al.2)] fun a hS=>(rPe T hS [] [(11,B (al.2 != 0))] fun a hS=>?_)
 refine aC hS (b:=(al.2 != 0)) kr (fun hb=>?_) fun hb=>?_
 ·replace hm:=hm.1 hb
  refine rP T hS ⟨[(2,I al.2)],[]⟩ fun a hS=>(aR ?_)
  exact fin T hS hO (fun c=>c) rfl (r:=[ii al.2]) kr (fun X' hM hC=>⟨_,hm,rfl⟩)
 replace hm:=hm.2 hb
 refine aI (a8 (rP T hS ⟨[(15,B (decide (f_.bC > 16)))],[]⟩ fun a hS=>?_))
 refine aC hS (b:=decide (f_.bC > 16)) kr (fun hb=>?_) fun hb=>?_
 ·replace hm:=hm.1 hb
  refine rPe T hS [15] [(2,I 3)] fun a hS=>(aR ?_)
  exact fin T hS hO (fun c=>c) rfl (r:=[ii 3]) kr (fun X' hM hC=>⟨3,hm,rfl⟩)
 replace hm:=hm.2 hb
 refine aI (rPe T hS [15] [(2,I 0)] fun a hS=>?_)
 refine aR ?_
 exact fin T hS hO (fun c=>c) rfl (r:=[ii 0]) kr (fun X' hM hC=>⟨0,hm,rfl⟩)
theorem C27 (Tx:S78) (v:∀ (f_:aL),VC27 f_ (fun r=>r=bA f_)):S27:=fun w X f_ a1 c1 h1=>mo1 (W27 Tx w X f_ a1 c1 _ (v f_) h1)
theorem W75 (w0) (X0) (f_:aL) (a1) (c1) (Q:(List aE)->Prop) (hm:VC75 f_ Q) (h1:RS (aA tI) w0 X0 a1 f_.ai c1) :
  rt 75 #[.agg #[ii f_.bC,.slice a1 f_.ai.length c1]] aB w0 X0 (fun w X' v=>∃ r,Q r/\∃ dg de,v=.slice dg r.length de/\RS bT w X' dg r de):=by
 unfold VC75 at hm
 replace hm:=hm (h1.sm kr)
 refine enter Tryz.func75 rfl (vals:=[.agg #[ii f_.bC,.slice a1 f_.ai.length c1]]) kr ?_
 intro Z a hS hO hM
 replace h1:=h1.m0 hM
 refine rM T hS ⟨[(1,Pt 2 0)],[(2,(30,[I f_.bC,Sl a1 f_.ai c1]))]⟩ fun Z a Ov Vz hS hE hr=>?_
 have ⟨hO,h1⟩:=e2e hE hO.m2 h1.m1
 clear hE hr
 refine bk (oPe T hS 3 [] [(10,I (lN f_.ai))] fun a hS=>?_)
 obtain ⟨hq,hm⟩:=hm
 refine op1 (make (E:=160) (kl:=.i64) (kc:=.i64) (col:=1003) (T:=bT) T (⟨0,0⟩:aE) hS kr kr kr kr kr kr hq.1 hq.2.1 (by have:=hq.2.2; have e_:((bT.bytes:Nat):Int)=8:=rfl; rw [e_]; omega) (by have:=hq.2.2; omega) (fun _ _=>rfl) ?_)
 intro b101 a eI eN hE h104 hN hS
 clear hq hN
 have ⟨hO,h1⟩:=e2e hE hO.m2 h1.m1
 replace hS:=hS.conv (t:=11) (y:=.slice (some ⟨b101,0,none⟩) (List.replicate (lN f_.ai).toNat ((⟨0,0⟩:aE):aE)).length (lN f_.ai).toNat) kr (by rw [List.length_replicate])
 refine ePe T hS [10,11] [(3,V (.slice (some ⟨b101,0,none⟩) (List.replicate (lN f_.ai).toNat ((⟨0,0⟩:aE):aE)).length (lN f_.ai).toNat))] fun a hS=>(cg (fun a w=>∃ Z X,∃ (cN:List aE) (dV:Option Addr) (dU:Nat),VC75_J1 Q cN/\St Tryz.f75.ntmps ⟨[(3,Sl dV cN dU)],[]⟩ Z a w X/\Old w0 X0 w X/\OS bT 160 w X 1003 dV cN dU) ?_ ?_)
 ·refine rP T hS ⟨[(3,V (.slice (some ⟨b101,0,none⟩) (List.replicate (lN f_.ai).toNat ((⟨0,0⟩:aE):aE)).length (lN f_.ai).toNat)),(13,Sl a1 f_.ai c1),(14,I (lN f_.ai)),(15,I 0)],[]⟩ fun a hS=>(aH ?_)
  obtain ⟨I1,μ1,cC,hm⟩:=hm
  refine cu (σ:=(List aE) × Int) (fun s a w=>∃ Z X du dq,I1 s.1 s.2/\St Tryz.f75.ntmps ⟨[(3,Sl du s.1 dq),(13,Sl a1 f_.ai c1),(14,I (lN f_.ai)),(15,I s.2)],[]⟩ Z a w X/\Old w0 X0 w X/\OS bT 160 w X 1003 du s.1 dq/\RS (aA tI) w X a1 f_.ai c1) (fun s=>μ1 s.1 s.2) (⟨List.replicate (lN f_.ai).toNat ((⟨0,0⟩:aE):aE),0⟩) ?_ ?_
  ·exact ⟨Z,_,(some ⟨b101,0,none⟩),(lN f_.ai).toNat,cC,hS.sl _,hO,h104,h1⟩
  rintro ⟨bO,aG⟩ a Lm ⟨Z,NQ,du,dq,hI,hS,hO,h114,h115⟩
  replace hm:=hm bO aG hI
  clear hI cC
  refine rPe T hS [] [(16,B (decide (aG < (lN f_.ai))))] fun a hS=>(a8 ?_)
  refine aC hS (b:=decide (aG < (lN f_.ai))) kr (fun hb=>?_) fun hb=>?_
  ·replace hm:=hm.1 hb
   refine aI (cg (fun a w=>∃ Z X,∃ (fI:List aE) (nN:Option Addr) (nM:Nat),VC75_J2 I1 μ1 bO aG fI/\St Tryz.f75.ntmps ⟨[(3,Sl nN fI nM),(13,Sl a1 f_.ai c1),(14,I (lN f_.ai)),(15,I aG)],[]⟩ Z a w X/\Old w0 X0 w X/\OS bT 160 w X 1003 nN fI nM/\RS (aA tI) w X a1 f_.ai c1) ?_ ?_)
   ·refine aH (bk ?_)
    refine oPe T hS 1 [16] [(17,I aG)] fun a hS=>?_
    obtain ⟨hq,hm⟩:=hm
    refine op1 (index (e:=79) (k:=.i64) T hS kr kr kr kr h115 kr kr hq.1 hq.2 ?_)
    intro Hq a h123 hS
    refine op1 (fc T hS kr kr kr h123 rfl kr ?_)
    intro v124 a hv hS
    obtain ⟨ly,lu,hv,h127⟩:=hv
    cases hv
    replace hm:=hm (h127.sm kr)
    refine ePe T hS [17,18,19] [(4,I aG),(5,Sl ly (gi f_.ai aG) lu)] fun a hS=>(rPe T hS [5] [(20,Sl ly (gi f_.ai aG) lu),(21,I (lN (gi f_.ai aG))),(22,I 0)] fun a hS=>?_)
    refine aH ?_
    obtain ⟨I2,μ2,cC,hm⟩:=hm
    refine cu (σ:=(List aE) × Int) (fun s a w=>∃ Z X rV rS,I2 s.1 s.2/\St Tryz.f75.ntmps ⟨[(3,Sl rV s.1 rS),(4,I aG),(13,Sl a1 f_.ai c1),(14,I (lN f_.ai)),(15,I aG),(20,Sl ly (gi f_.ai aG) lu),(21,I (lN (gi f_.ai aG))),(22,I s.2)],[]⟩ Z a w X/\Old w0 X0 w X/\OS bT 160 w X 1003 rV s.1 rS/\RS (aA tI) w X a1 f_.ai c1/\RS tI w X ly (gi f_.ai aG) lu) (fun s=>μ2 s.1 s.2) (⟨bO,0⟩) ?_ ?_
    ·exact ⟨Z,_,du,dq,cC,hS.sl _,hO,h114,h115,h127⟩
    rintro ⟨gQ,fF⟩ a HH ⟨Z,Rp,rV,rS,hI,hS,hO,h131,h132,h133⟩
    replace hm:=hm gQ fF hI
    clear hI cC
    refine rPe T hS [] [(23,B (decide (fF < (lN (gi f_.ai aG)))))] fun a hS=>(a8 ?_)
    refine aC hS (b:=decide (fF < (lN (gi f_.ai aG)))) kr (fun hb=>?_) fun hb=>?_
    ·replace hm:=hm.1 hb
     refine aI (cg (fun a w=>∃ Z X,∃ (lB:List aE) (qd:Option Addr) (p8:Nat),VC75_J3 I2 μ2 gQ fF lB/\St Tryz.f75.ntmps ⟨[(3,Sl qd lB p8),(4,I aG),(13,Sl a1 f_.ai c1),(14,I (lN f_.ai)),(15,I aG),(20,Sl ly (gi f_.ai aG) lu),(21,I (lN (gi f_.ai aG))),(22,I fF)],[]⟩ Z a w X/\Old w0 X0 w X/\OS bT 160 w X 1003 qd lB p8/\RS (aA tI) w X a1 f_.ai c1/\RS tI w X ly (gi f_.ai aG) lu) ?_ ?_)
     ·refine aH (bk ?_)
      obtain ⟨hq,hm⟩:=hm
      refine op1 (index (e:=3) (k:=.i64) T hS kr kr kr kr h133 kr kr hq.1 hq.2 ?_)
      intro ac3 a h142 hS
      refine op1 (fc T hS kr kr kr h142 rfl kr ?_)
      intro v143 a hv hS
      cases hv
      refine ePe T hS [23,24,25] [(7,I (gi (gi f_.ai aG) fF))] fun a hS=>(rPe T hS [] [(27,B (decide ((gi (gi f_.ai aG) fF) > 0)))] fun a hS=>?_)
      refine aC hS (b:=decide ((gi (gi f_.ai aG) fF) > 0)) kr (fun hb=>?_) fun hb=>?_
      ·replace hm:=hm.1 hb
       refine je [] mixed hS ?_
       intro YW VM hS hE hD hH
       have ⟨hO,h131,h132,h133⟩:=e4e hE hO.m2 h131.m2 h132.m1 h133.m1
       refine tke T [0,1,5,6] [] hS hH #[true,true,false,false,false,true,true,false,false,false,false,false] 8 [7] [(28,Sl rV gQ rS),(29,I aG),(34,I (wR ((gi (gi f_.ai aG) fF) - 1)))] fun a hS=>?_
       obtain ⟨hq,hm⟩:=hm
       refine K6 (k:=.u32) (k2:=.i64) (p:=1) (q:=wR ((gi (gi f_.ai aG) fF) - 1)) 7 hS kr kr kr (by rfl) kr hH kr kr hq ?_
       intro a hS
       obtain ⟨Km,hm⟩:=hm
       refine only 2 kr (by rfl) (iC (E:=160) (k:=.i64) T hS kr kr kr kr h131 kr kr Km.1 Km.2 ?_)
       intro acZ a h148 h147 hS
       refine cm (br.of hS (bks:=[]) kr hD) ?_
       intro hH
       refine only 3 kr (by rfl) (GG (off:=0) (fsz:=1) (ft:=81) (TF:=(xl .u32 4)) (y:=(gi gQ aG).yes) T hS kr kr kr h147 kr kr kr (fun cs h=>uq h) ?_)
       intro acX a h151 hS
       refine cm (br.of hS (bks:=[]) kr hD) ?_
       intro hH
       refine only 4 kr (by rfl) (tl T hS kr kr kr h151 rfl kr ?_)
       intro v152 a hv hS
       cases hv
       refine cm (br.of hS (bks:=[]) kr hD) ?_
       intro hH
       refine tke T [8] [] hS hH #[true,true,true,true,true,true,true,true,true,false,false,false] 3 [34,35,30,31,32] [(36,V (.int .u32 (IntKind.u32.wrap ((BitVec.ofInt IntKind.u32.bits ((gi gQ aG).yes) ||| BitVec.ofInt IntKind.u32.bits (IntKind.u32.wrap (1 * 2 ^ (min (wR ((gi (gi f_.ai aG) fF) - 1)).toNat IntKind.u32.bits)))).toNat:Int))))] fun a hS=>?_
       obtain ⟨BS,hm⟩:=hm
       refine only 9 kr (by rfl) (iC (E:=160) (k:=.i64) T hS kr kr kr kr h131 kr kr BS.1 BS.2 ?_)
       intro V3 a h155 h154 hS
       have h156:=h155.ad
       clear h155 h154
       refine cm (br.of hS (bks:=[]) kr hD) ?_
       intro hH
       refine only 10 kr (by rfl) (GH (off:=0) (fsz:=1) (ft:=81) T hS kr kr kr h156 kr kr ?_)
       intro RI a h159 hS
       refine cm (br.of hS (bks:=[]) kr hD) ?_
       intro hH
       refine only 11 kr (by rfl) (EW (m:=1) (off:=0) (x:=(⟨IntKind.u32.wrap ((BitVec.ofInt IntKind.u32.bits ((gi gQ aG).yes) ||| BitVec.ofInt IntKind.u32.bits (IntKind.u32.wrap (1 * 2 ^ (min (wR ((gi (gi f_.ai aG) fF) - 1)).toNat IntKind.u32.bits)))).toNat:Int),(gi gQ aG).no⟩:aE)) (v:=V (.int .u32 (IntKind.u32.wrap ((BitVec.ofInt IntKind.u32.bits ((gi gQ aG).yes) ||| BitVec.ofInt IntKind.u32.bits (IntKind.u32.wrap (1 * 2 ^ (min (wR ((gi (gi f_.ai aG) fF) - 1)).toNat IntKind.u32.bits)))).toNat:Int)))) (i:=aG.toNat) (E:=160) (xs:=gQ) T hS kr kr kr kr h131 h159 (by have:=BS.1; have:=BS.2; (try simp only [List.length_set]); omega) kr kr rfl (fun _ _ _ h=>by cases h; rfl) ?_)
       intro a Cv hE h161 hS
       clear h131
       replace hO:=hO.m2 hE
       replace hD:=hD.ev hE rfl
       have ⟨h132,h133⟩:=e2e hE h132.m1 h133.m1
       clear h147 h148 h151
       replace hS:=hS.conv (t:=3) (y:=.slice rV (gQ.set aG.toNat (⟨IntKind.u32.wrap ((BitVec.ofInt IntKind.u32.bits ((gi gQ aG).yes) ||| BitVec.ofInt IntKind.u32.bits (IntKind.u32.wrap (1 * 2 ^ (min (wR ((gi (gi f_.ai aG) fF) - 1)).toNat IntKind.u32.bits)))).toNat:Int),(gi gQ aG).no⟩:aE)).length rS) kr (by rw [List.length_set])
       replace hS:=hS.conv (t:=28) (y:=.slice rV (gQ.set aG.toNat (⟨IntKind.u32.wrap ((BitVec.ofInt IntKind.u32.bits ((gi gQ aG).yes) ||| BitVec.ofInt IntKind.u32.bits (IntKind.u32.wrap (1 * 2 ^ (min (wR ((gi (gi f_.ai aG) fF) - 1)).toNat IntKind.u32.bits)))).toNat:Int),(gi gQ aG).no⟩:aE)).length rS) kr (by rw [List.length_set])
       refine cm (br.of hS (bks:=[]) kr hD) ?_
       intro hH
       refine bn kr ?_
       replace hS:=hS.sle [28,29,36,37,38] []
       exact ⟨Z,_,(gQ.set aG.toNat (⟨IntKind.u32.wrap ((BitVec.ofInt IntKind.u32.bits ((gi gQ aG).yes) ||| BitVec.ofInt IntKind.u32.bits (IntKind.u32.wrap (1 * 2 ^ (min (wR ((gi (gi f_.ai aG) fF) - 1)).toNat IntKind.u32.bits)))).toNat:Int),(gi gQ aG).no⟩:aE)),rV,rS,hm,hS.sl _,hO,h161,h132,h133⟩
      replace hm:=hm.2 hb
      refine je [] mixed hS ?_
      intro OE Rw hS hE hD hH
      have ⟨hO,h131,h132,h133⟩:=e4e hE hO.m2 h131.m2 h132.m1 h133.m1
      refine tke T [0,1,5,6,7] [] hS hH #[true,true,false,false,false,true,true,true,false,false,false,false,false] 8 [7] [(39,Sl rV gQ rS),(40,I aG),(46,I (wR ((wR (0 - (gi (gi f_.ai aG) fF))) - 1)))] fun a hS=>?_
      obtain ⟨hq,hm⟩:=hm
      refine K6 (k:=.u32) (k2:=.i64) (p:=1) (q:=wR ((wR (0 - (gi (gi f_.ai aG) fF))) - 1)) 8 hS kr kr kr (by rfl) kr hH kr kr hq ?_
      intro a hS
      obtain ⟨xU,hm⟩:=hm
      refine only 2 kr (by rfl) (iC (E:=160) (k:=.i64) T hS kr kr kr kr h131 kr kr xU.1 xU.2 ?_)
      intro V0 a h166 h165 hS
      refine cm (br.of hS (bks:=[]) kr hD) ?_
      intro hH
      refine only 3 kr (by rfl) (GG (off:=1) (fsz:=1) (ft:=81) (TF:=(xl .u32 4)) (y:=(gi gQ aG).no) T hS kr kr kr h165 kr kr kr (fun cs h=>uo h) ?_)
      intro VZ a h169 hS
      refine cm (br.of hS (bks:=[]) kr hD) ?_
      intro hH
      refine only 4 kr (by rfl) (tl T hS kr kr kr h169 rfl kr ?_)
      intro v170 a hv hS
      cases hv
      refine cm (br.of hS (bks:=[]) kr hD) ?_
      intro hH
      refine tke T [9] [] hS hH #[true,true,true,true,true,true,true,true,true,true,false,false,false] 3 [46,47,41,42,43] [(48,V (.int .u32 (IntKind.u32.wrap ((BitVec.ofInt IntKind.u32.bits ((gi gQ aG).no) ||| BitVec.ofInt IntKind.u32.bits (IntKind.u32.wrap (1 * 2 ^ (min (wR ((wR (0 - (gi (gi f_.ai aG) fF))) - 1)).toNat IntKind.u32.bits)))).toNat:Int))))] fun a hS=>?_
      obtain ⟨BQ,hm⟩:=hm
      refine only 10 kr (by rfl) (iC (E:=160) (k:=.i64) T hS kr kr kr kr h131 kr kr BQ.1 BQ.2 ?_)
      intro VY a h173 h172 hS
      have h174:=h173.ad
      clear h173 h172
      refine cm (br.of hS (bks:=[]) kr hD) ?_
      intro hH
      refine only 11 kr (by rfl) (GH (off:=1) (fsz:=1) (ft:=81) T hS kr kr kr h174 kr kr ?_)
      intro acR a h177 hS
      refine cm (br.of hS (bks:=[]) kr hD) ?_
      intro hH
      refine only 12 kr (by rfl) (EW (m:=1) (off:=1) (x:=(⟨(gi gQ aG).yes,IntKind.u32.wrap ((BitVec.ofInt IntKind.u32.bits ((gi gQ aG).no) ||| BitVec.ofInt IntKind.u32.bits (IntKind.u32.wrap (1 * 2 ^ (min (wR ((wR (0 - (gi (gi f_.ai aG) fF))) - 1)).toNat IntKind.u32.bits)))).toNat:Int)⟩:aE)) (v:=V (.int .u32 (IntKind.u32.wrap ((BitVec.ofInt IntKind.u32.bits ((gi gQ aG).no) ||| BitVec.ofInt IntKind.u32.bits (IntKind.u32.wrap (1 * 2 ^ (min (wR ((wR (0 - (gi (gi f_.ai aG) fF))) - 1)).toNat IntKind.u32.bits)))).toNat:Int)))) (i:=aG.toNat) (E:=160) (xs:=gQ) T hS kr kr kr kr h131 h177 (by have:=BQ.1; have:=BQ.2; (try simp only [List.length_set]); omega) kr kr rfl (fun _ _ _ h=>by cases h; rfl) ?_)
      intro a HJ hE h179 hS
      clear h131
      replace hO:=hO.m2 hE
      replace hD:=hD.ev hE rfl
      have ⟨h132,h133⟩:=e2e hE h132.m1 h133.m1
      clear h165 h166 h169
      replace hS:=hS.conv (t:=3) (y:=.slice rV (gQ.set aG.toNat (⟨(gi gQ aG).yes,IntKind.u32.wrap ((BitVec.ofInt IntKind.u32.bits ((gi gQ aG).no) ||| BitVec.ofInt IntKind.u32.bits (IntKind.u32.wrap (1 * 2 ^ (min (wR ((wR (0 - (gi (gi f_.ai aG) fF))) - 1)).toNat IntKind.u32.bits)))).toNat:Int)⟩:aE)).length rS) kr (by rw [List.length_set])
      replace hS:=hS.conv (t:=39) (y:=.slice rV (gQ.set aG.toNat (⟨(gi gQ aG).yes,IntKind.u32.wrap ((BitVec.ofInt IntKind.u32.bits ((gi gQ aG).no) ||| BitVec.ofInt IntKind.u32.bits (IntKind.u32.wrap (1 * 2 ^ (min (wR ((wR (0 - (gi (gi f_.ai aG) fF))) - 1)).toNat IntKind.u32.bits)))).toNat:Int)⟩:aE)).length rS) kr (by rw [List.length_set])
      refine cm (br.of hS (bks:=[]) kr hD) ?_
      intro hH
      refine bn kr ?_
      replace hS:=hS.sle [39,40,48,49,50] []
      exact ⟨Z,_,(gQ.set aG.toNat (⟨(gi gQ aG).yes,IntKind.u32.wrap ((BitVec.ofInt IntKind.u32.bits ((gi gQ aG).no) ||| BitVec.ofInt IntKind.u32.bits (IntKind.u32.wrap (1 * 2 ^ (min (wR ((wR (0 - (gi (gi f_.ai aG) fF))) - 1)).toNat IntKind.u32.bits)))).toNat:Int)⟩:aE)),rV,rS,hm,hS.sl _,hO,h179,h132,h133⟩
     rintro a SN ⟨Z,VE,lB,qd,p8,hm,hS,hO,h138,h139,h140⟩
     unfold VC75_J3 at hm
     refine region (ePe T hS [] [(22,I (wR (fF+1)))] fun a hS=>?_)
     exact ⟨⟨lB,wR (fF+1)⟩,⟨Z,_,qd,p8,hm.1,hS.sl _,hO,h138,h139,h140⟩,hm.2⟩
    replace hm:=hm.2 hb
    refine cl (by rfl) ?_
    exact ⟨Z,_,gQ,rV,rS,hm,hS.sl _,hO,h131,h132⟩
   rintro a HG ⟨Z,NR,fI,nN,nM,hm,hS,hO,h120,h121⟩
   unfold VC75_J2 at hm
   refine region (ePe T hS [] [(15,I (wR (aG+1)))] fun a hS=>?_)
   exact ⟨⟨fI,wR (aG+1)⟩,⟨Z,_,nN,nM,hm.1,hS.sl _,hO,h120,h121⟩,hm.2⟩
  replace hm:=hm.2 hb
  refine cl (by rfl) ?_
  exact ⟨Z,_,bO,du,dq,hm,hS.sl _,hO,h114⟩
 rintro a SK ⟨Z,Ro,cN,dV,dU,hm,hS,hO,h108⟩
 unfold VC75_J1 at hm
 refine rPe T hS [3] [(2,Sl dV cN dU)] fun a hS=>(aR ?_)
 obtain ⟨tN,hE,hF⟩:=h108.freeze (by decide)
 replace hS:=hS.ev hE (cq kr)
 replace hO:=hO.m2 hE
 have h110:=hF; clear hE hF
 exact fin T hS hO (fun c=>c) rfl (r:=[.slice dV cN.length dU]) kr (fun X' hM hC=>⟨cN,hm,dV,dU,rfl,h110.m0 hM⟩)
theorem C75 (v:∀ (f_:aL),E8 f_->VC75 f_ (fun r=>r=b7 f_)):S75:=fun w X f_ a1 c1 hp h1=>mo1 (W75 w X f_ a1 c1 _ (v f_ hp) h1)
theorem W76 (w0) (X0) (p_:aE) (aj:Int) (b1) (i1) (Q:Bool->Prop) (hm:VC76 p_ aj Q) (eO:Cell w0 X0 b1 i1 81 [.int .u32 aj]) (hA:dL [i1]) :
  rt 76 #[.agg #[.int .u32 p_.yes,.int .u32 p_.no],.pointer (some ⟨b1,0,none⟩)] (pR [i1]) w0 X0 (fun w X' v=>∃ r,Q r/\v=.bool r/\Cell w X' b1 i1 81 [.int .u32 aj]):=by
 unfold VC76 at hm
 refine fO Tryz.func76 rfl (eH [(i1,901)]) (zi1 b1) (args:=[V (.agg #[.int .u32 p_.yes,.int .u32 p_.no]),Pt 901 0]) (bxs:=[(901,(81,[V (.int .u32 aj)]))]) kr rfl (aY.cons kr (eO.map (cr 0 hA.1 rfl)) aY.nil) (fC (fun q hq=>(hA.2 q.1 (List.mem_map.2 ⟨q,hq,rfl⟩)).1)) ?_
 intro a hS hO hM
 have hP:=pn1 b1
 generalize (zi1 b1)=Z at hS hP
 clear eO
 refine rM T hS ⟨[(1,Pt 901 0),(2,Pt 3 0)],[(3,(160,[V (.int .u32 p_.yes),V (.int .u32 p_.no)])),(901,(81,[V (.int .u32 aj)]))]⟩ fun Z a pa qg hS hE hr=>?_
 replace hO:=hO.m2 hE
 replace hP:=hP.mv hr kr
 clear hE hr
 refine rP T hS ⟨[(3,B (((IntKind.u32.wrap ((BitVec.ofInt IntKind.u32.bits aj &&& BitVec.ofInt IntKind.u32.bits p_.yes).toNat:Int)) == 0) && ((IntKind.u32.wrap ((BitVec.ofInt IntKind.u32.bits (IntKind.u32.wrap ((BitVec.ofInt IntKind.u32.bits IntKind.u32.max ^^^ BitVec.ofInt IntKind.u32.bits aj).toNat:Int)) &&& BitVec.ofInt IntKind.u32.bits p_.no).toNat:Int)) == 0)))],[(901,(81,[V (.int .u32 aj)]))]⟩ (sp:=[9]) fun a hS=>(aR ?_)
 exact jP T hS hO (fun c h=>cw kr h) (fun c h=>cz (l:=[(i1,901)]) h) (dC [(i1,901)]) rfl (r:=[.bool (((IntKind.u32.wrap ((BitVec.ofInt IntKind.u32.bits aj &&& BitVec.ofInt IntKind.u32.bits p_.yes).toNat:Int)) == 0) && ((IntKind.u32.wrap ((BitVec.ofInt IntKind.u32.bits (IntKind.u32.wrap ((BitVec.ofInt IntKind.u32.bits IntKind.u32.max ^^^ BitVec.ofInt IntKind.u32.bits aj).toNat:Int)) &&& BitVec.ofInt IntKind.u32.bits p_.no).toNat:Int)) == 0))]) kr (fun X' hM hC=>⟨_,hm,rfl,((hS.cell (id:=901) (t:=81) (cs:=[V (.int .u32 aj)]) kr).out (f:=(dC [(i1,901)])) hC kr kr (hP.at 0 rfl))⟩)
theorem C76 (v:∀ (p_:aE) (aj:Int),VC76 p_ aj (fun r=>r=bV p_ aj)):S76:=fun w X p_ aj b1 i1 eO hA=>mo1 (W76 w X p_ aj b1 i1 _ (v p_ aj) eO hA)
theorem W118_76 (Ty:S76) (w0) (X0) (s_:List aE) (aj:Int) (a1) (c1) (b1) (i1) (Q:Int->Prop) (hm:VC118_76 s_ aj Q) (h1:RS bT w0 X0 a1 s_ c1) (eO:Cell w0 X0 b1 i1 81 [.int .u32 aj]) (hA:dL [i1]) :
  rt 118 #[.slice a1 s_.length c1,.func (.func 76) #[] #[.pointer (some ⟨b1,0,none⟩)]] (pR [i1]) w0 X0 (fun w X' v=>∃ r,Q r/\v=ii r/\Cell w X' b1 i1 81 [.int .u32 aj]):=by
 unfold VC118_76 at hm
 replace hm:=hm (h1.sm kr)
 refine fO Tryz.func118 rfl (eH [(i1,901)]) (zi1 b1) (args:=[Sl a1 s_ c1,.f (.func 76) [] [.p 901 0]]) (bxs:=[(901,(81,[V (.int .u32 aj)]))]) kr rfl (aY.cons kr (eO.map (cr 0 hA.1 rfl)) aY.nil) (fC (fun q hq=>(hA.2 q.1 (List.mem_map.2 ⟨q,hq,rfl⟩)).1)) ?_
 intro a hS hO hM
 have hP:=pn1 b1
 generalize (zi1 b1)=Z at hS hP
 clear eO
 replace h1:=h1.m0 hM
 refine rPe T hS [] [] fun a hS=>(cg (fun a w=>∃ Z X,VC118_76_J1 Q/\St Tryz.f118.ntmps ⟨[],[(901,(81,[V (.int .u32 aj)]))]⟩ Z a w X/\iR (eH [(i1,901)]) w0 X0 w X/\Pin [(901,b1)] Z) ?_ ?_)
 ·refine rPe T hS [] [(7,I (lN s_)),(8,I 0)] fun a hS=>(aH ?_)
  obtain ⟨I1,μ1,cC,hm⟩:=hm
  refine cu (σ:=Int) (fun s a w=>∃ Z X,I1 s/\St Tryz.f118.ntmps ⟨[(0,Sl a1 s_ c1),(1,.f (.func 76) [] [.p 901 0]),(7,I (lN s_)),(8,I s)],[(901,(81,[V (.int .u32 aj)]))]⟩ Z a w X/\iR (eH [(i1,901)]) w0 X0 w X/\Pin [(901,b1)] Z/\RS bT w X a1 s_ c1) (fun s=>μ1 s) (0) ?_ ?_
  ·exact ⟨Z,_,cC,hS.sl _,hO,hP,h1⟩
  rintro bE a EF ⟨Z,AQ,hI,hS,hO,hP,h101⟩
  replace hm:=hm bE hI
  clear hI cC
  refine rPe T hS [] [(9,B (decide (bE < (lN s_))))] fun a hS=>(a8 ?_)
  refine aC hS (b:=decide (bE < (lN s_))) kr (fun hb=>?_) fun hb=>?_
  ·replace hm:=hm.1 hb
   refine aI (a8 ?_)
   refine aH (rPe T hS [9] [(5,I bE)] fun a hS=>?_)
   refine bk (oPe T hS 3 [] [(11,.f (.func 76) [] [.p 901 0]),(12,Sl a1 s_ c1),(13,I bE)] fun a hS=>?_)
   obtain ⟨hq,hm⟩:=hm
   refine op1 (index (e:=160) (k:=.i64) T hS kr kr kr kr h101 kr kr hq.1 hq.2 ?_)
   intro Hr a h104 hS
   refine op1 (lJ T hS kr kr kr h104 kr kr ?_)
   intro v105 a hv hS
   subst hv
   refine op1 (gJ (fi:=[]) (cp:=[.p 901 0]) hS kr kr hb76 kr kr (Ty _ _ (gi s_ bE) aj (Z 901) 901 (hS.cell (id:=901) (t:=81) (cs:=[V (.int .u32 aj)]) kr) ⟨by decide,by decide⟩) ?_)
   intro v106 a o8 oV hE hp hS
   have ⟨hO,h101,h104⟩:=e3e hE hO.m2 h101.m1 h104.m1
   obtain ⟨hp,rm⟩:=hp
   generalize hr:bV (gi s_ bE) aj=ga at hp
   replace hm:=hm ga hr
   subst hp
   replace hS:=hS.cZ (id:=901) (t:=81) (cs:=[V (.int .u32 aj)]) kr rm
   clear rm
   refine gM (aC hS (b:=ga) kr (fun hb=>?_) fun hb=>?_)
   ·replace hm:=hm.1 hb
    refine rPe T hS [0,1,5,7,8,16] [(4,I bE)] fun a hS=>(aR ?_)
    exact jP T hS hO (fun c h=>cw kr h) (fun c h=>cz (l:=[(i1,901)]) h) (dC [(i1,901)]) rfl (r:=[ii bE]) kr (fun X' hM hC=>⟨_,hm,rfl,((hS.cell (id:=901) (t:=81) (cs:=[V (.int .u32 aj)]) kr).out (f:=(dC [(i1,901)])) hC kr kr (hP.at 0 rfl))⟩)
   replace hm:=hm.2 hb
   refine aI (region (ePe T hS [5,16] [(8,I (wR (bE+1)))] fun a hS=>?_))
   exact ⟨wR (bE+1),⟨Z,_,hm.1,hS.sl _,hO,hP,h101⟩,hm.2⟩
  replace hm:=hm.2 hb
  refine cl (by rfl) ?_
  exact ⟨Z,_,hm,hS.sl _,hO,hP⟩
 rintro a HQ ⟨Z,AP,hm,hS,hO,hP⟩
 unfold VC118_76_J1 at hm
 refine rPe T hS [] [(4,I (-1))] fun a hS=>(aR ?_)
 exact jP T hS hO (fun c h=>cw kr h) (fun c h=>cz (l:=[(i1,901)]) h) (dC [(i1,901)]) rfl (r:=[ii (-1)]) kr (fun X' hM hC=>⟨_,hm,rfl,((hS.cell (id:=901) (t:=81) (cs:=[V (.int .u32 aj)]) kr).out (f:=(dC [(i1,901)])) hC kr kr (hP.at 0 rfl))⟩)
theorem C118_76 (Ty:S76) (v:∀ (s_:List aE) (aj:Int),VC118_76 s_ aj (fun r=>r=aM s_ aj)):S118_76:=fun w X s_ aj a1 c1 b1 i1 h1 eO hA=>mo1 (W118_76 Ty w X s_ aj a1 c1 b1 i1 _ (v s_ aj) h1 eO hA)
theorem W77_76 (wu:S118_76) (w0) (X0) (s_:List aE) (aj:Int) (a1) (c1) (b1) (i1) (Q:Bool->Prop) (hm:VC77_76 s_ aj Q) (h1:RS bT w0 X0 a1 s_ c1) (eO:Cell w0 X0 b1 i1 81 [.int .u32 aj]) (hA:dL [i1]) :
  rt 77 #[.slice a1 s_.length c1,.func (.func 76) #[] #[.pointer (some ⟨b1,0,none⟩)]] (pR [i1]) w0 X0 (fun w X' v=>∃ r,Q r/\v=.bool r/\Cell w X' b1 i1 81 [.int .u32 aj]):=by
 unfold VC77_76 at hm
 replace hm:=hm (h1.sm kr)
 refine fO Tryz.func77 rfl (eH [(i1,901)]) (zi1 b1) (args:=[Sl a1 s_ c1,.f (.func 76) [] [.p 901 0]]) (bxs:=[(901,(81,[V (.int .u32 aj)]))]) kr rfl (aY.cons kr (eO.map (cr 0 hA.1 rfl)) aY.nil) (fC (fun q hq=>(hA.2 q.1 (List.mem_map.2 ⟨q,hq,rfl⟩)).1)) ?_
 intro a hS hO hM
 have hP:=pn1 b1
 generalize (zi1 b1)=Z at hS hP
 clear eO
 replace h1:=h1.m0 hM
 refine rPe T hS [] [] fun a hS=>(bk ?_)
 refine oPe T hS 2 [0,1] [(5,Sl a1 s_ c1),(6,.f (.func 76) [] [.p 901 0])] fun a hS=>(op1 (pY hS kr kr hb118 kr (wu _ _ s_ aj a1 c1 (Z 901) 901 h1 (hS.cell (id:=901) (t:=81) (cs:=[V (.int .u32 aj)]) kr) ⟨by decide,by decide⟩) ?_))
 intro v101 a eI eN hE hp hS
 have ⟨hO,h1⟩:=e2e hE hO.m2 h1.m1
 obtain ⟨hp,rn⟩:=hp
 generalize hr:aM s_ aj=al at hp
 replace hm:=hm al hr
 subst hp
 replace hS:=hS.cZ (id:=901) (t:=81) (cs:=[V (.int .u32 aj)]) kr rn
 clear rn
 refine ePe T hS [5,6,7] [(4,B (decide (al≥0)))] fun a hS=>(aR ?_)
 exact jP T hS hO (fun c h=>cw kr h) (fun c h=>cz (l:=[(i1,901)]) h) (dC [(i1,901)]) rfl (r:=[.bool (decide (al≥0))]) kr (fun X' hM hC=>⟨_,hm,rfl,((hS.cell (id:=901) (t:=81) (cs:=[V (.int .u32 aj)]) kr).out (f:=(dC [(i1,901)])) hC kr kr (hP.at 0 rfl))⟩)
theorem C77_76 (wu:S118_76) (v:∀ (s_:List aE) (aj:Int),VC77_76 s_ aj (fun r=>r=aK s_ aj)):S77_76:=fun w X s_ aj a1 c1 b1 i1 h1 eO hA=>mo1 (W77_76 wu w X s_ aj a1 c1 b1 i1 _ (v s_ aj) h1 eO hA)
theorem W31 (w0) (X0) (m_:Int) (vars:Int) (Q:(List Bool)->Prop) (hm:VC31 m_ vars Q) :
  rt 31 #[.int .u32 m_,ii vars] aB w0 X0 (fun w X' v=>∃ r,Q r/\∃ dg de,v=.slice dg r.length de/\RS cD w X' dg r de):=by
 unfold VC31 at hm
 refine enter Tryz.func31 rfl (vals:=[.int .u32 m_,ii vars]) kr ?_
 intro Z a hS hO hM
 refine rPe T hS [] [] fun a hS=>(bk ?_)
 refine oPe T hS 1 [1] [(7,I vars)] fun a hS=>?_
 obtain ⟨hq,hm⟩:=hm
 refine op1 (make (E:=4) (kl:=.i64) (kc:=.i64) (col:=1005) (T:=cD) T false hS kr kr kr kr kr kr hq.1 hq.2.1 (by have:=hq.2.2; have e_:((cD.bytes:Nat):Int)=1:=rfl; rw [e_]; omega) (by have:=hq.2.2; omega) (fun _ _=>rfl) ?_)
 intro b101 a eI eN hE h104 hN hS
 clear hq hN
 replace hO:=hO.m2 hE
 replace hS:=hS.conv (t:=8) (y:=.slice (some ⟨b101,0,none⟩) (List.replicate vars.toNat (false:Bool)).length vars.toNat) kr (by rw [List.length_replicate])
 refine ePe T hS [7,8] [(5,V (.slice (some ⟨b101,0,none⟩) (List.replicate vars.toNat (false:Bool)).length vars.toNat))] fun a hS=>(cg (fun a w=>∃ Z X,∃ (cN:List Bool) (dV:Option Addr) (dU:Nat),VC31_J1 Q cN/\St Tryz.f31.ntmps ⟨[(5,Sl dV cN dU)],[]⟩ Z a w X/\Old w0 X0 w X/\OS cD 4 w X 1005 dV cN dU) ?_ ?_)
 ·refine rPe T hS [] [(10,I (lN (List.replicate vars.toNat (false:Bool)))),(11,I 0)] fun a hS=>(aH ?_)
  obtain ⟨I1,μ1,cC,hm⟩:=hm
  refine cu (σ:=(List Bool) × Int) (fun s a w=>∃ Z X du dq,I1 s.1 s.2/\St Tryz.f31.ntmps ⟨[(0,V (.int .u32 m_)),(5,Sl du s.1 dq),(10,I (lN (List.replicate vars.toNat (false:Bool)))),(11,I s.2)],[]⟩ Z a w X/\Old w0 X0 w X/\OS cD 4 w X 1005 du s.1 dq) (fun s=>μ1 s.1 s.2) (⟨List.replicate vars.toNat (false:Bool),0⟩) ?_ ?_
  ·exact ⟨Z,_,(some ⟨b101,0,none⟩),vars.toNat,cC,hS.sl _,hO,h104⟩
  rintro ⟨bO,ba⟩ a HP ⟨Z,wV,du,dq,hI,hS,hO,h114⟩
  replace hm:=hm bO ba hI
  clear hI cC
  refine rPe T hS [] [(12,B (decide (ba < (lN (List.replicate vars.toNat (false:Bool))))))] fun a hS=>(a8 ?_)
  refine aC hS (b:=decide (ba < (lN (List.replicate vars.toNat (false:Bool))))) kr (fun hb=>?_) fun hb=>?_
  ·replace hm:=hm.1 hb
   refine aI (a8 ?_)
   refine aH (rPe T hS [12] [(6,I ba)] fun a hS=>?_)
   refine region (oPe T hS 4 [6] [(14,Sl du bO dq),(15,I ba),(16,V (.int .u32 m_)),(17,I ba)] fun a hS=>?_)
   obtain ⟨hq,hm⟩:=hm
   refine op1 (S1 (k:=.u32) (k2:=.i64) (p:=m_) (q:=ba) hS kr kr kr kr hq ?_)
   intro a hS
   refine oPe T hS 2 [16,17,18] [(20,B ((IntKind.u32.wrap ((BitVec.ofInt IntKind.u32.bits (m_.fdiv (2 ^ (min ba.toNat IntKind.u32.bits))) &&& BitVec.ofInt IntKind.u32.bits 1).toNat:Int)) == 1))] fun a hS=>?_
   obtain ⟨xX,hm⟩:=hm
   refine op1 (iC (E:=4) (k:=.i64) T hS kr kr kr kr h114 kr kr xX.1 xX.2 ?_)
   intro N8 a h118 h117 hS
   refine op1 (mR (x:=((IntKind.u32.wrap ((BitVec.ofInt IntKind.u32.bits (m_.fdiv (2 ^ (min ba.toNat IntKind.u32.bits))) &&& BitVec.ofInt IntKind.u32.bits 1).toNat:Int)) == 1)) (v:=B ((IntKind.u32.wrap ((BitVec.ofInt IntKind.u32.bits (m_.fdiv (2 ^ (min ba.toNat IntKind.u32.bits))) &&& BitVec.ofInt IntKind.u32.bits 1).toNat:Int)) == 1)) (i:=ba.toNat) (E:=4) (xs:=bO) T hS kr kr kr kr h114 h118 (by have:=xX.1; have:=xX.2; omega) kr (fun _ _ _=>rfl) ?_)
   intro a ED hE h121 hS
   clear h114 h118 h117 xX
   replace hO:=hO.m2 hE
   replace hS:=hS.conv (t:=5) (y:=.slice du (bO.set ba.toNat ((IntKind.u32.wrap ((BitVec.ofInt IntKind.u32.bits (m_.fdiv (2 ^ (min ba.toNat IntKind.u32.bits))) &&& BitVec.ofInt IntKind.u32.bits 1).toNat:Int)) == 1)).length dq) kr (by rw [List.length_set])
   replace hS:=hS.conv (t:=14) (y:=.slice du (bO.set ba.toNat ((IntKind.u32.wrap ((BitVec.ofInt IntKind.u32.bits (m_.fdiv (2 ^ (min ba.toNat IntKind.u32.bits))) &&& BitVec.ofInt IntKind.u32.bits 1).toNat:Int)) == 1)).length dq) kr (by rw [List.length_set])
   refine gM (region (ePe T hS [] [(11,I (wR (ba+1)))] fun a hS=>?_))
   exact ⟨⟨(bO.set ba.toNat ((IntKind.u32.wrap ((BitVec.ofInt IntKind.u32.bits (m_.fdiv (2 ^ (min ba.toNat IntKind.u32.bits))) &&& BitVec.ofInt IntKind.u32.bits 1).toNat:Int)) == 1)),wR (ba+1)⟩,⟨Z,_,du,dq,hm.1,hS.sl _,hO,h121⟩,hm.2⟩
  replace hm:=hm.2 hb
  refine cl (by rfl) ?_
  exact ⟨Z,_,bO,du,dq,hm,hS.sl _,hO,h114⟩
 rintro a CA ⟨Z,D3,cN,dV,dU,hm,hS,hO,h108⟩
 unfold VC31_J1 at hm
 refine rPe T hS [5] [(4,Sl dV cN dU)] fun a hS=>(aR ?_)
 obtain ⟨tN,hE,hF⟩:=h108.freeze (by decide)
 replace hS:=hS.ev hE (cq kr)
 replace hO:=hO.m2 hE
 have h110:=hF; clear hE hF
 exact fin T hS hO (fun c=>c) rfl (r:=[.slice dV cN.length dU]) kr (fun X' hM hC=>⟨cN,hm,dV,dU,rfl,h110.m0 hM⟩)
theorem C31 (v:∀ (m_:Int) (vars:Int),E6 m_ vars->VC31 m_ vars (fun r=>r=bz m_ vars)):S31:=fun w X m_ vars hp=>mo1 (W31 w X m_ vars _ (v m_ vars hp))
end Go.Proofs.YtobeanopikjkeaaGreat
