/- Walks of the functions: each returns what its condition asks. Condition: the contracts of its callees, handed in. -/
import Derived.Test.YtobeanopikjkeaaGreatGWalksS
set_option linter.all false
namespace Go.Proofs.YtobeanopikjkeaaGreat
open Go Go.Sv
set_option maxHeartbeats 1000000
theorem W10 (TL:S32) (TJ:S33) (wo:S34) (L9:S35) (L8:S36) (TI:S37) (TH:S39) (w0) (X0) (o_:ah) (l_:List ae) (m_:List Bool) (a1) (c1) (a2) (c2) (a3) (c3) (Q:(List ak) × Int->Prop) (hm:VC10 o_ l_ m_ Q) (h1:RS aF w0 X0 a1 o_.Rows c1) (h2:RS ar w0 X0 a2 l_ c2) (h3:RS cD w0 X0 a3 m_ c3) :
  rt 10 #[.agg #[ii o_.ab,ii o_.aP,ii o_.aU,.slice a1 o_.Rows.length c1],.slice a2 l_.length c2,.slice a3 m_.length c3] aB w0 X0 (fun w X' v=>∃ r,Q r/\∃ dg de,v=.tuple #[.slice dg r.1.length de,ii r.2]/\RS aO w X' dg r.1 de):=by
 unfold VC10 at hm
 replace hm:=hm (h1.sm kr)
 replace hm:=hm (h2.sm kr)
 replace hm:=hm (h3.sm kr)
 refine enter Tryz.func10 rfl (vals:=[.agg #[ii o_.ab,ii o_.aP,ii o_.aU,.slice a1 o_.Rows.length c1],.slice a2 l_.length c2,.slice a3 m_.length c3]) kr ?_
 intro Z a hS hO hM
 replace h1:=h1.m0 hM
 replace h2:=h2.m0 hM
 replace h3:=h3.m0 hM
 refine rM T hS ⟨[(2,Sl a3 m_ c3),(3,Pt 4 0),(4,Pt 5 0)],[(4,(24,(cO o_ a1 c1))),(5,(25,[Sl a2 l_ c2]))]⟩ fun Z a SK acx hS hE hr=>?_
 have ⟨hO,h1,h2,h3⟩:=e4e hE hO.m2 h1.m1 h2.m1 h3.m1
 clear hE hr
 refine a8 (bk ?_)
 refine oPe T hS 2 [] [(18,V (.agg #[ii o_.ab,ii o_.aP,ii o_.aU,.slice a1 o_.Rows.length c1])),(19,Sl a2 l_ c2)] fun a hS=>?_
 obtain ⟨hq,hm⟩:=hm
 refine op1 (call hS kr kr hb32 kr (fun _ _=>rfl) (TL _ _ o_ l_ a1 c1 a2 c2 hq h1 h2) ?_)
 intro v101 a eI eN hE hp hS
 have ⟨hO,h1,h2,h3⟩:=e4e hE hO.m2 h1.m1 h2.m1 h3.m1
 generalize hr:eL o_ l_=al at hp
 replace hm:=hm al hr
 subst hp
 refine ePe T hS [18,19,20] [(8,I al)] fun a hS=>(rPe T hS [] [(22,B (al != 0))] fun a hS=>?_)
 refine aC hS (b:=(al != 0)) kr (fun hb=>?_) fun hb=>?_
 ·replace hm:=hm.1 hb
  refine rP T hS ⟨[(6,V (.slice none 0 0)),(7,I al)],[]⟩ fun a hS=>(aR ?_)
  exact fin T hS hO (fun c=>c) rfl (r:=[.slice none 0 0,ii al]) kr (fun X' hM hC=>⟨([],al),hm,none,0,rfl,RS.empty _ _ _⟩)
 replace hm:=hm.2 hb
 refine aI (a8 ?_)
 refine bk (oPe T hS 3 [8,22] [(24,V (.agg #[ii o_.ab,ii o_.aP,ii o_.aU,.slice a1 o_.Rows.length c1])),(25,Sl a2 l_ c2),(26,Sl a3 m_ c3)] fun a hS=>?_)
 obtain ⟨hq,hm⟩:=hm
 refine op1 (call hS kr kr hb33 kr (fun _ _=>rfl) (TJ _ _ o_ l_ m_ a1 c1 a2 c2 a3 c3 hq h1 h2 h3) ?_)
 intro v105 a o9 qf hE hp hS
 have ⟨hO,h1,h2,h3⟩:=e4e hE hO.m2 h1.m1 h2.m1 h3.m1
 generalize hr:dy o_ l_ m_=bu at hp
 replace hm:=hm bu hr
 subst hp
 refine ePe T hS [24,25,26,27] [(28,B (!bu))] fun a hS=>(aC hS (b:=(!bu)) kr (fun hb=>?_) fun hb=>?_)
 ·replace hm:=hm.1 hb
  refine rP T hS ⟨[(6,V (.slice none 0 0)),(7,I 5)],[]⟩ fun a hS=>(aR ?_)
  exact fin T hS hO (fun c=>c) rfl (r:=[.slice none 0 0,ii 5]) kr (fun X' hM hC=>⟨([],5),hm,none,0,rfl,RS.empty _ _ _⟩)
 replace hm:=hm.2 hb
 refine aI (bk ?_)
 refine oPe T hS 2 [28] [(29,V (.agg #[ii o_.ab,ii o_.aP,ii o_.aU,.slice a1 o_.Rows.length c1])),(30,Sl a2 l_ c2)] fun a hS=>?_
 obtain ⟨hq,hm⟩:=hm
 refine op1 (call hS kr kr hb34 kr (fun _ _=>rfl) (wo _ _ o_ l_ a1 c1 a2 c2 hq h1 h2) ?_)
 intro v109 a EG AQ hE hp hS
 have ⟨hO,h1,h2,h3⟩:=e4e hE hO.m2 h1.m1 h2.m1 h3.m1
 generalize hr:au o_ l_=aS at hp
 replace hm:=hm aS hr
 subst hp
 refine eM T hS ⟨[(2,Sl a3 m_ c3),(3,Pt 4 0),(4,Pt 5 0),(9,Pt 10 0)],[(4,(24,(cO o_ a1 c1))),(5,(25,[Sl a2 l_ c2])),(10,(61,[I aS.Ops,I aS.ab]))]⟩ fun Z a Lm Ro hS hE hr=>?_
 have ⟨hO,h1,h2,h3⟩:=e4e hE hO.m2 h1.m1 h2.m1 h3.m1
 clear hE hr
 refine bk (oPe T hS 2 [] [(33,V (.agg #[ii aS.Ops,ii aS.ab])),(34,Sl a3 m_ c3)] fun a hS=>?_)
 refine op1 (call hS kr kr hb35 kr (fun _ _=>rfl) (L9 _ _ aS m_ a3 c3 h3) ?_)
 intro v113 a HQ N4 hE hp hS
 have ⟨hO,h1,h2,h3⟩:=e4e hE hO.m2 h1.m1 h2.m1 h3.m1
 obtain ⟨yN,yC,hp,h119⟩:=hp
 obtain ⟨b9,hr⟩:∃ r,aq aS m_=r:=⟨_,rfl⟩
 replace hm:=hm b9 hr
 rw [hr] at hp h119
 clear hr
 subst hp
 replace hm:=hm (h119.sm kr)
 refine ePe T hS [33,34,35] [(10,Sl yN b9.1 yC)] fun a hS=>(bk ?_)
 refine oPe T hS 2 [] [(39,V (.agg #[ii aS.Ops,ii aS.ab])),(40,Sl a3 m_ c3)] fun a hS=>(op1 (call hS kr kr hb36 kr (fun _ _=>rfl) (L8 _ _ aS m_ a3 c3 h3) ?_))
 intro v120 a xa wV hE hp hS
 have ⟨hO,h1,h2,h3,h119⟩:=e5e hE hO.m2 h1.m1 h2.m1 h3.m1 h119.m1
 obtain ⟨iG,iE,hp,h126⟩:=hp
 obtain ⟨bJ,hr⟩:∃ r,aQ aS m_=r:=⟨_,rfl⟩
 replace hm:=hm bJ hr
 rw [hr] at hp h126
 clear hr
 subst hp
 replace hm:=hm (h126.sm kr)
 refine eM T hS ⟨[(2,Sl a3 m_ c3),(3,Pt 4 0),(4,Pt 5 0),(9,Pt 10 0),(10,Sl yN b9.1 yC),(12,Pt 13 0)],[(4,(24,(cO o_ a1 c1))),(5,(25,[Sl a2 l_ c2])),(10,(61,[I aS.Ops,I aS.ab])),(13,(79,[Sl iG bJ.1 iE]))]⟩ fun Z a HG NQ hS hE hr=>?_
 have ⟨hO,h1,h2,h3,h119,h126⟩:=e6e hE hO.m2 h1.m1 h2.m1 h3.m1 h119.m1 h126.m1
 clear hE hr
 refine bk (op1 (lit (E:=93) (col:=1007) (T:=aO) (vals:=[]) (ys:=([]:List ak)) T hS kr kr kr kr trivial rfl kr kr kr kr ?_))
 intro b127 a Lw N1 hE h130 hN hS
 clear hN
 have ⟨hO,h1,h2,h3,h119,h126⟩:=e6e hE hO.m2 h1.m1 h2.m1 h3.m1 h119.m1 h126.m1
 refine eM T hS ⟨[(2,Sl a3 m_ c3),(3,Pt 4 0),(4,Pt 5 0),(9,Pt 10 0),(10,Sl yN b9.1 yC),(12,Pt 13 0),(14,Pt 15 0)],[(4,(24,(cO o_ a1 c1))),(5,(25,[Sl a2 l_ c2])),(10,(61,[I aS.Ops,I aS.ab])),(13,(79,[Sl iG bJ.1 iE])),(15,(41,[Sl (some ⟨b127,0,none⟩) ([]:List ak) 0]))]⟩ fun Z a HH NR hS hE hr=>?_
 have ⟨hO,h1,h2,h3,h119,h126,h130⟩:=e7e hE hO.m2 h1.m1 h2.m1 h3.m1 h119.m1 h126.m1 h130.m2
 clear hE hr
 refine rPe T hS [3,4,12] [(15,.f (.func 37) [] [.p 4 0,.p 13 0,.p 5 0,.p 15 0])] fun a hS=>(cg (fun a w=>∃ Z X,∃ (mG:List ak) (qe:Option Addr) (p9:Nat),VC10_J1 Q mG/\St Tryz.f10.ntmps ⟨[(14,Pt 15 0)],[(15,(41,[Sl qe mG p9]))]⟩ Z a w X/\Old w0 X0 w X/\OS aO 93 w X 1007 qe mG p9) ?_ ?_)
 ·refine rPe T hS [10] [(46,Sl yN b9.1 yC),(47,I (lN b9.1)),(48,I 0)] fun a hS=>(aH ?_)
  obtain ⟨I1,μ1,cC,hm⟩:=hm
  refine cu (σ:=Int × (List ak)) (fun s a w=>∃ Z X lv lq,I1 s.1 s.2/\St Tryz.f10.ntmps ⟨[(2,Sl a3 m_ c3),(9,Pt 10 0),(14,Pt 15 0),(15,.f (.func 37) [] [.p 4 0,.p 13 0,.p 5 0,.p 15 0]),(46,Sl yN b9.1 yC),(47,I (lN b9.1)),(48,I s.1)],[(4,(24,(cO o_ a1 c1))),(5,(25,[Sl a2 l_ c2])),(10,(61,[I aS.Ops,I aS.ab])),(13,(79,[Sl iG bJ.1 iE])),(15,(41,[Sl lv s.2 lq]))]⟩ Z a w X/\Old w0 X0 w X/\RS cD w X a3 m_ c3/\RS tI w X yN b9.1 yC/\RS aF w X a1 o_.Rows c1/\RS ar w X a2 l_ c2/\RS tI w X iG bJ.1 iE/\OS aO 93 w X 1007 lv s.2 lq) (fun s=>μ1 s.1 s.2) (⟨0,([]:List ak)⟩) ?_ ?_
  ·exact ⟨Z,_,(some ⟨b127,0,none⟩),0,cC,hS.sl _,hO,h3,h119,h1,h2,h126,h130⟩
  rintro ⟨h8,mF⟩ a HI ⟨Z,JJ,lv,lq,hI,hS,hO,h137,h138,h140,h141,h142,h146⟩
  replace hm:=hm h8 mF hI
  clear hI cC
  refine rPe T hS [] [(49,B (decide (h8 < (lN b9.1))))] fun a hS=>(a8 ?_)
  refine aC hS (b:=decide (h8 < (lN b9.1))) kr (fun hb=>?_) fun hb=>?_
  ·replace hm:=hm.1 hb
   refine aI (cg (fun a w=>∃ Z X,∃ (Es:List ak) (JF:Option Addr) (Jr:Nat),VC10_J2 I1 μ1 h8 mF Es/\St Tryz.f10.ntmps ⟨[(2,Sl a3 m_ c3),(9,Pt 10 0),(14,Pt 15 0),(15,.f (.func 37) [] [.p 4 0,.p 13 0,.p 5 0,.p 15 0]),(46,Sl yN b9.1 yC),(47,I (lN b9.1)),(48,I h8)],[(4,(24,(cO o_ a1 c1))),(5,(25,[Sl a2 l_ c2])),(10,(61,[I aS.Ops,I aS.ab])),(13,(79,[Sl iG bJ.1 iE])),(15,(41,[Sl JF Es Jr]))]⟩ Z a w X/\Old w0 X0 w X/\RS cD w X a3 m_ c3/\RS tI w X yN b9.1 yC/\RS aF w X a1 o_.Rows c1/\RS ar w X a2 l_ c2/\RS tI w X iG bJ.1 iE/\OS aO 93 w X 1007 JF Es Jr) ?_ ?_)
   ·refine aH (bk ?_)
    refine oPe T hS 1 [49] [(50,I h8)] fun a hS=>?_
    obtain ⟨hq,hm⟩:=hm
    refine op1 (index (e:=3) (k:=.i64) T hS kr kr kr kr h138 kr kr hq.1 hq.2 ?_)
    intro RJ a h157 hS
    refine op1 (fc T hS kr kr kr h157 rfl kr ?_)
    intro v158 a hv hS
    cases hv
    refine ePe T hS [50,51,52] [(16,I h8),(17,I (gi b9.1 h8))] fun a hS=>(bk ?_)
    refine oPe T hS 3 [] [(53,Sl a3 m_ c3),(54,V (.agg #[ii aS.Ops,ii aS.ab])),(55,I (gi b9.1 h8))] fun a hS=>(op1 (call hS kr kr hb39 kr (fun _ _=>rfl) (TH _ _ aS (gi b9.1 h8)) ?_))
    intro v159 a Cv JM hE hp hS
    have ⟨hO,h137,h138,h140,h141,h142,h146⟩:=e7e hE hO.m2 h137.m1 h138.m1 h140.m1 h141.m1 h142.m1 h146.m2
    generalize hr:kg aS (gi b9.1 h8)=jS at hp
    replace hm:=hm jS hr
    subst hp
    refine oPe T hS 1 [54,55,56] [(57,I (wR (jS - 1)))] fun a hS=>?_
    obtain ⟨hq,hm⟩:=hm
    refine op1 (index (e:=4) (k:=.i64) T hS kr kr kr kr h137 kr kr hq.1 hq.2 ?_)
    intro acS a h164 hS
    refine op1 (fc T hS kr kr kr h164 rfl kr ?_)
    intro v165 a hv hS
    cases hv
    refine gM (aC hS (b:=gi m_ (wR (jS - 1))) kr (fun hb=>?_) fun hb=>?_)
    ·replace hm:=hm.1 hb
     refine region (oPe T hS 3 [16,17,59] [(60,.f (.func 37) [] [.p 4 0,.p 13 0,.p 5 0,.p 15 0]),(61,I h8),(62,I (gi b9.1 h8))] fun a hS=>?_)
     obtain ⟨hq,hm⟩:=hm
     refine op1 (gJ (fi:=[]) (cp:=[.p 4 0,.p 13 0,.p 5 0,.p 15 0]) hS kr kr hb37 kr kr (TI _ _ h8 (gi b9.1 h8) o_ bJ.1 l_ mF a1 c1 iG iE a2 c2 lv lq 1007 (Z 4) 4 (Z 13) 13 (Z 5) 5 (Z 15) 15 hq h140 h142 h141 h146 (hS.cell (id:=4) (t:=24) (cs:=(cO o_ a1 c1)) kr) (hS.cell (id:=13) (t:=79) (cs:=[Sl iG bJ.1 iE]) kr) (hS.cell (id:=5) (t:=25) (cs:=[Sl a2 l_ c2]) kr) (hS.cell (id:=15) (t:=41) (cs:=[Sl lv mF lq]) kr) ⟨by decide,by decide⟩) ?_)
     intro v166 a Lp VH hE hp hS
     clear h146
     have ⟨hO,h137,h138,h140,h141,h142⟩:=e6e hE hO.m2 h137.m1 h138.m1 h140.m1 h141.m1 h142.m1
     obtain ⟨AH,Aw,hp,h172,KC,KA,Kz,Gp⟩:=hp
     obtain ⟨zr,hr⟩:∃ r,eZ h8 (gi b9.1 h8) o_ bJ.1 l_ mF=r:=⟨_,rfl⟩
     replace hm:=hm zr hr
     rw [hr] at h172 Gp
     clear hr
     subst hp
     replace hm:=hm (h172.sm kr)
     replace hS:=hS.cZ (id:=4) (t:=24) (cs:=(cO o_ a1 c1)) kr KC
     replace hS:=hS.cZ (id:=13) (t:=79) (cs:=[Sl iG bJ.1 iE]) kr KA
     replace hS:=hS.cZ (id:=5) (t:=25) (cs:=[Sl a2 l_ c2]) kr Kz
     replace hS:=hS.cZ (id:=15) (t:=41) (cs:=[Sl AH zr Aw]) kr Gp
     clear KC KA Kz Gp
     refine gM ?_
     exact ⟨Z,_,zr,AH,Aw,hm,hS.sl _,hO,h137,h138,h140,h141,h142,h172⟩
    replace hm:=hm.2 hb
    refine aI ?_
    exact ⟨Z,_,mF,lv,lq,hm,hS.sl _,hO,h137,h138,h140,h141,h142,h146⟩
   rintro a HJ ⟨Z,VF,Es,JF,Jr,hm,hS,hO,h147,h148,h149,h150,h151,h155⟩
   unfold VC10_J2 at hm
   refine region (ePe T hS [] [(48,I (wR (h8+1)))] fun a hS=>?_)
   exact ⟨⟨wR (h8+1),Es⟩,⟨Z,_,JF,Jr,hm.1,hS.sl _,hO,h147,h148,h149,h150,h151,h155⟩,hm.2⟩
  replace hm:=hm.2 hb
  refine cl (by rfl) ?_
  exact ⟨Z,_,mF,lv,lq,hm,hS.sl _,hO,h146⟩
 rintro a Ln ⟨Z,JI,mG,qe,p9,hm,hS,hO,h134⟩
 unfold VC10_J1 at hm
 refine rP T hS ⟨[(6,Sl qe mG p9),(7,I 0)],[]⟩ fun a hS=>(aR ?_)
 obtain ⟨Hi,hE,hF⟩:=h134.freeze (by decide)
 replace hS:=hS.ev hE (cq kr)
 replace hO:=hO.m2 hE
 have h136:=hF; clear hE hF
 exact fin T hS hO (fun c=>c) rfl (r:=[.slice qe mG.length p9,ii 0]) kr (fun X' hM hC=>⟨(mG,0),hm,qe,p9,rfl,h136.m0 hM⟩)
theorem C10 (TL:S32) (TJ:S33) (wo:S34) (L9:S35) (L8:S36) (TI:S37) (TH:S39) (v:∀ (o_:ah) (l_:List ae) (m_:List Bool),q8 o_ l_ m_->VC10 o_ l_ m_ (fun r=>r=bX o_ l_ m_)):S10:=fun w X o_ l_ m_ a1 c1 a2 c2 a3 c3 hp h1 h2 h3=>mo1 (W10 TL TJ wo L9 L8 TI TH w X o_ l_ m_ a1 c1 a2 c2 a3 c3 _ (v o_ l_ m_ hp) h1 h2 h3)
theorem W121 (w0) (X0) (o_:ah) (a1) (c1) (Q:Int × Int->Prop) (hm:VC121 o_ Q) (h1:RS aF w0 X0 a1 o_.Rows c1) :
  rt 121 #[.agg #[ii o_.ab,ii o_.aP,ii o_.aU,.slice a1 o_.Rows.length c1]] aB w0 X0 (fun w X' v=>∃ r,Q r/\v=.tuple #[ii r.1,ii r.2]):=by
 unfold VC121 at hm
 replace hm:=hm (h1.sm kr)
 refine enter Tryz.func121 rfl (vals:=[.agg #[ii o_.ab,ii o_.aP,ii o_.aU,.slice a1 o_.Rows.length c1]]) kr ?_
 intro Z a hS hO hM
 replace h1:=h1.m0 hM
 refine rM T hS ⟨[(1,Pt 2 0)],[(2,(24,(cO o_ a1 c1)))]⟩ fun Z a HO Hi hS hE hr=>?_
 have ⟨hO,h1⟩:=e2e hE hO.m2 h1.m1
 clear hE hr
 refine a8 (rPe T hS [] [(35,B ((((((decide (o_.ab < 1)) || (decide (o_.ab > 32))) || (decide (o_.aP < 1))) || (decide (o_.aP > 64))) || (decide (o_.aU < 0))) || (decide (o_.aU≥o_.ab))))] (sp:=[9,14,19,24,29]) fun a hS=>?_)
 refine aC hS (b:=((((((decide (o_.ab < 1)) || (decide (o_.ab > 32))) || (decide (o_.aP < 1))) || (decide (o_.aP > 64))) || (decide (o_.aU < 0))) || (decide (o_.aU≥o_.ab)))) kr (fun hb=>?_) fun hb=>?_
 ·replace hm:=hm.1 hb
  refine rP T hS ⟨[(2,I (-1)),(3,I 2)],[]⟩ fun a hS=>(aR ?_)
  exact fin T hS hO (fun c=>c) rfl (r:=[ii (-1),ii 2]) kr (fun X' hM hC=>⟨_,hm,rfl⟩)
 replace hm:=hm.2 hb
 refine aI (cg (fun a w=>∃ Z X,VC121_J1 o_ Q/\St Tryz.f121.ntmps ⟨[(1,Pt 2 0)],[(2,(24,(cO o_ a1 c1)))]⟩ Z a w X/\Old w0 X0 w X/\RS aF w X a1 o_.Rows c1) ?_ ?_)
 ·refine rPe T hS [35] [(4,I 0)] fun a hS=>(aH ?_)
  obtain ⟨I1,μ1,cC,hm⟩:=hm
  refine cu (σ:=Int) (fun s a w=>∃ Z X,I1 s/\St Tryz.f121.ntmps ⟨[(1,Pt 2 0),(4,I s)],[(2,(24,(cO o_ a1 c1)))]⟩ Z a w X/\Old w0 X0 w X/\RS aF w X a1 o_.Rows c1) (fun s=>μ1 s) (0) ?_ ?_
  ·exact ⟨Z,_,cC,hS.sl _,hO,h1⟩
  rintro bE a yZ ⟨Z,JQ,hI,hS,hO,h103⟩
  replace hm:=hm bE hI
  clear hI cC
  refine a8 (rPe T hS [] [(40,B (decide (bE < (lN o_.Rows))))] fun a hS=>?_)
  refine aC hS (b:=decide (bE < (lN o_.Rows))) kr (fun hb=>?_) fun hb=>?_
  ·replace hm:=hm.1 hb
   refine aI (a8 ?_)
   refine aH (bk ?_)
   refine oPe T hS 3 [40] [(44,Sl a1 o_.Rows c1),(45,I bE)] fun a hS=>?_
   obtain ⟨hq,hm⟩:=hm
   refine op1 (index (e:=123) (k:=.i64) T hS kr kr kr kr h103 kr kr hq.1 hq.2 ?_)
   intro adk a h105 hS
   refine op1 (lJ T hS kr kr kr h105 kr kr ?_)
   intro v106 a hv hS
   subst hv
   refine eM T hS ⟨[(1,Pt 2 0),(4,I bE),(5,Pt 6 0)],[(2,(24,(cO o_ a1 c1))),(6,(123,(cR (gi o_.Rows bE))))]⟩ fun Z a Lw N1 hS hE hr=>?_
   have ⟨hO,h103⟩:=e2e hE hO.m2 h103.m1
   clear hE hr
   refine a8 (rPe T hS [] [(69,B ((((decide (((gi o_.Rows bE).State) < 0)) || (decide (((gi o_.Rows bE).State)≥o_.ab))) || (decide (((gi o_.Rows bE).Next) < 0))) || (decide (((gi o_.Rows bE).Next)≥o_.ab))))] (sp:=[51,58,63]) fun a hS=>?_)
   refine aC hS (b:=((((decide (((gi o_.Rows bE).State) < 0)) || (decide (((gi o_.Rows bE).State)≥o_.ab))) || (decide (((gi o_.Rows bE).Next) < 0))) || (decide (((gi o_.Rows bE).Next)≥o_.ab)))) kr (fun hb=>?_) fun hb=>?_
   ·replace hm:=hm.1 hb
    refine rP T hS ⟨[(2,I bE),(3,I 30)],[]⟩ fun a hS=>(aR ?_)
    exact fin T hS hO (fun c=>c) rfl (r:=[ii bE,ii 30]) kr (fun X' hM hC=>⟨_,hm,rfl⟩)
   replace hm:=hm.2 hb
   refine aI (a8 ?_)
   refine rPe T hS [69] [(80,B ((decide (((gi o_.Rows bE).Kind) < 0)) || (decide (((gi o_.Rows bE).Kind)≥o_.aP))))] (sp:=[74]) fun a hS=>(aC hS (b:=((decide (((gi o_.Rows bE).Kind) < 0)) || (decide (((gi o_.Rows bE).Kind)≥o_.aP)))) kr (fun hb=>?_) fun hb=>?_)
   ·replace hm:=hm.1 hb
    refine rP T hS ⟨[(2,I bE),(3,I 31)],[]⟩ fun a hS=>(aR ?_)
    exact fin T hS hO (fun c=>c) rfl (r:=[ii bE,ii 31]) kr (fun X' hM hC=>⟨_,hm,rfl⟩)
   replace hm:=hm.2 hb
   refine aI (a8 ?_)
   refine rPe T hS [80] [(89,B ((decide (((gi o_.Rows bE).Result) < 0)) || (decide (((gi o_.Rows bE).Result) > 1000000))))] (sp:=[85]) fun a hS=>(aC hS (b:=((decide (((gi o_.Rows bE).Result) < 0)) || (decide (((gi o_.Rows bE).Result) > 1000000)))) kr (fun hb=>?_) fun hb=>?_)
   ·replace hm:=hm.1 hb
    refine rP T hS ⟨[(2,I bE),(3,I 7)],[]⟩ fun a hS=>(aR ?_)
    exact fin T hS hO (fun c=>c) rfl (r:=[ii bE,ii 7]) kr (fun X' hM hC=>⟨_,hm,rfl⟩)
   replace hm:=hm.2 hb
   refine aI (cg (fun a w=>∃ Z X,∃ (dG:Bool),VC121_J2 Q I1 μ1 bE dG/\St Tryz.f121.ntmps ⟨[(1,Pt 2 0),(4,I bE),(128,B dG)],[(2,(24,(cO o_ a1 c1)))]⟩ Z a w X/\Old w0 X0 w X/\RS aF w X a1 o_.Rows c1) ?_ ?_)
   ·refine je [2,6] mixed hS ?_
    intro sx um hS hE hD hH
    have ⟨hO,h103⟩:=e2e hE hO.m2 h103.m1
    refine tke T [0,1,2] [2,6] hS hH #[true,true,true,false,false,false,false,false,false,false,false,false,false,false,false,false,false,false,false,false,false,false,false,false,false,false,false,false,false,false,false,false,false,false,false,false,false,false] 35 [] [(93,B (decide (bE > 0)))] fun a hS=>?_
    rcases bft (decide (bE > 0)) with hb | hb
    ·replace hS:=hS.lit (t:=93) kr hb
     replace hm:=hm.1 hb
     refine tke T [3,5,10,4,6,11] [2,6] hS hH #[true,true,true,true,true,true,true,false,false,false,true,true,false,false,false,false,false,false,false,false,false,false,false,false,false,false,false,false,false,false,false,false,false,false,false,false,false,false] 29 [] [(95,Sl a1 o_.Rows c1),(97,I (wR (bE - 1))),(102,I ((gi o_.Rows bE).State))] fun a hS=>?_
     obtain ⟨hq,hm⟩:=hm
     refine eY (e:=123) (k:=.i64) T 7 hS kr kr kr (by rfl) kr hH kr kr h103 kr kr hq.1 hq.2 ?_
     intro RO a h112 hS
     have Cc:=h112.here
     refine gN (off:=0) (fsz:=1) (ft:=3) (TF:=tI) (y:=(gi o_.Rows (wR (bE - 1))).State) 8 T hS kr kr kr (by rfl) kr hH kr h112 kr kr kr (fun cs h=>oZ h) ?_
     intro adh a h114 kV hS
     have KZ:=Cc
     rw [← kV] at KZ
     clear kV
     refine gu T 9 hS kr kr kr (by rfl) kr hH kr h114 KZ rfl kr ?_
     intro v115 a hv hS
     cases hv
     refine tke T [12,13] [2,6] hS hH #[true,true,true,true,true,true,true,true,true,true,true,true,true,true,false,false,false,false,false,false,false,false,false,false,false,false,false,false,false,false,false,false,false,false,false,false,false,false] 24 [95,97,102,98,99,100] [(104,B (decide (((gi o_.Rows (wR (bE - 1))).State) > ((gi o_.Rows bE).State))))] fun a hS=>?_
     rcases bft (decide (((gi o_.Rows (wR (bE - 1))).State) > ((gi o_.Rows bE).State))) with hb | hb
     ·replace hS:=hS.lit (t:=104) kr hb
      replace hm:=hm.1 hb
      refine tke T [14,16,21,15,17,22,18,19,20,23,24,25,27,32,26,28,33,29,30,31,34,35,36,37] [2,6] hS hH (tts 38) 0 [5,93,104] [(128,B true)] fun a hS=>(bn kr ?_)
      replace hS:=hS.sl ⟨[(1,Pt 2 0),(4,I bE),(128,B true)],[(2,(24,(cO o_ a1 c1)))]⟩
      exact ⟨Z,_,true,hm,hS.sl _,hO,h103⟩
     replace hS:=hS.lit (t:=104) kr hb
     replace hm:=hm.2 hb
     refine tke T [14,16,21,15,17,22] [2,6] hS hH #[true,true,true,true,true,true,true,true,true,true,true,true,true,true,true,true,true,true,false,false,false,true,true,false,false,false,false,false,false,false,false,false,false,false,false,false,false,false] 18 [] [(106,Sl a1 o_.Rows c1),(108,I (wR (bE - 1))),(113,I ((gi o_.Rows bE).State))] fun a hS=>?_
     obtain ⟨hq,hm⟩:=hm
     refine eY (e:=123) (k:=.i64) T 18 hS kr kr kr (by rfl) kr hH kr kr h103 kr kr hq.1 hq.2 ?_
     intro N8 a h117 hS
     have Ca:=h117.here
     refine gN (off:=0) (fsz:=1) (ft:=3) (TF:=tI) (y:=(gi o_.Rows (wR (bE - 1))).State) 19 T hS kr kr kr (by rfl) kr hH kr h117 kr kr kr (fun cs h=>oZ h) ?_
     intro RM a h119 kV hS
     have KY:=Ca
     rw [← kV] at KY
     clear kV
     refine gu T 20 hS kr kr kr (by rfl) kr hH kr h119 KY rfl kr ?_
     intro v120 a hv hS
     cases hv
     refine tke T [23,24] [2,6] hS hH #[true,true,true,true,true,true,true,true,true,true,true,true,true,true,true,true,true,true,true,true,true,true,true,true,true,false,false,false,false,false,false,false,false,false,false,false,false,false] 13 [106,108,113,109,110,111] [(115,B (((gi o_.Rows (wR (bE - 1))).State) == ((gi o_.Rows bE).State)))] fun a hS=>?_
     rcases bft (((gi o_.Rows (wR (bE - 1))).State) == ((gi o_.Rows bE).State)) with hb | hb
     ·replace hS:=hS.lit (t:=115) kr hb
      replace hm:=hm.1 hb
      refine tke T [25,27,32,26,28,33] [2,6] hS hH #[true,true,true,true,true,true,true,true,true,true,true,true,true,true,true,true,true,true,true,true,true,true,true,true,true,true,true,true,true,false,false,false,true,true,false,false,false,false] 7 [5] [(117,Sl a1 o_.Rows c1),(119,I (wR (bE - 1))),(124,I ((gi o_.Rows bE).Kind))] fun a hS=>?_
      obtain ⟨hq,hm⟩:=hm
      refine eY (e:=123) (k:=.i64) T 29 hS kr kr kr (by rfl) kr hH kr kr h103 kr kr hq.1 hq.2 ?_
      intro adg a h122 hS
      have Qo:=h122.here
      refine gN (off:=1) (fsz:=1) (ft:=3) (TF:=tI) (y:=(gi o_.Rows (wR (bE - 1))).Kind) 30 T hS kr kr kr (by rfl) kr hH kr h122 kr kr kr (fun cs h=>tR h) ?_
      intro adf a h124 kV hS
      have KW:=Qo
      rw [← kV] at KW
      clear kV
      refine gu T 31 hS kr kr kr (by rfl) kr hH kr h124 KW rfl kr ?_
      intro v125 a hv hS
      cases hv
      refine tke T [34,35,36,37] [2,6] hS hH (tts 38) 0 [93,104,115,117,119,124,120,121,122] [(128,B (decide (((gi o_.Rows (wR (bE - 1))).Kind)≥((gi o_.Rows bE).Kind))))] fun a hS=>(bn kr ?_)
      replace hS:=hS.sl ⟨[(1,Pt 2 0),(4,I bE),(128,B (decide (((gi o_.Rows (wR (bE - 1))).Kind)≥((gi o_.Rows bE).Kind))))],[(2,(24,(cO o_ a1 c1)))]⟩
      exact ⟨Z,_,decide (((gi o_.Rows (wR (bE - 1))).Kind)≥((gi o_.Rows bE).Kind)),hm,hS.sl _,hO,h103⟩
     replace hS:=hS.lit (t:=115) kr hb
     replace hm:=hm.2 hb
     refine tke T [25,27,32,26,28,33,29,30,31,34,35,36,37] [2,6] hS hH (tts 38) 0 [5,93,104,115] [(128,B false)] fun a hS=>(bn kr ?_)
     replace hS:=hS.sl ⟨[(1,Pt 2 0),(4,I bE),(128,B false)],[(2,(24,(cO o_ a1 c1)))]⟩
     exact ⟨Z,_,false,hm,hS.sl _,hO,h103⟩
    replace hS:=hS.lit (t:=93) kr hb
    replace hm:=hm.2 hb
    refine tke T [3,5,10,4,6,11,7,8,9,12,13,14,16,21,15,17,22,18,19,20,23,24,25,27,32,26,28,33,29,30,31,34,35,36,37] [2,6] hS hH (tts 38) 0 [5,93] [(128,B false)] fun a hS=>(bn kr ?_)
    replace hS:=hS.sl ⟨[(1,Pt 2 0),(4,I bE),(128,B false)],[(2,(24,(cO o_ a1 c1)))]⟩
    exact ⟨Z,_,false,hm,hS.sl _,hO,h103⟩
   rintro a vE ⟨Z,AO,dG,hm,hS,hO,h108⟩
   unfold VC121_J2 at hm
   refine aC hS (b:=dG) kr (fun hb=>?_) fun hb=>?_
   ·replace hm:=hm.1 hb
    refine rP T hS ⟨[(2,I bE),(3,I 32)],[]⟩ fun a hS=>(aR ?_)
    exact fin T hS hO (fun c=>c) rfl (r:=[ii bE,ii 32]) kr (fun X' hM hC=>⟨_,hm,rfl⟩)
   replace hm:=hm.2 hb
   refine aI (region (ePe T hS [128] [(4,I (wR (bE+1)))] fun a hS=>?_))
   exact ⟨wR (bE+1),⟨Z,_,hm.1,hS.sl _,hO,h108⟩,hm.2⟩
  replace hm:=hm.2 hb
  refine cl (by rfl) ?_
  exact ⟨Z,_,hm,hS.sl _,hO,h103⟩
 rintro a Lv ⟨Z,JP,hm,hS,hO,h101⟩
 unfold VC121_J1 at hm
 refine rP T hS ⟨[(2,I (lN o_.Rows)),(3,I 0)],[]⟩ fun a hS=>(aR ?_)
 exact fin T hS hO (fun c=>c) rfl (r:=[ii (lN o_.Rows),ii 0]) kr (fun X' hM hC=>⟨_,hm,rfl⟩)
theorem C121 (v:∀ (o_:ah),VC121 o_ (fun r=>r=cE o_)):S121:=fun w X o_ a1 c1 h1=>mo1 (W121 w X o_ a1 c1 _ (v o_) h1)
theorem W80 (w0) (X0) (o_:ah) (state:Int) (kind:Int) (a1) (c1) (Q:Int × Int × Bool->Prop) (hm:VC80 o_ state kind Q) (h1:RS aF w0 X0 a1 o_.Rows c1) :
  rt 80 #[.agg #[ii o_.ab,ii o_.aP,ii o_.aU,.slice a1 o_.Rows.length c1],ii state,ii kind] aB w0 X0 (fun w X' v=>∃ r,Q r/\v=.tuple #[ii r.1,ii r.2.1,.bool r.2.2]):=by
 unfold VC80 at hm
 replace hm:=hm (h1.sm kr)
 refine enter Tryz.func80 rfl (vals:=[.agg #[ii o_.ab,ii o_.aP,ii o_.aU,.slice a1 o_.Rows.length c1],ii state,ii kind]) kr ?_
 intro Z a hS hO hM
 replace h1:=h1.m0 hM
 refine rM T hS ⟨[(1,I state),(2,I kind),(3,Pt 4 0)],[(4,(24,(cO o_ a1 c1)))]⟩ fun Z a Lv N0 hS hE hr=>?_
 have ⟨hO,h1⟩:=e2e hE hO.m2 h1.m1
 clear hE hr
 refine cg (fun a w=>∃ Z X,VC80_J1 Q/\St Tryz.f80.ntmps ⟨[],[]⟩ Z a w X/\Old w0 X0 w X) ?_ ?_
 ·refine rPe T hS [] [(9,I 0)] fun a hS=>(aH ?_)
  obtain ⟨I1,μ1,cC,hm⟩:=hm
  refine cu (σ:=Int) (fun s a w=>∃ Z X,I1 s/\St Tryz.f80.ntmps ⟨[(1,I state),(2,I kind),(3,Pt 4 0),(9,I s)],[(4,(24,(cO o_ a1 c1)))]⟩ Z a w X/\Old w0 X0 w X/\RS aF w X a1 o_.Rows c1) (fun s=>μ1 s) (0) ?_ ?_
  ·exact ⟨Z,_,cC,hS.sl _,hO,h1⟩
  rintro dk a SX ⟨Z,N1,hI,hS,hO,h102⟩
  replace hm:=hm dk hI
  clear hI cC
  refine a8 (rPe T hS [] [(14,B (decide (dk < (lN o_.Rows))))] fun a hS=>?_)
  refine aC hS (b:=decide (dk < (lN o_.Rows))) kr (fun hb=>?_) fun hb=>?_
  ·replace hm:=hm.1 hb
   refine aI (a8 ?_)
   refine aH (cg (fun a w=>∃ Z X,∃ (dX:Bool),VC80_J2 o_ Q I1 μ1 dk dX/\St Tryz.f80.ntmps ⟨[(1,I state),(2,I kind),(3,Pt 4 0),(9,I dk),(34,B dX)],[(4,(24,(cO o_ a1 c1)))]⟩ Z a w X/\Old w0 X0 w X/\RS aF w X a1 o_.Rows c1) ?_ ?_)
   ·refine region (oPe T hS 3 [14] [(18,Sl a1 o_.Rows c1),(19,I dk)] fun a hS=>?_)
    obtain ⟨hq,hm⟩:=hm
    refine op1 (index (e:=123) (k:=.i64) T hS kr kr kr kr h102 kr kr hq.1 hq.2 ?_)
    intro V8 a h118 hS
    refine op1 (wE (off:=0) (fsz:=1) (ft:=3) (TF:=tI) (y:=(gi o_.Rows dk).State) T hS kr kr kr h118 kr kr kr (fun cs h=>oZ h) ?_)
    intro V7 a h120 hS
    refine op1 (fc T hS kr kr kr h120 rfl kr ?_)
    intro v121 a hv hS
    cases hv
    refine oPe T hS 3 [18,19,20,21,22] [(25,B (((gi o_.Rows dk).State) == state))] fun a hS=>?_
    rcases bft (((gi o_.Rows dk).State) == state) with hb | hb
    ·replace hS:=hS.lit (t:=25) kr hb
     replace hm:=hm.1 hb
     refine oPe T hS 3 [] [(27,Sl a1 o_.Rows c1),(28,I dk)] fun a hS=>?_
     obtain ⟨hq,hm⟩:=hm
     refine op1 (index (e:=123) (k:=.i64) T hS kr kr kr kr h102 kr kr hq.1 hq.2 ?_)
     intro Hq a h123 hS
     refine op1 (wE (off:=1) (fsz:=1) (ft:=3) (TF:=tI) (y:=(gi o_.Rows dk).Kind) T hS kr kr kr h123 kr kr kr (fun cs h=>tR h) ?_)
     intro ade a h125 hS
     refine op1 (fc T hS kr kr kr h125 rfl kr ?_)
     intro v126 a hv hS
     cases hv
     refine ePe T hS [25,27,28,29,30,31] [(34,B (((gi o_.Rows dk).Kind) == kind))] fun a hS=>?_
     exact ⟨Z,_,(((gi o_.Rows dk).Kind) == kind),hm,hS.sl _,hO,h102⟩
    replace hS:=hS.lit (t:=25) kr hb
    replace hm:=hm.2 hb
    refine ePe T hS [25] [(34,B false)] fun a hS=>?_
    exact ⟨Z,_,false,hm,hS.sl _,hO,h102⟩
   rintro a Lw ⟨Z,N2,dX,hm,hS,hO,h104⟩
   unfold VC80_J2 at hm
   refine aC hS (b:=dX) kr (fun hb=>?_) fun hb=>?_
   ·replace hm:=hm.1 hb
    refine eT [4] mixed hS ?_
    intro qj oW hS hE hD hH
    have ⟨hO,h104⟩:=e2e hE hO.m2 h104.m1
    refine tke T [0,2,6,8,1,7] [4] hS hH #[true,true,true,false,false,false,true,true,true,false,false,false,false,false,false] 9 [3,9] [(36,Sl a1 o_.Rows c1),(37,I dk),(42,Sl a1 o_.Rows c1),(43,I dk)] fun a hS=>?_
    obtain ⟨hq,hm⟩:=hm
    refine eY (e:=123) (k:=.i64) T 3 hS kr kr kr (by rfl) kr hH kr kr h104 kr kr hq.1 hq.2 ?_
    intro adj a h108 hS
    have Qs:=h108.here
    refine gN (off:=2) (fsz:=1) (ft:=3) (TF:=tI) (y:=(gi o_.Rows dk).Next) 4 T hS kr kr kr (by rfl) kr hH kr h108 kr kr kr (fun cs h=>tQ h) ?_
    intro RP a h110 kV hS
    have u7:=Qs
    rw [← kV] at u7
    clear kV
    refine gu T 5 hS kr kr kr (by rfl) kr hH kr h110 u7 rfl kr ?_
    intro v111 a hv hS
    cases hv
    refine tke T [12] [4] hS hH #[true,true,true,true,true,true,true,true,true,false,false,false,true,false,false] 5 [36,37,38,39,40] [(6,I ((gi o_.Rows dk).Next))] fun a hS=>?_
    obtain ⟨hq,hm⟩:=hm
    refine eY (e:=123) (k:=.i64) T 9 hS kr kr kr (by rfl) kr hH kr kr h104 kr kr hq.1 hq.2 ?_
    intro V9 a h113 hS
    have Qr:=h113.here
    refine gN (off:=3) (fsz:=1) (ft:=3) (TF:=tI) (y:=(gi o_.Rows dk).Result) 10 T hS kr kr kr (by rfl) kr hH kr h113 kr kr kr (fun cs h=>tP h) ?_
    intro RN a h115 kV hS
    have Cb:=Qr
    rw [← kV] at Cb
    clear kV
    refine gu T 11 hS kr kr kr (by rfl) kr hH kr h115 Cb rfl kr ?_
    intro v116 a hv hS
    cases hv
    refine tke T [13,14] [4] hS hH (tts 15) 0 [42,43,44,45,46] [(7,I ((gi o_.Rows dk).Result)),(8,B true)] fun a hS=>(bn kr ?_)
    replace hS:=hS.sl ⟨[(6,I ((gi o_.Rows dk).Next)),(7,I ((gi o_.Rows dk).Result)),(8,B true)],[]⟩
    refine aR ?_
    exact fin T hS hO (fun c=>c) rfl (r:=[ii ((gi o_.Rows dk).Next),ii ((gi o_.Rows dk).Result),.bool true]) kr (fun X' hM hC=>⟨_,hm,rfl⟩)
   replace hm:=hm.2 hb
   refine aI (region (ePe T hS [34] [(9,I (wR (dk+1)))] fun a hS=>?_))
   exact ⟨wR (dk+1),⟨Z,_,hm.1,hS.sl _,hO,h104⟩,hm.2⟩
  replace hm:=hm.2 hb
  refine cl (by rfl) ?_
  exact ⟨Z,_,hm,hS.sl _,hO⟩
 rintro a OJ ⟨Z,RC,hm,hS,hO⟩
 unfold VC80_J1 at hm
 refine rPe T hS [] [(6,I 0),(7,I 0),(8,B false)] fun a hS=>(aR ?_)
 exact fin T hS hO (fun c=>c) rfl (r:=[ii 0,ii 0,.bool false]) kr (fun X' hM hC=>⟨_,hm,rfl⟩)
theorem C80 (v:∀ (o_:ah) (state:Int) (kind:Int),VC80 o_ state kind (fun r=>r=aZ o_ state kind)):S80:=fun w X o_ state kind a1 c1 h1=>mo1 (W80 w X o_ state kind a1 c1 _ (v o_ state kind) h1)
theorem W122 (LZ:S80) (w0) (X0) (o_:ah) (state:Int) (kind:Int) (result:Int) (a1) (c1) (Q:Int × Int->Prop) (hm:VC122 o_ state kind result Q) (h1:RS aF w0 X0 a1 o_.Rows c1) :
  rt 122 #[.agg #[ii o_.ab,ii o_.aP,ii o_.aU,.slice a1 o_.Rows.length c1],ii state,ii kind,ii result] aB w0 X0 (fun w X' v=>∃ r,Q r/\v=.tuple #[ii r.1,ii r.2]):=by
 unfold VC122 at hm
 replace hm:=hm (h1.sm kr)
 refine enter Tryz.func122 rfl (vals:=[.agg #[ii o_.ab,ii o_.aP,ii o_.aU,.slice a1 o_.Rows.length c1],ii state,ii kind,ii result]) kr ?_
 intro Z a hS hO hM
 replace h1:=h1.m0 hM
 refine rM T hS ⟨[(1,I state),(2,I kind),(3,I result),(4,Pt 5 0)],[(5,(24,(cO o_ a1 c1)))]⟩ fun Z a qj oW hS hE hr=>?_
 have ⟨hO,h1⟩:=e2e hE hO.m2 h1.m1
 clear hE hr
 refine a8 (rPe T hS [] [(20,B ((decide (state < 0)) || (decide (state≥o_.ab))))] (sp:=[15]) fun a hS=>?_)
 refine aC hS (b:=((decide (state < 0)) || (decide (state≥o_.ab)))) kr (fun hb=>?_) fun hb=>?_
 ·replace hm:=hm.1 hb
  refine rP T hS ⟨[(8,I 0),(9,I 30)],[]⟩ fun a hS=>(aR ?_)
  exact fin T hS hO (fun c=>c) rfl (r:=[ii 0,ii 30]) kr (fun X' hM hC=>⟨_,hm,rfl⟩)
 replace hm:=hm.2 hb
 refine aI (bk ?_)
 refine oP T hS 3 ⟨[(3,I result),(22,V (.agg #[ii o_.ab,ii o_.aP,ii o_.aU,.slice a1 o_.Rows.length c1])),(23,I state),(24,I kind)],[]⟩ fun a hS=>(op1 (call hS kr kr hb80 kr (fun _ _=>rfl) (LZ _ _ o_ state kind a1 c1 h1) ?_))
 intro v101 a eI eN hE hp hS
 have ⟨hO,h1⟩:=e2e hE hO.m2 h1.m1
 generalize hr:aZ o_ state kind=al at hp
 replace hm:=hm al hr
 subst hp
 refine ePe T hS [22,23,24,25] [(10,I al.1),(11,I al.2.1),(12,B al.2.2)] fun a hS=>(a8 ?_)
 refine rPe T hS [3,11,12] [(35,B ((!al.2.2) || (al.2.1 != result)))] (sp:=[31]) fun a hS=>(aC hS (b:=((!al.2.2) || (al.2.1 != result))) kr (fun hb=>?_) fun hb=>?_)
 ·replace hm:=hm.1 hb
  refine rPe T hS [10,35] [(8,I 0),(9,I 40)] fun a hS=>(aR ?_)
  exact fin T hS hO (fun c=>c) rfl (r:=[ii 0,ii 40]) kr (fun X' hM hC=>⟨_,hm,rfl⟩)
 replace hm:=hm.2 hb
 refine aI (rPe T hS [10,35] [(8,I al.1),(9,I 0)] fun a hS=>?_)
 refine aR ?_
 exact fin T hS hO (fun c=>c) rfl (r:=[ii al.1,ii 0]) kr (fun X' hM hC=>⟨_,hm,rfl⟩)
theorem C122 (LZ:S80) (v:∀ (o_:ah) (state:Int) (kind:Int) (result:Int),VC122 o_ state kind result (fun r=>r=db o_ state kind result)):S122:=fun w X o_ state kind result a1 c1 h1=>mo1 (W122 LZ w X o_ state kind result a1 c1 _ (v o_ state kind result) h1)
theorem W79 (Mq:S121) (Mo:S122) (w0) (X0) (o_:ah) (l_:List ae) (state:Int) (az:List ak) (a1) (c1) (a2) (c2) (a3) (c3) (Q:Int × Int × Int->Prop) (hm:VC79 o_ l_ state az Q) (h1:RS aF w0 X0 a1 o_.Rows c1) (h2:RS ar w0 X0 a2 l_ c2) (h3:RS aO w0 X0 a3 az c3) :
  rt 79 #[.agg #[ii o_.ab,ii o_.aP,ii o_.aU,.slice a1 o_.Rows.length c1],.slice a2 l_.length c2,ii state,.slice a3 az.length c3] aB w0 X0 (fun w X' v=>∃ r,Q r/\v=.tuple #[ii r.1,ii r.2.1,ii r.2.2]):=by
 unfold VC79 at hm
 replace hm:=hm (h1.sm kr)
 replace hm:=hm (h2.sm kr)
 replace hm:=hm (h3.sm kr)
 refine enter Tryz.func79 rfl (vals:=[.agg #[ii o_.ab,ii o_.aP,ii o_.aU,.slice a1 o_.Rows.length c1],.slice a2 l_.length c2,ii state,.slice a3 az.length c3]) kr ?_
 intro Z a hS hO hM
 replace h1:=h1.m0 hM
 replace h2:=h2.m0 hM
 replace h3:=h3.m0 hM
 refine rM T hS ⟨[(1,Sl a2 l_ c2),(2,I state),(3,Sl a3 az c3),(4,Pt 5 0)],[(5,(24,(cO o_ a1 c1)))]⟩ fun Z a OB VG hS hE hr=>?_
 have ⟨hO,h1,h2,h3⟩:=e4e hE hO.m2 h1.m1 h2.m1 h3.m1
 clear hE hr
 refine bk (oPe T hS 1 [] [(19,V (.agg #[ii o_.ab,ii o_.aP,ii o_.aU,.slice a1 o_.Rows.length c1]))] fun a hS=>?_)
 refine op1 (call hS kr kr hb121 kr (fun _ _=>rfl) (Mq _ _ o_ a1 c1 h1) ?_)
 intro v101 a eI eN hE hp hS
 have ⟨hO,h1,h2,h3⟩:=e4e hE hO.m2 h1.m1 h2.m1 h3.m1
 generalize hr:cE o_=al at hp
 replace hm:=hm al hr
 subst hp
 refine ePe T hS [19,20] [(12,I al.2)] fun a hS=>(a8 ?_)
 refine rPe T hS [12] [(24,B (al.2 != 0))] fun a hS=>(aC hS (b:=(al.2 != 0)) kr (fun hb=>?_) fun hb=>?_)
 ·replace hm:=hm.1 hb
  refine rP T hS ⟨[(8,I 0),(9,I (-1)),(10,I 2)],[]⟩ fun a hS=>(aR ?_)
  exact fin T hS hO (fun c=>c) rfl (r:=[ii 0,ii (-1),ii 2]) kr (fun X' hM hC=>⟨_,hm,rfl⟩)
 replace hm:=hm.2 hb
 refine aI (a8 ?_)
 refine rPe T hS [24] [(32,B ((decide (state < 0)) || (decide (state≥o_.ab))))] (sp:=[27]) fun a hS=>(aC hS (b:=((decide (state < 0)) || (decide (state≥o_.ab)))) kr (fun hb=>?_) fun hb=>?_)
 ·replace hm:=hm.1 hb
  refine rP T hS ⟨[(8,I 0),(9,I (-1)),(10,I 30)],[]⟩ fun a hS=>(aR ?_)
  exact fin T hS hO (fun c=>c) rfl (r:=[ii 0,ii (-1),ii 30]) kr (fun X' hM hC=>⟨_,hm,rfl⟩)
 replace hm:=hm.2 hb
 refine aI (cg (fun a w=>∃ Z X,∃ (cN:Int),VC79_J1 az Q cN/\St Tryz.f79.ntmps ⟨[(2,I cN),(3,Sl a3 az c3)],[]⟩ Z a w X/\Old w0 X0 w X/\RS aO w X a3 az c3) ?_ ?_)
 ·refine rPe T hS [32] [(13,I 0)] fun a hS=>(aH ?_)
  obtain ⟨I1,μ1,cC,hm⟩:=hm
  refine cu (σ:=Int × Int) (fun s a w=>∃ Z X,I1 s.1 s.2/\St Tryz.f79.ntmps ⟨[(1,Sl a2 l_ c2),(2,I s.1),(3,Sl a3 az c3),(4,Pt 5 0),(13,I s.2)],[(5,(24,(cO o_ a1 c1)))]⟩ Z a w X/\Old w0 X0 w X/\RS ar w X a2 l_ c2/\RS aO w X a3 az c3/\RS aF w X a1 o_.Rows c1) (fun s=>μ1 s.1 s.2) (⟨state,0⟩) ?_ ?_
  ·exact ⟨Z,_,cC,hS.sl _,hO,h2,h3,h1⟩
  rintro ⟨fJ,bZ⟩ a OD ⟨Z,AL,hI,hS,hO,h107,h109,h111⟩
  replace hm:=hm fJ bZ hI
  clear hI cC
  refine a8 (rPe T hS [] [(36,B (decide (bZ < (lN az))))] fun a hS=>?_)
  refine aC hS (b:=decide (bZ < (lN az))) kr (fun hb=>?_) fun hb=>?_
  ·replace hm:=hm.1 hb
   refine aI (a8 ?_)
   refine aH (bk ?_)
   refine oPe T hS 2 [36] [(39,Sl a3 az c3),(40,I bZ)] fun a hS=>?_
   obtain ⟨hq,hm⟩:=hm
   refine op1 (index (e:=93) (k:=.i64) T hS kr kr kr kr h109 kr kr hq.1 hq.2 ?_)
   intro V9 a h113 hS
   refine op1 (lJ T hS kr kr kr h113 kr kr ?_)
   intro v114 a hv hS
   subst hv
   refine eM T hS ⟨[(1,Sl a2 l_ c2),(2,I fJ),(3,Sl a3 az c3),(4,Pt 5 0),(13,I bZ),(14,Pt 15 0)],[(5,(24,(cO o_ a1 c1))),(15,(93,(cK (gi az bZ))))]⟩ fun Z a OE Rw hS hE hr=>?_
   have ⟨hO,h107,h109,h111⟩:=e4e hE hO.m2 h107.m1 h109.m1 h111.m1
   clear hE hr
   refine a8 (rPe T hS [] [(52,B ((decide (((gi az bZ).Oper) < 0)) || (decide (((gi az bZ).Oper)≥(lN l_)))))] (sp:=[46]) fun a hS=>?_)
   refine aC hS (b:=((decide (((gi az bZ).Oper) < 0)) || (decide (((gi az bZ).Oper)≥(lN l_))))) kr (fun hb=>?_) fun hb=>?_
   ·replace hm:=hm.1 hb
    refine rP T hS ⟨[(8,I 0),(9,I bZ),(10,I 2)],[]⟩ fun a hS=>(aR ?_)
    exact fin T hS hO (fun c=>c) rfl (r:=[ii 0,ii bZ,ii 2]) kr (fun X' hM hC=>⟨_,hm,rfl⟩)
   replace hm:=hm.2 hb
   refine aI (cg (fun a w=>∃ Z X,VC79_J2 o_ l_ az Q I1 μ1 fJ bZ/\St Tryz.f79.ntmps ⟨[(1,Sl a2 l_ c2),(2,I fJ),(3,Sl a3 az c3),(4,Pt 5 0),(13,I bZ),(14,Pt 15 0)],[(5,(24,(cO o_ a1 c1))),(15,(93,(cK (gi az bZ))))]⟩ Z a w X/\Old w0 X0 w X/\RS ar w X a2 l_ c2/\RS aO w X a3 az c3/\RS aF w X a1 o_.Rows c1) ?_ ?_)
   ·refine rPe T hS [52] [(15,I 0)] fun a hS=>(aH ?_)
    obtain ⟨I2,μ2,cC,hm⟩:=hm
    refine cu (σ:=Int) (fun s a w=>∃ Z X,I2 s/\St Tryz.f79.ntmps ⟨[(1,Sl a2 l_ c2),(2,I fJ),(3,Sl a3 az c3),(4,Pt 5 0),(13,I bZ),(14,Pt 15 0),(15,I s)],[(5,(24,(cO o_ a1 c1))),(15,(93,(cK (gi az bZ))))]⟩ Z a w X/\Old w0 X0 w X/\RS ar w X a2 l_ c2/\RS aO w X a3 az c3/\RS aF w X a1 o_.Rows c1) (fun s=>μ2 s) (0) ?_ ?_
    ·exact ⟨Z,_,cC,hS.sl _,hO,h107,h109,h111⟩
    rintro o6 a EA ⟨Z,JN,hI,hS,hO,h147,h148,h150⟩
    replace hm:=hm o6 hI
    clear hI cC
    refine a8 (rPe T hS [] [(56,B (decide (o6 < bZ)))] fun a hS=>?_)
    refine aC hS (b:=decide (o6 < bZ)) kr (fun hb=>?_) fun hb=>?_
    ·replace hm:=hm.1 hb
     refine aI (a8 ?_)
     refine aH (eT [5,15] mixed hS ?_)
     intro SS NW hS hE hD hH
     have ⟨hO,h147,h148,h150⟩:=e4e hE hO.m2 h147.m1 h148.m1 h150.m1
     refine tke T [0,1,5,6] [5,15] hS hH #[true,true,false,false,false,true,true,false] 4 [] [(59,Sl a3 az c3),(60,I o6),(65,I ((gi az bZ).Oper))] fun a hS=>?_
     obtain ⟨hq,hm⟩:=hm
     refine eY (e:=93) (k:=.i64) T 2 hS kr kr kr (by rfl) kr hH kr kr h148 kr kr hq.1 hq.2 ?_
     intro V3 a h154 hS
     have Qi:=h154.here
     refine gN (off:=0) (fsz:=1) (ft:=3) (TF:=tI) (y:=(gi az o6).Oper) 3 T hS kr kr kr (by rfl) kr hH kr h154 kr kr kr (fun cs h=>rz h) ?_
     intro acV a h156 kV hS
     have KT:=Qi
     rw [← kV] at KT
     clear kV
     refine gu T 4 hS kr kr kr (by rfl) kr hH kr h156 KT rfl kr ?_
     intro v157 a hv hS
     cases hv
     refine tke T [7] [5,15] hS hH (tts 8) 0 [59,60,65,61,62,63] [(66,B (((gi az o6).Oper) == ((gi az bZ).Oper)))] fun a hS=>(bn kr ?_)
     replace hS:=hS.sle [] []
     refine aC hS (b:=(((gi az o6).Oper) == ((gi az bZ).Oper))) kr (fun hb=>?_) fun hb=>?_
     ·replace hm:=hm.1 hb
      refine rP T hS ⟨[(8,I 0),(9,I bZ),(10,I 21)],[]⟩ fun a hS=>(aR ?_)
      exact fin T hS hO (fun c=>c) rfl (r:=[ii 0,ii bZ,ii 21]) kr (fun X' hM hC=>⟨_,hm,rfl⟩)
     replace hm:=hm.2 hb
     refine aI (region (ePe T hS [66] [(15,I (wR (o6+1)))] fun a hS=>?_))
     exact ⟨wR (o6+1),⟨Z,_,hm.1,hS.sl _,hO,h147,h148,h150⟩,hm.2⟩
    replace hm:=hm.2 hb
    refine cl (by rfl) ?_
    exact ⟨Z,_,hm,hS.sl _,hO,h147,h148,h150⟩
   rintro a OF ⟨Z,NU,hm,hS,hO,h115,h116,h117⟩
   unfold VC79_J2 at hm
   refine eT [5,15] mixed hS ?_
   intro OL Hj hS hE hD hH
   have ⟨hO,h115,h116,h117⟩:=e4e hE hO.m2 h115.m1 h116.m1 h117.m1
   refine tke T [0,1,2,3,8,4,9] [5,15] hS hH #[true,true,true,true,true,false,false,false,true,true,false,false,false,false,false,false] 9 [2] [(69,V (.agg #[ii o_.ab,ii o_.aP,ii o_.aU,.slice a1 o_.Rows.length c1])),(70,I fJ),(71,Sl a2 l_ c2),(73,I ((gi az bZ).Oper)),(78,I ((gi az bZ).Result))] fun a hS=>?_
   obtain ⟨hq,hm⟩:=hm
   refine eY (e:=91) (k:=.i64) T 5 hS kr kr kr (by rfl) kr hH kr kr h115 kr kr hq.1 hq.2 ?_
   intro N7 a h121 hS
   have Qp:=h121.here
   refine gN (off:=1) (fsz:=1) (ft:=3) (TF:=tI) (y:=(gi l_ ((gi az bZ).Oper)).Kind) 6 T hS kr kr kr (by rfl) kr hH kr h121 kr kr kr (fun cs h=>nq h) ?_
   intro Hq a h123 kV hS
   have KX:=Qp
   rw [← kV] at KX
   clear kV
   refine gu T 7 hS kr kr kr (by rfl) kr hH kr h123 KX rfl kr ?_
   intro v124 a hv hS
   cases hv
   refine only 10 kr (by rfl) (call hS kr kr hb122 kr (fun _ _=>rfl) (Mo _ _ o_ fJ ((gi l_ ((gi az bZ).Oper)).Kind) ((gi az bZ).Result) a1 c1 h117) ?_)
   intro v125 a Cz N2 hE hp hS
   replace hO:=hO.m2 hE
   replace hD:=hD.ev hE rfl
   have ⟨h115,h116,h117,h121,h123⟩:=e5e hE h115.m1 h116.m1 h117.m1 h121.m1 h123.m1
   generalize hr:db o_ fJ ((gi l_ ((gi az bZ).Oper)).Kind) ((gi az bZ).Result)=fB at hp
   replace hm:=hm fB hr
   subst hp
   replace hS:=hS.sle [] [(79,V (.tuple #[ii fB.1,ii fB.2]))]
   refine cm (br.of hS (bks:=[5,15]) kr hD) ?_
   intro hH
   refine tke T [11,12,13,14,15] [5,15] hS hH (tts 16) 0 [69,70,71,73,78,74,75,76,79] [(16,I fB.1),(17,I fB.2)] fun a hS=>(bn kr ?_)
   replace hS:=hS.sle [] []
   refine a8 (rPe T hS [] [(83,B (fB.2 != 0))] fun a hS=>?_)
   refine aC hS (b:=(fB.2 != 0)) kr (fun hb=>?_) fun hb=>?_
   ·replace hm:=hm.1 hb
    refine rP T hS ⟨[(8,I 0),(9,I bZ),(10,I fB.2)],[]⟩ fun a hS=>(aR ?_)
    exact fin T hS hO (fun c=>c) rfl (r:=[ii 0,ii bZ,ii fB.2]) kr (fun X' hM hC=>⟨_,hm,rfl⟩)
   replace hm:=hm.2 hb
   refine aI (a8 ?_)
   refine cg (fun a w=>∃ Z X,∃ (mG:Bool),VC79_J3 Q I1 μ1 fJ bZ fB mG/\St Tryz.f79.ntmps ⟨[(1,Sl a2 l_ c2),(3,Sl a3 az c3),(4,Pt 5 0),(13,I bZ),(16,I fB.1),(103,B mG)],[(5,(24,(cO o_ a1 c1)))]⟩ Z a w X/\Old w0 X0 w X/\RS ar w X a2 l_ c2/\RS aO w X a3 az c3/\RS aF w X a1 o_.Rows c1) ?_ ?_
   ·refine je [5,15] mixed hS ?_
    intro Lv N0 hS hE hD hH
    have ⟨hO,h115,h116,h117⟩:=e4e hE hO.m2 h115.m1 h116.m1 h117.m1
    refine tke T [0,1,2] [5,15] hS hH #[true,true,true,false,false,false,false,false,false,false,false,false,false,false,false,false,false,false] 15 [] [(86,Sl a2 l_ c2),(88,I ((gi az bZ).Oper))] fun a hS=>?_
    obtain ⟨hq,hm⟩:=hm
    refine eY (e:=91) (k:=.i64) T 3 hS kr kr kr (by rfl) kr hH kr kr h115 kr kr hq.1 hq.2 ?_
    intro ac7 a h136 hS
    have Qk:=h136.here
    refine gN (off:=3) (fsz:=1) (ft:=3) (TF:=tI) (y:=(gi l_ ((gi az bZ).Oper)).End) 4 T hS kr kr kr (by rfl) kr hH kr h136 kr kr kr (fun cs h=>rE h) ?_
    intro ac6 a h138 kV hS
    have KV:=Qk
    rw [← kV] at KV
    clear kV
    refine gu T 5 hS kr kr kr (by rfl) kr hH kr h138 KV rfl kr ?_
    intro v139 a hv hS
    cases hv
    refine tke T [6,7] [5,15] hS hH #[true,true,true,true,true,true,true,true,false,false,false,false,false,false,false,false,false,false] 10 [86,88,89,90,91] [(93,B (((gi l_ ((gi az bZ).Oper)).End) != (-1)))] fun a hS=>?_
    rcases bft (((gi l_ ((gi az bZ).Oper)).End) != (-1)) with hb | hb
    ·replace hS:=hS.lit (t:=93) kr hb
     replace hm:=hm.1 hb
     refine tke T [8,9,14,10,15] [5,15] hS hH #[true,true,true,true,true,true,true,true,true,true,true,false,false,false,true,true,false,false] 5 [14] [(94,Sl a2 l_ c2),(96,I ((gi az bZ).Oper)),(101,I ((gi az bZ).Result))] fun a hS=>?_
     obtain ⟨hq,hm⟩:=hm
     refine eY (e:=91) (k:=.i64) T 11 hS kr kr kr (by rfl) kr hH kr kr h115 kr kr hq.1 hq.2 ?_
     intro ac4 a h141 hS
     have Qj:=h141.here
     refine gN (off:=4) (fsz:=1) (ft:=3) (TF:=tI) (y:=(gi l_ ((gi az bZ).Oper)).Result) 12 T hS kr kr kr (by rfl) kr hH kr h141 kr kr kr (fun cs h=>yR h) ?_
     intro ac2 a h143 kV hS
     have KU:=Qj
     rw [← kV] at KU
     clear kV
     refine gu T 13 hS kr kr kr (by rfl) kr hH kr h143 KU rfl kr ?_
     intro v144 a hv hS
     cases hv
     refine tke T [16,17] [5,15] hS hH (tts 18) 0 [93,94,96,101,97,98,99] [(103,B (((gi l_ ((gi az bZ).Oper)).Result) != ((gi az bZ).Result)))] fun a hS=>(bn kr ?_)
     replace hS:=hS.sl ⟨[(1,Sl a2 l_ c2),(3,Sl a3 az c3),(4,Pt 5 0),(13,I bZ),(16,I fB.1),(103,B (((gi l_ ((gi az bZ).Oper)).Result) != ((gi az bZ).Result)))],[(5,(24,(cO o_ a1 c1)))]⟩
     exact ⟨Z,_,(((gi l_ ((gi az bZ).Oper)).Result) != ((gi az bZ).Result)),hm,hS.sl _,hO,h115,h116,h117⟩
    replace hS:=hS.lit (t:=93) kr hb
    replace hm:=hm.2 hb
    refine tke T [8,9,14,10,15,11,12,13,16,17] [5,15] hS hH (tts 18) 0 [14,93] [(103,B false)] fun a hS=>(bn kr ?_)
    replace hS:=hS.sl ⟨[(1,Sl a2 l_ c2),(3,Sl a3 az c3),(4,Pt 5 0),(13,I bZ),(16,I fB.1),(103,B false)],[(5,(24,(cO o_ a1 c1)))]⟩
    exact ⟨Z,_,false,hm,hS.sl _,hO,h115,h116,h117⟩
   rintro a EB ⟨Z,VM,mG,hm,hS,hO,h129,h130,h132⟩
   unfold VC79_J3 at hm
   refine aC hS (b:=mG) kr (fun hb=>?_) fun hb=>?_
   ·replace hm:=hm.1 hb
    refine rP T hS ⟨[(8,I 0),(9,I bZ),(10,I 40)],[]⟩ fun a hS=>(aR ?_)
    exact fin T hS hO (fun c=>c) rfl (r:=[ii 0,ii bZ,ii 40]) kr (fun X' hM hC=>⟨_,hm,rfl⟩)
   replace hm:=hm.2 hb
   refine aI (region (ePe T hS [16,103] [(2,I fB.1)] fun a hS=>?_))
   refine region (ePe T hS [] [(13,I (wR (bZ+1)))] fun a hS=>?_)
   exact ⟨⟨fB.1,wR (bZ+1)⟩,⟨Z,_,hm.1,hS.sl _,hO,h129,h130,h132⟩,hm.2⟩
  replace hm:=hm.2 hb
  refine cl (by rfl) ?_
  exact ⟨Z,_,fJ,hm,hS.sl _,hO,h109⟩
 rintro a Lp ⟨Z,Rv,cN,hm,hS,hO,h106⟩
 unfold VC79_J1 at hm
 refine rPe T hS [2,3] [(8,I cN),(9,I (lN az)),(10,I 0)] fun a hS=>(aR ?_)
 exact fin T hS hO (fun c=>c) rfl (r:=[ii cN,ii (lN az),ii 0]) kr (fun X' hM hC=>⟨_,hm,rfl⟩)
theorem C79 (Mq:S121) (Mo:S122) (v:∀ (o_:ah) (l_:List ae) (state:Int) (az:List ak),VC79 o_ l_ state az (fun r=>r=bU o_ l_ state az)):S79:=fun w X o_ l_ state az a1 c1 a2 c2 a3 c3 h1 h2 h3=>mo1 (W79 Mq Mo w X o_ l_ state az a1 c1 a2 c2 a3 c3 _ (v o_ l_ state az) h1 h2 h3)
theorem W29 (Kc:S79) (LZ:S80) (w0) (X0) (o_:ah) (l_:List ae) (order:List Int) (a1) (c1) (a2) (c2) (a3) (c3) (Q:(List ak) × Int->Prop) (hm:VC29 o_ l_ order Q) (h1:RS aF w0 X0 a1 o_.Rows c1) (h2:RS ar w0 X0 a2 l_ c2) (h3:RS tI w0 X0 a3 order c3) :
  rt 29 #[.agg #[ii o_.ab,ii o_.aP,ii o_.aU,.slice a1 o_.Rows.length c1],.slice a2 l_.length c2,.slice a3 order.length c3] aB w0 X0 (fun w X' v=>∃ r,Q r/\∃ dg de,v=.tuple #[.slice dg r.1.length de,ii r.2]/\RS aO w X' dg r.1 de):=by
 unfold VC29 at hm
 replace hm:=hm (h1.sm kr)
 replace hm:=hm (h2.sm kr)
 replace hm:=hm (h3.sm kr)
 refine enter Tryz.func29 rfl (vals:=[.agg #[ii o_.ab,ii o_.aP,ii o_.aU,.slice a1 o_.Rows.length c1],.slice a2 l_.length c2,.slice a3 order.length c3]) kr ?_
 intro Z a hS hO hM
 replace h1:=h1.m0 hM
 replace h2:=h2.m0 hM
 replace h3:=h3.m0 hM
 refine rM T hS ⟨[(1,Sl a2 l_ c2),(2,Sl a3 order c3),(3,Pt 4 0)],[(4,(24,(cO o_ a1 c1)))]⟩ fun Z a SM acy hS hE hr=>?_
 have ⟨hO,h1,h2,h3⟩:=e4e hE hO.m2 h1.m1 h2.m1 h3.m1
 clear hE hr
 refine rPe T hS [] [(8,V (.slice none 0 0))] fun a hS=>(bk ?_)
 refine oPe T hS 5 [] [(15,V (.agg #[ii o_.ab,ii o_.aP,ii o_.aU,.slice a1 o_.Rows.length c1])),(16,Sl a2 l_ c2),(18,I o_.aU),(19,V (.slice none 0 0))] fun a hS=>(op1 (call hS kr kr hb79 kr (fun _ _=>rfl) (Kc _ _ o_ l_ o_.aU [] a1 c1 a2 c2 none 0 h1 h2 (RS.empty _ _ _)) ?_))
 intro v101 a eI eN hE hp hS
 have ⟨hO,h1,h2,h3⟩:=e4e hE hO.m2 h1.m1 h2.m1 h3.m1
 generalize hr:bU o_ l_ o_.aU []=al at hp
 replace hm:=hm al hr
 subst hp
 refine ePe T hS [15,16,18,19,20] [(9,I al.1),(11,I al.2.2)] fun a hS=>(a8 ?_)
 refine rPe T hS [] [(25,B (al.2.2 != 0))] fun a hS=>(aC hS (b:=(al.2.2 != 0)) kr (fun hb=>?_) fun hb=>?_)
 ·replace hm:=hm.1 hb
  refine rP T hS ⟨[(6,V (.slice none 0 0)),(7,I al.2.2)],[]⟩ fun a hS=>(aR ?_)
  exact fin T hS hO (fun c=>c) rfl (r:=[.slice none 0 0,ii al.2.2]) kr (fun X' hM hC=>⟨([],al.2.2),hm,none,0,rfl,RS.empty _ _ _⟩)
 replace hm:=hm.2 hb
 refine aI (cg (fun a w=>∃ Z X,∃ (cN:List ak) (dV:Option Addr) (dU:Nat),VC29_J1 Q cN/\St Tryz.f29.ntmps ⟨[(8,Sl dV cN dU)],[]⟩ Z a w X/\Old w0 X0 w X/\OS aO 93 w X 1007 dV cN dU) ?_ ?_)
 ·refine rPe T hS [11,25] [(12,I 0)] fun a hS=>(aH ?_)
  obtain ⟨I1,μ1,cC,hm⟩:=hm
  refine cu (σ:=(List ak) × Int × Int) (fun s a w=>∃ Z X jM jL,I1 s.1 s.2.1 s.2.2/\St Tryz.f29.ntmps ⟨[(1,Sl a2 l_ c2),(2,Sl a3 order c3),(3,Pt 4 0),(8,Sl jM s.1 jL),(9,I s.2.1),(12,I s.2.2)],[(4,(24,(cO o_ a1 c1)))]⟩ Z a w X/\Old w0 X0 w X/\RS ar w X a2 l_ c2/\RS tI w X a3 order c3/\OS aO 93 w X 1007 jM s.1 jL/\RS aF w X a1 o_.Rows c1) (fun s=>μ1 s.1 s.2.1 s.2.2) (⟨[],al.1,0⟩) ?_ ?_
  ·exact ⟨Z,_,none,0,cC,hS.sl _,hO,h2,h3,(OS.nil _ _ _ _ _),h1⟩
  rintro ⟨bw,fI,dM⟩ a SN ⟨Z,VE,jM,jL,hI,hS,hO,h111,h112,h116,h119⟩
  replace hm:=hm bw fI dM hI
  clear hI cC
  refine a8 (rPe T hS [] [(30,B (decide (dM < (lN order))))] fun a hS=>?_)
  refine aC hS (b:=decide (dM < (lN order))) kr (fun hb=>?_) fun hb=>?_
  ·replace hm:=hm.1 hb
   refine aI (a8 ?_)
   refine aH (bk ?_)
   refine oPe T hS 2 [30] [(33,Sl a3 order c3),(34,I dM)] fun a hS=>?_
   obtain ⟨hq,hm⟩:=hm
   refine op1 (index (e:=3) (k:=.i64) T hS kr kr kr kr h112 kr kr hq.1 hq.2 ?_)
   intro N7 a h121 hS
   refine op1 (fc T hS kr kr kr h121 rfl kr ?_)
   intro v122 a hv hS
   cases hv
   refine eM T hS ⟨[(1,Sl a2 l_ c2),(2,Sl a3 order c3),(3,Pt 4 0),(8,Sl jM bw jL),(9,I fI),(12,I dM),(13,Pt 14 0)],[(4,(24,(cO o_ a1 c1))),(14,(93,[I (gi order dM),I 0]))]⟩ fun Z a HJ JJ hS hE hr=>?_
   have ⟨hO,h111,h112,h116,h119⟩:=e5e hE hO.m2 h111.m1 h112.m1 h116.m2 h119.m1
   clear hE hr
   refine cg (fun a w=>∃ Z X,∃ (gG:List ak) (eV:Int) (Hf:Option Addr) (GZ:Nat),VC29_J2 o_ l_ order Q I1 μ1 bw fI dM gG eV/\St Tryz.f29.ntmps ⟨[(1,Sl a2 l_ c2),(2,Sl a3 order c3),(3,Pt 4 0),(8,Sl Hf gG GZ),(12,I dM),(13,Pt 14 0)],[(4,(24,(cO o_ a1 c1))),(14,(93,[I (gi order dM),I eV]))]⟩ Z a w X/\Old w0 X0 w X/\RS ar w X a2 l_ c2/\RS tI w X a3 order c3/\OS aO 93 w X 1007 Hf gG GZ/\RS aF w X a1 o_.Rows c1) ?_ ?_
   ·refine cg (fun a w=>∃ Z X,∃ (jh:List ak) (jC:Bool) (kK:Option Addr) (kJ:Nat),VC29_J3 o_ l_ order Q I1 μ1 bw fI dM jh jC/\St Tryz.f29.ntmps ⟨[(1,Sl a2 l_ c2),(2,Sl a3 order c3),(3,Pt 4 0),(8,Sl kK jh kJ),(9,I fI),(12,I dM),(13,Pt 14 0),(51,B jC)],[(4,(24,(cO o_ a1 c1))),(14,(93,[I (gi order dM),I 0]))]⟩ Z a w X/\Old w0 X0 w X/\RS ar w X a2 l_ c2/\RS tI w X a3 order c3/\OS aO 93 w X 1007 kK jh kJ/\RS aF w X a1 o_.Rows c1) ?_ ?_
    ·refine region (oPe T hS 2 [] [(38,Sl a3 order c3),(39,I dM)] fun a hS=>?_)
     obtain ⟨hq,hm⟩:=hm
     refine op1 (index (e:=3) (k:=.i64) T hS kr kr kr kr h112 kr kr hq.1 hq.2 ?_)
     intro VZ a h169 hS
     refine op1 (fc T hS kr kr kr h169 rfl kr ?_)
     intro v170 a hv hS
     cases hv
     refine oPe T hS 2 [38,39,40,41] [(43,B (decide ((gi order dM)≥0)))] fun a hS=>?_
     rcases bft (decide ((gi order dM)≥0)) with hb | hb
     ·replace hS:=hS.lit (t:=43) kr hb
      replace hm:=hm.1 hb
      refine oPe T hS 2 [] [(44,Sl a3 order c3),(45,I dM)] fun a hS=>?_
      obtain ⟨hq,hm⟩:=hm
      refine op1 (index (e:=3) (k:=.i64) T hS kr kr kr kr h112 kr kr hq.1 hq.2 ?_)
      intro VY a h172 hS
      refine op1 (fc T hS kr kr kr h172 rfl kr ?_)
      intro v173 a hv hS
      cases hv
      refine ePe T hS [43,44,45,46,47] [(51,B (decide ((gi order dM) < (lN l_))))] fun a hS=>?_
      exact ⟨Z,_,bw,decide ((gi order dM) < (lN l_)),jM,jL,hm,hS.sl _,hO,h111,h112,h116,h119⟩
     replace hS:=hS.lit (t:=43) kr hb
     replace hm:=hm.2 hb
     refine ePe T hS [43] [(51,B false)] fun a hS=>?_
     exact ⟨Z,_,bw,false,jM,jL,hm,hS.sl _,hO,h111,h112,h116,h119⟩
    rintro a Ox ⟨Z,acz,jh,jC,kK,kJ,hm,hS,hO,h144,h145,h149,h151⟩
    unfold VC29_J3 at hm
    refine aC hS (b:=jC) kr (fun hb=>?_) fun hb=>?_
    ·replace hm:=hm.1 hb
     refine je [4] mixed hS ?_
     intro SR Rz hS hE hD hH
     have ⟨hO,h144,h145,h149,h151⟩:=e5e hE hO.m2 h144.m1 h145.m1 h149.m2 h151.m1
     refine tke T [0,1,2,3,4] [4] hS hH #[true,true,true,true,true,false,false,false,false,false,false,false,false,false,false,false,false] 12 [9] [(53,V (.agg #[ii o_.ab,ii o_.aP,ii o_.aU,.slice a1 o_.Rows.length c1])),(54,I fI),(55,Sl a2 l_ c2),(56,Sl a3 order c3),(57,I dM)] fun a hS=>?_
     obtain ⟨hq,hm⟩:=hm
     refine eY (e:=3) (k:=.i64) T 5 hS kr kr kr (by rfl) kr hH kr kr h145 kr kr hq.1 hq.2 ?_
     intro acW a h155 hS
     have Qh:=h155.here
     refine gu T 6 hS kr kr kr (by rfl) kr hH kr h155 Qh rfl kr ?_
     intro v156 a hv hS
     cases hv
     obtain ⟨hq,hm⟩:=hm
     refine eY (e:=91) (k:=.i64) T 7 hS kr kr kr (by rfl) kr hH kr kr h144 kr kr hq.1 hq.2 ?_
     intro acU a h158 hS
     have Qg:=h158.here
     refine gN (off:=1) (fsz:=1) (ft:=3) (TF:=tI) (y:=(gi l_ (gi order dM)).Kind) 8 T hS kr kr kr (by rfl) kr hH kr h158 kr kr kr (fun cs h=>nq h) ?_
     intro V2 a h160 kV hS
     have B9:=Qg
     rw [← kV] at B9
     clear kV
     refine gu T 9 hS kr kr kr (by rfl) kr hH kr h160 B9 rfl kr ?_
     intro v161 a hv hS
     cases hv
     refine only 10 kr (by rfl) (call hS kr kr hb80 kr (fun _ _=>rfl) (LZ _ _ o_ fI ((gi l_ (gi order dM)).Kind) a1 c1 h151) ?_)
     intro v162 a yY AL hE hp hS
     replace hO:=hO.m2 hE
     replace hD:=hD.ev hE rfl
     have ⟨h144,h145,h149,h151,h155,h158,h160⟩:=e7e hE h144.m1 h145.m1 h149.m2 h151.m1 h155.m1 h158.m1 h160.m1
     generalize hr:aZ o_ fI ((gi l_ (gi order dM)).Kind)=lb at hp
     replace hm:=hm lb hr
     subst hp
     replace hS:=hS.sle [] [(63,V (.tuple #[ii lb.1,ii lb.2.1,.bool lb.2.2]))]
     refine cm (br.of hS (bks:=[4]) kr hD) ?_
     intro hH
     refine tke T [11,12,13,14,15] [4] hS hH #[true,true,true,true,true,true,true,true,true,true,true,true,true,true,true,true,false] 1 [53,54,55,56,57,58,59,60,61,62,63] [(65,I lb.2.1),(67,Pt 14 1)] fun a hS=>?_
     replace hS:=hS.sl ⟨[(1,Sl a2 l_ c2),(2,Sl a3 order c3),(3,Pt 4 0),(8,Sl kK jh kJ),(12,I dM),(13,Pt 14 0),(65,I lb.2.1),(67,Pt 14 1)],[(4,(24,(cO o_ a1 c1))),(14,(93,[I (gi order dM),I 0]))]⟩
     refine only 16 kr (by rfl) (zd T hS kr kr (sy':=⟨[(1,Sl a2 l_ c2),(2,Sl a3 order c3),(3,Pt 4 0),(8,Sl kK jh kJ),(12,I dM),(13,Pt 14 0),(65,I lb.2.1),(67,Pt 14 1)],[(14,(93,[I (gi order dM),I lb.2.1])),(4,(24,(cO o_ a1 c1))),(14,(93,[I (gi order dM),I 0]))]⟩) kr ?_)
     intro a OC NS hS hE
     replace hO:=hO.m2 hE
     replace hD:=hD.ev hE rfl
     have ⟨h144,h145,h149,h151,h155,h158,h160⟩:=e7e hE h144.m1 h145.m1 h149.m2 h151.m1 h155.m1 h158.m1 h160.m1
     replace hS:=hS.sl ⟨[(1,Sl a2 l_ c2),(2,Sl a3 order c3),(3,Pt 4 0),(8,Sl kK jh kJ),(12,I dM),(13,Pt 14 0),(65,I lb.2.1),(67,Pt 14 1)],[(4,(24,(cO o_ a1 c1))),(14,(93,[I (gi order dM),I lb.2.1]))]⟩
     refine cm (br.of hS (bks:=[4]) kr hD) ?_
     intro hH
     refine bn kr ?_
     replace hS:=hS.sle [65,67] []
     exact ⟨Z,_,jh,lb.2.1,kK,kJ,hm,hS.sl _,hO,h144,h145,h149,h151⟩
    replace hm:=hm.2 hb
    refine aI ?_
    exact ⟨Z,_,jh,0,kK,kJ,hm,hS.sl _,hO,h144,h145,h149,h151⟩
   rintro a Lo ⟨Z,Rr,gG,eV,Hf,GZ,hm,hS,hO,h123,h124,h128,h129⟩
   unfold VC29_J2 at hm
   refine bk (oP T hS 2 ⟨[(1,Sl a2 l_ c2),(2,Sl a3 order c3),(3,Pt 4 0),(8,Sl Hf gG GZ),(12,I dM),(68,Sl Hf gG GZ),(69,V (.agg #[ii (gi order dM),ii eV]))],[(4,(24,(cO o_ a1 c1)))]⟩ fun a hS=>?_)
   refine op1 (lit (E:=93) (col:=0) (T:=aO) (vals:=[.agg #[ii (gi order dM),ii eV]]) (ys:=[(⟨gi order dM,eV⟩:ak)]) T hS kr kr kr kr (by exact ⟨rfl,trivial⟩) rfl kr kr kr kr ?_)
   intro b131 a OJ JO hE h134 hN hS
   clear hN
   have ⟨hO,h123,h124,h128,h129⟩:=e5e hE hO.m2 h123.m1 h124.m1 h128.m2 h129.m1
   replace h134:=h134.rs0
   obtain ⟨hq,hm⟩:=hm
   obtain ⟨news,hN⟩:=h134.src
   refine op1 (append (E:=93) (T:=aO) (col:=1007) (xs:=gG) T hS kr kr kr kr h128 hN kr kr kr kr hq ?_)
   intro AJ Ay a Lu NZ hE h137 hS
   clear hq hN
   clear h128
   have ⟨hO,h123,h124,h129,h134⟩:=e5e hE hO.m2 h123.m1 h124.m1 h129.m1 h134.m1
   refine ePe T hS [69,70,71] [(8,Sl AJ (gG++[(⟨gi order dM,eV⟩:ak)]) Ay)] fun a hS=>(bk ?_)
   refine oPe T hS 5 [] [(73,V (.agg #[ii o_.ab,ii o_.aP,ii o_.aU,.slice a1 o_.Rows.length c1])),(74,Sl a2 l_ c2),(76,I o_.aU),(77,Sl AJ (gG++[(⟨gi order dM,eV⟩:ak)]) Ay)] fun a hS=>(op1 (call hS kr kr hb79 kr (fun _ _=>rfl) (Ret.y8 (Kc _ (pJ 1007 _) o_ l_ o_.aU (gG++[(⟨gi order dM,eV⟩:ak)]) a1 c1 a2 c2 AJ Ay (h129.m0 (M0.pJ 1007)) (h123.m0 (M0.pJ 1007)) h137.pJ)) ?_))
   intro v140 a Lt NY hE hp hS
   have ⟨hO,h123,h124,h129,h137⟩:=e5e hE hO.m2 h123.m1 h124.m1 h129.m1 h137.m2
   obtain ⟨_,hp⟩:=hp
   generalize hr:bU o_ l_ o_.aU (gG++[(⟨gi order dM,eV⟩:ak)])=jT at hp
   replace hm:=hm jT hr
   subst hp
   refine ePe T hS [73,74,76,77,78] [(9,I jT.1),(11,I jT.2.2)] fun a hS=>(rPe T hS [] [(83,B (jT.2.2 != 0))] fun a hS=>?_)
   refine aC hS (b:=(jT.2.2 != 0)) kr (fun hb=>?_) fun hb=>?_
   ·replace hm:=hm.1 hb
    refine rP T hS ⟨[(6,V (.slice none 0 0)),(7,I jT.2.2)],[]⟩ fun a hS=>(aR ?_)
    exact fin T hS hO (fun c=>c) rfl (r:=[.slice none 0 0,ii jT.2.2]) kr (fun X' hM hC=>⟨([],jT.2.2),hm,none,0,rfl,RS.empty _ _ _⟩)
   replace hm:=hm.2 hb
   refine aI (region (ePe T hS [11,83] [(12,I (wR (dM+1)))] fun a hS=>?_))
   exact ⟨⟨gG++[(⟨gi order dM,eV⟩:ak)],jT.1,wR (dM+1)⟩,⟨Z,_,AJ,Ay,hm.1,hS.sl _,hO,h123,h124,h137,h129⟩,hm.2⟩
  replace hm:=hm.2 hb
  refine cl (by rfl) ?_
  exact ⟨Z,_,bw,jM,jL,hm,hS.sl _,hO,h116⟩
 rintro a HH ⟨Z,Rp,cN,dV,dU,hm,hS,hO,h108⟩
 unfold VC29_J1 at hm
 refine rPe T hS [8] [(6,Sl dV cN dU),(7,I 0)] fun a hS=>(aR ?_)
 obtain ⟨tN,hE,hF⟩:=h108.freeze (by decide)
 replace hS:=hS.ev hE (cq kr)
 replace hO:=hO.m2 hE
 have h110:=hF; clear hE hF
 exact fin T hS hO (fun c=>c) rfl (r:=[.slice dV cN.length dU,ii 0]) kr (fun X' hM hC=>⟨(cN,0),hm,dV,dU,rfl,h110.m0 hM⟩)
theorem C29 (Kc:S79) (LZ:S80) (v:∀ (o_:ah) (l_:List ae) (order:List Int),Bn o_ l_ order->VC29 o_ l_ order (fun r=>r=cV o_ l_ order)):S29:=fun w X o_ l_ order a1 c1 a2 c2 a3 c3 hp h1 h2 h3=>mo1 (W29 Kc LZ w X o_ l_ order a1 c1 a2 c2 a3 c3 _ (v o_ l_ order hp) h1 h2 h3)
theorem W11 (w0) (X0) (a_:List ak) (b_:List ak) (a1) (c1) (a2) (c2) (Q:Bool->Prop) (hm:VC11 a_ b_ Q) (h1:RS aO w0 X0 a1 a_ c1) (h2:RS aO w0 X0 a2 b_ c2) :
  rt 11 #[.slice a1 a_.length c1,.slice a2 b_.length c2] aB w0 X0 (fun w X' v=>∃ r,Q r/\v=.bool r):=by
 unfold VC11 at hm
 replace hm:=hm (h1.sm kr)
 replace hm:=hm (h2.sm kr)
 refine enter Tryz.func11 rfl (vals:=[.slice a1 a_.length c1,.slice a2 b_.length c2]) kr ?_
 intro Z a hS hO hM
 replace h1:=h1.m0 hM
 replace h2:=h2.m0 hM
 refine rPe T hS [] [] fun a hS=>(a8 ?_)
 refine rPe T hS [] [(10,B ((lN a_) != (lN b_)))] fun a hS=>(aC hS (b:=((lN a_) != (lN b_))) kr (fun hb=>?_) fun hb=>?_)
 ·replace hm:=hm.1 hb
  refine rPe T hS [0,1,10] [(4,B false)] fun a hS=>(aR ?_)
  exact fin T hS hO (fun c=>c) rfl (r:=[.bool false]) kr (fun X' hM hC=>⟨_,hm,rfl⟩)
 replace hm:=hm.2 hb
 refine aI (cg (fun a w=>∃ Z X,VC11_J1 Q/\St Tryz.f11.ntmps ⟨[],[]⟩ Z a w X/\Old w0 X0 w X) ?_ ?_)
 ·refine rPe T hS [10] [(5,I 0)] fun a hS=>(aH ?_)
  obtain ⟨I1,μ1,cC,hm⟩:=hm
  refine cu (σ:=Int) (fun s a w=>∃ Z X,I1 s/\St Tryz.f11.ntmps ⟨[(0,Sl a1 a_ c1),(1,Sl a2 b_ c2),(5,I s)],[]⟩ Z a w X/\Old w0 X0 w X/\RS aO w X a1 a_ c1/\RS aO w X a2 b_ c2) (fun s=>μ1 s) (0) ?_ ?_
  ·exact ⟨Z,_,cC,hS.sl _,hO,h1,h2⟩
  rintro dX a xc ⟨Z,yQ,hI,hS,hO,h101,h102⟩
  replace hm:=hm dX hI
  clear hI cC
  refine a8 (rPe T hS [] [(14,B (decide (dX < (lN a_))))] fun a hS=>?_)
  refine aC hS (b:=decide (dX < (lN a_))) kr (fun hb=>?_) fun hb=>?_
  ·replace hm:=hm.1 hb
   refine aI (a8 ?_)
   refine aH (eT [] mixed hS ?_)
   intro EH wX hS hE hD hH
   have ⟨hO,h101,h102⟩:=e3e hE hO.m2 h101.m1 h102.m1
   refine tke T [0,1,4,5] [] hS hH #[true,true,false,false,true,true,false,false,false] 5 [] [(17,Sl a1 a_ c1),(18,I dX),(21,Sl a2 b_ c2),(22,I dX)] fun a hS=>?_
   obtain ⟨hq,hm⟩:=hm
   refine eY (e:=93) (k:=.i64) T 2 hS kr kr kr (by rfl) kr hH kr kr h101 kr kr hq.1 hq.2 ?_
   intro RQ a h107 hS
   have Gz:=h107.here
   refine qO T 3 hS kr kr kr (by rfl) kr hH kr h107 Gz kr kr ?_
   intro v108 a hv hS
   subst hv
   obtain ⟨hq,hm⟩:=hm
   refine eY (e:=93) (k:=.i64) T 6 hS kr kr kr (by rfl) kr hH kr kr h102 kr kr hq.1 hq.2 ?_
   intro RP a h110 hS
   have u7:=h110.here
   refine qO T 7 hS kr kr kr (by rfl) kr hH kr h110 u7 kr kr ?_
   intro v111 a hv hS
   subst hv
   refine DD (op:=.neq) (xs:=[ii ((gi a_ dX).Oper),ii ((gi a_ dX).Result)]) (ys:=[ii ((gi b_ dX).Oper),ii ((gi b_ dX).Result)]) (r:=(((gi a_ dX).Oper) == ((gi b_ dX).Oper) && (((gi a_ dX).Result) == ((gi b_ dX).Result) && true))) (b:=(!(((gi a_ dX).Oper) == ((gi b_ dX).Oper) && (((gi a_ dX).Result) == ((gi b_ dX).Result) && true)))) 8 T hS kr kr kr (by rfl) kr hH kr kr kr kr kr kr ?_
   intro a hS
   refine bn kr ?_
   replace hS:=hS.sle [17,18,21,22,19,20,23,24] []
   refine aC hS (b:=(!(((gi a_ dX).Oper) == ((gi b_ dX).Oper) && (((gi a_ dX).Result) == ((gi b_ dX).Result) && true)))) kr (fun hb=>?_) fun hb=>?_
   ·replace hm:=hm.1 hb
    refine rPe T hS [0,1,5,25] [(4,B false)] fun a hS=>(aR ?_)
    exact fin T hS hO (fun c=>c) rfl (r:=[.bool false]) kr (fun X' hM hC=>⟨_,hm,rfl⟩)
   replace hm:=hm.2 hb
   refine aI (region (ePe T hS [25] [(5,I (wR (dX+1)))] fun a hS=>?_))
   exact ⟨wR (dX+1),⟨Z,_,hm.1,hS.sl _,hO,h101,h102⟩,hm.2⟩
  replace hm:=hm.2 hb
  refine cl (by rfl) ?_
  exact ⟨Z,_,hm,hS.sl _,hO⟩
 rintro a CD ⟨Z,wW,hm,hS,hO⟩
 unfold VC11_J1 at hm
 refine rPe T hS [] [(4,B true)] fun a hS=>(aR ?_)
 exact fin T hS hO (fun c=>c) rfl (r:=[.bool true]) kr (fun X' hM hC=>⟨_,hm,rfl⟩)
theorem C11 (v:∀ (a_:List ak) (b_:List ak),VC11 a_ b_ (fun r=>r=gk a_ b_)):S11:=fun w X a_ b_ a1 c1 a2 c2 h1 h2=>mo1 (W11 w X a_ b_ a1 c1 a2 c2 _ (v a_ b_) h1 h2)
theorem W82 (w0) (X0) (a_:ae) (b_:ae) (Q:Bool->Prop) (hm:VC82 a_ b_ Q) :
  rt 82 #[.agg #[ii a_.Prc,ii a_.Kind,ii a_.aN,ii a_.End,ii a_.Result],.agg #[ii b_.Prc,ii b_.Kind,ii b_.aN,ii b_.End,ii b_.Result]] aB w0 X0 (fun w X' v=>∃ r,Q r/\v=.bool r):=by
 unfold VC82 at hm
 refine enter Tryz.func82 rfl (vals:=[.agg #[ii a_.Prc,ii a_.Kind,ii a_.aN,ii a_.End,ii a_.Result],.agg #[ii b_.Prc,ii b_.Kind,ii b_.aN,ii b_.End,ii b_.Result]]) kr ?_
 intro Z a hS hO hM
 refine rM T hS ⟨[(2,Pt 3 0),(3,Pt 4 0)],[(3,(91,[I a_.Prc,I a_.Kind,I a_.aN,I a_.End,I a_.Result])),(4,(91,[I b_.Prc,I b_.Kind,I b_.aN,I b_.End,I b_.Result]))]⟩ fun Z a pa qg hS hE hr=>?_
 replace hO:=hO.m2 hE
 clear hE hr
 refine rP T hS ⟨[(4,B ((decide (a_.End≥0)) && (decide (b_.aN > a_.End))))],[]⟩ (sp:=[8]) fun a hS=>(aR ?_)
 exact fin T hS hO (fun c=>c) rfl (r:=[.bool ((decide (a_.End≥0)) && (decide (b_.aN > a_.End)))]) kr (fun X' hM hC=>⟨_,hm,rfl⟩)
theorem C82 (v:∀ (a_:ae) (b_:ae),VC82 a_ b_ (fun r=>r=jE a_ b_)):S82:=fun w X a_ b_=>mo1 (W82 w X a_ b_ _ (v a_ b_))
theorem W81 (w0) (X0) (az:List ak) (i_:Int) (a1) (c1) (Q:Int->Prop) (hm:VC81 az i_ Q) (h1:RS aO w0 X0 a1 az c1) :
  rt 81 #[.slice a1 az.length c1,ii i_] aB w0 X0 (fun w X' v=>∃ r,Q r/\v=ii r):=by
 unfold VC81 at hm
 replace hm:=hm (h1.sm kr)
 refine enter Tryz.func81 rfl (vals:=[.slice a1 az.length c1,ii i_]) kr ?_
 intro Z a hS hO hM
 replace h1:=h1.m0 hM
 refine rPe T hS [] [] fun a hS=>(cg (fun a w=>∃ Z X,VC81_J1 Q/\St Tryz.f81.ntmps ⟨[],[]⟩ Z a w X/\Old w0 X0 w X) ?_ ?_)
 ·refine rPe T hS [] [(5,I 0)] fun a hS=>(aH ?_)
  obtain ⟨I1,μ1,cC,hm⟩:=hm
  refine cu (σ:=Int) (fun s a w=>∃ Z X,I1 s/\St Tryz.f81.ntmps ⟨[(0,Sl a1 az c1),(1,I i_),(5,I s)],[]⟩ Z a w X/\Old w0 X0 w X/\RS aO w X a1 az c1) (fun s=>μ1 s) (0) ?_ ?_
  ·exact ⟨Z,_,cC,hS.sl _,hO,h1⟩
  rintro bE a sx ⟨Z,oV,hI,hS,hO,h101⟩
  replace hm:=hm bE hI
  clear hI cC
  refine a8 (rPe T hS [] [(9,B (decide (bE < (lN az))))] fun a hS=>?_)
  refine aC hS (b:=decide (bE < (lN az))) kr (fun hb=>?_) fun hb=>?_
  ·replace hm:=hm.1 hb
   refine aI (a8 ?_)
   refine aH (bk ?_)
   refine oPe T hS 2 [9] [(12,Sl a1 az c1),(13,I bE)] fun a hS=>?_
   obtain ⟨hq,hm⟩:=hm
   refine op1 (index (e:=93) (k:=.i64) T hS kr kr kr kr h101 kr kr hq.1 hq.2 ?_)
   intro Hr a h104 hS
   refine op1 (wE (off:=0) (fsz:=1) (ft:=3) (TF:=tI) (y:=(gi az bE).Oper) T hS kr kr kr h104 kr kr kr (fun cs h=>rz h) ?_)
   intro N9 a h106 hS
   refine op1 (fc T hS kr kr kr h106 rfl kr ?_)
   intro v107 a hv hS
   cases hv
   refine ePe T hS [12,13,14,15,16] [(18,B (((gi az bE).Oper) == i_))] fun a hS=>(aC hS (b:=(((gi az bE).Oper) == i_)) kr (fun hb=>?_) fun hb=>?_)
   ·replace hm:=hm.1 hb
    refine rPe T hS [0,1,5,18] [(4,I bE)] fun a hS=>(aR ?_)
    exact fin T hS hO (fun c=>c) rfl (r:=[ii bE]) kr (fun X' hM hC=>⟨_,hm,rfl⟩)
   replace hm:=hm.2 hb
   refine aI (region (ePe T hS [18] [(5,I (wR (bE+1)))] fun a hS=>?_))
   exact ⟨wR (bE+1),⟨Z,_,hm.1,hS.sl _,hO,h101⟩,hm.2⟩
  replace hm:=hm.2 hb
  refine cl (by rfl) ?_
  exact ⟨Z,_,hm,hS.sl _,hO⟩
 rintro a y6 ⟨Z,um,hm,hS,hO⟩
 unfold VC81_J1 at hm
 refine rPe T hS [] [(4,I (-1))] fun a hS=>(aR ?_)
 exact fin T hS hO (fun c=>c) rfl (r:=[ii (-1)]) kr (fun X' hM hC=>⟨_,hm,rfl⟩)
theorem C81 (v:∀ (az:List ak) (i_:Int),VC81 az i_ (fun r=>r=bb az i_)):S81:=fun w X az i_ a1 c1 h1=>mo1 (W81 w X az i_ a1 c1 _ (v az i_) h1)
theorem W30 (Kc:S79) (Pm:S81) (Tw:S82) (w0) (X0) (o_:ah) (l_:List ae) (az:List ak) (a1) (c1) (a2) (c2) (a3) (c3) (Q:Bool->Prop) (hm:VC30 o_ l_ az Q) (h1:RS aF w0 X0 a1 o_.Rows c1) (h2:RS ar w0 X0 a2 l_ c2) (h3:RS aO w0 X0 a3 az c3) :
  rt 30 #[.agg #[ii o_.ab,ii o_.aP,ii o_.aU,.slice a1 o_.Rows.length c1],.slice a2 l_.length c2,.slice a3 az.length c3] aB w0 X0 (fun w X' v=>∃ r,Q r/\v=.bool r):=by
 unfold VC30 at hm
 replace hm:=hm (h1.sm kr)
 replace hm:=hm (h2.sm kr)
 replace hm:=hm (h3.sm kr)
 refine enter Tryz.func30 rfl (vals:=[.agg #[ii o_.ab,ii o_.aP,ii o_.aU,.slice a1 o_.Rows.length c1],.slice a2 l_.length c2,.slice a3 az.length c3]) kr ?_
 intro Z a hS hO hM
 replace h1:=h1.m0 hM
 replace h2:=h2.m0 hM
 replace h3:=h3.m0 hM
 refine rM T hS ⟨[(1,Sl a2 l_ c2),(2,Sl a3 az c3),(3,Pt 4 0)],[(4,(24,(cO o_ a1 c1)))]⟩ fun Z a Cv JM hS hE hr=>?_
 have ⟨hO,h1,h2,h3⟩:=e4e hE hO.m2 h1.m1 h2.m1 h3.m1
 clear hE hr
 refine bk (oP T hS 5 ⟨[(1,Sl a2 l_ c2),(2,Sl a3 az c3),(15,V (.agg #[ii o_.ab,ii o_.aP,ii o_.aU,.slice a1 o_.Rows.length c1])),(16,Sl a2 l_ c2),(18,I o_.aU),(19,Sl a3 az c3)],[]⟩ fun a hS=>?_)
 refine op1 (call hS kr kr hb79 kr (fun _ _=>rfl) (Kc _ _ o_ l_ o_.aU az a1 c1 a2 c2 a3 c3 h1 h2 h3) ?_)
 intro v101 a eI eN hE hp hS
 have ⟨hO,h1,h2,h3⟩:=e4e hE hO.m2 h1.m1 h2.m1 h3.m1
 generalize hr:bU o_ l_ o_.aU az=al at hp
 replace hm:=hm al hr
 subst hp
 refine ePe T hS [15,16,18,19,20] [(9,I al.2.2)] fun a hS=>(a8 ?_)
 refine rPe T hS [9] [(25,B (al.2.2 != 0))] fun a hS=>(aC hS (b:=(al.2.2 != 0)) kr (fun hb=>?_) fun hb=>?_)
 ·replace hm:=hm.1 hb
  refine rPe T hS [1,2,25] [(6,B false)] fun a hS=>(aR ?_)
  exact fin T hS hO (fun c=>c) rfl (r:=[.bool false]) kr (fun X' hM hC=>⟨_,hm,rfl⟩)
 replace hm:=hm.2 hb
 refine aI (cg (fun a w=>∃ Z X,VC30_J1 Q/\St Tryz.f30.ntmps ⟨[],[]⟩ Z a w X/\Old w0 X0 w X) ?_ ?_)
 ·refine rPe T hS [25] [(10,I 0)] fun a hS=>(aH ?_)
  obtain ⟨I1,μ1,cC,hm⟩:=hm
  refine cu (σ:=Int) (fun s a w=>∃ Z X,I1 s/\St Tryz.f30.ntmps ⟨[(1,Sl a2 l_ c2),(2,Sl a3 az c3),(10,I s)],[]⟩ Z a w X/\Old w0 X0 w X/\RS ar w X a2 l_ c2/\RS aO w X a3 az c3) (fun s=>μ1 s) (0) ?_ ?_
  ·exact ⟨Z,_,cC,hS.sl _,hO,h2,h3⟩
  rintro dG a HL ⟨Z,NV,hI,hS,hO,h105,h106⟩
  replace hm:=hm dG hI
  clear hI cC
  refine a8 (rPe T hS [] [(29,B (decide (dG < (lN l_))))] fun a hS=>?_)
  refine aC hS (b:=decide (dG < (lN l_))) kr (fun hb=>?_) fun hb=>?_
  ·replace hm:=hm.1 hb
   refine aI (cg (fun a w=>∃ Z X,VC30_J2 I1 μ1 dG/\St Tryz.f30.ntmps ⟨[(1,Sl a2 l_ c2),(2,Sl a3 az c3),(10,I dG)],[]⟩ Z a w X/\Old w0 X0 w X/\RS ar w X a2 l_ c2/\RS aO w X a3 az c3) ?_ ?_)
   ·refine aH (a8 ?_)
    refine cg (fun a w=>∃ Z X,∃ (e9:Bool),VC30_J3 l_ az Q I1 μ1 dG e9/\St Tryz.f30.ntmps ⟨[(1,Sl a2 l_ c2),(2,Sl a3 az c3),(10,I dG),(43,B e9)],[]⟩ Z a w X/\Old w0 X0 w X/\RS ar w X a2 l_ c2/\RS aO w X a3 az c3) ?_ ?_
    ·refine region (oPe T hS 2 [29] [(32,Sl a2 l_ c2),(33,I dG)] fun a hS=>?_)
     obtain ⟨hq,hm⟩:=hm
     refine op1 (index (e:=91) (k:=.i64) T hS kr kr kr kr h105 kr kr hq.1 hq.2 ?_)
     intro ac1 a h144 hS
     refine op1 (wE (off:=3) (fsz:=1) (ft:=3) (TF:=tI) (y:=(gi l_ dG).End) T hS kr kr kr h144 kr kr kr (fun cs h=>rE h) ?_)
     intro ac0 a h146 hS
     refine op1 (fc T hS kr kr kr h146 rfl kr ?_)
     intro v147 a hv hS
     cases hv
     refine oPe T hS 2 [32,33,34,35,36] [(38,B (((gi l_ dG).End) != (-1)))] fun a hS=>?_
     rcases bft (((gi l_ dG).End) != (-1)) with hb | hb
     ·replace hS:=hS.lit (t:=38) kr hb
      replace hm:=hm.1 hb
      refine oPe T hS 2 [] [(39,Sl a3 az c3),(40,I dG)] fun a hS=>(op1 (call hS kr kr hb81 kr (fun _ _=>rfl) (Pm _ _ az dG a3 c3 h106) ?_))
      intro v148 a HM Hh hE hp hS
      have ⟨hO,h105,h106⟩:=e3e hE hO.m2 h105.m1 h106.m1
      generalize hr:bb az dG=fQ at hp
      replace hm:=hm fQ hr
      subst hp
      refine ePe T hS [38,39,40,41] [(43,B (decide (fQ < 0)))] fun a hS=>?_
      exact ⟨Z,_,decide (fQ < 0),hm,hS.sl _,hO,h105,h106⟩
     replace hS:=hS.lit (t:=38) kr hb
     replace hm:=hm.2 hb
     refine ePe T hS [38] [(43,B false)] fun a hS=>?_
     exact ⟨Z,_,false,hm,hS.sl _,hO,h105,h106⟩
    rintro a Lq ⟨Z,NW,e9,hm,hS,hO,h110,h111⟩
    unfold VC30_J3 at hm
    refine aC hS (b:=e9) kr (fun hb=>?_) fun hb=>?_
    ·replace hm:=hm.1 hb
     refine rPe T hS [1,2,10,43] [(6,B false)] fun a hS=>(aR ?_)
     exact fin T hS hO (fun c=>c) rfl (r:=[.bool false]) kr (fun X' hM hC=>⟨_,hm,rfl⟩)
    replace hm:=hm.2 hb
    refine aI (rPe T hS [43] [(11,I 0)] fun a hS=>?_)
    refine aH ?_
    obtain ⟨I2,μ2,cC,hm⟩:=hm
    refine cu (σ:=Int) (fun s a w=>∃ Z X,I2 s/\St Tryz.f30.ntmps ⟨[(1,Sl a2 l_ c2),(2,Sl a3 az c3),(10,I dG),(11,I s)],[]⟩ Z a w X/\Old w0 X0 w X/\RS ar w X a2 l_ c2/\RS aO w X a3 az c3) (fun s=>μ2 s) (0) ?_ ?_
    ·exact ⟨Z,_,cC,hS.sl _,hO,h110,h111⟩
    rintro ba a Ls ⟨Z,VO,hI,hS,hO,h113,h114⟩
    replace hm:=hm ba hI
    clear hI cC
    refine a8 (rPe T hS [] [(47,B (decide (ba < (lN l_))))] fun a hS=>?_)
    refine aC hS (b:=decide (ba < (lN l_))) kr (fun hb=>?_) fun hb=>?_
    ·replace hm:=hm.1 hb
     refine aI (a8 ?_)
     refine aH (bk ?_)
     refine oPe T hS 2 [47] [(50,Sl a3 az c3),(51,I dG)] fun a hS=>(op1 (call hS kr kr hb81 kr (fun _ _=>rfl) (Pm _ _ az dG a3 c3 h114) ?_))
     intro v116 a y5 yP hE hp hS
     have ⟨hO,h113,h114⟩:=e3e hE hO.m2 h113.m1 h114.m1
     generalize hr:bb az dG=cY at hp
     replace hm:=hm cY hr
     subst hp
     refine oPe T hS 2 [50,51] [(53,Sl a3 az c3),(54,I ba)] fun a hS=>(op1 (call hS kr kr hb81 kr (fun _ _=>rfl) (Pm _ _ az ba a3 c3 h114) ?_))
     intro v120 a xa wV hE hp hS
     have ⟨hO,h113,h114⟩:=e3e hE hO.m2 h113.m1 h114.m1
     generalize hr:bb az ba=bJ at hp
     replace hm:=hm bJ hr
     subst hp
     refine ePe T hS [52,53,54,55] [(12,I cY),(13,I bJ)] fun a hS=>(cg (fun a w=>∃ Z X,∃ (rF:Bool),VC30_J4 Q I2 μ2 ba rF/\St Tryz.f30.ntmps ⟨[(1,Sl a2 l_ c2),(2,Sl a3 az c3),(10,I dG),(11,I ba),(77,B rF)],[]⟩ Z a w X/\Old w0 X0 w X/\RS ar w X a2 l_ c2/\RS aO w X a3 az c3) ?_ ?_)
     ·refine je [] mixed hS ?_
      intro vE AN hS hE hD hH
      have ⟨hO,h113,h114⟩:=e3e hE hO.m2 h113.m1 h114.m1
      refine tke T [0,1,4,5] [] hS hH #[true,true,false,false,true,true,false,false,false,false,false,false,false,false,false,false,false,false,false,false,false,false] 18 [] [(56,Sl a2 l_ c2),(57,I dG),(60,Sl a2 l_ c2),(61,I ba)] fun a hS=>?_
      obtain ⟨hq,hm⟩:=hm
      refine eY (e:=91) (k:=.i64) T 2 hS kr kr kr (by rfl) kr hH kr kr h113 kr kr hq.1 hq.2 ?_
      intro ac9 a h130 hS
      have Qn:=h130.here
      refine qO T 3 hS kr kr kr (by rfl) kr hH kr h130 Qn kr kr ?_
      intro v131 a hv hS
      subst hv
      obtain ⟨hq,hm⟩:=hm
      refine eY (e:=91) (k:=.i64) T 6 hS kr kr kr (by rfl) kr hH kr kr h113 kr kr hq.1 hq.2 ?_
      intro ac8 a h133 hS
      have Ql:=h133.here
      refine qO T 7 hS kr kr kr (by rfl) kr hH kr h133 Ql kr kr ?_
      intro v134 a hv hS
      subst hv
      refine only 8 kr (by rfl) (call hS kr kr hb82 kr (fun _ _=>rfl) (Tw _ _ (gi l_ dG) (gi l_ ba)) ?_)
      intro v135 a HN VQ hE hp hS
      replace hO:=hO.m2 hE
      replace hD:=hD.ev hE rfl
      have ⟨h113,h114,h130,h133⟩:=e4e hE h113.m1 h114.m1 h130.m1 h133.m1
      generalize hr:jE (gi l_ dG) (gi l_ ba)=fm at hp
      replace hm:=hm fm hr
      subst hp
      refine cm (br.of hS (bks:=[]) kr hD) ?_
      intro hH
      refine tke T [9] [] hS hH #[true,true,true,true,true,true,true,true,true,true,false,false,false,false,false,false,false,false,false,false,false,false] 12 [56,57,60,61,58,59,62,63,64] [(65,B fm)] fun a hS=>(JY (tc:=65) (b:=fm) (f:=fun c=>⟨[(1,Sl a2 l_ c2),(2,Sl a3 az c3),(10,I dG),(11,I ba),(12,I cY),(13,I bJ),(68,B (c && (decide (bJ≥0))))],[]⟩) T [10,11,12] [] [1,2,10,11,12,13,68] hS kr kr kr kr hH (listed':=#[true,true,true,true,true,true,true,true,true,true,true,true,true,false,false,false,false,false,false,false,false,false]) (fuel:=9) kr kr (by rfl) ?_)
      intro a hS
      refine tke T [13] [] hS hH #[true,true,true,true,true,true,true,true,true,true,true,true,true,true,false,false,false,false,false,false,false,false] 8 [68] [(69,B (fm && (decide (bJ≥0))))] fun a hS=>?_
      rcases bft (fm && (decide (bJ≥0))) with hb | hb
      ·replace hS:=hS.lit (t:=69) kr hb
       replace hm:=hm.1 hb
       refine tke T [14,15,16] [] hS hH #[true,true,true,true,true,true,true,true,true,true,true,true,true,true,true,true,true,false,false,false,false,false] 5 [] [(72,B (decide (cY < 0)))] fun a hS=>(JY (tc:=72) (b:=decide (cY < 0)) (f:=fun c=>⟨[(1,Sl a2 l_ c2),(2,Sl a3 az c3),(10,I dG),(11,I ba),(69,B true),(76,B (c || (decide (cY > bJ))))],[]⟩) T [17,18,19,20] [] [1,2,10,11,69,76] hS kr kr kr kr hH (listed':=#[true,true,true,true,true,true,true,true,true,true,true,true,true,true,true,true,true,true,true,true,true,false]) (fuel:=1) kr kr (by rfl) ?_)
       intro a hS
       refine tke T [21] [] hS hH (tts 22) 0 [69,76] [(77,B ((decide (cY < 0)) || (decide (cY > bJ))))] fun a hS=>(bn kr ?_)
       replace hS:=hS.sle [] []
       exact ⟨Z,_,((decide (cY < 0)) || (decide (cY > bJ))),hm,hS.sl _,hO,h113,h114⟩
      replace hS:=hS.lit (t:=69) kr hb
      replace hm:=hm.2 hb
      refine tke T [14,15,16,17,18,19,20,21] [] hS hH (tts 22) 0 [12,13,69] [(77,B false)] fun a hS=>(bn kr ?_)
      replace hS:=hS.sle [] []
      exact ⟨Z,_,false,hm,hS.sl _,hO,h113,h114⟩
     rintro a SW ⟨Z,AM,rF,hm,hS,hO,h124,h125⟩
     unfold VC30_J4 at hm
     refine aC hS (b:=rF) kr (fun hb=>?_) fun hb=>?_
     ·replace hm:=hm.1 hb
      refine rPe T hS [1,2,10,11,77] [(6,B false)] fun a hS=>(aR ?_)
      exact fin T hS hO (fun c=>c) rfl (r:=[.bool false]) kr (fun X' hM hC=>⟨_,hm,rfl⟩)
     replace hm:=hm.2 hb
     refine aI (region (ePe T hS [77] [(11,I (wR (ba+1)))] fun a hS=>?_))
     exact ⟨wR (ba+1),⟨Z,_,hm.1,hS.sl _,hO,h124,h125⟩,hm.2⟩
    replace hm:=hm.2 hb
    refine cl (by rfl) ?_
    exact ⟨Z,_,hm,hS.sl _,hO,h113,h114⟩
   rintro a SQ ⟨Z,Ry,hm,hS,hO,h108,h109⟩
   unfold VC30_J2 at hm
   refine region (ePe T hS [] [(10,I (wR (dG+1)))] fun a hS=>?_)
   exact ⟨wR (dG+1),⟨Z,_,hm.1,hS.sl _,hO,h108,h109⟩,hm.2⟩
  replace hm:=hm.2 hb
  refine cl (by rfl) ?_
  exact ⟨Z,_,hm,hS.sl _,hO⟩
 rintro a EA ⟨Z,JN,hm,hS,hO⟩
 unfold VC30_J1 at hm
 refine rPe T hS [] [(6,B true)] fun a hS=>(aR ?_)
 exact fin T hS hO (fun c=>c) rfl (r:=[.bool true]) kr (fun X' hM hC=>⟨_,hm,rfl⟩)
theorem C30 (Kc:S79) (Pm:S81) (Tw:S82) (v:∀ (o_:ah) (l_:List ae) (az:List ak),VC30 o_ l_ az (fun r=>r=dN o_ l_ az)):S30:=fun w X o_ l_ az a1 c1 a2 c2 a3 c3 h1 h2 h3=>mo1 (W30 Kc Pm Tw w X o_ l_ az a1 c1 a2 c2 a3 c3 _ (v o_ l_ az) h1 h2 h3)
end Go.Proofs.YtobeanopikjkeaaGreat
