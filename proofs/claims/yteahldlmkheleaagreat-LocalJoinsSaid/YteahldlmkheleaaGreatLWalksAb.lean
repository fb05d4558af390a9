/- Walks of the functions: each returns what its condition asks. -/
import Derived.Test.YteahldlmkheleaaGreatLWalksS
set_option linter.all false
namespace Go.Proofs.YteahldlmkheleaaGreat
open Go Go.Sv
set_option maxHeartbeats 1000000
theorem W34 (xV:S63) (w0) (X0) (l_:List ab) (aj:List aa) (a1) (c1) (a2) (c2) (Q:Int->Prop) (hm:VC34 l_ aj Q) (h1:RS ar w0 X0 a1 l_ c1) (h2:RS av w0 X0 a2 aj c2) :
  Ret Tryz.prog 34 #[.slice a1 l_.length c1,.slice a2 aj.length c2] aM w0 X0 (fun w X' v=>∃ r,Q r/\v=.int .i64 r):=by
 unfold VC34 at hm
 replace hm:=hm (h1.sm kr)
 replace hm:=hm (h2.sm kr)
 refine enter Tryz.func34 rfl (vals:=[.slice a1 l_.length c1,.slice a2 aj.length c2]) kr ?_
 intro Z a hS hO hM
 replace h1:=h1.m0 hM
 replace h2:=h2.m0 hM
 refine rPe T hS [] [] fun a hS=>?_
 refine FT (by rfl) ?_
 refine br ?_
 refine op1 (pM kI tI false 1011 hS kr kr ?_)
 intro dY a fH fK hE h104 hS
 replace hO:=hO.m2 hE
 replace h1:=h1.m1 hE
 replace h2:=h2.m1 hE
 refine ePe T hS [10] [(5,V (.map (some dY)))] fun a hS=>?_
 refine bh ?_
 refine FU ?_
 refine cb (fun a w=>∃ Z X,VC34_J1 Q/\St Tryz.f34.ntmps ⟨[],[]⟩ Z a w X/\Old w0 X0 w X) ?_ ?_
 ·refine rPe T hS [1] [(11,Sl a2 aj c2),(12,I (lN aj)),(13,I 0)] fun a hS=>?_
  refine aQ ?_
  obtain ⟨I1,μ1,cJ,hm⟩:=hm
  refine cH (σ:=(List (Int × Int)) × Int) (fun s a w=>∃ Z X,I1 s.1 s.2/\St Tryz.f34.ntmps ⟨[(0,Sl a1 l_ c1),(5,V (.map (some dY))),(11,Sl a2 aj c2),(12,I (lN aj)),(13,I s.2)],[]⟩ Z a w X/\Old w0 X0 w X/\RS ar w X a1 l_ c1/\OM kI tI false w X 1011 dY s.1/\RS av w X a2 aj c2) (fun s=>μ1 s.1 s.2) (⟨([]:List (Int × Int)),0⟩) ?_ ?_
  ·exact ⟨Z,_,cJ,hS.sl _,hO,h1,h104,h2⟩
  rintro ⟨fo,c7⟩ a zX ⟨Z,A8,hI,hS,hO,h105,h107,h108⟩
  replace hm:=hm fo c7 hI
  clear hI cJ
  refine rPe T hS [] [(14,B (decide (c7 < (lN aj))))] fun a hS=>?_
  refine bh ?_
  refine aI hS (b:=decide (c7 < (lN aj))) kr (fun hb=>?_) fun hb=>?_
  ·replace hm:=hm.1 hb
   refine aO ?_
   refine cb (fun a w=>∃ (Z:Nat->Nat) (X:Nat->Nat) (dx:List (Int × Int)),VC34_J2 I1 μ1 fo c7 dx/\St Tryz.f34.ntmps ⟨[(0,Sl a1 l_ c1),(5,V (.map (some dY))),(11,Sl a2 aj c2),(12,I (lN aj)),(13,I c7)],[]⟩ Z a w X/\Old w0 X0 w X/\RS ar w X a1 l_ c1/\OM kI tI false w X 1011 dY dx/\RS av w X a2 aj c2) ?_ ?_
   ·refine aQ ?_
    refine br ?_
    refine oPe T hS 1 [14] [(15,I c7)] fun a hS=>?_
    obtain ⟨hq,hm⟩:=hm
    refine op1 (index (e:=56) (k:=.i64) T hS kr kr kr kr h108 kr kr hq.1 hq.2 ?_)
    intro ET a h115 hS
    refine op1 (eS T hS kr kr kr h115 kr kr ?_)
    intro v116 a hv hS
    subst hv
    refine eM T hS ⟨[(0,Sl a1 l_ c1),(5,V (.map (some dY))),(6,I c7),(7,Pt 8 0),(11,Sl a2 aj c2),(12,I (lN aj)),(13,I c7)],[(8,(56,(cK (gi aj c7))))]⟩ fun Z a tt yj hS hE hr=>?_
    replace hO:=hO.m2 hE
    replace h105:=h105.m1 hE
    replace h107:=h107.m2 hE
    replace h108:=h108.m1 hE
    clear hE hr
    refine bh ?_
    refine rPe T hS [] [(27,B ((decide (((gi aj c7).Oper) < 0)) || (decide (((gi aj c7).Oper)≥(lN l_)))))] (sp:=[21]) fun a hS=>?_
    refine aI hS (b:=((decide (((gi aj c7).Oper) < 0)) || (decide (((gi aj c7).Oper)≥(lN l_))))) kr (fun hb=>?_) fun hb=>?_
    ·replace hm:=hm.1 hb
     refine cu (by rfl) ?_
     exact ⟨Z,_,fo,hm,hS.sl _,hO,h105,h107,h108⟩
    replace hm:=hm.2 hb
    refine aO ?_
    refine cb (fun a w=>∃ Z X,VC34_J3 aj I1 μ1 fo c7/\St Tryz.f34.ntmps ⟨[(0,Sl a1 l_ c1),(5,V (.map (some dY))),(7,Pt 8 0),(11,Sl a2 aj c2),(12,I (lN aj)),(13,I c7)],[(8,(56,(cK (gi aj c7))))]⟩ Z a w X/\Old w0 X0 w X/\RS ar w X a1 l_ c1/\OM kI tI false w X 1011 dY fo/\RS av w X a2 aj c2) ?_ ?_
    ·refine rPe T hS [27] [(28,Sl a1 l_ c1),(29,I (lN l_)),(30,I 0)] fun a hS=>?_
     refine aQ ?_
     obtain ⟨I2,μ2,cJ,hm⟩:=hm
     refine cH (σ:=Int) (fun s a w=>∃ Z X,I2 s/\St Tryz.f34.ntmps ⟨[(0,Sl a1 l_ c1),(5,V (.map (some dY))),(6,I c7),(7,Pt 8 0),(11,Sl a2 aj c2),(12,I (lN aj)),(13,I c7),(28,Sl a1 l_ c1),(29,I (lN l_)),(30,I s)],[(8,(56,(cK (gi aj c7))))]⟩ Z a w X/\Old w0 X0 w X/\RS ar w X a1 l_ c1/\OM kI tI false w X 1011 dY fo/\RS av w X a2 aj c2/\RS ar w X a1 l_ c1) (fun s=>μ2 s) (0) ?_ ?_
     ·exact ⟨Z,_,cJ,hS.sl _,hO,h105,h107,h108,h105⟩
     rintro eZ a FZ ⟨Z,Hm,hI,hS,hO,h123,h124,h125,h126⟩
     replace hm:=hm eZ hI
     clear hI cJ
     refine rPe T hS [] [(31,B (decide (eZ < (lN l_))))] fun a hS=>?_
     refine bh ?_
     refine aI hS (b:=decide (eZ < (lN l_))) kr (fun hb=>?_) fun hb=>?_
     ·replace hm:=hm.1 hb
      refine aO (bh ?_)
      refine aQ ?_
      refine br ?_
      refine oPe T hS 1 [31] [(32,I eZ)] fun a hS=>?_
      obtain ⟨hq,hm⟩:=hm
      refine op1 (index (e:=102) (k:=.i64) T hS kr kr kr kr h126 kr kr hq.1 hq.2 ?_)
      intro Nv a h129 hS
      refine op1 (eS T hS kr kr kr h129 kr kr ?_)
      intro v130 a hv hS
      subst hv
      refine eM T hS ⟨[(0,Sl a1 l_ c1),(5,V (.map (some dY))),(6,I c7),(7,Pt 8 0),(8,I eZ),(9,Pt 10 0),(11,Sl a2 aj c2),(12,I (lN aj)),(13,I c7),(28,Sl a1 l_ c1),(29,I (lN l_)),(30,I eZ)],[(8,(56,(cK (gi aj c7)))),(10,(102,(cP (gi l_ eZ))))]⟩ fun Z a DL A9 hS hE hr=>?_
      replace hO:=hO.m2 hE
      replace h123:=h123.m1 hE
      replace h124:=h124.m2 hE
      replace h125:=h125.m1 hE
      replace h126:=h126.m1 hE
      clear hE hr
      refine cb (fun a w=>∃ (Z:Nat->Nat) (X:Nat->Nat) (gv:Bool),VC34_J4 Q c7 I2 μ2 eZ gv/\St Tryz.f34.ntmps ⟨[(0,Sl a1 l_ c1),(5,V (.map (some dY))),(6,I c7),(7,Pt 8 0),(11,Sl a2 aj c2),(12,I (lN aj)),(13,I c7),(28,Sl a1 l_ c1),(29,I (lN l_)),(30,I eZ),(47,B gv)],[(8,(56,(cK (gi aj c7))))]⟩ Z a w X/\Old w0 X0 w X/\RS ar w X a1 l_ c1/\OM kI tI false w X 1011 dY fo/\RS av w X a2 aj c2/\RS ar w X a1 l_ c1) ?_ ?_
      ·refine hJ [8,10] mixed hS ?_
       intro tv wS hS hE hD hH
       replace hO:=hO.m2 hE
       replace h123:=h123.m1 hE
       replace h124:=h124.m2 hE
       replace h125:=h125.m1 hE
       replace h126:=h126.m1 hE
       refine tke T [0,1,2,3] [8,10] hS hH #[true,true,true,true,false,false,false,false,false,false,false,false,false] 9 [9] [(35,V (.agg #[.int .i64 ((gi l_ eZ).ah),.int .i64 ((gi l_ eZ).Kind),.int .i64 ((gi l_ eZ).aG),.int .i64 ((gi l_ eZ).End),.int .i64 ((gi l_ eZ).Result)])),(36,Sl a1 l_ c1),(38,I ((gi aj c7).Oper))] fun a hS=>?_
       obtain ⟨hq,hm⟩:=hm
       refine dg (e:=102) (k:=.i64) T 4 hS kr kr kr (by rfl) kr hH kr kr h123 kr kr hq.1 hq.2 ?_
       intro Hr a h139 hS
       have zD:=h139.here
       refine ld T 5 hS kr kr kr (by rfl) kr hH kr h139 zD kr kr ?_
       intro v140 a hv hS
       subst hv
       refine only 6 kr (by rfl) (call hS kr kr hb63 kr (fun _ _=>rfl) (xV _ _ (gi l_ eZ) (gi l_ ((gi aj c7).Oper))) ?_)
       intro v141 a r6 sd hE hp hS
       replace hO:=hO.m2 hE
       replace hD:=hD.ev hE rfl
       replace h123:=h123.m1 hE
       replace h124:=h124.m2 hE
       replace h125:=h125.m1 hE
       replace h126:=h126.m1 hE
       replace h139:=h139.m1 hE
       obtain ⟨gN,hr⟩:∃ r,bf (gi l_ eZ) (gi l_ ((gi aj c7).Oper))=r:=⟨_,rfl⟩
       replace hm:=hm gN hr
       rw [hr] at hp
       clear hr
       subst hp
       replace hS:=hS.sle [] [(41,B gN)]
       refine da (bO.of hS (bks:=[8,10]) kr hD) ?_
       intro hH
       refine tke T [7] [8,10] hS hH #[true,true,true,true,true,true,true,true,false,false,false,false,false] 5 [35,36,38,39,40,41] [(42,B gN)] fun a hS=>?_
       rcases bft gN with hb | hb
       ·replace hS:=hS.lit (t:=42) kr hb
        replace hm:=hm.1 hb
        refine tke T [8,9] [8,10] hS hH #[true,true,true,true,true,true,true,true,true,true,false,false,false] 3 [8] [(43,V (.map (some dY))),(44,I eZ)] fun a hS=>?_
        refine only 10 kr (by rfl) (kd kI tI false (zv:=.int .i64 0) (z:=0) eZ hS kr kr kr kr Tryz.underlying113 Tryz.underlying3 kr rfl h124 ?_)
        intro v145 a hv hS
        replace hv:tI.R _ _ [v145] _:=hv
        cases hv
        refine da (bO.of hS (bks:=[8,10]) kr hD) ?_
        intro hH
        refine tke T [11,12] [8,10] hS hH (tts 13) 0 [42,43,44,45] [(47,B (((aF fo eZ).getD 0) == 0))] fun a hS=>?_
        refine aY kr ?_
        replace hS:=hS.sl ⟨[(0,Sl a1 l_ c1),(5,V (.map (some dY))),(6,I c7),(7,Pt 8 0),(11,Sl a2 aj c2),(12,I (lN aj)),(13,I c7),(28,Sl a1 l_ c1),(29,I (lN l_)),(30,I eZ),(47,B (((aF fo eZ).getD 0) == 0))],[(8,(56,(cK (gi aj c7))))]⟩
        exact ⟨Z,_,(((aF fo eZ).getD 0) == 0),hm,hS.sl _,hO,h123,h124,h125,h126⟩
       replace hS:=hS.lit (t:=42) kr hb
       replace hm:=hm.2 hb
       refine tke T [8,9,10,11,12] [8,10] hS hH (tts 13) 0 [8,42] [(47,B false)] fun a hS=>?_
       refine aY kr ?_
       replace hS:=hS.sl ⟨[(0,Sl a1 l_ c1),(5,V (.map (some dY))),(6,I c7),(7,Pt 8 0),(11,Sl a2 aj c2),(12,I (lN aj)),(13,I c7),(28,Sl a1 l_ c1),(29,I (lN l_)),(30,I eZ),(47,B false)],[(8,(56,(cK (gi aj c7))))]⟩
       exact ⟨Z,_,false,hm,hS.sl _,hO,h123,h124,h125,h126⟩
      rintro a uU ⟨Z,Ba,gv,hm,hS,hO,h131,h132,h133,h134⟩
      unfold VC34_J4 at hm
      refine aI hS (b:=gv) kr (fun hb=>?_) fun hb=>?_
      ·replace hm:=hm.1 hb
       refine rP T hS ⟨[(4,I c7)],[]⟩ fun a hS=>?_
       refine ba ?_
       exact fin T hS hO (fun c=>c) rfl (r:=[.int .i64 c7]) kr (fun X' hM hC=>⟨c7,hm,rfl⟩)
      replace hm:=hm.2 hb
      refine aO ?_
      refine region (ePe T hS [47] [(30,I (wR (eZ+1)))] fun a hS=>?_)
      exact ⟨wR (eZ+1),⟨Z,_,hm.1,hS.sl _,hO,h131,h132,h133,h134⟩,hm.2⟩
     replace hm:=hm.2 hb
     refine cu (by rfl) ?_
     exact ⟨Z,_,hm,hS.sl _,hO,h123,h124,h125⟩
    rintro a Bq ⟨Z,yk,hm,hS,hO,h117,h118,h119⟩
    unfold VC34_J3 at hm
    refine region ?_
    refine oP T hS 3 ⟨[(0,Sl a1 l_ c1),(5,V (.map (some dY))),(11,Sl a2 aj c2),(12,I (lN aj)),(13,I c7),(50,V (.map (some dY))),(52,I ((gi aj c7).Oper))],[]⟩ fun a hS=>?_
    refine op1 (kd kI tI false (zv:=.int .i64 0) (z:=0) ((gi aj c7).Oper) hS kr kr kr kr Tryz.underlying113 Tryz.underlying3 kr rfl h118 ?_)
    intro v120 a hv hS
    replace hv:tI.R _ _ [v120] _:=hv
    cases hv
    refine oPe T hS 1 [53] [(54,I (wR (((aF fo ((gi aj c7).Oper)).getD 0)+1)))] fun a hS=>?_
    refine op1 (ue kI tI false (v:=I (wR (((aF fo ((gi aj c7).Oper)).getD 0)+1))) (u:=wR (((aF fo ((gi aj c7).Oper)).getD 0)+1)) ((gi aj c7).Oper) hS kr kr kr kr Tryz.underlying113 Tryz.underlying3 kr h118 rfl ?_)
    intro a xg hE h122 hS
    clear h118
    replace hO:=hO.m2 hE
    replace h117:=h117.m1 hE
    replace h119:=h119.m1 hE
    refine iy ?_
    exact ⟨Z,_,dp fo ((gi aj c7).Oper) (wR (((aF fo ((gi aj c7).Oper)).getD 0)+1)),hm,hS.sl _,hO,h117,h122,h119⟩
   rintro a zY ⟨Z,Dc,dx,hm,hS,hO,h110,h112,h113⟩
   unfold VC34_J2 at hm
   refine region (ePe T hS [] [(13,I (wR (c7+1)))] fun a hS=>?_)
   exact ⟨⟨dx,wR (c7+1)⟩,⟨Z,_,hm.1,hS.sl _,hO,h110,h112,h113⟩,hm.2⟩
  replace hm:=hm.2 hb
  refine cu (by rfl) ?_
  exact ⟨Z,_,hm,hS.sl _,hO⟩
 rintro a HY ⟨Z,EK,hm,hS,hO⟩
 unfold VC34_J1 at hm
 refine rPe T hS [] [(4,I (-1))] fun a hS=>?_
 refine ba ?_
 exact fin T hS hO (fun c=>c) rfl (r:=[.int .i64 (-1)]) kr (fun X' hM hC=>⟨(-1),hm,rfl⟩)
theorem C34 (xV:S63) (v:∀ (l_:List ab) (aj:List aa),VC34 l_ aj (fun r=>r=cB l_ aj)):S34:=by
 intro w X l_ aj a1 c1 a2 c2   h1 h2
 refine (W34 xV w X l_ aj a1 c1 a2 c2   _ (v l_ aj) h1 h2).mono ?_
 rintro _ _ _ _ ⟨r,rfl,h⟩
 exact h
theorem W106 (w0) (X0) (o_:ab) (Q:Bool->Prop) (hm:VC106 o_ Q) :
  Ret Tryz.prog 106 #[.agg #[.int .i64 o_.ah,.int .i64 o_.Kind,.int .i64 o_.aG,.int .i64 o_.End,.int .i64 o_.Result]] aM w0 X0 (fun w X' v=>∃ r,Q r/\v=.bool r):=by
 unfold VC106 at hm
 refine enter Tryz.func106 rfl (vals:=[.agg #[.int .i64 o_.ah,.int .i64 o_.Kind,.int .i64 o_.aG,.int .i64 o_.End,.int .i64 o_.Result]]) kr ?_
 intro Z a hS hO hM
 refine rM T hS ⟨[(1,Pt 2 0)],[(2,(102,(cP o_)))]⟩ fun Z a oX pE hS hE hr=>?_
 replace hO:=hO.m2 hE
 clear hE hr
 refine bh ?_
 refine rPe T hS [] [(5,B (o_.End == (-1)))] fun a hS=>?_
 refine aI hS (b:=(o_.End == (-1))) kr (fun hb=>?_) fun hb=>?_
 ·replace hm:=hm.1 hb
  refine rP T hS ⟨[(2,B (o_.Result == (-1)))],[]⟩ fun a hS=>?_
  refine ba ?_
  exact fin T hS hO (fun c=>c) rfl (r:=[.bool (o_.Result == (-1))]) kr (fun X' hM hC=>⟨(o_.Result == (-1)),hm,rfl⟩)
 replace hm:=hm.2 hb
 refine aO ?_
 refine rP T hS ⟨[(2,B ((((decide (o_.End > o_.aG)) && (decide (o_.End≤9999))) && (decide (o_.Result≥0))) && (decide (o_.Result≤1000000))))],[]⟩ (sp:=[14,19,24]) fun a hS=>?_
 refine ba ?_
 exact fin T hS hO (fun c=>c) rfl (r:=[.bool ((((decide (o_.End > o_.aG)) && (decide (o_.End≤9999))) && (decide (o_.Result≥0))) && (decide (o_.Result≤1000000)))]) kr (fun X' hM hC=>⟨((((decide (o_.End > o_.aG)) && (decide (o_.End≤9999))) && (decide (o_.Result≥0))) && (decide (o_.Result≤1000000))),hm,rfl⟩)
theorem C106 (v:∀ (o_:ab),VC106 o_ (fun r=>r=eu o_)):S106:=by
 intro w X o_    
 refine (W106 w X o_    _ (v o_)).mono ?_
 rintro _ _ _ _ ⟨r,rfl,h⟩
 exact h
theorem W95 (GF:S106) (w0) (X0) (o_:ab) (Q:Int->Prop) (hm:VC95 o_ Q) :
  Ret Tryz.prog 95 #[.agg #[.int .i64 o_.ah,.int .i64 o_.Kind,.int .i64 o_.aG,.int .i64 o_.End,.int .i64 o_.Result]] aM w0 X0 (fun w X' v=>∃ r,Q r/\v=.int .i64 r):=by
 unfold VC95 at hm
 refine enter Tryz.func95 rfl (vals:=[.agg #[.int .i64 o_.ah,.int .i64 o_.Kind,.int .i64 o_.aG,.int .i64 o_.End,.int .i64 o_.Result]]) kr ?_
 intro Z a hS hO hM
 refine rM T hS ⟨[(1,Pt 2 0)],[(2,(102,(cP o_)))]⟩ fun Z a nA mh hS hE hr=>?_
 replace hO:=hO.m2 hE
 clear hE hr
 refine bh ?_
 refine aQ ?_
 refine rPe T hS [] [(3,B ((((decide (o_.ah < 1)) || (decide (o_.ah > 1000))) || (decide (o_.aG < 0))) || (decide (o_.aG > 9999))))] (sp:=[7,12,17]) fun a hS=>?_
 refine aI hS (b:=((((decide (o_.ah < 1)) || (decide (o_.ah > 1000))) || (decide (o_.aG < 0))) || (decide (o_.aG > 9999)))) kr (fun hb=>?_) fun hb=>?_
 ·replace hm:=hm.1 hb
  refine rP T hS ⟨[(2,I 2)],[]⟩ fun a hS=>?_
  refine ba ?_
  exact fin T hS hO (fun c=>c) rfl (r:=[.int .i64 2]) kr (fun X' hM hC=>⟨2,hm,rfl⟩)
 replace hm:=hm.2 hb
 refine rPe T hS [3] [(22,B ((decide (o_.Kind < 0)) || (decide (o_.Kind≥64))))] (sp:=[26]) fun a hS=>?_
 refine aI hS (b:=((decide (o_.Kind < 0)) || (decide (o_.Kind≥64)))) kr (fun hb=>?_) fun hb=>?_
 ·replace hm:=hm.1 hb
  refine rP T hS ⟨[(2,I 31)],[]⟩ fun a hS=>?_
  refine ba ?_
  exact fin T hS hO (fun c=>c) rfl (r:=[.int .i64 31]) kr (fun X' hM hC=>⟨31,hm,rfl⟩)
 replace hm:=hm.2 hb
 refine br ?_
 refine oP T hS 1 ⟨[(32,V (.agg #[.int .i64 o_.ah,.int .i64 o_.Kind,.int .i64 o_.aG,.int .i64 o_.End,.int .i64 o_.Result]))],[]⟩ fun a hS=>?_
 refine op1 (call hS kr kr hb106 kr (fun _ _=>rfl) (GF _ _ o_) ?_)
 intro v101 a fH fK hE hp hS
 replace hO:=hO.m2 hE
 obtain ⟨ay,hr⟩:∃ r,eu o_=r:=⟨_,rfl⟩
 replace hm:=hm ay hr
 rw [hr] at hp
 clear hr
 subst hp
 refine ePe T hS [32,33] [(31,B (!ay))] fun a hS=>?_
 refine aI hS (b:=(!ay)) kr (fun hb=>?_) fun hb=>?_
 ·replace hm:=hm.1 hb
  refine rPe T hS [31] [(2,I 7)] fun a hS=>?_
  refine ba ?_
  exact fin T hS hO (fun c=>c) rfl (r:=[.int .i64 7]) kr (fun X' hM hC=>⟨7,hm,rfl⟩)
 replace hm:=hm.2 hb
 refine aO ?_
 refine rPe T hS [31] [(2,I 0)] fun a hS=>?_
 refine ba ?_
 exact fin T hS hO (fun c=>c) rfl (r:=[.int .i64 0]) kr (fun X' hM hC=>⟨0,hm,rfl⟩)
theorem C95 (GF:S106) (v:∀ (o_:ab),VC95 o_ (fun r=>r=dk o_)):S95:=by
 intro w X o_    
 refine (W95 GF w X o_    _ (v o_)).mono ?_
 rintro _ _ _ _ ⟨r,rfl,h⟩
 exact h
theorem W80 (xV:S63) (K6:S95) (w0) (X0) (l_:List ab) (a1) (c1) (Q:Int × Int->Prop) (hm:VC80 l_ Q) (h1:RS ar w0 X0 a1 l_ c1) :
  Ret Tryz.prog 80 #[.slice a1 l_.length c1] aM w0 X0 (fun w X' v=>∃ r,Q r/\v=.tuple #[.int .i64 r.1,.int .i64 r.2]):=by
 unfold VC80 at hm
 replace hm:=hm (h1.sm kr)
 refine enter Tryz.func80 rfl (vals:=[.slice a1 l_.length c1]) kr ?_
 intro Z a hS hO hM
 replace h1:=h1.m0 hM
 refine rPe T hS [] [] fun a hS=>?_
 refine bh ?_
 refine rPe T hS [] [(13,B (decide ((lN l_) > 5000)))] fun a hS=>?_
 refine aI hS (b:=decide ((lN l_) > 5000)) kr (fun hb=>?_) fun hb=>?_
 ·replace hm:=hm.1 hb
  refine rPe T hS [0,13] [(2,I 0),(3,I 3)] fun a hS=>?_
  refine ba ?_
  exact fin T hS hO (fun c=>c) rfl (r:=[.int .i64 0,.int .i64 3]) kr (fun X' hM hC=>⟨(0,3),hm,rfl⟩)
 replace hm:=hm.2 hb
 refine aO ?_
 refine br ?_
 refine op1 (pM kI tI false 1015 hS kr kr ?_)
 intro dY a fH fK hE h104 hS
 replace hO:=hO.m2 hE
 replace h1:=h1.m1 hE
 refine ePe T hS [13,14] [(4,V (.map (some dY)))] fun a hS=>?_
 refine br ?_
 refine op1 (pM kI ar true 1016 hS kr kr ?_)
 intro jk a n6 n2 hE h108 hS
 replace hO:=hO.m2 hE
 replace h1:=h1.m1 hE
 replace h104:=h104.m2 hE
 refine ePe T hS [15] [(5,V (.map (some jk)))] fun a hS=>?_
 refine cb (fun a w=>∃ Z X,VC80_J1 l_ Q/\St Tryz.f80.ntmps ⟨[(0,Sl a1 l_ c1)],[]⟩ Z a w X/\Old w0 X0 w X/\RS ar w X a1 l_ c1) ?_ ?_
 ·refine rPe T hS [] [(16,Sl a1 l_ c1),(17,I (lN l_)),(18,I 0)] fun a hS=>?_
  refine aQ ?_
  obtain ⟨I1,μ1,cJ,hm⟩:=hm
  refine cH (σ:=(List (Int × Int)) × (List (Int × ab)) × Int) (fun s a w=>∃ Z X,I1 s.1 s.2.1 s.2.2/\St Tryz.f80.ntmps ⟨[(0,Sl a1 l_ c1),(4,V (.map (some dY))),(5,V (.map (some jk))),(16,Sl a1 l_ c1),(17,I (lN l_)),(18,I s.2.2)],[]⟩ Z a w X/\Old w0 X0 w X/\RS ar w X a1 l_ c1/\OM kI tI false w X 1015 dY s.1/\OM kI ar true w X 1016 jk s.2.1/\RS ar w X a1 l_ c1) (fun s=>μ1 s.1 s.2.1 s.2.2) (⟨([]:List (Int × Int)),([]:List (Int × ab)),0⟩) ?_ ?_
  ·exact ⟨Z,_,cJ,hS.sl _,hO,h1,h104,h108,h1⟩
  rintro ⟨dx,bg,a9⟩ a HU ⟨Z,JX,hI,hS,hO,h110,h112,h114,h115⟩
  replace hm:=hm dx bg a9 hI
  clear hI cJ
  refine rPe T hS [] [(19,B (decide (a9 < (lN l_))))] fun a hS=>?_
  refine bh ?_
  refine aI hS (b:=decide (a9 < (lN l_))) kr (fun hb=>?_) fun hb=>?_
  ·replace hm:=hm.1 hb
   refine aO ?_
   refine cb (fun a w=>∃ (Z:Nat->Nat) (X:Nat->Nat) (jJ:List (Int × Int)),VC80_J2 l_ I1 μ1 dx bg a9 jJ/\St Tryz.f80.ntmps ⟨[(0,Sl a1 l_ c1),(4,V (.map (some dY))),(5,V (.map (some jk))),(16,Sl a1 l_ c1),(17,I (lN l_)),(18,I a9)],[]⟩ Z a w X/\Old w0 X0 w X/\RS ar w X a1 l_ c1/\OM kI tI false w X 1015 dY jJ/\OM kI ar true w X 1016 jk (dp bg ((gi l_ a9).ah) (gi l_ a9))/\RS ar w X a1 l_ c1) ?_ ?_
   ·refine aQ ?_
    refine br ?_
    refine oPe T hS 1 [19] [(20,I a9)] fun a hS=>?_
    obtain ⟨hq,hm⟩:=hm
    refine op1 (index (e:=102) (k:=.i64) T hS kr kr kr kr h115 kr kr hq.1 hq.2 ?_)
    intro Dl a h123 hS
    refine op1 (eS T hS kr kr kr h123 kr kr ?_)
    intro v124 a hv hS
    subst hv
    refine eM T hS ⟨[(0,Sl a1 l_ c1),(4,V (.map (some dY))),(5,V (.map (some jk))),(6,I a9),(7,Pt 8 0),(16,Sl a1 l_ c1),(17,I (lN l_)),(18,I a9)],[(8,(102,(cP (gi l_ a9))))]⟩ fun Z a KK Rq hS hE hr=>?_
    replace hO:=hO.m2 hE
    replace h110:=h110.m1 hE
    replace h112:=h112.m2 hE
    replace h114:=h114.m2 hE
    replace h115:=h115.m1 hE
    clear hE hr
    refine bh ?_
    refine br ?_
    refine oPe T hS 1 [] [(23,V (.agg #[.int .i64 ((gi l_ a9).ah),.int .i64 ((gi l_ a9).Kind),.int .i64 ((gi l_ a9).aG),.int .i64 ((gi l_ a9).End),.int .i64 ((gi l_ a9).Result)]))] fun a hS=>?_
    refine op1 (call hS kr kr hb95 kr (fun _ _=>rfl) (K6 _ _ (gi l_ a9)) ?_)
    intro v125 a uW rT hE hp hS
    replace hO:=hO.m2 hE
    replace h110:=h110.m1 hE
    replace h112:=h112.m2 hE
    replace h114:=h114.m2 hE
    replace h115:=h115.m1 hE
    obtain ⟨bU,hr⟩:∃ r,dk (gi l_ a9)=r:=⟨_,rfl⟩
    replace hm:=hm bU hr
    rw [hr] at hp
    clear hr
    subst hp
    refine ePe T hS [23,24] [(8,I bU)] fun a hS=>?_
    refine rPe T hS [] [(26,B (bU != 0))] fun a hS=>?_
    refine aI hS (b:=(bU != 0)) kr (fun hb=>?_) fun hb=>?_
    ·replace hm:=hm.1 hb
     refine rP T hS ⟨[(2,I a9),(3,I bU)],[]⟩ fun a hS=>?_
     refine ba ?_
     exact fin T hS hO (fun c=>c) rfl (r:=[.int .i64 a9,.int .i64 bU]) kr (fun X' hM hC=>⟨(a9,bU),hm,rfl⟩)
    replace hm:=hm.2 hb
    refine aO (bh ?_)
    refine cb (fun a w=>∃ (Z:Nat->Nat) (X:Nat->Nat) (mV:Bool),VC80_J3 l_ Q I1 μ1 dx bg a9 mV/\St Tryz.f80.ntmps ⟨[(0,Sl a1 l_ c1),(4,V (.map (some dY))),(5,V (.map (some jk))),(6,I a9),(7,Pt 8 0),(16,Sl a1 l_ c1),(17,I (lN l_)),(18,I a9),(60,B mV)],[(8,(102,(cP (gi l_ a9))))]⟩ Z a w X/\Old w0 X0 w X/\RS ar w X a1 l_ c1/\OM kI tI false w X 1015 dY dx/\OM kI ar true w X 1016 jk bg/\RS ar w X a1 l_ c1) ?_ ?_
    ·refine hJ [8] mixed hS ?_
     intro HZ EM hS hE hD hH
     replace hO:=hO.m2 hE
     replace h110:=h110.m1 hE
     replace h112:=h112.m2 hE
     replace h114:=h114.m2 hE
     replace h115:=h115.m1 hE
     refine tke T [0,1,2] [8] hS hH #[true,true,true,false,false,false,false,false,false,false,false,false,false,false,false,false,false,false,false,false,false,false,false,false,false,false,false,false,false,false,false,false] 29 [] [(31,B (decide (a9 > 0)))] fun a hS=>?_
     rcases bft (decide (a9 > 0)) with hb | hb
     ·replace hS:=hS.lit (t:=31) kr hb
      replace hm:=hm.1 hb
      refine tke T [3,5,6,4,7] [8] hS hH #[true,true,true,true,true,true,true,true,false,false,false,false,false,false,false,false,false,false,false,false,false,false,false,false,false,false,false,false,false,false,false,false] 24 [] [(33,I ((gi l_ a9).aG)),(34,Sl a1 l_ c1),(36,I (wR (a9 - 1)))] fun a hS=>?_
      obtain ⟨hq,hm⟩:=hm
      refine dg (e:=102) (k:=.i64) T 8 hS kr kr kr (by rfl) kr hH kr kr h110 kr kr hq.1 hq.2 ?_
      intro R9 a h159 hS
      have I7:=h159.here
      refine dt (off:=2) (fsz:=1) (ft:=3) (TF:=tI) (y:=(gi l_ (wR (a9 - 1))).aG) 9 T hS kr kr kr (by rfl) kr hH kr h159 kr kr kr (fun cs h=>pW h) ?_
      intro R8 a h161 fO hS
      have FG:=I7
      rw [← fO] at FG
      clear fO
      refine dQ T 10 hS kr kr kr (by rfl) kr hH kr h161 FG rfl kr ?_
      intro v162 a hv hS
      cases hv
      refine tke T [11,12,13] [8] hS hH #[true,true,true,true,true,true,true,true,true,true,true,true,true,true,false,false,false,false,false,false,false,false,false,false,false,false,false,false,false,false,false,false] 18 [31,33,34,36,37,38,39] [(42,B (decide (((gi l_ a9).aG)≤((gi l_ (wR (a9 - 1))).aG))))] fun a hS=>?_
      rcases bft (decide (((gi l_ a9).aG)≤((gi l_ (wR (a9 - 1))).aG))) with hb | hb
      ·replace hS:=hS.lit (t:=42) kr hb
       replace hm:=hm.1 hb
       refine tke T [14,15,16,17,18,19,20,21,22,23,24,25,26,27,28,29,30,31] [8] hS hH (tts 32) 0 [42] [(60,B true)] fun a hS=>?_
       refine aY kr ?_
       replace hS:=hS.sle [] []
       exact ⟨Z,_,true,hm,hS.sl _,hO,h110,h112,h114,h115⟩
      replace hS:=hS.lit (t:=42) kr hb
      replace hm:=hm.2 hb
      refine tke T [14,15,16] [8] hS hH #[true,true,true,true,true,true,true,true,true,true,true,true,true,true,true,true,true,false,false,false,false,false,false,false,false,false,false,false,false,false,false,false] 15 [] [(43,V (.map (some dY))),(45,I ((gi l_ a9).aG))] fun a hS=>?_
      refine only 17 kr (by rfl) (kd kI tI false (zv:=.int .i64 0) (z:=0) ((gi l_ a9).aG) hS kr kr kr kr Tryz.underlying113 Tryz.underlying3 kr rfl h112 ?_)
      intro v163 a hv hS
      replace hv:tI.R _ _ [v163] _:=hv
      cases hv
      refine da (bO.of hS (bks:=[8]) kr hD) ?_
      intro hH
      refine tke T [18,19,20] [8] hS hH #[true,true,true,true,true,true,true,true,true,true,true,true,true,true,true,true,true,true,true,true,true,false,false,false,false,false,false,false,false,false,false,false] 11 [42,43,45,46] [(49,B (decide (((aF dx ((gi l_ a9).aG)).getD 0) > 0)))] fun a hS=>?_
      rcases bft (decide (((aF dx ((gi l_ a9).aG)).getD 0) > 0)) with hb | hb
      ·replace hS:=hS.lit (t:=49) kr hb
       replace hm:=hm.1 hb
       refine tke T [21,22,23,24,25,26,27,28,29,30,31] [8] hS hH (tts 32) 0 [49] [(60,B true)] fun a hS=>?_
       refine aY kr ?_
       replace hS:=hS.sle [] []
       exact ⟨Z,_,true,hm,hS.sl _,hO,h110,h112,h114,h115⟩
      replace hS:=hS.lit (t:=49) kr hb
      replace hm:=hm.2 hb
      refine tke T [21,22,23,24] [8] hS hH #[true,true,true,true,true,true,true,true,true,true,true,true,true,true,true,true,true,true,true,true,true,true,true,true,true,false,false,false,false,false,false,false] 7 [] [(53,B (decide (((gi l_ a9).End)≥0)))] fun a hS=>?_
      rcases bft (decide (((gi l_ a9).End)≥0)) with hb | hb
      ·replace hS:=hS.lit (t:=53) kr hb
       replace hm:=hm.1 hb
       refine tke T [25,26,27] [8] hS hH #[true,true,true,true,true,true,true,true,true,true,true,true,true,true,true,true,true,true,true,true,true,true,true,true,true,true,true,true,false,false,false,false] 4 [] [(54,V (.map (some dY))),(56,I ((gi l_ a9).End))] fun a hS=>?_
       refine only 28 kr (by rfl) (kd kI tI false (zv:=.int .i64 0) (z:=0) ((gi l_ a9).End) hS kr kr kr kr Tryz.underlying113 Tryz.underlying3 kr rfl h112 ?_)
       intro v164 a hv hS
       replace hv:tI.R _ _ [v164] _:=hv
       cases hv
       refine da (bO.of hS (bks:=[8]) kr hD) ?_
       intro hH
       refine tke T [29,30,31] [8] hS hH (tts 32) 0 [49,53,54,56,57] [(60,B (decide (((aF dx ((gi l_ a9).End)).getD 0) > 0)))] fun a hS=>?_
       refine aY kr ?_
       replace hS:=hS.sle [] []
       exact ⟨Z,_,decide (((aF dx ((gi l_ a9).End)).getD 0) > 0),hm,hS.sl _,hO,h110,h112,h114,h115⟩
      replace hS:=hS.lit (t:=53) kr hb
      replace hm:=hm.2 hb
      refine tke T [25,26,27,28,29,30,31] [8] hS hH (tts 32) 0 [49,53] [(60,B false)] fun a hS=>?_
      refine aY kr ?_
      replace hS:=hS.sle [] []
      exact ⟨Z,_,false,hm,hS.sl _,hO,h110,h112,h114,h115⟩
     replace hS:=hS.lit (t:=31) kr hb
     replace hm:=hm.2 hb
     refine tke T [3,5,6,4,7,8,9,10,11,12,13,14,15,16] [8] hS hH #[true,true,true,true,true,true,true,true,true,true,true,true,true,true,true,true,true,false,false,false,false,false,false,false,false,false,false,false,false,false,false,false] 15 [31] [(42,B false),(43,V (.map (some dY))),(45,I ((gi l_ a9).aG))] fun a hS=>?_
     refine only 17 kr (by rfl) (kd kI tI false (zv:=.int .i64 0) (z:=0) ((gi l_ a9).aG) hS kr kr kr kr Tryz.underlying113 Tryz.underlying3 kr rfl h112 ?_)
     intro v165 a hv hS
     replace hv:tI.R _ _ [v165] _:=hv
     cases hv
     refine da (bO.of hS (bks:=[8]) kr hD) ?_
     intro hH
     refine tke T [18,19,20] [8] hS hH #[true,true,true,true,true,true,true,true,true,true,true,true,true,true,true,true,true,true,true,true,true,false,false,false,false,false,false,false,false,false,false,false] 11 [42,43,45,46] [(49,B (decide (((aF dx ((gi l_ a9).aG)).getD 0) > 0)))] fun a hS=>?_
     rcases bft (decide (((aF dx ((gi l_ a9).aG)).getD 0) > 0)) with hb | hb
     ·replace hS:=hS.lit (t:=49) kr hb
      replace hm:=hm.1 hb
      refine tke T [21,22,23,24,25,26,27,28,29,30,31] [8] hS hH (tts 32) 0 [49] [(60,B true)] fun a hS=>?_
      refine aY kr ?_
      replace hS:=hS.sle [] []
      exact ⟨Z,_,true,hm,hS.sl _,hO,h110,h112,h114,h115⟩
     replace hS:=hS.lit (t:=49) kr hb
     replace hm:=hm.2 hb
     refine tke T [21,22,23,24] [8] hS hH #[true,true,true,true,true,true,true,true,true,true,true,true,true,true,true,true,true,true,true,true,true,true,true,true,true,false,false,false,false,false,false,false] 7 [] [(53,B (decide (((gi l_ a9).End)≥0)))] fun a hS=>?_
     rcases bft (decide (((gi l_ a9).End)≥0)) with hb | hb
     ·replace hS:=hS.lit (t:=53) kr hb
      replace hm:=hm.1 hb
      refine tke T [25,26,27] [8] hS hH #[true,true,true,true,true,true,true,true,true,true,true,true,true,true,true,true,true,true,true,true,true,true,true,true,true,true,true,true,false,false,false,false] 4 [] [(54,V (.map (some dY))),(56,I ((gi l_ a9).End))] fun a hS=>?_
      refine only 28 kr (by rfl) (kd kI tI false (zv:=.int .i64 0) (z:=0) ((gi l_ a9).End) hS kr kr kr kr Tryz.underlying113 Tryz.underlying3 kr rfl h112 ?_)
      intro v166 a hv hS
      replace hv:tI.R _ _ [v166] _:=hv
      cases hv
      refine da (bO.of hS (bks:=[8]) kr hD) ?_
      intro hH
      refine tke T [29,30,31] [8] hS hH (tts 32) 0 [49,53,54,56,57] [(60,B (decide (((aF dx ((gi l_ a9).End)).getD 0) > 0)))] fun a hS=>?_
      refine aY kr ?_
      replace hS:=hS.sle [] []
      exact ⟨Z,_,decide (((aF dx ((gi l_ a9).End)).getD 0) > 0),hm,hS.sl _,hO,h110,h112,h114,h115⟩
     replace hS:=hS.lit (t:=53) kr hb
     replace hm:=hm.2 hb
     refine tke T [25,26,27,28,29,30,31] [8] hS hH (tts 32) 0 [49,53] [(60,B false)] fun a hS=>?_
     refine aY kr ?_
     replace hS:=hS.sle [] []
     exact ⟨Z,_,false,hm,hS.sl _,hO,h110,h112,h114,h115⟩
    rintro a DG ⟨Z,Hj,mV,hm,hS,hO,h129,h130,h131,h132⟩
    unfold VC80_J3 at hm
    refine aI hS (b:=mV) kr (fun hb=>?_) fun hb=>?_
    ·replace hm:=hm.1 hb
     refine rP T hS ⟨[(2,I a9),(3,I 32)],[]⟩ fun a hS=>?_
     refine ba ?_
     exact fin T hS hO (fun c=>c) rfl (r:=[.int .i64 a9,.int .i64 32]) kr (fun X' hM hC=>⟨(a9,32),hm,rfl⟩)
    replace hm:=hm.2 hb
    refine aO (bh ?_)
    refine br ?_
    refine oPe T hS 3 [60] [(63,V (.map (some jk))),(65,I ((gi l_ a9).ah))] fun a hS=>?_
    refine op1 (Gk kI ar true (zv:=.agg #[.int .i64 0,.int .i64 0,.int .i64 0,.int .i64 0,.int .i64 0]) (z:=(⟨0,0,0,0,0⟩:ab)) ((gi l_ a9).ah) hS kr kr kr kr Tryz.underlying153 Tryz.underlying3 kr ⟨_,rfl,rfl⟩ h131 ?_)
    intro v134 a hv hS
    obtain ⟨_,rfl,hv⟩:=hv
    cases hv
    refine eM T hS ⟨[(0,Sl a1 l_ c1),(4,V (.map (some dY))),(5,V (.map (some jk))),(6,I a9),(7,Pt 8 0),(9,Pt 10 0),(10,B ((aF bg ((gi l_ a9).ah)).isSome)),(16,Sl a1 l_ c1),(17,I (lN l_)),(18,I a9)],[(8,(102,(cP (gi l_ a9)))),(10,(102,(cP ((aF bg ((gi l_ a9).ah)).getD (⟨0,0,0,0,0⟩:ab)))))]⟩ fun Z a tt yj hS hE hr=>?_
    replace hO:=hO.m2 hE
    replace h129:=h129.m1 hE
    replace h130:=h130.m2 hE
    replace h131:=h131.m2 hE
    replace h132:=h132.m1 hE
    clear hE hr
    refine cb (fun a w=>∃ (Z:Nat->Nat) (X:Nat->Nat) (jI:Bool),VC80_J4 l_ Q I1 μ1 dx bg a9 jI/\St Tryz.f80.ntmps ⟨[(0,Sl a1 l_ c1),(4,V (.map (some dY))),(5,V (.map (some jk))),(6,I a9),(7,Pt 8 0),(16,Sl a1 l_ c1),(17,I (lN l_)),(18,I a9),(75,B jI)],[(8,(102,(cP (gi l_ a9))))]⟩ Z a w X/\Old w0 X0 w X/\RS ar w X a1 l_ c1/\OM kI tI false w X 1015 dY dx/\OM kI ar true w X 1016 jk bg/\RS ar w X a1 l_ c1) ?_ ?_
    ·refine region ?_
     refine oPe T hS 2 [10] [(70,B ((aF bg ((gi l_ a9).ah)).isSome))] fun a hS=>?_
     rcases bft ((aF bg ((gi l_ a9).ah)).isSome) with hb | hb
     ·replace hS:=hS.lit (t:=70) kr hb
      replace hm:=hm.1 hb
      refine oP T hS 2 ⟨[(0,Sl a1 l_ c1),(4,V (.map (some dY))),(5,V (.map (some jk))),(6,I a9),(7,Pt 8 0),(16,Sl a1 l_ c1),(17,I (lN l_)),(18,I a9),(70,B true),(71,V (.agg #[.int .i64 (((aF bg ((gi l_ a9).ah)).getD (⟨0,0,0,0,0⟩:ab)).ah),.int .i64 (((aF bg ((gi l_ a9).ah)).getD (⟨0,0,0,0,0⟩:ab)).Kind),.int .i64 (((aF bg ((gi l_ a9).ah)).getD (⟨0,0,0,0,0⟩:ab)).aG),.int .i64 (((aF bg ((gi l_ a9).ah)).getD (⟨0,0,0,0,0⟩:ab)).End),.int .i64 (((aF bg ((gi l_ a9).ah)).getD (⟨0,0,0,0,0⟩:ab)).Result)])),(72,V (.agg #[.int .i64 ((gi l_ a9).ah),.int .i64 ((gi l_ a9).Kind),.int .i64 ((gi l_ a9).aG),.int .i64 ((gi l_ a9).End),.int .i64 ((gi l_ a9).Result)]))],[(8,(102,(cP (gi l_ a9))))]⟩ fun a hS=>?_
      refine op1 (call hS kr kr hb63 kr (fun _ _=>rfl) (xV _ _ ((aF bg ((gi l_ a9).ah)).getD (⟨0,0,0,0,0⟩:ab)) (gi l_ a9)) ?_)
      intro v148 a F0 Hm hE hp hS
      replace hO:=hO.m2 hE
      replace h129:=h129.m1 hE
      replace h130:=h130.m2 hE
      replace h131:=h131.m2 hE
      replace h132:=h132.m1 hE
      obtain ⟨o5,hr⟩:∃ r,bf ((aF bg ((gi l_ a9).ah)).getD (⟨0,0,0,0,0⟩:ab)) (gi l_ a9)=r:=⟨_,rfl⟩
      replace hm:=hm o5 hr
      rw [hr] at hp
      clear hr
      subst hp
      refine ePe T hS [70,71,72,73] [(75,B (!o5))] fun a hS=>?_
      exact ⟨Z,_,(!o5),hm,hS.sl _,hO,h129,h130,h131,h132⟩
     replace hS:=hS.lit (t:=70) kr hb
     replace hm:=hm.2 hb
     refine eP T hS ⟨[(0,Sl a1 l_ c1),(4,V (.map (some dY))),(5,V (.map (some jk))),(6,I a9),(7,Pt 8 0),(16,Sl a1 l_ c1),(17,I (lN l_)),(18,I a9),(75,B false)],[(8,(102,(cP (gi l_ a9))))]⟩ fun a hS=>?_
     exact ⟨Z,_,false,hm,hS.sl _,hO,h129,h130,h131,h132⟩
    rintro a Bq ⟨Z,yk,jI,hm,hS,hO,h135,h136,h137,h138⟩
    unfold VC80_J4 at hm
    refine aI hS (b:=jI) kr (fun hb=>?_) fun hb=>?_
    ·replace hm:=hm.1 hb
     refine rP T hS ⟨[(2,I a9),(3,I 33)],[]⟩ fun a hS=>?_
     refine ba ?_
     exact fin T hS hO (fun c=>c) rfl (r:=[.int .i64 a9,.int .i64 33]) kr (fun X' hM hC=>⟨(a9,33),hm,rfl⟩)
    replace hm:=hm.2 hb
    refine aO ?_
    refine br ?_
    refine oPe T hS 3 [6,75] [(77,V (.map (some dY))),(79,I ((gi l_ a9).aG))] fun a hS=>?_
    refine op1 (kd kI tI false (zv:=.int .i64 0) (z:=0) ((gi l_ a9).aG) hS kr kr kr kr Tryz.underlying113 Tryz.underlying3 kr rfl h136 ?_)
    intro v140 a hv hS
    replace hv:tI.R _ _ [v140] _:=hv
    cases hv
    refine oPe T hS 1 [80] [(81,I (wR (((aF dx ((gi l_ a9).aG)).getD 0)+1)))] fun a hS=>?_
    refine op1 (ue kI tI false (v:=I (wR (((aF dx ((gi l_ a9).aG)).getD 0)+1))) (u:=wR (((aF dx ((gi l_ a9).aG)).getD 0)+1)) ((gi l_ a9).aG) hS kr kr kr kr Tryz.underlying113 Tryz.underlying3 kr h136 rfl ?_)
    intro a Pe hE h142 hS
    clear h136
    replace hO:=hO.m2 hE
    replace h135:=h135.m1 hE
    replace h137:=h137.m2 hE
    replace h138:=h138.m1 hE
    refine iy ?_
    refine br ?_
    refine oPe T hS 4 [] [(82,V (.map (some jk))),(84,I ((gi l_ a9).ah)),(85,V (.agg #[.int .i64 ((gi l_ a9).ah),.int .i64 ((gi l_ a9).Kind),.int .i64 ((gi l_ a9).aG),.int .i64 ((gi l_ a9).End),.int .i64 ((gi l_ a9).Result)]))] fun a hS=>?_
    refine op1 (ue kI ar true (v:=V (.agg #[.int .i64 ((gi l_ a9).ah),.int .i64 ((gi l_ a9).Kind),.int .i64 ((gi l_ a9).aG),.int .i64 ((gi l_ a9).End),.int .i64 ((gi l_ a9).Result)])) (u:=(gi l_ a9)) ((gi l_ a9).ah) hS kr kr kr kr Tryz.underlying153 Tryz.underlying3 kr h137 ⟨_,rfl,rfl⟩ ?_)
    intro a H3 hE h144 hS
    clear h137
    replace hO:=hO.m2 hE
    replace h135:=h135.m1 hE
    replace h138:=h138.m1 hE
    replace h142:=h142.m2 hE
    refine iy ?_
    refine rPe T hS [] [(88,B (decide (((gi l_ a9).End)≥0)))] fun a hS=>?_
    refine aI hS (b:=decide (((gi l_ a9).End)≥0)) kr (fun hb=>?_) fun hb=>?_
    ·replace hm:=hm.1 hb
     refine region ?_
     refine oP T hS 3 ⟨[(0,Sl a1 l_ c1),(4,V (.map (some dY))),(5,V (.map (some jk))),(16,Sl a1 l_ c1),(17,I (lN l_)),(18,I a9),(89,V (.map (some dY))),(91,I ((gi l_ a9).End))],[]⟩ fun a hS=>?_
     refine op1 (kd kI tI false (zv:=.int .i64 0) (z:=0) ((gi l_ a9).End) hS kr kr kr kr Tryz.underlying113 Tryz.underlying3 kr rfl h142 ?_)
     intro v145 a hv hS
     replace hv:tI.R _ _ [v145] _:=hv
     cases hv
     refine oPe T hS 1 [92] [(93,I (wR (((aF (dp dx ((gi l_ a9).aG) (wR (((aF dx ((gi l_ a9).aG)).getD 0)+1))) ((gi l_ a9).End)).getD 0)+1)))] fun a hS=>?_
     refine op1 (ue kI tI false (v:=I (wR (((aF (dp dx ((gi l_ a9).aG) (wR (((aF dx ((gi l_ a9).aG)).getD 0)+1))) ((gi l_ a9).End)).getD 0)+1))) (u:=wR (((aF (dp dx ((gi l_ a9).aG) (wR (((aF dx ((gi l_ a9).aG)).getD 0)+1))) ((gi l_ a9).End)).getD 0)+1)) ((gi l_ a9).End) hS kr kr kr kr Tryz.underlying113 Tryz.underlying3 kr h142 rfl ?_)
     intro a DM hE h147 hS
     clear h142
     replace hO:=hO.m2 hE
     replace h135:=h135.m1 hE
     replace h138:=h138.m1 hE
     replace h144:=h144.m2 hE
     refine iy ?_
     exact ⟨Z,_,dp (dp dx ((gi l_ a9).aG) (wR (((aF dx ((gi l_ a9).aG)).getD 0)+1))) ((gi l_ a9).End) (wR (((aF (dp dx ((gi l_ a9).aG) (wR (((aF dx ((gi l_ a9).aG)).getD 0)+1))) ((gi l_ a9).End)).getD 0)+1)),hm,hS.sl _,hO,h135,h147,h144,h138⟩
    replace hm:=hm.2 hb
    refine aO ?_
    exact ⟨Z,_,dp dx ((gi l_ a9).aG) (wR (((aF dx ((gi l_ a9).aG)).getD 0)+1)),hm,hS.sl _,hO,h135,h142,h144,h138⟩
   rintro a HV ⟨Z,Nf,jJ,hm,hS,hO,h117,h119,h120,h121⟩
   unfold VC80_J2 at hm
   refine region (ePe T hS [] [(18,I (wR (a9+1)))] fun a hS=>?_)
   exact ⟨⟨jJ,dp bg ((gi l_ a9).ah) (gi l_ a9),wR (a9+1)⟩,⟨Z,_,hm.1,hS.sl _,hO,h117,h119,h120,h121⟩,hm.2⟩
  replace hm:=hm.2 hb
  refine cu (by rfl) ?_
  exact ⟨Z,_,hm,hS.sl _,hO,h110⟩
 rintro a Pc ⟨Z,Nd,hm,hS,hO,h109⟩
 unfold VC80_J1 at hm
 refine rPe T hS [0] [(2,I (lN l_)),(3,I 0)] fun a hS=>?_
 refine ba ?_
 exact fin T hS hO (fun c=>c) rfl (r:=[.int .i64 (lN l_),.int .i64 0]) kr (fun X' hM hC=>⟨((lN l_),0),hm,rfl⟩)
theorem C80 (xV:S63) (K6:S95) (v:∀ (l_:List ab),VC80 l_ (fun r=>r=cn l_)):S80:=by
 intro w X l_ a1 c1   h1
 refine (W80 xV K6 w X l_ a1 c1   _ (v l_) h1).mono ?_
 rintro _ _ _ _ ⟨r,rfl,h⟩
 exact h
theorem W51 (Gy:S33) (Gx:S34) (Gw:S35) (ui:S53) (Gp:S80) (w0) (X0) (o_:ao) (l_:List ab) (aj:List aa) (a1) (c1) (a2) (c2) (a3) (c3) (Q:Int × Int->Prop) (hm:VC51 o_ l_ aj Q) (h1:RS aB w0 X0 a1 o_.Rows c1) (h2:RS ar w0 X0 a2 l_ c2) (h3:RS av w0 X0 a3 aj c3) :
  Ret Tryz.prog 51 #[.agg #[.int .i64 o_.au,.int .i64 o_.aA,.int .i64 o_.aH,.slice a1 o_.Rows.length c1],.slice a2 l_.length c2,.slice a3 aj.length c3] aM w0 X0 (fun w X' v=>∃ r,Q r/\v=.tuple #[.int .i64 r.1,.int .i64 r.2]):=by
 unfold VC51 at hm
 replace hm:=hm (h1.sm kr)
 replace hm:=hm (h2.sm kr)
 replace hm:=hm (h3.sm kr)
 refine enter Tryz.func51 rfl (vals:=[.agg #[.int .i64 o_.au,.int .i64 o_.aA,.int .i64 o_.aH,.slice a1 o_.Rows.length c1],.slice a2 l_.length c2,.slice a3 aj.length c3]) kr ?_
 intro Z a hS hO hM
 replace h1:=h1.m0 hM
 replace h2:=h2.m0 hM
 replace h3:=h3.m0 hM
 refine rM T hS ⟨[(1,Sl a2 l_ c2),(2,Sl a3 aj c3),(3,Pt 4 0)],[(4,(48,(cO o_ a1 c1)))]⟩ fun Z a tw Bd hS hE hr=>?_
 replace hO:=hO.m2 hE
 replace h1:=h1.m1 hE
 replace h2:=h2.m1 hE
 replace h3:=h3.m1 hE
 clear hE hr
 refine br ?_
 refine oPe T hS 1 [] [(18,V (.agg #[.int .i64 o_.au,.int .i64 o_.aA,.int .i64 o_.aH,.slice a1 o_.Rows.length c1]))] fun a hS=>?_
 obtain ⟨hq,hm⟩:=hm
 refine op1 (call hS kr kr hb53 kr (fun _ _=>rfl) (ui _ _ o_ a1 c1 hq h1) ?_)
 intro v101 a fH fK hE hp hS
 replace hO:=hO.m2 hE
 replace h1:=h1.m1 hE
 replace h2:=h2.m1 hE
 replace h3:=h3.m1 hE
 obtain ⟨ay,hr⟩:∃ r,bA o_=r:=⟨_,rfl⟩
 replace hm:=hm ay hr
 rw [hr] at hp
 clear hr
 subst hp
 refine ePe T hS [18,19] [(9,I ay.2)] fun a hS=>?_
 refine br ?_
 refine oPe T hS 1 [] [(23,Sl a2 l_ c2)] fun a hS=>?_
 refine op1 (call hS kr kr hb80 kr (fun _ _=>rfl) (Gp _ _ l_ a2 c2 h2) ?_)
 intro v105 a n6 n2 hE hp hS
 replace hO:=hO.m2 hE
 replace h1:=h1.m1 hE
 replace h2:=h2.m1 hE
 replace h3:=h3.m1 hE
 obtain ⟨bb,hr⟩:∃ r,cn l_=r:=⟨_,rfl⟩
 replace hm:=hm bb hr
 rw [hr] at hp
 clear hr
 subst hp
 refine ePe T hS [23,24] [(11,I bb.2)] fun a hS=>?_
 refine bh ?_
 refine rPe T hS [9,11] [(32,B ((ay.2 != 0) || (bb.2 != 0)))] (sp:=[29]) fun a hS=>?_
 refine aI hS (b:=((ay.2 != 0) || (bb.2 != 0))) kr (fun hb=>?_) fun hb=>?_
 ·replace hm:=hm.1 hb
  refine rP T hS ⟨[(6,I (-1)),(7,I 2)],[]⟩ fun a hS=>?_
  refine ba ?_
  exact fin T hS hO (fun c=>c) rfl (r:=[.int .i64 (-1),.int .i64 2]) kr (fun X' hM hC=>⟨((-1),2),hm,rfl⟩)
 replace hm:=hm.2 hb
 refine aO (bh ?_)
 refine br ?_
 refine oP T hS 3 ⟨[(1,Sl a2 l_ c2),(2,Sl a3 aj c3),(34,V (.agg #[.int .i64 o_.au,.int .i64 o_.aA,.int .i64 o_.aH,.slice a1 o_.Rows.length c1])),(35,Sl a2 l_ c2),(36,Sl a3 aj c3)],[]⟩ fun a hS=>?_
 obtain ⟨hq,hm⟩:=hm
 refine op1 (call hS kr kr hb33 kr (fun _ _=>rfl) (Gy _ _ o_ l_ aj a1 c1 a2 c2 a3 c3 hq h1 h2 h3) ?_)
 intro v109 a F3 Hp hE hp hS
 replace hO:=hO.m2 hE
 replace h1:=h1.m1 hE
 replace h2:=h2.m1 hE
 replace h3:=h3.m1 hE
 obtain ⟨bM,hr⟩:∃ r,cd o_ l_ aj=r:=⟨_,rfl⟩
 replace hm:=hm bM hr
 rw [hr] at hp
 clear hr
 subst hp
 refine ePe T hS [34,35,36,37] [(13,I bM.2.1),(14,I bM.2.2)] fun a hS=>?_
 refine rPe T hS [] [(42,B (bM.2.2 != 0))] fun a hS=>?_
 refine aI hS (b:=(bM.2.2 != 0)) kr (fun hb=>?_) fun hb=>?_
 ·replace hm:=hm.1 hb
  refine rPe T hS [1,2,13,14,42] [(6,I bM.2.1),(7,I bM.2.2)] fun a hS=>?_
  refine ba ?_
  exact fin T hS hO (fun c=>c) rfl (r:=[.int .i64 bM.2.1,.int .i64 bM.2.2]) kr (fun X' hM hC=>⟨(bM.2.1,bM.2.2),hm,rfl⟩)
 replace hm:=hm.2 hb
 refine aO (bh ?_)
 refine br ?_
 refine oPe T hS 2 [13,14,42] [(45,Sl a2 l_ c2),(46,Sl a3 aj c3)] fun a hS=>?_
 refine op1 (call hS kr kr hb34 kr (fun _ _=>rfl) (Gx _ _ l_ aj a2 c2 a3 c3 h2 h3) ?_)
 intro v113 a H4 ER hE hp hS
 replace hO:=hO.m2 hE
 replace h2:=h2.m1 hE
 replace h3:=h3.m1 hE
 obtain ⟨p3,hr⟩:∃ r,cB l_ aj=r:=⟨_,rfl⟩
 replace hm:=hm p3 hr
 rw [hr] at hp
 clear hr
 subst hp
 refine ePe T hS [45,46,47] [(15,I p3)] fun a hS=>?_
 refine rPe T hS [] [(49,B (decide (p3≥0)))] fun a hS=>?_
 refine aI hS (b:=decide (p3≥0)) kr (fun hb=>?_) fun hb=>?_
 ·replace hm:=hm.1 hb
  refine rPe T hS [1,2,15,49] [(6,I p3),(7,I 42)] fun a hS=>?_
  refine ba ?_
  exact fin T hS hO (fun c=>c) rfl (r:=[.int .i64 p3,.int .i64 42]) kr (fun X' hM hC=>⟨(p3,42),hm,rfl⟩)
 replace hm:=hm.2 hb
 refine aO (bh ?_)
 refine br ?_
 refine oPe T hS 2 [1,15,49] [(51,Sl a2 l_ c2),(52,Sl a3 aj c3)] fun a hS=>?_
 obtain ⟨hq,hm⟩:=hm
 refine op1 (call hS kr kr hb35 kr (fun _ _=>rfl) (Gw _ _ l_ aj a2 c2 a3 c3 hq h2 h3) ?_)
 intro v117 a z5 Be hE hp hS
 replace hO:=hO.m2 hE
 replace h2:=h2.m1 hE
 replace h3:=h3.m1 hE
 obtain ⟨nh,m9,hp,h123⟩:=hp
 obtain ⟨j7,hr⟩:∃ r,b8 l_ aj=r:=⟨_,rfl⟩
 replace hm:=hm j7 hr
 rw [hr] at hp h123
 clear hr
 subst hp
 replace hm:=hm (h123.sm kr)
 refine ePe T hS [51,52,53] [(16,Sl nh j7 m9)] fun a hS=>?_
 refine rPe T hS [] [(56,B (decide ((lN j7) > 0)))] fun a hS=>?_
 refine aI hS (b:=decide ((lN j7) > 0)) kr (fun hb=>?_) fun hb=>?_
 ·replace hm:=hm.1 hb
  refine br ?_
  refine oPe T hS 1 [2,16,56] [(57,Sl nh j7 m9)] fun a hS=>?_
  obtain ⟨hq,hm⟩:=hm
  refine op1 (index (e:=3) (k:=.i64) T hS kr kr kr kr h123 kr kr hq.1 hq.2 ?_)
  intro Ht a h125 hS
  refine op1 (eT T hS kr kr kr h125 rfl kr ?_)
  intro v126 a hv hS
  cases hv
  refine ePe T hS [57,58,59] [(6,I (gi j7 0)),(7,I 41)] fun a hS=>?_
  refine ba ?_
  exact fin T hS hO (fun c=>c) rfl (r:=[.int .i64 (gi j7 0),.int .i64 41]) kr (fun X' hM hC=>⟨(gi j7 0,41),hm,rfl⟩)
 replace hm:=hm.2 hb
 refine aO ?_
 refine rPe T hS [2,16,56] [(6,I (lN aj)),(7,I 0)] fun a hS=>?_
 refine ba ?_
 exact fin T hS hO (fun c=>c) rfl (r:=[.int .i64 (lN aj),.int .i64 0]) kr (fun X' hM hC=>⟨((lN aj),0),hm,rfl⟩)
theorem C51 (Gy:S33) (Gx:S34) (Gw:S35) (ui:S53) (Gp:S80) (v:∀ (o_:ao) (l_:List ab) (aj:List aa),kS o_ l_ aj->VC51 o_ l_ aj (fun r=>r=eU o_ l_ aj)):S51:=by
 intro w X o_ l_ aj a1 c1 a2 c2 a3 c3   hp h1 h2 h3
 refine (W51 Gy Gx Gw ui Gp w X o_ l_ aj a1 c1 a2 c2 a3 c3   _ (v o_ l_ aj hp) h1 h2 h3).mono ?_
 rintro _ _ _ _ ⟨r,rfl,h⟩
 exact h
theorem W20 (Lx:S51) (w0) (X0) (o_:ao) (l_:List ab) (aj:List aa) (a1) (c1) (a2) (c2) (a3) (c3) (Q:Bool->Prop) (hm:VC20 o_ l_ aj Q) (h1:RS aB w0 X0 a1 o_.Rows c1) (h2:RS ar w0 X0 a2 l_ c2) (h3:RS av w0 X0 a3 aj c3) :
  Ret Tryz.prog 20 #[.agg #[.int .i64 o_.au,.int .i64 o_.aA,.int .i64 o_.aH,.slice a1 o_.Rows.length c1],.slice a2 l_.length c2,.slice a3 aj.length c3] aM w0 X0 (fun w X' v=>∃ r,Q r/\v=.bool r):=by
 unfold VC20 at hm
 replace hm:=hm (h1.sm kr)
 replace hm:=hm (h2.sm kr)
 replace hm:=hm (h3.sm kr)
 refine enter Tryz.func20 rfl (vals:=[.agg #[.int .i64 o_.au,.int .i64 o_.aA,.int .i64 o_.aH,.slice a1 o_.Rows.length c1],.slice a2 l_.length c2,.slice a3 aj.length c3]) kr ?_
 intro Z a hS hO hM
 replace h1:=h1.m0 hM
 replace h2:=h2.m0 hM
 replace h3:=h3.m0 hM
 refine rM T hS ⟨[(1,Sl a2 l_ c2),(2,Sl a3 aj c3),(3,Pt 4 0)],[(4,(48,(cO o_ a1 c1)))]⟩ fun Z a nA mh hS hE hr=>?_
 replace hO:=hO.m2 hE
 replace h1:=h1.m1 hE
 replace h2:=h2.m1 hE
 replace h3:=h3.m1 hE
 clear hE hr
 refine br ?_
 refine oP T hS 3 ⟨[(10,V (.agg #[.int .i64 o_.au,.int .i64 o_.aA,.int .i64 o_.aH,.slice a1 o_.Rows.length c1])),(11,Sl a2 l_ c2),(12,Sl a3 aj c3)],[]⟩ fun a hS=>?_
 obtain ⟨hq,hm⟩:=hm
 refine op1 (call hS kr kr hb51 kr (fun _ _=>rfl) (Lx _ _ o_ l_ aj a1 c1 a2 c2 a3 c3 hq h1 h2 h3) ?_)
 intro v101 a fH fK hE hp hS
 replace hO:=hO.m2 hE
 replace h1:=h1.m1 hE
 replace h2:=h2.m1 hE
 replace h3:=h3.m1 hE
 obtain ⟨ay,hr⟩:∃ r,eU o_ l_ aj=r:=⟨_,rfl⟩
 replace hm:=hm ay hr
 rw [hr] at hp
 clear hr
 subst hp
 refine ePe T hS [10,11,12,13] [(8,I ay.2)] fun a hS=>?_
 refine rPe T hS [8] [(6,B (ay.2 == 0))] fun a hS=>?_
 refine ba ?_
 exact fin T hS hO (fun c=>c) rfl (r:=[.bool (ay.2 == 0)]) kr (fun X' hM hC=>⟨(ay.2 == 0),hm,rfl⟩)
theorem C20 (Lx:S51) (v:∀ (o_:ao) (l_:List ab) (aj:List aa),kS o_ l_ aj->VC20 o_ l_ aj (fun r=>r=de o_ l_ aj)):S20:=by
 intro w X o_ l_ aj a1 c1 a2 c2 a3 c3   hp h1 h2 h3
 refine (W20 Lx w X o_ l_ aj a1 c1 a2 c2 a3 c3   _ (v o_ l_ aj hp) h1 h2 h3).mono ?_
 rintro _ _ _ _ ⟨r,rfl,h⟩
 exact h
theorem W66 (w0) (X0) (aj:List aa) (i_:Int) (a1) (c1) (Q:Int->Prop) (hm:VC66 aj i_ Q) (h1:RS av w0 X0 a1 aj c1) :
  Ret Tryz.prog 66 #[.slice a1 aj.length c1,.int .i64 i_] aM w0 X0 (fun w X' v=>∃ r,Q r/\v=.int .i64 r):=by
 unfold VC66 at hm
 replace hm:=hm (h1.sm kr)
 refine enter Tryz.func66 rfl (vals:=[.slice a1 aj.length c1,.int .i64 i_]) kr ?_
 intro Z a hS hO hM
 replace h1:=h1.m0 hM
 refine rPe T hS [] [] fun a hS=>?_
 refine cb (fun a w=>∃ Z X,VC66_J1 Q/\St Tryz.f66.ntmps ⟨[],[]⟩ Z a w X/\Old w0 X0 w X) ?_ ?_
 ·refine rPe T hS [] [(5,I 0)] fun a hS=>?_
  refine aQ ?_
  obtain ⟨I1,μ1,cJ,hm⟩:=hm
  refine cH (σ:=Int) (fun s a w=>∃ Z X,I1 s/\St Tryz.f66.ntmps ⟨[(0,Sl a1 aj c1),(1,I i_),(5,I s)],[]⟩ Z a w X/\Old w0 X0 w X/\RS av w X a1 aj c1) (fun s=>μ1 s) (0) ?_ ?_
  ·exact ⟨Z,_,cJ,hS.sl _,hO,h1⟩
  rintro bB a qm ⟨Z,pC,hI,hS,hO,h101⟩
  replace hm:=hm bB hI
  clear hI cJ
  refine bh ?_
  refine rPe T hS [] [(9,B (decide (bB < (lN aj))))] fun a hS=>?_
  refine aI hS (b:=decide (bB < (lN aj))) kr (fun hb=>?_) fun hb=>?_
  ·replace hm:=hm.1 hb
   refine aO (bh ?_)
   refine aQ ?_
   refine br ?_
   refine oPe T hS 2 [9] [(12,Sl a1 aj c1),(13,I bB)] fun a hS=>?_
   obtain ⟨hq,hm⟩:=hm
   refine op1 (index (e:=56) (k:=.i64) T hS kr kr kr kr h101 kr kr hq.1 hq.2 ?_)
   intro uP a h104 hS
   refine op1 (fD (off:=0) (fsz:=1) (ft:=3) (TF:=tI) (y:=(gi aj bB).Oper) T hS kr kr kr h104 kr kr kr (fun cs h=>fP h) ?_)
   intro yx a h106 hS
   refine op1 (eT T hS kr kr kr h106 rfl kr ?_)
   intro v107 a hv hS
   cases hv
   refine ePe T hS [12,13,14,15,16] [(18,B (((gi aj bB).Oper) == i_))] fun a hS=>?_
   refine aI hS (b:=(((gi aj bB).Oper) == i_)) kr (fun hb=>?_) fun hb=>?_
   ·replace hm:=hm.1 hb
    refine rPe T hS [0,1,5,18] [(4,I bB)] fun a hS=>?_
    refine ba ?_
    exact fin T hS hO (fun c=>c) rfl (r:=[.int .i64 bB]) kr (fun X' hM hC=>⟨bB,hm,rfl⟩)
   replace hm:=hm.2 hb
   refine aO ?_
   refine region (ePe T hS [18] [(5,I (wR (bB+1)))] fun a hS=>?_)
   exact ⟨wR (bB+1),⟨Z,_,hm.1,hS.sl _,hO,h101⟩,hm.2⟩
  replace hm:=hm.2 hb
  refine cu (by rfl) ?_
  exact ⟨Z,_,hm,hS.sl _,hO⟩
 rintro a DS ⟨Z,sf,hm,hS,hO⟩
 unfold VC66_J1 at hm
 refine rPe T hS [] [(4,I (-1))] fun a hS=>?_
 refine ba ?_
 exact fin T hS hO (fun c=>c) rfl (r:=[.int .i64 (-1)]) kr (fun X' hM hC=>⟨(-1),hm,rfl⟩)
theorem C66 (v:∀ (aj:List aa) (i_:Int),VC66 aj i_ (fun r=>r=cl aj i_)):S66:=by
 intro w X aj i_ a1 c1   h1
 refine (W66 w X aj i_ a1 c1   _ (v aj i_) h1).mono ?_
 rintro _ _ _ _ ⟨r,rfl,h⟩
 exact h
theorem W68 (w0) (X0) (o_:ao) (state:Int) (kind:Int) (a1) (c1) (Q:Int × Int × Bool->Prop) (hm:VC68 o_ state kind Q) (h1:RS aB w0 X0 a1 o_.Rows c1) :
  Ret Tryz.prog 68 #[.agg #[.int .i64 o_.au,.int .i64 o_.aA,.int .i64 o_.aH,.slice a1 o_.Rows.length c1],.int .i64 state,.int .i64 kind] aM w0 X0 (fun w X' v=>∃ r,Q r/\v=.tuple #[.int .i64 r.1,.int .i64 r.2.1,.bool r.2.2]):=by
 unfold VC68 at hm
 replace hm:=hm (h1.sm kr)
 refine enter Tryz.func68 rfl (vals:=[.agg #[.int .i64 o_.au,.int .i64 o_.aA,.int .i64 o_.aH,.slice a1 o_.Rows.length c1],.int .i64 state,.int .i64 kind]) kr ?_
 intro Z a hS hO hM
 replace h1:=h1.m0 hM
 refine rM T hS ⟨[(1,I state),(2,I kind),(3,Pt 4 0)],[(4,(48,(cO o_ a1 c1)))]⟩ fun Z a z3 Dd hS hE hr=>?_
 replace hO:=hO.m2 hE
 replace h1:=h1.m1 hE
 clear hE hr
 refine cb (fun a w=>∃ Z X,VC68_J1 Q/\St Tryz.f68.ntmps ⟨[],[]⟩ Z a w X/\Old w0 X0 w X) ?_ ?_
 ·refine rPe T hS [] [(9,I 0)] fun a hS=>?_
  refine aQ ?_
  obtain ⟨I1,μ1,cJ,hm⟩:=hm
  refine cH (σ:=Int) (fun s a w=>∃ Z X,I1 s/\St Tryz.f68.ntmps ⟨[(1,I state),(2,I kind),(3,Pt 4 0),(9,I s)],[(4,(48,(cO o_ a1 c1)))]⟩ Z a w X/\Old w0 X0 w X/\RS aB w X a1 o_.Rows c1) (fun s=>μ1 s) (0) ?_ ?_
  ·exact ⟨Z,_,cJ,hS.sl _,hO,h1⟩
  rintro bD a uV ⟨Z,se,hI,hS,hO,h102⟩
  replace hm:=hm bD hI
  clear hI cJ
  refine bh ?_
  refine rPe T hS [] [(14,B (decide (bD < (lN o_.Rows))))] fun a hS=>?_
  refine aI hS (b:=decide (bD < (lN o_.Rows))) kr (fun hb=>?_) fun hb=>?_
  ·replace hm:=hm.1 hb
   refine aO (bh ?_)
   refine aQ ?_
   refine cb (fun a w=>∃ (Z:Nat->Nat) (X:Nat->Nat) (bj:Bool),VC68_J2 o_ Q I1 μ1 bD bj/\St Tryz.f68.ntmps ⟨[(1,I state),(2,I kind),(3,Pt 4 0),(9,I bD),(34,B bj)],[(4,(48,(cO o_ a1 c1)))]⟩ Z a w X/\Old w0 X0 w X/\RS aB w X a1 o_.Rows c1) ?_ ?_
   ·refine region ?_
    refine oPe T hS 3 [14] [(18,Sl a1 o_.Rows c1),(19,I bD)] fun a hS=>?_
    obtain ⟨hq,hm⟩:=hm
    refine op1 (index (e:=107) (k:=.i64) T hS kr kr kr kr h102 kr kr hq.1 hq.2 ?_)
    intro Nz a h118 hS
    refine op1 (fD (off:=0) (fsz:=1) (ft:=3) (TF:=tI) (y:=(gi o_.Rows bD).State) T hS kr kr kr h118 kr kr kr (fun cs h=>n3 h) ?_)
    intro Ny a h120 hS
    refine op1 (eT T hS kr kr kr h120 rfl kr ?_)
    intro v121 a hv hS
    cases hv
    refine oPe T hS 3 [18,19,20,21,22] [(25,B (((gi o_.Rows bD).State) == state))] fun a hS=>?_
    rcases bft (((gi o_.Rows bD).State) == state) with hb | hb
    ·replace hS:=hS.lit (t:=25) kr hb
     replace hm:=hm.1 hb
     refine oPe T hS 3 [] [(27,Sl a1 o_.Rows c1),(28,I bD)] fun a hS=>?_
     obtain ⟨hq,hm⟩:=hm
     refine op1 (index (e:=107) (k:=.i64) T hS kr kr kr kr h102 kr kr hq.1 hq.2 ?_)
     intro Dl a h123 hS
     refine op1 (fD (off:=1) (fsz:=1) (ft:=3) (TF:=tI) (y:=(gi o_.Rows bD).Kind) T hS kr kr kr h123 kr kr kr (fun cs h=>rW h) ?_)
     intro Ht a h125 hS
     refine op1 (eT T hS kr kr kr h125 rfl kr ?_)
     intro v126 a hv hS
     cases hv
     refine ePe T hS [25,27,28,29,30,31] [(34,B (((gi o_.Rows bD).Kind) == kind))] fun a hS=>?_
     exact ⟨Z,_,(((gi o_.Rows bD).Kind) == kind),hm,hS.sl _,hO,h102⟩
    replace hS:=hS.lit (t:=25) kr hb
    replace hm:=hm.2 hb
    refine ePe T hS [25] [(34,B false)] fun a hS=>?_
    exact ⟨Z,_,false,hm,hS.sl _,hO,h102⟩
   rintro a r8 ⟨Z,rT,bj,hm,hS,hO,h104⟩
   unfold VC68_J2 at hm
   refine aI hS (b:=bj) kr (fun hb=>?_) fun hb=>?_
   ·replace hm:=hm.1 hb
    refine dB [4] mixed hS ?_
    intro nA mh hS hE hD hH
    replace hO:=hO.m2 hE
    replace h104:=h104.m1 hE
    refine tke T [0,2,6,8,1,7] [4] hS hH #[true,true,true,false,false,false,true,true,true,false,false,false,false,false,false] 9 [3,9] [(36,Sl a1 o_.Rows c1),(37,I bD),(42,Sl a1 o_.Rows c1),(43,I bD)] fun a hS=>?_
    obtain ⟨hq,hm⟩:=hm
    refine dg (e:=107) (k:=.i64) T 3 hS kr kr kr (by rfl) kr hH kr kr h104 kr kr hq.1 hq.2 ?_
    intro Hz a h108 hS
    have zG:=h108.here
    refine dt (off:=2) (fsz:=1) (ft:=3) (TF:=tI) (y:=(gi o_.Rows bD).Next) 4 T hS kr kr kr (by rfl) kr hH kr h108 kr kr kr (fun cs h=>rV h) ?_
    intro yw a h110 fO hS
    have lz:=zG
    rw [← fO] at lz
    clear fO
    refine dQ T 5 hS kr kr kr (by rfl) kr hH kr h110 lz rfl kr ?_
    intro v111 a hv hS
    cases hv
    refine tke T [12] [4] hS hH #[true,true,true,true,true,true,true,true,true,false,false,false,true,false,false] 5 [36,37,38,39,40] [(6,I ((gi o_.Rows bD).Next))] fun a hS=>?_
    obtain ⟨hq,hm⟩:=hm
    refine dg (e:=107) (k:=.i64) T 9 hS kr kr kr (by rfl) kr hH kr kr h104 kr kr hq.1 hq.2 ?_
    intro Hy a h113 hS
    have vW:=h113.here
    refine dt (off:=3) (fsz:=1) (ft:=3) (TF:=tI) (y:=(gi o_.Rows bD).Result) 10 T hS kr kr kr (by rfl) kr hH kr h113 kr kr kr (fun cs h=>rU h) ?_
    intro ET a h115 fO hS
    have rq:=vW
    rw [← fO] at rq
    clear fO
    refine dQ T 11 hS kr kr kr (by rfl) kr hH kr h115 rq rfl kr ?_
    intro v116 a hv hS
    cases hv
    refine tke T [13,14] [4] hS hH (tts 15) 0 [42,43,44,45,46] [(7,I ((gi o_.Rows bD).Result)),(8,B true)] fun a hS=>?_
    refine aY kr ?_
    replace hS:=hS.sl ⟨[(6,I ((gi o_.Rows bD).Next)),(7,I ((gi o_.Rows bD).Result)),(8,B true)],[]⟩
    refine ba ?_
    exact fin T hS hO (fun c=>c) rfl (r:=[.int .i64 ((gi o_.Rows bD).Next),.int .i64 ((gi o_.Rows bD).Result),.bool true]) kr (fun X' hM hC=>⟨((gi o_.Rows bD).Next,(gi o_.Rows bD).Result,true),hm,rfl⟩)
   replace hm:=hm.2 hb
   refine aO ?_
   refine region (ePe T hS [34] [(9,I (wR (bD+1)))] fun a hS=>?_)
   exact ⟨wR (bD+1),⟨Z,_,hm.1,hS.sl _,hO,h104⟩,hm.2⟩
  replace hm:=hm.2 hb
  refine cu (by rfl) ?_
  exact ⟨Z,_,hm,hS.sl _,hO⟩
 rintro a Pf ⟨Z,De,hm,hS,hO⟩
 unfold VC68_J1 at hm
 refine rPe T hS [] [(6,I 0),(7,I 0),(8,B false)] fun a hS=>?_
 refine ba ?_
 exact fin T hS hO (fun c=>c) rfl (r:=[.int .i64 0,.int .i64 0,.bool false]) kr (fun X' hM hC=>⟨(0,0,false),hm,rfl⟩)
theorem C68 (v:∀ (o_:ao) (state:Int) (kind:Int),VC68 o_ state kind (fun r=>r=cC o_ state kind)):S68:=by
 intro w X o_ state kind a1 c1   h1
 refine (W68 w X o_ state kind a1 c1   _ (v o_ state kind) h1).mono ?_
 rintro _ _ _ _ ⟨r,rfl,h⟩
 exact h
theorem W65 (Lo:S68) (w0) (X0) (o_:ao) (state:Int) (kind:Int) (result:Int) (a1) (c1) (Q:Int × Int->Prop) (hm:VC65 o_ state kind result Q) (h1:RS aB w0 X0 a1 o_.Rows c1) :
  Ret Tryz.prog 65 #[.agg #[.int .i64 o_.au,.int .i64 o_.aA,.int .i64 o_.aH,.slice a1 o_.Rows.length c1],.int .i64 state,.int .i64 kind,.int .i64 result] aM w0 X0 (fun w X' v=>∃ r,Q r/\v=.tuple #[.int .i64 r.1,.int .i64 r.2]):=by
 unfold VC65 at hm
 replace hm:=hm (h1.sm kr)
 refine enter Tryz.func65 rfl (vals:=[.agg #[.int .i64 o_.au,.int .i64 o_.aA,.int .i64 o_.aH,.slice a1 o_.Rows.length c1],.int .i64 state,.int .i64 kind,.int .i64 result]) kr ?_
 intro Z a hS hO hM
 replace h1:=h1.m0 hM
 refine rM T hS ⟨[(1,I state),(2,I kind),(3,I result),(4,Pt 5 0)],[(5,(48,(cO o_ a1 c1)))]⟩ fun Z a nA mh hS hE hr=>?_
 replace hO:=hO.m2 hE
 replace h1:=h1.m1 hE
 clear hE hr
 refine bh ?_
 refine rPe T hS [] [(20,B ((decide (state < 0)) || (decide (state≥o_.au))))] (sp:=[15]) fun a hS=>?_
 refine aI hS (b:=((decide (state < 0)) || (decide (state≥o_.au)))) kr (fun hb=>?_) fun hb=>?_
 ·replace hm:=hm.1 hb
  refine rP T hS ⟨[(8,I 0),(9,I 30)],[]⟩ fun a hS=>?_
  refine ba ?_
  exact fin T hS hO (fun c=>c) rfl (r:=[.int .i64 0,.int .i64 30]) kr (fun X' hM hC=>⟨(0,30),hm,rfl⟩)
 replace hm:=hm.2 hb
 refine aO ?_
 refine br ?_
 refine oP T hS 3 ⟨[(3,I result),(22,V (.agg #[.int .i64 o_.au,.int .i64 o_.aA,.int .i64 o_.aH,.slice a1 o_.Rows.length c1])),(23,I state),(24,I kind)],[]⟩ fun a hS=>?_
 refine op1 (call hS kr kr hb68 kr (fun _ _=>rfl) (Lo _ _ o_ state kind a1 c1 h1) ?_)
 intro v101 a fH fK hE hp hS
 replace hO:=hO.m2 hE
 replace h1:=h1.m1 hE
 obtain ⟨ay,hr⟩:∃ r,cC o_ state kind=r:=⟨_,rfl⟩
 replace hm:=hm ay hr
 rw [hr] at hp
 clear hr
 subst hp
 refine ePe T hS [22,23,24,25] [(10,I ay.1),(11,I ay.2.1),(12,B ay.2.2)] fun a hS=>?_
 refine bh ?_
 refine rPe T hS [3,11,12] [(35,B ((!ay.2.2) || (ay.2.1 != result)))] (sp:=[31]) fun a hS=>?_
 refine aI hS (b:=((!ay.2.2) || (ay.2.1 != result))) kr (fun hb=>?_) fun hb=>?_
 ·replace hm:=hm.1 hb
  refine rPe T hS [10,35] [(8,I 0),(9,I 40)] fun a hS=>?_
  refine ba ?_
  exact fin T hS hO (fun c=>c) rfl (r:=[.int .i64 0,.int .i64 40]) kr (fun X' hM hC=>⟨(0,40),hm,rfl⟩)
 replace hm:=hm.2 hb
 refine aO ?_
 refine rPe T hS [10,35] [(8,I ay.1),(9,I 0)] fun a hS=>?_
 refine ba ?_
 exact fin T hS hO (fun c=>c) rfl (r:=[.int .i64 ay.1,.int .i64 0]) kr (fun X' hM hC=>⟨(ay.1,0),hm,rfl⟩)
theorem C65 (Lo:S68) (v:∀ (o_:ao) (state:Int) (kind:Int) (result:Int),VC65 o_ state kind result (fun r=>r=dj o_ state kind result)):S65:=by
 intro w X o_ state kind result a1 c1   h1
 refine (W65 Lo w X o_ state kind result a1 c1   _ (v o_ state kind result) h1).mono ?_
 rintro _ _ _ _ ⟨r,rfl,h⟩
 exact h
theorem W58 (w0) (X0) (o_:ao) (a1) (c1) (Q:Int × Int->Prop) (hm:VC58 o_ Q) (h1:RS aB w0 X0 a1 o_.Rows c1) :
  Ret Tryz.prog 58 #[.agg #[.int .i64 o_.au,.int .i64 o_.aA,.int .i64 o_.aH,.slice a1 o_.Rows.length c1]] aM w0 X0 (fun w X' v=>∃ r,Q r/\v=.tuple #[.int .i64 r.1,.int .i64 r.2]):=by
 unfold VC58 at hm
 replace hm:=hm (h1.sm kr)
 refine enter Tryz.func58 rfl (vals:=[.agg #[.int .i64 o_.au,.int .i64 o_.aA,.int .i64 o_.aH,.slice a1 o_.Rows.length c1]]) kr ?_
 intro Z a hS hO hM
 replace h1:=h1.m0 hM
 refine rM T hS ⟨[(1,Pt 2 0)],[(2,(48,(cO o_ a1 c1)))]⟩ fun Z a z1 ym hS hE hr=>?_
 replace hO:=hO.m2 hE
 replace h1:=h1.m1 hE
 clear hE hr
 refine bh ?_
 refine rPe T hS [] [(35,B ((((((decide (o_.au < 1)) || (decide (o_.au > 32))) || (decide (o_.aA < 1))) || (decide (o_.aA > 64))) || (decide (o_.aH < 0))) || (decide (o_.aH≥o_.au))))] (sp:=[9,14,19,24,29]) fun a hS=>?_
 refine aI hS (b:=((((((decide (o_.au < 1)) || (decide (o_.au > 32))) || (decide (o_.aA < 1))) || (decide (o_.aA > 64))) || (decide (o_.aH < 0))) || (decide (o_.aH≥o_.au)))) kr (fun hb=>?_) fun hb=>?_
 ·replace hm:=hm.1 hb
  refine rP T hS ⟨[(2,I (-1)),(3,I 2)],[]⟩ fun a hS=>?_
  refine ba ?_
  exact fin T hS hO (fun c=>c) rfl (r:=[.int .i64 (-1),.int .i64 2]) kr (fun X' hM hC=>⟨((-1),2),hm,rfl⟩)
 replace hm:=hm.2 hb
 refine aO ?_
 refine cb (fun a w=>∃ Z X,VC58_J1 o_ Q/\St Tryz.f58.ntmps ⟨[(1,Pt 2 0)],[(2,(48,(cO o_ a1 c1)))]⟩ Z a w X/\Old w0 X0 w X/\RS aB w X a1 o_.Rows c1) ?_ ?_
 ·refine rPe T hS [35] [(4,I 0)] fun a hS=>?_
  refine aQ ?_
  obtain ⟨I1,μ1,cJ,hm⟩:=hm
  refine cH (σ:=Int) (fun s a w=>∃ Z X,I1 s/\St Tryz.f58.ntmps ⟨[(1,Pt 2 0),(4,I s)],[(2,(48,(cO o_ a1 c1)))]⟩ Z a w X/\Old w0 X0 w X/\RS aB w X a1 o_.Rows c1) (fun s=>μ1 s) (0) ?_ ?_
  ·exact ⟨Z,_,cJ,hS.sl _,hO,h1⟩
  rintro bB a r7 ⟨Z,EN,hI,hS,hO,h103⟩
  replace hm:=hm bB hI
  clear hI cJ
  refine bh ?_
  refine rPe T hS [] [(40,B (decide (bB < (lN o_.Rows))))] fun a hS=>?_
  refine aI hS (b:=decide (bB < (lN o_.Rows))) kr (fun hb=>?_) fun hb=>?_
  ·replace hm:=hm.1 hb
   refine aO (bh ?_)
   refine aQ ?_
   refine br ?_
   refine oPe T hS 3 [40] [(44,Sl a1 o_.Rows c1),(45,I bB)] fun a hS=>?_
   obtain ⟨hq,hm⟩:=hm
   refine op1 (index (e:=107) (k:=.i64) T hS kr kr kr kr h103 kr kr hq.1 hq.2 ?_)
   intro Kc a h105 hS
   refine op1 (eS T hS kr kr kr h105 kr kr ?_)
   intro v106 a hv hS
   subst hv
   refine eM T hS ⟨[(1,Pt 2 0),(4,I bB),(5,Pt 6 0)],[(2,(48,(cO o_ a1 c1))),(6,(107,(cR (gi o_.Rows bB))))]⟩ fun Z a r8 se hS hE hr=>?_
   replace hO:=hO.m2 hE
   replace h103:=h103.m1 hE
   clear hE hr
   refine bh ?_
   refine rPe T hS [] [(69,B ((((decide (((gi o_.Rows bB).State) < 0)) || (decide (((gi o_.Rows bB).State)≥o_.au))) || (decide (((gi o_.Rows bB).Next) < 0))) || (decide (((gi o_.Rows bB).Next)≥o_.au))))] (sp:=[51,58,63]) fun a hS=>?_
   refine aI hS (b:=((((decide (((gi o_.Rows bB).State) < 0)) || (decide (((gi o_.Rows bB).State)≥o_.au))) || (decide (((gi o_.Rows bB).Next) < 0))) || (decide (((gi o_.Rows bB).Next)≥o_.au)))) kr (fun hb=>?_) fun hb=>?_
   ·replace hm:=hm.1 hb
    refine rP T hS ⟨[(2,I bB),(3,I 30)],[]⟩ fun a hS=>?_
    refine ba ?_
    exact fin T hS hO (fun c=>c) rfl (r:=[.int .i64 bB,.int .i64 30]) kr (fun X' hM hC=>⟨(bB,30),hm,rfl⟩)
   replace hm:=hm.2 hb
   refine aO (bh ?_)
   refine rPe T hS [69] [(80,B ((decide (((gi o_.Rows bB).Kind) < 0)) || (decide (((gi o_.Rows bB).Kind)≥o_.aA))))] (sp:=[74]) fun a hS=>?_
   refine aI hS (b:=((decide (((gi o_.Rows bB).Kind) < 0)) || (decide (((gi o_.Rows bB).Kind)≥o_.aA)))) kr (fun hb=>?_) fun hb=>?_
   ·replace hm:=hm.1 hb
    refine rP T hS ⟨[(2,I bB),(3,I 31)],[]⟩ fun a hS=>?_
    refine ba ?_
    exact fin T hS hO (fun c=>c) rfl (r:=[.int .i64 bB,.int .i64 31]) kr (fun X' hM hC=>⟨(bB,31),hm,rfl⟩)
   replace hm:=hm.2 hb
   refine aO (bh ?_)
   refine rPe T hS [80] [(89,B ((decide (((gi o_.Rows bB).Result) < 0)) || (decide (((gi o_.Rows bB).Result) > 1000000))))] (sp:=[85]) fun a hS=>?_
   refine aI hS (b:=((decide (((gi o_.Rows bB).Result) < 0)) || (decide (((gi o_.Rows bB).Result) > 1000000)))) kr (fun hb=>?_) fun hb=>?_
   ·replace hm:=hm.1 hb
    refine rP T hS ⟨[(2,I bB),(3,I 7)],[]⟩ fun a hS=>?_
    refine ba ?_
    exact fin T hS hO (fun c=>c) rfl (r:=[.int .i64 bB,.int .i64 7]) kr (fun X' hM hC=>⟨(bB,7),hm,rfl⟩)
   replace hm:=hm.2 hb
   refine aO ?_
   refine cb (fun a w=>∃ (Z:Nat->Nat) (X:Nat->Nat) (gY:Bool),VC58_J2 Q I1 μ1 bB gY/\St Tryz.f58.ntmps ⟨[(1,Pt 2 0),(4,I bB),(128,B gY)],[(2,(48,(cO o_ a1 c1)))]⟩ Z a w X/\Old w0 X0 w X/\RS aB w X a1 o_.Rows c1) ?_ ?_
   ·refine hJ [2,6] mixed hS ?_
    intro qm sf hS hE hD hH
    replace hO:=hO.m2 hE
    replace h103:=h103.m1 hE
    refine tke T [0,1,2] [2,6] hS hH #[true,true,true,false,false,false,false,false,false,false,false,false,false,false,false,false,false,false,false,false,false,false,false,false,false,false,false,false,false,false,false,false,false,false,false,false,false,false] 35 [] [(93,B (decide (bB > 0)))] fun a hS=>?_
    rcases bft (decide (bB > 0)) with hb | hb
    ·replace hS:=hS.lit (t:=93) kr hb
     replace hm:=hm.1 hb
     refine tke T [3,5,10,4,6,11] [2,6] hS hH #[true,true,true,true,true,true,true,false,false,false,true,true,false,false,false,false,false,false,false,false,false,false,false,false,false,false,false,false,false,false,false,false,false,false,false,false,false,false] 29 [] [(95,Sl a1 o_.Rows c1),(97,I (wR (bB - 1))),(102,I ((gi o_.Rows bB).State))] fun a hS=>?_
     obtain ⟨hq,hm⟩:=hm
     refine dg (e:=107) (k:=.i64) T 7 hS kr kr kr (by rfl) kr hH kr kr h103 kr kr hq.1 hq.2 ?_
     intro Dm a h112 hS
     have zF:=h112.here
     refine dt (off:=0) (fsz:=1) (ft:=3) (TF:=tI) (y:=(gi o_.Rows (wR (bB - 1))).State) 8 T hS kr kr kr (by rfl) kr hH kr h112 kr kr kr (fun cs h=>n3 h) ?_
     intro Hx a h114 fO hS
     have FL:=zF
     rw [← fO] at FL
     clear fO
     refine dQ T 9 hS kr kr kr (by rfl) kr hH kr h114 FL rfl kr ?_
     intro v115 a hv hS
     cases hv
     refine tke T [12,13] [2,6] hS hH #[true,true,true,true,true,true,true,true,true,true,true,true,true,true,false,false,false,false,false,false,false,false,false,false,false,false,false,false,false,false,false,false,false,false,false,false,false,false] 24 [95,97,102,98,99,100] [(104,B (decide (((gi o_.Rows (wR (bB - 1))).State) > ((gi o_.Rows bB).State))))] fun a hS=>?_
     rcases bft (decide (((gi o_.Rows (wR (bB - 1))).State) > ((gi o_.Rows bB).State))) with hb | hb
     ·replace hS:=hS.lit (t:=104) kr hb
      replace hm:=hm.1 hb
      refine tke T [14,16,21,15,17,22,18,19,20,23,24,25,27,32,26,28,33,29,30,31,34,35,36,37] [2,6] hS hH (tts 38) 0 [5,93,104] [(128,B true)] fun a hS=>?_
      refine aY kr ?_
      replace hS:=hS.sl ⟨[(1,Pt 2 0),(4,I bB),(128,B true)],[(2,(48,(cO o_ a1 c1)))]⟩
      exact ⟨Z,_,true,hm,hS.sl _,hO,h103⟩
     replace hS:=hS.lit (t:=104) kr hb
     replace hm:=hm.2 hb
     refine tke T [14,16,21,15,17,22] [2,6] hS hH #[true,true,true,true,true,true,true,true,true,true,true,true,true,true,true,true,true,true,false,false,false,true,true,false,false,false,false,false,false,false,false,false,false,false,false,false,false,false] 18 [] [(106,Sl a1 o_.Rows c1),(108,I (wR (bB - 1))),(113,I ((gi o_.Rows bB).State))] fun a hS=>?_
     obtain ⟨hq,hm⟩:=hm
     refine dg (e:=107) (k:=.i64) T 18 hS kr kr kr (by rfl) kr hH kr kr h103 kr kr hq.1 hq.2 ?_
     intro Hw a h117 hS
     have oC:=h117.here
     refine dt (off:=0) (fsz:=1) (ft:=3) (TF:=tI) (y:=(gi o_.Rows (wR (bB - 1))).State) 19 T hS kr kr kr (by rfl) kr hH kr h117 kr kr kr (fun cs h=>n3 h) ?_
     intro Hv a h119 fO hS
     have vV:=oC
     rw [← fO] at vV
     clear fO
     refine dQ T 20 hS kr kr kr (by rfl) kr hH kr h119 vV rfl kr ?_
     intro v120 a hv hS
     cases hv
     refine tke T [23,24] [2,6] hS hH #[true,true,true,true,true,true,true,true,true,true,true,true,true,true,true,true,true,true,true,true,true,true,true,true,true,false,false,false,false,false,false,false,false,false,false,false,false,false] 13 [106,108,113,109,110,111] [(115,B (((gi o_.Rows (wR (bB - 1))).State) == ((gi o_.Rows bB).State)))] fun a hS=>?_
     rcases bft (((gi o_.Rows (wR (bB - 1))).State) == ((gi o_.Rows bB).State)) with hb | hb
     ·replace hS:=hS.lit (t:=115) kr hb
      replace hm:=hm.1 hb
      refine tke T [25,27,32,26,28,33] [2,6] hS hH #[true,true,true,true,true,true,true,true,true,true,true,true,true,true,true,true,true,true,true,true,true,true,true,true,true,true,true,true,true,false,false,false,true,true,false,false,false,false] 7 [5] [(117,Sl a1 o_.Rows c1),(119,I (wR (bB - 1))),(124,I ((gi o_.Rows bB).Kind))] fun a hS=>?_
      obtain ⟨hq,hm⟩:=hm
      refine dg (e:=107) (k:=.i64) T 29 hS kr kr kr (by rfl) kr hH kr kr h103 kr kr hq.1 hq.2 ?_
      intro Hu a h122 hS
      have CE:=h122.here
      refine dt (off:=1) (fsz:=1) (ft:=3) (TF:=tI) (y:=(gi o_.Rows (wR (bB - 1))).Kind) 30 T hS kr kr kr (by rfl) kr hH kr h122 kr kr kr (fun cs h=>rW h) ?_
      intro ES a h124 fO hS
      have rp:=CE
      rw [← fO] at rp
      clear fO
      refine dQ T 31 hS kr kr kr (by rfl) kr hH kr h124 rp rfl kr ?_
      intro v125 a hv hS
      cases hv
      refine tke T [34,35,36,37] [2,6] hS hH (tts 38) 0 [93,104,115,117,119,124,120,121,122] [(128,B (decide (((gi o_.Rows (wR (bB - 1))).Kind)≥((gi o_.Rows bB).Kind))))] fun a hS=>?_
      refine aY kr ?_
      replace hS:=hS.sl ⟨[(1,Pt 2 0),(4,I bB),(128,B (decide (((gi o_.Rows (wR (bB - 1))).Kind)≥((gi o_.Rows bB).Kind))))],[(2,(48,(cO o_ a1 c1)))]⟩
      exact ⟨Z,_,decide (((gi o_.Rows (wR (bB - 1))).Kind)≥((gi o_.Rows bB).Kind)),hm,hS.sl _,hO,h103⟩
     replace hS:=hS.lit (t:=115) kr hb
     replace hm:=hm.2 hb
     refine tke T [25,27,32,26,28,33,29,30,31,34,35,36,37] [2,6] hS hH (tts 38) 0 [5,93,104,115] [(128,B false)] fun a hS=>?_
     refine aY kr ?_
     replace hS:=hS.sl ⟨[(1,Pt 2 0),(4,I bB),(128,B false)],[(2,(48,(cO o_ a1 c1)))]⟩
     exact ⟨Z,_,false,hm,hS.sl _,hO,h103⟩
    replace hS:=hS.lit (t:=93) kr hb
    replace hm:=hm.2 hb
    refine tke T [3,5,10,4,6,11,7,8,9,12,13,14,16,21,15,17,22,18,19,20,23,24,25,27,32,26,28,33,29,30,31,34,35,36,37] [2,6] hS hH (tts 38) 0 [5,93] [(128,B false)] fun a hS=>?_
    refine aY kr ?_
    replace hS:=hS.sl ⟨[(1,Pt 2 0),(4,I bB),(128,B false)],[(2,(48,(cO o_ a1 c1)))]⟩
    exact ⟨Z,_,false,hm,hS.sl _,hO,h103⟩
   rintro a tw ⟨Z,yn,gY,hm,hS,hO,h108⟩
   unfold VC58_J2 at hm
   refine aI hS (b:=gY) kr (fun hb=>?_) fun hb=>?_
   ·replace hm:=hm.1 hb
    refine rP T hS ⟨[(2,I bB),(3,I 32)],[]⟩ fun a hS=>?_
    refine ba ?_
    exact fin T hS hO (fun c=>c) rfl (r:=[.int .i64 bB,.int .i64 32]) kr (fun X' hM hC=>⟨(bB,32),hm,rfl⟩)
   replace hm:=hm.2 hb
   refine aO ?_
   refine region (ePe T hS [128] [(4,I (wR (bB+1)))] fun a hS=>?_)
   exact ⟨wR (bB+1),⟨Z,_,hm.1,hS.sl _,hO,h108⟩,hm.2⟩
  replace hm:=hm.2 hb
  refine cu (by rfl) ?_
  exact ⟨Z,_,hm,hS.sl _,hO,h103⟩
 rintro a z3 ⟨Z,rS,hm,hS,hO,h101⟩
 unfold VC58_J1 at hm
 refine rP T hS ⟨[(2,I (lN o_.Rows)),(3,I 0)],[]⟩ fun a hS=>?_
 refine ba ?_
 exact fin T hS hO (fun c=>c) rfl (r:=[.int .i64 (lN o_.Rows),.int .i64 0]) kr (fun X' hM hC=>⟨((lN o_.Rows),0),hm,rfl⟩)
theorem C58 (v:∀ (o_:ao),VC58 o_ (fun r=>r=cU o_)):S58:=by
 intro w X o_ a1 c1   h1
 refine (W58 w X o_ a1 c1   _ (v o_) h1).mono ?_
 rintro _ _ _ _ ⟨r,rfl,h⟩
 exact h
theorem W36 (Gs:S58) (Lq:S65) (w0) (X0) (o_:ao) (l_:List ab) (state:Int) (aj:List aa) (a1) (c1) (a2) (c2) (a3) (c3) (Q:Int × Int × Int->Prop) (hm:VC36 o_ l_ state aj Q) (h1:RS aB w0 X0 a1 o_.Rows c1) (h2:RS ar w0 X0 a2 l_ c2) (h3:RS av w0 X0 a3 aj c3) :
  Ret Tryz.prog 36 #[.agg #[.int .i64 o_.au,.int .i64 o_.aA,.int .i64 o_.aH,.slice a1 o_.Rows.length c1],.slice a2 l_.length c2,.int .i64 state,.slice a3 aj.length c3] aM w0 X0 (fun w X' v=>∃ r,Q r/\v=.tuple #[.int .i64 r.1,.int .i64 r.2.1,.int .i64 r.2.2]):=by
 unfold VC36 at hm
 replace hm:=hm (h1.sm kr)
 replace hm:=hm (h2.sm kr)
 replace hm:=hm (h3.sm kr)
 refine enter Tryz.func36 rfl (vals:=[.agg #[.int .i64 o_.au,.int .i64 o_.aA,.int .i64 o_.aH,.slice a1 o_.Rows.length c1],.slice a2 l_.length c2,.int .i64 state,.slice a3 aj.length c3]) kr ?_
 intro Z a hS hO hM
 replace h1:=h1.m0 hM
 replace h2:=h2.m0 hM
 replace h3:=h3.m0 hM
 refine rM T hS ⟨[(1,Sl a2 l_ c2),(2,I state),(3,Sl a3 aj c3),(4,Pt 5 0)],[(5,(48,(cO o_ a1 c1)))]⟩ fun Z a DG Hi hS hE hr=>?_
 replace hO:=hO.m2 hE
 replace h1:=h1.m1 hE
 replace h2:=h2.m1 hE
 replace h3:=h3.m1 hE
 clear hE hr
 refine br ?_
 refine oPe T hS 1 [] [(19,V (.agg #[.int .i64 o_.au,.int .i64 o_.aA,.int .i64 o_.aH,.slice a1 o_.Rows.length c1]))] fun a hS=>?_
 refine op1 (call hS kr kr hb58 kr (fun _ _=>rfl) (Gs _ _ o_ a1 c1 h1) ?_)
 intro v101 a fH fK hE hp hS
 replace hO:=hO.m2 hE
 replace h1:=h1.m1 hE
 replace h2:=h2.m1 hE
 replace h3:=h3.m1 hE
 obtain ⟨ay,hr⟩:∃ r,cU o_=r:=⟨_,rfl⟩
 replace hm:=hm ay hr
 rw [hr] at hp
 clear hr
 subst hp
 refine ePe T hS [19,20] [(12,I ay.2)] fun a hS=>?_
 refine bh ?_
 refine rPe T hS [12] [(24,B (ay.2 != 0))] fun a hS=>?_
 refine aI hS (b:=(ay.2 != 0)) kr (fun hb=>?_) fun hb=>?_
 ·replace hm:=hm.1 hb
  refine rP T hS ⟨[(8,I 0),(9,I (-1)),(10,I 2)],[]⟩ fun a hS=>?_
  refine ba ?_
  exact fin T hS hO (fun c=>c) rfl (r:=[.int .i64 0,.int .i64 (-1),.int .i64 2]) kr (fun X' hM hC=>⟨(0,(-1),2),hm,rfl⟩)
 replace hm:=hm.2 hb
 refine aO (bh ?_)
 refine rPe T hS [24] [(32,B ((decide (state < 0)) || (decide (state≥o_.au))))] (sp:=[27]) fun a hS=>?_
 refine aI hS (b:=((decide (state < 0)) || (decide (state≥o_.au)))) kr (fun hb=>?_) fun hb=>?_
 ·replace hm:=hm.1 hb
  refine rP T hS ⟨[(8,I 0),(9,I (-1)),(10,I 30)],[]⟩ fun a hS=>?_
  refine ba ?_
  exact fin T hS hO (fun c=>c) rfl (r:=[.int .i64 0,.int .i64 (-1),.int .i64 30]) kr (fun X' hM hC=>⟨(0,(-1),30),hm,rfl⟩)
 replace hm:=hm.2 hb
 refine aO ?_
 refine cb (fun a w=>∃ (Z:Nat->Nat) (X:Nat->Nat) (gZ:Int),VC36_J1 aj Q gZ/\St Tryz.f36.ntmps ⟨[(2,I gZ),(3,Sl a3 aj c3)],[]⟩ Z a w X/\Old w0 X0 w X/\RS av w X a3 aj c3) ?_ ?_
 ·refine rPe T hS [32] [(13,I 0)] fun a hS=>?_
  refine aQ ?_
  obtain ⟨I1,μ1,cJ,hm⟩:=hm
  refine cH (σ:=Int × Int) (fun s a w=>∃ Z X,I1 s.1 s.2/\St Tryz.f36.ntmps ⟨[(1,Sl a2 l_ c2),(2,I s.1),(3,Sl a3 aj c3),(4,Pt 5 0),(13,I s.2)],[(5,(48,(cO o_ a1 c1)))]⟩ Z a w X/\Old w0 X0 w X/\RS ar w X a2 l_ c2/\RS av w X a3 aj c3/\RS aB w X a1 o_.Rows c1) (fun s=>μ1 s.1 s.2) (⟨state,0⟩) ?_ ?_
  ·exact ⟨Z,_,cJ,hS.sl _,hO,h2,h3,h1⟩
  rintro ⟨dz,bK⟩ a DH ⟨Z,Hk,hI,hS,hO,h107,h109,h111⟩
  replace hm:=hm dz bK hI
  clear hI cJ
  refine bh ?_
  refine rPe T hS [] [(36,B (decide (bK < (lN aj))))] fun a hS=>?_
  refine aI hS (b:=decide (bK < (lN aj))) kr (fun hb=>?_) fun hb=>?_
  ·replace hm:=hm.1 hb
   refine aO (bh ?_)
   refine aQ ?_
   refine br ?_
   refine oPe T hS 2 [36] [(39,Sl a3 aj c3),(40,I bK)] fun a hS=>?_
   obtain ⟨hq,hm⟩:=hm
   refine op1 (index (e:=56) (k:=.i64) T hS kr kr kr kr h109 kr kr hq.1 hq.2 ?_)
   intro Hy a h113 hS
   refine op1 (eS T hS kr kr kr h113 kr kr ?_)
   intro v114 a hv hS
   subst hv
   refine eM T hS ⟨[(1,Sl a2 l_ c2),(2,I dz),(3,Sl a3 aj c3),(4,Pt 5 0),(13,I bK),(14,Pt 15 0)],[(5,(48,(cO o_ a1 c1))),(15,(56,(cK (gi aj bK))))]⟩ fun Z a DI EJ hS hE hr=>?_
   replace hO:=hO.m2 hE
   replace h107:=h107.m1 hE
   replace h109:=h109.m1 hE
   replace h111:=h111.m1 hE
   clear hE hr
   refine bh ?_
   refine rPe T hS [] [(52,B ((decide (((gi aj bK).Oper) < 0)) || (decide (((gi aj bK).Oper)≥(lN l_)))))] (sp:=[46]) fun a hS=>?_
   refine aI hS (b:=((decide (((gi aj bK).Oper) < 0)) || (decide (((gi aj bK).Oper)≥(lN l_))))) kr (fun hb=>?_) fun hb=>?_
   ·replace hm:=hm.1 hb
    refine rP T hS ⟨[(8,I 0),(9,I bK),(10,I 2)],[]⟩ fun a hS=>?_
    refine ba ?_
    exact fin T hS hO (fun c=>c) rfl (r:=[.int .i64 0,.int .i64 bK,.int .i64 2]) kr (fun X' hM hC=>⟨(0,bK,2),hm,rfl⟩)
   replace hm:=hm.2 hb
   refine aO ?_
   refine cb (fun a w=>∃ Z X,VC36_J2 o_ l_ aj Q I1 μ1 dz bK/\St Tryz.f36.ntmps ⟨[(1,Sl a2 l_ c2),(2,I dz),(3,Sl a3 aj c3),(4,Pt 5 0),(13,I bK),(14,Pt 15 0)],[(5,(48,(cO o_ a1 c1))),(15,(56,(cK (gi aj bK))))]⟩ Z a w X/\Old w0 X0 w X/\RS ar w X a2 l_ c2/\RS av w X a3 aj c3/\RS aB w X a1 o_.Rows c1) ?_ ?_
   ·refine rPe T hS [52] [(15,I 0)] fun a hS=>?_
    refine aQ ?_
    obtain ⟨I2,μ2,cJ,hm⟩:=hm
    refine cH (σ:=Int) (fun s a w=>∃ Z X,I2 s/\St Tryz.f36.ntmps ⟨[(1,Sl a2 l_ c2),(2,I dz),(3,Sl a3 aj c3),(4,Pt 5 0),(13,I bK),(14,Pt 15 0),(15,I s)],[(5,(48,(cO o_ a1 c1))),(15,(56,(cK (gi aj bK))))]⟩ Z a w X/\Old w0 X0 w X/\RS ar w X a2 l_ c2/\RS av w X a3 aj c3/\RS aB w X a1 o_.Rows c1) (fun s=>μ2 s) (0) ?_ ?_
    ·exact ⟨Z,_,cJ,hS.sl _,hO,h107,h109,h111⟩
    rintro ma a zX ⟨Z,A8,hI,hS,hO,h147,h148,h150⟩
    replace hm:=hm ma hI
    clear hI cJ
    refine bh ?_
    refine rPe T hS [] [(56,B (decide (ma < bK)))] fun a hS=>?_
    refine aI hS (b:=decide (ma < bK)) kr (fun hb=>?_) fun hb=>?_
    ·replace hm:=hm.1 hb
     refine aO (bh ?_)
     refine aQ ?_
     refine dB [5,15] mixed hS ?_
     intro FZ yk hS hE hD hH
     replace hO:=hO.m2 hE
     replace h147:=h147.m1 hE
     replace h148:=h148.m1 hE
     replace h150:=h150.m1 hE
     refine tke T [0,1,5,6] [5,15] hS hH #[true,true,false,false,false,true,true,false] 4 [] [(59,Sl a3 aj c3),(60,I ma),(65,I ((gi aj bK).Oper))] fun a hS=>?_
     obtain ⟨hq,hm⟩:=hm
     refine dg (e:=56) (k:=.i64) T 2 hS kr kr kr (by rfl) kr hH kr kr h148 kr kr hq.1 hq.2 ?_
     intro J8 a h154 hS
     have CC:=h154.here
     refine dt (off:=0) (fsz:=1) (ft:=3) (TF:=tI) (y:=(gi aj ma).Oper) 3 T hS kr kr kr (by rfl) kr hH kr h154 kr kr kr (fun cs h=>fP h) ?_
     intro J7 a h156 fO hS
     have vT:=CC
     rw [← fO] at vT
     clear fO
     refine dQ T 4 hS kr kr kr (by rfl) kr hH kr h156 vT rfl kr ?_
     intro v157 a hv hS
     cases hv
     refine tke T [7] [5,15] hS hH (tts 8) 0 [59,60,65,61,62,63] [(66,B (((gi aj ma).Oper) == ((gi aj bK).Oper)))] fun a hS=>?_
     refine aY kr ?_
     replace hS:=hS.sle [] []
     refine aI hS (b:=(((gi aj ma).Oper) == ((gi aj bK).Oper))) kr (fun hb=>?_) fun hb=>?_
     ·replace hm:=hm.1 hb
      refine rP T hS ⟨[(8,I 0),(9,I bK),(10,I 21)],[]⟩ fun a hS=>?_
      refine ba ?_
      exact fin T hS hO (fun c=>c) rfl (r:=[.int .i64 0,.int .i64 bK,.int .i64 21]) kr (fun X' hM hC=>⟨(0,bK,21),hm,rfl⟩)
     replace hm:=hm.2 hb
     refine aO ?_
     refine region (ePe T hS [66] [(15,I (wR (ma+1)))] fun a hS=>?_)
     exact ⟨wR (ma+1),⟨Z,_,hm.1,hS.sl _,hO,h147,h148,h150⟩,hm.2⟩
    replace hm:=hm.2 hb
    refine cu (by rfl) ?_
    exact ⟨Z,_,hm,hS.sl _,hO,h147,h148,h150⟩
   rintro a HY ⟨Z,EK,hm,hS,hO,h115,h116,h117⟩
   unfold VC36_J2 at hm
   refine dB [5,15] mixed hS ?_
   intro z5 Be hS hE hD hH
   replace hO:=hO.m2 hE
   replace h115:=h115.m1 hE
   replace h116:=h116.m1 hE
   replace h117:=h117.m1 hE
   refine tke T [0,1,2,3,8,4,9] [5,15] hS hH #[true,true,true,true,true,false,false,false,true,true,false,false,false,false,false,false] 9 [2] [(69,V (.agg #[.int .i64 o_.au,.int .i64 o_.aA,.int .i64 o_.aH,.slice a1 o_.Rows.length c1])),(70,I dz),(71,Sl a2 l_ c2),(73,I ((gi aj bK).Oper)),(78,I ((gi aj bK).Result))] fun a hS=>?_
   obtain ⟨hq,hm⟩:=hm
   refine dg (e:=102) (k:=.i64) T 5 hS kr kr kr (by rfl) kr hH kr kr h115 kr kr hq.1 hq.2 ?_
   intro Nx a h121 hS
   have Je:=h121.here
   refine dt (off:=1) (fsz:=1) (ft:=3) (TF:=tI) (y:=(gi l_ ((gi aj bK).Oper)).Kind) 6 T hS kr kr kr (by rfl) kr hH kr h121 kr kr kr (fun cs h=>mK h) ?_
   intro Dl a h123 fO hS
   have FK:=Je
   rw [← fO] at FK
   clear fO
   refine dQ T 7 hS kr kr kr (by rfl) kr hH kr h123 FK rfl kr ?_
   intro v124 a hv hS
   cases hv
   refine only 10 kr (by rfl) (call hS kr kr hb65 kr (fun _ _=>rfl) (Lq _ _ o_ dz ((gi l_ ((gi aj bK).Oper)).Kind) ((gi aj bK).Result) a1 c1 h117) ?_)
   intro v125 a uW rT hE hp hS
   replace hO:=hO.m2 hE
   replace hD:=hD.ev hE rfl
   replace h115:=h115.m1 hE
   replace h116:=h116.m1 hE
   replace h117:=h117.m1 hE
   replace h121:=h121.m1 hE
   replace h123:=h123.m1 hE
   obtain ⟨bU,hr⟩:∃ r,dj o_ dz ((gi l_ ((gi aj bK).Oper)).Kind) ((gi aj bK).Result)=r:=⟨_,rfl⟩
   replace hm:=hm bU hr
   rw [hr] at hp
   clear hr
   subst hp
   replace hS:=hS.sle [] [(79,V (.tuple #[.int .i64 bU.1,.int .i64 bU.2]))]
   refine da (bO.of hS (bks:=[5,15]) kr hD) ?_
   intro hH
   refine tke T [11,12,13,14,15] [5,15] hS hH (tts 16) 0 [69,70,71,73,78,74,75,76,79] [(16,I bU.1),(17,I bU.2)] fun a hS=>?_
   refine aY kr ?_
   replace hS:=hS.sle [] []
   refine bh ?_
   refine rPe T hS [] [(83,B (bU.2 != 0))] fun a hS=>?_
   refine aI hS (b:=(bU.2 != 0)) kr (fun hb=>?_) fun hb=>?_
   ·replace hm:=hm.1 hb
    refine rP T hS ⟨[(8,I 0),(9,I bK),(10,I bU.2)],[]⟩ fun a hS=>?_
    refine ba ?_
    exact fin T hS hO (fun c=>c) rfl (r:=[.int .i64 0,.int .i64 bK,.int .i64 bU.2]) kr (fun X' hM hC=>⟨(0,bK,bU.2),hm,rfl⟩)
   replace hm:=hm.2 hb
   refine aO (bh ?_)
   refine cb (fun a w=>∃ (Z:Nat->Nat) (X:Nat->Nat) (gd:Bool),VC36_J3 Q I1 μ1 dz bK bU gd/\St Tryz.f36.ntmps ⟨[(1,Sl a2 l_ c2),(3,Sl a3 aj c3),(4,Pt 5 0),(13,I bK),(16,I bU.1),(103,B gd)],[(5,(48,(cO o_ a1 c1)))]⟩ Z a w X/\Old w0 X0 w X/\RS ar w X a2 l_ c2/\RS av w X a3 aj c3/\RS aB w X a1 o_.Rows c1) ?_ ?_
   ·refine hJ [5,15] mixed hS ?_
    intro z3 Dd hS hE hD hH
    replace hO:=hO.m2 hE
    replace h115:=h115.m1 hE
    replace h116:=h116.m1 hE
    replace h117:=h117.m1 hE
    refine tke T [0,1,2] [5,15] hS hH #[true,true,true,false,false,false,false,false,false,false,false,false,false,false,false,false,false,false] 15 [] [(86,Sl a2 l_ c2),(88,I ((gi aj bK).Oper))] fun a hS=>?_
    obtain ⟨hq,hm⟩:=hm
    refine dg (e:=102) (k:=.i64) T 3 hS kr kr kr (by rfl) kr hH kr kr h115 kr kr hq.1 hq.2 ?_
    intro J9 a h136 hS
    have Jb:=h136.here
    refine dt (off:=3) (fsz:=1) (ft:=3) (TF:=tI) (y:=(gi l_ ((gi aj bK).Oper)).End) 4 T hS kr kr kr (by rfl) kr hH kr h136 kr kr kr (fun cs h=>mJ h) ?_
    intro Se a h138 fO hS
    have FJ:=Jb
    rw [← fO] at FJ
    clear fO
    refine dQ T 5 hS kr kr kr (by rfl) kr hH kr h138 FJ rfl kr ?_
    intro v139 a hv hS
    cases hv
    refine tke T [6,7] [5,15] hS hH #[true,true,true,true,true,true,true,true,false,false,false,false,false,false,false,false,false,false] 10 [86,88,89,90,91] [(93,B (((gi l_ ((gi aj bK).Oper)).End) != (-1)))] fun a hS=>?_
    rcases bft (((gi l_ ((gi aj bK).Oper)).End) != (-1)) with hb | hb
    ·replace hS:=hS.lit (t:=93) kr hb
     replace hm:=hm.1 hb
     refine tke T [8,9,14,10,15] [5,15] hS hH #[true,true,true,true,true,true,true,true,true,true,true,false,false,false,true,true,false,false] 5 [14] [(94,Sl a2 l_ c2),(96,I ((gi aj bK).Oper)),(101,I ((gi aj bK).Result))] fun a hS=>?_
     obtain ⟨hq,hm⟩:=hm
     refine dg (e:=102) (k:=.i64) T 11 hS kr kr kr (by rfl) kr hH kr kr h115 kr kr hq.1 hq.2 ?_
     intro Hq a h141 hS
     have Ja:=h141.here
     refine dt (off:=4) (fsz:=1) (ft:=3) (TF:=tI) (y:=(gi l_ ((gi aj bK).Oper)).Result) 12 T hS kr kr kr (by rfl) kr hH kr h141 kr kr kr (fun cs h=>pV h) ?_
     intro Ns a h143 fO hS
     have FI:=Ja
     rw [← fO] at FI
     clear fO
     refine dQ T 13 hS kr kr kr (by rfl) kr hH kr h143 FI rfl kr ?_
     intro v144 a hv hS
     cases hv
     refine tke T [16,17] [5,15] hS hH (tts 18) 0 [93,94,96,101,97,98,99] [(103,B (((gi l_ ((gi aj bK).Oper)).Result) != ((gi aj bK).Result)))] fun a hS=>?_
     refine aY kr ?_
     replace hS:=hS.sl ⟨[(1,Sl a2 l_ c2),(3,Sl a3 aj c3),(4,Pt 5 0),(13,I bK),(16,I bU.1),(103,B (((gi l_ ((gi aj bK).Oper)).Result) != ((gi aj bK).Result)))],[(5,(48,(cO o_ a1 c1)))]⟩
     exact ⟨Z,_,(((gi l_ ((gi aj bK).Oper)).Result) != ((gi aj bK).Result)),hm,hS.sl _,hO,h115,h116,h117⟩
    replace hS:=hS.lit (t:=93) kr hb
    replace hm:=hm.2 hb
    refine tke T [8,9,14,10,15,11,12,13,16,17] [5,15] hS hH (tts 18) 0 [14,93] [(103,B false)] fun a hS=>?_
    refine aY kr ?_
    replace hS:=hS.sl ⟨[(1,Sl a2 l_ c2),(3,Sl a3 aj c3),(4,Pt 5 0),(13,I bK),(16,I bU.1),(103,B false)],[(5,(48,(cO o_ a1 c1)))]⟩
    exact ⟨Z,_,false,hm,hS.sl _,hO,h115,h116,h117⟩
   rintro a DM ⟨Z,Bb,gd,hm,hS,hO,h129,h130,h132⟩
   unfold VC36_J3 at hm
   refine aI hS (b:=gd) kr (fun hb=>?_) fun hb=>?_
   ·replace hm:=hm.1 hb
    refine rP T hS ⟨[(8,I 0),(9,I bK),(10,I 40)],[]⟩ fun a hS=>?_
    refine ba ?_
    exact fin T hS hO (fun c=>c) rfl (r:=[.int .i64 0,.int .i64 bK,.int .i64 40]) kr (fun X' hM hC=>⟨(0,bK,40),hm,rfl⟩)
   replace hm:=hm.2 hb
   refine aO ?_
   refine region (ePe T hS [16,103] [(2,I bU.1)] fun a hS=>?_)
   refine region (ePe T hS [] [(13,I (wR (bK+1)))] fun a hS=>?_)
   exact ⟨⟨bU.1,wR (bK+1)⟩,⟨Z,_,hm.1,hS.sl _,hO,h129,h130,h132⟩,hm.2⟩
  replace hm:=hm.2 hb
  refine cu (by rfl) ?_
  exact ⟨Z,_,dz,hm,hS.sl _,hO,h109⟩
 rintro a HW ⟨Z,JZ,gZ,hm,hS,hO,h106⟩
 unfold VC36_J1 at hm
 refine rPe T hS [2,3] [(8,I gZ),(9,I (lN aj)),(10,I 0)] fun a hS=>?_
 refine ba ?_
 exact fin T hS hO (fun c=>c) rfl (r:=[.int .i64 gZ,.int .i64 (lN aj),.int .i64 0]) kr (fun X' hM hC=>⟨(gZ,(lN aj),0),hm,rfl⟩)
theorem C36 (Gs:S58) (Lq:S65) (v:∀ (o_:ao) (l_:List ab) (state:Int) (aj:List aa),VC36 o_ l_ state aj (fun r=>r=cW o_ l_ state aj)):S36:=by
 intro w X o_ l_ state aj a1 c1 a2 c2 a3 c3   h1 h2 h3
 refine (W36 Gs Lq w X o_ l_ state aj a1 c1 a2 c2 a3 c3   _ (v o_ l_ state aj) h1 h2 h3).mono ?_
 rintro _ _ _ _ ⟨r,rfl,h⟩
 exact h
theorem W67 (w0) (X0) (a_:ab) (b_:ab) (Q:Bool->Prop) (hm:VC67 a_ b_ Q) :
  Ret Tryz.prog 67 #[.agg #[.int .i64 a_.ah,.int .i64 a_.Kind,.int .i64 a_.aG,.int .i64 a_.End,.int .i64 a_.Result],.agg #[.int .i64 b_.ah,.int .i64 b_.Kind,.int .i64 b_.aG,.int .i64 b_.End,.int .i64 b_.Result]] aM w0 X0 (fun w X' v=>∃ r,Q r/\v=.bool r):=by
 unfold VC67 at hm
 refine enter Tryz.func67 rfl (vals:=[.agg #[.int .i64 a_.ah,.int .i64 a_.Kind,.int .i64 a_.aG,.int .i64 a_.End,.int .i64 a_.Result],.agg #[.int .i64 b_.ah,.int .i64 b_.Kind,.int .i64 b_.aG,.int .i64 b_.End,.int .i64 b_.Result]]) kr ?_
 intro Z a hS hO hM
 refine rM T hS ⟨[(2,Pt 3 0),(3,Pt 4 0)],[(3,(102,(cP a_))),(4,(102,(cP b_)))]⟩ fun Z a oX pE hS hE hr=>?_
 replace hO:=hO.m2 hE
 clear hE hr
 refine rP T hS ⟨[(4,B ((decide (a_.End≥0)) && (decide (b_.aG > a_.End))))],[]⟩ (sp:=[8]) fun a hS=>?_
 refine ba ?_
 exact fin T hS hO (fun c=>c) rfl (r:=[.bool ((decide (a_.End≥0)) && (decide (b_.aG > a_.End)))]) kr (fun X' hM hC=>⟨((decide (a_.End≥0)) && (decide (b_.aG > a_.End))),hm,rfl⟩)
theorem C67 (v:∀ (a_:ab) (b_:ab),VC67 a_ b_ (fun r=>r=js a_ b_)):S67:=by
 intro w X a_ b_    
 refine (W67 w X a_ b_    _ (v a_ b_)).mono ?_
 rintro _ _ _ _ ⟨r,rfl,h⟩
 exact h
theorem W37 (Gr:S66) (Lp:S67) (w0) (X0) (l_:List ab) (aj:List aa) (a1) (c1) (a2) (c2) (Q:Int->Prop) (hm:VC37 l_ aj Q) (h1:RS ar w0 X0 a1 l_ c1) (h2:RS av w0 X0 a2 aj c2) :
  Ret Tryz.prog 37 #[.slice a1 l_.length c1,.slice a2 aj.length c2] aM w0 X0 (fun w X' v=>∃ r,Q r/\v=.int .i64 r):=by
 unfold VC37 at hm
 replace hm:=hm (h1.sm kr)
 replace hm:=hm (h2.sm kr)
 refine enter Tryz.func37 rfl (vals:=[.slice a1 l_.length c1,.slice a2 aj.length c2]) kr ?_
 intro Z a hS hO hM
 replace h1:=h1.m0 hM
 replace h2:=h2.m0 hM
 refine rPe T hS [] [] fun a hS=>?_
 refine cb (fun a w=>∃ Z X,VC37_J1 Q/\St Tryz.f37.ntmps ⟨[],[]⟩ Z a w X/\Old w0 X0 w X) ?_ ?_
 ·refine rPe T hS [] [(5,I 0)] fun a hS=>?_
  refine aQ ?_
  obtain ⟨I1,μ1,cJ,hm⟩:=hm
  refine cH (σ:=Int) (fun s a w=>∃ Z X,I1 s/\St Tryz.f37.ntmps ⟨[(0,Sl a1 l_ c1),(1,Sl a2 aj c2),(5,I s)],[]⟩ Z a w X/\Old w0 X0 w X/\RS ar w X a1 l_ c1/\RS av w X a2 aj c2) (fun s=>μ1 s) (0) ?_ ?_
  ·exact ⟨Z,_,cJ,hS.sl _,hO,h1,h2⟩
  rintro bj a zZ ⟨Z,Hn,hI,hS,hO,h101,h102⟩
  replace hm:=hm bj hI
  clear hI cJ
  refine bh ?_
  refine rPe T hS [] [(12,B (decide (bj < (lN aj))))] fun a hS=>?_
  refine aI hS (b:=decide (bj < (lN aj))) kr (fun hb=>?_) fun hb=>?_
  ·replace hm:=hm.1 hb
   refine aO ?_
   refine cb (fun a w=>∃ Z X,VC37_J2 I1 μ1 bj/\St Tryz.f37.ntmps ⟨[(0,Sl a1 l_ c1),(1,Sl a2 aj c2),(5,I bj)],[]⟩ Z a w X/\Old w0 X0 w X/\RS ar w X a1 l_ c1/\RS av w X a2 aj c2) ?_ ?_
   ·refine aQ ?_
    refine br ?_
    refine oPe T hS 2 [12] [(15,Sl a2 aj c2),(16,I bj)] fun a hS=>?_
    obtain ⟨hq,hm⟩:=hm
    refine op1 (index (e:=56) (k:=.i64) T hS kr kr kr kr h102 kr kr hq.1 hq.2 ?_)
    intro Kb a h107 hS
    refine op1 (fD (off:=0) (fsz:=1) (ft:=3) (TF:=tI) (y:=(gi aj bj).Oper) T hS kr kr kr h107 kr kr kr (fun cs h=>fP h) ?_)
    intro NB a h109 hS
    refine op1 (eT T hS kr kr kr h109 rfl kr ?_)
    intro v110 a hv hS
    cases hv
    refine ePe T hS [15,16,17,18,19] [(6,I ((gi aj bj).Oper))] fun a hS=>?_
    refine rPe T hS [] [(7,I 0)] fun a hS=>?_
    refine aQ ?_
    obtain ⟨I2,μ2,cJ,hm⟩:=hm
    refine cH (σ:=Int) (fun s a w=>∃ Z X,I2 s/\St Tryz.f37.ntmps ⟨[(0,Sl a1 l_ c1),(1,Sl a2 aj c2),(5,I bj),(6,I ((gi aj bj).Oper)),(7,I s)],[]⟩ Z a w X/\Old w0 X0 w X/\RS ar w X a1 l_ c1/\RS av w X a2 aj c2) (fun s=>μ2 s) (0) ?_ ?_
    ·exact ⟨Z,_,cJ,hS.sl _,hO,h101,h102⟩
    rintro bg a tv ⟨Z,ym,hI,hS,hO,h111,h112⟩
    replace hm:=hm bg hI
    clear hI cJ
    refine bh ?_
    refine rPe T hS [] [(33,B (((decide (bg < (lN l_))) && (decide (((gi aj bj).Oper)≥0))) && (decide (((gi aj bj).Oper) < (lN l_)))))] (sp:=[24,28]) fun a hS=>?_
    refine aI hS (b:=(((decide (bg < (lN l_))) && (decide (((gi aj bj).Oper)≥0))) && (decide (((gi aj bj).Oper) < (lN l_))))) kr (fun hb=>?_) fun hb=>?_
    ·replace hm:=hm.1 hb
     refine aO (bh ?_)
     refine aQ ?_
     refine br ?_
     refine oPe T hS 2 [33] [(36,Sl a2 aj c2),(37,I bg)] fun a hS=>?_
     refine op1 (call hS kr kr hb66 kr (fun _ _=>rfl) (Gr _ _ aj bg a2 c2 h112) ?_)
     intro v114 a pY uM hE hp hS
     replace hO:=hO.m2 hE
     replace h111:=h111.m1 hE
     replace h112:=h112.m1 hE
     obtain ⟨eK,hr⟩:∃ r,cl aj bg=r:=⟨_,rfl⟩
     replace hm:=hm eK hr
     rw [hr] at hp
     clear hr
     subst hp
     refine ePe T hS [36,37,38] [(8,I eK)] fun a hS=>?_
     refine cb (fun a w=>∃ (Z:Nat->Nat) (X:Nat->Nat) (eE:Bool),VC37_J3 Q bj I2 μ2 bg eE/\St Tryz.f37.ntmps ⟨[(0,Sl a1 l_ c1),(1,Sl a2 aj c2),(5,I bj),(6,I ((gi aj bj).Oper)),(7,I bg),(56,B eE)],[]⟩ Z a w X/\Old w0 X0 w X/\RS ar w X a1 l_ c1/\RS av w X a2 aj c2) ?_ ?_
     ·refine hJ [] mixed hS ?_
      intro xg Df hS hE hD hH
      replace hO:=hO.m2 hE
      replace h111:=h111.m1 hE
      replace h112:=h112.m1 hE
      refine tke T [0,1,4,5] [] hS hH #[true,true,false,false,true,true,false,false,false,false,false,false,false,false,false,false,false,false] 14 [] [(39,Sl a1 l_ c1),(40,I bg),(43,Sl a1 l_ c1),(44,I ((gi aj bj).Oper))] fun a hS=>?_
      obtain ⟨hq,hm⟩:=hm
      refine dg (e:=102) (k:=.i64) T 2 hS kr kr kr (by rfl) kr hH kr kr h111 kr kr hq.1 hq.2 ?_
      intro ES a h124 hS
      have rp:=h124.here
      refine ld T 3 hS kr kr kr (by rfl) kr hH kr h124 rp kr kr ?_
      intro v125 a hv hS
      subst hv
      obtain ⟨hq,hm⟩:=hm
      refine dg (e:=102) (k:=.i64) T 6 hS kr kr kr (by rfl) kr hH kr kr h111 kr kr hq.1 hq.2 ?_
      intro Sh a h127 hS
      have Jd:=h127.here
      refine ld T 7 hS kr kr kr (by rfl) kr hH kr h127 Jd kr kr ?_
      intro v128 a hv hS
      subst hv
      refine only 8 kr (by rfl) (call hS kr kr hb67 kr (fun _ _=>rfl) (Lp _ _ (gi l_ bg) (gi l_ ((gi aj bj).Oper))) ?_)
      intro v129 a uV De hE hp hS
      replace hO:=hO.m2 hE
      replace hD:=hD.ev hE rfl
      replace h111:=h111.m1 hE
      replace h112:=h112.m1 hE
      replace h124:=h124.m1 hE
      replace h127:=h127.m1 hE
      obtain ⟨gP,hr⟩:∃ r,js (gi l_ bg) (gi l_ ((gi aj bj).Oper))=r:=⟨_,rfl⟩
      replace hm:=hm gP hr
      rw [hr] at hp
      clear hr
      subst hp
      refine da (bO.of hS (bks:=[]) kr hD) ?_
      intro hH
      refine tke T [9] [] hS hH #[true,true,true,true,true,true,true,true,true,true,false,false,false,false,false,false,false,false] 8 [39,40,43,44,41,42,45,46,47] [(48,B gP)] fun a hS=>?_
      rcases bft gP with hb | hb
      ·replace hS:=hS.lit (t:=48) kr hb
       replace hm:=hm.1 hb
       refine tke T [10,11,12] [] hS hH #[true,true,true,true,true,true,true,true,true,true,true,true,true,false,false,false,false,false] 5 [] [(51,B (decide (eK < 0)))] fun a hS=>?_
       refine jX (tc:=51) (b:=decide (eK < 0)) (f:=fun c=>⟨[(0,Sl a1 l_ c1),(1,Sl a2 aj c2),(5,I bj),(6,I ((gi aj bj).Oper)),(7,I bg),(48,B true),(55,B (c || (decide (eK≥bj))))],[]⟩) T [13,14,15,16] [] [0,1,5,6,7,48,55] hS kr kr kr kr hH (listed':=#[true,true,true,true,true,true,true,true,true,true,true,true,true,true,true,true,true,false]) (fuel:=1) kr kr (by rfl) ?_
       intro a hS
       refine tke T [17] [] hS hH (tts 18) 0 [48,55] [(56,B ((decide (eK < 0)) || (decide (eK≥bj))))] fun a hS=>?_
       refine aY kr ?_
       replace hS:=hS.sle [] []
       exact ⟨Z,_,((decide (eK < 0)) || (decide (eK≥bj))),hm,hS.sl _,hO,h111,h112⟩
      replace hS:=hS.lit (t:=48) kr hb
      replace hm:=hm.2 hb
      refine tke T [10,11,12,13,14,15,16,17] [] hS hH (tts 18) 0 [8,48] [(56,B false)] fun a hS=>?_
      refine aY kr ?_
      replace hS:=hS.sle [] []
      exact ⟨Z,_,false,hm,hS.sl _,hO,h111,h112⟩
     rintro a z1 ⟨Z,Nk,eE,hm,hS,hO,h118,h119⟩
     unfold VC37_J3 at hm
     refine aI hS (b:=eE) kr (fun hb=>?_) fun hb=>?_
     ·replace hm:=hm.1 hb
      refine rPe T hS [0,1,5,6,7,56] [(4,I bj)] fun a hS=>?_
      refine ba ?_
      exact fin T hS hO (fun c=>c) rfl (r:=[.int .i64 bj]) kr (fun X' hM hC=>⟨bj,hm,rfl⟩)
     replace hm:=hm.2 hb
     refine aO ?_
     refine region (ePe T hS [56] [(7,I (wR (bg+1)))] fun a hS=>?_)
     exact ⟨wR (bg+1),⟨Z,_,hm.1,hS.sl _,hO,h118,h119⟩,hm.2⟩
    replace hm:=hm.2 hb
    refine cu (by rfl) ?_
    exact ⟨Z,_,hm,hS.sl _,hO,h111,h112⟩
   rintro a DQ ⟨Z,wS,hm,hS,hO,h104,h105⟩
   unfold VC37_J2 at hm
   refine region (ePe T hS [] [(5,I (wR (bj+1)))] fun a hS=>?_)
   exact ⟨wR (bj+1),⟨Z,_,hm.1,hS.sl _,hO,h104,h105⟩,hm.2⟩
  replace hm:=hm.2 hb
  refine cu (by rfl) ?_
  exact ⟨Z,_,hm,hS.sl _,hO⟩
 rintro a r6 ⟨Z,Bc,hm,hS,hO⟩
 unfold VC37_J1 at hm
 refine rPe T hS [] [(4,I (-1))] fun a hS=>?_
 refine ba ?_
 exact fin T hS hO (fun c=>c) rfl (r:=[.int .i64 (-1)]) kr (fun X' hM hC=>⟨(-1),hm,rfl⟩)
theorem C37 (Gr:S66) (Lp:S67) (v:∀ (l_:List ab) (aj:List aa),VC37 l_ aj (fun r=>r=eG l_ aj)):S37:=by
 intro w X l_ aj a1 c1 a2 c2   h1 h2
 refine (W37 Gr Lp w X l_ aj a1 c1 a2 c2   _ (v l_ aj) h1 h2).mono ?_
 rintro _ _ _ _ ⟨r,rfl,h⟩
 exact h
end Go.Proofs.YteahldlmkheleaaGreat
