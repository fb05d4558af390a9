import Derived.Test.YteahldlmkheleaaGreatLWalksS
set_option linter.all false
namespace Go.Proofs.YteahldlmkheleaaGreat
open Go Go.Sv
set_option maxHeartbeats 1000000
theorem W34 (ww:S63) (w0) (X0) (l_:List ab) (ac:List aa) (a1) (c1) (a2) (c2) (Q:Int->Prop) (hm:VC34 l_ ac Q) (h1:RS ao w0 X0 a1 l_ c1) (h2:RS ar w0 X0 a2 ac c2) :
  Ret Tryz.prog 34 #[.slice a1 l_.length c1,.slice a2 ac.length c2] aJ w0 X0 (fun w X' v=>∃ r,Q r/\v=.int .i64 r):=by
 unfold VC34 at hm
 replace hm:=hm (h1.sm kr)
 replace hm:=hm (h2.sm kr)
 refine enter Tryz.func34 rfl (vals:=[.slice a1 l_.length c1,.slice a2 ac.length c2]) kr ?_
 intro Z a hS hO hM
 replace h1:=h1.m0 hM
 replace h2:=h2.m0 hM
 refine rPe T hS [] [] fun a hS=>?_
 refine Ez (by rfl) ?_
 refine bn ?_
 refine op1 (oR kI tI false 1011 hS kr kr ?_)
 intro dN a fh fo hE h104 hS
 replace hO:=hO.m2 hE
 replace h1:=h1.m1 hE
 replace h2:=h2.m1 hE
 refine ePe T hS [10] [(5,V (.map (some dN)))] fun a hS=>?_
 refine bd ?_
 refine EA ?_
 refine b5 (fun a w=>∃ Z X,VC34_J1 Q/\St Tryz.f34.ntmps ⟨[],[]⟩ Z a w X/\Old w0 X0 w X) ?_ ?_
 ·refine rPe T hS [1] [(11,Sl a2 ac c2),(12,I (lN ac)),(13,I 0)] fun a hS=>?_
  refine aN ?_
  obtain ⟨I1,μ1,cy,hm⟩:=hm
  refine cw (σ:=(List (Int × Int)) × Int) (fun s a w=>∃ Z X,I1 s.1 s.2/\St Tryz.f34.ntmps ⟨[(0,Sl a1 l_ c1),(5,V (.map (some dN))),(11,Sl a2 ac c2),(12,I (lN ac)),(13,I s.2)],[]⟩ Z a w X/\Old w0 X0 w X/\RS ao w X a1 l_ c1/\OM kI tI false w X 1011 dN s.1/\RS ar w X a2 ac c2) (fun s=>μ1 s.1 s.2) (⟨([]:List (Int × Int)),0⟩) ?_ ?_
  ·exact ⟨Z,_,cy,hS.sl _,hO,h1,h104,h2⟩
  rintro ⟨d9,cQ⟩ a yz ⟨Z,zT,hI,hS,hO,h105,h107,h108⟩
  replace hm:=hm d9 cQ hI
  clear hI cy
  refine rPe T hS [] [(14,B (decide (cQ < (lN ac))))] fun a hS=>?_
  refine bd ?_
  refine aF hS (b:=decide (cQ < (lN ac))) kr (fun hb=>?_) fun hb=>?_
  ·replace hm:=hm.1 hb
   refine aL ?_
   refine b5 (fun a w=>∃ (Z:Nat->Nat) (X:Nat->Nat) (dl:List (Int × Int)),VC34_J2 I1 μ1 d9 cQ dl/\St Tryz.f34.ntmps ⟨[(0,Sl a1 l_ c1),(5,V (.map (some dN))),(11,Sl a2 ac c2),(12,I (lN ac)),(13,I cQ)],[]⟩ Z a w X/\Old w0 X0 w X/\RS ao w X a1 l_ c1/\OM kI tI false w X 1011 dN dl/\RS ar w X a2 ac c2) ?_ ?_
   ·refine aN ?_
    refine bn ?_
    refine oPe T hS 1 [14] [(15,I cQ)] fun a hS=>?_
    obtain ⟨hq,hm⟩:=hm
    refine op1 (index (e:=56) (k:=.i64) T hS kr kr kr kr h108 kr kr hq.1 hq.2 ?_)
    intro DD a h115 hS
    refine op1 (eB T hS kr kr kr h115 kr kr ?_)
    intro v116 a hv hS
    subst hv
    refine eM T hS ⟨[(0,Sl a1 l_ c1),(5,V (.map (some dN))),(6,I cQ),(7,Pt 8 0),(11,Sl a2 ac c2),(12,I (lN ac)),(13,I cQ)],[(8,(56,(cK (gi ac cQ))))]⟩ fun Z a sf wT hS hE hr=>?_
    replace hO:=hO.m2 hE
    replace h105:=h105.m1 hE
    replace h107:=h107.m2 hE
    replace h108:=h108.m1 hE
    clear hE hr
    refine bd ?_
    refine rPe T hS [] [(27,B ((decide (((gi ac cQ).Oper) < 0)) || (decide (((gi ac cQ).Oper)≥(lN l_)))))] (sp:=[21]) fun a hS=>?_
    refine aF hS (b:=((decide (((gi ac cQ).Oper) < 0)) || (decide (((gi ac cQ).Oper)≥(lN l_))))) kr (fun hb=>?_) fun hb=>?_
    ·replace hm:=hm.1 hb
     refine cl (by rfl) ?_
     exact ⟨Z,_,d9,hm,hS.sl _,hO,h105,h107,h108⟩
    replace hm:=hm.2 hb
    refine aL ?_
    refine b5 (fun a w=>∃ Z X,VC34_J3 ac I1 μ1 d9 cQ/\St Tryz.f34.ntmps ⟨[(0,Sl a1 l_ c1),(5,V (.map (some dN))),(7,Pt 8 0),(11,Sl a2 ac c2),(12,I (lN ac)),(13,I cQ)],[(8,(56,(cK (gi ac cQ))))]⟩ Z a w X/\Old w0 X0 w X/\RS ao w X a1 l_ c1/\OM kI tI false w X 1011 dN d9/\RS ar w X a2 ac c2) ?_ ?_
    ·refine rPe T hS [27] [(28,Sl a1 l_ c1),(29,I (lN l_)),(30,I 0)] fun a hS=>?_
     refine aN ?_
     obtain ⟨I2,μ2,cy,hm⟩:=hm
     refine cw (σ:=Int) (fun s a w=>∃ Z X,I2 s/\St Tryz.f34.ntmps ⟨[(0,Sl a1 l_ c1),(5,V (.map (some dN))),(6,I cQ),(7,Pt 8 0),(11,Sl a2 ac c2),(12,I (lN ac)),(13,I cQ),(28,Sl a1 l_ c1),(29,I (lN l_)),(30,I s)],[(8,(56,(cK (gi ac cQ))))]⟩ Z a w X/\Old w0 X0 w X/\RS ao w X a1 l_ c1/\OM kI tI false w X 1011 dN d9/\RS ar w X a2 ac c2/\RS ao w X a1 l_ c1) (fun s=>μ2 s) (0) ?_ ?_
     ·exact ⟨Z,_,cy,hS.sl _,hO,h105,h107,h108,h105⟩
     rintro d7 a EF ⟨Z,F4,hI,hS,hO,h123,h124,h125,h126⟩
     replace hm:=hm d7 hI
     clear hI cy
     refine rPe T hS [] [(31,B (decide (d7 < (lN l_))))] fun a hS=>?_
     refine bd ?_
     refine aF hS (b:=decide (d7 < (lN l_))) kr (fun hb=>?_) fun hb=>?_
     ·replace hm:=hm.1 hb
      refine aL (bd ?_)
      refine aN ?_
      refine bn ?_
      refine oPe T hS 1 [31] [(32,I d7)] fun a hS=>?_
      obtain ⟨hq,hm⟩:=hm
      refine op1 (index (e:=102) (k:=.i64) T hS kr kr kr kr h126 kr kr hq.1 hq.2 ?_)
      intro L5 a h129 hS
      refine op1 (eB T hS kr kr kr h129 kr kr ?_)
      intro v130 a hv hS
      subst hv
      refine eM T hS ⟨[(0,Sl a1 l_ c1),(5,V (.map (some dN))),(6,I cQ),(7,Pt 8 0),(8,I d7),(9,Pt 10 0),(11,Sl a2 ac c2),(12,I (lN ac)),(13,I cQ),(28,Sl a1 l_ c1),(29,I (lN l_)),(30,I d7)],[(8,(56,(cK (gi ac cQ)))),(10,(102,(cP (gi l_ d7))))]⟩ fun Z a Cu zU hS hE hr=>?_
      replace hO:=hO.m2 hE
      replace h123:=h123.m1 hE
      replace h124:=h124.m2 hE
      replace h125:=h125.m1 hE
      replace h126:=h126.m1 hE
      clear hE hr
      refine b5 (fun a w=>∃ (Z:Nat->Nat) (X:Nat->Nat) (fX:Bool),VC34_J4 Q cQ I2 μ2 d7 fX/\St Tryz.f34.ntmps ⟨[(0,Sl a1 l_ c1),(5,V (.map (some dN))),(6,I cQ),(7,Pt 8 0),(11,Sl a2 ac c2),(12,I (lN ac)),(13,I cQ),(28,Sl a1 l_ c1),(29,I (lN l_)),(30,I d7),(47,B fX)],[(8,(56,(cK (gi ac cQ))))]⟩ Z a w X/\Old w0 X0 w X/\RS ao w X a1 l_ c1/\OM kI tI false w X 1011 dN d9/\RS ar w X a2 ac c2/\RS ao w X a1 l_ c1) ?_ ?_
      ·refine gH [8,10] mixed hS ?_
       intro sh vz hS hE hD hH
       replace hO:=hO.m2 hE
       replace h123:=h123.m1 hE
       replace h124:=h124.m2 hE
       replace h125:=h125.m1 hE
       replace h126:=h126.m1 hE
       refine tke T [0,1,2,3] [8,10] hS hH #[true,true,true,true,false,false,false,false,false,false,false,false,false] 9 [9] [(35,V (.agg #[.int .i64 ((gi l_ d7).ah),.int .i64 ((gi l_ d7).Kind),.int .i64 ((gi l_ d7).aD),.int .i64 ((gi l_ d7).End),.int .i64 ((gi l_ d7).Result)])),(36,Sl a1 l_ c1),(38,I ((gi ac cQ).Oper))] fun a hS=>?_
       obtain ⟨hq,hm⟩:=hm
       refine c6 (e:=102) (k:=.i64) T 4 hS kr kr kr (by rfl) kr hH kr kr h123 kr kr hq.1 hq.2 ?_
       intro F9 a h139 hS
       have yb:=h139.here
       refine ku T 5 hS kr kr kr (by rfl) kr hH kr h139 yb kr kr ?_
       intro v140 a hv hS
       subst hv
       refine only 6 kr (by rfl) (call hS kr kr hb63 kr (fun _ _=>rfl) (ww _ _ (gi l_ d7) (gi l_ ((gi ac cQ).Oper))) ?_)
       intro v141 a qY ra hE hp hS
       replace hO:=hO.m2 hE
       replace hD:=hD.ev hE rfl
       replace h123:=h123.m1 hE
       replace h124:=h124.m2 hE
       replace h125:=h125.m1 hE
       replace h126:=h126.m1 hE
       replace h139:=h139.m1 hE
       obtain ⟨gp,hr⟩:∃ r,bb (gi l_ d7) (gi l_ ((gi ac cQ).Oper))=r:=⟨_,rfl⟩
       replace hm:=hm gp hr
       rw [hr] at hp
       clear hr
       subst hp
       replace hS:=hS.sle [] [(41,B gp)]
       refine cV (bI.of hS (bks:=[8,10]) kr hD) ?_
       intro hH
       refine tke T [7] [8,10] hS hH #[true,true,true,true,true,true,true,true,false,false,false,false,false] 5 [35,36,38,39,40,41] [(42,B gp)] fun a hS=>?_
       rcases bft gp with hb | hb
       ·replace hS:=hS.lit (t:=42) kr hb
        replace hm:=hm.1 hb
        refine tke T [8,9] [8,10] hS hH #[true,true,true,true,true,true,true,true,true,true,false,false,false] 3 [8] [(43,V (.map (some dN))),(44,I d7)] fun a hS=>?_
        refine only 10 kr (by rfl) (jB kI tI false (zv:=.int .i64 0) (z:=0) d7 hS kr kr kr kr Tryz.underlying113 Tryz.underlying3 kr rfl h124 ?_)
        intro v145 a hv hS
        replace hv:tI.R _ _ [v145] _:=hv
        cases hv
        refine cV (bI.of hS (bks:=[8,10]) kr hD) ?_
        intro hH
        refine tke T [11,12] [8,10] hS hH (tts 13) 0 [42,43,44,45] [(47,B (((aC d9 d7).getD 0) == 0))] fun a hS=>?_
        refine aV kr ?_
        replace hS:=hS.sl ⟨[(0,Sl a1 l_ c1),(5,V (.map (some dN))),(6,I cQ),(7,Pt 8 0),(11,Sl a2 ac c2),(12,I (lN ac)),(13,I cQ),(28,Sl a1 l_ c1),(29,I (lN l_)),(30,I d7),(47,B (((aC d9 d7).getD 0) == 0))],[(8,(56,(cK (gi ac cQ))))]⟩
        exact ⟨Z,_,(((aC d9 d7).getD 0) == 0),hm,hS.sl _,hO,h123,h124,h125,h126⟩
       replace hS:=hS.lit (t:=42) kr hb
       replace hm:=hm.2 hb
       refine tke T [8,9,10,11,12] [8,10] hS hH (tts 13) 0 [8,42] [(47,B false)] fun a hS=>?_
       refine aV kr ?_
       replace hS:=hS.sl ⟨[(0,Sl a1 l_ c1),(5,V (.map (some dN))),(6,I cQ),(7,Pt 8 0),(11,Sl a2 ac c2),(12,I (lN ac)),(13,I cQ),(28,Sl a1 l_ c1),(29,I (lN l_)),(30,I d7),(47,B false)],[(8,(56,(cK (gi ac cQ))))]⟩
       exact ⟨Z,_,false,hm,hS.sl _,hO,h123,h124,h125,h126⟩
      rintro a tO ⟨Z,zV,fX,hm,hS,hO,h131,h132,h133,h134⟩
      unfold VC34_J4 at hm
      refine aF hS (b:=fX) kr (fun hb=>?_) fun hb=>?_
      ·replace hm:=hm.1 hb
       refine rP T hS ⟨[(4,I cQ)],[]⟩ fun a hS=>?_
       refine aZ ?_
       exact fin T hS hO (fun c=>c) rfl (r:=[.int .i64 cQ]) kr (fun X' hM hC=>⟨cQ,hm,rfl⟩)
      replace hm:=hm.2 hb
      refine aL ?_
      refine region (ePe T hS [47] [(30,I (wR (d7+1)))] fun a hS=>?_)
      exact ⟨wR (d7+1),⟨Z,_,hm.1,hS.sl _,hO,h131,h132,h133,h134⟩,hm.2⟩
     replace hm:=hm.2 hb
     refine cl (by rfl) ?_
     exact ⟨Z,_,hm,hS.sl _,hO,h123,h124,h125⟩
    rintro a Ad ⟨Z,wU,hm,hS,hO,h117,h118,h119⟩
    unfold VC34_J3 at hm
    refine region ?_
    refine oP T hS 3 ⟨[(0,Sl a1 l_ c1),(5,V (.map (some dN))),(11,Sl a2 ac c2),(12,I (lN ac)),(13,I cQ),(50,V (.map (some dN))),(52,I ((gi ac cQ).Oper))],[]⟩ fun a hS=>?_
    refine op1 (jB kI tI false (zv:=.int .i64 0) (z:=0) ((gi ac cQ).Oper) hS kr kr kr kr Tryz.underlying113 Tryz.underlying3 kr rfl h118 ?_)
    intro v120 a hv hS
    replace hv:tI.R _ _ [v120] _:=hv
    cases hv
    refine oPe T hS 1 [53] [(54,I (wR (((aC d9 ((gi ac cQ).Oper)).getD 0)+1)))] fun a hS=>?_
    refine op1 (sZ kI tI false (v:=I (wR (((aC d9 ((gi ac cQ).Oper)).getD 0)+1))) (u:=wR (((aC d9 ((gi ac cQ).Oper)).getD 0)+1)) ((gi ac cQ).Oper) hS kr kr kr kr Tryz.underlying113 Tryz.underlying3 kr h118 rfl ?_)
    intro a vQ hE h122 hS
    clear h118
    replace hO:=hO.m2 hE
    replace h117:=h117.m1 hE
    replace h119:=h119.m1 hE
    refine g8 ?_
    exact ⟨Z,_,de d9 ((gi ac cQ).Oper) (wR (((aC d9 ((gi ac cQ).Oper)).getD 0)+1)),hm,hS.sl _,hO,h117,h122,h119⟩
   rintro a yA ⟨Z,BW,dl,hm,hS,hO,h110,h112,h113⟩
   unfold VC34_J2 at hm
   refine region (ePe T hS [] [(13,I (wR (cQ+1)))] fun a hS=>?_)
   exact ⟨⟨dl,wR (cQ+1)⟩,⟨Z,_,hm.1,hS.sl _,hO,h110,h112,h113⟩,hm.2⟩
  replace hm:=hm.2 hb
  refine cl (by rfl) ?_
  exact ⟨Z,_,hm,hS.sl _,hO⟩
 rintro a GH ⟨Z,Dw,hm,hS,hO⟩
 unfold VC34_J1 at hm
 refine rPe T hS [] [(4,I (-1))] fun a hS=>?_
 refine aZ ?_
 exact fin T hS hO (fun c=>c) rfl (r:=[.int .i64 (-1)]) kr (fun X' hM hC=>⟨(-1),hm,rfl⟩)
theorem C34 (ww:S63) (v:∀ (l_:List ab) (ac:List aa),VC34 l_ ac (fun r=>r=ct l_ ac)):S34:=by
 intro w X l_ ac a1 c1 a2 c2   h1 h2
 refine (W34 ww w X l_ ac a1 c1 a2 c2   _ (v l_ ac) h1 h2).mono ?_
 rintro _ _ _ _ ⟨r,rfl,h⟩
 exact h
theorem W106 (w0) (X0) (o_:ab) (Q:Bool->Prop) (hm:VC106 o_ Q) :
  Ret Tryz.prog 106 #[.agg #[.int .i64 o_.ah,.int .i64 o_.Kind,.int .i64 o_.aD,.int .i64 o_.End,.int .i64 o_.Result]] aJ w0 X0 (fun w X' v=>∃ r,Q r/\v=.bool r):=by
 unfold VC106 at hm
 refine enter Tryz.func106 rfl (vals:=[.agg #[.int .i64 o_.ah,.int .i64 o_.Kind,.int .i64 o_.aD,.int .i64 o_.End,.int .i64 o_.Result]]) kr ?_
 intro Z a hS hO hM
 refine rM T hS ⟨[(1,Pt 2 0)],[(2,(102,(cP o_)))]⟩ fun Z a n5 oI hS hE hr=>?_
 replace hO:=hO.m2 hE
 clear hE hr
 refine bd ?_
 refine rPe T hS [] [(5,B (o_.End == (-1)))] fun a hS=>?_
 refine aF hS (b:=(o_.End == (-1))) kr (fun hb=>?_) fun hb=>?_
 ·replace hm:=hm.1 hb
  refine rP T hS ⟨[(2,B (o_.Result == (-1)))],[]⟩ fun a hS=>?_
  refine aZ ?_
  exact fin T hS hO (fun c=>c) rfl (r:=[.bool (o_.Result == (-1))]) kr (fun X' hM hC=>⟨(o_.Result == (-1)),hm,rfl⟩)
 replace hm:=hm.2 hb
 refine aL ?_
 refine rP T hS ⟨[(2,B ((((decide (o_.End > o_.aD)) && (decide (o_.End≤9999))) && (decide (o_.Result≥0))) && (decide (o_.Result≤1000000))))],[]⟩ (sp:=[14,19,24]) fun a hS=>?_
 refine aZ ?_
 exact fin T hS hO (fun c=>c) rfl (r:=[.bool ((((decide (o_.End > o_.aD)) && (decide (o_.End≤9999))) && (decide (o_.Result≥0))) && (decide (o_.Result≤1000000)))]) kr (fun X' hM hC=>⟨((((decide (o_.End > o_.aD)) && (decide (o_.End≤9999))) && (decide (o_.Result≥0))) && (decide (o_.Result≤1000000))),hm,rfl⟩)
theorem C106 (v:∀ (o_:ab),VC106 o_ (fun r=>r=dU o_)):S106:=by
 intro w X o_    
 refine (W106 w X o_    _ (v o_)).mono ?_
 rintro _ _ _ _ ⟨r,rfl,h⟩
 exact h
theorem W95 (Fo:S106) (w0) (X0) (o_:ab) (Q:Int->Prop) (hm:VC95 o_ Q) :
  Ret Tryz.prog 95 #[.agg #[.int .i64 o_.ah,.int .i64 o_.Kind,.int .i64 o_.aD,.int .i64 o_.End,.int .i64 o_.Result]] aJ w0 X0 (fun w X' v=>∃ r,Q r/\v=.int .i64 r):=by
 unfold VC95 at hm
 refine enter Tryz.func95 rfl (vals:=[.agg #[.int .i64 o_.ah,.int .i64 o_.Kind,.int .i64 o_.aD,.int .i64 o_.End,.int .i64 o_.Result]]) kr ?_
 intro Z a hS hO hM
 refine rM T hS ⟨[(1,Pt 2 0)],[(2,(102,(cP o_)))]⟩ fun Z a mH lB hS hE hr=>?_
 replace hO:=hO.m2 hE
 clear hE hr
 refine bd ?_
 refine aN ?_
 refine rPe T hS [] [(3,B ((((decide (o_.ah < 1)) || (decide (o_.ah > 1000))) || (decide (o_.aD < 0))) || (decide (o_.aD > 9999))))] (sp:=[7,12,17]) fun a hS=>?_
 refine aF hS (b:=((((decide (o_.ah < 1)) || (decide (o_.ah > 1000))) || (decide (o_.aD < 0))) || (decide (o_.aD > 9999)))) kr (fun hb=>?_) fun hb=>?_
 ·replace hm:=hm.1 hb
  refine rP T hS ⟨[(2,I 2)],[]⟩ fun a hS=>?_
  refine aZ ?_
  exact fin T hS hO (fun c=>c) rfl (r:=[.int .i64 2]) kr (fun X' hM hC=>⟨2,hm,rfl⟩)
 replace hm:=hm.2 hb
 refine rPe T hS [3] [(22,B ((decide (o_.Kind < 0)) || (decide (o_.Kind≥64))))] (sp:=[26]) fun a hS=>?_
 refine aF hS (b:=((decide (o_.Kind < 0)) || (decide (o_.Kind≥64)))) kr (fun hb=>?_) fun hb=>?_
 ·replace hm:=hm.1 hb
  refine rP T hS ⟨[(2,I 31)],[]⟩ fun a hS=>?_
  refine aZ ?_
  exact fin T hS hO (fun c=>c) rfl (r:=[.int .i64 31]) kr (fun X' hM hC=>⟨31,hm,rfl⟩)
 replace hm:=hm.2 hb
 refine bn ?_
 refine oP T hS 1 ⟨[(32,V (.agg #[.int .i64 o_.ah,.int .i64 o_.Kind,.int .i64 o_.aD,.int .i64 o_.End,.int .i64 o_.Result]))],[]⟩ fun a hS=>?_
 refine op1 (call hS kr kr hb106 kr (fun _ _=>rfl) (Fo _ _ o_) ?_)
 intro v101 a fh fo hE hp hS
 replace hO:=hO.m2 hE
 obtain ⟨av,hr⟩:∃ r,dU o_=r:=⟨_,rfl⟩
 replace hm:=hm av hr
 rw [hr] at hp
 clear hr
 subst hp
 refine ePe T hS [32,33] [(31,B (!av))] fun a hS=>?_
 refine aF hS (b:=(!av)) kr (fun hb=>?_) fun hb=>?_
 ·replace hm:=hm.1 hb
  refine rPe T hS [31] [(2,I 7)] fun a hS=>?_
  refine aZ ?_
  exact fin T hS hO (fun c=>c) rfl (r:=[.int .i64 7]) kr (fun X' hM hC=>⟨7,hm,rfl⟩)
 replace hm:=hm.2 hb
 refine aL ?_
 refine rPe T hS [31] [(2,I 0)] fun a hS=>?_
 refine aZ ?_
 exact fin T hS hO (fun c=>c) rfl (r:=[.int .i64 0]) kr (fun X' hM hC=>⟨0,hm,rfl⟩)
theorem C95 (Fo:S106) (v:∀ (o_:ab),VC95 o_ (fun r=>r=da o_)):S95:=by
 intro w X o_    
 refine (W95 Fo w X o_    _ (v o_)).mono ?_
 rintro _ _ _ _ ⟨r,rfl,h⟩
 exact h
theorem W80 (ww:S63) (JM:S95) (w0) (X0) (l_:List ab) (a1) (c1) (Q:Int × Int->Prop) (hm:VC80 l_ Q) (h1:RS ao w0 X0 a1 l_ c1) :
  Ret Tryz.prog 80 #[.slice a1 l_.length c1] aJ w0 X0 (fun w X' v=>∃ r,Q r/\v=.tuple #[.int .i64 r.1,.int .i64 r.2]):=by
 unfold VC80 at hm
 replace hm:=hm (h1.sm kr)
 refine enter Tryz.func80 rfl (vals:=[.slice a1 l_.length c1]) kr ?_
 intro Z a hS hO hM
 replace h1:=h1.m0 hM
 refine rPe T hS [] [] fun a hS=>?_
 refine bd ?_
 refine rPe T hS [] [(13,B (decide ((lN l_) > 5000)))] fun a hS=>?_
 refine aF hS (b:=decide ((lN l_) > 5000)) kr (fun hb=>?_) fun hb=>?_
 ·replace hm:=hm.1 hb
  refine rPe T hS [0,13] [(2,I 0),(3,I 3)] fun a hS=>?_
  refine aZ ?_
  exact fin T hS hO (fun c=>c) rfl (r:=[.int .i64 0,.int .i64 3]) kr (fun X' hM hC=>⟨(0,3),hm,rfl⟩)
 replace hm:=hm.2 hb
 refine aL ?_
 refine bn ?_
 refine op1 (oR kI tI false 1015 hS kr kr ?_)
 intro dN a fh fo hE h104 hS
 replace hO:=hO.m2 hE
 replace h1:=h1.m1 hE
 refine ePe T hS [13,14] [(4,V (.map (some dN)))] fun a hS=>?_
 refine bn ?_
 refine op1 (oR kI ao true 1016 hS kr kr ?_)
 intro iJ a nk ne hE h108 hS
 replace hO:=hO.m2 hE
 replace h1:=h1.m1 hE
 replace h104:=h104.m2 hE
 refine ePe T hS [15] [(5,V (.map (some iJ)))] fun a hS=>?_
 refine b5 (fun a w=>∃ Z X,VC80_J1 l_ Q/\St Tryz.f80.ntmps ⟨[(0,Sl a1 l_ c1)],[]⟩ Z a w X/\Old w0 X0 w X/\RS ao w X a1 l_ c1) ?_ ?_
 ·refine rPe T hS [] [(16,Sl a1 l_ c1),(17,I (lN l_)),(18,I 0)] fun a hS=>?_
  refine aN ?_
  obtain ⟨I1,μ1,cy,hm⟩:=hm
  refine cw (σ:=(List (Int × Int)) × (List (Int × ab)) × Int) (fun s a w=>∃ Z X,I1 s.1 s.2.1 s.2.2/\St Tryz.f80.ntmps ⟨[(0,Sl a1 l_ c1),(4,V (.map (some dN))),(5,V (.map (some iJ))),(16,Sl a1 l_ c1),(17,I (lN l_)),(18,I s.2.2)],[]⟩ Z a w X/\Old w0 X0 w X/\RS ao w X a1 l_ c1/\OM kI tI false w X 1015 dN s.1/\OM kI ao true w X 1016 iJ s.2.1/\RS ao w X a1 l_ c1) (fun s=>μ1 s.1 s.2.1 s.2.2) (⟨([]:List (Int × Int)),([]:List (Int × ab)),0⟩) ?_ ?_
  ·exact ⟨Z,_,cy,hS.sl _,hO,h1,h104,h108,h1⟩
  rintro ⟨dl,bc,aY⟩ a GD ⟨Z,Ix,hI,hS,hO,h110,h112,h114,h115⟩
  replace hm:=hm dl bc aY hI
  clear hI cy
  refine rPe T hS [] [(19,B (decide (aY < (lN l_))))] fun a hS=>?_
  refine bd ?_
  refine aF hS (b:=decide (aY < (lN l_))) kr (fun hb=>?_) fun hb=>?_
  ·replace hm:=hm.1 hb
   refine aL ?_
   refine b5 (fun a w=>∃ (Z:Nat->Nat) (X:Nat->Nat) (je:List (Int × Int)),VC80_J2 l_ I1 μ1 dl bc aY je/\St Tryz.f80.ntmps ⟨[(0,Sl a1 l_ c1),(4,V (.map (some dN))),(5,V (.map (some iJ))),(16,Sl a1 l_ c1),(17,I (lN l_)),(18,I aY)],[]⟩ Z a w X/\Old w0 X0 w X/\RS ao w X a1 l_ c1/\OM kI tI false w X 1015 dN je/\OM kI ao true w X 1016 iJ (de bc ((gi l_ aY).ah) (gi l_ aY))/\RS ao w X a1 l_ c1) ?_ ?_
   ·refine aN ?_
    refine bn ?_
    refine oPe T hS 1 [19] [(20,I aY)] fun a hS=>?_
    obtain ⟨hq,hm⟩:=hm
    refine op1 (index (e:=102) (k:=.i64) T hS kr kr kr kr h115 kr kr hq.1 hq.2 ?_)
    intro B6 a h123 hS
    refine op1 (eB T hS kr kr kr h123 kr kr ?_)
    intro v124 a hv hS
    subst hv
    refine eM T hS ⟨[(0,Sl a1 l_ c1),(4,V (.map (some dN))),(5,V (.map (some iJ))),(6,I aY),(7,Pt 8 0),(16,Sl a1 l_ c1),(17,I (lN l_)),(18,I aY)],[(8,(102,(cP (gi l_ aY))))]⟩ fun Z a Jq PY hS hE hr=>?_
    replace hO:=hO.m2 hE
    replace h110:=h110.m1 hE
    replace h112:=h112.m2 hE
    replace h114:=h114.m2 hE
    replace h115:=h115.m1 hE
    clear hE hr
    refine bd ?_
    refine bn ?_
    refine oPe T hS 1 [] [(23,V (.agg #[.int .i64 ((gi l_ aY).ah),.int .i64 ((gi l_ aY).Kind),.int .i64 ((gi l_ aY).aD),.int .i64 ((gi l_ aY).End),.int .i64 ((gi l_ aY).Result)]))] fun a hS=>?_
    refine op1 (call hS kr kr hb95 kr (fun _ _=>rfl) (JM _ _ (gi l_ aY)) ?_)
    intro v125 a tQ qR hE hp hS
    replace hO:=hO.m2 hE
    replace h110:=h110.m1 hE
    replace h112:=h112.m2 hE
    replace h114:=h114.m2 hE
    replace h115:=h115.m1 hE
    obtain ⟨bO,hr⟩:∃ r,da (gi l_ aY)=r:=⟨_,rfl⟩
    replace hm:=hm bO hr
    rw [hr] at hp
    clear hr
    subst hp
    refine ePe T hS [23,24] [(8,I bO)] fun a hS=>?_
    refine rPe T hS [] [(26,B (bO != 0))] fun a hS=>?_
    refine aF hS (b:=(bO != 0)) kr (fun hb=>?_) fun hb=>?_
    ·replace hm:=hm.1 hb
     refine rP T hS ⟨[(2,I aY),(3,I bO)],[]⟩ fun a hS=>?_
     refine aZ ?_
     exact fin T hS hO (fun c=>c) rfl (r:=[.int .i64 aY,.int .i64 bO]) kr (fun X' hM hC=>⟨(aY,bO),hm,rfl⟩)
    replace hm:=hm.2 hb
    refine aL (bd ?_)
    refine b5 (fun a w=>∃ (Z:Nat->Nat) (X:Nat->Nat) (mc:Bool),VC80_J3 l_ Q I1 μ1 dl bc aY mc/\St Tryz.f80.ntmps ⟨[(0,Sl a1 l_ c1),(4,V (.map (some dN))),(5,V (.map (some iJ))),(6,I aY),(7,Pt 8 0),(16,Sl a1 l_ c1),(17,I (lN l_)),(18,I aY),(60,B mc)],[(8,(102,(cP (gi l_ aY))))]⟩ Z a w X/\Old w0 X0 w X/\RS ao w X a1 l_ c1/\OM kI tI false w X 1015 dN dl/\OM kI ao true w X 1016 iJ bc/\RS ao w X a1 l_ c1) ?_ ?_
    ·refine gH [8] mixed hS ?_
     intro GI Dx hS hE hD hH
     replace hO:=hO.m2 hE
     replace h110:=h110.m1 hE
     replace h112:=h112.m2 hE
     replace h114:=h114.m2 hE
     replace h115:=h115.m1 hE
     refine tke T [0,1,2] [8] hS hH #[true,true,true,false,false,false,false,false,false,false,false,false,false,false,false,false,false,false,false,false,false,false,false,false,false,false,false,false,false,false,false,false] 29 [] [(31,B (decide (aY > 0)))] fun a hS=>?_
     rcases bft (decide (aY > 0)) with hb | hb
     ·replace hS:=hS.lit (t:=31) kr hb
      replace hm:=hm.1 hb
      refine tke T [3,5,6,4,7] [8] hS hH #[true,true,true,true,true,true,true,true,false,false,false,false,false,false,false,false,false,false,false,false,false,false,false,false,false,false,false,false,false,false,false,false] 24 [] [(33,I ((gi l_ aY).aD)),(34,Sl a1 l_ c1),(36,I (wR (aY - 1)))] fun a hS=>?_
      obtain ⟨hq,hm⟩:=hm
      refine c6 (e:=102) (k:=.i64) T 8 hS kr kr kr (by rfl) kr hH kr kr h110 kr kr hq.1 hq.2 ?_
      intro QE a h159 hS
      have HD:=h159.here
      refine dh (off:=2) (fsz:=1) (ft:=3) (TF:=tI) (y:=(gi l_ (wR (aY - 1))).aD) 9 T hS kr kr kr (by rfl) kr hH kr h159 kr kr kr (fun cs h=>o3 h) ?_
      intro QD a h161 fv hS
      have El:=HD
      rw [← fv] at El
      clear fv
      refine dF T 10 hS kr kr kr (by rfl) kr hH kr h161 El rfl kr ?_
      intro v162 a hv hS
      cases hv
      refine tke T [11,12,13] [8] hS hH #[true,true,true,true,true,true,true,true,true,true,true,true,true,true,false,false,false,false,false,false,false,false,false,false,false,false,false,false,false,false,false,false] 18 [31,33,34,36,37,38,39] [(42,B (decide (((gi l_ aY).aD)≤((gi l_ (wR (aY - 1))).aD))))] fun a hS=>?_
      rcases bft (decide (((gi l_ aY).aD)≤((gi l_ (wR (aY - 1))).aD))) with hb | hb
      ·replace hS:=hS.lit (t:=42) kr hb
       replace hm:=hm.1 hb
       refine tke T [14,15,16,17,18,19,20,21,22,23,24,25,26,27,28,29,30,31] [8] hS hH (tts 32) 0 [42] [(60,B true)] fun a hS=>?_
       refine aV kr ?_
       replace hS:=hS.sle [] []
       exact ⟨Z,_,true,hm,hS.sl _,hO,h110,h112,h114,h115⟩
      replace hS:=hS.lit (t:=42) kr hb
      replace hm:=hm.2 hb
      refine tke T [14,15,16] [8] hS hH #[true,true,true,true,true,true,true,true,true,true,true,true,true,true,true,true,true,false,false,false,false,false,false,false,false,false,false,false,false,false,false,false] 15 [] [(43,V (.map (some dN))),(45,I ((gi l_ aY).aD))] fun a hS=>?_
      refine only 17 kr (by rfl) (jB kI tI false (zv:=.int .i64 0) (z:=0) ((gi l_ aY).aD) hS kr kr kr kr Tryz.underlying113 Tryz.underlying3 kr rfl h112 ?_)
      intro v163 a hv hS
      replace hv:tI.R _ _ [v163] _:=hv
      cases hv
      refine cV (bI.of hS (bks:=[8]) kr hD) ?_
      intro hH
      refine tke T [18,19,20] [8] hS hH #[true,true,true,true,true,true,true,true,true,true,true,true,true,true,true,true,true,true,true,true,true,false,false,false,false,false,false,false,false,false,false,false] 11 [42,43,45,46] [(49,B (decide (((aC dl ((gi l_ aY).aD)).getD 0) > 0)))] fun a hS=>?_
      rcases bft (decide (((aC dl ((gi l_ aY).aD)).getD 0) > 0)) with hb | hb
      ·replace hS:=hS.lit (t:=49) kr hb
       replace hm:=hm.1 hb
       refine tke T [21,22,23,24,25,26,27,28,29,30,31] [8] hS hH (tts 32) 0 [49] [(60,B true)] fun a hS=>?_
       refine aV kr ?_
       replace hS:=hS.sle [] []
       exact ⟨Z,_,true,hm,hS.sl _,hO,h110,h112,h114,h115⟩
      replace hS:=hS.lit (t:=49) kr hb
      replace hm:=hm.2 hb
      refine tke T [21,22,23,24] [8] hS hH #[true,true,true,true,true,true,true,true,true,true,true,true,true,true,true,true,true,true,true,true,true,true,true,true,true,false,false,false,false,false,false,false] 7 [] [(53,B (decide (((gi l_ aY).End)≥0)))] fun a hS=>?_
      rcases bft (decide (((gi l_ aY).End)≥0)) with hb | hb
      ·replace hS:=hS.lit (t:=53) kr hb
       replace hm:=hm.1 hb
       refine tke T [25,26,27] [8] hS hH #[true,true,true,true,true,true,true,true,true,true,true,true,true,true,true,true,true,true,true,true,true,true,true,true,true,true,true,true,false,false,false,false] 4 [] [(54,V (.map (some dN))),(56,I ((gi l_ aY).End))] fun a hS=>?_
       refine only 28 kr (by rfl) (jB kI tI false (zv:=.int .i64 0) (z:=0) ((gi l_ aY).End) hS kr kr kr kr Tryz.underlying113 Tryz.underlying3 kr rfl h112 ?_)
       intro v164 a hv hS
       replace hv:tI.R _ _ [v164] _:=hv
       cases hv
       refine cV (bI.of hS (bks:=[8]) kr hD) ?_
       intro hH
       refine tke T [29,30,31] [8] hS hH (tts 32) 0 [49,53,54,56,57] [(60,B (decide (((aC dl ((gi l_ aY).End)).getD 0) > 0)))] fun a hS=>?_
       refine aV kr ?_
       replace hS:=hS.sle [] []
       exact ⟨Z,_,decide (((aC dl ((gi l_ aY).End)).getD 0) > 0),hm,hS.sl _,hO,h110,h112,h114,h115⟩
      replace hS:=hS.lit (t:=53) kr hb
      replace hm:=hm.2 hb
      refine tke T [25,26,27,28,29,30,31] [8] hS hH (tts 32) 0 [49,53] [(60,B false)] fun a hS=>?_
      refine aV kr ?_
      replace hS:=hS.sle [] []
      exact ⟨Z,_,false,hm,hS.sl _,hO,h110,h112,h114,h115⟩
     replace hS:=hS.lit (t:=31) kr hb
     replace hm:=hm.2 hb
     refine tke T [3,5,6,4,7,8,9,10,11,12,13,14,15,16] [8] hS hH #[true,true,true,true,true,true,true,true,true,true,true,true,true,true,true,true,true,false,false,false,false,false,false,false,false,false,false,false,false,false,false,false] 15 [31] [(42,B false),(43,V (.map (some dN))),(45,I ((gi l_ aY).aD))] fun a hS=>?_
     refine only 17 kr (by rfl) (jB kI tI false (zv:=.int .i64 0) (z:=0) ((gi l_ aY).aD) hS kr kr kr kr Tryz.underlying113 Tryz.underlying3 kr rfl h112 ?_)
     intro v165 a hv hS
     replace hv:tI.R _ _ [v165] _:=hv
     cases hv
     refine cV (bI.of hS (bks:=[8]) kr hD) ?_
     intro hH
     refine tke T [18,19,20] [8] hS hH #[true,true,true,true,true,true,true,true,true,true,true,true,true,true,true,true,true,true,true,true,true,false,false,false,false,false,false,false,false,false,false,false] 11 [42,43,45,46] [(49,B (decide (((aC dl ((gi l_ aY).aD)).getD 0) > 0)))] fun a hS=>?_
     rcases bft (decide (((aC dl ((gi l_ aY).aD)).getD 0) > 0)) with hb | hb
     ·replace hS:=hS.lit (t:=49) kr hb
      replace hm:=hm.1 hb
      refine tke T [21,22,23,24,25,26,27,28,29,30,31] [8] hS hH (tts 32) 0 [49] [(60,B true)] fun a hS=>?_
      refine aV kr ?_
      replace hS:=hS.sle [] []
      exact ⟨Z,_,true,hm,hS.sl _,hO,h110,h112,h114,h115⟩
     replace hS:=hS.lit (t:=49) kr hb
     replace hm:=hm.2 hb
     refine tke T [21,22,23,24] [8] hS hH #[true,true,true,true,true,true,true,true,true,true,true,true,true,true,true,true,true,true,true,true,true,true,true,true,true,false,false,false,false,false,false,false] 7 [] [(53,B (decide (((gi l_ aY).End)≥0)))] fun a hS=>?_
     rcases bft (decide (((gi l_ aY).End)≥0)) with hb | hb
     ·replace hS:=hS.lit (t:=53) kr hb
      replace hm:=hm.1 hb
      refine tke T [25,26,27] [8] hS hH #[true,true,true,true,true,true,true,true,true,true,true,true,true,true,true,true,true,true,true,true,true,true,true,true,true,true,true,true,false,false,false,false] 4 [] [(54,V (.map (some dN))),(56,I ((gi l_ aY).End))] fun a hS=>?_
      refine only 28 kr (by rfl) (jB kI tI false (zv:=.int .i64 0) (z:=0) ((gi l_ aY).End) hS kr kr kr kr Tryz.underlying113 Tryz.underlying3 kr rfl h112 ?_)
      intro v166 a hv hS
      replace hv:tI.R _ _ [v166] _:=hv
      cases hv
      refine cV (bI.of hS (bks:=[8]) kr hD) ?_
      intro hH
      refine tke T [29,30,31] [8] hS hH (tts 32) 0 [49,53,54,56,57] [(60,B (decide (((aC dl ((gi l_ aY).End)).getD 0) > 0)))] fun a hS=>?_
      refine aV kr ?_
      replace hS:=hS.sle [] []
      exact ⟨Z,_,decide (((aC dl ((gi l_ aY).End)).getD 0) > 0),hm,hS.sl _,hO,h110,h112,h114,h115⟩
     replace hS:=hS.lit (t:=53) kr hb
     replace hm:=hm.2 hb
     refine tke T [25,26,27,28,29,30,31] [8] hS hH (tts 32) 0 [49,53] [(60,B false)] fun a hS=>?_
     refine aV kr ?_
     replace hS:=hS.sle [] []
     exact ⟨Z,_,false,hm,hS.sl _,hO,h110,h112,h114,h115⟩
    rintro a Cp ⟨Z,F1,mc,hm,hS,hO,h129,h130,h131,h132⟩
    unfold VC80_J3 at hm
    refine aF hS (b:=mc) kr (fun hb=>?_) fun hb=>?_
    ·replace hm:=hm.1 hb
     refine rP T hS ⟨[(2,I aY),(3,I 32)],[]⟩ fun a hS=>?_
     refine aZ ?_
     exact fin T hS hO (fun c=>c) rfl (r:=[.int .i64 aY,.int .i64 32]) kr (fun X' hM hC=>⟨(aY,32),hm,rfl⟩)
    replace hm:=hm.2 hb
    refine aL (bd ?_)
    refine bn ?_
    refine oPe T hS 3 [60] [(63,V (.map (some iJ))),(65,I ((gi l_ aY).ah))] fun a hS=>?_
    refine op1 (E3 kI ao true (zv:=.agg #[.int .i64 0,.int .i64 0,.int .i64 0,.int .i64 0,.int .i64 0]) (z:=(⟨0,0,0,0,0⟩:ab)) ((gi l_ aY).ah) hS kr kr kr kr Tryz.underlying153 Tryz.underlying3 kr ⟨_,rfl,rfl⟩ h131 ?_)
    intro v134 a hv hS
    obtain ⟨_,rfl,hv⟩:=hv
    cases hv
    refine eM T hS ⟨[(0,Sl a1 l_ c1),(4,V (.map (some dN))),(5,V (.map (some iJ))),(6,I aY),(7,Pt 8 0),(9,Pt 10 0),(10,B ((aC bc ((gi l_ aY).ah)).isSome)),(16,Sl a1 l_ c1),(17,I (lN l_)),(18,I aY)],[(8,(102,(cP (gi l_ aY)))),(10,(102,(cP ((aC bc ((gi l_ aY).ah)).getD (⟨0,0,0,0,0⟩:ab)))))]⟩ fun Z a sf wT hS hE hr=>?_
    replace hO:=hO.m2 hE
    replace h129:=h129.m1 hE
    replace h130:=h130.m2 hE
    replace h131:=h131.m2 hE
    replace h132:=h132.m1 hE
    clear hE hr
    refine b5 (fun a w=>∃ (Z:Nat->Nat) (X:Nat->Nat) (jd:Bool),VC80_J4 l_ Q I1 μ1 dl bc aY jd/\St Tryz.f80.ntmps ⟨[(0,Sl a1 l_ c1),(4,V (.map (some dN))),(5,V (.map (some iJ))),(6,I aY),(7,Pt 8 0),(16,Sl a1 l_ c1),(17,I (lN l_)),(18,I aY),(75,B jd)],[(8,(102,(cP (gi l_ aY))))]⟩ Z a w X/\Old w0 X0 w X/\RS ao w X a1 l_ c1/\OM kI tI false w X 1015 dN dl/\OM kI ao true w X 1016 iJ bc/\RS ao w X a1 l_ c1) ?_ ?_
    ·refine region ?_
     refine oPe T hS 2 [10] [(70,B ((aC bc ((gi l_ aY).ah)).isSome))] fun a hS=>?_
     rcases bft ((aC bc ((gi l_ aY).ah)).isSome) with hb | hb
     ·replace hS:=hS.lit (t:=70) kr hb
      replace hm:=hm.1 hb
      refine oP T hS 2 ⟨[(0,Sl a1 l_ c1),(4,V (.map (some dN))),(5,V (.map (some iJ))),(6,I aY),(7,Pt 8 0),(16,Sl a1 l_ c1),(17,I (lN l_)),(18,I aY),(70,B true),(71,V (.agg #[.int .i64 (((aC bc ((gi l_ aY).ah)).getD (⟨0,0,0,0,0⟩:ab)).ah),.int .i64 (((aC bc ((gi l_ aY).ah)).getD (⟨0,0,0,0,0⟩:ab)).Kind),.int .i64 (((aC bc ((gi l_ aY).ah)).getD (⟨0,0,0,0,0⟩:ab)).aD),.int .i64 (((aC bc ((gi l_ aY).ah)).getD (⟨0,0,0,0,0⟩:ab)).End),.int .i64 (((aC bc ((gi l_ aY).ah)).getD (⟨0,0,0,0,0⟩:ab)).Result)])),(72,V (.agg #[.int .i64 ((gi l_ aY).ah),.int .i64 ((gi l_ aY).Kind),.int .i64 ((gi l_ aY).aD),.int .i64 ((gi l_ aY).End),.int .i64 ((gi l_ aY).Result)]))],[(8,(102,(cP (gi l_ aY))))]⟩ fun a hS=>?_
      refine op1 (call hS kr kr hb63 kr (fun _ _=>rfl) (ww _ _ ((aC bc ((gi l_ aY).ah)).getD (⟨0,0,0,0,0⟩:ab)) (gi l_ aY)) ?_)
      intro v148 a EG F4 hE hp hS
      replace hO:=hO.m2 hE
      replace h129:=h129.m1 hE
      replace h130:=h130.m2 hE
      replace h131:=h131.m2 hE
      replace h132:=h132.m1 hE
      obtain ⟨oa,hr⟩:∃ r,bb ((aC bc ((gi l_ aY).ah)).getD (⟨0,0,0,0,0⟩:ab)) (gi l_ aY)=r:=⟨_,rfl⟩
      replace hm:=hm oa hr
      rw [hr] at hp
      clear hr
      subst hp
      refine ePe T hS [70,71,72,73] [(75,B (!oa))] fun a hS=>?_
      exact ⟨Z,_,(!oa),hm,hS.sl _,hO,h129,h130,h131,h132⟩
     replace hS:=hS.lit (t:=70) kr hb
     replace hm:=hm.2 hb
     refine eP T hS ⟨[(0,Sl a1 l_ c1),(4,V (.map (some dN))),(5,V (.map (some iJ))),(6,I aY),(7,Pt 8 0),(16,Sl a1 l_ c1),(17,I (lN l_)),(18,I aY),(75,B false)],[(8,(102,(cP (gi l_ aY))))]⟩ fun a hS=>?_
     exact ⟨Z,_,false,hm,hS.sl _,hO,h129,h130,h131,h132⟩
    rintro a Ad ⟨Z,wU,jd,hm,hS,hO,h135,h136,h137,h138⟩
    unfold VC80_J4 at hm
    refine aF hS (b:=jd) kr (fun hb=>?_) fun hb=>?_
    ·replace hm:=hm.1 hb
     refine rP T hS ⟨[(2,I aY),(3,I 33)],[]⟩ fun a hS=>?_
     refine aZ ?_
     exact fin T hS hO (fun c=>c) rfl (r:=[.int .i64 aY,.int .i64 33]) kr (fun X' hM hC=>⟨(aY,33),hm,rfl⟩)
    replace hm:=hm.2 hb
    refine aL ?_
    refine bn ?_
    refine oPe T hS 3 [6,75] [(77,V (.map (some dN))),(79,I ((gi l_ aY).aD))] fun a hS=>?_
    refine op1 (jB kI tI false (zv:=.int .i64 0) (z:=0) ((gi l_ aY).aD) hS kr kr kr kr Tryz.underlying113 Tryz.underlying3 kr rfl h136 ?_)
    intro v140 a hv hS
    replace hv:tI.R _ _ [v140] _:=hv
    cases hv
    refine oPe T hS 1 [80] [(81,I (wR (((aC dl ((gi l_ aY).aD)).getD 0)+1)))] fun a hS=>?_
    refine op1 (sZ kI tI false (v:=I (wR (((aC dl ((gi l_ aY).aD)).getD 0)+1))) (u:=wR (((aC dl ((gi l_ aY).aD)).getD 0)+1)) ((gi l_ aY).aD) hS kr kr kr kr Tryz.underlying113 Tryz.underlying3 kr h136 rfl ?_)
    intro a NK hE h142 hS
    clear h136
    replace hO:=hO.m2 hE
    replace h135:=h135.m1 hE
    replace h137:=h137.m2 hE
    replace h138:=h138.m1 hE
    refine g8 ?_
    refine bn ?_
    refine oPe T hS 4 [] [(82,V (.map (some iJ))),(84,I ((gi l_ aY).ah)),(85,V (.agg #[.int .i64 ((gi l_ aY).ah),.int .i64 ((gi l_ aY).Kind),.int .i64 ((gi l_ aY).aD),.int .i64 ((gi l_ aY).End),.int .i64 ((gi l_ aY).Result)]))] fun a hS=>?_
    refine op1 (sZ kI ao true (v:=V (.agg #[.int .i64 ((gi l_ aY).ah),.int .i64 ((gi l_ aY).Kind),.int .i64 ((gi l_ aY).aD),.int .i64 ((gi l_ aY).End),.int .i64 ((gi l_ aY).Result)])) (u:=(gi l_ aY)) ((gi l_ aY).ah) hS kr kr kr kr Tryz.underlying153 Tryz.underlying3 kr h137 ⟨_,rfl,rfl⟩ ?_)
    intro a GK hE h144 hS
    clear h137
    replace hO:=hO.m2 hE
    replace h135:=h135.m1 hE
    replace h138:=h138.m1 hE
    replace h142:=h142.m2 hE
    refine g8 ?_
    refine rPe T hS [] [(88,B (decide (((gi l_ aY).End)≥0)))] fun a hS=>?_
    refine aF hS (b:=decide (((gi l_ aY).End)≥0)) kr (fun hb=>?_) fun hb=>?_
    ·replace hm:=hm.1 hb
     refine region ?_
     refine oP T hS 3 ⟨[(0,Sl a1 l_ c1),(4,V (.map (some dN))),(5,V (.map (some iJ))),(16,Sl a1 l_ c1),(17,I (lN l_)),(18,I aY),(89,V (.map (some dN))),(91,I ((gi l_ aY).End))],[]⟩ fun a hS=>?_
     refine op1 (jB kI tI false (zv:=.int .i64 0) (z:=0) ((gi l_ aY).End) hS kr kr kr kr Tryz.underlying113 Tryz.underlying3 kr rfl h142 ?_)
     intro v145 a hv hS
     replace hv:tI.R _ _ [v145] _:=hv
     cases hv
     refine oPe T hS 1 [92] [(93,I (wR (((aC (de dl ((gi l_ aY).aD) (wR (((aC dl ((gi l_ aY).aD)).getD 0)+1))) ((gi l_ aY).End)).getD 0)+1)))] fun a hS=>?_
     refine op1 (sZ kI tI false (v:=I (wR (((aC (de dl ((gi l_ aY).aD) (wR (((aC dl ((gi l_ aY).aD)).getD 0)+1))) ((gi l_ aY).End)).getD 0)+1))) (u:=wR (((aC (de dl ((gi l_ aY).aD) (wR (((aC dl ((gi l_ aY).aD)).getD 0)+1))) ((gi l_ aY).End)).getD 0)+1)) ((gi l_ aY).End) hS kr kr kr kr Tryz.underlying113 Tryz.underlying3 kr h142 rfl ?_)
     intro a Cv hE h147 hS
     clear h142
     replace hO:=hO.m2 hE
     replace h135:=h135.m1 hE
     replace h138:=h138.m1 hE
     replace h144:=h144.m2 hE
     refine g8 ?_
     exact ⟨Z,_,de (de dl ((gi l_ aY).aD) (wR (((aC dl ((gi l_ aY).aD)).getD 0)+1))) ((gi l_ aY).End) (wR (((aC (de dl ((gi l_ aY).aD) (wR (((aC dl ((gi l_ aY).aD)).getD 0)+1))) ((gi l_ aY).End)).getD 0)+1)),hm,hS.sl _,hO,h135,h147,h144,h138⟩
    replace hm:=hm.2 hb
    refine aL ?_
    exact ⟨Z,_,de dl ((gi l_ aY).aD) (wR (((aC dl ((gi l_ aY).aD)).getD 0)+1)),hm,hS.sl _,hO,h135,h142,h144,h138⟩
   rintro a GE ⟨Z,LQ,je,hm,hS,hO,h117,h119,h120,h121⟩
   unfold VC80_J2 at hm
   refine region (ePe T hS [] [(18,I (wR (aY+1)))] fun a hS=>?_)
   exact ⟨⟨je,de bc ((gi l_ aY).ah) (gi l_ aY),wR (aY+1)⟩,⟨Z,_,hm.1,hS.sl _,hO,h117,h119,h120,h121⟩,hm.2⟩
  replace hm:=hm.2 hb
  refine cl (by rfl) ?_
  exact ⟨Z,_,hm,hS.sl _,hO,h110⟩
 rintro a NI ⟨Z,LP,hm,hS,hO,h109⟩
 unfold VC80_J1 at hm
 refine rPe T hS [0] [(2,I (lN l_)),(3,I 0)] fun a hS=>?_
 refine aZ ?_
 exact fin T hS hO (fun c=>c) rfl (r:=[.int .i64 (lN l_),.int .i64 0]) kr (fun X' hM hC=>⟨((lN l_),0),hm,rfl⟩)
theorem C80 (ww:S63) (JM:S95) (v:∀ (l_:List ab),VC80 l_ (fun r=>r=cc l_)):S80:=by
 intro w X l_ a1 c1   h1
 refine (W80 ww JM w X l_ a1 c1   _ (v l_) h1).mono ?_
 rintro _ _ _ _ ⟨r,rfl,h⟩
 exact h
theorem W51 (Fg:S33) (Ff:S34) (Fe:S35) (tb:S53) (E7:S80) (w0) (X0) (o_:al) (l_:List ab) (ac:List aa) (a1) (c1) (a2) (c2) (a3) (c3) (Q:Int × Int->Prop) (hm:VC51 o_ l_ ac Q) (h1:RS ay w0 X0 a1 o_.Rows c1) (h2:RS ao w0 X0 a2 l_ c2) (h3:RS ar w0 X0 a3 ac c3) :
  Ret Tryz.prog 51 #[.agg #[.int .i64 o_.aq,.int .i64 o_.ax,.int .i64 o_.aE,.slice a1 o_.Rows.length c1],.slice a2 l_.length c2,.slice a3 ac.length c3] aJ w0 X0 (fun w X' v=>∃ r,Q r/\v=.tuple #[.int .i64 r.1,.int .i64 r.2]):=by
 unfold VC51 at hm
 replace hm:=hm (h1.sm kr)
 replace hm:=hm (h2.sm kr)
 replace hm:=hm (h3.sm kr)
 refine enter Tryz.func51 rfl (vals:=[.agg #[.int .i64 o_.aq,.int .i64 o_.ax,.int .i64 o_.aE,.slice a1 o_.Rows.length c1],.slice a2 l_.length c2,.slice a3 ac.length c3]) kr ?_
 intro Z a hS hO hM
 replace h1:=h1.m0 hM
 replace h2:=h2.m0 hM
 replace h3:=h3.m0 hM
 refine rM T hS ⟨[(1,Sl a2 l_ c2),(2,Sl a3 ac c3),(3,Pt 4 0)],[(4,(48,(cO o_ a1 c1)))]⟩ fun Z a si zY hS hE hr=>?_
 replace hO:=hO.m2 hE
 replace h1:=h1.m1 hE
 replace h2:=h2.m1 hE
 replace h3:=h3.m1 hE
 clear hE hr
 refine bn ?_
 refine oPe T hS 1 [] [(18,V (.agg #[.int .i64 o_.aq,.int .i64 o_.ax,.int .i64 o_.aE,.slice a1 o_.Rows.length c1]))] fun a hS=>?_
 obtain ⟨hq,hm⟩:=hm
 refine op1 (call hS kr kr hb53 kr (fun _ _=>rfl) (tb _ _ o_ a1 c1 hq h1) ?_)
 intro v101 a fh fo hE hp hS
 replace hO:=hO.m2 hE
 replace h1:=h1.m1 hE
 replace h2:=h2.m1 hE
 replace h3:=h3.m1 hE
 obtain ⟨av,hr⟩:∃ r,bq o_=r:=⟨_,rfl⟩
 replace hm:=hm av hr
 rw [hr] at hp
 clear hr
 subst hp
 refine ePe T hS [18,19] [(9,I av.2)] fun a hS=>?_
 refine bn ?_
 refine oPe T hS 1 [] [(23,Sl a2 l_ c2)] fun a hS=>?_
 refine op1 (call hS kr kr hb80 kr (fun _ _=>rfl) (E7 _ _ l_ a2 c2 h2) ?_)
 intro v105 a nk ne hE hp hS
 replace hO:=hO.m2 hE
 replace h1:=h1.m1 hE
 replace h2:=h2.m1 hE
 replace h3:=h3.m1 hE
 obtain ⟨a8,hr⟩:∃ r,cc l_=r:=⟨_,rfl⟩
 replace hm:=hm a8 hr
 rw [hr] at hp
 clear hr
 subst hp
 refine ePe T hS [23,24] [(11,I a8.2)] fun a hS=>?_
 refine bd ?_
 refine rPe T hS [9,11] [(32,B ((av.2 != 0) || (a8.2 != 0)))] (sp:=[29]) fun a hS=>?_
 refine aF hS (b:=((av.2 != 0) || (a8.2 != 0))) kr (fun hb=>?_) fun hb=>?_
 ·replace hm:=hm.1 hb
  refine rP T hS ⟨[(6,I (-1)),(7,I 2)],[]⟩ fun a hS=>?_
  refine aZ ?_
  exact fin T hS hO (fun c=>c) rfl (r:=[.int .i64 (-1),.int .i64 2]) kr (fun X' hM hC=>⟨((-1),2),hm,rfl⟩)
 replace hm:=hm.2 hb
 refine aL (bd ?_)
 refine bn ?_
 refine oP T hS 3 ⟨[(1,Sl a2 l_ c2),(2,Sl a3 ac c3),(34,V (.agg #[.int .i64 o_.aq,.int .i64 o_.ax,.int .i64 o_.aE,.slice a1 o_.Rows.length c1])),(35,Sl a2 l_ c2),(36,Sl a3 ac c3)],[]⟩ fun a hS=>?_
 obtain ⟨hq,hm⟩:=hm
 refine op1 (call hS kr kr hb33 kr (fun _ _=>rfl) (Fg _ _ o_ l_ ac a1 c1 a2 c2 a3 c3 hq h1 h2 h3) ?_)
 intro v109 a EJ F7 hE hp hS
 replace hO:=hO.m2 hE
 replace h1:=h1.m1 hE
 replace h2:=h2.m1 hE
 replace h3:=h3.m1 hE
 obtain ⟨bG,hr⟩:∃ r,b7 o_ l_ ac=r:=⟨_,rfl⟩
 replace hm:=hm bG hr
 rw [hr] at hp
 clear hr
 subst hp
 refine ePe T hS [34,35,36,37] [(13,I bG.2.1),(14,I bG.2.2)] fun a hS=>?_
 refine rPe T hS [] [(42,B (bG.2.2 != 0))] fun a hS=>?_
 refine aF hS (b:=(bG.2.2 != 0)) kr (fun hb=>?_) fun hb=>?_
 ·replace hm:=hm.1 hb
  refine rPe T hS [1,2,13,14,42] [(6,I bG.2.1),(7,I bG.2.2)] fun a hS=>?_
  refine aZ ?_
  exact fin T hS hO (fun c=>c) rfl (r:=[.int .i64 bG.2.1,.int .i64 bG.2.2]) kr (fun X' hM hC=>⟨(bG.2.1,bG.2.2),hm,rfl⟩)
 replace hm:=hm.2 hb
 refine aL (bd ?_)
 refine bn ?_
 refine oPe T hS 2 [13,14,42] [(45,Sl a2 l_ c2),(46,Sl a3 ac c3)] fun a hS=>?_
 refine op1 (call hS kr kr hb34 kr (fun _ _=>rfl) (Ff _ _ l_ ac a2 c2 a3 c3 h2 h3) ?_)
 intro v113 a GL DB hE hp hS
 replace hO:=hO.m2 hE
 replace h2:=h2.m1 hE
 replace h3:=h3.m1 hE
 obtain ⟨o8,hr⟩:∃ r,ct l_ ac=r:=⟨_,rfl⟩
 replace hm:=hm o8 hr
 rw [hr] at hp
 clear hr
 subst hp
 refine ePe T hS [45,46,47] [(15,I o8)] fun a hS=>?_
 refine rPe T hS [] [(49,B (decide (o8≥0)))] fun a hS=>?_
 refine aF hS (b:=decide (o8≥0)) kr (fun hb=>?_) fun hb=>?_
 ·replace hm:=hm.1 hb
  refine rPe T hS [1,2,15,49] [(6,I o8),(7,I 42)] fun a hS=>?_
  refine aZ ?_
  exact fin T hS hO (fun c=>c) rfl (r:=[.int .i64 o8,.int .i64 42]) kr (fun X' hM hC=>⟨(o8,42),hm,rfl⟩)
 replace hm:=hm.2 hb
 refine aL (bd ?_)
 refine bn ?_
 refine oPe T hS 2 [1,15,49] [(51,Sl a2 l_ c2),(52,Sl a3 ac c3)] fun a hS=>?_
 obtain ⟨hq,hm⟩:=hm
 refine op1 (call hS kr kr hb35 kr (fun _ _=>rfl) (Fe _ _ l_ ac a2 c2 a3 c3 hq h2 h3) ?_)
 intro v117 a yF zZ hE hp hS
 replace hO:=hO.m2 hE
 replace h2:=h2.m1 hE
 replace h3:=h3.m1 hE
 obtain ⟨mr,ml,hp,h123⟩:=hp
 obtain ⟨jw,hr⟩:∃ r,bX l_ ac=r:=⟨_,rfl⟩
 replace hm:=hm jw hr
 rw [hr] at hp h123
 clear hr
 subst hp
 replace hm:=hm (h123.sm kr)
 refine ePe T hS [51,52,53] [(16,Sl mr jw ml)] fun a hS=>?_
 refine rPe T hS [] [(56,B (decide ((lN jw) > 0)))] fun a hS=>?_
 refine aF hS (b:=decide ((lN jw) > 0)) kr (fun hb=>?_) fun hb=>?_
 ·replace hm:=hm.1 hb
  refine bn ?_
  refine oPe T hS 1 [2,16,56] [(57,Sl mr jw ml)] fun a hS=>?_
  obtain ⟨hq,hm⟩:=hm
  refine op1 (index (e:=3) (k:=.i64) T hS kr kr kr kr h123 kr kr hq.1 hq.2 ?_)
  intro Gb a h125 hS
  refine op1 (eC T hS kr kr kr h125 rfl kr ?_)
  intro v126 a hv hS
  cases hv
  refine ePe T hS [57,58,59] [(6,I (gi jw 0)),(7,I 41)] fun a hS=>?_
  refine aZ ?_
  exact fin T hS hO (fun c=>c) rfl (r:=[.int .i64 (gi jw 0),.int .i64 41]) kr (fun X' hM hC=>⟨(gi jw 0,41),hm,rfl⟩)
 replace hm:=hm.2 hb
 refine aL ?_
 refine rPe T hS [2,16,56] [(6,I (lN ac)),(7,I 0)] fun a hS=>?_
 refine aZ ?_
 exact fin T hS hO (fun c=>c) rfl (r:=[.int .i64 (lN ac),.int .i64 0]) kr (fun X' hM hC=>⟨((lN ac),0),hm,rfl⟩)
theorem C51 (Fg:S33) (Ff:S34) (Fe:S35) (tb:S53) (E7:S80) (v:∀ (o_:al) (l_:List ab) (ac:List aa),ka o_ l_ ac->VC51 o_ l_ ac (fun r=>r=eD o_ l_ ac)):S51:=by
 intro w X o_ l_ ac a1 c1 a2 c2 a3 c3   hp h1 h2 h3
 refine (W51 Fg Ff Fe tb E7 w X o_ l_ ac a1 c1 a2 c2 a3 c3   _ (v o_ l_ ac hp) h1 h2 h3).mono ?_
 rintro _ _ _ _ ⟨r,rfl,h⟩
 exact h
theorem W20 (Kd:S51) (w0) (X0) (o_:al) (l_:List ab) (ac:List aa) (a1) (c1) (a2) (c2) (a3) (c3) (Q:Bool->Prop) (hm:VC20 o_ l_ ac Q) (h1:RS ay w0 X0 a1 o_.Rows c1) (h2:RS ao w0 X0 a2 l_ c2) (h3:RS ar w0 X0 a3 ac c3) :
  Ret Tryz.prog 20 #[.agg #[.int .i64 o_.aq,.int .i64 o_.ax,.int .i64 o_.aE,.slice a1 o_.Rows.length c1],.slice a2 l_.length c2,.slice a3 ac.length c3] aJ w0 X0 (fun w X' v=>∃ r,Q r/\v=.bool r):=by
 unfold VC20 at hm
 replace hm:=hm (h1.sm kr)
 replace hm:=hm (h2.sm kr)
 replace hm:=hm (h3.sm kr)
 refine enter Tryz.func20 rfl (vals:=[.agg #[.int .i64 o_.aq,.int .i64 o_.ax,.int .i64 o_.aE,.slice a1 o_.Rows.length c1],.slice a2 l_.length c2,.slice a3 ac.length c3]) kr ?_
 intro Z a hS hO hM
 replace h1:=h1.m0 hM
 replace h2:=h2.m0 hM
 replace h3:=h3.m0 hM
 refine rM T hS ⟨[(1,Sl a2 l_ c2),(2,Sl a3 ac c3),(3,Pt 4 0)],[(4,(48,(cO o_ a1 c1)))]⟩ fun Z a mH lB hS hE hr=>?_
 replace hO:=hO.m2 hE
 replace h1:=h1.m1 hE
 replace h2:=h2.m1 hE
 replace h3:=h3.m1 hE
 clear hE hr
 refine bn ?_
 refine oP T hS 3 ⟨[(10,V (.agg #[.int .i64 o_.aq,.int .i64 o_.ax,.int .i64 o_.aE,.slice a1 o_.Rows.length c1])),(11,Sl a2 l_ c2),(12,Sl a3 ac c3)],[]⟩ fun a hS=>?_
 obtain ⟨hq,hm⟩:=hm
 refine op1 (call hS kr kr hb51 kr (fun _ _=>rfl) (Kd _ _ o_ l_ ac a1 c1 a2 c2 a3 c3 hq h1 h2 h3) ?_)
 intro v101 a fh fo hE hp hS
 replace hO:=hO.m2 hE
 replace h1:=h1.m1 hE
 replace h2:=h2.m1 hE
 replace h3:=h3.m1 hE
 obtain ⟨av,hr⟩:∃ r,eD o_ l_ ac=r:=⟨_,rfl⟩
 replace hm:=hm av hr
 rw [hr] at hp
 clear hr
 subst hp
 refine ePe T hS [10,11,12,13] [(8,I av.2)] fun a hS=>?_
 refine rPe T hS [8] [(6,B (av.2 == 0))] fun a hS=>?_
 refine aZ ?_
 exact fin T hS hO (fun c=>c) rfl (r:=[.bool (av.2 == 0)]) kr (fun X' hM hC=>⟨(av.2 == 0),hm,rfl⟩)
theorem C20 (Kd:S51) (v:∀ (o_:al) (l_:List ab) (ac:List aa),ka o_ l_ ac->VC20 o_ l_ ac (fun r=>r=cY o_ l_ ac)):S20:=by
 intro w X o_ l_ ac a1 c1 a2 c2 a3 c3   hp h1 h2 h3
 refine (W20 Kd w X o_ l_ ac a1 c1 a2 c2 a3 c3   _ (v o_ l_ ac hp) h1 h2 h3).mono ?_
 rintro _ _ _ _ ⟨r,rfl,h⟩
 exact h
theorem W66 (w0) (X0) (ac:List aa) (i_:Int) (a1) (c1) (Q:Int->Prop) (hm:VC66 ac i_ Q) (h1:RS ar w0 X0 a1 ac c1) :
  Ret Tryz.prog 66 #[.slice a1 ac.length c1,.int .i64 i_] aJ w0 X0 (fun w X' v=>∃ r,Q r/\v=.int .i64 r):=by
 unfold VC66 at hm
 replace hm:=hm (h1.sm kr)
 refine enter Tryz.func66 rfl (vals:=[.slice a1 ac.length c1,.int .i64 i_]) kr ?_
 intro Z a hS hO hM
 replace h1:=h1.m0 hM
 refine rPe T hS [] [] fun a hS=>?_
 refine b5 (fun a w=>∃ Z X,VC66_J1 Q/\St Tryz.f66.ntmps ⟨[],[]⟩ Z a w X/\Old w0 X0 w X) ?_ ?_
 ·refine rPe T hS [] [(5,I 0)] fun a hS=>?_
  refine aN ?_
  obtain ⟨I1,μ1,cy,hm⟩:=hm
  refine cw (σ:=Int) (fun s a w=>∃ Z X,I1 s/\St Tryz.f66.ntmps ⟨[(0,Sl a1 ac c1),(1,I i_),(5,I s)],[]⟩ Z a w X/\Old w0 X0 w X/\RS ar w X a1 ac c1) (fun s=>μ1 s) (0) ?_ ?_
  ·exact ⟨Z,_,cy,hS.sl _,hO,h1⟩
  rintro br a pm ⟨Z,oG,hI,hS,hO,h101⟩
  replace hm:=hm br hI
  clear hI cy
  refine bd ?_
  refine rPe T hS [] [(9,B (decide (br < (lN ac))))] fun a hS=>?_
  refine aF hS (b:=decide (br < (lN ac))) kr (fun hb=>?_) fun hb=>?_
  ·replace hm:=hm.1 hb
   refine aL (bd ?_)
   refine aN ?_
   refine bn ?_
   refine oPe T hS 2 [9] [(12,Sl a1 ac c1),(13,I br)] fun a hS=>?_
   obtain ⟨hq,hm⟩:=hm
   refine op1 (index (e:=56) (k:=.i64) T hS kr kr kr kr h101 kr kr hq.1 hq.2 ?_)
   intro tJ a h104 hS
   refine op1 (fc (off:=0) (fsz:=1) (ft:=3) (TF:=tI) (y:=(gi ac br).Oper) T hS kr kr kr h104 kr kr kr (fun cs h=>fw h) ?_)
   intro w9 a h106 hS
   refine op1 (eC T hS kr kr kr h106 rfl kr ?_)
   intro v107 a hv hS
   cases hv
   refine ePe T hS [12,13,14,15,16] [(18,B (((gi ac br).Oper) == i_))] fun a hS=>?_
   refine aF hS (b:=(((gi ac br).Oper) == i_)) kr (fun hb=>?_) fun hb=>?_
   ·replace hm:=hm.1 hb
    refine rPe T hS [0,1,5,18] [(4,I br)] fun a hS=>?_
    refine aZ ?_
    exact fin T hS hO (fun c=>c) rfl (r:=[.int .i64 br]) kr (fun X' hM hC=>⟨br,hm,rfl⟩)
   replace hm:=hm.2 hb
   refine aL ?_
   refine region (ePe T hS [18] [(5,I (wR (br+1)))] fun a hS=>?_)
   exact ⟨wR (br+1),⟨Z,_,hm.1,hS.sl _,hO,h101⟩,hm.2⟩
  replace hm:=hm.2 hb
  refine cl (by rfl) ?_
  exact ⟨Z,_,hm,hS.sl _,hO⟩
 rintro a CA ⟨Z,rc,hm,hS,hO⟩
 unfold VC66_J1 at hm
 refine rPe T hS [] [(4,I (-1))] fun a hS=>?_
 refine aZ ?_
 exact fin T hS hO (fun c=>c) rfl (r:=[.int .i64 (-1)]) kr (fun X' hM hC=>⟨(-1),hm,rfl⟩)
theorem C66 (v:∀ (ac:List aa) (i_:Int),VC66 ac i_ (fun r=>r=ca ac i_)):S66:=by
 intro w X ac i_ a1 c1   h1
 refine (W66 w X ac i_ a1 c1   _ (v ac i_) h1).mono ?_
 rintro _ _ _ _ ⟨r,rfl,h⟩
 exact h
theorem W68 (w0) (X0) (o_:al) (state:Int) (kind:Int) (a1) (c1) (Q:Int × Int × Bool->Prop) (hm:VC68 o_ state kind Q) (h1:RS ay w0 X0 a1 o_.Rows c1) :
  Ret Tryz.prog 68 #[.agg #[.int .i64 o_.aq,.int .i64 o_.ax,.int .i64 o_.aE,.slice a1 o_.Rows.length c1],.int .i64 state,.int .i64 kind] aJ w0 X0 (fun w X' v=>∃ r,Q r/\v=.tuple #[.int .i64 r.1,.int .i64 r.2.1,.bool r.2.2]):=by
 unfold VC68 at hm
 replace hm:=hm (h1.sm kr)
 refine enter Tryz.func68 rfl (vals:=[.agg #[.int .i64 o_.aq,.int .i64 o_.ax,.int .i64 o_.aE,.slice a1 o_.Rows.length c1],.int .i64 state,.int .i64 kind]) kr ?_
 intro Z a hS hO hM
 replace h1:=h1.m0 hM
 refine rM T hS ⟨[(1,I state),(2,I kind),(3,Pt 4 0)],[(4,(48,(cO o_ a1 c1)))]⟩ fun Z a yD BX hS hE hr=>?_
 replace hO:=hO.m2 hE
 replace h1:=h1.m1 hE
 clear hE hr
 refine b5 (fun a w=>∃ Z X,VC68_J1 Q/\St Tryz.f68.ntmps ⟨[],[]⟩ Z a w X/\Old w0 X0 w X) ?_ ?_
 ·refine rPe T hS [] [(9,I 0)] fun a hS=>?_
  refine aN ?_
  obtain ⟨I1,μ1,cy,hm⟩:=hm
  refine cw (σ:=Int) (fun s a w=>∃ Z X,I1 s/\St Tryz.f68.ntmps ⟨[(1,I state),(2,I kind),(3,Pt 4 0),(9,I s)],[(4,(48,(cO o_ a1 c1)))]⟩ Z a w X/\Old w0 X0 w X/\RS ay w X a1 o_.Rows c1) (fun s=>μ1 s) (0) ?_ ?_
  ·exact ⟨Z,_,cy,hS.sl _,hO,h1⟩
  rintro bv a tP ⟨Z,rb,hI,hS,hO,h102⟩
  replace hm:=hm bv hI
  clear hI cy
  refine bd ?_
  refine rPe T hS [] [(14,B (decide (bv < (lN o_.Rows))))] fun a hS=>?_
  refine aF hS (b:=decide (bv < (lN o_.Rows))) kr (fun hb=>?_) fun hb=>?_
  ·replace hm:=hm.1 hb
   refine aL (bd ?_)
   refine aN ?_
   refine b5 (fun a w=>∃ (Z:Nat->Nat) (X:Nat->Nat) (be:Bool),VC68_J2 o_ Q I1 μ1 bv be/\St Tryz.f68.ntmps ⟨[(1,I state),(2,I kind),(3,Pt 4 0),(9,I bv),(34,B be)],[(4,(48,(cO o_ a1 c1)))]⟩ Z a w X/\Old w0 X0 w X/\RS ay w X a1 o_.Rows c1) ?_ ?_
   ·refine region ?_
    refine oPe T hS 3 [14] [(18,Sl a1 o_.Rows c1),(19,I bv)] fun a hS=>?_
    obtain ⟨hq,hm⟩:=hm
    refine op1 (index (e:=107) (k:=.i64) T hS kr kr kr kr h102 kr kr hq.1 hq.2 ?_)
    intro L9 a h118 hS
    refine op1 (fc (off:=0) (fsz:=1) (ft:=3) (TF:=tI) (y:=(gi o_.Rows bv).State) T hS kr kr kr h118 kr kr kr (fun cs h=>nh h) ?_)
    intro L8 a h120 hS
    refine op1 (eC T hS kr kr kr h120 rfl kr ?_)
    intro v121 a hv hS
    cases hv
    refine oPe T hS 3 [18,19,20,21,22] [(25,B (((gi o_.Rows bv).State) == state))] fun a hS=>?_
    rcases bft (((gi o_.Rows bv).State) == state) with hb | hb
    ·replace hS:=hS.lit (t:=25) kr hb
     replace hm:=hm.1 hb
     refine oPe T hS 3 [] [(27,Sl a1 o_.Rows c1),(28,I bv)] fun a hS=>?_
     obtain ⟨hq,hm⟩:=hm
     refine op1 (index (e:=107) (k:=.i64) T hS kr kr kr kr h102 kr kr hq.1 hq.2 ?_)
     intro B6 a h123 hS
     refine op1 (fc (off:=1) (fsz:=1) (ft:=3) (TF:=tI) (y:=(gi o_.Rows bv).Kind) T hS kr kr kr h123 kr kr kr (fun cs h=>qU h) ?_)
     intro Gb a h125 hS
     refine op1 (eC T hS kr kr kr h125 rfl kr ?_)
     intro v126 a hv hS
     cases hv
     refine ePe T hS [25,27,28,29,30,31] [(34,B (((gi o_.Rows bv).Kind) == kind))] fun a hS=>?_
     exact ⟨Z,_,(((gi o_.Rows bv).Kind) == kind),hm,hS.sl _,hO,h102⟩
    replace hS:=hS.lit (t:=25) kr hb
    replace hm:=hm.2 hb
    refine ePe T hS [25] [(34,B false)] fun a hS=>?_
    exact ⟨Z,_,false,hm,hS.sl _,hO,h102⟩
   rintro a q5 ⟨Z,qR,be,hm,hS,hO,h104⟩
   unfold VC68_J2 at hm
   refine aF hS (b:=be) kr (fun hb=>?_) fun hb=>?_
   ·replace hm:=hm.1 hb
    refine dq [4] mixed hS ?_
    intro mH lB hS hE hD hH
    replace hO:=hO.m2 hE
    replace h104:=h104.m1 hE
    refine tke T [0,2,6,8,1,7] [4] hS hH #[true,true,true,false,false,false,true,true,true,false,false,false,false,false,false] 9 [3,9] [(36,Sl a1 o_.Rows c1),(37,I bv),(42,Sl a1 o_.Rows c1),(43,I bv)] fun a hS=>?_
    obtain ⟨hq,hm⟩:=hm
    refine c6 (e:=107) (k:=.i64) T 3 hS kr kr kr (by rfl) kr hH kr kr h104 kr kr hq.1 hq.2 ?_
    intro Gh a h108 hS
    have ye:=h108.here
    refine dh (off:=2) (fsz:=1) (ft:=3) (TF:=tI) (y:=(gi o_.Rows bv).Next) 4 T hS kr kr kr (by rfl) kr hH kr h108 kr kr kr (fun cs h=>qT h) ?_
    intro w8 a h110 fv hS
    have kM:=ye
    rw [← fv] at kM
    clear fv
    refine dF T 5 hS kr kr kr (by rfl) kr hH kr h110 kM rfl kr ?_
    intro v111 a hv hS
    cases hv
    refine tke T [12] [4] hS hH #[true,true,true,true,true,true,true,true,true,false,false,false,true,false,false] 5 [36,37,38,39,40] [(6,I ((gi o_.Rows bv).Next))] fun a hS=>?_
    obtain ⟨hq,hm⟩:=hm
    refine c6 (e:=107) (k:=.i64) T 9 hS kr kr kr (by rfl) kr hH kr kr h104 kr kr hq.1 hq.2 ?_
    intro Gg a h113 hS
    have uQ:=h113.here
    refine dh (off:=3) (fsz:=1) (ft:=3) (TF:=tI) (y:=(gi o_.Rows bv).Result) 10 T hS kr kr kr (by rfl) kr hH kr h113 kr kr kr (fun cs h=>qS h) ?_
    intro DD a h115 fv hS
    have qv:=uQ
    rw [← fv] at qv
    clear fv
    refine dF T 11 hS kr kr kr (by rfl) kr hH kr h115 qv rfl kr ?_
    intro v116 a hv hS
    cases hv
    refine tke T [13,14] [4] hS hH (tts 15) 0 [42,43,44,45,46] [(7,I ((gi o_.Rows bv).Result)),(8,B true)] fun a hS=>?_
    refine aV kr ?_
    replace hS:=hS.sl ⟨[(6,I ((gi o_.Rows bv).Next)),(7,I ((gi o_.Rows bv).Result)),(8,B true)],[]⟩
    refine aZ ?_
    exact fin T hS hO (fun c=>c) rfl (r:=[.int .i64 ((gi o_.Rows bv).Next),.int .i64 ((gi o_.Rows bv).Result),.bool true]) kr (fun X' hM hC=>⟨((gi o_.Rows bv).Next,(gi o_.Rows bv).Result,true),hm,rfl⟩)
   replace hm:=hm.2 hb
   refine aL ?_
   refine region (ePe T hS [34] [(9,I (wR (bv+1)))] fun a hS=>?_)
   exact ⟨wR (bv+1),⟨Z,_,hm.1,hS.sl _,hO,h104⟩,hm.2⟩
  replace hm:=hm.2 hb
  refine cl (by rfl) ?_
  exact ⟨Z,_,hm,hS.sl _,hO⟩
 rintro a NL ⟨Z,BZ,hm,hS,hO⟩
 unfold VC68_J1 at hm
 refine rPe T hS [] [(6,I 0),(7,I 0),(8,B false)] fun a hS=>?_
 refine aZ ?_
 exact fin T hS hO (fun c=>c) rfl (r:=[.int .i64 0,.int .i64 0,.bool false]) kr (fun X' hM hC=>⟨(0,0,false),hm,rfl⟩)
theorem C68 (v:∀ (o_:al) (state:Int) (kind:Int),VC68 o_ state kind (fun r=>r=cu o_ state kind)):S68:=by
 intro w X o_ state kind a1 c1   h1
 refine (W68 w X o_ state kind a1 c1   _ (v o_ state kind) h1).mono ?_
 rintro _ _ _ _ ⟨r,rfl,h⟩
 exact h
theorem W65 (J4:S68) (w0) (X0) (o_:al) (state:Int) (kind:Int) (result:Int) (a1) (c1) (Q:Int × Int->Prop) (hm:VC65 o_ state kind result Q) (h1:RS ay w0 X0 a1 o_.Rows c1) :
  Ret Tryz.prog 65 #[.agg #[.int .i64 o_.aq,.int .i64 o_.ax,.int .i64 o_.aE,.slice a1 o_.Rows.length c1],.int .i64 state,.int .i64 kind,.int .i64 result] aJ w0 X0 (fun w X' v=>∃ r,Q r/\v=.tuple #[.int .i64 r.1,.int .i64 r.2]):=by
 unfold VC65 at hm
 replace hm:=hm (h1.sm kr)
 refine enter Tryz.func65 rfl (vals:=[.agg #[.int .i64 o_.aq,.int .i64 o_.ax,.int .i64 o_.aE,.slice a1 o_.Rows.length c1],.int .i64 state,.int .i64 kind,.int .i64 result]) kr ?_
 intro Z a hS hO hM
 replace h1:=h1.m0 hM
 refine rM T hS ⟨[(1,I state),(2,I kind),(3,I result),(4,Pt 5 0)],[(5,(48,(cO o_ a1 c1)))]⟩ fun Z a mH lB hS hE hr=>?_
 replace hO:=hO.m2 hE
 replace h1:=h1.m1 hE
 clear hE hr
 refine bd ?_
 refine rPe T hS [] [(20,B ((decide (state < 0)) || (decide (state≥o_.aq))))] (sp:=[15]) fun a hS=>?_
 refine aF hS (b:=((decide (state < 0)) || (decide (state≥o_.aq)))) kr (fun hb=>?_) fun hb=>?_
 ·replace hm:=hm.1 hb
  refine rP T hS ⟨[(8,I 0),(9,I 30)],[]⟩ fun a hS=>?_
  refine aZ ?_
  exact fin T hS hO (fun c=>c) rfl (r:=[.int .i64 0,.int .i64 30]) kr (fun X' hM hC=>⟨(0,30),hm,rfl⟩)
 replace hm:=hm.2 hb
 refine aL ?_
 refine bn ?_
 refine oP T hS 3 ⟨[(3,I result),(22,V (.agg #[.int .i64 o_.aq,.int .i64 o_.ax,.int .i64 o_.aE,.slice a1 o_.Rows.length c1])),(23,I state),(24,I kind)],[]⟩ fun a hS=>?_
 refine op1 (call hS kr kr hb68 kr (fun _ _=>rfl) (J4 _ _ o_ state kind a1 c1 h1) ?_)
 intro v101 a fh fo hE hp hS
 replace hO:=hO.m2 hE
 replace h1:=h1.m1 hE
 obtain ⟨av,hr⟩:∃ r,cu o_ state kind=r:=⟨_,rfl⟩
 replace hm:=hm av hr
 rw [hr] at hp
 clear hr
 subst hp
 refine ePe T hS [22,23,24,25] [(10,I av.1),(11,I av.2.1),(12,B av.2.2)] fun a hS=>?_
 refine bd ?_
 refine rPe T hS [3,11,12] [(35,B ((!av.2.2) || (av.2.1 != result)))] (sp:=[31]) fun a hS=>?_
 refine aF hS (b:=((!av.2.2) || (av.2.1 != result))) kr (fun hb=>?_) fun hb=>?_
 ·replace hm:=hm.1 hb
  refine rPe T hS [10,35] [(8,I 0),(9,I 40)] fun a hS=>?_
  refine aZ ?_
  exact fin T hS hO (fun c=>c) rfl (r:=[.int .i64 0,.int .i64 40]) kr (fun X' hM hC=>⟨(0,40),hm,rfl⟩)
 replace hm:=hm.2 hb
 refine aL ?_
 refine rPe T hS [10,35] [(8,I av.1),(9,I 0)] fun a hS=>?_
 refine aZ ?_
 exact fin T hS hO (fun c=>c) rfl (r:=[.int .i64 av.1,.int .i64 0]) kr (fun X' hM hC=>⟨(av.1,0),hm,rfl⟩)
theorem C65 (J4:S68) (v:∀ (o_:al) (state:Int) (kind:Int) (result:Int),VC65 o_ state kind result (fun r=>r=c9 o_ state kind result)):S65:=by
 intro w X o_ state kind result a1 c1   h1
 refine (W65 J4 w X o_ state kind result a1 c1   _ (v o_ state kind result) h1).mono ?_
 rintro _ _ _ _ ⟨r,rfl,h⟩
 exact h
theorem W58 (w0) (X0) (o_:al) (a1) (c1) (Q:Int × Int->Prop) (hm:VC58 o_ Q) (h1:RS ay w0 X0 a1 o_.Rows c1) :
  Ret Tryz.prog 58 #[.agg #[.int .i64 o_.aq,.int .i64 o_.ax,.int .i64 o_.aE,.slice a1 o_.Rows.length c1]] aJ w0 X0 (fun w X' v=>∃ r,Q r/\v=.tuple #[.int .i64 r.1,.int .i64 r.2]):=by
 unfold VC58 at hm
 replace hm:=hm (h1.sm kr)
 refine enter Tryz.func58 rfl (vals:=[.agg #[.int .i64 o_.aq,.int .i64 o_.ax,.int .i64 o_.aE,.slice a1 o_.Rows.length c1]]) kr ?_
 intro Z a hS hO hM
 replace h1:=h1.m0 hM
 refine rM T hS ⟨[(1,Pt 2 0)],[(2,(48,(cO o_ a1 c1)))]⟩ fun Z a yC wW hS hE hr=>?_
 replace hO:=hO.m2 hE
 replace h1:=h1.m1 hE
 clear hE hr
 refine bd ?_
 refine rPe T hS [] [(35,B ((((((decide (o_.aq < 1)) || (decide (o_.aq > 32))) || (decide (o_.ax < 1))) || (decide (o_.ax > 64))) || (decide (o_.aE < 0))) || (decide (o_.aE≥o_.aq))))] (sp:=[9,14,19,24,29]) fun a hS=>?_
 refine aF hS (b:=((((((decide (o_.aq < 1)) || (decide (o_.aq > 32))) || (decide (o_.ax < 1))) || (decide (o_.ax > 64))) || (decide (o_.aE < 0))) || (decide (o_.aE≥o_.aq)))) kr (fun hb=>?_) fun hb=>?_
 ·replace hm:=hm.1 hb
  refine rP T hS ⟨[(2,I (-1)),(3,I 2)],[]⟩ fun a hS=>?_
  refine aZ ?_
  exact fin T hS hO (fun c=>c) rfl (r:=[.int .i64 (-1),.int .i64 2]) kr (fun X' hM hC=>⟨((-1),2),hm,rfl⟩)
 replace hm:=hm.2 hb
 refine aL ?_
 refine b5 (fun a w=>∃ Z X,VC58_J1 o_ Q/\St Tryz.f58.ntmps ⟨[(1,Pt 2 0)],[(2,(48,(cO o_ a1 c1)))]⟩ Z a w X/\Old w0 X0 w X/\RS ay w X a1 o_.Rows c1) ?_ ?_
 ·refine rPe T hS [35] [(4,I 0)] fun a hS=>?_
  refine aN ?_
  obtain ⟨I1,μ1,cy,hm⟩:=hm
  refine cw (σ:=Int) (fun s a w=>∃ Z X,I1 s/\St Tryz.f58.ntmps ⟨[(1,Pt 2 0),(4,I s)],[(2,(48,(cO o_ a1 c1)))]⟩ Z a w X/\Old w0 X0 w X/\RS ay w X a1 o_.Rows c1) (fun s=>μ1 s) (0) ?_ ?_
  ·exact ⟨Z,_,cy,hS.sl _,hO,h1⟩
  rintro br a qZ ⟨Z,Dy,hI,hS,hO,h103⟩
  replace hm:=hm br hI
  clear hI cy
  refine bd ?_
  refine rPe T hS [] [(40,B (decide (br < (lN o_.Rows))))] fun a hS=>?_
  refine aF hS (b:=decide (br < (lN o_.Rows))) kr (fun hb=>?_) fun hb=>?_
  ·replace hm:=hm.1 hb
   refine aL (bd ?_)
   refine aN ?_
   refine bn ?_
   refine oPe T hS 3 [40] [(44,Sl a1 o_.Rows c1),(45,I br)] fun a hS=>?_
   obtain ⟨hq,hm⟩:=hm
   refine op1 (index (e:=107) (k:=.i64) T hS kr kr kr kr h103 kr kr hq.1 hq.2 ?_)
   intro IO a h105 hS
   refine op1 (eB T hS kr kr kr h105 kr kr ?_)
   intro v106 a hv hS
   subst hv
   refine eM T hS ⟨[(1,Pt 2 0),(4,I br),(5,Pt 6 0)],[(2,(48,(cO o_ a1 c1))),(6,(107,(cR (gi o_.Rows br))))]⟩ fun Z a q5 rb hS hE hr=>?_
   replace hO:=hO.m2 hE
   replace h103:=h103.m1 hE
   clear hE hr
   refine bd ?_
   refine rPe T hS [] [(69,B ((((decide (((gi o_.Rows br).State) < 0)) || (decide (((gi o_.Rows br).State)≥o_.aq))) || (decide (((gi o_.Rows br).Next) < 0))) || (decide (((gi o_.Rows br).Next)≥o_.aq))))] (sp:=[51,58,63]) fun a hS=>?_
   refine aF hS (b:=((((decide (((gi o_.Rows br).State) < 0)) || (decide (((gi o_.Rows br).State)≥o_.aq))) || (decide (((gi o_.Rows br).Next) < 0))) || (decide (((gi o_.Rows br).Next)≥o_.aq)))) kr (fun hb=>?_) fun hb=>?_
   ·replace hm:=hm.1 hb
    refine rP T hS ⟨[(2,I br),(3,I 30)],[]⟩ fun a hS=>?_
    refine aZ ?_
    exact fin T hS hO (fun c=>c) rfl (r:=[.int .i64 br,.int .i64 30]) kr (fun X' hM hC=>⟨(br,30),hm,rfl⟩)
   replace hm:=hm.2 hb
   refine aL (bd ?_)
   refine rPe T hS [69] [(80,B ((decide (((gi o_.Rows br).Kind) < 0)) || (decide (((gi o_.Rows br).Kind)≥o_.ax))))] (sp:=[74]) fun a hS=>?_
   refine aF hS (b:=((decide (((gi o_.Rows br).Kind) < 0)) || (decide (((gi o_.Rows br).Kind)≥o_.ax)))) kr (fun hb=>?_) fun hb=>?_
   ·replace hm:=hm.1 hb
    refine rP T hS ⟨[(2,I br),(3,I 31)],[]⟩ fun a hS=>?_
    refine aZ ?_
    exact fin T hS hO (fun c=>c) rfl (r:=[.int .i64 br,.int .i64 31]) kr (fun X' hM hC=>⟨(br,31),hm,rfl⟩)
   replace hm:=hm.2 hb
   refine aL (bd ?_)
   refine rPe T hS [80] [(89,B ((decide (((gi o_.Rows br).Result) < 0)) || (decide (((gi o_.Rows br).Result) > 1000000))))] (sp:=[85]) fun a hS=>?_
   refine aF hS (b:=((decide (((gi o_.Rows br).Result) < 0)) || (decide (((gi o_.Rows br).Result) > 1000000)))) kr (fun hb=>?_) fun hb=>?_
   ·replace hm:=hm.1 hb
    refine rP T hS ⟨[(2,I br),(3,I 7)],[]⟩ fun a hS=>?_
    refine aZ ?_
    exact fin T hS hO (fun c=>c) rfl (r:=[.int .i64 br,.int .i64 7]) kr (fun X' hM hC=>⟨(br,7),hm,rfl⟩)
   replace hm:=hm.2 hb
   refine aL ?_
   refine b5 (fun a w=>∃ (Z:Nat->Nat) (X:Nat->Nat) (gB:Bool),VC58_J2 Q I1 μ1 br gB/\St Tryz.f58.ntmps ⟨[(1,Pt 2 0),(4,I br),(128,B gB)],[(2,(48,(cO o_ a1 c1)))]⟩ Z a w X/\Old w0 X0 w X/\RS ay w X a1 o_.Rows c1) ?_ ?_
   ·refine gH [2,6] mixed hS ?_
    intro pm rc hS hE hD hH
    replace hO:=hO.m2 hE
    replace h103:=h103.m1 hE
    refine tke T [0,1,2] [2,6] hS hH #[true,true,true,false,false,false,false,false,false,false,false,false,false,false,false,false,false,false,false,false,false,false,false,false,false,false,false,false,false,false,false,false,false,false,false,false,false,false] 35 [] [(93,B (decide (br > 0)))] fun a hS=>?_
    rcases bft (decide (br > 0)) with hb | hb
    ·replace hS:=hS.lit (t:=93) kr hb
     replace hm:=hm.1 hb
     refine tke T [3,5,10,4,6,11] [2,6] hS hH #[true,true,true,true,true,true,true,false,false,false,true,true,false,false,false,false,false,false,false,false,false,false,false,false,false,false,false,false,false,false,false,false,false,false,false,false,false,false] 29 [] [(95,Sl a1 o_.Rows c1),(97,I (wR (br - 1))),(102,I ((gi o_.Rows br).State))] fun a hS=>?_
     obtain ⟨hq,hm⟩:=hm
     refine c6 (e:=107) (k:=.i64) T 7 hS kr kr kr (by rfl) kr hH kr kr h103 kr kr hq.1 hq.2 ?_
     intro B7 a h112 hS
     have yd:=h112.here
     refine dh (off:=0) (fsz:=1) (ft:=3) (TF:=tI) (y:=(gi o_.Rows (wR (br - 1))).State) 8 T hS kr kr kr (by rfl) kr hH kr h112 kr kr kr (fun cs h=>nh h) ?_
     intro Gf a h114 fv hS
     have Er:=yd
     rw [← fv] at Er
     clear fv
     refine dF T 9 hS kr kr kr (by rfl) kr hH kr h114 Er rfl kr ?_
     intro v115 a hv hS
     cases hv
     refine tke T [12,13] [2,6] hS hH #[true,true,true,true,true,true,true,true,true,true,true,true,true,true,false,false,false,false,false,false,false,false,false,false,false,false,false,false,false,false,false,false,false,false,false,false,false,false] 24 [95,97,102,98,99,100] [(104,B (decide (((gi o_.Rows (wR (br - 1))).State) > ((gi o_.Rows br).State))))] fun a hS=>?_
     rcases bft (decide (((gi o_.Rows (wR (br - 1))).State) > ((gi o_.Rows br).State))) with hb | hb
     ·replace hS:=hS.lit (t:=104) kr hb
      replace hm:=hm.1 hb
      refine tke T [14,16,21,15,17,22,18,19,20,23,24,25,27,32,26,28,33,29,30,31,34,35,36,37] [2,6] hS hH (tts 38) 0 [5,93,104] [(128,B true)] fun a hS=>?_
      refine aV kr ?_
      replace hS:=hS.sl ⟨[(1,Pt 2 0),(4,I br),(128,B true)],[(2,(48,(cO o_ a1 c1)))]⟩
      exact ⟨Z,_,true,hm,hS.sl _,hO,h103⟩
     replace hS:=hS.lit (t:=104) kr hb
     replace hm:=hm.2 hb
     refine tke T [14,16,21,15,17,22] [2,6] hS hH #[true,true,true,true,true,true,true,true,true,true,true,true,true,true,true,true,true,true,false,false,false,true,true,false,false,false,false,false,false,false,false,false,false,false,false,false,false,false] 18 [] [(106,Sl a1 o_.Rows c1),(108,I (wR (br - 1))),(113,I ((gi o_.Rows br).State))] fun a hS=>?_
     obtain ⟨hq,hm⟩:=hm
     refine c6 (e:=107) (k:=.i64) T 18 hS kr kr kr (by rfl) kr hH kr kr h103 kr kr hq.1 hq.2 ?_
     intro Ge a h117 hS
     have nJ:=h117.here
     refine dh (off:=0) (fsz:=1) (ft:=3) (TF:=tI) (y:=(gi o_.Rows (wR (br - 1))).State) 19 T hS kr kr kr (by rfl) kr hH kr h117 kr kr kr (fun cs h=>nh h) ?_
     intro Gd a h119 fv hS
     have uP:=nJ
     rw [← fv] at uP
     clear fv
     refine dF T 20 hS kr kr kr (by rfl) kr hH kr h119 uP rfl kr ?_
     intro v120 a hv hS
     cases hv
     refine tke T [23,24] [2,6] hS hH #[true,true,true,true,true,true,true,true,true,true,true,true,true,true,true,true,true,true,true,true,true,true,true,true,true,false,false,false,false,false,false,false,false,false,false,false,false,false] 13 [106,108,113,109,110,111] [(115,B (((gi o_.Rows (wR (br - 1))).State) == ((gi o_.Rows br).State)))] fun a hS=>?_
     rcases bft (((gi o_.Rows (wR (br - 1))).State) == ((gi o_.Rows br).State)) with hb | hb
     ·replace hS:=hS.lit (t:=115) kr hb
      replace hm:=hm.1 hb
      refine tke T [25,27,32,26,28,33] [2,6] hS hH #[true,true,true,true,true,true,true,true,true,true,true,true,true,true,true,true,true,true,true,true,true,true,true,true,true,true,true,true,true,false,false,false,true,true,false,false,false,false] 7 [5] [(117,Sl a1 o_.Rows c1),(119,I (wR (br - 1))),(124,I ((gi o_.Rows br).Kind))] fun a hS=>?_
      obtain ⟨hq,hm⟩:=hm
      refine c6 (e:=107) (k:=.i64) T 29 hS kr kr kr (by rfl) kr hH kr kr h103 kr kr hq.1 hq.2 ?_
      intro Gc a h122 hS
      have Bp:=h122.here
      refine dh (off:=1) (fsz:=1) (ft:=3) (TF:=tI) (y:=(gi o_.Rows (wR (br - 1))).Kind) 30 T hS kr kr kr (by rfl) kr hH kr h122 kr kr kr (fun cs h=>qU h) ?_
      intro DC a h124 fv hS
      have qu:=Bp
      rw [← fv] at qu
      clear fv
      refine dF T 31 hS kr kr kr (by rfl) kr hH kr h124 qu rfl kr ?_
      intro v125 a hv hS
      cases hv
      refine tke T [34,35,36,37] [2,6] hS hH (tts 38) 0 [93,104,115,117,119,124,120,121,122] [(128,B (decide (((gi o_.Rows (wR (br - 1))).Kind)≥((gi o_.Rows br).Kind))))] fun a hS=>?_
      refine aV kr ?_
      replace hS:=hS.sl ⟨[(1,Pt 2 0),(4,I br),(128,B (decide (((gi o_.Rows (wR (br - 1))).Kind)≥((gi o_.Rows br).Kind))))],[(2,(48,(cO o_ a1 c1)))]⟩
      exact ⟨Z,_,decide (((gi o_.Rows (wR (br - 1))).Kind)≥((gi o_.Rows br).Kind)),hm,hS.sl _,hO,h103⟩
     replace hS:=hS.lit (t:=115) kr hb
     replace hm:=hm.2 hb
     refine tke T [25,27,32,26,28,33,29,30,31,34,35,36,37] [2,6] hS hH (tts 38) 0 [5,93,104,115] [(128,B false)] fun a hS=>?_
     refine aV kr ?_
     replace hS:=hS.sl ⟨[(1,Pt 2 0),(4,I br),(128,B false)],[(2,(48,(cO o_ a1 c1)))]⟩
     exact ⟨Z,_,false,hm,hS.sl _,hO,h103⟩
    replace hS:=hS.lit (t:=93) kr hb
    replace hm:=hm.2 hb
    refine tke T [3,5,10,4,6,11,7,8,9,12,13,14,16,21,15,17,22,18,19,20,23,24,25,27,32,26,28,33,29,30,31,34,35,36,37] [2,6] hS hH (tts 38) 0 [5,93] [(128,B false)] fun a hS=>?_
    refine aV kr ?_
    replace hS:=hS.sl ⟨[(1,Pt 2 0),(4,I br),(128,B false)],[(2,(48,(cO o_ a1 c1)))]⟩
    exact ⟨Z,_,false,hm,hS.sl _,hO,h103⟩
   rintro a si ⟨Z,wX,gB,hm,hS,hO,h108⟩
   unfold VC58_J2 at hm
   refine aF hS (b:=gB) kr (fun hb=>?_) fun hb=>?_
   ·replace hm:=hm.1 hb
    refine rP T hS ⟨[(2,I br),(3,I 32)],[]⟩ fun a hS=>?_
    refine aZ ?_
    exact fin T hS hO (fun c=>c) rfl (r:=[.int .i64 br,.int .i64 32]) kr (fun X' hM hC=>⟨(br,32),hm,rfl⟩)
   replace hm:=hm.2 hb
   refine aL ?_
   refine region (ePe T hS [128] [(4,I (wR (br+1)))] fun a hS=>?_)
   exact ⟨wR (br+1),⟨Z,_,hm.1,hS.sl _,hO,h108⟩,hm.2⟩
  replace hm:=hm.2 hb
  refine cl (by rfl) ?_
  exact ⟨Z,_,hm,hS.sl _,hO,h103⟩
 rintro a yD ⟨Z,qQ,hm,hS,hO,h101⟩
 unfold VC58_J1 at hm
 refine rP T hS ⟨[(2,I (lN o_.Rows)),(3,I 0)],[]⟩ fun a hS=>?_
 refine aZ ?_
 exact fin T hS hO (fun c=>c) rfl (r:=[.int .i64 (lN o_.Rows),.int .i64 0]) kr (fun X' hM hC=>⟨((lN o_.Rows),0),hm,rfl⟩)
theorem C58 (v:∀ (o_:al),VC58 o_ (fun r=>r=cD o_)):S58:=by
 intro w X o_ a1 c1   h1
 refine (W58 w X o_ a1 c1   _ (v o_) h1).mono ?_
 rintro _ _ _ _ ⟨r,rfl,h⟩
 exact h
theorem W36 (Fa:S58) (J6:S65) (w0) (X0) (o_:al) (l_:List ab) (state:Int) (ac:List aa) (a1) (c1) (a2) (c2) (a3) (c3) (Q:Int × Int × Int->Prop) (hm:VC36 o_ l_ state ac Q) (h1:RS ay w0 X0 a1 o_.Rows c1) (h2:RS ao w0 X0 a2 l_ c2) (h3:RS ar w0 X0 a3 ac c3) :
  Ret Tryz.prog 36 #[.agg #[.int .i64 o_.aq,.int .i64 o_.ax,.int .i64 o_.aE,.slice a1 o_.Rows.length c1],.slice a2 l_.length c2,.int .i64 state,.slice a3 ac.length c3] aJ w0 X0 (fun w X' v=>∃ r,Q r/\v=.tuple #[.int .i64 r.1,.int .i64 r.2.1,.int .i64 r.2.2]):=by
 unfold VC36 at hm
 replace hm:=hm (h1.sm kr)
 replace hm:=hm (h2.sm kr)
 replace hm:=hm (h3.sm kr)
 refine enter Tryz.func36 rfl (vals:=[.agg #[.int .i64 o_.aq,.int .i64 o_.ax,.int .i64 o_.aE,.slice a1 o_.Rows.length c1],.slice a2 l_.length c2,.int .i64 state,.slice a3 ac.length c3]) kr ?_
 intro Z a hS hO hM
 replace h1:=h1.m0 hM
 replace h2:=h2.m0 hM
 replace h3:=h3.m0 hM
 refine rM T hS ⟨[(1,Sl a2 l_ c2),(2,I state),(3,Sl a3 ac c3),(4,Pt 5 0)],[(5,(48,(cO o_ a1 c1)))]⟩ fun Z a Cp F0 hS hE hr=>?_
 replace hO:=hO.m2 hE
 replace h1:=h1.m1 hE
 replace h2:=h2.m1 hE
 replace h3:=h3.m1 hE
 clear hE hr
 refine bn ?_
 refine oPe T hS 1 [] [(19,V (.agg #[.int .i64 o_.aq,.int .i64 o_.ax,.int .i64 o_.aE,.slice a1 o_.Rows.length c1]))] fun a hS=>?_
 refine op1 (call hS kr kr hb58 kr (fun _ _=>rfl) (Fa _ _ o_ a1 c1 h1) ?_)
 intro v101 a fh fo hE hp hS
 replace hO:=hO.m2 hE
 replace h1:=h1.m1 hE
 replace h2:=h2.m1 hE
 replace h3:=h3.m1 hE
 obtain ⟨av,hr⟩:∃ r,cD o_=r:=⟨_,rfl⟩
 replace hm:=hm av hr
 rw [hr] at hp
 clear hr
 subst hp
 refine ePe T hS [19,20] [(12,I av.2)] fun a hS=>?_
 refine bd ?_
 refine rPe T hS [12] [(24,B (av.2 != 0))] fun a hS=>?_
 refine aF hS (b:=(av.2 != 0)) kr (fun hb=>?_) fun hb=>?_
 ·replace hm:=hm.1 hb
  refine rP T hS ⟨[(8,I 0),(9,I (-1)),(10,I 2)],[]⟩ fun a hS=>?_
  refine aZ ?_
  exact fin T hS hO (fun c=>c) rfl (r:=[.int .i64 0,.int .i64 (-1),.int .i64 2]) kr (fun X' hM hC=>⟨(0,(-1),2),hm,rfl⟩)
 replace hm:=hm.2 hb
 refine aL (bd ?_)
 refine rPe T hS [24] [(32,B ((decide (state < 0)) || (decide (state≥o_.aq))))] (sp:=[27]) fun a hS=>?_
 refine aF hS (b:=((decide (state < 0)) || (decide (state≥o_.aq)))) kr (fun hb=>?_) fun hb=>?_
 ·replace hm:=hm.1 hb
  refine rP T hS ⟨[(8,I 0),(9,I (-1)),(10,I 30)],[]⟩ fun a hS=>?_
  refine aZ ?_
  exact fin T hS hO (fun c=>c) rfl (r:=[.int .i64 0,.int .i64 (-1),.int .i64 30]) kr (fun X' hM hC=>⟨(0,(-1),30),hm,rfl⟩)
 replace hm:=hm.2 hb
 refine aL ?_
 refine b5 (fun a w=>∃ (Z:Nat->Nat) (X:Nat->Nat) (gC:Int),VC36_J1 ac Q gC/\St Tryz.f36.ntmps ⟨[(2,I gC),(3,Sl a3 ac c3)],[]⟩ Z a w X/\Old w0 X0 w X/\RS ar w X a3 ac c3) ?_ ?_
 ·refine rPe T hS [32] [(13,I 0)] fun a hS=>?_
  refine aN ?_
  obtain ⟨I1,μ1,cy,hm⟩:=hm
  refine cw (σ:=Int × Int) (fun s a w=>∃ Z X,I1 s.1 s.2/\St Tryz.f36.ntmps ⟨[(1,Sl a2 l_ c2),(2,I s.1),(3,Sl a3 ac c3),(4,Pt 5 0),(13,I s.2)],[(5,(48,(cO o_ a1 c1)))]⟩ Z a w X/\Old w0 X0 w X/\RS ao w X a2 l_ c2/\RS ar w X a3 ac c3/\RS ay w X a1 o_.Rows c1) (fun s=>μ1 s.1 s.2) (⟨state,0⟩) ?_ ?_
  ·exact ⟨Z,_,cy,hS.sl _,hO,h2,h3,h1⟩
  rintro ⟨dn,bE⟩ a Cq ⟨Z,F2,hI,hS,hO,h107,h109,h111⟩
  replace hm:=hm dn bE hI
  clear hI cy
  refine bd ?_
  refine rPe T hS [] [(36,B (decide (bE < (lN ac))))] fun a hS=>?_
  refine aF hS (b:=decide (bE < (lN ac))) kr (fun hb=>?_) fun hb=>?_
  ·replace hm:=hm.1 hb
   refine aL (bd ?_)
   refine aN ?_
   refine bn ?_
   refine oPe T hS 2 [36] [(39,Sl a3 ac c3),(40,I bE)] fun a hS=>?_
   obtain ⟨hq,hm⟩:=hm
   refine op1 (index (e:=56) (k:=.i64) T hS kr kr kr kr h109 kr kr hq.1 hq.2 ?_)
   intro Gg a h113 hS
   refine op1 (eB T hS kr kr kr h113 kr kr ?_)
   intro v114 a hv hS
   subst hv
   refine eM T hS ⟨[(1,Sl a2 l_ c2),(2,I dn),(3,Sl a3 ac c3),(4,Pt 5 0),(13,I bE),(14,Pt 15 0)],[(5,(48,(cO o_ a1 c1))),(15,(56,(cK (gi ac bE))))]⟩ fun Z a Cr Dv hS hE hr=>?_
   replace hO:=hO.m2 hE
   replace h107:=h107.m1 hE
   replace h109:=h109.m1 hE
   replace h111:=h111.m1 hE
   clear hE hr
   refine bd ?_
   refine rPe T hS [] [(52,B ((decide (((gi ac bE).Oper) < 0)) || (decide (((gi ac bE).Oper)≥(lN l_)))))] (sp:=[46]) fun a hS=>?_
   refine aF hS (b:=((decide (((gi ac bE).Oper) < 0)) || (decide (((gi ac bE).Oper)≥(lN l_))))) kr (fun hb=>?_) fun hb=>?_
   ·replace hm:=hm.1 hb
    refine rP T hS ⟨[(8,I 0),(9,I bE),(10,I 2)],[]⟩ fun a hS=>?_
    refine aZ ?_
    exact fin T hS hO (fun c=>c) rfl (r:=[.int .i64 0,.int .i64 bE,.int .i64 2]) kr (fun X' hM hC=>⟨(0,bE,2),hm,rfl⟩)
   replace hm:=hm.2 hb
   refine aL ?_
   refine b5 (fun a w=>∃ Z X,VC36_J2 o_ l_ ac Q I1 μ1 dn bE/\St Tryz.f36.ntmps ⟨[(1,Sl a2 l_ c2),(2,I dn),(3,Sl a3 ac c3),(4,Pt 5 0),(13,I bE),(14,Pt 15 0)],[(5,(48,(cO o_ a1 c1))),(15,(56,(cK (gi ac bE))))]⟩ Z a w X/\Old w0 X0 w X/\RS ao w X a2 l_ c2/\RS ar w X a3 ac c3/\RS ay w X a1 o_.Rows c1) ?_ ?_
   ·refine rPe T hS [52] [(15,I 0)] fun a hS=>?_
    refine aN ?_
    obtain ⟨I2,μ2,cy,hm⟩:=hm
    refine cw (σ:=Int) (fun s a w=>∃ Z X,I2 s/\St Tryz.f36.ntmps ⟨[(1,Sl a2 l_ c2),(2,I dn),(3,Sl a3 ac c3),(4,Pt 5 0),(13,I bE),(14,Pt 15 0),(15,I s)],[(5,(48,(cO o_ a1 c1))),(15,(56,(cK (gi ac bE))))]⟩ Z a w X/\Old w0 X0 w X/\RS ao w X a2 l_ c2/\RS ar w X a3 ac c3/\RS ay w X a1 o_.Rows c1) (fun s=>μ2 s) (0) ?_ ?_
    ·exact ⟨Z,_,cy,hS.sl _,hO,h107,h109,h111⟩
    rintro ls a yz ⟨Z,zT,hI,hS,hO,h147,h148,h150⟩
    replace hm:=hm ls hI
    clear hI cy
    refine bd ?_
    refine rPe T hS [] [(56,B (decide (ls < bE)))] fun a hS=>?_
    refine aF hS (b:=decide (ls < bE)) kr (fun hb=>?_) fun hb=>?_
    ·replace hm:=hm.1 hb
     refine aL (bd ?_)
     refine aN ?_
     refine dq [5,15] mixed hS ?_
     intro EF wU hS hE hD hH
     replace hO:=hO.m2 hE
     replace h147:=h147.m1 hE
     replace h148:=h148.m1 hE
     replace h150:=h150.m1 hE
     refine tke T [0,1,5,6] [5,15] hS hH #[true,true,false,false,false,true,true,false] 4 [] [(59,Sl a3 ac c3),(60,I ls),(65,I ((gi ac bE).Oper))] fun a hS=>?_
     obtain ⟨hq,hm⟩:=hm
     refine c6 (e:=56) (k:=.i64) T 2 hS kr kr kr (by rfl) kr hH kr kr h148 kr kr hq.1 hq.2 ?_
     intro IJ a h154 hS
     have Bn:=h154.here
     refine dh (off:=0) (fsz:=1) (ft:=3) (TF:=tI) (y:=(gi ac ls).Oper) 3 T hS kr kr kr (by rfl) kr hH kr h154 kr kr kr (fun cs h=>fw h) ?_
     intro II a h156 fv hS
     have uN:=Bn
     rw [← fv] at uN
     clear fv
     refine dF T 4 hS kr kr kr (by rfl) kr hH kr h156 uN rfl kr ?_
     intro v157 a hv hS
     cases hv
     refine tke T [7] [5,15] hS hH (tts 8) 0 [59,60,65,61,62,63] [(66,B (((gi ac ls).Oper) == ((gi ac bE).Oper)))] fun a hS=>?_
     refine aV kr ?_
     replace hS:=hS.sle [] []
     refine aF hS (b:=(((gi ac ls).Oper) == ((gi ac bE).Oper))) kr (fun hb=>?_) fun hb=>?_
     ·replace hm:=hm.1 hb
      refine rP T hS ⟨[(8,I 0),(9,I bE),(10,I 21)],[]⟩ fun a hS=>?_
      refine aZ ?_
      exact fin T hS hO (fun c=>c) rfl (r:=[.int .i64 0,.int .i64 bE,.int .i64 21]) kr (fun X' hM hC=>⟨(0,bE,21),hm,rfl⟩)
     replace hm:=hm.2 hb
     refine aL ?_
     refine region (ePe T hS [66] [(15,I (wR (ls+1)))] fun a hS=>?_)
     exact ⟨wR (ls+1),⟨Z,_,hm.1,hS.sl _,hO,h147,h148,h150⟩,hm.2⟩
    replace hm:=hm.2 hb
    refine cl (by rfl) ?_
    exact ⟨Z,_,hm,hS.sl _,hO,h147,h148,h150⟩
   rintro a GH ⟨Z,Dw,hm,hS,hO,h115,h116,h117⟩
   unfold VC36_J2 at hm
   refine dq [5,15] mixed hS ?_
   intro yF zZ hS hE hD hH
   replace hO:=hO.m2 hE
   replace h115:=h115.m1 hE
   replace h116:=h116.m1 hE
   replace h117:=h117.m1 hE
   refine tke T [0,1,2,3,8,4,9] [5,15] hS hH #[true,true,true,true,true,false,false,false,true,true,false,false,false,false,false,false] 9 [2] [(69,V (.agg #[.int .i64 o_.aq,.int .i64 o_.ax,.int .i64 o_.aE,.slice a1 o_.Rows.length c1])),(70,I dn),(71,Sl a2 l_ c2),(73,I ((gi ac bE).Oper)),(78,I ((gi ac bE).Result))] fun a hS=>?_
   obtain ⟨hq,hm⟩:=hm
   refine c6 (e:=102) (k:=.i64) T 5 hS kr kr kr (by rfl) kr hH kr kr h115 kr kr hq.1 hq.2 ?_
   intro L7 a h121 hS
   have HK:=h121.here
   refine dh (off:=1) (fsz:=1) (ft:=3) (TF:=tI) (y:=(gi l_ ((gi ac bE).Oper)).Kind) 6 T hS kr kr kr (by rfl) kr hH kr h121 kr kr kr (fun cs h=>lZ h) ?_
   intro B6 a h123 fv hS
   have Ep:=HK
   rw [← fv] at Ep
   clear fv
   refine dF T 7 hS kr kr kr (by rfl) kr hH kr h123 Ep rfl kr ?_
   intro v124 a hv hS
   cases hv
   refine only 10 kr (by rfl) (call hS kr kr hb65 kr (fun _ _=>rfl) (J6 _ _ o_ dn ((gi l_ ((gi ac bE).Oper)).Kind) ((gi ac bE).Result) a1 c1 h117) ?_)
   intro v125 a tQ qR hE hp hS
   replace hO:=hO.m2 hE
   replace hD:=hD.ev hE rfl
   replace h115:=h115.m1 hE
   replace h116:=h116.m1 hE
   replace h117:=h117.m1 hE
   replace h121:=h121.m1 hE
   replace h123:=h123.m1 hE
   obtain ⟨bO,hr⟩:∃ r,c9 o_ dn ((gi l_ ((gi ac bE).Oper)).Kind) ((gi ac bE).Result)=r:=⟨_,rfl⟩
   replace hm:=hm bO hr
   rw [hr] at hp
   clear hr
   subst hp
   replace hS:=hS.sle [] [(79,V (.tuple #[.int .i64 bO.1,.int .i64 bO.2]))]
   refine cV (bI.of hS (bks:=[5,15]) kr hD) ?_
   intro hH
   refine tke T [11,12,13,14,15] [5,15] hS hH (tts 16) 0 [69,70,71,73,78,74,75,76,79] [(16,I bO.1),(17,I bO.2)] fun a hS=>?_
   refine aV kr ?_
   replace hS:=hS.sle [] []
   refine bd ?_
   refine rPe T hS [] [(83,B (bO.2 != 0))] fun a hS=>?_
   refine aF hS (b:=(bO.2 != 0)) kr (fun hb=>?_) fun hb=>?_
   ·replace hm:=hm.1 hb
    refine rP T hS ⟨[(8,I 0),(9,I bE),(10,I bO.2)],[]⟩ fun a hS=>?_
    refine aZ ?_
    exact fin T hS hO (fun c=>c) rfl (r:=[.int .i64 0,.int .i64 bE,.int .i64 bO.2]) kr (fun X' hM hC=>⟨(0,bE,bO.2),hm,rfl⟩)
   replace hm:=hm.2 hb
   refine aL (bd ?_)
   refine b5 (fun a w=>∃ (Z:Nat->Nat) (X:Nat->Nat) (fK:Bool),VC36_J3 Q I1 μ1 dn bE bO fK/\St Tryz.f36.ntmps ⟨[(1,Sl a2 l_ c2),(3,Sl a3 ac c3),(4,Pt 5 0),(13,I bE),(16,I bO.1),(103,B fK)],[(5,(48,(cO o_ a1 c1)))]⟩ Z a w X/\Old w0 X0 w X/\RS ao w X a2 l_ c2/\RS ar w X a3 ac c3/\RS ay w X a1 o_.Rows c1) ?_ ?_
   ·refine gH [5,15] mixed hS ?_
    intro yD BX hS hE hD hH
    replace hO:=hO.m2 hE
    replace h115:=h115.m1 hE
    replace h116:=h116.m1 hE
    replace h117:=h117.m1 hE
    refine tke T [0,1,2] [5,15] hS hH #[true,true,true,false,false,false,false,false,false,false,false,false,false,false,false,false,false,false] 15 [] [(86,Sl a2 l_ c2),(88,I ((gi ac bE).Oper))] fun a hS=>?_
    obtain ⟨hq,hm⟩:=hm
    refine c6 (e:=102) (k:=.i64) T 3 hS kr kr kr (by rfl) kr hH kr kr h115 kr kr hq.1 hq.2 ?_
    intro IK a h136 hS
    have HH:=h136.here
    refine dh (off:=3) (fsz:=1) (ft:=3) (TF:=tI) (y:=(gi l_ ((gi ac bE).Oper)).End) 4 T hS kr kr kr (by rfl) kr hH kr h136 kr kr kr (fun cs h=>lY h) ?_
    intro QJ a h138 fv hS
    have Eo:=HH
    rw [← fv] at Eo
    clear fv
    refine dF T 5 hS kr kr kr (by rfl) kr hH kr h138 Eo rfl kr ?_
    intro v139 a hv hS
    cases hv
    refine tke T [6,7] [5,15] hS hH #[true,true,true,true,true,true,true,true,false,false,false,false,false,false,false,false,false,false] 10 [86,88,89,90,91] [(93,B (((gi l_ ((gi ac bE).Oper)).End) != (-1)))] fun a hS=>?_
    rcases bft (((gi l_ ((gi ac bE).Oper)).End) != (-1)) with hb | hb
    ·replace hS:=hS.lit (t:=93) kr hb
     replace hm:=hm.1 hb
     refine tke T [8,9,14,10,15] [5,15] hS hH #[true,true,true,true,true,true,true,true,true,true,true,false,false,false,true,true,false,false] 5 [14] [(94,Sl a2 l_ c2),(96,I ((gi ac bE).Oper)),(101,I ((gi ac bE).Result))] fun a hS=>?_
     obtain ⟨hq,hm⟩:=hm
     refine c6 (e:=102) (k:=.i64) T 11 hS kr kr kr (by rfl) kr hH kr kr h115 kr kr hq.1 hq.2 ?_
     intro F8 a h141 hS
     have HG:=h141.here
     refine dh (off:=4) (fsz:=1) (ft:=3) (TF:=tI) (y:=(gi l_ ((gi ac bE).Oper)).Result) 12 T hS kr kr kr (by rfl) kr hH kr h141 kr kr kr (fun cs h=>oZ h) ?_
     intro L2 a h143 fv hS
     have En:=HG
     rw [← fv] at En
     clear fv
     refine dF T 13 hS kr kr kr (by rfl) kr hH kr h143 En rfl kr ?_
     intro v144 a hv hS
     cases hv
     refine tke T [16,17] [5,15] hS hH (tts 18) 0 [93,94,96,101,97,98,99] [(103,B (((gi l_ ((gi ac bE).Oper)).Result) != ((gi ac bE).Result)))] fun a hS=>?_
     refine aV kr ?_
     replace hS:=hS.sl ⟨[(1,Sl a2 l_ c2),(3,Sl a3 ac c3),(4,Pt 5 0),(13,I bE),(16,I bO.1),(103,B (((gi l_ ((gi ac bE).Oper)).Result) != ((gi ac bE).Result)))],[(5,(48,(cO o_ a1 c1)))]⟩
     exact ⟨Z,_,(((gi l_ ((gi ac bE).Oper)).Result) != ((gi ac bE).Result)),hm,hS.sl _,hO,h115,h116,h117⟩
    replace hS:=hS.lit (t:=93) kr hb
    replace hm:=hm.2 hb
    refine tke T [8,9,14,10,15,11,12,13,16,17] [5,15] hS hH (tts 18) 0 [14,93] [(103,B false)] fun a hS=>?_
    refine aV kr ?_
    replace hS:=hS.sl ⟨[(1,Sl a2 l_ c2),(3,Sl a3 ac c3),(4,Pt 5 0),(13,I bE),(16,I bO.1),(103,B false)],[(5,(48,(cO o_ a1 c1)))]⟩
    exact ⟨Z,_,false,hm,hS.sl _,hO,h115,h116,h117⟩
   rintro a Cv ⟨Z,zW,fK,hm,hS,hO,h129,h130,h132⟩
   unfold VC36_J3 at hm
   refine aF hS (b:=fK) kr (fun hb=>?_) fun hb=>?_
   ·replace hm:=hm.1 hb
    refine rP T hS ⟨[(8,I 0),(9,I bE),(10,I 40)],[]⟩ fun a hS=>?_
    refine aZ ?_
    exact fin T hS hO (fun c=>c) rfl (r:=[.int .i64 0,.int .i64 bE,.int .i64 40]) kr (fun X' hM hC=>⟨(0,bE,40),hm,rfl⟩)
   replace hm:=hm.2 hb
   refine aL ?_
   refine region (ePe T hS [16,103] [(2,I bO.1)] fun a hS=>?_)
   refine region (ePe T hS [] [(13,I (wR (bE+1)))] fun a hS=>?_)
   exact ⟨⟨bO.1,wR (bE+1)⟩,⟨Z,_,hm.1,hS.sl _,hO,h129,h130,h132⟩,hm.2⟩
  replace hm:=hm.2 hb
  refine cl (by rfl) ?_
  exact ⟨Z,_,dn,hm,hS.sl _,hO,h109⟩
 rintro a GF ⟨Z,Iz,gC,hm,hS,hO,h106⟩
 unfold VC36_J1 at hm
 refine rPe T hS [2,3] [(8,I gC),(9,I (lN ac)),(10,I 0)] fun a hS=>?_
 refine aZ ?_
 exact fin T hS hO (fun c=>c) rfl (r:=[.int .i64 gC,.int .i64 (lN ac),.int .i64 0]) kr (fun X' hM hC=>⟨(gC,(lN ac),0),hm,rfl⟩)
theorem C36 (Fa:S58) (J6:S65) (v:∀ (o_:al) (l_:List ab) (state:Int) (ac:List aa),VC36 o_ l_ state ac (fun r=>r=cH o_ l_ state ac)):S36:=by
 intro w X o_ l_ state ac a1 c1 a2 c2 a3 c3   h1 h2 h3
 refine (W36 Fa J6 w X o_ l_ state ac a1 c1 a2 c2 a3 c3   _ (v o_ l_ state ac) h1 h2 h3).mono ?_
 rintro _ _ _ _ ⟨r,rfl,h⟩
 exact h
theorem W67 (w0) (X0) (a_:ab) (b_:ab) (Q:Bool->Prop) (hm:VC67 a_ b_ Q) :
  Ret Tryz.prog 67 #[.agg #[.int .i64 a_.ah,.int .i64 a_.Kind,.int .i64 a_.aD,.int .i64 a_.End,.int .i64 a_.Result],.agg #[.int .i64 b_.ah,.int .i64 b_.Kind,.int .i64 b_.aD,.int .i64 b_.End,.int .i64 b_.Result]] aJ w0 X0 (fun w X' v=>∃ r,Q r/\v=.bool r):=by
 unfold VC67 at hm
 refine enter Tryz.func67 rfl (vals:=[.agg #[.int .i64 a_.ah,.int .i64 a_.Kind,.int .i64 a_.aD,.int .i64 a_.End,.int .i64 a_.Result],.agg #[.int .i64 b_.ah,.int .i64 b_.Kind,.int .i64 b_.aD,.int .i64 b_.End,.int .i64 b_.Result]]) kr ?_
 intro Z a hS hO hM
 refine rM T hS ⟨[(2,Pt 3 0),(3,Pt 4 0)],[(3,(102,(cP a_))),(4,(102,(cP b_)))]⟩ fun Z a n5 oI hS hE hr=>?_
 replace hO:=hO.m2 hE
 clear hE hr
 refine rP T hS ⟨[(4,B ((decide (a_.End≥0)) && (decide (b_.aD > a_.End))))],[]⟩ (sp:=[8]) fun a hS=>?_
 refine aZ ?_
 exact fin T hS hO (fun c=>c) rfl (r:=[.bool ((decide (a_.End≥0)) && (decide (b_.aD > a_.End)))]) kr (fun X' hM hC=>⟨((decide (a_.End≥0)) && (decide (b_.aD > a_.End))),hm,rfl⟩)
theorem C67 (v:∀ (a_:ab) (b_:ab),VC67 a_ b_ (fun r=>r=iR a_ b_)):S67:=by
 intro w X a_ b_    
 refine (W67 w X a_ b_    _ (v a_ b_)).mono ?_
 rintro _ _ _ _ ⟨r,rfl,h⟩
 exact h
theorem W37 (E9:S66) (J5:S67) (w0) (X0) (l_:List ab) (ac:List aa) (a1) (c1) (a2) (c2) (Q:Int->Prop) (hm:VC37 l_ ac Q) (h1:RS ao w0 X0 a1 l_ c1) (h2:RS ar w0 X0 a2 ac c2) :
  Ret Tryz.prog 37 #[.slice a1 l_.length c1,.slice a2 ac.length c2] aJ w0 X0 (fun w X' v=>∃ r,Q r/\v=.int .i64 r):=by
 unfold VC37 at hm
 replace hm:=hm (h1.sm kr)
 replace hm:=hm (h2.sm kr)
 refine enter Tryz.func37 rfl (vals:=[.slice a1 l_.length c1,.slice a2 ac.length c2]) kr ?_
 intro Z a hS hO hM
 replace h1:=h1.m0 hM
 replace h2:=h2.m0 hM
 refine rPe T hS [] [] fun a hS=>?_
 refine b5 (fun a w=>∃ Z X,VC37_J1 Q/\St Tryz.f37.ntmps ⟨[],[]⟩ Z a w X/\Old w0 X0 w X) ?_ ?_
 ·refine rPe T hS [] [(5,I 0)] fun a hS=>?_
  refine aN ?_
  obtain ⟨I1,μ1,cy,hm⟩:=hm
  refine cw (σ:=Int) (fun s a w=>∃ Z X,I1 s/\St Tryz.f37.ntmps ⟨[(0,Sl a1 l_ c1),(1,Sl a2 ac c2),(5,I s)],[]⟩ Z a w X/\Old w0 X0 w X/\RS ao w X a1 l_ c1/\RS ar w X a2 ac c2) (fun s=>μ1 s) (0) ?_ ?_
  ·exact ⟨Z,_,cy,hS.sl _,hO,h1,h2⟩
  rintro be a yB ⟨Z,F5,hI,hS,hO,h101,h102⟩
  replace hm:=hm be hI
  clear hI cy
  refine bd ?_
  refine rPe T hS [] [(12,B (decide (be < (lN ac))))] fun a hS=>?_
  refine aF hS (b:=decide (be < (lN ac))) kr (fun hb=>?_) fun hb=>?_
  ·replace hm:=hm.1 hb
   refine aL ?_
   refine b5 (fun a w=>∃ Z X,VC37_J2 I1 μ1 be/\St Tryz.f37.ntmps ⟨[(0,Sl a1 l_ c1),(1,Sl a2 ac c2),(5,I be)],[]⟩ Z a w X/\Old w0 X0 w X/\RS ao w X a1 l_ c1/\RS ar w X a2 ac c2) ?_ ?_
   ·refine aN ?_
    refine bn ?_
    refine oPe T hS 2 [12] [(15,Sl a2 ac c2),(16,I be)] fun a hS=>?_
    obtain ⟨hq,hm⟩:=hm
    refine op1 (index (e:=56) (k:=.i64) T hS kr kr kr kr h102 kr kr hq.1 hq.2 ?_)
    intro IM a h107 hS
    refine op1 (fc (off:=0) (fsz:=1) (ft:=3) (TF:=tI) (y:=(gi ac be).Oper) T hS kr kr kr h107 kr kr kr (fun cs h=>fw h) ?_)
    intro Mb a h109 hS
    refine op1 (eC T hS kr kr kr h109 rfl kr ?_)
    intro v110 a hv hS
    cases hv
    refine ePe T hS [15,16,17,18,19] [(6,I ((gi ac be).Oper))] fun a hS=>?_
    refine rPe T hS [] [(7,I 0)] fun a hS=>?_
    refine aN ?_
    obtain ⟨I2,μ2,cy,hm⟩:=hm
    refine cw (σ:=Int) (fun s a w=>∃ Z X,I2 s/\St Tryz.f37.ntmps ⟨[(0,Sl a1 l_ c1),(1,Sl a2 ac c2),(5,I be),(6,I ((gi ac be).Oper)),(7,I s)],[]⟩ Z a w X/\Old w0 X0 w X/\RS ao w X a1 l_ c1/\RS ar w X a2 ac c2) (fun s=>μ2 s) (0) ?_ ?_
    ·exact ⟨Z,_,cy,hS.sl _,hO,h101,h102⟩
    rintro bc a sh ⟨Z,wW,hI,hS,hO,h111,h112⟩
    replace hm:=hm bc hI
    clear hI cy
    refine bd ?_
    refine rPe T hS [] [(33,B (((decide (bc < (lN l_))) && (decide (((gi ac be).Oper)≥0))) && (decide (((gi ac be).Oper) < (lN l_)))))] (sp:=[24,28]) fun a hS=>?_
    refine aF hS (b:=(((decide (bc < (lN l_))) && (decide (((gi ac be).Oper)≥0))) && (decide (((gi ac be).Oper) < (lN l_))))) kr (fun hb=>?_) fun hb=>?_
    ·replace hm:=hm.1 hb
     refine aL (bd ?_)
     refine aN ?_
     refine bn ?_
     refine oPe T hS 2 [33] [(36,Sl a2 ac c2),(37,I bc)] fun a hS=>?_
     refine op1 (call hS kr kr hb66 kr (fun _ _=>rfl) (E9 _ _ ac bc a2 c2 h112) ?_)
     intro v114 a o5 tF hE hp hS
     replace hO:=hO.m2 hE
     replace h111:=h111.m1 hE
     replace h112:=h112.m1 hE
     obtain ⟨d4,hr⟩:∃ r,ca ac bc=r:=⟨_,rfl⟩
     replace hm:=hm d4 hr
     rw [hr] at hp
     clear hr
     subst hp
     refine ePe T hS [36,37,38] [(8,I d4)] fun a hS=>?_
     refine b5 (fun a w=>∃ (Z:Nat->Nat) (X:Nat->Nat) (d1:Bool),VC37_J3 Q be I2 μ2 bc d1/\St Tryz.f37.ntmps ⟨[(0,Sl a1 l_ c1),(1,Sl a2 ac c2),(5,I be),(6,I ((gi ac be).Oper)),(7,I bc),(56,B d1)],[]⟩ Z a w X/\Old w0 X0 w X/\RS ao w X a1 l_ c1/\RS ar w X a2 ac c2) ?_ ?_
     ·refine gH [] mixed hS ?_
      intro vQ B0 hS hE hD hH
      replace hO:=hO.m2 hE
      replace h111:=h111.m1 hE
      replace h112:=h112.m1 hE
      refine tke T [0,1,4,5] [] hS hH #[true,true,false,false,true,true,false,false,false,false,false,false,false,false,false,false,false,false] 14 [] [(39,Sl a1 l_ c1),(40,I bc),(43,Sl a1 l_ c1),(44,I ((gi ac be).Oper))] fun a hS=>?_
      obtain ⟨hq,hm⟩:=hm
      refine c6 (e:=102) (k:=.i64) T 2 hS kr kr kr (by rfl) kr hH kr kr h111 kr kr hq.1 hq.2 ?_
      intro DC a h124 hS
      have qu:=h124.here
      refine ku T 3 hS kr kr kr (by rfl) kr hH kr h124 qu kr kr ?_
      intro v125 a hv hS
      subst hv
      obtain ⟨hq,hm⟩:=hm
      refine c6 (e:=102) (k:=.i64) T 6 hS kr kr kr (by rfl) kr hH kr kr h111 kr kr hq.1 hq.2 ?_
      intro QM a h127 hS
      have HJ:=h127.here
      refine ku T 7 hS kr kr kr (by rfl) kr hH kr h127 HJ kr kr ?_
      intro v128 a hv hS
      subst hv
      refine only 8 kr (by rfl) (call hS kr kr hb67 kr (fun _ _=>rfl) (J5 _ _ (gi l_ bc) (gi l_ ((gi ac be).Oper))) ?_)
      intro v129 a tP BZ hE hp hS
      replace hO:=hO.m2 hE
      replace hD:=hD.ev hE rfl
      replace h111:=h111.m1 hE
      replace h112:=h112.m1 hE
      replace h124:=h124.m1 hE
      replace h127:=h127.m1 hE
      obtain ⟨gr,hr⟩:∃ r,iR (gi l_ bc) (gi l_ ((gi ac be).Oper))=r:=⟨_,rfl⟩
      replace hm:=hm gr hr
      rw [hr] at hp
      clear hr
      subst hp
      refine cV (bI.of hS (bks:=[]) kr hD) ?_
      intro hH
      refine tke T [9] [] hS hH #[true,true,true,true,true,true,true,true,true,true,false,false,false,false,false,false,false,false] 8 [39,40,43,44,41,42,45,46,47] [(48,B gr)] fun a hS=>?_
      rcases bft gr with hb | hb
      ·replace hS:=hS.lit (t:=48) kr hb
       replace hm:=hm.1 hb
       refine tke T [10,11,12] [] hS hH #[true,true,true,true,true,true,true,true,true,true,true,true,true,false,false,false,false,false] 5 [] [(51,B (decide (d4 < 0)))] fun a hS=>?_
       refine js (tc:=51) (b:=decide (d4 < 0)) (f:=fun c=>⟨[(0,Sl a1 l_ c1),(1,Sl a2 ac c2),(5,I be),(6,I ((gi ac be).Oper)),(7,I bc),(48,B true),(55,B (c || (decide (d4≥be))))],[]⟩) T [13,14,15,16] [] [0,1,5,6,7,48,55] hS kr kr kr kr hH (listed':=#[true,true,true,true,true,true,true,true,true,true,true,true,true,true,true,true,true,false]) (fuel:=1) kr kr (by rfl) ?_
       intro a hS
       refine tke T [17] [] hS hH (tts 18) 0 [48,55] [(56,B ((decide (d4 < 0)) || (decide (d4≥be))))] fun a hS=>?_
       refine aV kr ?_
       replace hS:=hS.sle [] []
       exact ⟨Z,_,((decide (d4 < 0)) || (decide (d4≥be))),hm,hS.sl _,hO,h111,h112⟩
      replace hS:=hS.lit (t:=48) kr hb
      replace hm:=hm.2 hb
      refine tke T [10,11,12,13,14,15,16,17] [] hS hH (tts 18) 0 [8,48] [(56,B false)] fun a hS=>?_
      refine aV kr ?_
      replace hS:=hS.sle [] []
      exact ⟨Z,_,false,hm,hS.sl _,hO,h111,h112⟩
     rintro a yC ⟨Z,LV,d1,hm,hS,hO,h118,h119⟩
     unfold VC37_J3 at hm
     refine aF hS (b:=d1) kr (fun hb=>?_) fun hb=>?_
     ·replace hm:=hm.1 hb
      refine rPe T hS [0,1,5,6,7,56] [(4,I be)] fun a hS=>?_
      refine aZ ?_
      exact fin T hS hO (fun c=>c) rfl (r:=[.int .i64 be]) kr (fun X' hM hC=>⟨be,hm,rfl⟩)
     replace hm:=hm.2 hb
     refine aL ?_
     refine region (ePe T hS [56] [(7,I (wR (bc+1)))] fun a hS=>?_)
     exact ⟨wR (bc+1),⟨Z,_,hm.1,hS.sl _,hO,h118,h119⟩,hm.2⟩
    replace hm:=hm.2 hb
    refine cl (by rfl) ?_
    exact ⟨Z,_,hm,hS.sl _,hO,h111,h112⟩
   rintro a Cy ⟨Z,vz,hm,hS,hO,h104,h105⟩
   unfold VC37_J2 at hm
   refine region (ePe T hS [] [(5,I (wR (be+1)))] fun a hS=>?_)
   exact ⟨wR (be+1),⟨Z,_,hm.1,hS.sl _,hO,h104,h105⟩,hm.2⟩
  replace hm:=hm.2 hb
  refine cl (by rfl) ?_
  exact ⟨Z,_,hm,hS.sl _,hO⟩
 rintro a qY ⟨Z,zX,hm,hS,hO⟩
 unfold VC37_J1 at hm
 refine rPe T hS [] [(4,I (-1))] fun a hS=>?_
 refine aZ ?_
 exact fin T hS hO (fun c=>c) rfl (r:=[.int .i64 (-1)]) kr (fun X' hM hC=>⟨(-1),hm,rfl⟩)
theorem C37 (E9:S66) (J5:S67) (v:∀ (l_:List ab) (ac:List aa),VC37 l_ ac (fun r=>r=ea l_ ac)):S37:=by
 intro w X l_ ac a1 c1 a2 c2   h1 h2
 refine (W37 E9 J5 w X l_ ac a1 c1 a2 c2   _ (v l_ ac) h1 h2).mono ?_
 rintro _ _ _ _ ⟨r,rfl,h⟩
 exact h
end Go.Proofs.YteahldlmkheleaaGreat
