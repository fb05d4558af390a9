/- Walks of the functions: each returns what its condition asks. -/
import Derived.Test.YteahldlmkheleaaGreatLWalksS
set_option linter.all false
namespace Go.Proofs.YteahldlmkheleaaGreat
open Go Go.Sv
set_option maxHeartbeats 1000000
theorem W34 (xy:S63) (w0) (X0) (l_:List ab) (ah:List aa) (a1) (c1) (a2) (c2) (Q:Int->Prop) (hm:VC34 l_ ah Q) (h1:RS ar w0 X0 a1 l_ c1) (h2:RS av w0 X0 a2 ah c2) :
  Ret Tryz.prog 34 #[.slice a1 l_.length c1,.slice a2 ah.length c2] aL w0 X0 (fun w X' v=>∃ r,Q r/\v=.int .i64 r):=by
 unfold VC34 at hm
 replace hm:=hm (h1.sm kr)
 replace hm:=hm (h2.sm kr)
 refine enter Tryz.func34 rfl (vals:=[.slice a1 l_.length c1,.slice a2 ah.length c2]) kr ?_
 intro Z a hS hO hM
 replace h1:=h1.m0 hM
 replace h2:=h2.m0 hM
 refine rPe T hS [] [] fun a hS=>?_
 refine F6 (by rfl) ?_
 refine bq ?_
 refine op1 (pF kI tI false 1011 hS kr kr ?_)
 intro eB a fp fx hE h104 hS
 replace hO:=hO.m2 hE
 replace h1:=h1.m1 hE
 replace h2:=h2.m1 hE
 refine ePe T hS [10] [(5,V (.map (some eB)))] fun a hS=>?_
 refine bg ?_
 refine F7 ?_
 refine cb (fun a w=>∃ Z X,VC34_J1 Q/\St Tryz.f34.ntmps ⟨[],[]⟩ Z a w X/\Old w0 X0 w X) ?_ ?_
 ·refine rPe T hS [1] [(11,Sl a2 ah c2),(12,I (lN ah)),(13,I 0)] fun a hS=>?_
  refine aN ?_
  obtain ⟨I1,μ1,cx,hm⟩:=hm
  refine ct (σ:=(List (Int × Int)) × Int) (fun s a w=>∃ Z X,I1 s.1 s.2/\St Tryz.f34.ntmps ⟨[(0,Sl a1 l_ c1),(5,V (.map (some eB))),(11,Sl a2 ah c2),(12,I (lN ah)),(13,I s.2)],[]⟩ Z a w X/\Old w0 X0 w X/\RS ar w X a1 l_ c1/\OM kI tI false w X 1011 eB s.1/\RS av w X a2 ah c2) (fun s=>μ1 s.1 s.2) (⟨([]:List (Int × Int)),0⟩) ?_ ?_
  ·exact ⟨Z,_,cx,hS.sl _,hO,h1,h104,h2⟩
  rintro ⟨fE,cr⟩ a zF ⟨Z,AX,hI,hS,hO,h105,h107,h108⟩
  replace hm:=hm fE cr hI
  clear hI cx
  refine rPe T hS [] [(14,B (decide (cr < (lN ah))))] fun a hS=>?_
  refine bg ?_
  refine aJ hS (b:=decide (cr < (lN ah))) kr (fun hb=>?_) fun hb=>?_
  ·replace hm:=hm.1 hb
   refine aM ?_
   refine cb (fun a w=>∃ (Z:Nat->Nat) (X:Nat->Nat) (dz:List (Int × Int)),VC34_J2 I1 μ1 fE cr dz/\St Tryz.f34.ntmps ⟨[(0,Sl a1 l_ c1),(5,V (.map (some eB))),(11,Sl a2 ah c2),(12,I (lN ah)),(13,I cr)],[]⟩ Z a w X/\Old w0 X0 w X/\RS ar w X a1 l_ c1/\OM kI tI false w X 1011 eB dz/\RS av w X a2 ah c2) ?_ ?_
   ·refine aN ?_
    refine bq ?_
    refine oPe T hS 1 [14] [(15,I cr)] fun a hS=>?_
    obtain ⟨hq,hm⟩:=hm
    refine op1 (index (e:=56) (k:=.i64) T hS kr kr kr kr h108 kr kr hq.1 hq.2 ?_)
    intro E9 a h115 hS
    refine op1 (eU T hS kr kr kr h115 kr kr ?_)
    intro v116 a hv hS
    subst hv
    refine eM T hS ⟨[(0,Sl a1 l_ c1),(5,V (.map (some eB))),(6,I cr),(7,Pt 8 0),(11,Sl a2 ah c2),(12,I (lN ah)),(13,I cr)],[(8,(56,(cK (gi ah cr))))]⟩ fun Z a ti xW hS hE hr=>?_
    replace hO:=hO.m2 hE
    replace h105:=h105.m1 hE
    replace h107:=h107.m2 hE
    replace h108:=h108.m1 hE
    clear hE hr
    refine bg ?_
    refine rPe T hS [] [(27,B ((decide (((gi ah cr).Oper) < 0)) || (decide (((gi ah cr).Oper)≥(lN l_)))))] (sp:=[21]) fun a hS=>?_
    refine aJ hS (b:=((decide (((gi ah cr).Oper) < 0)) || (decide (((gi ah cr).Oper)≥(lN l_))))) kr (fun hb=>?_) fun hb=>?_
    ·replace hm:=hm.1 hb
     refine cm (by rfl) ?_
     exact ⟨Z,_,fE,hm,hS.sl _,hO,h105,h107,h108⟩
    replace hm:=hm.2 hb
    refine aM ?_
    refine cb (fun a w=>∃ Z X,VC34_J3 ah I1 μ1 fE cr/\St Tryz.f34.ntmps ⟨[(0,Sl a1 l_ c1),(5,V (.map (some eB))),(7,Pt 8 0),(11,Sl a2 ah c2),(12,I (lN ah)),(13,I cr)],[(8,(56,(cK (gi ah cr))))]⟩ Z a w X/\Old w0 X0 w X/\RS ar w X a1 l_ c1/\OM kI tI false w X 1011 eB fE/\RS av w X a2 ah c2) ?_ ?_
    ·refine rPe T hS [27] [(28,Sl a1 l_ c1),(29,I (lN l_)),(30,I 0)] fun a hS=>?_
     refine aN ?_
     obtain ⟨I2,μ2,cx,hm⟩:=hm
     refine ct (σ:=Int) (fun s a w=>∃ Z X,I2 s/\St Tryz.f34.ntmps ⟨[(0,Sl a1 l_ c1),(5,V (.map (some eB))),(6,I cr),(7,Pt 8 0),(11,Sl a2 ah c2),(12,I (lN ah)),(13,I cr),(28,Sl a1 l_ c1),(29,I (lN l_)),(30,I s)],[(8,(56,(cK (gi ah cr))))]⟩ Z a w X/\Old w0 X0 w X/\RS ar w X a1 l_ c1/\OM kI tI false w X 1011 eB fE/\RS av w X a2 ah c2/\RS ar w X a1 l_ c1) (fun s=>μ2 s) (0) ?_ ?_
     ·exact ⟨Z,_,cx,hS.sl _,hO,h105,h107,h108,h105⟩
     rintro c9 a Gf ⟨Z,HE,hI,hS,hO,h123,h124,h125,h126⟩
     replace hm:=hm c9 hI
     clear hI cx
     refine rPe T hS [] [(31,B (decide (c9 < (lN l_))))] fun a hS=>?_
     refine bg ?_
     refine aJ hS (b:=decide (c9 < (lN l_))) kr (fun hb=>?_) fun hb=>?_
     ·replace hm:=hm.1 hb
      refine aM (bg ?_)
      refine aN ?_
      refine bq ?_
      refine oPe T hS 1 [31] [(32,I c9)] fun a hS=>?_
      obtain ⟨hq,hm⟩:=hm
      refine op1 (index (e:=102) (k:=.i64) T hS kr kr kr kr h126 kr kr hq.1 hq.2 ?_)
      intro Kt a h129 hS
      refine op1 (eU T hS kr kr kr h129 kr kr ?_)
      intro v130 a hv hS
      subst hv
      refine eM T hS ⟨[(0,Sl a1 l_ c1),(5,V (.map (some eB))),(6,I cr),(7,Pt 8 0),(8,I c9),(9,Pt 10 0),(11,Sl a2 ah c2),(12,I (lN ah)),(13,I cr),(28,Sl a1 l_ c1),(29,I (lN l_)),(30,I c9)],[(8,(56,(cK (gi ah cr)))),(10,(102,(cP (gi l_ c9))))]⟩ fun Z a Bo xY hS hE hr=>?_
      replace hO:=hO.m2 hE
      replace h123:=h123.m1 hE
      replace h124:=h124.m2 hE
      replace h125:=h125.m1 hE
      replace h126:=h126.m1 hE
      clear hE hr
      refine cb (fun a w=>∃ (Z:Nat->Nat) (X:Nat->Nat) (gq:Bool),VC34_J4 Q cr I2 μ2 c9 gq/\St Tryz.f34.ntmps ⟨[(0,Sl a1 l_ c1),(5,V (.map (some eB))),(6,I cr),(7,Pt 8 0),(11,Sl a2 ah c2),(12,I (lN ah)),(13,I cr),(28,Sl a1 l_ c1),(29,I (lN l_)),(30,I c9),(47,B gq)],[(8,(56,(cK (gi ah cr))))]⟩ Z a w X/\Old w0 X0 w X/\RS ar w X a1 l_ c1/\OM kI tI false w X 1011 eB fE/\RS av w X a2 ah c2/\RS ar w X a1 l_ c1) ?_ ?_
      ·refine iB [8,10] mixed hS ?_
       intro tl wB hS hE hD hH
       replace hO:=hO.m2 hE
       replace h123:=h123.m1 hE
       replace h124:=h124.m2 hE
       replace h125:=h125.m1 hE
       replace h126:=h126.m1 hE
       refine tke T [0,1,2,3] [8,10] hS hH #[true,true,true,true,false,false,false,false,false,false,false,false,false] 9 [9] [(35,V (.agg #[.int .i64 ((gi l_ c9).ak),.int .i64 ((gi l_ c9).Kind),.int .i64 ((gi l_ c9).aI),.int .i64 ((gi l_ c9).End),.int .i64 ((gi l_ c9).Result)])),(36,Sl a1 l_ c1),(38,I ((gi ah cr).Oper))] fun a hS=>?_
       obtain ⟨hq,hm⟩:=hm
       refine dm (e:=102) (k:=.i64) T 4 hS kr kr kr (by rfl) kr hH kr kr h123 kr kr hq.1 hq.2 ?_
       intro HK a h139 hS
       have zk:=h139.here
       refine ku T 5 hS kr kr kr (by rfl) kr hH kr h139 zk kr kr ?_
       intro v140 a hv hS
       subst hv
       refine only 6 kr (by rfl) (call hS kr kr hb63 kr (fun _ _=>rfl) (xy _ _ (gi l_ c9) (gi l_ ((gi ah cr).Oper))) ?_)
       intro v141 a qn sa hE hp hS
       replace hO:=hO.m2 hE
       replace hD:=hD.ev hE rfl
       replace h123:=h123.m1 hE
       replace h124:=h124.m2 hE
       replace h125:=h125.m1 hE
       replace h126:=h126.m1 hE
       replace h139:=h139.m1 hE
       obtain ⟨gH,hr⟩:∃ r,bl (gi l_ c9) (gi l_ ((gi ah cr).Oper))=r:=⟨_,rfl⟩
       replace hm:=hm gH hr
       rw [hr] at hp
       clear hr
       subst hp
       replace hS:=hS.sle [] [(41,B gH)]
       refine di (bP.of hS (bks:=[8,10]) kr hD) ?_
       intro hH
       refine tke T [7] [8,10] hS hH #[true,true,true,true,true,true,true,true,false,false,false,false,false] 5 [35,36,38,39,40,41] [(42,B gH)] fun a hS=>?_
       rcases bft gH with hb | hb
       ·replace hS:=hS.lit (t:=42) kr hb
        replace hm:=hm.1 hb
        refine tke T [8,9] [8,10] hS hH #[true,true,true,true,true,true,true,true,true,true,false,false,false] 3 [8] [(43,V (.map (some eB))),(44,I c9)] fun a hS=>?_
        refine only 10 kr (by rfl) (kf kI tI false (zv:=.int .i64 0) (z:=0) c9 hS kr kr kr kr Tryz.underlying113 Tryz.underlying3 kr rfl h124 ?_)
        intro v145 a hv hS
        replace hv:tI.R _ _ [v145] _:=hv
        cases hv
        refine di (bP.of hS (bks:=[8,10]) kr hD) ?_
        intro hH
        refine tke T [11,12] [8,10] hS hH (tts 13) 0 [42,43,44,45] [(47,B (((aF fE c9).getD 0) == 0))] fun a hS=>?_
        refine aX kr ?_
        replace hS:=hS.sl ⟨[(0,Sl a1 l_ c1),(5,V (.map (some eB))),(6,I cr),(7,Pt 8 0),(11,Sl a2 ah c2),(12,I (lN ah)),(13,I cr),(28,Sl a1 l_ c1),(29,I (lN l_)),(30,I c9),(47,B (((aF fE c9).getD 0) == 0))],[(8,(56,(cK (gi ah cr))))]⟩
        exact ⟨Z,_,(((aF fE c9).getD 0) == 0),hm,hS.sl _,hO,h123,h124,h125,h126⟩
       replace hS:=hS.lit (t:=42) kr hb
       replace hm:=hm.2 hb
       refine tke T [8,9,10,11,12] [8,10] hS hH (tts 13) 0 [8,42] [(47,B false)] fun a hS=>?_
       refine aX kr ?_
       replace hS:=hS.sl ⟨[(0,Sl a1 l_ c1),(5,V (.map (some eB))),(6,I cr),(7,Pt 8 0),(11,Sl a2 ah c2),(12,I (lN ah)),(13,I cr),(28,Sl a1 l_ c1),(29,I (lN l_)),(30,I c9),(47,B false)],[(8,(56,(cK (gi ah cr))))]⟩
       exact ⟨Z,_,false,hm,hS.sl _,hO,h123,h124,h125,h126⟩
      rintro a wQ ⟨Z,AZ,gq,hm,hS,hO,h131,h132,h133,h134⟩
      unfold VC34_J4 at hm
      refine aJ hS (b:=gq) kr (fun hb=>?_) fun hb=>?_
      ·replace hm:=hm.1 hb
       refine rP T hS ⟨[(4,I cr)],[]⟩ fun a hS=>?_
       refine aY ?_
       exact fin T hS hO (fun c=>c) rfl (r:=[.int .i64 cr]) kr (fun X' hM hC=>⟨cr,hm,rfl⟩)
      replace hm:=hm.2 hb
      refine aM ?_
      refine region (ePe T hS [47] [(30,I (wR (c9+1)))] fun a hS=>?_)
      exact ⟨wR (c9+1),⟨Z,_,hm.1,hS.sl _,hO,h131,h132,h133,h134⟩,hm.2⟩
     replace hm:=hm.2 hb
     refine cm (by rfl) ?_
     exact ⟨Z,_,hm,hS.sl _,hO,h123,h124,h125⟩
    rintro a Bm ⟨Z,xX,hm,hS,hO,h117,h118,h119⟩
    unfold VC34_J3 at hm
    refine region ?_
    refine oP T hS 3 ⟨[(0,Sl a1 l_ c1),(5,V (.map (some eB))),(11,Sl a2 ah c2),(12,I (lN ah)),(13,I cr),(50,V (.map (some eB))),(52,I ((gi ah cr).Oper))],[]⟩ fun a hS=>?_
    refine op1 (kf kI tI false (zv:=.int .i64 0) (z:=0) ((gi ah cr).Oper) hS kr kr kr kr Tryz.underlying113 Tryz.underlying3 kr rfl h118 ?_)
    intro v120 a hv hS
    replace hv:tI.R _ _ [v120] _:=hv
    cases hv
    refine oPe T hS 1 [53] [(54,I (wR (((aF fE ((gi ah cr).Oper)).getD 0)+1)))] fun a hS=>?_
    refine op1 (tU kI tI false (v:=I (wR (((aF fE ((gi ah cr).Oper)).getD 0)+1))) (u:=wR (((aF fE ((gi ah cr).Oper)).getD 0)+1)) ((gi ah cr).Oper) hS kr kr kr kr Tryz.underlying113 Tryz.underlying3 kr h118 rfl ?_)
    intro a wS hE h122 hS
    clear h118
    replace hO:=hO.m2 hE
    replace h117:=h117.m1 hE
    replace h119:=h119.m1 hE
    refine gY ?_
    exact ⟨Z,_,dv fE ((gi ah cr).Oper) (wR (((aF fE ((gi ah cr).Oper)).getD 0)+1)),hm,hS.sl _,hO,h117,h122,h119⟩
   rintro a zG ⟨Z,Dj,dz,hm,hS,hO,h110,h112,h113⟩
   unfold VC34_J2 at hm
   refine region (ePe T hS [] [(13,I (wR (cr+1)))] fun a hS=>?_)
   exact ⟨⟨dz,wR (cr+1)⟩,⟨Z,_,hm.1,hS.sl _,hO,h110,h112,h113⟩,hm.2⟩
  replace hm:=hm.2 hb
  refine cm (by rfl) ?_
  exact ⟨Z,_,hm,hS.sl _,hO⟩
 rintro a Il ⟨Z,EZ,hm,hS,hO⟩
 unfold VC34_J1 at hm
 refine rPe T hS [] [(4,I (-1))] fun a hS=>?_
 refine aY ?_
 exact fin T hS hO (fun c=>c) rfl (r:=[.int .i64 (-1)]) kr (fun X' hM hC=>⟨(-1),hm,rfl⟩)
theorem C34 (xy:S63) (v:∀ (l_:List ab) (ah:List aa),VC34 l_ ah (fun r=>r=cW l_ ah)):S34:=by
 intro w X l_ ah a1 c1 a2 c2   h1 h2
 refine (W34 xy w X l_ ah a1 c1 a2 c2   _ (v l_ ah) h1 h2).mono ?_
 rintro _ _ _ _ ⟨r,rfl,h⟩
 exact h
theorem W106 (w0) (X0) (o_:ab) (Q:Bool->Prop) (hm:VC106 o_ Q) :
  Ret Tryz.prog 106 #[.agg #[.int .i64 o_.ak,.int .i64 o_.Kind,.int .i64 o_.aI,.int .i64 o_.End,.int .i64 o_.Result]] aL w0 X0 (fun w X' v=>∃ r,Q r/\v=.bool r):=by
 unfold VC106 at hm
 refine enter Tryz.func106 rfl (vals:=[.agg #[.int .i64 o_.ak,.int .i64 o_.Kind,.int .i64 o_.aI,.int .i64 o_.End,.int .i64 o_.Result]]) kr ?_
 intro Z a hS hO hM
 refine rM T hS ⟨[(1,Pt 2 0)],[(2,(102,(cP o_)))]⟩ fun Z a oO pw hS hE hr=>?_
 replace hO:=hO.m2 hE
 clear hE hr
 refine bg ?_
 refine rPe T hS [] [(5,B (o_.End == (-1)))] fun a hS=>?_
 refine aJ hS (b:=(o_.End == (-1))) kr (fun hb=>?_) fun hb=>?_
 ·replace hm:=hm.1 hb
  refine rP T hS ⟨[(2,B (o_.Result == (-1)))],[]⟩ fun a hS=>?_
  refine aY ?_
  exact fin T hS hO (fun c=>c) rfl (r:=[.bool (o_.Result == (-1))]) kr (fun X' hM hC=>⟨(o_.Result == (-1)),hm,rfl⟩)
 replace hm:=hm.2 hb
 refine aM ?_
 refine rP T hS ⟨[(2,B ((((decide (o_.End > o_.aI)) && (decide (o_.End≤9999))) && (decide (o_.Result≥0))) && (decide (o_.Result≤1000000))))],[]⟩ (sp:=[14,19,24]) fun a hS=>?_
 refine aY ?_
 exact fin T hS hO (fun c=>c) rfl (r:=[.bool ((((decide (o_.End > o_.aI)) && (decide (o_.End≤9999))) && (decide (o_.Result≥0))) && (decide (o_.Result≤1000000)))]) kr (fun X' hM hC=>⟨((((decide (o_.End > o_.aI)) && (decide (o_.End≤9999))) && (decide (o_.Result≥0))) && (decide (o_.Result≤1000000))),hm,rfl⟩)
theorem C106 (v:∀ (o_:ab),VC106 o_ (fun r=>r=eG o_)):S106:=by
 intro w X o_    
 refine (W106 w X o_    _ (v o_)).mono ?_
 rintro _ _ _ _ ⟨r,rfl,h⟩
 exact h
theorem W95 (GZ:S106) (w0) (X0) (o_:ab) (Q:Int->Prop) (hm:VC95 o_ Q) :
  Ret Tryz.prog 95 #[.agg #[.int .i64 o_.ak,.int .i64 o_.Kind,.int .i64 o_.aI,.int .i64 o_.End,.int .i64 o_.Result]] aL w0 X0 (fun w X' v=>∃ r,Q r/\v=.int .i64 r):=by
 unfold VC95 at hm
 refine enter Tryz.func95 rfl (vals:=[.agg #[.int .i64 o_.ak,.int .i64 o_.Kind,.int .i64 o_.aI,.int .i64 o_.End,.int .i64 o_.Result]]) kr ?_
 intro Z a hS hO hM
 refine rM T hS ⟨[(1,Pt 2 0)],[(2,(102,(cP o_)))]⟩ fun Z a nz mi hS hE hr=>?_
 replace hO:=hO.m2 hE
 clear hE hr
 refine bg ?_
 refine aN ?_
 refine rPe T hS [] [(3,B ((((decide (o_.ak < 1)) || (decide (o_.ak > 1000))) || (decide (o_.aI < 0))) || (decide (o_.aI > 9999))))] (sp:=[7,12,17]) fun a hS=>?_
 refine aJ hS (b:=((((decide (o_.ak < 1)) || (decide (o_.ak > 1000))) || (decide (o_.aI < 0))) || (decide (o_.aI > 9999)))) kr (fun hb=>?_) fun hb=>?_
 ·replace hm:=hm.1 hb
  refine rP T hS ⟨[(2,I 2)],[]⟩ fun a hS=>?_
  refine aY ?_
  exact fin T hS hO (fun c=>c) rfl (r:=[.int .i64 2]) kr (fun X' hM hC=>⟨2,hm,rfl⟩)
 replace hm:=hm.2 hb
 refine rPe T hS [3] [(22,B ((decide (o_.Kind < 0)) || (decide (o_.Kind≥64))))] (sp:=[26]) fun a hS=>?_
 refine aJ hS (b:=((decide (o_.Kind < 0)) || (decide (o_.Kind≥64)))) kr (fun hb=>?_) fun hb=>?_
 ·replace hm:=hm.1 hb
  refine rP T hS ⟨[(2,I 31)],[]⟩ fun a hS=>?_
  refine aY ?_
  exact fin T hS hO (fun c=>c) rfl (r:=[.int .i64 31]) kr (fun X' hM hC=>⟨31,hm,rfl⟩)
 replace hm:=hm.2 hb
 refine bq ?_
 refine oP T hS 1 ⟨[(32,V (.agg #[.int .i64 o_.ak,.int .i64 o_.Kind,.int .i64 o_.aI,.int .i64 o_.End,.int .i64 o_.Result]))],[]⟩ fun a hS=>?_
 refine op1 (call hS kr kr hb106 kr (fun _ _=>rfl) (GZ _ _ o_) ?_)
 intro v101 a fp fx hE hp hS
 replace hO:=hO.m2 hE
 obtain ⟨ax,hr⟩:∃ r,eG o_=r:=⟨_,rfl⟩
 replace hm:=hm ax hr
 rw [hr] at hp
 clear hr
 subst hp
 refine ePe T hS [32,33] [(31,B (!ax))] fun a hS=>?_
 refine aJ hS (b:=(!ax)) kr (fun hb=>?_) fun hb=>?_
 ·replace hm:=hm.1 hb
  refine rPe T hS [31] [(2,I 7)] fun a hS=>?_
  refine aY ?_
  exact fin T hS hO (fun c=>c) rfl (r:=[.int .i64 7]) kr (fun X' hM hC=>⟨7,hm,rfl⟩)
 replace hm:=hm.2 hb
 refine aM ?_
 refine rPe T hS [31] [(2,I 0)] fun a hS=>?_
 refine aY ?_
 exact fin T hS hO (fun c=>c) rfl (r:=[.int .i64 0]) kr (fun X' hM hC=>⟨0,hm,rfl⟩)
theorem C95 (GZ:S106) (v:∀ (o_:ab),VC95 o_ (fun r=>r=dq o_)):S95:=by
 intro w X o_    
 refine (W95 GZ w X o_    _ (v o_)).mono ?_
 rintro _ _ _ _ ⟨r,rfl,h⟩
 exact h
theorem W80 (xy:S63) (Lx:S95) (w0) (X0) (l_:List ab) (a1) (c1) (Q:Int × Int->Prop) (hm:VC80 l_ Q) (h1:RS ar w0 X0 a1 l_ c1) :
  Ret Tryz.prog 80 #[.slice a1 l_.length c1] aL w0 X0 (fun w X' v=>∃ r,Q r/\v=.tuple #[.int .i64 r.1,.int .i64 r.2]):=by
 unfold VC80 at hm
 replace hm:=hm (h1.sm kr)
 refine enter Tryz.func80 rfl (vals:=[.slice a1 l_.length c1]) kr ?_
 intro Z a hS hO hM
 replace h1:=h1.m0 hM
 refine rPe T hS [] [] fun a hS=>?_
 refine bg ?_
 refine rPe T hS [] [(13,B (decide ((lN l_) > 5000)))] fun a hS=>?_
 refine aJ hS (b:=decide ((lN l_) > 5000)) kr (fun hb=>?_) fun hb=>?_
 ·replace hm:=hm.1 hb
  refine rPe T hS [0,13] [(2,I 0),(3,I 3)] fun a hS=>?_
  refine aY ?_
  exact fin T hS hO (fun c=>c) rfl (r:=[.int .i64 0,.int .i64 3]) kr (fun X' hM hC=>⟨(0,3),hm,rfl⟩)
 replace hm:=hm.2 hb
 refine aM ?_
 refine bq ?_
 refine op1 (pF kI tI false 1015 hS kr kr ?_)
 intro eB a fp fx hE h104 hS
 replace hO:=hO.m2 hE
 replace h1:=h1.m1 hE
 refine ePe T hS [13,14] [(4,V (.map (some eB)))] fun a hS=>?_
 refine bq ?_
 refine op1 (pF kI ar true 1016 hS kr kr ?_)
 intro jh a ny m9 hE h108 hS
 replace hO:=hO.m2 hE
 replace h1:=h1.m1 hE
 replace h104:=h104.m2 hE
 refine ePe T hS [15] [(5,V (.map (some jh)))] fun a hS=>?_
 refine cb (fun a w=>∃ Z X,VC80_J1 l_ Q/\St Tryz.f80.ntmps ⟨[(0,Sl a1 l_ c1)],[]⟩ Z a w X/\Old w0 X0 w X/\RS ar w X a1 l_ c1) ?_ ?_
 ·refine rPe T hS [] [(16,Sl a1 l_ c1),(17,I (lN l_)),(18,I 0)] fun a hS=>?_
  refine aN ?_
  obtain ⟨I1,μ1,cx,hm⟩:=hm
  refine ct (σ:=(List (Int × Int)) × (List (Int × ab)) × Int) (fun s a w=>∃ Z X,I1 s.1 s.2.1 s.2.2/\St Tryz.f80.ntmps ⟨[(0,Sl a1 l_ c1),(4,V (.map (some eB))),(5,V (.map (some jh))),(16,Sl a1 l_ c1),(17,I (lN l_)),(18,I s.2.2)],[]⟩ Z a w X/\Old w0 X0 w X/\RS ar w X a1 l_ c1/\OM kI tI false w X 1015 eB s.1/\OM kI ar true w X 1016 jh s.2.1/\RS ar w X a1 l_ c1) (fun s=>μ1 s.1 s.2.1 s.2.2) (⟨([]:List (Int × Int)),([]:List (Int × ab)),0⟩) ?_ ?_
  ·exact ⟨Z,_,cx,hS.sl _,hO,h1,h104,h108,h1⟩
  rintro ⟨dz,bh,a9⟩ a Ih ⟨Z,Hz,hI,hS,hO,h110,h112,h114,h115⟩
  replace hm:=hm dz bh a9 hI
  clear hI cx
  refine rPe T hS [] [(19,B (decide (a9 < (lN l_))))] fun a hS=>?_
  refine bg ?_
  refine aJ hS (b:=decide (a9 < (lN l_))) kr (fun hb=>?_) fun hb=>?_
  ·replace hm:=hm.1 hb
   refine aM ?_
   refine cb (fun a w=>∃ (Z:Nat->Nat) (X:Nat->Nat) (jO:List (Int × Int)),VC80_J2 l_ I1 μ1 dz bh a9 jO/\St Tryz.f80.ntmps ⟨[(0,Sl a1 l_ c1),(4,V (.map (some eB))),(5,V (.map (some jh))),(16,Sl a1 l_ c1),(17,I (lN l_)),(18,I a9)],[]⟩ Z a w X/\Old w0 X0 w X/\RS ar w X a1 l_ c1/\OM kI tI false w X 1015 eB jO/\OM kI ar true w X 1016 jh (dv bh ((gi l_ a9).ak) (gi l_ a9))/\RS ar w X a1 l_ c1) ?_ ?_
   ·refine aN ?_
    refine bq ?_
    refine oPe T hS 1 [19] [(20,I a9)] fun a hS=>?_
    obtain ⟨hq,hm⟩:=hm
    refine op1 (index (e:=102) (k:=.i64) T hS kr kr kr kr h115 kr kr hq.1 hq.2 ?_)
    intro Du a h123 hS
    refine op1 (eU T hS kr kr kr h123 kr kr ?_)
    intro v124 a hv hS
    subst hv
    refine eM T hS ⟨[(0,Sl a1 l_ c1),(4,V (.map (some eB))),(5,V (.map (some jh))),(6,I a9),(7,Pt 8 0),(16,Sl a1 l_ c1),(17,I (lN l_)),(18,I a9)],[(8,(102,(cP (gi l_ a9))))]⟩ fun Z a Ii NT hS hE hr=>?_
    replace hO:=hO.m2 hE
    replace h110:=h110.m1 hE
    replace h112:=h112.m2 hE
    replace h114:=h114.m2 hE
    replace h115:=h115.m1 hE
    clear hE hr
    refine bg ?_
    refine bq ?_
    refine oPe T hS 1 [] [(23,V (.agg #[.int .i64 ((gi l_ a9).ak),.int .i64 ((gi l_ a9).Kind),.int .i64 ((gi l_ a9).aI),.int .i64 ((gi l_ a9).End),.int .i64 ((gi l_ a9).Result)]))] fun a hS=>?_
    refine op1 (call hS kr kr hb95 kr (fun _ _=>rfl) (Lx _ _ (gi l_ a9)) ?_)
    intro v125 a tm p9 hE hp hS
    replace hO:=hO.m2 hE
    replace h110:=h110.m1 hE
    replace h112:=h112.m2 hE
    replace h114:=h114.m2 hE
    replace h115:=h115.m1 hE
    obtain ⟨bO,hr⟩:∃ r,dq (gi l_ a9)=r:=⟨_,rfl⟩
    replace hm:=hm bO hr
    rw [hr] at hp
    clear hr
    subst hp
    refine ePe T hS [23,24] [(8,I bO)] fun a hS=>?_
    refine rPe T hS [] [(26,B (bO != 0))] fun a hS=>?_
    refine aJ hS (b:=(bO != 0)) kr (fun hb=>?_) fun hb=>?_
    ·replace hm:=hm.1 hb
     refine rP T hS ⟨[(2,I a9),(3,I bO)],[]⟩ fun a hS=>?_
     refine aY ?_
     exact fin T hS hO (fun c=>c) rfl (r:=[.int .i64 a9,.int .i64 bO]) kr (fun X' hM hC=>⟨(a9,bO),hm,rfl⟩)
    replace hm:=hm.2 hb
    refine aM (bg ?_)
    refine cb (fun a w=>∃ (Z:Nat->Nat) (X:Nat->Nat) (mU:Bool),VC80_J3 l_ Q I1 μ1 dz bh a9 mU/\St Tryz.f80.ntmps ⟨[(0,Sl a1 l_ c1),(4,V (.map (some eB))),(5,V (.map (some jh))),(6,I a9),(7,Pt 8 0),(16,Sl a1 l_ c1),(17,I (lN l_)),(18,I a9),(60,B mU)],[(8,(102,(cP (gi l_ a9))))]⟩ Z a w X/\Old w0 X0 w X/\RS ar w X a1 l_ c1/\OM kI tI false w X 1015 eB dz/\OM kI ar true w X 1016 jh bh/\RS ar w X a1 l_ c1) ?_ ?_
    ·refine iB [8] mixed hS ?_
     intro Im E0 hS hE hD hH
     replace hO:=hO.m2 hE
     replace h110:=h110.m1 hE
     replace h112:=h112.m2 hE
     replace h114:=h114.m2 hE
     replace h115:=h115.m1 hE
     refine tke T [0,1,2] [8] hS hH #[true,true,true,false,false,false,false,false,false,false,false,false,false,false,false,false,false,false,false,false,false,false,false,false,false,false,false,false,false,false,false,false] 29 [] [(31,B (decide (a9 > 0)))] fun a hS=>?_
     rcases bft (decide (a9 > 0)) with hb | hb
     ·replace hS:=hS.lit (t:=31) kr hb
      replace hm:=hm.1 hb
      refine tke T [3,5,6,4,7] [8] hS hH #[true,true,true,true,true,true,true,true,false,false,false,false,false,false,false,false,false,false,false,false,false,false,false,false,false,false,false,false,false,false,false,false] 24 [] [(33,I ((gi l_ a9).aI)),(34,Sl a1 l_ c1),(36,I (wR (a9 - 1)))] fun a hS=>?_
      obtain ⟨hq,hm⟩:=hm
      refine dm (e:=102) (k:=.i64) T 8 hS kr kr kr (by rfl) kr hH kr kr h110 kr kr hq.1 hq.2 ?_
      intro SG a h159 hS
      have Jj:=h159.here
      refine dE (off:=2) (fsz:=1) (ft:=3) (TF:=tI) (y:=(gi l_ (wR (a9 - 1))).aI) 9 T hS kr kr kr (by rfl) kr hH kr h159 kr kr kr (fun cs h=>pQ h) ?_
      intro SE a h161 fR hS
      have FV:=Jj
      rw [← fR] at FV
      clear fR
      refine eu T 10 hS kr kr kr (by rfl) kr hH kr h161 FV rfl kr ?_
      intro v162 a hv hS
      cases hv
      refine tke T [11,12,13] [8] hS hH #[true,true,true,true,true,true,true,true,true,true,true,true,true,true,false,false,false,false,false,false,false,false,false,false,false,false,false,false,false,false,false,false] 18 [31,33,34,36,37,38,39] [(42,B (decide (((gi l_ a9).aI)≤((gi l_ (wR (a9 - 1))).aI))))] fun a hS=>?_
      rcases bft (decide (((gi l_ a9).aI)≤((gi l_ (wR (a9 - 1))).aI))) with hb | hb
      ·replace hS:=hS.lit (t:=42) kr hb
       replace hm:=hm.1 hb
       refine tke T [14,15,16,17,18,19,20,21,22,23,24,25,26,27,28,29,30,31] [8] hS hH (tts 32) 0 [42] [(60,B true)] fun a hS=>?_
       refine aX kr ?_
       replace hS:=hS.sle [] []
       exact ⟨Z,_,true,hm,hS.sl _,hO,h110,h112,h114,h115⟩
      replace hS:=hS.lit (t:=42) kr hb
      replace hm:=hm.2 hb
      refine tke T [14,15,16] [8] hS hH #[true,true,true,true,true,true,true,true,true,true,true,true,true,true,true,true,true,false,false,false,false,false,false,false,false,false,false,false,false,false,false,false] 15 [] [(43,V (.map (some eB))),(45,I ((gi l_ a9).aI))] fun a hS=>?_
      refine only 17 kr (by rfl) (kf kI tI false (zv:=.int .i64 0) (z:=0) ((gi l_ a9).aI) hS kr kr kr kr Tryz.underlying113 Tryz.underlying3 kr rfl h112 ?_)
      intro v163 a hv hS
      replace hv:tI.R _ _ [v163] _:=hv
      cases hv
      refine di (bP.of hS (bks:=[8]) kr hD) ?_
      intro hH
      refine tke T [18,19,20] [8] hS hH #[true,true,true,true,true,true,true,true,true,true,true,true,true,true,true,true,true,true,true,true,true,false,false,false,false,false,false,false,false,false,false,false] 11 [42,43,45,46] [(49,B (decide (((aF dz ((gi l_ a9).aI)).getD 0) > 0)))] fun a hS=>?_
      rcases bft (decide (((aF dz ((gi l_ a9).aI)).getD 0) > 0)) with hb | hb
      ·replace hS:=hS.lit (t:=49) kr hb
       replace hm:=hm.1 hb
       refine tke T [21,22,23,24,25,26,27,28,29,30,31] [8] hS hH (tts 32) 0 [49] [(60,B true)] fun a hS=>?_
       refine aX kr ?_
       replace hS:=hS.sle [] []
       exact ⟨Z,_,true,hm,hS.sl _,hO,h110,h112,h114,h115⟩
      replace hS:=hS.lit (t:=49) kr hb
      replace hm:=hm.2 hb
      refine tke T [21,22,23,24] [8] hS hH #[true,true,true,true,true,true,true,true,true,true,true,true,true,true,true,true,true,true,true,true,true,true,true,true,true,false,false,false,false,false,false,false] 7 [] [(53,B (decide (((gi l_ a9).End)≥0)))] fun a hS=>?_
      rcases bft (decide (((gi l_ a9).End)≥0)) with hb | hb
      ·replace hS:=hS.lit (t:=53) kr hb
       replace hm:=hm.1 hb
       refine tke T [25,26,27] [8] hS hH #[true,true,true,true,true,true,true,true,true,true,true,true,true,true,true,true,true,true,true,true,true,true,true,true,true,true,true,true,false,false,false,false] 4 [] [(54,V (.map (some eB))),(56,I ((gi l_ a9).End))] fun a hS=>?_
       refine only 28 kr (by rfl) (kf kI tI false (zv:=.int .i64 0) (z:=0) ((gi l_ a9).End) hS kr kr kr kr Tryz.underlying113 Tryz.underlying3 kr rfl h112 ?_)
       intro v164 a hv hS
       replace hv:tI.R _ _ [v164] _:=hv
       cases hv
       refine di (bP.of hS (bks:=[8]) kr hD) ?_
       intro hH
       refine tke T [29,30,31] [8] hS hH (tts 32) 0 [49,53,54,56,57] [(60,B (decide (((aF dz ((gi l_ a9).End)).getD 0) > 0)))] fun a hS=>?_
       refine aX kr ?_
       replace hS:=hS.sle [] []
       exact ⟨Z,_,decide (((aF dz ((gi l_ a9).End)).getD 0) > 0),hm,hS.sl _,hO,h110,h112,h114,h115⟩
      replace hS:=hS.lit (t:=53) kr hb
      replace hm:=hm.2 hb
      refine tke T [25,26,27,28,29,30,31] [8] hS hH (tts 32) 0 [49,53] [(60,B false)] fun a hS=>?_
      refine aX kr ?_
      replace hS:=hS.sle [] []
      exact ⟨Z,_,false,hm,hS.sl _,hO,h110,h112,h114,h115⟩
     replace hS:=hS.lit (t:=31) kr hb
     replace hm:=hm.2 hb
     refine tke T [3,5,6,4,7,8,9,10,11,12,13,14,15,16] [8] hS hH #[true,true,true,true,true,true,true,true,true,true,true,true,true,true,true,true,true,false,false,false,false,false,false,false,false,false,false,false,false,false,false,false] 15 [31] [(42,B false),(43,V (.map (some eB))),(45,I ((gi l_ a9).aI))] fun a hS=>?_
     refine only 17 kr (by rfl) (kf kI tI false (zv:=.int .i64 0) (z:=0) ((gi l_ a9).aI) hS kr kr kr kr Tryz.underlying113 Tryz.underlying3 kr rfl h112 ?_)
     intro v165 a hv hS
     replace hv:tI.R _ _ [v165] _:=hv
     cases hv
     refine di (bP.of hS (bks:=[8]) kr hD) ?_
     intro hH
     refine tke T [18,19,20] [8] hS hH #[true,true,true,true,true,true,true,true,true,true,true,true,true,true,true,true,true,true,true,true,true,false,false,false,false,false,false,false,false,false,false,false] 11 [42,43,45,46] [(49,B (decide (((aF dz ((gi l_ a9).aI)).getD 0) > 0)))] fun a hS=>?_
     rcases bft (decide (((aF dz ((gi l_ a9).aI)).getD 0) > 0)) with hb | hb
     ·replace hS:=hS.lit (t:=49) kr hb
      replace hm:=hm.1 hb
      refine tke T [21,22,23,24,25,26,27,28,29,30,31] [8] hS hH (tts 32) 0 [49] [(60,B true)] fun a hS=>?_
      refine aX kr ?_
      replace hS:=hS.sle [] []
      exact ⟨Z,_,true,hm,hS.sl _,hO,h110,h112,h114,h115⟩
     replace hS:=hS.lit (t:=49) kr hb
     replace hm:=hm.2 hb
     refine tke T [21,22,23,24] [8] hS hH #[true,true,true,true,true,true,true,true,true,true,true,true,true,true,true,true,true,true,true,true,true,true,true,true,true,false,false,false,false,false,false,false] 7 [] [(53,B (decide (((gi l_ a9).End)≥0)))] fun a hS=>?_
     rcases bft (decide (((gi l_ a9).End)≥0)) with hb | hb
     ·replace hS:=hS.lit (t:=53) kr hb
      replace hm:=hm.1 hb
      refine tke T [25,26,27] [8] hS hH #[true,true,true,true,true,true,true,true,true,true,true,true,true,true,true,true,true,true,true,true,true,true,true,true,true,true,true,true,false,false,false,false] 4 [] [(54,V (.map (some eB))),(56,I ((gi l_ a9).End))] fun a hS=>?_
      refine only 28 kr (by rfl) (kf kI tI false (zv:=.int .i64 0) (z:=0) ((gi l_ a9).End) hS kr kr kr kr Tryz.underlying113 Tryz.underlying3 kr rfl h112 ?_)
      intro v166 a hv hS
      replace hv:tI.R _ _ [v166] _:=hv
      cases hv
      refine di (bP.of hS (bks:=[8]) kr hD) ?_
      intro hH
      refine tke T [29,30,31] [8] hS hH (tts 32) 0 [49,53,54,56,57] [(60,B (decide (((aF dz ((gi l_ a9).End)).getD 0) > 0)))] fun a hS=>?_
      refine aX kr ?_
      replace hS:=hS.sle [] []
      exact ⟨Z,_,decide (((aF dz ((gi l_ a9).End)).getD 0) > 0),hm,hS.sl _,hO,h110,h112,h114,h115⟩
     replace hS:=hS.lit (t:=53) kr hb
     replace hm:=hm.2 hb
     refine tke T [25,26,27,28,29,30,31] [8] hS hH (tts 32) 0 [49,53] [(60,B false)] fun a hS=>?_
     refine aX kr ?_
     replace hS:=hS.sle [] []
     exact ⟨Z,_,false,hm,hS.sl _,hO,h110,h112,h114,h115⟩
    rintro a DN ⟨Z,Kf,mU,hm,hS,hO,h129,h130,h131,h132⟩
    unfold VC80_J3 at hm
    refine aJ hS (b:=mU) kr (fun hb=>?_) fun hb=>?_
    ·replace hm:=hm.1 hb
     refine rP T hS ⟨[(2,I a9),(3,I 32)],[]⟩ fun a hS=>?_
     refine aY ?_
     exact fin T hS hO (fun c=>c) rfl (r:=[.int .i64 a9,.int .i64 32]) kr (fun X' hM hC=>⟨(a9,32),hm,rfl⟩)
    replace hm:=hm.2 hb
    refine aM (bg ?_)
    refine bq ?_
    refine oPe T hS 3 [60] [(63,V (.map (some jh))),(65,I ((gi l_ a9).ak))] fun a hS=>?_
    refine op1 (GB kI ar true (zv:=.agg #[.int .i64 0,.int .i64 0,.int .i64 0,.int .i64 0,.int .i64 0]) (z:=(⟨0,0,0,0,0⟩:ab)) ((gi l_ a9).ak) hS kr kr kr kr Tryz.underlying153 Tryz.underlying3 kr ⟨_,rfl,rfl⟩ h131 ?_)
    intro v134 a hv hS
    obtain ⟨_,rfl,hv⟩:=hv
    cases hv
    refine eM T hS ⟨[(0,Sl a1 l_ c1),(4,V (.map (some eB))),(5,V (.map (some jh))),(6,I a9),(7,Pt 8 0),(9,Pt 10 0),(10,B ((aF bh ((gi l_ a9).ak)).isSome)),(16,Sl a1 l_ c1),(17,I (lN l_)),(18,I a9)],[(8,(102,(cP (gi l_ a9)))),(10,(102,(cP ((aF bh ((gi l_ a9).ak)).getD (⟨0,0,0,0,0⟩:ab)))))]⟩ fun Z a ti xW hS hE hr=>?_
    replace hO:=hO.m2 hE
    replace h129:=h129.m1 hE
    replace h130:=h130.m2 hE
    replace h131:=h131.m2 hE
    replace h132:=h132.m1 hE
    clear hE hr
    refine cb (fun a w=>∃ (Z:Nat->Nat) (X:Nat->Nat) (jN:Bool),VC80_J4 l_ Q I1 μ1 dz bh a9 jN/\St Tryz.f80.ntmps ⟨[(0,Sl a1 l_ c1),(4,V (.map (some eB))),(5,V (.map (some jh))),(6,I a9),(7,Pt 8 0),(16,Sl a1 l_ c1),(17,I (lN l_)),(18,I a9),(75,B jN)],[(8,(102,(cP (gi l_ a9))))]⟩ Z a w X/\Old w0 X0 w X/\RS ar w X a1 l_ c1/\OM kI tI false w X 1015 eB dz/\OM kI ar true w X 1016 jh bh/\RS ar w X a1 l_ c1) ?_ ?_
    ·refine region ?_
     refine oPe T hS 2 [10] [(70,B ((aF bh ((gi l_ a9).ak)).isSome))] fun a hS=>?_
     rcases bft ((aF bh ((gi l_ a9).ak)).isSome) with hb | hb
     ·replace hS:=hS.lit (t:=70) kr hb
      replace hm:=hm.1 hb
      refine oP T hS 2 ⟨[(0,Sl a1 l_ c1),(4,V (.map (some eB))),(5,V (.map (some jh))),(6,I a9),(7,Pt 8 0),(16,Sl a1 l_ c1),(17,I (lN l_)),(18,I a9),(70,B true),(71,V (.agg #[.int .i64 (((aF bh ((gi l_ a9).ak)).getD (⟨0,0,0,0,0⟩:ab)).ak),.int .i64 (((aF bh ((gi l_ a9).ak)).getD (⟨0,0,0,0,0⟩:ab)).Kind),.int .i64 (((aF bh ((gi l_ a9).ak)).getD (⟨0,0,0,0,0⟩:ab)).aI),.int .i64 (((aF bh ((gi l_ a9).ak)).getD (⟨0,0,0,0,0⟩:ab)).End),.int .i64 (((aF bh ((gi l_ a9).ak)).getD (⟨0,0,0,0,0⟩:ab)).Result)])),(72,V (.agg #[.int .i64 ((gi l_ a9).ak),.int .i64 ((gi l_ a9).Kind),.int .i64 ((gi l_ a9).aI),.int .i64 ((gi l_ a9).End),.int .i64 ((gi l_ a9).Result)]))],[(8,(102,(cP (gi l_ a9))))]⟩ fun a hS=>?_
      refine op1 (call hS kr kr hb63 kr (fun _ _=>rfl) (xy _ _ ((aF bh ((gi l_ a9).ak)).getD (⟨0,0,0,0,0⟩:ab)) (gi l_ a9)) ?_)
      intro v148 a Gg HE hE hp hS
      replace hO:=hO.m2 hE
      replace h129:=h129.m1 hE
      replace h130:=h130.m2 hE
      replace h131:=h131.m2 hE
      replace h132:=h132.m1 hE
      obtain ⟨oV,hr⟩:∃ r,bl ((aF bh ((gi l_ a9).ak)).getD (⟨0,0,0,0,0⟩:ab)) (gi l_ a9)=r:=⟨_,rfl⟩
      replace hm:=hm oV hr
      rw [hr] at hp
      clear hr
      subst hp
      refine ePe T hS [70,71,72,73] [(75,B (!oV))] fun a hS=>?_
      exact ⟨Z,_,(!oV),hm,hS.sl _,hO,h129,h130,h131,h132⟩
     replace hS:=hS.lit (t:=70) kr hb
     replace hm:=hm.2 hb
     refine eP T hS ⟨[(0,Sl a1 l_ c1),(4,V (.map (some eB))),(5,V (.map (some jh))),(6,I a9),(7,Pt 8 0),(16,Sl a1 l_ c1),(17,I (lN l_)),(18,I a9),(75,B false)],[(8,(102,(cP (gi l_ a9))))]⟩ fun a hS=>?_
     exact ⟨Z,_,false,hm,hS.sl _,hO,h129,h130,h131,h132⟩
    rintro a Bm ⟨Z,xX,jN,hm,hS,hO,h135,h136,h137,h138⟩
    unfold VC80_J4 at hm
    refine aJ hS (b:=jN) kr (fun hb=>?_) fun hb=>?_
    ·replace hm:=hm.1 hb
     refine rP T hS ⟨[(2,I a9),(3,I 33)],[]⟩ fun a hS=>?_
     refine aY ?_
     exact fin T hS hO (fun c=>c) rfl (r:=[.int .i64 a9,.int .i64 33]) kr (fun X' hM hC=>⟨(a9,33),hm,rfl⟩)
    replace hm:=hm.2 hb
    refine aM ?_
    refine bq ?_
    refine oPe T hS 3 [6,75] [(77,V (.map (some eB))),(79,I ((gi l_ a9).aI))] fun a hS=>?_
    refine op1 (kf kI tI false (zv:=.int .i64 0) (z:=0) ((gi l_ a9).aI) hS kr kr kr kr Tryz.underlying113 Tryz.underlying3 kr rfl h136 ?_)
    intro v140 a hv hS
    replace hv:tI.R _ _ [v140] _:=hv
    cases hv
    refine oPe T hS 1 [80] [(81,I (wR (((aF dz ((gi l_ a9).aI)).getD 0)+1)))] fun a hS=>?_
    refine op1 (tU kI tI false (v:=I (wR (((aF dz ((gi l_ a9).aI)).getD 0)+1))) (u:=wR (((aF dz ((gi l_ a9).aI)).getD 0)+1)) ((gi l_ a9).aI) hS kr kr kr kr Tryz.underlying113 Tryz.underlying3 kr h136 rfl ?_)
    intro a PI hE h142 hS
    clear h136
    replace hO:=hO.m2 hE
    replace h135:=h135.m1 hE
    replace h137:=h137.m2 hE
    replace h138:=h138.m1 hE
    refine gY ?_
    refine bq ?_
    refine oPe T hS 4 [] [(82,V (.map (some jh))),(84,I ((gi l_ a9).ak)),(85,V (.agg #[.int .i64 ((gi l_ a9).ak),.int .i64 ((gi l_ a9).Kind),.int .i64 ((gi l_ a9).aI),.int .i64 ((gi l_ a9).End),.int .i64 ((gi l_ a9).Result)]))] fun a hS=>?_
    refine op1 (tU kI ar true (v:=V (.agg #[.int .i64 ((gi l_ a9).ak),.int .i64 ((gi l_ a9).Kind),.int .i64 ((gi l_ a9).aI),.int .i64 ((gi l_ a9).End),.int .i64 ((gi l_ a9).Result)])) (u:=(gi l_ a9)) ((gi l_ a9).ak) hS kr kr kr kr Tryz.underlying153 Tryz.underlying3 kr h137 ⟨_,rfl,rfl⟩ ?_)
    intro a Gh hE h144 hS
    clear h137
    replace hO:=hO.m2 hE
    replace h135:=h135.m1 hE
    replace h138:=h138.m1 hE
    replace h142:=h142.m2 hE
    refine gY ?_
    refine rPe T hS [] [(88,B (decide (((gi l_ a9).End)≥0)))] fun a hS=>?_
    refine aJ hS (b:=decide (((gi l_ a9).End)≥0)) kr (fun hb=>?_) fun hb=>?_
    ·replace hm:=hm.1 hb
     refine region ?_
     refine oP T hS 3 ⟨[(0,Sl a1 l_ c1),(4,V (.map (some eB))),(5,V (.map (some jh))),(16,Sl a1 l_ c1),(17,I (lN l_)),(18,I a9),(89,V (.map (some eB))),(91,I ((gi l_ a9).End))],[]⟩ fun a hS=>?_
     refine op1 (kf kI tI false (zv:=.int .i64 0) (z:=0) ((gi l_ a9).End) hS kr kr kr kr Tryz.underlying113 Tryz.underlying3 kr rfl h142 ?_)
     intro v145 a hv hS
     replace hv:tI.R _ _ [v145] _:=hv
     cases hv
     refine oPe T hS 1 [92] [(93,I (wR (((aF (dv dz ((gi l_ a9).aI) (wR (((aF dz ((gi l_ a9).aI)).getD 0)+1))) ((gi l_ a9).End)).getD 0)+1)))] fun a hS=>?_
     refine op1 (tU kI tI false (v:=I (wR (((aF (dv dz ((gi l_ a9).aI) (wR (((aF dz ((gi l_ a9).aI)).getD 0)+1))) ((gi l_ a9).End)).getD 0)+1))) (u:=wR (((aF (dv dz ((gi l_ a9).aI) (wR (((aF dz ((gi l_ a9).aI)).getD 0)+1))) ((gi l_ a9).End)).getD 0)+1)) ((gi l_ a9).End) hS kr kr kr kr Tryz.underlying113 Tryz.underlying3 kr h142 rfl ?_)
     intro a DS hE h147 hS
     clear h142
     replace hO:=hO.m2 hE
     replace h135:=h135.m1 hE
     replace h138:=h138.m1 hE
     replace h144:=h144.m2 hE
     refine gY ?_
     exact ⟨Z,_,dv (dv dz ((gi l_ a9).aI) (wR (((aF dz ((gi l_ a9).aI)).getD 0)+1))) ((gi l_ a9).End) (wR (((aF (dv dz ((gi l_ a9).aI) (wR (((aF dz ((gi l_ a9).aI)).getD 0)+1))) ((gi l_ a9).End)).getD 0)+1)),hm,hS.sl _,hO,h135,h147,h144,h138⟩
    replace hm:=hm.2 hb
    refine aM ?_
    exact ⟨Z,_,dv dz ((gi l_ a9).aI) (wR (((aF dz ((gi l_ a9).aI)).getD 0)+1)),hm,hS.sl _,hO,h135,h142,h144,h138⟩
   rintro a Gb ⟨Z,NS,jO,hm,hS,hO,h117,h119,h120,h121⟩
   unfold VC80_J2 at hm
   refine region (ePe T hS [] [(18,I (wR (a9+1)))] fun a hS=>?_)
   exact ⟨⟨jO,dv bh ((gi l_ a9).ak) (gi l_ a9),wR (a9+1)⟩,⟨Z,_,hm.1,hS.sl _,hO,h117,h119,h120,h121⟩,hm.2⟩
  replace hm:=hm.2 hb
  refine cm (by rfl) ?_
  exact ⟨Z,_,hm,hS.sl _,hO,h110⟩
 rintro a PG ⟨Z,NR,hm,hS,hO,h109⟩
 unfold VC80_J1 at hm
 refine rPe T hS [0] [(2,I (lN l_)),(3,I 0)] fun a hS=>?_
 refine aY ?_
 exact fin T hS hO (fun c=>c) rfl (r:=[.int .i64 (lN l_),.int .i64 0]) kr (fun X' hM hC=>⟨((lN l_),0),hm,rfl⟩)
theorem C80 (xy:S63) (Lx:S95) (v:∀ (l_:List ab),VC80 l_ (fun r=>r=c7 l_)):S80:=by
 intro w X l_ a1 c1   h1
 refine (W80 xy Lx w X l_ a1 c1   _ (v l_) h1).mono ?_
 rintro _ _ _ _ ⟨r,rfl,h⟩
 exact h
theorem W51 (GR:S33) (GQ:S34) (GP:S35) (tY:S53) (GH:S80) (w0) (X0) (o_:aj) (l_:List ab) (ah:List aa) (a1) (c1) (a2) (c2) (a3) (c3) (Q:Int × Int->Prop) (hm:VC51 o_ l_ ah Q) (h1:RS aC w0 X0 a1 o_.Rows c1) (h2:RS ar w0 X0 a2 l_ c2) (h3:RS av w0 X0 a3 ah c3) :
  Ret Tryz.prog 51 #[.agg #[.int .i64 o_.au,.int .i64 o_.az,.int .i64 o_.aH,.slice a1 o_.Rows.length c1],.slice a2 l_.length c2,.slice a3 ah.length c3] aL w0 X0 (fun w X' v=>∃ r,Q r/\v=.tuple #[.int .i64 r.1,.int .i64 r.2]):=by
 unfold VC51 at hm
 replace hm:=hm (h1.sm kr)
 replace hm:=hm (h2.sm kr)
 replace hm:=hm (h3.sm kr)
 refine enter Tryz.func51 rfl (vals:=[.agg #[.int .i64 o_.au,.int .i64 o_.az,.int .i64 o_.aH,.slice a1 o_.Rows.length c1],.slice a2 l_.length c2,.slice a3 ah.length c3]) kr ?_
 intro Z a hS hO hM
 replace h1:=h1.m0 hM
 replace h2:=h2.m0 hM
 replace h3:=h3.m0 hM
 refine rM T hS ⟨[(1,Sl a2 l_ c2),(2,Sl a3 ah c3),(3,Pt 4 0)],[(4,(48,(cO o_ a1 c1)))]⟩ fun Z a uJ Dm hS hE hr=>?_
 replace hO:=hO.m2 hE
 replace h1:=h1.m1 hE
 replace h2:=h2.m1 hE
 replace h3:=h3.m1 hE
 clear hE hr
 refine bq ?_
 refine oPe T hS 1 [] [(18,V (.agg #[.int .i64 o_.au,.int .i64 o_.az,.int .i64 o_.aH,.slice a1 o_.Rows.length c1]))] fun a hS=>?_
 obtain ⟨hq,hm⟩:=hm
 refine op1 (call hS kr kr hb53 kr (fun _ _=>rfl) (tY _ _ o_ a1 c1 hq h1) ?_)
 intro v101 a fp fx hE hp hS
 replace hO:=hO.m2 hE
 replace h1:=h1.m1 hE
 replace h2:=h2.m1 hE
 replace h3:=h3.m1 hE
 obtain ⟨ax,hr⟩:∃ r,bB o_=r:=⟨_,rfl⟩
 replace hm:=hm ax hr
 rw [hr] at hp
 clear hr
 subst hp
 refine ePe T hS [18,19] [(9,I ax.2)] fun a hS=>?_
 refine bq ?_
 refine oPe T hS 1 [] [(23,Sl a2 l_ c2)] fun a hS=>?_
 refine op1 (call hS kr kr hb80 kr (fun _ _=>rfl) (GH _ _ l_ a2 c2 h2) ?_)
 intro v105 a ny m9 hE hp hS
 replace hO:=hO.m2 hE
 replace h1:=h1.m1 hE
 replace h2:=h2.m1 hE
 replace h3:=h3.m1 hE
 obtain ⟨ba,hr⟩:∃ r,c7 l_=r:=⟨_,rfl⟩
 replace hm:=hm ba hr
 rw [hr] at hp
 clear hr
 subst hp
 refine ePe T hS [23,24] [(11,I ba.2)] fun a hS=>?_
 refine bg ?_
 refine rPe T hS [9,11] [(32,B ((ax.2 != 0) || (ba.2 != 0)))] (sp:=[29]) fun a hS=>?_
 refine aJ hS (b:=((ax.2 != 0) || (ba.2 != 0))) kr (fun hb=>?_) fun hb=>?_
 ·replace hm:=hm.1 hb
  refine rP T hS ⟨[(6,I (-1)),(7,I 2)],[]⟩ fun a hS=>?_
  refine aY ?_
  exact fin T hS hO (fun c=>c) rfl (r:=[.int .i64 (-1),.int .i64 2]) kr (fun X' hM hC=>⟨((-1),2),hm,rfl⟩)
 replace hm:=hm.2 hb
 refine aM (bg ?_)
 refine bq ?_
 refine oP T hS 3 ⟨[(1,Sl a2 l_ c2),(2,Sl a3 ah c3),(34,V (.agg #[.int .i64 o_.au,.int .i64 o_.az,.int .i64 o_.aH,.slice a1 o_.Rows.length c1])),(35,Sl a2 l_ c2),(36,Sl a3 ah c3)],[]⟩ fun a hS=>?_
 obtain ⟨hq,hm⟩:=hm
 refine op1 (call hS kr kr hb33 kr (fun _ _=>rfl) (GR _ _ o_ l_ ah a1 c1 a2 c2 a3 c3 hq h1 h2 h3) ?_)
 intro v109 a Gk HI hE hp hS
 replace hO:=hO.m2 hE
 replace h1:=h1.m1 hE
 replace h2:=h2.m1 hE
 replace h3:=h3.m1 hE
 obtain ⟨bN,hr⟩:∃ r,cS o_ l_ ah=r:=⟨_,rfl⟩
 replace hm:=hm bN hr
 rw [hr] at hp
 clear hr
 subst hp
 refine ePe T hS [34,35,36,37] [(13,I bN.2.1),(14,I bN.2.2)] fun a hS=>?_
 refine rPe T hS [] [(42,B (bN.2.2 != 0))] fun a hS=>?_
 refine aJ hS (b:=(bN.2.2 != 0)) kr (fun hb=>?_) fun hb=>?_
 ·replace hm:=hm.1 hb
  refine rPe T hS [1,2,13,14,42] [(6,I bN.2.1),(7,I bN.2.2)] fun a hS=>?_
  refine aY ?_
  exact fin T hS hO (fun c=>c) rfl (r:=[.int .i64 bN.2.1,.int .i64 bN.2.2]) kr (fun X' hM hC=>⟨(bN.2.1,bN.2.2),hm,rfl⟩)
 replace hm:=hm.2 hb
 refine aM (bg ?_)
 refine bq ?_
 refine oPe T hS 2 [13,14,42] [(45,Sl a2 l_ c2),(46,Sl a3 ah c3)] fun a hS=>?_
 refine op1 (call hS kr kr hb34 kr (fun _ _=>rfl) (GQ _ _ l_ ah a2 c2 a3 c3 h2 h3) ?_)
 intro v113 a Ip HH hE hp hS
 replace hO:=hO.m2 hE
 replace h2:=h2.m1 hE
 replace h3:=h3.m1 hE
 obtain ⟨pX,hr⟩:∃ r,cW l_ ah=r:=⟨_,rfl⟩
 replace hm:=hm pX hr
 rw [hr] at hp
 clear hr
 subst hp
 refine ePe T hS [45,46,47] [(15,I pX)] fun a hS=>?_
 refine rPe T hS [] [(49,B (decide (pX≥0)))] fun a hS=>?_
 refine aJ hS (b:=decide (pX≥0)) kr (fun hb=>?_) fun hb=>?_
 ·replace hm:=hm.1 hb
  refine rPe T hS [1,2,15,49] [(6,I pX),(7,I 42)] fun a hS=>?_
  refine aY ?_
  exact fin T hS hO (fun c=>c) rfl (r:=[.int .i64 pX,.int .i64 42]) kr (fun X' hM hC=>⟨(pX,42),hm,rfl⟩)
 replace hm:=hm.2 hb
 refine aM (bg ?_)
 refine bq ?_
 refine oPe T hS 2 [1,15,49] [(51,Sl a2 l_ c2),(52,Sl a3 ah c3)] fun a hS=>?_
 obtain ⟨hq,hm⟩:=hm
 refine op1 (call hS kr kr hb35 kr (fun _ _=>rfl) (GP _ _ l_ ah a2 c2 a3 c3 hq h2 h3) ?_)
 intro v117 a Br Dp hE hp hS
 replace hO:=hO.m2 hE
 replace h2:=h2.m1 hE
 replace h3:=h3.m1 hE
 obtain ⟨m8,mZ,hp,h123⟩:=hp
 obtain ⟨ka,hr⟩:∃ r,b9 l_ ah=r:=⟨_,rfl⟩
 replace hm:=hm ka hr
 rw [hr] at hp h123
 clear hr
 subst hp
 replace hm:=hm (h123.sm kr)
 refine ePe T hS [51,52,53] [(16,Sl m8 ka mZ)] fun a hS=>?_
 refine rPe T hS [] [(56,B (decide ((lN ka) > 0)))] fun a hS=>?_
 refine aJ hS (b:=decide ((lN ka) > 0)) kr (fun hb=>?_) fun hb=>?_
 ·replace hm:=hm.1 hb
  refine bq ?_
  refine oPe T hS 1 [2,16,56] [(57,Sl m8 ka mZ)] fun a hS=>?_
  obtain ⟨hq,hm⟩:=hm
  refine op1 (index (e:=3) (k:=.i64) T hS kr kr kr kr h123 kr kr hq.1 hq.2 ?_)
  intro E7 a h125 hS
  refine op1 (dW T hS kr kr kr h125 rfl kr ?_)
  intro v126 a hv hS
  cases hv
  refine ePe T hS [57,58,59] [(6,I (gi ka 0)),(7,I 41)] fun a hS=>?_
  refine aY ?_
  exact fin T hS hO (fun c=>c) rfl (r:=[.int .i64 (gi ka 0),.int .i64 41]) kr (fun X' hM hC=>⟨(gi ka 0,41),hm,rfl⟩)
 replace hm:=hm.2 hb
 refine aM ?_
 refine rPe T hS [2,16,56] [(6,I (lN ah)),(7,I 0)] fun a hS=>?_
 refine aY ?_
 exact fin T hS hO (fun c=>c) rfl (r:=[.int .i64 (lN ah),.int .i64 0]) kr (fun X' hM hC=>⟨((lN ah),0),hm,rfl⟩)
theorem C51 (GR:S33) (GQ:S34) (GP:S35) (tY:S53) (GH:S80) (v:∀ (o_:aj) (l_:List ab) (ah:List aa),lq o_ l_ ah->VC51 o_ l_ ah (fun r=>r=eV o_ l_ ah)):S51:=by
 intro w X o_ l_ ah a1 c1 a2 c2 a3 c3   hp h1 h2 h3
 refine (W51 GR GQ GP tY GH w X o_ l_ ah a1 c1 a2 c2 a3 c3   _ (v o_ l_ ah hp) h1 h2 h3).mono ?_
 rintro _ _ _ _ ⟨r,rfl,h⟩
 exact h
theorem W20 (L0:S51) (w0) (X0) (o_:aj) (l_:List ab) (ah:List aa) (a1) (c1) (a2) (c2) (a3) (c3) (Q:Bool->Prop) (hm:VC20 o_ l_ ah Q) (h1:RS aC w0 X0 a1 o_.Rows c1) (h2:RS ar w0 X0 a2 l_ c2) (h3:RS av w0 X0 a3 ah c3) :
  Ret Tryz.prog 20 #[.agg #[.int .i64 o_.au,.int .i64 o_.az,.int .i64 o_.aH,.slice a1 o_.Rows.length c1],.slice a2 l_.length c2,.slice a3 ah.length c3] aL w0 X0 (fun w X' v=>∃ r,Q r/\v=.bool r):=by
 unfold VC20 at hm
 replace hm:=hm (h1.sm kr)
 replace hm:=hm (h2.sm kr)
 replace hm:=hm (h3.sm kr)
 refine enter Tryz.func20 rfl (vals:=[.agg #[.int .i64 o_.au,.int .i64 o_.az,.int .i64 o_.aH,.slice a1 o_.Rows.length c1],.slice a2 l_.length c2,.slice a3 ah.length c3]) kr ?_
 intro Z a hS hO hM
 replace h1:=h1.m0 hM
 replace h2:=h2.m0 hM
 replace h3:=h3.m0 hM
 refine rM T hS ⟨[(1,Sl a2 l_ c2),(2,Sl a3 ah c3),(3,Pt 4 0)],[(4,(48,(cO o_ a1 c1)))]⟩ fun Z a nz mi hS hE hr=>?_
 replace hO:=hO.m2 hE
 replace h1:=h1.m1 hE
 replace h2:=h2.m1 hE
 replace h3:=h3.m1 hE
 clear hE hr
 refine bq ?_
 refine oP T hS 3 ⟨[(10,V (.agg #[.int .i64 o_.au,.int .i64 o_.az,.int .i64 o_.aH,.slice a1 o_.Rows.length c1])),(11,Sl a2 l_ c2),(12,Sl a3 ah c3)],[]⟩ fun a hS=>?_
 obtain ⟨hq,hm⟩:=hm
 refine op1 (call hS kr kr hb51 kr (fun _ _=>rfl) (L0 _ _ o_ l_ ah a1 c1 a2 c2 a3 c3 hq h1 h2 h3) ?_)
 intro v101 a fp fx hE hp hS
 replace hO:=hO.m2 hE
 replace h1:=h1.m1 hE
 replace h2:=h2.m1 hE
 replace h3:=h3.m1 hE
 obtain ⟨ax,hr⟩:∃ r,eV o_ l_ ah=r:=⟨_,rfl⟩
 replace hm:=hm ax hr
 rw [hr] at hp
 clear hr
 subst hp
 refine ePe T hS [10,11,12,13] [(8,I ax.2)] fun a hS=>?_
 refine rPe T hS [8] [(6,B (ax.2 == 0))] fun a hS=>?_
 refine aY ?_
 exact fin T hS hO (fun c=>c) rfl (r:=[.bool (ax.2 == 0)]) kr (fun X' hM hC=>⟨(ax.2 == 0),hm,rfl⟩)
theorem C20 (L0:S51) (v:∀ (o_:aj) (l_:List ab) (ah:List aa),lq o_ l_ ah->VC20 o_ l_ ah (fun r=>r=dt o_ l_ ah)):S20:=by
 intro w X o_ l_ ah a1 c1 a2 c2 a3 c3   hp h1 h2 h3
 refine (W20 L0 w X o_ l_ ah a1 c1 a2 c2 a3 c3   _ (v o_ l_ ah hp) h1 h2 h3).mono ?_
 rintro _ _ _ _ ⟨r,rfl,h⟩
 exact h
theorem W66 (w0) (X0) (ah:List aa) (i_:Int) (a1) (c1) (Q:Int->Prop) (hm:VC66 ah i_ Q) (h1:RS av w0 X0 a1 ah c1) :
  Ret Tryz.prog 66 #[.slice a1 ah.length c1,.int .i64 i_] aL w0 X0 (fun w X' v=>∃ r,Q r/\v=.int .i64 r):=by
 unfold VC66 at hm
 replace hm:=hm (h1.sm kr)
 refine enter Tryz.func66 rfl (vals:=[.slice a1 ah.length c1,.int .i64 i_]) kr ?_
 intro Z a hS hO hM
 replace h1:=h1.m0 hM
 refine rPe T hS [] [] fun a hS=>?_
 refine cb (fun a w=>∃ Z X,VC66_J1 Q/\St Tryz.f66.ntmps ⟨[],[]⟩ Z a w X/\Old w0 X0 w X) ?_ ?_
 ·refine rPe T hS [] [(5,I 0)] fun a hS=>?_
  refine aN ?_
  obtain ⟨I1,μ1,cx,hm⟩:=hm
  refine ct (σ:=Int) (fun s a w=>∃ Z X,I1 s/\St Tryz.f66.ntmps ⟨[(0,Sl a1 ah c1),(1,I i_),(5,I s)],[]⟩ Z a w X/\Old w0 X0 w X/\RS av w X a1 ah c1) (fun s=>μ1 s) (0) ?_ ?_
  ·exact ⟨Z,_,cx,hS.sl _,hO,h1⟩
  rintro bC a qo ⟨Z,qa,hI,hS,hO,h101⟩
  replace hm:=hm bC hI
  clear hI cx
  refine bg ?_
  refine rPe T hS [] [(9,B (decide (bC < (lN ah))))] fun a hS=>?_
  refine aJ hS (b:=decide (bC < (lN ah))) kr (fun hb=>?_) fun hb=>?_
  ·replace hm:=hm.1 hb
   refine aM (bg ?_)
   refine aN ?_
   refine bq ?_
   refine oPe T hS 2 [9] [(12,Sl a1 ah c1),(13,I bC)] fun a hS=>?_
   obtain ⟨hq,hm⟩:=hm
   refine op1 (index (e:=56) (k:=.i64) T hS kr kr kr kr h101 kr kr hq.1 hq.2 ?_)
   intro uE a h104 hS
   refine op1 (fw (off:=0) (fsz:=1) (ft:=3) (TF:=tI) (y:=(gi ah bC).Oper) T hS kr kr kr h104 kr kr kr (fun cs h=>hG h) ?_)
   intro ya a h106 hS
   refine op1 (dW T hS kr kr kr h106 rfl kr ?_)
   intro v107 a hv hS
   cases hv
   refine ePe T hS [12,13,14,15,16] [(18,B (((gi ah bC).Oper) == i_))] fun a hS=>?_
   refine aJ hS (b:=(((gi ah bC).Oper) == i_)) kr (fun hb=>?_) fun hb=>?_
   ·replace hm:=hm.1 hb
    refine rPe T hS [0,1,5,18] [(4,I bC)] fun a hS=>?_
    refine aY ?_
    exact fin T hS hO (fun c=>c) rfl (r:=[.int .i64 bC]) kr (fun X' hM hC=>⟨bC,hm,rfl⟩)
   replace hm:=hm.2 hb
   refine aM ?_
   refine region (ePe T hS [18] [(5,I (wR (bC+1)))] fun a hS=>?_)
   exact ⟨wR (bC+1),⟨Z,_,hm.1,hS.sl _,hO,h101⟩,hm.2⟩
  replace hm:=hm.2 hb
  refine cm (by rfl) ?_
  exact ⟨Z,_,hm,hS.sl _,hO⟩
 rintro a DV ⟨Z,sc,hm,hS,hO⟩
 unfold VC66_J1 at hm
 refine rPe T hS [] [(4,I (-1))] fun a hS=>?_
 refine aY ?_
 exact fin T hS hO (fun c=>c) rfl (r:=[.int .i64 (-1)]) kr (fun X' hM hC=>⟨(-1),hm,rfl⟩)
theorem C66 (v:∀ (ah:List aa) (i_:Int),VC66 ah i_ (fun r=>r=cn ah i_)):S66:=by
 intro w X ah i_ a1 c1   h1
 refine (W66 w X ah i_ a1 c1   _ (v ah i_) h1).mono ?_
 rintro _ _ _ _ ⟨r,rfl,h⟩
 exact h
theorem W68 (w0) (X0) (o_:aj) (state:Int) (kind:Int) (a1) (c1) (Q:Int × Int × Bool->Prop) (hm:VC68 o_ state kind Q) (h1:RS aC w0 X0 a1 o_.Rows c1) :
  Ret Tryz.prog 68 #[.agg #[.int .i64 o_.au,.int .i64 o_.az,.int .i64 o_.aH,.slice a1 o_.Rows.length c1],.int .i64 state,.int .i64 kind] aL w0 X0 (fun w X' v=>∃ r,Q r/\v=.tuple #[.int .i64 r.1,.int .i64 r.2.1,.bool r.2.2]):=by
 unfold VC68 at hm
 replace hm:=hm (h1.sm kr)
 refine enter Tryz.func68 rfl (vals:=[.agg #[.int .i64 o_.au,.int .i64 o_.az,.int .i64 o_.aH,.slice a1 o_.Rows.length c1],.int .i64 state,.int .i64 kind]) kr ?_
 intro Z a hS hO hM
 replace h1:=h1.m0 hM
 refine rM T hS ⟨[(1,I state),(2,I kind),(3,Pt 4 0)],[(4,(48,(cO o_ a1 c1)))]⟩ fun Z a zI Dk hS hE hr=>?_
 replace hO:=hO.m2 hE
 replace h1:=h1.m1 hE
 clear hE hr
 refine cb (fun a w=>∃ Z X,VC68_J1 Q/\St Tryz.f68.ntmps ⟨[],[]⟩ Z a w X/\Old w0 X0 w X) ?_ ?_
 ·refine rPe T hS [] [(9,I 0)] fun a hS=>?_
  refine aN ?_
  obtain ⟨I1,μ1,cx,hm⟩:=hm
  refine ct (σ:=Int) (fun s a w=>∃ Z X,I1 s/\St Tryz.f68.ntmps ⟨[(1,I state),(2,I kind),(3,Pt 4 0),(9,I s)],[(4,(48,(cO o_ a1 c1)))]⟩ Z a w X/\Old w0 X0 w X/\RS aC w X a1 o_.Rows c1) (fun s=>μ1 s) (0) ?_ ?_
  ·exact ⟨Z,_,cx,hS.sl _,hO,h1⟩
  rintro bE a uI ⟨Z,sb,hI,hS,hO,h102⟩
  replace hm:=hm bE hI
  clear hI cx
  refine bg ?_
  refine rPe T hS [] [(14,B (decide (bE < (lN o_.Rows))))] fun a hS=>?_
  refine aJ hS (b:=decide (bE < (lN o_.Rows))) kr (fun hb=>?_) fun hb=>?_
  ·replace hm:=hm.1 hb
   refine aM (bg ?_)
   refine aN ?_
   refine cb (fun a w=>∃ (Z:Nat->Nat) (X:Nat->Nat) (bm:Bool),VC68_J2 o_ Q I1 μ1 bE bm/\St Tryz.f68.ntmps ⟨[(1,I state),(2,I kind),(3,Pt 4 0),(9,I bE),(34,B bm)],[(4,(48,(cO o_ a1 c1)))]⟩ Z a w X/\Old w0 X0 w X/\RS aC w X a1 o_.Rows c1) ?_ ?_
   ·refine region ?_
    refine oPe T hS 3 [14] [(18,Sl a1 o_.Rows c1),(19,I bE)] fun a hS=>?_
    obtain ⟨hq,hm⟩:=hm
    refine op1 (index (e:=107) (k:=.i64) T hS kr kr kr kr h102 kr kr hq.1 hq.2 ?_)
    intro Ob a h118 hS
    refine op1 (fw (off:=0) (fsz:=1) (ft:=3) (TF:=tI) (y:=(gi o_.Rows bE).State) T hS kr kr kr h118 kr kr kr (fun cs h=>nU h) ?_)
    intro Oa a h120 hS
    refine op1 (dW T hS kr kr kr h120 rfl kr ?_)
    intro v121 a hv hS
    cases hv
    refine oPe T hS 3 [18,19,20,21,22] [(25,B (((gi o_.Rows bE).State) == state))] fun a hS=>?_
    rcases bft (((gi o_.Rows bE).State) == state) with hb | hb
    ·replace hS:=hS.lit (t:=25) kr hb
     replace hm:=hm.1 hb
     refine oPe T hS 3 [] [(27,Sl a1 o_.Rows c1),(28,I bE)] fun a hS=>?_
     obtain ⟨hq,hm⟩:=hm
     refine op1 (index (e:=107) (k:=.i64) T hS kr kr kr kr h102 kr kr hq.1 hq.2 ?_)
     intro Du a h123 hS
     refine op1 (fw (off:=1) (fsz:=1) (ft:=3) (TF:=tI) (y:=(gi o_.Rows bE).Kind) T hS kr kr kr h123 kr kr kr (fun cs h=>rR h) ?_)
     intro E7 a h125 hS
     refine op1 (dW T hS kr kr kr h125 rfl kr ?_)
     intro v126 a hv hS
     cases hv
     refine ePe T hS [25,27,28,29,30,31] [(34,B (((gi o_.Rows bE).Kind) == kind))] fun a hS=>?_
     exact ⟨Z,_,(((gi o_.Rows bE).Kind) == kind),hm,hS.sl _,hO,h102⟩
    replace hS:=hS.lit (t:=25) kr hb
    replace hm:=hm.2 hb
    refine ePe T hS [25] [(34,B false)] fun a hS=>?_
    exact ⟨Z,_,false,hm,hS.sl _,hO,h102⟩
   rintro a rV ⟨Z,p9,bm,hm,hS,hO,h104⟩
   unfold VC68_J2 at hm
   refine aJ hS (b:=bm) kr (fun hb=>?_) fun hb=>?_
   ·replace hm:=hm.1 hb
    refine dG [4] mixed hS ?_
    intro nz mi hS hE hD hH
    replace hO:=hO.m2 hE
    replace h104:=h104.m1 hE
    refine tke T [0,2,6,8,1,7] [4] hS hH #[true,true,true,false,false,false,true,true,true,false,false,false,false,false,false] 9 [3,9] [(36,Sl a1 o_.Rows c1),(37,I bE),(42,Sl a1 o_.Rows c1),(43,I bE)] fun a hS=>?_
    obtain ⟨hq,hm⟩:=hm
    refine dm (e:=107) (k:=.i64) T 3 hS kr kr kr (by rfl) kr hH kr kr h104 kr kr hq.1 hq.2 ?_
    intro HQ a h108 hS
    have zm:=h108.here
    refine dE (off:=2) (fsz:=1) (ft:=3) (TF:=tI) (y:=(gi o_.Rows bE).Next) 4 T hS kr kr kr (by rfl) kr hH kr h108 kr kr kr (fun cs h=>rQ h) ?_
    intro A4 a h110 fR hS
    have mC:=zm
    rw [← fR] at mC
    clear fR
    refine eu T 5 hS kr kr kr (by rfl) kr hH kr h110 mC rfl kr ?_
    intro v111 a hv hS
    cases hv
    refine tke T [12] [4] hS hH #[true,true,true,true,true,true,true,true,true,false,false,false,true,false,false] 5 [36,37,38,39,40] [(6,I ((gi o_.Rows bE).Next))] fun a hS=>?_
    obtain ⟨hq,hm⟩:=hm
    refine dm (e:=107) (k:=.i64) T 9 hS kr kr kr (by rfl) kr hH kr kr h104 kr kr hq.1 hq.2 ?_
    intro Ku a h113 hS
    have Cz:=h113.here
    refine dE (off:=3) (fsz:=1) (ft:=3) (TF:=tI) (y:=(gi o_.Rows bE).Result) 10 T hS kr kr kr (by rfl) kr hH kr h113 kr kr kr (fun cs h=>rO h) ?_
    intro E9 a h115 fR hS
    have rp:=Cz
    rw [← fR] at rp
    clear fR
    refine eu T 11 hS kr kr kr (by rfl) kr hH kr h115 rp rfl kr ?_
    intro v116 a hv hS
    cases hv
    refine tke T [13,14] [4] hS hH (tts 15) 0 [42,43,44,45,46] [(7,I ((gi o_.Rows bE).Result)),(8,B true)] fun a hS=>?_
    refine aX kr ?_
    replace hS:=hS.sl ⟨[(6,I ((gi o_.Rows bE).Next)),(7,I ((gi o_.Rows bE).Result)),(8,B true)],[]⟩
    refine aY ?_
    exact fin T hS hO (fun c=>c) rfl (r:=[.int .i64 ((gi o_.Rows bE).Next),.int .i64 ((gi o_.Rows bE).Result),.bool true]) kr (fun X' hM hC=>⟨((gi o_.Rows bE).Next,(gi o_.Rows bE).Result,true),hm,rfl⟩)
   replace hm:=hm.2 hb
   refine aM ?_
   refine region (ePe T hS [34] [(9,I (wR (bE+1)))] fun a hS=>?_)
   exact ⟨wR (bE+1),⟨Z,_,hm.1,hS.sl _,hO,h104⟩,hm.2⟩
  replace hm:=hm.2 hb
  refine cm (by rfl) ?_
  exact ⟨Z,_,hm,hS.sl _,hO⟩
 rintro a PJ ⟨Z,Dl,hm,hS,hO⟩
 unfold VC68_J1 at hm
 refine rPe T hS [] [(6,I 0),(7,I 0),(8,B false)] fun a hS=>?_
 refine aY ?_
 exact fin T hS hO (fun c=>c) rfl (r:=[.int .i64 0,.int .i64 0,.bool false]) kr (fun X' hM hC=>⟨(0,0,false),hm,rfl⟩)
theorem C68 (v:∀ (o_:aj) (state:Int) (kind:Int),VC68 o_ state kind (fun r=>r=bA o_ state kind)):S68:=by
 intro w X o_ state kind a1 c1   h1
 refine (W68 w X o_ state kind a1 c1   _ (v o_ state kind) h1).mono ?_
 rintro _ _ _ _ ⟨r,rfl,h⟩
 exact h
theorem W65 (GJ:S68) (w0) (X0) (o_:aj) (state:Int) (kind:Int) (result:Int) (a1) (c1) (Q:Int × Int->Prop) (hm:VC65 o_ state kind result Q) (h1:RS aC w0 X0 a1 o_.Rows c1) :
  Ret Tryz.prog 65 #[.agg #[.int .i64 o_.au,.int .i64 o_.az,.int .i64 o_.aH,.slice a1 o_.Rows.length c1],.int .i64 state,.int .i64 kind,.int .i64 result] aL w0 X0 (fun w X' v=>∃ r,Q r/\v=.tuple #[.int .i64 r.1,.int .i64 r.2]):=by
 unfold VC65 at hm
 replace hm:=hm (h1.sm kr)
 refine enter Tryz.func65 rfl (vals:=[.agg #[.int .i64 o_.au,.int .i64 o_.az,.int .i64 o_.aH,.slice a1 o_.Rows.length c1],.int .i64 state,.int .i64 kind,.int .i64 result]) kr ?_
 intro Z a hS hO hM
 replace h1:=h1.m0 hM
 refine rM T hS ⟨[(1,I state),(2,I kind),(3,I result),(4,Pt 5 0)],[(5,(48,(cO o_ a1 c1)))]⟩ fun Z a nz mi hS hE hr=>?_
 replace hO:=hO.m2 hE
 replace h1:=h1.m1 hE
 clear hE hr
 refine bg ?_
 refine rPe T hS [] [(20,B ((decide (state < 0)) || (decide (state≥o_.au))))] (sp:=[15]) fun a hS=>?_
 refine aJ hS (b:=((decide (state < 0)) || (decide (state≥o_.au)))) kr (fun hb=>?_) fun hb=>?_
 ·replace hm:=hm.1 hb
  refine rP T hS ⟨[(8,I 0),(9,I 30)],[]⟩ fun a hS=>?_
  refine aY ?_
  exact fin T hS hO (fun c=>c) rfl (r:=[.int .i64 0,.int .i64 30]) kr (fun X' hM hC=>⟨(0,30),hm,rfl⟩)
 replace hm:=hm.2 hb
 refine aM ?_
 refine bq ?_
 refine oP T hS 3 ⟨[(3,I result),(22,V (.agg #[.int .i64 o_.au,.int .i64 o_.az,.int .i64 o_.aH,.slice a1 o_.Rows.length c1])),(23,I state),(24,I kind)],[]⟩ fun a hS=>?_
 refine op1 (call hS kr kr hb68 kr (fun _ _=>rfl) (GJ _ _ o_ state kind a1 c1 h1) ?_)
 intro v101 a fp fx hE hp hS
 replace hO:=hO.m2 hE
 replace h1:=h1.m1 hE
 obtain ⟨ax,hr⟩:∃ r,bA o_ state kind=r:=⟨_,rfl⟩
 replace hm:=hm ax hr
 rw [hr] at hp
 clear hr
 subst hp
 refine ePe T hS [22,23,24,25] [(10,I ax.1),(11,I ax.2.1),(12,B ax.2.2)] fun a hS=>?_
 refine bg ?_
 refine rPe T hS [3,11,12] [(35,B ((!ax.2.2) || (ax.2.1 != result)))] (sp:=[31]) fun a hS=>?_
 refine aJ hS (b:=((!ax.2.2) || (ax.2.1 != result))) kr (fun hb=>?_) fun hb=>?_
 ·replace hm:=hm.1 hb
  refine rPe T hS [10,35] [(8,I 0),(9,I 40)] fun a hS=>?_
  refine aY ?_
  exact fin T hS hO (fun c=>c) rfl (r:=[.int .i64 0,.int .i64 40]) kr (fun X' hM hC=>⟨(0,40),hm,rfl⟩)
 replace hm:=hm.2 hb
 refine aM ?_
 refine rPe T hS [10,35] [(8,I ax.1),(9,I 0)] fun a hS=>?_
 refine aY ?_
 exact fin T hS hO (fun c=>c) rfl (r:=[.int .i64 ax.1,.int .i64 0]) kr (fun X' hM hC=>⟨(ax.1,0),hm,rfl⟩)
theorem C65 (GJ:S68) (v:∀ (o_:aj) (state:Int) (kind:Int) (result:Int),VC65 o_ state kind result (fun r=>r=dc o_ state kind result)):S65:=by
 intro w X o_ state kind result a1 c1   h1
 refine (W65 GJ w X o_ state kind result a1 c1   _ (v o_ state kind result) h1).mono ?_
 rintro _ _ _ _ ⟨r,rfl,h⟩
 exact h
theorem W58 (w0) (X0) (o_:aj) (a1) (c1) (Q:Int × Int->Prop) (hm:VC58 o_ Q) (h1:RS aC w0 X0 a1 o_.Rows c1) :
  Ret Tryz.prog 58 #[.agg #[.int .i64 o_.au,.int .i64 o_.az,.int .i64 o_.aH,.slice a1 o_.Rows.length c1]] aL w0 X0 (fun w X' v=>∃ r,Q r/\v=.tuple #[.int .i64 r.1,.int .i64 r.2]):=by
 unfold VC58 at hm
 replace hm:=hm (h1.sm kr)
 refine enter Tryz.func58 rfl (vals:=[.agg #[.int .i64 o_.au,.int .i64 o_.az,.int .i64 o_.aH,.slice a1 o_.Rows.length c1]]) kr ?_
 intro Z a hS hO hM
 replace h1:=h1.m0 hM
 refine rM T hS ⟨[(1,Pt 2 0)],[(2,(48,(cO o_ a1 c1)))]⟩ fun Z a uH uz hS hE hr=>?_
 replace hO:=hO.m2 hE
 replace h1:=h1.m1 hE
 clear hE hr
 refine bg ?_
 refine rPe T hS [] [(35,B ((((((decide (o_.au < 1)) || (decide (o_.au > 32))) || (decide (o_.az < 1))) || (decide (o_.az > 64))) || (decide (o_.aH < 0))) || (decide (o_.aH≥o_.au))))] (sp:=[9,14,19,24,29]) fun a hS=>?_
 refine aJ hS (b:=((((((decide (o_.au < 1)) || (decide (o_.au > 32))) || (decide (o_.az < 1))) || (decide (o_.az > 64))) || (decide (o_.aH < 0))) || (decide (o_.aH≥o_.au)))) kr (fun hb=>?_) fun hb=>?_
 ·replace hm:=hm.1 hb
  refine rP T hS ⟨[(2,I (-1)),(3,I 2)],[]⟩ fun a hS=>?_
  refine aY ?_
  exact fin T hS hO (fun c=>c) rfl (r:=[.int .i64 (-1),.int .i64 2]) kr (fun X' hM hC=>⟨((-1),2),hm,rfl⟩)
 replace hm:=hm.2 hb
 refine aM ?_
 refine cb (fun a w=>∃ Z X,VC58_J1 o_ Q/\St Tryz.f58.ntmps ⟨[(1,Pt 2 0)],[(2,(48,(cO o_ a1 c1)))]⟩ Z a w X/\Old w0 X0 w X/\RS aC w X a1 o_.Rows c1) ?_ ?_
 ·refine rPe T hS [35] [(4,I 0)] fun a hS=>?_
  refine aN ?_
  obtain ⟨I1,μ1,cx,hm⟩:=hm
  refine ct (σ:=Int) (fun s a w=>∃ Z X,I1 s/\St Tryz.f58.ntmps ⟨[(1,Pt 2 0),(4,I s)],[(2,(48,(cO o_ a1 c1)))]⟩ Z a w X/\Old w0 X0 w X/\RS aC w X a1 o_.Rows c1) (fun s=>μ1 s) (0) ?_ ?_
  ·exact ⟨Z,_,cx,hS.sl _,hO,h1⟩
  rintro bC a pU ⟨Z,E4,hI,hS,hO,h103⟩
  replace hm:=hm bC hI
  clear hI cx
  refine bg ?_
  refine rPe T hS [] [(40,B (decide (bC < (lN o_.Rows))))] fun a hS=>?_
  refine aJ hS (b:=decide (bC < (lN o_.Rows))) kr (fun hb=>?_) fun hb=>?_
  ·replace hm:=hm.1 hb
   refine aM (bg ?_)
   refine aN ?_
   refine bq ?_
   refine oPe T hS 3 [40] [(44,Sl a1 o_.Rows c1),(45,I bC)] fun a hS=>?_
   obtain ⟨hq,hm⟩:=hm
   refine op1 (index (e:=107) (k:=.i64) T hS kr kr kr kr h103 kr kr hq.1 hq.2 ?_)
   intro Kw a h105 hS
   refine op1 (eU T hS kr kr kr h105 kr kr ?_)
   intro v106 a hv hS
   subst hv
   refine eM T hS ⟨[(1,Pt 2 0),(4,I bC),(5,Pt 6 0)],[(2,(48,(cO o_ a1 c1))),(6,(107,(cR (gi o_.Rows bC))))]⟩ fun Z a rV sb hS hE hr=>?_
   replace hO:=hO.m2 hE
   replace h103:=h103.m1 hE
   clear hE hr
   refine bg ?_
   refine rPe T hS [] [(69,B ((((decide (((gi o_.Rows bC).State) < 0)) || (decide (((gi o_.Rows bC).State)≥o_.au))) || (decide (((gi o_.Rows bC).Next) < 0))) || (decide (((gi o_.Rows bC).Next)≥o_.au))))] (sp:=[51,58,63]) fun a hS=>?_
   refine aJ hS (b:=((((decide (((gi o_.Rows bC).State) < 0)) || (decide (((gi o_.Rows bC).State)≥o_.au))) || (decide (((gi o_.Rows bC).Next) < 0))) || (decide (((gi o_.Rows bC).Next)≥o_.au)))) kr (fun hb=>?_) fun hb=>?_
   ·replace hm:=hm.1 hb
    refine rP T hS ⟨[(2,I bC),(3,I 30)],[]⟩ fun a hS=>?_
    refine aY ?_
    exact fin T hS hO (fun c=>c) rfl (r:=[.int .i64 bC,.int .i64 30]) kr (fun X' hM hC=>⟨(bC,30),hm,rfl⟩)
   replace hm:=hm.2 hb
   refine aM (bg ?_)
   refine rPe T hS [69] [(80,B ((decide (((gi o_.Rows bC).Kind) < 0)) || (decide (((gi o_.Rows bC).Kind)≥o_.az))))] (sp:=[74]) fun a hS=>?_
   refine aJ hS (b:=((decide (((gi o_.Rows bC).Kind) < 0)) || (decide (((gi o_.Rows bC).Kind)≥o_.az)))) kr (fun hb=>?_) fun hb=>?_
   ·replace hm:=hm.1 hb
    refine rP T hS ⟨[(2,I bC),(3,I 31)],[]⟩ fun a hS=>?_
    refine aY ?_
    exact fin T hS hO (fun c=>c) rfl (r:=[.int .i64 bC,.int .i64 31]) kr (fun X' hM hC=>⟨(bC,31),hm,rfl⟩)
   replace hm:=hm.2 hb
   refine aM (bg ?_)
   refine rPe T hS [80] [(89,B ((decide (((gi o_.Rows bC).Result) < 0)) || (decide (((gi o_.Rows bC).Result) > 1000000))))] (sp:=[85]) fun a hS=>?_
   refine aJ hS (b:=((decide (((gi o_.Rows bC).Result) < 0)) || (decide (((gi o_.Rows bC).Result) > 1000000)))) kr (fun hb=>?_) fun hb=>?_
   ·replace hm:=hm.1 hb
    refine rP T hS ⟨[(2,I bC),(3,I 7)],[]⟩ fun a hS=>?_
    refine aY ?_
    exact fin T hS hO (fun c=>c) rfl (r:=[.int .i64 bC,.int .i64 7]) kr (fun X' hM hC=>⟨(bC,7),hm,rfl⟩)
   replace hm:=hm.2 hb
   refine aM ?_
   refine cb (fun a w=>∃ (Z:Nat->Nat) (X:Nat->Nat) (gS:Bool),VC58_J2 Q I1 μ1 bC gS/\St Tryz.f58.ntmps ⟨[(1,Pt 2 0),(4,I bC),(128,B gS)],[(2,(48,(cO o_ a1 c1)))]⟩ Z a w X/\Old w0 X0 w X/\RS aC w X a1 o_.Rows c1) ?_ ?_
   ·refine iB [2,6] mixed hS ?_
    intro qo sc hS hE hD hH
    replace hO:=hO.m2 hE
    replace h103:=h103.m1 hE
    refine tke T [0,1,2] [2,6] hS hH #[true,true,true,false,false,false,false,false,false,false,false,false,false,false,false,false,false,false,false,false,false,false,false,false,false,false,false,false,false,false,false,false,false,false,false,false,false,false] 35 [] [(93,B (decide (bC > 0)))] fun a hS=>?_
    rcases bft (decide (bC > 0)) with hb | hb
    ·replace hS:=hS.lit (t:=93) kr hb
     replace hm:=hm.1 hb
     refine tke T [3,5,10,4,6,11] [2,6] hS hH #[true,true,true,true,true,true,true,false,false,false,true,true,false,false,false,false,false,false,false,false,false,false,false,false,false,false,false,false,false,false,false,false,false,false,false,false,false,false] 29 [] [(95,Sl a1 o_.Rows c1),(97,I (wR (bC - 1))),(102,I ((gi o_.Rows bC).State))] fun a hS=>?_
     obtain ⟨hq,hm⟩:=hm
     refine dm (e:=107) (k:=.i64) T 7 hS kr kr kr (by rfl) kr hH kr kr h103 kr kr hq.1 hq.2 ?_
     intro Dv a h112 hS
     have zl:=h112.here
     refine dE (off:=0) (fsz:=1) (ft:=3) (TF:=tI) (y:=(gi o_.Rows (wR (bC - 1))).State) 8 T hS kr kr kr (by rfl) kr hH kr h112 kr kr kr (fun cs h=>nU h) ?_
     intro HP a h114 fR hS
     have FZ:=zl
     rw [← fR] at FZ
     clear fR
     refine eu T 9 hS kr kr kr (by rfl) kr hH kr h114 FZ rfl kr ?_
     intro v115 a hv hS
     cases hv
     refine tke T [12,13] [2,6] hS hH #[true,true,true,true,true,true,true,true,true,true,true,true,true,true,false,false,false,false,false,false,false,false,false,false,false,false,false,false,false,false,false,false,false,false,false,false,false,false] 24 [95,97,102,98,99,100] [(104,B (decide (((gi o_.Rows (wR (bC - 1))).State) > ((gi o_.Rows bC).State))))] fun a hS=>?_
     rcases bft (decide (((gi o_.Rows (wR (bC - 1))).State) > ((gi o_.Rows bC).State))) with hb | hb
     ·replace hS:=hS.lit (t:=104) kr hb
      replace hm:=hm.1 hb
      refine tke T [14,16,21,15,17,22,18,19,20,23,24,25,27,32,26,28,33,29,30,31,34,35,36,37] [2,6] hS hH (tts 38) 0 [5,93,104] [(128,B true)] fun a hS=>?_
      refine aX kr ?_
      replace hS:=hS.sl ⟨[(1,Pt 2 0),(4,I bC),(128,B true)],[(2,(48,(cO o_ a1 c1)))]⟩
      exact ⟨Z,_,true,hm,hS.sl _,hO,h103⟩
     replace hS:=hS.lit (t:=104) kr hb
     replace hm:=hm.2 hb
     refine tke T [14,16,21,15,17,22] [2,6] hS hH #[true,true,true,true,true,true,true,true,true,true,true,true,true,true,true,true,true,true,false,false,false,true,true,false,false,false,false,false,false,false,false,false,false,false,false,false,false,false] 18 [] [(106,Sl a1 o_.Rows c1),(108,I (wR (bC - 1))),(113,I ((gi o_.Rows bC).State))] fun a hS=>?_
     obtain ⟨hq,hm⟩:=hm
     refine dm (e:=107) (k:=.i64) T 18 hS kr kr kr (by rfl) kr hH kr kr h103 kr kr hq.1 hq.2 ?_
     intro HO a h117 hS
     have ov:=h117.here
     refine dE (off:=0) (fsz:=1) (ft:=3) (TF:=tI) (y:=(gi o_.Rows (wR (bC - 1))).State) 19 T hS kr kr kr (by rfl) kr hH kr h117 kr kr kr (fun cs h=>nU h) ?_
     intro HN a h119 fR hS
     have vJ:=ov
     rw [← fR] at vJ
     clear fR
     refine eu T 20 hS kr kr kr (by rfl) kr hH kr h119 vJ rfl kr ?_
     intro v120 a hv hS
     cases hv
     refine tke T [23,24] [2,6] hS hH #[true,true,true,true,true,true,true,true,true,true,true,true,true,true,true,true,true,true,true,true,true,true,true,true,true,false,false,false,false,false,false,false,false,false,false,false,false,false] 13 [106,108,113,109,110,111] [(115,B (((gi o_.Rows (wR (bC - 1))).State) == ((gi o_.Rows bC).State)))] fun a hS=>?_
     rcases bft (((gi o_.Rows (wR (bC - 1))).State) == ((gi o_.Rows bC).State)) with hb | hb
     ·replace hS:=hS.lit (t:=115) kr hb
      replace hm:=hm.1 hb
      refine tke T [25,27,32,26,28,33] [2,6] hS hH #[true,true,true,true,true,true,true,true,true,true,true,true,true,true,true,true,true,true,true,true,true,true,true,true,true,true,true,true,true,false,false,false,true,true,false,false,false,false] 7 [5] [(117,Sl a1 o_.Rows c1),(119,I (wR (bC - 1))),(124,I ((gi o_.Rows bC).Kind))] fun a hS=>?_
      obtain ⟨hq,hm⟩:=hm
      refine dm (e:=107) (k:=.i64) T 29 hS kr kr kr (by rfl) kr hH kr kr h103 kr kr hq.1 hq.2 ?_
      intro HM a h122 hS
      have Cy:=h122.here
      refine dE (off:=1) (fsz:=1) (ft:=3) (TF:=tI) (y:=(gi o_.Rows (wR (bC - 1))).Kind) 30 T hS kr kr kr (by rfl) kr hH kr h122 kr kr kr (fun cs h=>rR h) ?_
      intro E8 a h124 fR hS
      have rn:=Cy
      rw [← fR] at rn
      clear fR
      refine eu T 31 hS kr kr kr (by rfl) kr hH kr h124 rn rfl kr ?_
      intro v125 a hv hS
      cases hv
      refine tke T [34,35,36,37] [2,6] hS hH (tts 38) 0 [93,104,115,117,119,124,120,121,122] [(128,B (decide (((gi o_.Rows (wR (bC - 1))).Kind)≥((gi o_.Rows bC).Kind))))] fun a hS=>?_
      refine aX kr ?_
      replace hS:=hS.sl ⟨[(1,Pt 2 0),(4,I bC),(128,B (decide (((gi o_.Rows (wR (bC - 1))).Kind)≥((gi o_.Rows bC).Kind))))],[(2,(48,(cO o_ a1 c1)))]⟩
      exact ⟨Z,_,decide (((gi o_.Rows (wR (bC - 1))).Kind)≥((gi o_.Rows bC).Kind)),hm,hS.sl _,hO,h103⟩
     replace hS:=hS.lit (t:=115) kr hb
     replace hm:=hm.2 hb
     refine tke T [25,27,32,26,28,33,29,30,31,34,35,36,37] [2,6] hS hH (tts 38) 0 [5,93,104,115] [(128,B false)] fun a hS=>?_
     refine aX kr ?_
     replace hS:=hS.sl ⟨[(1,Pt 2 0),(4,I bC),(128,B false)],[(2,(48,(cO o_ a1 c1)))]⟩
     exact ⟨Z,_,false,hm,hS.sl _,hO,h103⟩
    replace hS:=hS.lit (t:=93) kr hb
    replace hm:=hm.2 hb
    refine tke T [3,5,10,4,6,11,7,8,9,12,13,14,16,21,15,17,22,18,19,20,23,24,25,27,32,26,28,33,29,30,31,34,35,36,37] [2,6] hS hH (tts 38) 0 [5,93] [(128,B false)] fun a hS=>?_
    refine aX kr ?_
    replace hS:=hS.sl ⟨[(1,Pt 2 0),(4,I bC),(128,B false)],[(2,(48,(cO o_ a1 c1)))]⟩
    exact ⟨Z,_,false,hm,hS.sl _,hO,h103⟩
   rintro a uJ ⟨Z,x4,gS,hm,hS,hO,h108⟩
   unfold VC58_J2 at hm
   refine aJ hS (b:=gS) kr (fun hb=>?_) fun hb=>?_
   ·replace hm:=hm.1 hb
    refine rP T hS ⟨[(2,I bC),(3,I 32)],[]⟩ fun a hS=>?_
    refine aY ?_
    exact fin T hS hO (fun c=>c) rfl (r:=[.int .i64 bC,.int .i64 32]) kr (fun X' hM hC=>⟨(bC,32),hm,rfl⟩)
   replace hm:=hm.2 hb
   refine aM ?_
   refine region (ePe T hS [128] [(4,I (wR (bC+1)))] fun a hS=>?_)
   exact ⟨wR (bC+1),⟨Z,_,hm.1,hS.sl _,hO,h108⟩,hm.2⟩
  replace hm:=hm.2 hb
  refine cm (by rfl) ?_
  exact ⟨Z,_,hm,hS.sl _,hO,h103⟩
 rintro a zI ⟨Z,pq,hm,hS,hO,h101⟩
 unfold VC58_J1 at hm
 refine rP T hS ⟨[(2,I (lN o_.Rows)),(3,I 0)],[]⟩ fun a hS=>?_
 refine aY ?_
 exact fin T hS hO (fun c=>c) rfl (r:=[.int .i64 (lN o_.Rows),.int .i64 0]) kr (fun X' hM hC=>⟨((lN o_.Rows),0),hm,rfl⟩)
theorem C58 (v:∀ (o_:aj),VC58 o_ (fun r=>r=cX o_)):S58:=by
 intro w X o_ a1 c1   h1
 refine (W58 w X o_ a1 c1   _ (v o_) h1).mono ?_
 rintro _ _ _ _ ⟨r,rfl,h⟩
 exact h
theorem W36 (GL:S58) (LS:S65) (w0) (X0) (o_:aj) (l_:List ab) (state:Int) (ah:List aa) (a1) (c1) (a2) (c2) (a3) (c3) (Q:Int × Int × Int->Prop) (hm:VC36 o_ l_ state ah Q) (h1:RS aC w0 X0 a1 o_.Rows c1) (h2:RS ar w0 X0 a2 l_ c2) (h3:RS av w0 X0 a3 ah c3) :
  Ret Tryz.prog 36 #[.agg #[.int .i64 o_.au,.int .i64 o_.az,.int .i64 o_.aH,.slice a1 o_.Rows.length c1],.slice a2 l_.length c2,.int .i64 state,.slice a3 ah.length c3] aL w0 X0 (fun w X' v=>∃ r,Q r/\v=.tuple #[.int .i64 r.1,.int .i64 r.2.1,.int .i64 r.2.2]):=by
 unfold VC36 at hm
 replace hm:=hm (h1.sm kr)
 replace hm:=hm (h2.sm kr)
 replace hm:=hm (h3.sm kr)
 refine enter Tryz.func36 rfl (vals:=[.agg #[.int .i64 o_.au,.int .i64 o_.az,.int .i64 o_.aH,.slice a1 o_.Rows.length c1],.slice a2 l_.length c2,.int .i64 state,.slice a3 ah.length c3]) kr ?_
 intro Z a hS hO hM
 replace h1:=h1.m0 hM
 replace h2:=h2.m0 hM
 replace h3:=h3.m0 hM
 refine rM T hS ⟨[(1,Sl a2 l_ c2),(2,I state),(3,Sl a3 ah c3),(4,Pt 5 0)],[(5,(48,(cO o_ a1 c1)))]⟩ fun Z a DN HA hS hE hr=>?_
 replace hO:=hO.m2 hE
 replace h1:=h1.m1 hE
 replace h2:=h2.m1 hE
 replace h3:=h3.m1 hE
 clear hE hr
 refine bq ?_
 refine oPe T hS 1 [] [(19,V (.agg #[.int .i64 o_.au,.int .i64 o_.az,.int .i64 o_.aH,.slice a1 o_.Rows.length c1]))] fun a hS=>?_
 refine op1 (call hS kr kr hb58 kr (fun _ _=>rfl) (GL _ _ o_ a1 c1 h1) ?_)
 intro v101 a fp fx hE hp hS
 replace hO:=hO.m2 hE
 replace h1:=h1.m1 hE
 replace h2:=h2.m1 hE
 replace h3:=h3.m1 hE
 obtain ⟨ax,hr⟩:∃ r,cX o_=r:=⟨_,rfl⟩
 replace hm:=hm ax hr
 rw [hr] at hp
 clear hr
 subst hp
 refine ePe T hS [19,20] [(12,I ax.2)] fun a hS=>?_
 refine bg ?_
 refine rPe T hS [12] [(24,B (ax.2 != 0))] fun a hS=>?_
 refine aJ hS (b:=(ax.2 != 0)) kr (fun hb=>?_) fun hb=>?_
 ·replace hm:=hm.1 hb
  refine rP T hS ⟨[(8,I 0),(9,I (-1)),(10,I 2)],[]⟩ fun a hS=>?_
  refine aY ?_
  exact fin T hS hO (fun c=>c) rfl (r:=[.int .i64 0,.int .i64 (-1),.int .i64 2]) kr (fun X' hM hC=>⟨(0,(-1),2),hm,rfl⟩)
 replace hm:=hm.2 hb
 refine aM (bg ?_)
 refine rPe T hS [24] [(32,B ((decide (state < 0)) || (decide (state≥o_.au))))] (sp:=[27]) fun a hS=>?_
 refine aJ hS (b:=((decide (state < 0)) || (decide (state≥o_.au)))) kr (fun hb=>?_) fun hb=>?_
 ·replace hm:=hm.1 hb
  refine rP T hS ⟨[(8,I 0),(9,I (-1)),(10,I 30)],[]⟩ fun a hS=>?_
  refine aY ?_
  exact fin T hS hO (fun c=>c) rfl (r:=[.int .i64 0,.int .i64 (-1),.int .i64 30]) kr (fun X' hM hC=>⟨(0,(-1),30),hm,rfl⟩)
 replace hm:=hm.2 hb
 refine aM ?_
 refine cb (fun a w=>∃ (Z:Nat->Nat) (X:Nat->Nat) (fY:Int),VC36_J1 ah Q fY/\St Tryz.f36.ntmps ⟨[(2,I fY),(3,Sl a3 ah c3)],[]⟩ Z a w X/\Old w0 X0 w X/\RS av w X a3 ah c3) ?_ ?_
 ·refine rPe T hS [32] [(13,I 0)] fun a hS=>?_
  refine aN ?_
  obtain ⟨I1,μ1,cx,hm⟩:=hm
  refine ct (σ:=Int × Int) (fun s a w=>∃ Z X,I1 s.1 s.2/\St Tryz.f36.ntmps ⟨[(1,Sl a2 l_ c2),(2,I s.1),(3,Sl a3 ah c3),(4,Pt 5 0),(13,I s.2)],[(5,(48,(cO o_ a1 c1)))]⟩ Z a w X/\Old w0 X0 w X/\RS ar w X a2 l_ c2/\RS av w X a3 ah c3/\RS aC w X a1 o_.Rows c1) (fun s=>μ1 s.1 s.2) (⟨state,0⟩) ?_ ?_
  ·exact ⟨Z,_,cx,hS.sl _,hO,h2,h3,h1⟩
  rintro ⟨dD,bL⟩ a DP ⟨Z,HB,hI,hS,hO,h107,h109,h111⟩
  replace hm:=hm dD bL hI
  clear hI cx
  refine bg ?_
  refine rPe T hS [] [(36,B (decide (bL < (lN ah))))] fun a hS=>?_
  refine aJ hS (b:=decide (bL < (lN ah))) kr (fun hb=>?_) fun hb=>?_
  ·replace hm:=hm.1 hb
   refine aM (bg ?_)
   refine aN ?_
   refine bq ?_
   refine oPe T hS 2 [36] [(39,Sl a3 ah c3),(40,I bL)] fun a hS=>?_
   obtain ⟨hq,hm⟩:=hm
   refine op1 (index (e:=56) (k:=.i64) T hS kr kr kr kr h109 kr kr hq.1 hq.2 ?_)
   intro Ku a h113 hS
   refine op1 (eU T hS kr kr kr h113 kr kr ?_)
   intro v114 a hv hS
   subst hv
   refine eM T hS ⟨[(1,Sl a2 l_ c2),(2,I dD),(3,Sl a3 ah c3),(4,Pt 5 0),(13,I bL),(14,Pt 15 0)],[(5,(48,(cO o_ a1 c1))),(15,(56,(cK (gi ah bL))))]⟩ fun Z a DQ EY hS hE hr=>?_
   replace hO:=hO.m2 hE
   replace h107:=h107.m1 hE
   replace h109:=h109.m1 hE
   replace h111:=h111.m1 hE
   clear hE hr
   refine bg ?_
   refine rPe T hS [] [(52,B ((decide (((gi ah bL).Oper) < 0)) || (decide (((gi ah bL).Oper)≥(lN l_)))))] (sp:=[46]) fun a hS=>?_
   refine aJ hS (b:=((decide (((gi ah bL).Oper) < 0)) || (decide (((gi ah bL).Oper)≥(lN l_))))) kr (fun hb=>?_) fun hb=>?_
   ·replace hm:=hm.1 hb
    refine rP T hS ⟨[(8,I 0),(9,I bL),(10,I 2)],[]⟩ fun a hS=>?_
    refine aY ?_
    exact fin T hS hO (fun c=>c) rfl (r:=[.int .i64 0,.int .i64 bL,.int .i64 2]) kr (fun X' hM hC=>⟨(0,bL,2),hm,rfl⟩)
   replace hm:=hm.2 hb
   refine aM ?_
   refine cb (fun a w=>∃ Z X,VC36_J2 o_ l_ ah Q I1 μ1 dD bL/\St Tryz.f36.ntmps ⟨[(1,Sl a2 l_ c2),(2,I dD),(3,Sl a3 ah c3),(4,Pt 5 0),(13,I bL),(14,Pt 15 0)],[(5,(48,(cO o_ a1 c1))),(15,(56,(cK (gi ah bL))))]⟩ Z a w X/\Old w0 X0 w X/\RS ar w X a2 l_ c2/\RS av w X a3 ah c3/\RS aC w X a1 o_.Rows c1) ?_ ?_
   ·refine rPe T hS [52] [(15,I 0)] fun a hS=>?_
    refine aN ?_
    obtain ⟨I2,μ2,cx,hm⟩:=hm
    refine ct (σ:=Int) (fun s a w=>∃ Z X,I2 s/\St Tryz.f36.ntmps ⟨[(1,Sl a2 l_ c2),(2,I dD),(3,Sl a3 ah c3),(4,Pt 5 0),(13,I bL),(14,Pt 15 0),(15,I s)],[(5,(48,(cO o_ a1 c1))),(15,(56,(cK (gi ah bL))))]⟩ Z a w X/\Old w0 X0 w X/\RS ar w X a2 l_ c2/\RS av w X a3 ah c3/\RS aC w X a1 o_.Rows c1) (fun s=>μ2 s) (0) ?_ ?_
    ·exact ⟨Z,_,cx,hS.sl _,hO,h107,h109,h111⟩
    rintro mb a zF ⟨Z,AX,hI,hS,hO,h147,h148,h150⟩
    replace hm:=hm mb hI
    clear hI cx
    refine bg ?_
    refine rPe T hS [] [(56,B (decide (mb < bL)))] fun a hS=>?_
    refine aJ hS (b:=decide (mb < bL)) kr (fun hb=>?_) fun hb=>?_
    ·replace hm:=hm.1 hb
     refine aM (bg ?_)
     refine aN ?_
     refine dG [5,15] mixed hS ?_
     intro Gf xX hS hE hD hH
     replace hO:=hO.m2 hE
     replace h147:=h147.m1 hE
     replace h148:=h148.m1 hE
     replace h150:=h150.m1 hE
     refine tke T [0,1,5,6] [5,15] hS hH #[true,true,false,false,false,true,true,false] 4 [] [(59,Sl a3 ah c3),(60,I mb),(65,I ((gi ah bL).Oper))] fun a hS=>?_
     obtain ⟨hq,hm⟩:=hm
     refine dm (e:=56) (k:=.i64) T 2 hS kr kr kr (by rfl) kr hH kr kr h148 kr kr hq.1 hq.2 ?_
     intro Kq a h154 hS
     have Cw:=h154.here
     refine dE (off:=0) (fsz:=1) (ft:=3) (TF:=tI) (y:=(gi ah mb).Oper) 3 T hS kr kr kr (by rfl) kr hH kr h154 kr kr kr (fun cs h=>hG h) ?_
     intro Kp a h156 fR hS
     have vH:=Cw
     rw [← fR] at vH
     clear fR
     refine eu T 4 hS kr kr kr (by rfl) kr hH kr h156 vH rfl kr ?_
     intro v157 a hv hS
     cases hv
     refine tke T [7] [5,15] hS hH (tts 8) 0 [59,60,65,61,62,63] [(66,B (((gi ah mb).Oper) == ((gi ah bL).Oper)))] fun a hS=>?_
     refine aX kr ?_
     replace hS:=hS.sle [] []
     refine aJ hS (b:=(((gi ah mb).Oper) == ((gi ah bL).Oper))) kr (fun hb=>?_) fun hb=>?_
     ·replace hm:=hm.1 hb
      refine rP T hS ⟨[(8,I 0),(9,I bL),(10,I 21)],[]⟩ fun a hS=>?_
      refine aY ?_
      exact fin T hS hO (fun c=>c) rfl (r:=[.int .i64 0,.int .i64 bL,.int .i64 21]) kr (fun X' hM hC=>⟨(0,bL,21),hm,rfl⟩)
     replace hm:=hm.2 hb
     refine aM ?_
     refine region (ePe T hS [66] [(15,I (wR (mb+1)))] fun a hS=>?_)
     exact ⟨wR (mb+1),⟨Z,_,hm.1,hS.sl _,hO,h147,h148,h150⟩,hm.2⟩
    replace hm:=hm.2 hb
    refine cm (by rfl) ?_
    exact ⟨Z,_,hm,hS.sl _,hO,h147,h148,h150⟩
   rintro a Il ⟨Z,EZ,hm,hS,hO,h115,h116,h117⟩
   unfold VC36_J2 at hm
   refine dG [5,15] mixed hS ?_
   intro Br Dp hS hE hD hH
   replace hO:=hO.m2 hE
   replace h115:=h115.m1 hE
   replace h116:=h116.m1 hE
   replace h117:=h117.m1 hE
   refine tke T [0,1,2,3,8,4,9] [5,15] hS hH #[true,true,true,true,true,false,false,false,true,true,false,false,false,false,false,false] 9 [2] [(69,V (.agg #[.int .i64 o_.au,.int .i64 o_.az,.int .i64 o_.aH,.slice a1 o_.Rows.length c1])),(70,I dD),(71,Sl a2 l_ c2),(73,I ((gi ah bL).Oper)),(78,I ((gi ah bL).Result))] fun a hS=>?_
   obtain ⟨hq,hm⟩:=hm
   refine dm (e:=102) (k:=.i64) T 5 hS kr kr kr (by rfl) kr hH kr kr h115 kr kr hq.1 hq.2 ?_
   intro N9 a h121 hS
   have Jq:=h121.here
   refine dE (off:=1) (fsz:=1) (ft:=3) (TF:=tI) (y:=(gi l_ ((gi ah bL).Oper)).Kind) 6 T hS kr kr kr (by rfl) kr hH kr h121 kr kr kr (fun cs h=>kX h) ?_
   intro Du a h123 fR hS
   have FY:=Jq
   rw [← fR] at FY
   clear fR
   refine eu T 7 hS kr kr kr (by rfl) kr hH kr h123 FY rfl kr ?_
   intro v124 a hv hS
   cases hv
   refine only 10 kr (by rfl) (call hS kr kr hb65 kr (fun _ _=>rfl) (LS _ _ o_ dD ((gi l_ ((gi ah bL).Oper)).Kind) ((gi ah bL).Result) a1 c1 h117) ?_)
   intro v125 a tm p9 hE hp hS
   replace hO:=hO.m2 hE
   replace hD:=hD.ev hE rfl
   replace h115:=h115.m1 hE
   replace h116:=h116.m1 hE
   replace h117:=h117.m1 hE
   replace h121:=h121.m1 hE
   replace h123:=h123.m1 hE
   obtain ⟨bO,hr⟩:∃ r,dc o_ dD ((gi l_ ((gi ah bL).Oper)).Kind) ((gi ah bL).Result)=r:=⟨_,rfl⟩
   replace hm:=hm bO hr
   rw [hr] at hp
   clear hr
   subst hp
   replace hS:=hS.sle [] [(79,V (.tuple #[.int .i64 bO.1,.int .i64 bO.2]))]
   refine di (bP.of hS (bks:=[5,15]) kr hD) ?_
   intro hH
   refine tke T [11,12,13,14,15] [5,15] hS hH (tts 16) 0 [69,70,71,73,78,74,75,76,79] [(16,I bO.1),(17,I bO.2)] fun a hS=>?_
   refine aX kr ?_
   replace hS:=hS.sle [] []
   refine bg ?_
   refine rPe T hS [] [(83,B (bO.2 != 0))] fun a hS=>?_
   refine aJ hS (b:=(bO.2 != 0)) kr (fun hb=>?_) fun hb=>?_
   ·replace hm:=hm.1 hb
    refine rP T hS ⟨[(8,I 0),(9,I bL),(10,I bO.2)],[]⟩ fun a hS=>?_
    refine aY ?_
    exact fin T hS hO (fun c=>c) rfl (r:=[.int .i64 0,.int .i64 bL,.int .i64 bO.2]) kr (fun X' hM hC=>⟨(0,bL,bO.2),hm,rfl⟩)
   replace hm:=hm.2 hb
   refine aM (bg ?_)
   refine cb (fun a w=>∃ (Z:Nat->Nat) (X:Nat->Nat) (fW:Bool),VC36_J3 Q I1 μ1 dD bL bO fW/\St Tryz.f36.ntmps ⟨[(1,Sl a2 l_ c2),(3,Sl a3 ah c3),(4,Pt 5 0),(13,I bL),(16,I bO.1),(103,B fW)],[(5,(48,(cO o_ a1 c1)))]⟩ Z a w X/\Old w0 X0 w X/\RS ar w X a2 l_ c2/\RS av w X a3 ah c3/\RS aC w X a1 o_.Rows c1) ?_ ?_
   ·refine iB [5,15] mixed hS ?_
    intro zI Dk hS hE hD hH
    replace hO:=hO.m2 hE
    replace h115:=h115.m1 hE
    replace h116:=h116.m1 hE
    replace h117:=h117.m1 hE
    refine tke T [0,1,2] [5,15] hS hH #[true,true,true,false,false,false,false,false,false,false,false,false,false,false,false,false,false,false] 15 [] [(86,Sl a2 l_ c2),(88,I ((gi ah bL).Oper))] fun a hS=>?_
    obtain ⟨hq,hm⟩:=hm
    refine dm (e:=102) (k:=.i64) T 3 hS kr kr kr (by rfl) kr hH kr kr h115 kr kr hq.1 hq.2 ?_
    intro Ks a h136 hS
    have Jn:=h136.here
    refine dE (off:=3) (fsz:=1) (ft:=3) (TF:=tI) (y:=(gi l_ ((gi ah bL).Oper)).End) 4 T hS kr kr kr (by rfl) kr hH kr h136 kr kr kr (fun cs h=>mH h) ?_
    intro SL a h138 fR hS
    have FX:=Jn
    rw [← fR] at FX
    clear fR
    refine eu T 5 hS kr kr kr (by rfl) kr hH kr h138 FX rfl kr ?_
    intro v139 a hv hS
    cases hv
    refine tke T [6,7] [5,15] hS hH #[true,true,true,true,true,true,true,true,false,false,false,false,false,false,false,false,false,false] 10 [86,88,89,90,91] [(93,B (((gi l_ ((gi ah bL).Oper)).End) != (-1)))] fun a hS=>?_
    rcases bft (((gi l_ ((gi ah bL).Oper)).End) != (-1)) with hb | hb
    ·replace hS:=hS.lit (t:=93) kr hb
     replace hm:=hm.1 hb
     refine tke T [8,9,14,10,15] [5,15] hS hH #[true,true,true,true,true,true,true,true,true,true,true,false,false,false,true,true,false,false] 5 [14] [(94,Sl a2 l_ c2),(96,I ((gi ah bL).Oper)),(101,I ((gi ah bL).Result))] fun a hS=>?_
     obtain ⟨hq,hm⟩:=hm
     refine dm (e:=102) (k:=.i64) T 11 hS kr kr kr (by rfl) kr hH kr kr h115 kr kr hq.1 hq.2 ?_
     intro HJ a h141 hS
     have Jm:=h141.here
     refine dE (off:=4) (fsz:=1) (ft:=3) (TF:=tI) (y:=(gi l_ ((gi ah bL).Oper)).Result) 12 T hS kr kr kr (by rfl) kr hH kr h141 kr kr kr (fun cs h=>pP h) ?_
     intro Kr a h143 fR hS
     have zj:=Jm
     rw [← fR] at zj
     clear fR
     refine eu T 13 hS kr kr kr (by rfl) kr hH kr h143 zj rfl kr ?_
     intro v144 a hv hS
     cases hv
     refine tke T [16,17] [5,15] hS hH (tts 18) 0 [93,94,96,101,97,98,99] [(103,B (((gi l_ ((gi ah bL).Oper)).Result) != ((gi ah bL).Result)))] fun a hS=>?_
     refine aX kr ?_
     replace hS:=hS.sl ⟨[(1,Sl a2 l_ c2),(3,Sl a3 ah c3),(4,Pt 5 0),(13,I bL),(16,I bO.1),(103,B (((gi l_ ((gi ah bL).Oper)).Result) != ((gi ah bL).Result)))],[(5,(48,(cO o_ a1 c1)))]⟩
     exact ⟨Z,_,(((gi l_ ((gi ah bL).Oper)).Result) != ((gi ah bL).Result)),hm,hS.sl _,hO,h115,h116,h117⟩
    replace hS:=hS.lit (t:=93) kr hb
    replace hm:=hm.2 hb
    refine tke T [8,9,14,10,15,11,12,13,16,17] [5,15] hS hH (tts 18) 0 [14,93] [(103,B false)] fun a hS=>?_
    refine aX kr ?_
    replace hS:=hS.sl ⟨[(1,Sl a2 l_ c2),(3,Sl a3 ah c3),(4,Pt 5 0),(13,I bL),(16,I bO.1),(103,B false)],[(5,(48,(cO o_ a1 c1)))]⟩
    exact ⟨Z,_,false,hm,hS.sl _,hO,h115,h116,h117⟩
   rintro a DS ⟨Z,xZ,fW,hm,hS,hO,h129,h130,h132⟩
   unfold VC36_J3 at hm
   refine aJ hS (b:=fW) kr (fun hb=>?_) fun hb=>?_
   ·replace hm:=hm.1 hb
    refine rP T hS ⟨[(8,I 0),(9,I bL),(10,I 40)],[]⟩ fun a hS=>?_
    refine aY ?_
    exact fin T hS hO (fun c=>c) rfl (r:=[.int .i64 0,.int .i64 bL,.int .i64 40]) kr (fun X' hM hC=>⟨(0,bL,40),hm,rfl⟩)
   replace hm:=hm.2 hb
   refine aM ?_
   refine region (ePe T hS [16,103] [(2,I bO.1)] fun a hS=>?_)
   refine region (ePe T hS [] [(13,I (wR (bL+1)))] fun a hS=>?_)
   exact ⟨⟨bO.1,wR (bL+1)⟩,⟨Z,_,hm.1,hS.sl _,hO,h129,h130,h132⟩,hm.2⟩
  replace hm:=hm.2 hb
  refine cm (by rfl) ?_
  exact ⟨Z,_,dD,hm,hS.sl _,hO,h109⟩
 rintro a Ij ⟨Z,Kg,fY,hm,hS,hO,h106⟩
 unfold VC36_J1 at hm
 refine rPe T hS [2,3] [(8,I fY),(9,I (lN ah)),(10,I 0)] fun a hS=>?_
 refine aY ?_
 exact fin T hS hO (fun c=>c) rfl (r:=[.int .i64 fY,.int .i64 (lN ah),.int .i64 0]) kr (fun X' hM hC=>⟨(fY,(lN ah),0),hm,rfl⟩)
theorem C36 (GL:S58) (LS:S65) (v:∀ (o_:aj) (l_:List ab) (state:Int) (ah:List aa),VC36 o_ l_ state ah (fun r=>r=c6 o_ l_ state ah)):S36:=by
 intro w X o_ l_ state ah a1 c1 a2 c2 a3 c3   h1 h2 h3
 refine (W36 GL LS w X o_ l_ state ah a1 c1 a2 c2 a3 c3   _ (v o_ l_ state ah) h1 h2 h3).mono ?_
 rintro _ _ _ _ ⟨r,rfl,h⟩
 exact h
theorem W67 (w0) (X0) (a_:ab) (b_:ab) (Q:Bool->Prop) (hm:VC67 a_ b_ Q) :
  Ret Tryz.prog 67 #[.agg #[.int .i64 a_.ak,.int .i64 a_.Kind,.int .i64 a_.aI,.int .i64 a_.End,.int .i64 a_.Result],.agg #[.int .i64 b_.ak,.int .i64 b_.Kind,.int .i64 b_.aI,.int .i64 b_.End,.int .i64 b_.Result]] aL w0 X0 (fun w X' v=>∃ r,Q r/\v=.bool r):=by
 unfold VC67 at hm
 refine enter Tryz.func67 rfl (vals:=[.agg #[.int .i64 a_.ak,.int .i64 a_.Kind,.int .i64 a_.aI,.int .i64 a_.End,.int .i64 a_.Result],.agg #[.int .i64 b_.ak,.int .i64 b_.Kind,.int .i64 b_.aI,.int .i64 b_.End,.int .i64 b_.Result]]) kr ?_
 intro Z a hS hO hM
 refine rM T hS ⟨[(2,Pt 3 0),(3,Pt 4 0)],[(3,(102,(cP a_))),(4,(102,(cP b_)))]⟩ fun Z a oO pw hS hE hr=>?_
 replace hO:=hO.m2 hE
 clear hE hr
 refine rP T hS ⟨[(4,B ((decide (a_.End≥0)) && (decide (b_.aI > a_.End))))],[]⟩ (sp:=[8]) fun a hS=>?_
 refine aY ?_
 exact fin T hS hO (fun c=>c) rfl (r:=[.bool ((decide (a_.End≥0)) && (decide (b_.aI > a_.End)))]) kr (fun X' hM hC=>⟨((decide (a_.End≥0)) && (decide (b_.aI > a_.End))),hm,rfl⟩)
theorem C67 (v:∀ (a_:ab) (b_:ab),VC67 a_ b_ (fun r=>r=jr a_ b_)):S67:=by
 intro w X a_ b_    
 refine (W67 w X a_ b_    _ (v a_ b_)).mono ?_
 rintro _ _ _ _ ⟨r,rfl,h⟩
 exact h
theorem W37 (GK:S66) (LR:S67) (w0) (X0) (l_:List ab) (ah:List aa) (a1) (c1) (a2) (c2) (Q:Int->Prop) (hm:VC37 l_ ah Q) (h1:RS ar w0 X0 a1 l_ c1) (h2:RS av w0 X0 a2 ah c2) :
  Ret Tryz.prog 37 #[.slice a1 l_.length c1,.slice a2 ah.length c2] aL w0 X0 (fun w X' v=>∃ r,Q r/\v=.int .i64 r):=by
 unfold VC37 at hm
 replace hm:=hm (h1.sm kr)
 replace hm:=hm (h2.sm kr)
 refine enter Tryz.func37 rfl (vals:=[.slice a1 l_.length c1,.slice a2 ah.length c2]) kr ?_
 intro Z a hS hO hM
 replace h1:=h1.m0 hM
 replace h2:=h2.m0 hM
 refine rPe T hS [] [] fun a hS=>?_
 refine cb (fun a w=>∃ Z X,VC37_J1 Q/\St Tryz.f37.ntmps ⟨[],[]⟩ Z a w X/\Old w0 X0 w X) ?_ ?_
 ·refine rPe T hS [] [(5,I 0)] fun a hS=>?_
  refine aN ?_
  obtain ⟨I1,μ1,cx,hm⟩:=hm
  refine ct (σ:=Int) (fun s a w=>∃ Z X,I1 s/\St Tryz.f37.ntmps ⟨[(0,Sl a1 l_ c1),(1,Sl a2 ah c2),(5,I s)],[]⟩ Z a w X/\Old w0 X0 w X/\RS ar w X a1 l_ c1/\RS av w X a2 ah c2) (fun s=>μ1 s) (0) ?_ ?_
  ·exact ⟨Z,_,cx,hS.sl _,hO,h1,h2⟩
  rintro bm a zH ⟨Z,E3,hI,hS,hO,h101,h102⟩
  replace hm:=hm bm hI
  clear hI cx
  refine bg ?_
  refine rPe T hS [] [(12,B (decide (bm < (lN ah))))] fun a hS=>?_
  refine aJ hS (b:=decide (bm < (lN ah))) kr (fun hb=>?_) fun hb=>?_
  ·replace hm:=hm.1 hb
   refine aM ?_
   refine cb (fun a w=>∃ Z X,VC37_J2 I1 μ1 bm/\St Tryz.f37.ntmps ⟨[(0,Sl a1 l_ c1),(1,Sl a2 ah c2),(5,I bm)],[]⟩ Z a w X/\Old w0 X0 w X/\RS ar w X a1 l_ c1/\RS av w X a2 ah c2) ?_ ?_
   ·refine aN ?_
    refine bq ?_
    refine oPe T hS 2 [12] [(15,Sl a2 ah c2),(16,I bm)] fun a hS=>?_
    obtain ⟨hq,hm⟩:=hm
    refine op1 (index (e:=56) (k:=.i64) T hS kr kr kr kr h102 kr kr hq.1 hq.2 ?_)
    intro Kv a h107 hS
    refine op1 (fw (off:=0) (fsz:=1) (ft:=3) (TF:=tI) (y:=(gi ah bm).Oper) T hS kr kr kr h107 kr kr kr (fun cs h=>hG h) ?_)
    intro Od a h109 hS
    refine op1 (dW T hS kr kr kr h109 rfl kr ?_)
    intro v110 a hv hS
    cases hv
    refine ePe T hS [15,16,17,18,19] [(6,I ((gi ah bm).Oper))] fun a hS=>?_
    refine rPe T hS [] [(7,I 0)] fun a hS=>?_
    refine aN ?_
    obtain ⟨I2,μ2,cx,hm⟩:=hm
    refine ct (σ:=Int) (fun s a w=>∃ Z X,I2 s/\St Tryz.f37.ntmps ⟨[(0,Sl a1 l_ c1),(1,Sl a2 ah c2),(5,I bm),(6,I ((gi ah bm).Oper)),(7,I s)],[]⟩ Z a w X/\Old w0 X0 w X/\RS ar w X a1 l_ c1/\RS av w X a2 ah c2) (fun s=>μ2 s) (0) ?_ ?_
    ·exact ⟨Z,_,cx,hS.sl _,hO,h101,h102⟩
    rintro bh a tl ⟨Z,uz,hI,hS,hO,h111,h112⟩
    replace hm:=hm bh hI
    clear hI cx
    refine bg ?_
    refine rPe T hS [] [(33,B (((decide (bh < (lN l_))) && (decide (((gi ah bm).Oper)≥0))) && (decide (((gi ah bm).Oper) < (lN l_)))))] (sp:=[24,28]) fun a hS=>?_
    refine aJ hS (b:=(((decide (bh < (lN l_))) && (decide (((gi ah bm).Oper)≥0))) && (decide (((gi ah bm).Oper) < (lN l_))))) kr (fun hb=>?_) fun hb=>?_
    ·replace hm:=hm.1 hb
     refine aM (bg ?_)
     refine aN ?_
     refine bq ?_
     refine oPe T hS 2 [33] [(36,Sl a2 ah c2),(37,I bh)] fun a hS=>?_
     refine op1 (call hS kr kr hb66 kr (fun _ _=>rfl) (GK _ _ ah bh a2 c2 h112) ?_)
     intro v114 a pV uB hE hp hS
     replace hO:=hO.m2 hE
     replace h111:=h111.m1 hE
     replace h112:=h112.m1 hE
     obtain ⟨eN,hr⟩:∃ r,cn ah bh=r:=⟨_,rfl⟩
     replace hm:=hm eN hr
     rw [hr] at hp
     clear hr
     subst hp
     refine ePe T hS [36,37,38] [(8,I eN)] fun a hS=>?_
     refine cb (fun a w=>∃ (Z:Nat->Nat) (X:Nat->Nat) (eI:Bool),VC37_J3 Q bm I2 μ2 bh eI/\St Tryz.f37.ntmps ⟨[(0,Sl a1 l_ c1),(1,Sl a2 ah c2),(5,I bm),(6,I ((gi ah bm).Oper)),(7,I bh),(56,B eI)],[]⟩ Z a w X/\Old w0 X0 w X/\RS ar w X a1 l_ c1/\RS av w X a2 ah c2) ?_ ?_
     ·refine iB [] mixed hS ?_
      intro wS Dn hS hE hD hH
      replace hO:=hO.m2 hE
      replace h111:=h111.m1 hE
      replace h112:=h112.m1 hE
      refine tke T [0,1,4,5] [] hS hH #[true,true,false,false,true,true,false,false,false,false,false,false,false,false,false,false,false,false] 14 [] [(39,Sl a1 l_ c1),(40,I bh),(43,Sl a1 l_ c1),(44,I ((gi ah bm).Oper))] fun a hS=>?_
      obtain ⟨hq,hm⟩:=hm
      refine dm (e:=102) (k:=.i64) T 2 hS kr kr kr (by rfl) kr hH kr kr h111 kr kr hq.1 hq.2 ?_
      intro E8 a h124 hS
      have rn:=h124.here
      refine ku T 3 hS kr kr kr (by rfl) kr hH kr h124 rn kr kr ?_
      intro v125 a hv hS
      subst hv
      obtain ⟨hq,hm⟩:=hm
      refine dm (e:=102) (k:=.i64) T 6 hS kr kr kr (by rfl) kr hH kr kr h111 kr kr hq.1 hq.2 ?_
      intro SO a h127 hS
      have Jp:=h127.here
      refine ku T 7 hS kr kr kr (by rfl) kr hH kr h127 Jp kr kr ?_
      intro v128 a hv hS
      subst hv
      refine only 8 kr (by rfl) (call hS kr kr hb67 kr (fun _ _=>rfl) (LR _ _ (gi l_ bh) (gi l_ ((gi ah bm).Oper))) ?_)
      intro v129 a uI Dl hE hp hS
      replace hO:=hO.m2 hE
      replace hD:=hD.ev hE rfl
      replace h111:=h111.m1 hE
      replace h112:=h112.m1 hE
      replace h124:=h124.m1 hE
      replace h127:=h127.m1 hE
      obtain ⟨gI,hr⟩:∃ r,jr (gi l_ bh) (gi l_ ((gi ah bm).Oper))=r:=⟨_,rfl⟩
      replace hm:=hm gI hr
      rw [hr] at hp
      clear hr
      subst hp
      refine di (bP.of hS (bks:=[]) kr hD) ?_
      intro hH
      refine tke T [9] [] hS hH #[true,true,true,true,true,true,true,true,true,true,false,false,false,false,false,false,false,false] 8 [39,40,43,44,41,42,45,46,47] [(48,B gI)] fun a hS=>?_
      rcases bft gI with hb | hb
      ·replace hS:=hS.lit (t:=48) kr hb
       replace hm:=hm.1 hb
       refine tke T [10,11,12] [] hS hH #[true,true,true,true,true,true,true,true,true,true,true,true,true,false,false,false,false,false] 5 [] [(51,B (decide (eN < 0)))] fun a hS=>?_
       refine j7 (tc:=51) (b:=decide (eN < 0)) (f:=fun c=>⟨[(0,Sl a1 l_ c1),(1,Sl a2 ah c2),(5,I bm),(6,I ((gi ah bm).Oper)),(7,I bh),(48,B true),(55,B (c || (decide (eN≥bm))))],[]⟩) T [13,14,15,16] [] [0,1,5,6,7,48,55] hS kr kr kr kr hH (listed':=#[true,true,true,true,true,true,true,true,true,true,true,true,true,true,true,true,true,false]) (fuel:=1) kr kr (by rfl) ?_
       intro a hS
       refine tke T [17] [] hS hH (tts 18) 0 [48,55] [(56,B ((decide (eN < 0)) || (decide (eN≥bm))))] fun a hS=>?_
       refine aX kr ?_
       replace hS:=hS.sle [] []
       exact ⟨Z,_,((decide (eN < 0)) || (decide (eN≥bm))),hm,hS.sl _,hO,h111,h112⟩
      replace hS:=hS.lit (t:=48) kr hb
      replace hm:=hm.2 hb
      refine tke T [10,11,12,13,14,15,16,17] [] hS hH (tts 18) 0 [8,48] [(56,B false)] fun a hS=>?_
      refine aX kr ?_
      replace hS:=hS.sle [] []
      exact ⟨Z,_,false,hm,hS.sl _,hO,h111,h112⟩
     rintro a uH ⟨Z,NY,eI,hm,hS,hO,h118,h119⟩
     unfold VC37_J3 at hm
     refine aJ hS (b:=eI) kr (fun hb=>?_) fun hb=>?_
     ·replace hm:=hm.1 hb
      refine rPe T hS [0,1,5,6,7,56] [(4,I bm)] fun a hS=>?_
      refine aY ?_
      exact fin T hS hO (fun c=>c) rfl (r:=[.int .i64 bm]) kr (fun X' hM hC=>⟨bm,hm,rfl⟩)
     replace hm:=hm.2 hb
     refine aM ?_
     refine region (ePe T hS [56] [(7,I (wR (bh+1)))] fun a hS=>?_)
     exact ⟨wR (bh+1),⟨Z,_,hm.1,hS.sl _,hO,h118,h119⟩,hm.2⟩
    replace hm:=hm.2 hb
    refine cm (by rfl) ?_
    exact ⟨Z,_,hm,hS.sl _,hO,h111,h112⟩
   rintro a Bq ⟨Z,wB,hm,hS,hO,h104,h105⟩
   unfold VC37_J2 at hm
   refine region (ePe T hS [] [(5,I (wR (bm+1)))] fun a hS=>?_)
   exact ⟨wR (bm+1),⟨Z,_,hm.1,hS.sl _,hO,h104,h105⟩,hm.2⟩
  replace hm:=hm.2 hb
  refine cm (by rfl) ?_
  exact ⟨Z,_,hm,hS.sl _,hO⟩
 rintro a qn ⟨Z,x3,hm,hS,hO⟩
 unfold VC37_J1 at hm
 refine rPe T hS [] [(4,I (-1))] fun a hS=>?_
 refine aY ?_
 exact fin T hS hO (fun c=>c) rfl (r:=[.int .i64 (-1)]) kr (fun X' hM hC=>⟨(-1),hm,rfl⟩)
theorem C37 (GK:S66) (LR:S67) (v:∀ (l_:List ab) (ah:List aa),VC37 l_ ah (fun r=>r=eK l_ ah)):S37:=by
 intro w X l_ ah a1 c1 a2 c2   h1 h2
 refine (W37 GK LR w X l_ ah a1 c1 a2 c2   _ (v l_ ah) h1 h2).mono ?_
 rintro _ _ _ _ ⟨r,rfl,h⟩
 exact h
end Go.Proofs.YteahldlmkheleaaGreat
