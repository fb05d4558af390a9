import Derived.Test.YteahldlmkheleaaGreatLWalksS
set_option linter.all false
namespace Go.Proofs.YteahldlmkheleaaGreat
open Go Go.Sv
set_option maxHeartbeats 1000000
theorem W34 (wd:S63) (w0) (X0) (l_:List ab) (ac:List aa) (a1) (c1) (a2) (c2) (Q:Int->Prop) (hm:VC34 l_ ac Q) (h1:RS aq w0 X0 a1 l_ c1) (h2:RS au w0 X0 a2 ac c2) :
  Ret Tryz.prog 34 #[.slice a1 l_.length c1,.slice a2 ac.length c2] aI w0 X0 (fun w X' v=>∃ r,Q r/\v=.int .i64 r):=by
 unfold VC34 at hm
 replace hm:=hm (h1.sm kr)
 replace hm:=hm (h2.sm kr)
 refine enter Tryz.func34 rfl (vals:=[.slice a1 l_.length c1,.slice a2 ac.length c2]) kr ?_
 intro Z a hS hO hM
 replace h1:=h1.m0 hM
 replace h2:=h2.m0 hM
 refine rPe T hS [] [] fun a hS=>?_
 refine EN (by rfl) ?_
 refine bl ?_
 refine op1 (oH kI tI false 1011 hS kr kr ?_)
 intro dX a eX e8 hE h104 hS
 replace hO:=hO.m2 hE
 replace h1:=h1.m1 hE
 replace h2:=h2.m1 hE
 refine ePe T hS [10] [(5,V (.map (some dX)))] fun a hS=>?_
 refine bc ?_
 refine EO ?_
 refine b5 (fun a w=>∃ Z X,VC34_J1 Q/\St Tryz.f34.ntmps ⟨[],[]⟩ Z a w X/\Old w0 X0 w X) ?_ ?_
 ·refine rPe T hS [1] [(11,Sl a2 ac c2),(12,I (lN ac)),(13,I 0)] fun a hS=>?_
  refine aK ?_
  obtain ⟨I1,μ1,ci,hm⟩:=hm
  refine cg (σ:=(List (Int × Int)) × Int) (fun s a w=>∃ Z X,I1 s.1 s.2/\St Tryz.f34.ntmps ⟨[(0,Sl a1 l_ c1),(5,V (.map (some dX))),(11,Sl a2 ac c2),(12,I (lN ac)),(13,I s.2)],[]⟩ Z a w X/\Old w0 X0 w X/\RS aq w X a1 l_ c1/\OM kI tI false w X 1011 dX s.1/\RS au w X a2 ac c2) (fun s=>μ1 s.1 s.2) (⟨([]:List (Int × Int)),0⟩) ?_ ?_
  ·exact ⟨Z,_,ci,hS.sl _,hO,h1,h104,h2⟩
  rintro ⟨ff,ce⟩ a yf ⟨Z,zI,hI,hS,hO,h105,h107,h108⟩
  replace hm:=hm ff ce hI
  clear hI ci
  refine rPe T hS [] [(14,B (decide (ce < (lN ac))))] fun a hS=>?_
  refine bc ?_
  refine aG hS (b:=decide (ce < (lN ac))) kr (fun hb=>?_) fun hb=>?_
  ·replace hm:=hm.1 hb
   refine aJ ?_
   refine b5 (fun a w=>∃ (Z:Nat->Nat) (X:Nat->Nat) (dn:List (Int × Int)),VC34_J2 I1 μ1 ff ce dn/\St Tryz.f34.ntmps ⟨[(0,Sl a1 l_ c1),(5,V (.map (some dX))),(11,Sl a2 ac c2),(12,I (lN ac)),(13,I ce)],[]⟩ Z a w X/\Old w0 X0 w X/\RS aq w X a1 l_ c1/\OM kI tI false w X 1011 dX dn/\RS au w X a2 ac c2) ?_ ?_
   ·refine aK ?_
    refine bl ?_
    refine oPe T hS 1 [14] [(15,I ce)] fun a hS=>?_
    obtain ⟨hq,hm⟩:=hm
    refine op1 (index (e:=56) (k:=.i64) T hS kr kr kr kr h108 kr kr hq.1 hq.2 ?_)
    intro DS a h115 hS
    refine op1 (eD T hS kr kr kr h115 kr kr ?_)
    intro v116 a hv hS
    subst hv
    refine eM T hS ⟨[(0,Sl a1 l_ c1),(5,V (.map (some dX))),(6,I ce),(7,Pt 8 0),(11,Sl a2 ac c2),(12,I (lN ac)),(13,I ce)],[(8,(56,(cK (gi ac ce))))]⟩ fun Z a r6 wD hS hE hr=>?_
    replace hO:=hO.m2 hE
    replace h105:=h105.m1 hE
    replace h107:=h107.m2 hE
    replace h108:=h108.m1 hE
    clear hE hr
    refine bc ?_
    refine rPe T hS [] [(27,B ((decide (((gi ac ce).Oper) < 0)) || (decide (((gi ac ce).Oper)≥(lN l_)))))] (sp:=[21]) fun a hS=>?_
    refine aG hS (b:=((decide (((gi ac ce).Oper) < 0)) || (decide (((gi ac ce).Oper)≥(lN l_))))) kr (fun hb=>?_) fun hb=>?_
    ·replace hm:=hm.1 hb
     refine cb (by rfl) ?_
     exact ⟨Z,_,ff,hm,hS.sl _,hO,h105,h107,h108⟩
    replace hm:=hm.2 hb
    refine aJ ?_
    refine b5 (fun a w=>∃ Z X,VC34_J3 ac I1 μ1 ff ce/\St Tryz.f34.ntmps ⟨[(0,Sl a1 l_ c1),(5,V (.map (some dX))),(7,Pt 8 0),(11,Sl a2 ac c2),(12,I (lN ac)),(13,I ce)],[(8,(56,(cK (gi ac ce))))]⟩ Z a w X/\Old w0 X0 w X/\RS aq w X a1 l_ c1/\OM kI tI false w X 1011 dX ff/\RS au w X a2 ac c2) ?_ ?_
    ·refine rPe T hS [27] [(28,Sl a1 l_ c1),(29,I (lN l_)),(30,I 0)] fun a hS=>?_
     refine aK ?_
     obtain ⟨I2,μ2,ci,hm⟩:=hm
     refine cg (σ:=Int) (fun s a w=>∃ Z X,I2 s/\St Tryz.f34.ntmps ⟨[(0,Sl a1 l_ c1),(5,V (.map (some dX))),(6,I ce),(7,Pt 8 0),(11,Sl a2 ac c2),(12,I (lN ac)),(13,I ce),(28,Sl a1 l_ c1),(29,I (lN l_)),(30,I s)],[(8,(56,(cK (gi ac ce))))]⟩ Z a w X/\Old w0 X0 w X/\RS aq w X a1 l_ c1/\OM kI tI false w X 1011 dX ff/\RS au w X a2 ac c2/\RS aq w X a1 l_ c1) (fun s=>μ2 s) (0) ?_ ?_
     ·exact ⟨Z,_,ci,hS.sl _,hO,h105,h107,h108,h105⟩
     rintro cU a EW ⟨Z,Gm,hI,hS,hO,h123,h124,h125,h126⟩
     replace hm:=hm cU hI
     clear hI ci
     refine rPe T hS [] [(31,B (decide (cU < (lN l_))))] fun a hS=>?_
     refine bc ?_
     refine aG hS (b:=decide (cU < (lN l_))) kr (fun hb=>?_) fun hb=>?_
     ·replace hm:=hm.1 hb
      refine aJ (bc ?_)
      refine aK ?_
      refine bl ?_
      refine oPe T hS 1 [31] [(32,I cU)] fun a hS=>?_
      obtain ⟨hq,hm⟩:=hm
      refine op1 (index (e:=102) (k:=.i64) T hS kr kr kr kr h126 kr kr hq.1 hq.2 ?_)
      intro I9 a h129 hS
      refine op1 (eD T hS kr kr kr h129 kr kr ?_)
      intro v130 a hv hS
      subst hv
      refine eM T hS ⟨[(0,Sl a1 l_ c1),(5,V (.map (some dX))),(6,I ce),(7,Pt 8 0),(8,I cU),(9,Pt 10 0),(11,Sl a2 ac c2),(12,I (lN ac)),(13,I ce),(28,Sl a1 l_ c1),(29,I (lN l_)),(30,I cU)],[(8,(56,(cK (gi ac ce)))),(10,(102,(cP (gi l_ cU))))]⟩ fun Z a Ab wF hS hE hr=>?_
      replace hO:=hO.m2 hE
      replace h123:=h123.m1 hE
      replace h124:=h124.m2 hE
      replace h125:=h125.m1 hE
      replace h126:=h126.m1 hE
      clear hE hr
      refine b5 (fun a w=>∃ (Z:Nat->Nat) (X:Nat->Nat) (fU:Bool),VC34_J4 Q ce I2 μ2 cU fU/\St Tryz.f34.ntmps ⟨[(0,Sl a1 l_ c1),(5,V (.map (some dX))),(6,I ce),(7,Pt 8 0),(11,Sl a2 ac c2),(12,I (lN ac)),(13,I ce),(28,Sl a1 l_ c1),(29,I (lN l_)),(30,I cU),(47,B fU)],[(8,(56,(cK (gi ac ce))))]⟩ Z a w X/\Old w0 X0 w X/\RS aq w X a1 l_ c1/\OM kI tI false w X 1011 dX ff/\RS au w X a2 ac c2/\RS aq w X a1 l_ c1) ?_ ?_
      ·refine hJ [8,10] mixed hS ?_
       intro r8 vi hS hE hD hH
       replace hO:=hO.m2 hE
       replace h123:=h123.m1 hE
       replace h124:=h124.m2 hE
       replace h125:=h125.m1 hE
       replace h126:=h126.m1 hE
       refine tke T [0,1,2,3] [8,10] hS hH #[true,true,true,true,false,false,false,false,false,false,false,false,false] 9 [9] [(35,V (.agg #[.int .i64 ((gi l_ cU).aj),.int .i64 ((gi l_ cU).Kind),.int .i64 ((gi l_ cU).aF),.int .i64 ((gi l_ cU).End),.int .i64 ((gi l_ cU).Result)])),(36,Sl a1 l_ c1),(38,I ((gi ac ce).Oper))] fun a hS=>?_
       obtain ⟨hq,hm⟩:=hm
       refine db (e:=102) (k:=.i64) T 4 hS kr kr kr (by rfl) kr hH kr kr h123 kr kr hq.1 hq.2 ?_
       intro Gt a h139 hS
       have xS:=h139.here
       refine jJ T 5 hS kr kr kr (by rfl) kr hH kr h139 xS kr kr ?_
       intro v140 a hv hS
       subst hv
       refine only 6 kr (by rfl) (call hS kr kr hb63 kr (fun _ _=>rfl) (wd _ _ (gi l_ cU) (gi l_ ((gi ac ce).Oper))) ?_)
       intro v141 a py q6 hE hp hS
       replace hO:=hO.m2 hE
       replace hD:=hD.ev hE rfl
       replace h123:=h123.m1 hE
       replace h124:=h124.m2 hE
       replace h125:=h125.m1 hE
       replace h126:=h126.m1 hE
       replace h139:=h139.m1 hE
       obtain ⟨f9,hr⟩:∃ r,bh (gi l_ cU) (gi l_ ((gi ac ce).Oper))=r:=⟨_,rfl⟩
       replace hm:=hm f9 hr
       rw [hr] at hp
       clear hr
       subst hp
       replace hS:=hS.sle [] [(41,B f9)]
       refine c8 (bJ.of hS (bks:=[8,10]) kr hD) ?_
       intro hH
       refine tke T [7] [8,10] hS hH #[true,true,true,true,true,true,true,true,false,false,false,false,false] 5 [35,36,38,39,40,41] [(42,B f9)] fun a hS=>?_
       rcases bft f9 with hb | hb
       ·replace hS:=hS.lit (t:=42) kr hb
        replace hm:=hm.1 hb
        refine tke T [8,9] [8,10] hS hH #[true,true,true,true,true,true,true,true,true,true,false,false,false] 3 [8] [(43,V (.map (some dX))),(44,I cU)] fun a hS=>?_
        refine only 10 kr (by rfl) (jC kI tI false (zv:=.int .i64 0) (z:=0) cU hS kr kr kr kr Tryz.underlying113 Tryz.underlying3 kr rfl h124 ?_)
        intro v145 a hv hS
        replace hv:tI.R _ _ [v145] _:=hv
        cases hv
        refine c8 (bJ.of hS (bks:=[8,10]) kr hD) ?_
        intro hH
        refine tke T [11,12] [8,10] hS hH (tts 13) 0 [42,43,44,45] [(47,B (((aC ff cU).getD 0) == 0))] fun a hS=>?_
        refine aU kr ?_
        replace hS:=hS.sl ⟨[(0,Sl a1 l_ c1),(5,V (.map (some dX))),(6,I ce),(7,Pt 8 0),(11,Sl a2 ac c2),(12,I (lN ac)),(13,I ce),(28,Sl a1 l_ c1),(29,I (lN l_)),(30,I cU),(47,B (((aC ff cU).getD 0) == 0))],[(8,(56,(cK (gi ac ce))))]⟩
        exact ⟨Z,_,(((aC ff cU).getD 0) == 0),hm,hS.sl _,hO,h123,h124,h125,h126⟩
       replace hS:=hS.lit (t:=42) kr hb
       replace hm:=hm.2 hb
       refine tke T [8,9,10,11,12] [8,10] hS hH (tts 13) 0 [8,42] [(47,B false)] fun a hS=>?_
       refine aU kr ?_
       replace hS:=hS.sl ⟨[(0,Sl a1 l_ c1),(5,V (.map (some dX))),(6,I ce),(7,Pt 8 0),(11,Sl a2 ac c2),(12,I (lN ac)),(13,I ce),(28,Sl a1 l_ c1),(29,I (lN l_)),(30,I cU),(47,B false)],[(8,(56,(cK (gi ac ce))))]⟩
       exact ⟨Z,_,false,hm,hS.sl _,hO,h123,h124,h125,h126⟩
      rintro a vy ⟨Z,zK,fU,hm,hS,hO,h131,h132,h133,h134⟩
      unfold VC34_J4 at hm
      refine aG hS (b:=fU) kr (fun hb=>?_) fun hb=>?_
      ·replace hm:=hm.1 hb
       refine rP T hS ⟨[(4,I ce)],[]⟩ fun a hS=>?_
       refine aV ?_
       exact fin T hS hO (fun c=>c) rfl (r:=[.int .i64 ce]) kr (fun X' hM hC=>⟨ce,hm,rfl⟩)
      replace hm:=hm.2 hb
      refine aJ ?_
      refine region (ePe T hS [47] [(30,I (wR (cU+1)))] fun a hS=>?_)
      exact ⟨wR (cU+1),⟨Z,_,hm.1,hS.sl _,hO,h131,h132,h133,h134⟩,hm.2⟩
     replace hm:=hm.2 hb
     refine cb (by rfl) ?_
     exact ⟨Z,_,hm,hS.sl _,hO,h123,h124,h125⟩
    rintro a z9 ⟨Z,wE,hm,hS,hO,h117,h118,h119⟩
    unfold VC34_J3 at hm
    refine region ?_
    refine oP T hS 3 ⟨[(0,Sl a1 l_ c1),(5,V (.map (some dX))),(11,Sl a2 ac c2),(12,I (lN ac)),(13,I ce),(50,V (.map (some dX))),(52,I ((gi ac ce).Oper))],[]⟩ fun a hS=>?_
    refine op1 (jC kI tI false (zv:=.int .i64 0) (z:=0) ((gi ac ce).Oper) hS kr kr kr kr Tryz.underlying113 Tryz.underlying3 kr rfl h118 ?_)
    intro v120 a hv hS
    replace hv:tI.R _ _ [v120] _:=hv
    cases hv
    refine oPe T hS 1 [53] [(54,I (wR (((aC ff ((gi ac ce).Oper)).getD 0)+1)))] fun a hS=>?_
    refine op1 (sN kI tI false (v:=I (wR (((aC ff ((gi ac ce).Oper)).getD 0)+1))) (u:=wR (((aC ff ((gi ac ce).Oper)).getD 0)+1)) ((gi ac ce).Oper) hS kr kr kr kr Tryz.underlying113 Tryz.underlying3 kr h118 rfl ?_)
    intro a vz hE h122 hS
    clear h118
    replace hO:=hO.m2 hE
    replace h117:=h117.m1 hE
    replace h119:=h119.m1 hE
    refine gA ?_
    exact ⟨Z,_,dj ff ((gi ac ce).Oper) (wR (((aC ff ((gi ac ce).Oper)).getD 0)+1)),hm,hS.sl _,hO,h117,h122,h119⟩
   rintro a yg ⟨Z,B4,dn,hm,hS,hO,h110,h112,h113⟩
   unfold VC34_J2 at hm
   refine region (ePe T hS [] [(13,I (wR (ce+1)))] fun a hS=>?_)
   exact ⟨⟨dn,wR (ce+1)⟩,⟨Z,_,hm.1,hS.sl _,hO,h110,h112,h113⟩,hm.2⟩
  replace hm:=hm.2 hb
  refine cb (by rfl) ?_
  exact ⟨Z,_,hm,hS.sl _,hO⟩
 rintro a G0 ⟨Z,DJ,hm,hS,hO⟩
 unfold VC34_J1 at hm
 refine rPe T hS [] [(4,I (-1))] fun a hS=>?_
 refine aV ?_
 exact fin T hS hO (fun c=>c) rfl (r:=[.int .i64 (-1)]) kr (fun X' hM hC=>⟨(-1),hm,rfl⟩)
theorem C34 (wd:S63) (v:∀ (l_:List ab) (ac:List aa),VC34 l_ ac (fun r=>r=cH l_ ac)):S34:=by
 intro w X l_ ac a1 c1 a2 c2   h1 h2
 refine (W34 wd w X l_ ac a1 c1 a2 c2   _ (v l_ ac) h1 h2).mono ?_
 rintro _ _ _ _ ⟨r,rfl,h⟩
 exact h
theorem W106 (w0) (X0) (o_:ab) (Q:Bool->Prop) (hm:VC106 o_ Q) :
  Ret Tryz.prog 106 #[.agg #[.int .i64 o_.aj,.int .i64 o_.Kind,.int .i64 o_.aF,.int .i64 o_.End,.int .i64 o_.Result]] aI w0 X0 (fun w X' v=>∃ r,Q r/\v=.bool r):=by
 unfold VC106 at hm
 refine enter Tryz.func106 rfl (vals:=[.agg #[.int .i64 o_.aj,.int .i64 o_.Kind,.int .i64 o_.aF,.int .i64 o_.End,.int .i64 o_.Result]]) kr ?_
 intro Z a hS hO hM
 refine rM T hS ⟨[(1,Pt 2 0)],[(2,(102,(cP o_)))]⟩ fun Z a nS oy hS hE hr=>?_
 replace hO:=hO.m2 hE
 clear hE hr
 refine bc ?_
 refine rPe T hS [] [(5,B (o_.End == (-1)))] fun a hS=>?_
 refine aG hS (b:=(o_.End == (-1))) kr (fun hb=>?_) fun hb=>?_
 ·replace hm:=hm.1 hb
  refine rP T hS ⟨[(2,B (o_.Result == (-1)))],[]⟩ fun a hS=>?_
  refine aV ?_
  exact fin T hS hO (fun c=>c) rfl (r:=[.bool (o_.Result == (-1))]) kr (fun X' hM hC=>⟨(o_.Result == (-1)),hm,rfl⟩)
 replace hm:=hm.2 hb
 refine aJ ?_
 refine rP T hS ⟨[(2,B ((((decide (o_.End > o_.aF)) && (decide (o_.End≤9999))) && (decide (o_.Result≥0))) && (decide (o_.Result≤1000000))))],[]⟩ (sp:=[14,19,24]) fun a hS=>?_
 refine aV ?_
 exact fin T hS hO (fun c=>c) rfl (r:=[.bool ((((decide (o_.End > o_.aF)) && (decide (o_.End≤9999))) && (decide (o_.Result≥0))) && (decide (o_.Result≤1000000)))]) kr (fun X' hM hC=>⟨((((decide (o_.End > o_.aF)) && (decide (o_.End≤9999))) && (decide (o_.Result≥0))) && (decide (o_.Result≤1000000))),hm,rfl⟩)
theorem C106 (v:∀ (o_:ab),VC106 o_ (fun r=>r=en o_)):S106:=by
 intro w X o_    
 refine (W106 w X o_    _ (v o_)).mono ?_
 rintro _ _ _ _ ⟨r,rfl,h⟩
 exact h
theorem W95 (FH:S106) (w0) (X0) (o_:ab) (Q:Int->Prop) (hm:VC95 o_ Q) :
  Ret Tryz.prog 95 #[.agg #[.int .i64 o_.aj,.int .i64 o_.Kind,.int .i64 o_.aF,.int .i64 o_.End,.int .i64 o_.Result]] aI w0 X0 (fun w X' v=>∃ r,Q r/\v=.int .i64 r):=by
 unfold VC95 at hm
 refine enter Tryz.func95 rfl (vals:=[.agg #[.int .i64 o_.aj,.int .i64 o_.Kind,.int .i64 o_.aF,.int .i64 o_.End,.int .i64 o_.Result]]) kr ?_
 intro Z a hS hO hM
 refine rM T hS ⟨[(1,Pt 2 0)],[(2,(102,(cP o_)))]⟩ fun Z a mE lB hS hE hr=>?_
 replace hO:=hO.m2 hE
 clear hE hr
 refine bc ?_
 refine aK ?_
 refine rPe T hS [] [(3,B ((((decide (o_.aj < 1)) || (decide (o_.aj > 1000))) || (decide (o_.aF < 0))) || (decide (o_.aF > 9999))))] (sp:=[7,12,17]) fun a hS=>?_
 refine aG hS (b:=((((decide (o_.aj < 1)) || (decide (o_.aj > 1000))) || (decide (o_.aF < 0))) || (decide (o_.aF > 9999)))) kr (fun hb=>?_) fun hb=>?_
 ·replace hm:=hm.1 hb
  refine rP T hS ⟨[(2,I 2)],[]⟩ fun a hS=>?_
  refine aV ?_
  exact fin T hS hO (fun c=>c) rfl (r:=[.int .i64 2]) kr (fun X' hM hC=>⟨2,hm,rfl⟩)
 replace hm:=hm.2 hb
 refine rPe T hS [3] [(22,B ((decide (o_.Kind < 0)) || (decide (o_.Kind≥64))))] (sp:=[26]) fun a hS=>?_
 refine aG hS (b:=((decide (o_.Kind < 0)) || (decide (o_.Kind≥64)))) kr (fun hb=>?_) fun hb=>?_
 ·replace hm:=hm.1 hb
  refine rP T hS ⟨[(2,I 31)],[]⟩ fun a hS=>?_
  refine aV ?_
  exact fin T hS hO (fun c=>c) rfl (r:=[.int .i64 31]) kr (fun X' hM hC=>⟨31,hm,rfl⟩)
 replace hm:=hm.2 hb
 refine bl ?_
 refine oP T hS 1 ⟨[(32,V (.agg #[.int .i64 o_.aj,.int .i64 o_.Kind,.int .i64 o_.aF,.int .i64 o_.End,.int .i64 o_.Result]))],[]⟩ fun a hS=>?_
 refine op1 (call hS kr kr hb106 kr (fun _ _=>rfl) (FH _ _ o_) ?_)
 intro v101 a eX e8 hE hp hS
 replace hO:=hO.m2 hE
 obtain ⟨am,hr⟩:∃ r,en o_=r:=⟨_,rfl⟩
 replace hm:=hm am hr
 rw [hr] at hp
 clear hr
 subst hp
 refine ePe T hS [32,33] [(31,B (!am))] fun a hS=>?_
 refine aG hS (b:=(!am)) kr (fun hb=>?_) fun hb=>?_
 ·replace hm:=hm.1 hb
  refine rPe T hS [31] [(2,I 7)] fun a hS=>?_
  refine aV ?_
  exact fin T hS hO (fun c=>c) rfl (r:=[.int .i64 7]) kr (fun X' hM hC=>⟨7,hm,rfl⟩)
 replace hm:=hm.2 hb
 refine aJ ?_
 refine rPe T hS [31] [(2,I 0)] fun a hS=>?_
 refine aV ?_
 exact fin T hS hO (fun c=>c) rfl (r:=[.int .i64 0]) kr (fun X' hM hC=>⟨0,hm,rfl⟩)
theorem C95 (FH:S106) (v:∀ (o_:ab),VC95 o_ (fun r=>r=df o_)):S95:=by
 intro w X o_    
 refine (W95 FH w X o_    _ (v o_)).mono ?_
 rintro _ _ _ _ ⟨r,rfl,h⟩
 exact h
theorem W80 (wd:S63) (Kd:S95) (w0) (X0) (l_:List ab) (a1) (c1) (Q:Int × Int->Prop) (hm:VC80 l_ Q) (h1:RS aq w0 X0 a1 l_ c1) :
  Ret Tryz.prog 80 #[.slice a1 l_.length c1] aI w0 X0 (fun w X' v=>∃ r,Q r/\v=.tuple #[.int .i64 r.1,.int .i64 r.2]):=by
 unfold VC80 at hm
 replace hm:=hm (h1.sm kr)
 refine enter Tryz.func80 rfl (vals:=[.slice a1 l_.length c1]) kr ?_
 intro Z a hS hO hM
 replace h1:=h1.m0 hM
 refine rPe T hS [] [] fun a hS=>?_
 refine bc ?_
 refine rPe T hS [] [(13,B (decide ((lN l_) > 5000)))] fun a hS=>?_
 refine aG hS (b:=decide ((lN l_) > 5000)) kr (fun hb=>?_) fun hb=>?_
 ·replace hm:=hm.1 hb
  refine rPe T hS [0,13] [(2,I 0),(3,I 3)] fun a hS=>?_
  refine aV ?_
  exact fin T hS hO (fun c=>c) rfl (r:=[.int .i64 0,.int .i64 3]) kr (fun X' hM hC=>⟨(0,3),hm,rfl⟩)
 replace hm:=hm.2 hb
 refine aJ ?_
 refine bl ?_
 refine op1 (oH kI tI false 1015 hS kr kr ?_)
 intro dX a eX e8 hE h104 hS
 replace hO:=hO.m2 hE
 replace h1:=h1.m1 hE
 refine ePe T hS [13,14] [(4,V (.map (some dX)))] fun a hS=>?_
 refine bl ?_
 refine op1 (oH kI aq true 1016 hS kr kr ?_)
 intro iE a mD mj hE h108 hS
 replace hO:=hO.m2 hE
 replace h1:=h1.m1 hE
 replace h104:=h104.m2 hE
 refine ePe T hS [15] [(5,V (.map (some iE)))] fun a hS=>?_
 refine b5 (fun a w=>∃ Z X,VC80_J1 l_ Q/\St Tryz.f80.ntmps ⟨[(0,Sl a1 l_ c1)],[]⟩ Z a w X/\Old w0 X0 w X/\RS aq w X a1 l_ c1) ?_ ?_
 ·refine rPe T hS [] [(16,Sl a1 l_ c1),(17,I (lN l_)),(18,I 0)] fun a hS=>?_
  refine aK ?_
  obtain ⟨I1,μ1,ci,hm⟩:=hm
  refine cg (σ:=(List (Int × Int)) × (List (Int × ab)) × Int) (fun s a w=>∃ Z X,I1 s.1 s.2.1 s.2.2/\St Tryz.f80.ntmps ⟨[(0,Sl a1 l_ c1),(4,V (.map (some dX))),(5,V (.map (some iE))),(16,Sl a1 l_ c1),(17,I (lN l_)),(18,I s.2.2)],[]⟩ Z a w X/\Old w0 X0 w X/\RS aq w X a1 l_ c1/\OM kI tI false w X 1015 dX s.1/\OM kI aq true w X 1016 iE s.2.1/\RS aq w X a1 l_ c1) (fun s=>μ1 s.1 s.2.1 s.2.2) (⟨([]:List (Int × Int)),([]:List (Int × ab)),0⟩) ?_ ?_
  ·exact ⟨Z,_,ci,hS.sl _,hO,h1,h104,h108,h1⟩
  rintro ⟨dn,bd,aY⟩ a GW ⟨Z,Gh,hI,hS,hO,h110,h112,h114,h115⟩
  replace hm:=hm dn bd aY hI
  clear hI ci
  refine rPe T hS [] [(19,B (decide (aY < (lN l_))))] fun a hS=>?_
  refine bc ?_
  refine aG hS (b:=decide (aY < (lN l_))) kr (fun hb=>?_) fun hb=>?_
  ·replace hm:=hm.1 hb
   refine aJ ?_
   refine b5 (fun a w=>∃ (Z:Nat->Nat) (X:Nat->Nat) (ji:List (Int × Int)),VC80_J2 l_ I1 μ1 dn bd aY ji/\St Tryz.f80.ntmps ⟨[(0,Sl a1 l_ c1),(4,V (.map (some dX))),(5,V (.map (some iE))),(16,Sl a1 l_ c1),(17,I (lN l_)),(18,I aY)],[]⟩ Z a w X/\Old w0 X0 w X/\RS aq w X a1 l_ c1/\OM kI tI false w X 1015 dX ji/\OM kI aq true w X 1016 iE (dj bd ((gi l_ aY).aj) (gi l_ aY))/\RS aq w X a1 l_ c1) ?_ ?_
   ·refine aK ?_
    refine bl ?_
    refine oPe T hS 1 [19] [(20,I aY)] fun a hS=>?_
    obtain ⟨hq,hm⟩:=hm
    refine op1 (index (e:=102) (k:=.i64) T hS kr kr kr kr h115 kr kr hq.1 hq.2 ?_)
    intro Cd a h123 hS
    refine op1 (eD T hS kr kr kr h123 kr kr ?_)
    intro v124 a hv hS
    subst hv
    refine eM T hS ⟨[(0,Sl a1 l_ c1),(4,V (.map (some dX))),(5,V (.map (some iE))),(6,I aY),(7,Pt 8 0),(16,Sl a1 l_ c1),(17,I (lN l_)),(18,I aY)],[(8,(102,(cP (gi l_ aY))))]⟩ fun Z a GX Mr hS hE hr=>?_
    replace hO:=hO.m2 hE
    replace h110:=h110.m1 hE
    replace h112:=h112.m2 hE
    replace h114:=h114.m2 hE
    replace h115:=h115.m1 hE
    clear hE hr
    refine bc ?_
    refine bl ?_
    refine oPe T hS 1 [] [(23,V (.agg #[.int .i64 ((gi l_ aY).aj),.int .i64 ((gi l_ aY).Kind),.int .i64 ((gi l_ aY).aF),.int .i64 ((gi l_ aY).End),.int .i64 ((gi l_ aY).Result)]))] fun a hS=>?_
    refine op1 (call hS kr kr hb95 kr (fun _ _=>rfl) (Kd _ _ (gi l_ aY)) ?_)
    intro v125 a r9 pc hE hp hS
    replace hO:=hO.m2 hE
    replace h110:=h110.m1 hE
    replace h112:=h112.m2 hE
    replace h114:=h114.m2 hE
    replace h115:=h115.m1 hE
    obtain ⟨bI,hr⟩:∃ r,df (gi l_ aY)=r:=⟨_,rfl⟩
    replace hm:=hm bI hr
    rw [hr] at hp
    clear hr
    subst hp
    refine ePe T hS [23,24] [(8,I bI)] fun a hS=>?_
    refine rPe T hS [] [(26,B (bI != 0))] fun a hS=>?_
    refine aG hS (b:=(bI != 0)) kr (fun hb=>?_) fun hb=>?_
    ·replace hm:=hm.1 hb
     refine rP T hS ⟨[(2,I aY),(3,I bI)],[]⟩ fun a hS=>?_
     refine aV ?_
     exact fin T hS hO (fun c=>c) rfl (r:=[.int .i64 aY,.int .i64 bI]) kr (fun X' hM hC=>⟨(aY,bI),hm,rfl⟩)
    replace hm:=hm.2 hb
    refine aJ (bc ?_)
    refine b5 (fun a w=>∃ (Z:Nat->Nat) (X:Nat->Nat) (ma:Bool),VC80_J3 l_ Q I1 μ1 dn bd aY ma/\St Tryz.f80.ntmps ⟨[(0,Sl a1 l_ c1),(4,V (.map (some dX))),(5,V (.map (some iE))),(6,I aY),(7,Pt 8 0),(16,Sl a1 l_ c1),(17,I (lN l_)),(18,I aY),(60,B ma)],[(8,(102,(cP (gi l_ aY))))]⟩ Z a w X/\Old w0 X0 w X/\RS aq w X a1 l_ c1/\OM kI tI false w X 1015 dX dn/\OM kI aq true w X 1016 iE bd/\RS aq w X a1 l_ c1) ?_ ?_
    ·refine hJ [8] mixed hS ?_
     intro G1 DK hS hE hD hH
     replace hO:=hO.m2 hE
     replace h110:=h110.m1 hE
     replace h112:=h112.m2 hE
     replace h114:=h114.m2 hE
     replace h115:=h115.m1 hE
     refine tke T [0,1,2] [8] hS hH #[true,true,true,false,false,false,false,false,false,false,false,false,false,false,false,false,false,false,false,false,false,false,false,false,false,false,false,false,false,false,false,false] 29 [] [(31,B (decide (aY > 0)))] fun a hS=>?_
     rcases bft (decide (aY > 0)) with hb | hb
     ·replace hS:=hS.lit (t:=31) kr hb
      replace hm:=hm.1 hb
      refine tke T [3,5,6,4,7] [8] hS hH #[true,true,true,true,true,true,true,true,false,false,false,false,false,false,false,false,false,false,false,false,false,false,false,false,false,false,false,false,false,false,false,false] 24 [] [(33,I ((gi l_ aY).aF)),(34,Sl a1 l_ c1),(36,I (wR (aY - 1)))] fun a hS=>?_
      obtain ⟨hq,hm⟩:=hm
      refine db (e:=102) (k:=.i64) T 8 hS kr kr kr (by rfl) kr hH kr kr h110 kr kr hq.1 hq.2 ?_
      intro Q6 a h159 hS
      have HP:=h159.here
      refine du (off:=2) (fsz:=1) (ft:=3) (TF:=tI) (y:=(gi l_ (wR (aY - 1))).aF) 9 T hS kr kr kr (by rfl) kr hH kr h159 kr kr kr (fun cs h=>oT h) ?_
      intro Q4 a h161 fy hS
      have EB:=HP
      rw [← fy] at EB
      clear fy
      refine dU T 10 hS kr kr kr (by rfl) kr hH kr h161 EB rfl kr ?_
      intro v162 a hv hS
      cases hv
      refine tke T [11,12,13] [8] hS hH #[true,true,true,true,true,true,true,true,true,true,true,true,true,true,false,false,false,false,false,false,false,false,false,false,false,false,false,false,false,false,false,false] 18 [31,33,34,36,37,38,39] [(42,B (decide (((gi l_ aY).aF)≤((gi l_ (wR (aY - 1))).aF))))] fun a hS=>?_
      rcases bft (decide (((gi l_ aY).aF)≤((gi l_ (wR (aY - 1))).aF))) with hb | hb
      ·replace hS:=hS.lit (t:=42) kr hb
       replace hm:=hm.1 hb
       refine tke T [14,15,16,17,18,19,20,21,22,23,24,25,26,27,28,29,30,31] [8] hS hH (tts 32) 0 [42] [(60,B true)] fun a hS=>?_
       refine aU kr ?_
       replace hS:=hS.sle [] []
       exact ⟨Z,_,true,hm,hS.sl _,hO,h110,h112,h114,h115⟩
      replace hS:=hS.lit (t:=42) kr hb
      replace hm:=hm.2 hb
      refine tke T [14,15,16] [8] hS hH #[true,true,true,true,true,true,true,true,true,true,true,true,true,true,true,true,true,false,false,false,false,false,false,false,false,false,false,false,false,false,false,false] 15 [] [(43,V (.map (some dX))),(45,I ((gi l_ aY).aF))] fun a hS=>?_
      refine only 17 kr (by rfl) (jC kI tI false (zv:=.int .i64 0) (z:=0) ((gi l_ aY).aF) hS kr kr kr kr Tryz.underlying113 Tryz.underlying3 kr rfl h112 ?_)
      intro v163 a hv hS
      replace hv:tI.R _ _ [v163] _:=hv
      cases hv
      refine c8 (bJ.of hS (bks:=[8]) kr hD) ?_
      intro hH
      refine tke T [18,19,20] [8] hS hH #[true,true,true,true,true,true,true,true,true,true,true,true,true,true,true,true,true,true,true,true,true,false,false,false,false,false,false,false,false,false,false,false] 11 [42,43,45,46] [(49,B (decide (((aC dn ((gi l_ aY).aF)).getD 0) > 0)))] fun a hS=>?_
      rcases bft (decide (((aC dn ((gi l_ aY).aF)).getD 0) > 0)) with hb | hb
      ·replace hS:=hS.lit (t:=49) kr hb
       replace hm:=hm.1 hb
       refine tke T [21,22,23,24,25,26,27,28,29,30,31] [8] hS hH (tts 32) 0 [49] [(60,B true)] fun a hS=>?_
       refine aU kr ?_
       replace hS:=hS.sle [] []
       exact ⟨Z,_,true,hm,hS.sl _,hO,h110,h112,h114,h115⟩
      replace hS:=hS.lit (t:=49) kr hb
      replace hm:=hm.2 hb
      refine tke T [21,22,23,24] [8] hS hH #[true,true,true,true,true,true,true,true,true,true,true,true,true,true,true,true,true,true,true,true,true,true,true,true,true,false,false,false,false,false,false,false] 7 [] [(53,B (decide (((gi l_ aY).End)≥0)))] fun a hS=>?_
      rcases bft (decide (((gi l_ aY).End)≥0)) with hb | hb
      ·replace hS:=hS.lit (t:=53) kr hb
       replace hm:=hm.1 hb
       refine tke T [25,26,27] [8] hS hH #[true,true,true,true,true,true,true,true,true,true,true,true,true,true,true,true,true,true,true,true,true,true,true,true,true,true,true,true,false,false,false,false] 4 [] [(54,V (.map (some dX))),(56,I ((gi l_ aY).End))] fun a hS=>?_
       refine only 28 kr (by rfl) (jC kI tI false (zv:=.int .i64 0) (z:=0) ((gi l_ aY).End) hS kr kr kr kr Tryz.underlying113 Tryz.underlying3 kr rfl h112 ?_)
       intro v164 a hv hS
       replace hv:tI.R _ _ [v164] _:=hv
       cases hv
       refine c8 (bJ.of hS (bks:=[8]) kr hD) ?_
       intro hH
       refine tke T [29,30,31] [8] hS hH (tts 32) 0 [49,53,54,56,57] [(60,B (decide (((aC dn ((gi l_ aY).End)).getD 0) > 0)))] fun a hS=>?_
       refine aU kr ?_
       replace hS:=hS.sle [] []
       exact ⟨Z,_,decide (((aC dn ((gi l_ aY).End)).getD 0) > 0),hm,hS.sl _,hO,h110,h112,h114,h115⟩
      replace hS:=hS.lit (t:=53) kr hb
      replace hm:=hm.2 hb
      refine tke T [25,26,27,28,29,30,31] [8] hS hH (tts 32) 0 [49,53] [(60,B false)] fun a hS=>?_
      refine aU kr ?_
      replace hS:=hS.sle [] []
      exact ⟨Z,_,false,hm,hS.sl _,hO,h110,h112,h114,h115⟩
     replace hS:=hS.lit (t:=31) kr hb
     replace hm:=hm.2 hb
     refine tke T [3,5,6,4,7,8,9,10,11,12,13,14,15,16] [8] hS hH #[true,true,true,true,true,true,true,true,true,true,true,true,true,true,true,true,true,false,false,false,false,false,false,false,false,false,false,false,false,false,false,false] 15 [31] [(42,B false),(43,V (.map (some dX))),(45,I ((gi l_ aY).aF))] fun a hS=>?_
     refine only 17 kr (by rfl) (jC kI tI false (zv:=.int .i64 0) (z:=0) ((gi l_ aY).aF) hS kr kr kr kr Tryz.underlying113 Tryz.underlying3 kr rfl h112 ?_)
     intro v165 a hv hS
     replace hv:tI.R _ _ [v165] _:=hv
     cases hv
     refine c8 (bJ.of hS (bks:=[8]) kr hD) ?_
     intro hH
     refine tke T [18,19,20] [8] hS hH #[true,true,true,true,true,true,true,true,true,true,true,true,true,true,true,true,true,true,true,true,true,false,false,false,false,false,false,false,false,false,false,false] 11 [42,43,45,46] [(49,B (decide (((aC dn ((gi l_ aY).aF)).getD 0) > 0)))] fun a hS=>?_
     rcases bft (decide (((aC dn ((gi l_ aY).aF)).getD 0) > 0)) with hb | hb
     ·replace hS:=hS.lit (t:=49) kr hb
      replace hm:=hm.1 hb
      refine tke T [21,22,23,24,25,26,27,28,29,30,31] [8] hS hH (tts 32) 0 [49] [(60,B true)] fun a hS=>?_
      refine aU kr ?_
      replace hS:=hS.sle [] []
      exact ⟨Z,_,true,hm,hS.sl _,hO,h110,h112,h114,h115⟩
     replace hS:=hS.lit (t:=49) kr hb
     replace hm:=hm.2 hb
     refine tke T [21,22,23,24] [8] hS hH #[true,true,true,true,true,true,true,true,true,true,true,true,true,true,true,true,true,true,true,true,true,true,true,true,true,false,false,false,false,false,false,false] 7 [] [(53,B (decide (((gi l_ aY).End)≥0)))] fun a hS=>?_
     rcases bft (decide (((gi l_ aY).End)≥0)) with hb | hb
     ·replace hS:=hS.lit (t:=53) kr hb
      replace hm:=hm.1 hb
      refine tke T [25,26,27] [8] hS hH #[true,true,true,true,true,true,true,true,true,true,true,true,true,true,true,true,true,true,true,true,true,true,true,true,true,true,true,true,false,false,false,false] 4 [] [(54,V (.map (some dX))),(56,I ((gi l_ aY).End))] fun a hS=>?_
      refine only 28 kr (by rfl) (jC kI tI false (zv:=.int .i64 0) (z:=0) ((gi l_ aY).End) hS kr kr kr kr Tryz.underlying113 Tryz.underlying3 kr rfl h112 ?_)
      intro v166 a hv hS
      replace hv:tI.R _ _ [v166] _:=hv
      cases hv
      refine c8 (bJ.of hS (bks:=[8]) kr hD) ?_
      intro hH
      refine tke T [29,30,31] [8] hS hH (tts 32) 0 [49,53,54,56,57] [(60,B (decide (((aC dn ((gi l_ aY).End)).getD 0) > 0)))] fun a hS=>?_
      refine aU kr ?_
      replace hS:=hS.sle [] []
      exact ⟨Z,_,decide (((aC dn ((gi l_ aY).End)).getD 0) > 0),hm,hS.sl _,hO,h110,h112,h114,h115⟩
     replace hS:=hS.lit (t:=53) kr hb
     replace hm:=hm.2 hb
     refine tke T [25,26,27,28,29,30,31] [8] hS hH (tts 32) 0 [49,53] [(60,B false)] fun a hS=>?_
     refine aU kr ?_
     replace hS:=hS.sle [] []
     exact ⟨Z,_,false,hm,hS.sl _,hO,h110,h112,h114,h115⟩
    rintro a Cw ⟨Z,IR,ma,hm,hS,hO,h129,h130,h131,h132⟩
    unfold VC80_J3 at hm
    refine aG hS (b:=ma) kr (fun hb=>?_) fun hb=>?_
    ·replace hm:=hm.1 hb
     refine rP T hS ⟨[(2,I aY),(3,I 32)],[]⟩ fun a hS=>?_
     refine aV ?_
     exact fin T hS hO (fun c=>c) rfl (r:=[.int .i64 aY,.int .i64 32]) kr (fun X' hM hC=>⟨(aY,32),hm,rfl⟩)
    replace hm:=hm.2 hb
    refine aJ (bc ?_)
    refine bl ?_
    refine oPe T hS 3 [60] [(63,V (.map (some iE))),(65,I ((gi l_ aY).aj))] fun a hS=>?_
    refine op1 (Fj kI aq true (zv:=.agg #[.int .i64 0,.int .i64 0,.int .i64 0,.int .i64 0,.int .i64 0]) (z:=(⟨0,0,0,0,0⟩:ab)) ((gi l_ aY).aj) hS kr kr kr kr Tryz.underlying153 Tryz.underlying3 kr ⟨_,rfl,rfl⟩ h131 ?_)
    intro v134 a hv hS
    obtain ⟨_,rfl,hv⟩:=hv
    cases hv
    refine eM T hS ⟨[(0,Sl a1 l_ c1),(4,V (.map (some dX))),(5,V (.map (some iE))),(6,I aY),(7,Pt 8 0),(9,Pt 10 0),(10,B ((aC bd ((gi l_ aY).aj)).isSome)),(16,Sl a1 l_ c1),(17,I (lN l_)),(18,I aY)],[(8,(102,(cP (gi l_ aY)))),(10,(102,(cP ((aC bd ((gi l_ aY).aj)).getD (⟨0,0,0,0,0⟩:ab)))))]⟩ fun Z a r6 wD hS hE hr=>?_
    replace hO:=hO.m2 hE
    replace h129:=h129.m1 hE
    replace h130:=h130.m2 hE
    replace h131:=h131.m2 hE
    replace h132:=h132.m1 hE
    clear hE hr
    refine b5 (fun a w=>∃ (Z:Nat->Nat) (X:Nat->Nat) (jh:Bool),VC80_J4 l_ Q I1 μ1 dn bd aY jh/\St Tryz.f80.ntmps ⟨[(0,Sl a1 l_ c1),(4,V (.map (some dX))),(5,V (.map (some iE))),(6,I aY),(7,Pt 8 0),(16,Sl a1 l_ c1),(17,I (lN l_)),(18,I aY),(75,B jh)],[(8,(102,(cP (gi l_ aY))))]⟩ Z a w X/\Old w0 X0 w X/\RS aq w X a1 l_ c1/\OM kI tI false w X 1015 dX dn/\OM kI aq true w X 1016 iE bd/\RS aq w X a1 l_ c1) ?_ ?_
    ·refine region ?_
     refine oPe T hS 2 [10] [(70,B ((aC bd ((gi l_ aY).aj)).isSome))] fun a hS=>?_
     rcases bft ((aC bd ((gi l_ aY).aj)).isSome) with hb | hb
     ·replace hS:=hS.lit (t:=70) kr hb
      replace hm:=hm.1 hb
      refine oP T hS 2 ⟨[(0,Sl a1 l_ c1),(4,V (.map (some dX))),(5,V (.map (some iE))),(6,I aY),(7,Pt 8 0),(16,Sl a1 l_ c1),(17,I (lN l_)),(18,I aY),(70,B true),(71,V (.agg #[.int .i64 (((aC bd ((gi l_ aY).aj)).getD (⟨0,0,0,0,0⟩:ab)).aj),.int .i64 (((aC bd ((gi l_ aY).aj)).getD (⟨0,0,0,0,0⟩:ab)).Kind),.int .i64 (((aC bd ((gi l_ aY).aj)).getD (⟨0,0,0,0,0⟩:ab)).aF),.int .i64 (((aC bd ((gi l_ aY).aj)).getD (⟨0,0,0,0,0⟩:ab)).End),.int .i64 (((aC bd ((gi l_ aY).aj)).getD (⟨0,0,0,0,0⟩:ab)).Result)])),(72,V (.agg #[.int .i64 ((gi l_ aY).aj),.int .i64 ((gi l_ aY).Kind),.int .i64 ((gi l_ aY).aF),.int .i64 ((gi l_ aY).End),.int .i64 ((gi l_ aY).Result)]))],[(8,(102,(cP (gi l_ aY))))]⟩ fun a hS=>?_
      refine op1 (call hS kr kr hb63 kr (fun _ _=>rfl) (wd _ _ ((aC bd ((gi l_ aY).aj)).getD (⟨0,0,0,0,0⟩:ab)) (gi l_ aY)) ?_)
      intro v148 a EX Gm hE hp hS
      replace hO:=hO.m2 hE
      replace h129:=h129.m1 hE
      replace h130:=h130.m2 hE
      replace h131:=h131.m2 hE
      replace h132:=h132.m1 hE
      obtain ⟨nY,hr⟩:∃ r,bh ((aC bd ((gi l_ aY).aj)).getD (⟨0,0,0,0,0⟩:ab)) (gi l_ aY)=r:=⟨_,rfl⟩
      replace hm:=hm nY hr
      rw [hr] at hp
      clear hr
      subst hp
      refine ePe T hS [70,71,72,73] [(75,B (!nY))] fun a hS=>?_
      exact ⟨Z,_,(!nY),hm,hS.sl _,hO,h129,h130,h131,h132⟩
     replace hS:=hS.lit (t:=70) kr hb
     replace hm:=hm.2 hb
     refine eP T hS ⟨[(0,Sl a1 l_ c1),(4,V (.map (some dX))),(5,V (.map (some iE))),(6,I aY),(7,Pt 8 0),(16,Sl a1 l_ c1),(17,I (lN l_)),(18,I aY),(75,B false)],[(8,(102,(cP (gi l_ aY))))]⟩ fun a hS=>?_
     exact ⟨Z,_,false,hm,hS.sl _,hO,h129,h130,h131,h132⟩
    rintro a z9 ⟨Z,wE,jh,hm,hS,hO,h135,h136,h137,h138⟩
    unfold VC80_J4 at hm
    refine aG hS (b:=jh) kr (fun hb=>?_) fun hb=>?_
    ·replace hm:=hm.1 hb
     refine rP T hS ⟨[(2,I aY),(3,I 33)],[]⟩ fun a hS=>?_
     refine aV ?_
     exact fin T hS hO (fun c=>c) rfl (r:=[.int .i64 aY,.int .i64 33]) kr (fun X' hM hC=>⟨(aY,33),hm,rfl⟩)
    replace hm:=hm.2 hb
    refine aJ ?_
    refine bl ?_
    refine oPe T hS 3 [6,75] [(77,V (.map (some dX))),(79,I ((gi l_ aY).aF))] fun a hS=>?_
    refine op1 (jC kI tI false (zv:=.int .i64 0) (z:=0) ((gi l_ aY).aF) hS kr kr kr kr Tryz.underlying113 Tryz.underlying3 kr rfl h136 ?_)
    intro v140 a hv hS
    replace hv:tI.R _ _ [v140] _:=hv
    cases hv
    refine oPe T hS 1 [80] [(81,I (wR (((aC dn ((gi l_ aY).aF)).getD 0)+1)))] fun a hS=>?_
    refine op1 (sN kI tI false (v:=I (wR (((aC dn ((gi l_ aY).aF)).getD 0)+1))) (u:=wR (((aC dn ((gi l_ aY).aF)).getD 0)+1)) ((gi l_ aY).aF) hS kr kr kr kr Tryz.underlying113 Tryz.underlying3 kr h136 rfl ?_)
    intro a Ob hE h142 hS
    clear h136
    replace hO:=hO.m2 hE
    replace h135:=h135.m1 hE
    replace h137:=h137.m2 hE
    replace h138:=h138.m1 hE
    refine gA ?_
    refine bl ?_
    refine oPe T hS 4 [] [(82,V (.map (some iE))),(84,I ((gi l_ aY).aj)),(85,V (.agg #[.int .i64 ((gi l_ aY).aj),.int .i64 ((gi l_ aY).Kind),.int .i64 ((gi l_ aY).aF),.int .i64 ((gi l_ aY).End),.int .i64 ((gi l_ aY).Result)]))] fun a hS=>?_
    refine op1 (sN kI aq true (v:=V (.agg #[.int .i64 ((gi l_ aY).aj),.int .i64 ((gi l_ aY).Kind),.int .i64 ((gi l_ aY).aF),.int .i64 ((gi l_ aY).End),.int .i64 ((gi l_ aY).Result)])) (u:=(gi l_ aY)) ((gi l_ aY).aj) hS kr kr kr kr Tryz.underlying153 Tryz.underlying3 kr h137 ⟨_,rfl,rfl⟩ ?_)
    intro a EY hE h144 hS
    clear h137
    replace hO:=hO.m2 hE
    replace h135:=h135.m1 hE
    replace h138:=h138.m1 hE
    replace h142:=h142.m2 hE
    refine gA ?_
    refine rPe T hS [] [(88,B (decide (((gi l_ aY).End)≥0)))] fun a hS=>?_
    refine aG hS (b:=decide (((gi l_ aY).End)≥0)) kr (fun hb=>?_) fun hb=>?_
    ·replace hm:=hm.1 hb
     refine region ?_
     refine oP T hS 3 ⟨[(0,Sl a1 l_ c1),(4,V (.map (some dX))),(5,V (.map (some iE))),(16,Sl a1 l_ c1),(17,I (lN l_)),(18,I aY),(89,V (.map (some dX))),(91,I ((gi l_ aY).End))],[]⟩ fun a hS=>?_
     refine op1 (jC kI tI false (zv:=.int .i64 0) (z:=0) ((gi l_ aY).End) hS kr kr kr kr Tryz.underlying113 Tryz.underlying3 kr rfl h142 ?_)
     intro v145 a hv hS
     replace hv:tI.R _ _ [v145] _:=hv
     cases hv
     refine oPe T hS 1 [92] [(93,I (wR (((aC (dj dn ((gi l_ aY).aF) (wR (((aC dn ((gi l_ aY).aF)).getD 0)+1))) ((gi l_ aY).End)).getD 0)+1)))] fun a hS=>?_
     refine op1 (sN kI tI false (v:=I (wR (((aC (dj dn ((gi l_ aY).aF) (wR (((aC dn ((gi l_ aY).aF)).getD 0)+1))) ((gi l_ aY).End)).getD 0)+1))) (u:=wR (((aC (dj dn ((gi l_ aY).aF) (wR (((aC dn ((gi l_ aY).aF)).getD 0)+1))) ((gi l_ aY).End)).getD 0)+1)) ((gi l_ aY).End) hS kr kr kr kr Tryz.underlying113 Tryz.underlying3 kr h142 rfl ?_)
     intro a CA hE h147 hS
     clear h142
     replace hO:=hO.m2 hE
     replace h135:=h135.m1 hE
     replace h138:=h138.m1 hE
     replace h144:=h144.m2 hE
     refine gA ?_
     exact ⟨Z,_,dj (dj dn ((gi l_ aY).aF) (wR (((aC dn ((gi l_ aY).aF)).getD 0)+1))) ((gi l_ aY).End) (wR (((aC (dj dn ((gi l_ aY).aF) (wR (((aC dn ((gi l_ aY).aF)).getD 0)+1))) ((gi l_ aY).End)).getD 0)+1)),hm,hS.sl _,hO,h135,h147,h144,h138⟩
    replace hm:=hm.2 hb
    refine aJ ?_
    exact ⟨Z,_,dj dn ((gi l_ aY).aF) (wR (((aC dn ((gi l_ aY).aF)).getD 0)+1)),hm,hS.sl _,hO,h135,h142,h144,h138⟩
   rintro a ES ⟨Z,Mq,ji,hm,hS,hO,h117,h119,h120,h121⟩
   unfold VC80_J2 at hm
   refine region (ePe T hS [] [(18,I (wR (aY+1)))] fun a hS=>?_)
   exact ⟨⟨ji,dj bd ((gi l_ aY).aj) (gi l_ aY),wR (aY+1)⟩,⟨Z,_,hm.1,hS.sl _,hO,h117,h119,h120,h121⟩,hm.2⟩
  replace hm:=hm.2 hb
  refine cb (by rfl) ?_
  exact ⟨Z,_,hm,hS.sl _,hO,h110⟩
 rintro a N9 ⟨Z,Mp,hm,hS,hO,h109⟩
 unfold VC80_J1 at hm
 refine rPe T hS [0] [(2,I (lN l_)),(3,I 0)] fun a hS=>?_
 refine aV ?_
 exact fin T hS hO (fun c=>c) rfl (r:=[.int .i64 (lN l_),.int .i64 0]) kr (fun X' hM hC=>⟨((lN l_),0),hm,rfl⟩)
theorem C80 (wd:S63) (Kd:S95) (v:∀ (l_:List ab),VC80 l_ (fun r=>r=cQ l_)):S80:=by
 intro w X l_ a1 c1   h1
 refine (W80 wd Kd w X l_ a1 c1   _ (v l_) h1).mono ?_
 rintro _ _ _ _ ⟨r,rfl,h⟩
 exact h
theorem W51 (FA:S33) (Fz:S34) (Fy:S35) (sR:S53) (Fq:S80) (w0) (X0) (o_:ah) (l_:List ab) (ac:List aa) (a1) (c1) (a2) (c2) (a3) (c3) (Q:Int × Int->Prop) (hm:VC51 o_ l_ ac Q) (h1:RS az w0 X0 a1 o_.Rows c1) (h2:RS aq w0 X0 a2 l_ c2) (h3:RS au w0 X0 a3 ac c3) :
  Ret Tryz.prog 51 #[.agg #[.int .i64 o_.ar,.int .i64 o_.aw,.int .i64 o_.aE,.slice a1 o_.Rows.length c1],.slice a2 l_.length c2,.slice a3 ac.length c3] aI w0 X0 (fun w X' v=>∃ r,Q r/\v=.tuple #[.int .i64 r.1,.int .i64 r.2]):=by
 unfold VC51 at hm
 replace hm:=hm (h1.sm kr)
 replace hm:=hm (h2.sm kr)
 replace hm:=hm (h3.sm kr)
 refine enter Tryz.func51 rfl (vals:=[.agg #[.int .i64 o_.ar,.int .i64 o_.aw,.int .i64 o_.aE,.slice a1 o_.Rows.length c1],.slice a2 l_.length c2,.slice a3 ac.length c3]) kr ?_
 intro Z a hS hO hM
 replace h1:=h1.m0 hM
 replace h2:=h2.m0 hM
 replace h3:=h3.m0 hM
 refine rM T hS ⟨[(1,Sl a2 l_ c2),(2,Sl a3 ac c3),(3,Pt 4 0)],[(4,(48,(cO o_ a1 c1)))]⟩ fun Z a tB B7 hS hE hr=>?_
 replace hO:=hO.m2 hE
 replace h1:=h1.m1 hE
 replace h2:=h2.m1 hE
 replace h3:=h3.m1 hE
 clear hE hr
 refine bl ?_
 refine oPe T hS 1 [] [(18,V (.agg #[.int .i64 o_.ar,.int .i64 o_.aw,.int .i64 o_.aE,.slice a1 o_.Rows.length c1]))] fun a hS=>?_
 obtain ⟨hq,hm⟩:=hm
 refine op1 (call hS kr kr hb53 kr (fun _ _=>rfl) (sR _ _ o_ a1 c1 hq h1) ?_)
 intro v101 a eX e8 hE hp hS
 replace hO:=hO.m2 hE
 replace h1:=h1.m1 hE
 replace h2:=h2.m1 hE
 replace h3:=h3.m1 hE
 obtain ⟨am,hr⟩:∃ r,br o_=r:=⟨_,rfl⟩
 replace hm:=hm am hr
 rw [hr] at hp
 clear hr
 subst hp
 refine ePe T hS [18,19] [(9,I am.2)] fun a hS=>?_
 refine bl ?_
 refine oPe T hS 1 [] [(23,Sl a2 l_ c2)] fun a hS=>?_
 refine op1 (call hS kr kr hb80 kr (fun _ _=>rfl) (Fq _ _ l_ a2 c2 h2) ?_)
 intro v105 a mD mj hE hp hS
 replace hO:=hO.m2 hE
 replace h1:=h1.m1 hE
 replace h2:=h2.m1 hE
 replace h3:=h3.m1 hE
 obtain ⟨aZ,hr⟩:∃ r,cQ l_=r:=⟨_,rfl⟩
 replace hm:=hm aZ hr
 rw [hr] at hp
 clear hr
 subst hp
 refine ePe T hS [23,24] [(11,I aZ.2)] fun a hS=>?_
 refine bc ?_
 refine rPe T hS [9,11] [(32,B ((am.2 != 0) || (aZ.2 != 0)))] (sp:=[29]) fun a hS=>?_
 refine aG hS (b:=((am.2 != 0) || (aZ.2 != 0))) kr (fun hb=>?_) fun hb=>?_
 ·replace hm:=hm.1 hb
  refine rP T hS ⟨[(6,I (-1)),(7,I 2)],[]⟩ fun a hS=>?_
  refine aV ?_
  exact fin T hS hO (fun c=>c) rfl (r:=[.int .i64 (-1),.int .i64 2]) kr (fun X' hM hC=>⟨((-1),2),hm,rfl⟩)
 replace hm:=hm.2 hb
 refine aJ (bc ?_)
 refine bl ?_
 refine oP T hS 3 ⟨[(1,Sl a2 l_ c2),(2,Sl a3 ac c3),(34,V (.agg #[.int .i64 o_.ar,.int .i64 o_.aw,.int .i64 o_.aE,.slice a1 o_.Rows.length c1])),(35,Sl a2 l_ c2),(36,Sl a3 ac c3)],[]⟩ fun a hS=>?_
 obtain ⟨hq,hm⟩:=hm
 refine op1 (call hS kr kr hb33 kr (fun _ _=>rfl) (FA _ _ o_ l_ ac a1 c1 a2 c2 a3 c3 hq h1 h2 h3) ?_)
 intro v109 a E3 Gr hE hp hS
 replace hO:=hO.m2 hE
 replace h1:=h1.m1 hE
 replace h2:=h2.m1 hE
 replace h3:=h3.m1 hE
 obtain ⟨bH,hr⟩:∃ r,cC o_ l_ ac=r:=⟨_,rfl⟩
 replace hm:=hm bH hr
 rw [hr] at hp
 clear hr
 subst hp
 refine ePe T hS [34,35,36,37] [(13,I bH.2.1),(14,I bH.2.2)] fun a hS=>?_
 refine rPe T hS [] [(42,B (bH.2.2 != 0))] fun a hS=>?_
 refine aG hS (b:=(bH.2.2 != 0)) kr (fun hb=>?_) fun hb=>?_
 ·replace hm:=hm.1 hb
  refine rPe T hS [1,2,13,14,42] [(6,I bH.2.1),(7,I bH.2.2)] fun a hS=>?_
  refine aV ?_
  exact fin T hS hO (fun c=>c) rfl (r:=[.int .i64 bH.2.1,.int .i64 bH.2.2]) kr (fun X' hM hC=>⟨(bH.2.1,bH.2.2),hm,rfl⟩)
 replace hm:=hm.2 hb
 refine aJ (bc ?_)
 refine bl ?_
 refine oPe T hS 2 [13,14,42] [(45,Sl a2 l_ c2),(46,Sl a3 ac c3)] fun a hS=>?_
 refine op1 (call hS kr kr hb34 kr (fun _ _=>rfl) (Fz _ _ l_ ac a2 c2 a3 c3 h2 h3) ?_)
 intro v113 a G3 Gq hE hp hS
 replace hO:=hO.m2 hE
 replace h2:=h2.m1 hE
 replace h3:=h3.m1 hE
 obtain ⟨oZ,hr⟩:∃ r,cH l_ ac=r:=⟨_,rfl⟩
 replace hm:=hm oZ hr
 rw [hr] at hp
 clear hr
 subst hp
 refine ePe T hS [45,46,47] [(15,I oZ)] fun a hS=>?_
 refine rPe T hS [] [(49,B (decide (oZ≥0)))] fun a hS=>?_
 refine aG hS (b:=decide (oZ≥0)) kr (fun hb=>?_) fun hb=>?_
 ·replace hm:=hm.1 hb
  refine rPe T hS [1,2,15,49] [(6,I oZ),(7,I 42)] fun a hS=>?_
  refine aV ?_
  exact fin T hS hO (fun c=>c) rfl (r:=[.int .i64 oZ,.int .i64 42]) kr (fun X' hM hC=>⟨(oZ,42),hm,rfl⟩)
 replace hm:=hm.2 hb
 refine aJ (bc ?_)
 refine bl ?_
 refine oPe T hS 2 [1,15,49] [(51,Sl a2 l_ c2),(52,Sl a3 ac c3)] fun a hS=>?_
 obtain ⟨hq,hm⟩:=hm
 refine op1 (call hS kr kr hb35 kr (fun _ _=>rfl) (Fy _ _ l_ ac a2 c2 a3 c3 hq h2 h3) ?_)
 intro v117 a Ae B9 hE hp hS
 replace hO:=hO.m2 hE
 replace h2:=h2.m1 hE
 replace h3:=h3.m1 hE
 obtain ⟨mi,mf,hp,h123⟩:=hp
 obtain ⟨jy,hr⟩:∃ r,bZ l_ ac=r:=⟨_,rfl⟩
 replace hm:=hm jy hr
 rw [hr] at hp h123
 clear hr
 subst hp
 replace hm:=hm (h123.sm kr)
 refine ePe T hS [51,52,53] [(16,Sl mi jy mf)] fun a hS=>?_
 refine rPe T hS [] [(56,B (decide ((lN jy) > 0)))] fun a hS=>?_
 refine aG hS (b:=decide ((lN jy) > 0)) kr (fun hb=>?_) fun hb=>?_
 ·replace hm:=hm.1 hb
  refine bl ?_
  refine oPe T hS 1 [2,16,56] [(57,Sl mi jy mf)] fun a hS=>?_
  obtain ⟨hq,hm⟩:=hm
  refine op1 (index (e:=3) (k:=.i64) T hS kr kr kr kr h123 kr kr hq.1 hq.2 ?_)
  intro DQ a h125 hS
  refine op1 (dL T hS kr kr kr h125 rfl kr ?_)
  intro v126 a hv hS
  cases hv
  refine ePe T hS [57,58,59] [(6,I (gi jy 0)),(7,I 41)] fun a hS=>?_
  refine aV ?_
  exact fin T hS hO (fun c=>c) rfl (r:=[.int .i64 (gi jy 0),.int .i64 41]) kr (fun X' hM hC=>⟨(gi jy 0,41),hm,rfl⟩)
 replace hm:=hm.2 hb
 refine aJ ?_
 refine rPe T hS [2,16,56] [(6,I (lN ac)),(7,I 0)] fun a hS=>?_
 refine aV ?_
 exact fin T hS hO (fun c=>c) rfl (r:=[.int .i64 (lN ac),.int .i64 0]) kr (fun X' hM hC=>⟨((lN ac),0),hm,rfl⟩)
theorem C51 (FA:S33) (Fz:S34) (Fy:S35) (sR:S53) (Fq:S80) (v:∀ (o_:ah) (l_:List ab) (ac:List aa),kE o_ l_ ac->VC51 o_ l_ ac (fun r=>r=eE o_ l_ ac)):S51:=by
 intro w X o_ l_ ac a1 c1 a2 c2 a3 c3   hp h1 h2 h3
 refine (W51 FA Fz Fy sR Fq w X o_ l_ ac a1 c1 a2 c2 a3 c3   _ (v o_ l_ ac hp) h1 h2 h3).mono ?_
 rintro _ _ _ _ ⟨r,rfl,h⟩
 exact h
theorem W20 (KD:S51) (w0) (X0) (o_:ah) (l_:List ab) (ac:List aa) (a1) (c1) (a2) (c2) (a3) (c3) (Q:Bool->Prop) (hm:VC20 o_ l_ ac Q) (h1:RS az w0 X0 a1 o_.Rows c1) (h2:RS aq w0 X0 a2 l_ c2) (h3:RS au w0 X0 a3 ac c3) :
  Ret Tryz.prog 20 #[.agg #[.int .i64 o_.ar,.int .i64 o_.aw,.int .i64 o_.aE,.slice a1 o_.Rows.length c1],.slice a2 l_.length c2,.slice a3 ac.length c3] aI w0 X0 (fun w X' v=>∃ r,Q r/\v=.bool r):=by
 unfold VC20 at hm
 replace hm:=hm (h1.sm kr)
 replace hm:=hm (h2.sm kr)
 replace hm:=hm (h3.sm kr)
 refine enter Tryz.func20 rfl (vals:=[.agg #[.int .i64 o_.ar,.int .i64 o_.aw,.int .i64 o_.aE,.slice a1 o_.Rows.length c1],.slice a2 l_.length c2,.slice a3 ac.length c3]) kr ?_
 intro Z a hS hO hM
 replace h1:=h1.m0 hM
 replace h2:=h2.m0 hM
 replace h3:=h3.m0 hM
 refine rM T hS ⟨[(1,Sl a2 l_ c2),(2,Sl a3 ac c3),(3,Pt 4 0)],[(4,(48,(cO o_ a1 c1)))]⟩ fun Z a mE lB hS hE hr=>?_
 replace hO:=hO.m2 hE
 replace h1:=h1.m1 hE
 replace h2:=h2.m1 hE
 replace h3:=h3.m1 hE
 clear hE hr
 refine bl ?_
 refine oP T hS 3 ⟨[(10,V (.agg #[.int .i64 o_.ar,.int .i64 o_.aw,.int .i64 o_.aE,.slice a1 o_.Rows.length c1])),(11,Sl a2 l_ c2),(12,Sl a3 ac c3)],[]⟩ fun a hS=>?_
 obtain ⟨hq,hm⟩:=hm
 refine op1 (call hS kr kr hb51 kr (fun _ _=>rfl) (KD _ _ o_ l_ ac a1 c1 a2 c2 a3 c3 hq h1 h2 h3) ?_)
 intro v101 a eX e8 hE hp hS
 replace hO:=hO.m2 hE
 replace h1:=h1.m1 hE
 replace h2:=h2.m1 hE
 replace h3:=h3.m1 hE
 obtain ⟨am,hr⟩:∃ r,eE o_ l_ ac=r:=⟨_,rfl⟩
 replace hm:=hm am hr
 rw [hr] at hp
 clear hr
 subst hp
 refine ePe T hS [10,11,12,13] [(8,I am.2)] fun a hS=>?_
 refine rPe T hS [8] [(6,B (am.2 == 0))] fun a hS=>?_
 refine aV ?_
 exact fin T hS hO (fun c=>c) rfl (r:=[.bool (am.2 == 0)]) kr (fun X' hM hC=>⟨(am.2 == 0),hm,rfl⟩)
theorem C20 (KD:S51) (v:∀ (o_:ah) (l_:List ab) (ac:List aa),kE o_ l_ ac->VC20 o_ l_ ac (fun r=>r=dh o_ l_ ac)):S20:=by
 intro w X o_ l_ ac a1 c1 a2 c2 a3 c3   hp h1 h2 h3
 refine (W20 KD w X o_ l_ ac a1 c1 a2 c2 a3 c3   _ (v o_ l_ ac hp) h1 h2 h3).mono ?_
 rintro _ _ _ _ ⟨r,rfl,h⟩
 exact h
theorem W66 (w0) (X0) (ac:List aa) (i_:Int) (a1) (c1) (Q:Int->Prop) (hm:VC66 ac i_ Q) (h1:RS au w0 X0 a1 ac c1) :
  Ret Tryz.prog 66 #[.slice a1 ac.length c1,.int .i64 i_] aI w0 X0 (fun w X' v=>∃ r,Q r/\v=.int .i64 r):=by
 unfold VC66 at hm
 replace hm:=hm (h1.sm kr)
 refine enter Tryz.func66 rfl (vals:=[.slice a1 ac.length c1,.int .i64 i_]) kr ?_
 intro Z a hS hO hM
 replace h1:=h1.m0 hM
 refine rPe T hS [] [] fun a hS=>?_
 refine b5 (fun a w=>∃ Z X,VC66_J1 Q/\St Tryz.f66.ntmps ⟨[],[]⟩ Z a w X/\Old w0 X0 w X) ?_ ?_
 ·refine rPe T hS [] [(5,I 0)] fun a hS=>?_
  refine aK ?_
  obtain ⟨I1,μ1,ci,hm⟩:=hm
  refine cg (σ:=Int) (fun s a w=>∃ Z X,I1 s/\St Tryz.f66.ntmps ⟨[(0,Sl a1 ac c1),(1,I i_),(5,I s)],[]⟩ Z a w X/\Old w0 X0 w X/\RS au w X a1 ac c1) (fun s=>μ1 s) (0) ?_ ?_
  ·exact ⟨Z,_,ci,hS.sl _,hO,h1⟩
  rintro bu a pz ⟨Z,pd,hI,hS,hO,h101⟩
  replace hm:=hm bu hI
  clear hI ci
  refine bc ?_
  refine rPe T hS [] [(9,B (decide (bu < (lN ac))))] fun a hS=>?_
  refine aG hS (b:=decide (bu < (lN ac))) kr (fun hb=>?_) fun hb=>?_
  ·replace hm:=hm.1 hb
   refine aJ (bc ?_)
   refine aK ?_
   refine bl ?_
   refine oPe T hS 2 [9] [(12,Sl a1 ac c1),(13,I bu)] fun a hS=>?_
   obtain ⟨hq,hm⟩:=hm
   refine op1 (index (e:=56) (k:=.i64) T hS kr kr kr kr h101 kr kr hq.1 hq.2 ?_)
   intro tv a h104 hS
   refine op1 (e7 (off:=0) (fsz:=1) (ft:=3) (TF:=tI) (y:=(gi ac bu).Oper) T hS kr kr kr h104 kr kr kr (fun cs h=>gF h) ?_)
   intro wL a h106 hS
   refine op1 (dL T hS kr kr kr h106 rfl kr ?_)
   intro v107 a hv hS
   cases hv
   refine ePe T hS [12,13,14,15,16] [(18,B (((gi ac bu).Oper) == i_))] fun a hS=>?_
   refine aG hS (b:=(((gi ac bu).Oper) == i_)) kr (fun hb=>?_) fun hb=>?_
   ·replace hm:=hm.1 hb
    refine rPe T hS [0,1,5,18] [(4,I bu)] fun a hS=>?_
    refine aV ?_
    exact fin T hS hO (fun c=>c) rfl (r:=[.int .i64 bu]) kr (fun X' hM hC=>⟨bu,hm,rfl⟩)
   replace hm:=hm.2 hb
   refine aJ ?_
   refine region (ePe T hS [18] [(5,I (wR (bu+1)))] fun a hS=>?_)
   exact ⟨wR (bu+1),⟨Z,_,hm.1,hS.sl _,hO,h101⟩,hm.2⟩
  replace hm:=hm.2 hb
  refine cb (by rfl) ?_
  exact ⟨Z,_,hm,hS.sl _,hO⟩
 rintro a CD ⟨Z,q8,hm,hS,hO⟩
 unfold VC66_J1 at hm
 refine rPe T hS [] [(4,I (-1))] fun a hS=>?_
 refine aV ?_
 exact fin T hS hO (fun c=>c) rfl (r:=[.int .i64 (-1)]) kr (fun X' hM hC=>⟨(-1),hm,rfl⟩)
theorem C66 (v:∀ (ac:List aa) (i_:Int),VC66 ac i_ (fun r=>r=cc ac i_)):S66:=by
 intro w X ac i_ a1 c1   h1
 refine (W66 w X ac i_ a1 c1   _ (v ac i_) h1).mono ?_
 rintro _ _ _ _ ⟨r,rfl,h⟩
 exact h
theorem W68 (w0) (X0) (o_:ah) (state:Int) (kind:Int) (a1) (c1) (Q:Int × Int × Bool->Prop) (hm:VC68 o_ state kind Q) (h1:RS az w0 X0 a1 o_.Rows c1) :
  Ret Tryz.prog 68 #[.agg #[.int .i64 o_.ar,.int .i64 o_.aw,.int .i64 o_.aE,.slice a1 o_.Rows.length c1],.int .i64 state,.int .i64 kind] aI w0 X0 (fun w X' v=>∃ r,Q r/\v=.tuple #[.int .i64 r.1,.int .i64 r.2.1,.bool r.2.2]):=by
 unfold VC68 at hm
 replace hm:=hm (h1.sm kr)
 refine enter Tryz.func68 rfl (vals:=[.agg #[.int .i64 o_.ar,.int .i64 o_.aw,.int .i64 o_.aE,.slice a1 o_.Rows.length c1],.int .i64 state,.int .i64 kind]) kr ?_
 intro Z a hS hO hM
 replace h1:=h1.m0 hM
 refine rM T hS ⟨[(1,I state),(2,I kind),(3,Pt 4 0)],[(4,(48,(cO o_ a1 c1)))]⟩ fun Z a yi B5 hS hE hr=>?_
 replace hO:=hO.m2 hE
 replace h1:=h1.m1 hE
 clear hE hr
 refine b5 (fun a w=>∃ Z X,VC68_J1 Q/\St Tryz.f68.ntmps ⟨[],[]⟩ Z a w X/\Old w0 X0 w X) ?_ ?_
 ·refine rPe T hS [] [(9,I 0)] fun a hS=>?_
  refine aK ?_
  obtain ⟨I1,μ1,ci,hm⟩:=hm
  refine cg (σ:=Int) (fun s a w=>∃ Z X,I1 s/\St Tryz.f68.ntmps ⟨[(1,I state),(2,I kind),(3,Pt 4 0),(9,I s)],[(4,(48,(cO o_ a1 c1)))]⟩ Z a w X/\Old w0 X0 w X/\RS az w X a1 o_.Rows c1) (fun s=>μ1 s) (0) ?_ ?_
  ·exact ⟨Z,_,ci,hS.sl _,hO,h1⟩
  rintro bv a tA ⟨Z,q7,hI,hS,hO,h102⟩
  replace hm:=hm bv hI
  clear hI ci
  refine bc ?_
  refine rPe T hS [] [(14,B (decide (bv < (lN o_.Rows))))] fun a hS=>?_
  refine aG hS (b:=decide (bv < (lN o_.Rows))) kr (fun hb=>?_) fun hb=>?_
  ·replace hm:=hm.1 hb
   refine aJ (bc ?_)
   refine aK ?_
   refine b5 (fun a w=>∃ (Z:Nat->Nat) (X:Nat->Nat) (be:Bool),VC68_J2 o_ Q I1 μ1 bv be/\St Tryz.f68.ntmps ⟨[(1,I state),(2,I kind),(3,Pt 4 0),(9,I bv),(34,B be)],[(4,(48,(cO o_ a1 c1)))]⟩ Z a w X/\Old w0 X0 w X/\RS az w X a1 o_.Rows c1) ?_ ?_
   ·refine region ?_
    refine oPe T hS 3 [14] [(18,Sl a1 o_.Rows c1),(19,I bv)] fun a hS=>?_
    obtain ⟨hq,hm⟩:=hm
    refine op1 (index (e:=107) (k:=.i64) T hS kr kr kr kr h102 kr kr hq.1 hq.2 ?_)
    intro MJ a h118 hS
    refine op1 (e7 (off:=0) (fsz:=1) (ft:=3) (TF:=tI) (y:=(gi o_.Rows bv).State) T hS kr kr kr h118 kr kr kr (fun cs h=>mZ h) ?_)
    intro MI a h120 hS
    refine op1 (dL T hS kr kr kr h120 rfl kr ?_)
    intro v121 a hv hS
    cases hv
    refine oPe T hS 3 [18,19,20,21,22] [(25,B (((gi o_.Rows bv).State) == state))] fun a hS=>?_
    rcases bft (((gi o_.Rows bv).State) == state) with hb | hb
    ·replace hS:=hS.lit (t:=25) kr hb
     replace hm:=hm.1 hb
     refine oPe T hS 3 [] [(27,Sl a1 o_.Rows c1),(28,I bv)] fun a hS=>?_
     obtain ⟨hq,hm⟩:=hm
     refine op1 (index (e:=107) (k:=.i64) T hS kr kr kr kr h102 kr kr hq.1 hq.2 ?_)
     intro Cd a h123 hS
     refine op1 (e7 (off:=1) (fsz:=1) (ft:=3) (TF:=tI) (y:=(gi o_.Rows bv).Kind) T hS kr kr kr h123 kr kr kr (fun cs h=>qO h) ?_)
     intro DQ a h125 hS
     refine op1 (dL T hS kr kr kr h125 rfl kr ?_)
     intro v126 a hv hS
     cases hv
     refine ePe T hS [25,27,28,29,30,31] [(34,B (((gi o_.Rows bv).Kind) == kind))] fun a hS=>?_
     exact ⟨Z,_,(((gi o_.Rows bv).Kind) == kind),hm,hS.sl _,hO,h102⟩
    replace hS:=hS.lit (t:=25) kr hb
    replace hm:=hm.2 hb
    refine ePe T hS [25] [(34,B false)] fun a hS=>?_
    exact ⟨Z,_,false,hm,hS.sl _,hO,h102⟩
   rintro a qS ⟨Z,pc,be,hm,hS,hO,h104⟩
   unfold VC68_J2 at hm
   refine aG hS (b:=be) kr (fun hb=>?_) fun hb=>?_
   ·replace hm:=hm.1 hb
    refine dw [4] mixed hS ?_
    intro mE lB hS hE hD hH
    replace hO:=hO.m2 hE
    replace h104:=h104.m1 hE
    refine tke T [0,2,6,8,1,7] [4] hS hH #[true,true,true,false,false,false,true,true,true,false,false,false,false,false,false] 9 [3,9] [(36,Sl a1 o_.Rows c1),(37,I bv),(42,Sl a1 o_.Rows c1),(43,I bv)] fun a hS=>?_
    obtain ⟨hq,hm⟩:=hm
    refine db (e:=107) (k:=.i64) T 3 hS kr kr kr (by rfl) kr hH kr kr h104 kr kr hq.1 hq.2 ?_
    intro Gz a h108 hS
    have xU:=h108.here
    refine du (off:=2) (fsz:=1) (ft:=3) (TF:=tI) (y:=(gi o_.Rows bv).Next) 4 T hS kr kr kr (by rfl) kr hH kr h108 kr kr kr (fun cs h=>qN h) ?_
    intro zP a h110 fy hS
    have lQ:=xU
    rw [← fy] at lQ
    clear fy
    refine dU T 5 hS kr kr kr (by rfl) kr hH kr h110 lQ rfl kr ?_
    intro v111 a hv hS
    cases hv
    refine tke T [12] [4] hS hH #[true,true,true,true,true,true,true,true,true,false,false,false,true,false,false] 5 [36,37,38,39,40] [(6,I ((gi o_.Rows bv).Next))] fun a hS=>?_
    obtain ⟨hq,hm⟩:=hm
    refine db (e:=107) (k:=.i64) T 9 hS kr kr kr (by rfl) kr hH kr kr h104 kr kr hq.1 hq.2 ?_
    intro Ja a h113 hS
    have Bk:=h113.here
    refine du (off:=3) (fsz:=1) (ft:=3) (TF:=tI) (y:=(gi o_.Rows bv).Result) 10 T hS kr kr kr (by rfl) kr hH kr h113 kr kr kr (fun cs h=>qM h) ?_
    intro DS a h115 fy hS
    have qt:=Bk
    rw [← fy] at qt
    clear fy
    refine dU T 11 hS kr kr kr (by rfl) kr hH kr h115 qt rfl kr ?_
    intro v116 a hv hS
    cases hv
    refine tke T [13,14] [4] hS hH (tts 15) 0 [42,43,44,45,46] [(7,I ((gi o_.Rows bv).Result)),(8,B true)] fun a hS=>?_
    refine aU kr ?_
    replace hS:=hS.sl ⟨[(6,I ((gi o_.Rows bv).Next)),(7,I ((gi o_.Rows bv).Result)),(8,B true)],[]⟩
    refine aV ?_
    exact fin T hS hO (fun c=>c) rfl (r:=[.int .i64 ((gi o_.Rows bv).Next),.int .i64 ((gi o_.Rows bv).Result),.bool true]) kr (fun X' hM hC=>⟨((gi o_.Rows bv).Next,(gi o_.Rows bv).Result,true),hm,rfl⟩)
   replace hm:=hm.2 hb
   refine aJ ?_
   refine region (ePe T hS [34] [(9,I (wR (bv+1)))] fun a hS=>?_)
   exact ⟨wR (bv+1),⟨Z,_,hm.1,hS.sl _,hO,h104⟩,hm.2⟩
  replace hm:=hm.2 hb
  refine cb (by rfl) ?_
  exact ⟨Z,_,hm,hS.sl _,hO⟩
 rintro a Oc ⟨Z,B6,hm,hS,hO⟩
 unfold VC68_J1 at hm
 refine rPe T hS [] [(6,I 0),(7,I 0),(8,B false)] fun a hS=>?_
 refine aV ?_
 exact fin T hS hO (fun c=>c) rfl (r:=[.int .i64 0,.int .i64 0,.bool false]) kr (fun X' hM hC=>⟨(0,0,false),hm,rfl⟩)
theorem C68 (v:∀ (o_:ah) (state:Int) (kind:Int),VC68 o_ state kind (fun r=>r=bq o_ state kind)):S68:=by
 intro w X o_ state kind a1 c1   h1
 refine (W68 w X o_ state kind a1 c1   _ (v o_ state kind) h1).mono ?_
 rintro _ _ _ _ ⟨r,rfl,h⟩
 exact h
theorem W65 (Fs:S68) (w0) (X0) (o_:ah) (state:Int) (kind:Int) (result:Int) (a1) (c1) (Q:Int × Int->Prop) (hm:VC65 o_ state kind result Q) (h1:RS az w0 X0 a1 o_.Rows c1) :
  Ret Tryz.prog 65 #[.agg #[.int .i64 o_.ar,.int .i64 o_.aw,.int .i64 o_.aE,.slice a1 o_.Rows.length c1],.int .i64 state,.int .i64 kind,.int .i64 result] aI w0 X0 (fun w X' v=>∃ r,Q r/\v=.tuple #[.int .i64 r.1,.int .i64 r.2]):=by
 unfold VC65 at hm
 replace hm:=hm (h1.sm kr)
 refine enter Tryz.func65 rfl (vals:=[.agg #[.int .i64 o_.ar,.int .i64 o_.aw,.int .i64 o_.aE,.slice a1 o_.Rows.length c1],.int .i64 state,.int .i64 kind,.int .i64 result]) kr ?_
 intro Z a hS hO hM
 replace h1:=h1.m0 hM
 refine rM T hS ⟨[(1,I state),(2,I kind),(3,I result),(4,Pt 5 0)],[(5,(48,(cO o_ a1 c1)))]⟩ fun Z a mE lB hS hE hr=>?_
 replace hO:=hO.m2 hE
 replace h1:=h1.m1 hE
 clear hE hr
 refine bc ?_
 refine rPe T hS [] [(20,B ((decide (state < 0)) || (decide (state≥o_.ar))))] (sp:=[15]) fun a hS=>?_
 refine aG hS (b:=((decide (state < 0)) || (decide (state≥o_.ar)))) kr (fun hb=>?_) fun hb=>?_
 ·replace hm:=hm.1 hb
  refine rP T hS ⟨[(8,I 0),(9,I 30)],[]⟩ fun a hS=>?_
  refine aV ?_
  exact fin T hS hO (fun c=>c) rfl (r:=[.int .i64 0,.int .i64 30]) kr (fun X' hM hC=>⟨(0,30),hm,rfl⟩)
 replace hm:=hm.2 hb
 refine aJ ?_
 refine bl ?_
 refine oP T hS 3 ⟨[(3,I result),(22,V (.agg #[.int .i64 o_.ar,.int .i64 o_.aw,.int .i64 o_.aE,.slice a1 o_.Rows.length c1])),(23,I state),(24,I kind)],[]⟩ fun a hS=>?_
 refine op1 (call hS kr kr hb68 kr (fun _ _=>rfl) (Fs _ _ o_ state kind a1 c1 h1) ?_)
 intro v101 a eX e8 hE hp hS
 replace hO:=hO.m2 hE
 replace h1:=h1.m1 hE
 obtain ⟨am,hr⟩:∃ r,bq o_ state kind=r:=⟨_,rfl⟩
 replace hm:=hm am hr
 rw [hr] at hp
 clear hr
 subst hp
 refine ePe T hS [22,23,24,25] [(10,I am.1),(11,I am.2.1),(12,B am.2.2)] fun a hS=>?_
 refine bc ?_
 refine rPe T hS [3,11,12] [(35,B ((!am.2.2) || (am.2.1 != result)))] (sp:=[31]) fun a hS=>?_
 refine aG hS (b:=((!am.2.2) || (am.2.1 != result))) kr (fun hb=>?_) fun hb=>?_
 ·replace hm:=hm.1 hb
  refine rPe T hS [10,35] [(8,I 0),(9,I 40)] fun a hS=>?_
  refine aV ?_
  exact fin T hS hO (fun c=>c) rfl (r:=[.int .i64 0,.int .i64 40]) kr (fun X' hM hC=>⟨(0,40),hm,rfl⟩)
 replace hm:=hm.2 hb
 refine aJ ?_
 refine rPe T hS [10,35] [(8,I am.1),(9,I 0)] fun a hS=>?_
 refine aV ?_
 exact fin T hS hO (fun c=>c) rfl (r:=[.int .i64 am.1,.int .i64 0]) kr (fun X' hM hC=>⟨(am.1,0),hm,rfl⟩)
theorem C65 (Fs:S68) (v:∀ (o_:ah) (state:Int) (kind:Int) (result:Int),VC65 o_ state kind result (fun r=>r=cX o_ state kind result)):S65:=by
 intro w X o_ state kind result a1 c1   h1
 refine (W65 Fs w X o_ state kind result a1 c1   _ (v o_ state kind result) h1).mono ?_
 rintro _ _ _ _ ⟨r,rfl,h⟩
 exact h
theorem W58 (w0) (X0) (o_:ah) (a1) (c1) (Q:Int × Int->Prop) (hm:VC58 o_ Q) (h1:RS az w0 X0 a1 o_.Rows c1) :
  Ret Tryz.prog 58 #[.agg #[.int .i64 o_.ar,.int .i64 o_.aw,.int .i64 o_.aE,.slice a1 o_.Rows.length c1]] aI w0 X0 (fun w X' v=>∃ r,Q r/\v=.tuple #[.int .i64 r.1,.int .i64 r.2]):=by
 unfold VC58 at hm
 replace hm:=hm (h1.sm kr)
 refine enter Tryz.func58 rfl (vals:=[.agg #[.int .i64 o_.ar,.int .i64 o_.aw,.int .i64 o_.aE,.slice a1 o_.Rows.length c1]]) kr ?_
 intro Z a hS hO hM
 replace h1:=h1.m0 hM
 refine rM T hS ⟨[(1,Pt 2 0)],[(2,(48,(cO o_ a1 c1)))]⟩ fun Z a tz tp hS hE hr=>?_
 replace hO:=hO.m2 hE
 replace h1:=h1.m1 hE
 clear hE hr
 refine bc ?_
 refine rPe T hS [] [(35,B ((((((decide (o_.ar < 1)) || (decide (o_.ar > 32))) || (decide (o_.aw < 1))) || (decide (o_.aw > 64))) || (decide (o_.aE < 0))) || (decide (o_.aE≥o_.ar))))] (sp:=[9,14,19,24,29]) fun a hS=>?_
 refine aG hS (b:=((((((decide (o_.ar < 1)) || (decide (o_.ar > 32))) || (decide (o_.aw < 1))) || (decide (o_.aw > 64))) || (decide (o_.aE < 0))) || (decide (o_.aE≥o_.ar)))) kr (fun hb=>?_) fun hb=>?_
 ·replace hm:=hm.1 hb
  refine rP T hS ⟨[(2,I (-1)),(3,I 2)],[]⟩ fun a hS=>?_
  refine aV ?_
  exact fin T hS hO (fun c=>c) rfl (r:=[.int .i64 (-1),.int .i64 2]) kr (fun X' hM hC=>⟨((-1),2),hm,rfl⟩)
 replace hm:=hm.2 hb
 refine aJ ?_
 refine b5 (fun a w=>∃ Z X,VC58_J1 o_ Q/\St Tryz.f58.ntmps ⟨[(1,Pt 2 0)],[(2,(48,(cO o_ a1 c1)))]⟩ Z a w X/\Old w0 X0 w X/\RS az w X a1 o_.Rows c1) ?_ ?_
 ·refine rPe T hS [35] [(4,I 0)] fun a hS=>?_
  refine aK ?_
  obtain ⟨I1,μ1,ci,hm⟩:=hm
  refine cg (σ:=Int) (fun s a w=>∃ Z X,I1 s/\St Tryz.f58.ntmps ⟨[(1,Pt 2 0),(4,I s)],[(2,(48,(cO o_ a1 c1)))]⟩ Z a w X/\Old w0 X0 w X/\RS az w X a1 o_.Rows c1) (fun s=>μ1 s) (0) ?_ ?_
  ·exact ⟨Z,_,ci,hS.sl _,hO,h1⟩
  rintro bu a oW ⟨Z,DM,hI,hS,hO,h103⟩
  replace hm:=hm bu hI
  clear hI ci
  refine bc ?_
  refine rPe T hS [] [(40,B (decide (bu < (lN o_.Rows))))] fun a hS=>?_
  refine aG hS (b:=decide (bu < (lN o_.Rows))) kr (fun hb=>?_) fun hb=>?_
  ·replace hm:=hm.1 hb
   refine aJ (bc ?_)
   refine aK ?_
   refine bl ?_
   refine oPe T hS 3 [40] [(44,Sl a1 o_.Rows c1),(45,I bu)] fun a hS=>?_
   obtain ⟨hq,hm⟩:=hm
   refine op1 (index (e:=107) (k:=.i64) T hS kr kr kr kr h103 kr kr hq.1 hq.2 ?_)
   intro Jc a h105 hS
   refine op1 (eD T hS kr kr kr h105 kr kr ?_)
   intro v106 a hv hS
   subst hv
   refine eM T hS ⟨[(1,Pt 2 0),(4,I bu),(5,Pt 6 0)],[(2,(48,(cO o_ a1 c1))),(6,(107,(cR (gi o_.Rows bu))))]⟩ fun Z a qS q7 hS hE hr=>?_
   replace hO:=hO.m2 hE
   replace h103:=h103.m1 hE
   clear hE hr
   refine bc ?_
   refine rPe T hS [] [(69,B ((((decide (((gi o_.Rows bu).State) < 0)) || (decide (((gi o_.Rows bu).State)≥o_.ar))) || (decide (((gi o_.Rows bu).Next) < 0))) || (decide (((gi o_.Rows bu).Next)≥o_.ar))))] (sp:=[51,58,63]) fun a hS=>?_
   refine aG hS (b:=((((decide (((gi o_.Rows bu).State) < 0)) || (decide (((gi o_.Rows bu).State)≥o_.ar))) || (decide (((gi o_.Rows bu).Next) < 0))) || (decide (((gi o_.Rows bu).Next)≥o_.ar)))) kr (fun hb=>?_) fun hb=>?_
   ·replace hm:=hm.1 hb
    refine rP T hS ⟨[(2,I bu),(3,I 30)],[]⟩ fun a hS=>?_
    refine aV ?_
    exact fin T hS hO (fun c=>c) rfl (r:=[.int .i64 bu,.int .i64 30]) kr (fun X' hM hC=>⟨(bu,30),hm,rfl⟩)
   replace hm:=hm.2 hb
   refine aJ (bc ?_)
   refine rPe T hS [69] [(80,B ((decide (((gi o_.Rows bu).Kind) < 0)) || (decide (((gi o_.Rows bu).Kind)≥o_.aw))))] (sp:=[74]) fun a hS=>?_
   refine aG hS (b:=((decide (((gi o_.Rows bu).Kind) < 0)) || (decide (((gi o_.Rows bu).Kind)≥o_.aw)))) kr (fun hb=>?_) fun hb=>?_
   ·replace hm:=hm.1 hb
    refine rP T hS ⟨[(2,I bu),(3,I 31)],[]⟩ fun a hS=>?_
    refine aV ?_
    exact fin T hS hO (fun c=>c) rfl (r:=[.int .i64 bu,.int .i64 31]) kr (fun X' hM hC=>⟨(bu,31),hm,rfl⟩)
   replace hm:=hm.2 hb
   refine aJ (bc ?_)
   refine rPe T hS [80] [(89,B ((decide (((gi o_.Rows bu).Result) < 0)) || (decide (((gi o_.Rows bu).Result) > 1000000))))] (sp:=[85]) fun a hS=>?_
   refine aG hS (b:=((decide (((gi o_.Rows bu).Result) < 0)) || (decide (((gi o_.Rows bu).Result) > 1000000)))) kr (fun hb=>?_) fun hb=>?_
   ·replace hm:=hm.1 hb
    refine rP T hS ⟨[(2,I bu),(3,I 7)],[]⟩ fun a hS=>?_
    refine aV ?_
    exact fin T hS hO (fun c=>c) rfl (r:=[.int .i64 bu,.int .i64 7]) kr (fun X' hM hC=>⟨(bu,7),hm,rfl⟩)
   replace hm:=hm.2 hb
   refine aJ ?_
   refine b5 (fun a w=>∃ (Z:Nat->Nat) (X:Nat->Nat) (gu:Bool),VC58_J2 Q I1 μ1 bu gu/\St Tryz.f58.ntmps ⟨[(1,Pt 2 0),(4,I bu),(128,B gu)],[(2,(48,(cO o_ a1 c1)))]⟩ Z a w X/\Old w0 X0 w X/\RS az w X a1 o_.Rows c1) ?_ ?_
   ·refine hJ [2,6] mixed hS ?_
    intro pz q8 hS hE hD hH
    replace hO:=hO.m2 hE
    replace h103:=h103.m1 hE
    refine tke T [0,1,2] [2,6] hS hH #[true,true,true,false,false,false,false,false,false,false,false,false,false,false,false,false,false,false,false,false,false,false,false,false,false,false,false,false,false,false,false,false,false,false,false,false,false,false] 35 [] [(93,B (decide (bu > 0)))] fun a hS=>?_
    rcases bft (decide (bu > 0)) with hb | hb
    ·replace hS:=hS.lit (t:=93) kr hb
     replace hm:=hm.1 hb
     refine tke T [3,5,10,4,6,11] [2,6] hS hH #[true,true,true,true,true,true,true,false,false,false,true,true,false,false,false,false,false,false,false,false,false,false,false,false,false,false,false,false,false,false,false,false,false,false,false,false,false,false] 29 [] [(95,Sl a1 o_.Rows c1),(97,I (wR (bu - 1))),(102,I ((gi o_.Rows bu).State))] fun a hS=>?_
     obtain ⟨hq,hm⟩:=hm
     refine db (e:=107) (k:=.i64) T 7 hS kr kr kr (by rfl) kr hH kr kr h103 kr kr hq.1 hq.2 ?_
     intro Ce a h112 hS
     have xT:=h112.here
     refine du (off:=0) (fsz:=1) (ft:=3) (TF:=tI) (y:=(gi o_.Rows (wR (bu - 1))).State) 8 T hS kr kr kr (by rfl) kr hH kr h112 kr kr kr (fun cs h=>mZ h) ?_
     intro Gy a h114 fy hS
     have EF:=xT
     rw [← fy] at EF
     clear fy
     refine dU T 9 hS kr kr kr (by rfl) kr hH kr h114 EF rfl kr ?_
     intro v115 a hv hS
     cases hv
     refine tke T [12,13] [2,6] hS hH #[true,true,true,true,true,true,true,true,true,true,true,true,true,true,false,false,false,false,false,false,false,false,false,false,false,false,false,false,false,false,false,false,false,false,false,false,false,false] 24 [95,97,102,98,99,100] [(104,B (decide (((gi o_.Rows (wR (bu - 1))).State) > ((gi o_.Rows bu).State))))] fun a hS=>?_
     rcases bft (decide (((gi o_.Rows (wR (bu - 1))).State) > ((gi o_.Rows bu).State))) with hb | hb
     ·replace hS:=hS.lit (t:=104) kr hb
      replace hm:=hm.1 hb
      refine tke T [14,16,21,15,17,22,18,19,20,23,24,25,27,32,26,28,33,29,30,31,34,35,36,37] [2,6] hS hH (tts 38) 0 [5,93,104] [(128,B true)] fun a hS=>?_
      refine aU kr ?_
      replace hS:=hS.sl ⟨[(1,Pt 2 0),(4,I bu),(128,B true)],[(2,(48,(cO o_ a1 c1)))]⟩
      exact ⟨Z,_,true,hm,hS.sl _,hO,h103⟩
     replace hS:=hS.lit (t:=104) kr hb
     replace hm:=hm.2 hb
     refine tke T [14,16,21,15,17,22] [2,6] hS hH #[true,true,true,true,true,true,true,true,true,true,true,true,true,true,true,true,true,true,false,false,false,true,true,false,false,false,false,false,false,false,false,false,false,false,false,false,false,false] 18 [] [(106,Sl a1 o_.Rows c1),(108,I (wR (bu - 1))),(113,I ((gi o_.Rows bu).State))] fun a hS=>?_
     obtain ⟨hq,hm⟩:=hm
     refine db (e:=107) (k:=.i64) T 18 hS kr kr kr (by rfl) kr hH kr kr h103 kr kr hq.1 hq.2 ?_
     intro Gx a h117 hS
     have nl:=h117.here
     refine du (off:=0) (fsz:=1) (ft:=3) (TF:=tI) (y:=(gi o_.Rows (wR (bu - 1))).State) 19 T hS kr kr kr (by rfl) kr hH kr h117 kr kr kr (fun cs h=>mZ h) ?_
     intro Gw a h119 fy hS
     have uC:=nl
     rw [← fy] at uC
     clear fy
     refine dU T 20 hS kr kr kr (by rfl) kr hH kr h119 uC rfl kr ?_
     intro v120 a hv hS
     cases hv
     refine tke T [23,24] [2,6] hS hH #[true,true,true,true,true,true,true,true,true,true,true,true,true,true,true,true,true,true,true,true,true,true,true,true,true,false,false,false,false,false,false,false,false,false,false,false,false,false] 13 [106,108,113,109,110,111] [(115,B (((gi o_.Rows (wR (bu - 1))).State) == ((gi o_.Rows bu).State)))] fun a hS=>?_
     rcases bft (((gi o_.Rows (wR (bu - 1))).State) == ((gi o_.Rows bu).State)) with hb | hb
     ·replace hS:=hS.lit (t:=115) kr hb
      replace hm:=hm.1 hb
      refine tke T [25,27,32,26,28,33] [2,6] hS hH #[true,true,true,true,true,true,true,true,true,true,true,true,true,true,true,true,true,true,true,true,true,true,true,true,true,true,true,true,true,false,false,false,true,true,false,false,false,false] 7 [5] [(117,Sl a1 o_.Rows c1),(119,I (wR (bu - 1))),(124,I ((gi o_.Rows bu).Kind))] fun a hS=>?_
      obtain ⟨hq,hm⟩:=hm
      refine db (e:=107) (k:=.i64) T 29 hS kr kr kr (by rfl) kr hH kr kr h103 kr kr hq.1 hq.2 ?_
      intro Gv a h122 hS
      have Bj:=h122.here
      refine du (off:=1) (fsz:=1) (ft:=3) (TF:=tI) (y:=(gi o_.Rows (wR (bu - 1))).Kind) 30 T hS kr kr kr (by rfl) kr hH kr h122 kr kr kr (fun cs h=>qO h) ?_
      intro DR a h124 fy hS
      have qr:=Bj
      rw [← fy] at qr
      clear fy
      refine dU T 31 hS kr kr kr (by rfl) kr hH kr h124 qr rfl kr ?_
      intro v125 a hv hS
      cases hv
      refine tke T [34,35,36,37] [2,6] hS hH (tts 38) 0 [93,104,115,117,119,124,120,121,122] [(128,B (decide (((gi o_.Rows (wR (bu - 1))).Kind)≥((gi o_.Rows bu).Kind))))] fun a hS=>?_
      refine aU kr ?_
      replace hS:=hS.sl ⟨[(1,Pt 2 0),(4,I bu),(128,B (decide (((gi o_.Rows (wR (bu - 1))).Kind)≥((gi o_.Rows bu).Kind))))],[(2,(48,(cO o_ a1 c1)))]⟩
      exact ⟨Z,_,decide (((gi o_.Rows (wR (bu - 1))).Kind)≥((gi o_.Rows bu).Kind)),hm,hS.sl _,hO,h103⟩
     replace hS:=hS.lit (t:=115) kr hb
     replace hm:=hm.2 hb
     refine tke T [25,27,32,26,28,33,29,30,31,34,35,36,37] [2,6] hS hH (tts 38) 0 [5,93,104,115] [(128,B false)] fun a hS=>?_
     refine aU kr ?_
     replace hS:=hS.sl ⟨[(1,Pt 2 0),(4,I bu),(128,B false)],[(2,(48,(cO o_ a1 c1)))]⟩
     exact ⟨Z,_,false,hm,hS.sl _,hO,h103⟩
    replace hS:=hS.lit (t:=93) kr hb
    replace hm:=hm.2 hb
    refine tke T [3,5,10,4,6,11,7,8,9,12,13,14,16,21,15,17,22,18,19,20,23,24,25,27,32,26,28,33,29,30,31,34,35,36,37] [2,6] hS hH (tts 38) 0 [5,93] [(128,B false)] fun a hS=>?_
    refine aU kr ?_
    replace hS:=hS.sl ⟨[(1,Pt 2 0),(4,I bu),(128,B false)],[(2,(48,(cO o_ a1 c1)))]⟩
    exact ⟨Z,_,false,hm,hS.sl _,hO,h103⟩
   rintro a tB ⟨Z,wI,gu,hm,hS,hO,h108⟩
   unfold VC58_J2 at hm
   refine aG hS (b:=gu) kr (fun hb=>?_) fun hb=>?_
   ·replace hm:=hm.1 hb
    refine rP T hS ⟨[(2,I bu),(3,I 32)],[]⟩ fun a hS=>?_
    refine aV ?_
    exact fin T hS hO (fun c=>c) rfl (r:=[.int .i64 bu,.int .i64 32]) kr (fun X' hM hC=>⟨(bu,32),hm,rfl⟩)
   replace hm:=hm.2 hb
   refine aJ ?_
   refine region (ePe T hS [128] [(4,I (wR (bu+1)))] fun a hS=>?_)
   exact ⟨wR (bu+1),⟨Z,_,hm.1,hS.sl _,hO,h108⟩,hm.2⟩
  replace hm:=hm.2 hb
  refine cb (by rfl) ?_
  exact ⟨Z,_,hm,hS.sl _,hO,h103⟩
 rintro a yi ⟨Z,ow,hm,hS,hO,h101⟩
 unfold VC58_J1 at hm
 refine rP T hS ⟨[(2,I (lN o_.Rows)),(3,I 0)],[]⟩ fun a hS=>?_
 refine aV ?_
 exact fin T hS hO (fun c=>c) rfl (r:=[.int .i64 (lN o_.Rows),.int .i64 0]) kr (fun X' hM hC=>⟨((lN o_.Rows),0),hm,rfl⟩)
theorem C58 (v:∀ (o_:ah),VC58 o_ (fun r=>r=cI o_)):S58:=by
 intro w X o_ a1 c1   h1
 refine (W58 w X o_ a1 c1   _ (v o_) h1).mono ?_
 rintro _ _ _ _ ⟨r,rfl,h⟩
 exact h
theorem W36 (Fu:S58) (Kw:S65) (w0) (X0) (o_:ah) (l_:List ab) (state:Int) (ac:List aa) (a1) (c1) (a2) (c2) (a3) (c3) (Q:Int × Int × Int->Prop) (hm:VC36 o_ l_ state ac Q) (h1:RS az w0 X0 a1 o_.Rows c1) (h2:RS aq w0 X0 a2 l_ c2) (h3:RS au w0 X0 a3 ac c3) :
  Ret Tryz.prog 36 #[.agg #[.int .i64 o_.ar,.int .i64 o_.aw,.int .i64 o_.aE,.slice a1 o_.Rows.length c1],.slice a2 l_.length c2,.int .i64 state,.slice a3 ac.length c3] aI w0 X0 (fun w X' v=>∃ r,Q r/\v=.tuple #[.int .i64 r.1,.int .i64 r.2.1,.int .i64 r.2.2]):=by
 unfold VC36 at hm
 replace hm:=hm (h1.sm kr)
 replace hm:=hm (h2.sm kr)
 replace hm:=hm (h3.sm kr)
 refine enter Tryz.func36 rfl (vals:=[.agg #[.int .i64 o_.ar,.int .i64 o_.aw,.int .i64 o_.aE,.slice a1 o_.Rows.length c1],.slice a2 l_.length c2,.int .i64 state,.slice a3 ac.length c3]) kr ?_
 intro Z a hS hO hM
 replace h1:=h1.m0 hM
 replace h2:=h2.m0 hM
 replace h3:=h3.m0 hM
 refine rM T hS ⟨[(1,Sl a2 l_ c2),(2,I state),(3,Sl a3 ac c3),(4,Pt 5 0)],[(5,(48,(cO o_ a1 c1)))]⟩ fun Z a Cw Gi hS hE hr=>?_
 replace hO:=hO.m2 hE
 replace h1:=h1.m1 hE
 replace h2:=h2.m1 hE
 replace h3:=h3.m1 hE
 clear hE hr
 refine bl ?_
 refine oPe T hS 1 [] [(19,V (.agg #[.int .i64 o_.ar,.int .i64 o_.aw,.int .i64 o_.aE,.slice a1 o_.Rows.length c1]))] fun a hS=>?_
 refine op1 (call hS kr kr hb58 kr (fun _ _=>rfl) (Fu _ _ o_ a1 c1 h1) ?_)
 intro v101 a eX e8 hE hp hS
 replace hO:=hO.m2 hE
 replace h1:=h1.m1 hE
 replace h2:=h2.m1 hE
 replace h3:=h3.m1 hE
 obtain ⟨am,hr⟩:∃ r,cI o_=r:=⟨_,rfl⟩
 replace hm:=hm am hr
 rw [hr] at hp
 clear hr
 subst hp
 refine ePe T hS [19,20] [(12,I am.2)] fun a hS=>?_
 refine bc ?_
 refine rPe T hS [12] [(24,B (am.2 != 0))] fun a hS=>?_
 refine aG hS (b:=(am.2 != 0)) kr (fun hb=>?_) fun hb=>?_
 ·replace hm:=hm.1 hb
  refine rP T hS ⟨[(8,I 0),(9,I (-1)),(10,I 2)],[]⟩ fun a hS=>?_
  refine aV ?_
  exact fin T hS hO (fun c=>c) rfl (r:=[.int .i64 0,.int .i64 (-1),.int .i64 2]) kr (fun X' hM hC=>⟨(0,(-1),2),hm,rfl⟩)
 replace hm:=hm.2 hb
 refine aJ (bc ?_)
 refine rPe T hS [24] [(32,B ((decide (state < 0)) || (decide (state≥o_.ar))))] (sp:=[27]) fun a hS=>?_
 refine aG hS (b:=((decide (state < 0)) || (decide (state≥o_.ar)))) kr (fun hb=>?_) fun hb=>?_
 ·replace hm:=hm.1 hb
  refine rP T hS ⟨[(8,I 0),(9,I (-1)),(10,I 30)],[]⟩ fun a hS=>?_
  refine aV ?_
  exact fin T hS hO (fun c=>c) rfl (r:=[.int .i64 0,.int .i64 (-1),.int .i64 30]) kr (fun X' hM hC=>⟨(0,(-1),30),hm,rfl⟩)
 replace hm:=hm.2 hb
 refine aJ ?_
 refine b5 (fun a w=>∃ (Z:Nat->Nat) (X:Nat->Nat) (fG:Int),VC36_J1 ac Q fG/\St Tryz.f36.ntmps ⟨[(2,I fG),(3,Sl a3 ac c3)],[]⟩ Z a w X/\Old w0 X0 w X/\RS au w X a3 ac c3) ?_ ?_
 ·refine rPe T hS [32] [(13,I 0)] fun a hS=>?_
  refine aK ?_
  obtain ⟨I1,μ1,ci,hm⟩:=hm
  refine cg (σ:=Int × Int) (fun s a w=>∃ Z X,I1 s.1 s.2/\St Tryz.f36.ntmps ⟨[(1,Sl a2 l_ c2),(2,I s.1),(3,Sl a3 ac c3),(4,Pt 5 0),(13,I s.2)],[(5,(48,(cO o_ a1 c1)))]⟩ Z a w X/\Old w0 X0 w X/\RS aq w X a2 l_ c2/\RS au w X a3 ac c3/\RS az w X a1 o_.Rows c1) (fun s=>μ1 s.1 s.2) (⟨state,0⟩) ?_ ?_
  ·exact ⟨Z,_,ci,hS.sl _,hO,h2,h3,h1⟩
  rintro ⟨dt,bF⟩ a Cx ⟨Z,Gj,hI,hS,hO,h107,h109,h111⟩
  replace hm:=hm dt bF hI
  clear hI ci
  refine bc ?_
  refine rPe T hS [] [(36,B (decide (bF < (lN ac))))] fun a hS=>?_
  refine aG hS (b:=decide (bF < (lN ac))) kr (fun hb=>?_) fun hb=>?_
  ·replace hm:=hm.1 hb
   refine aJ (bc ?_)
   refine aK ?_
   refine bl ?_
   refine oPe T hS 2 [36] [(39,Sl a3 ac c3),(40,I bF)] fun a hS=>?_
   obtain ⟨hq,hm⟩:=hm
   refine op1 (index (e:=56) (k:=.i64) T hS kr kr kr kr h109 kr kr hq.1 hq.2 ?_)
   intro Ja a h113 hS
   refine op1 (eD T hS kr kr kr h113 kr kr ?_)
   intro v114 a hv hS
   subst hv
   refine eM T hS ⟨[(1,Sl a2 l_ c2),(2,I dt),(3,Sl a3 ac c3),(4,Pt 5 0),(13,I bF),(14,Pt 15 0)],[(5,(48,(cO o_ a1 c1))),(15,(56,(cK (gi ac bF))))]⟩ fun Z a Cy DI hS hE hr=>?_
   replace hO:=hO.m2 hE
   replace h107:=h107.m1 hE
   replace h109:=h109.m1 hE
   replace h111:=h111.m1 hE
   clear hE hr
   refine bc ?_
   refine rPe T hS [] [(52,B ((decide (((gi ac bF).Oper) < 0)) || (decide (((gi ac bF).Oper)≥(lN l_)))))] (sp:=[46]) fun a hS=>?_
   refine aG hS (b:=((decide (((gi ac bF).Oper) < 0)) || (decide (((gi ac bF).Oper)≥(lN l_))))) kr (fun hb=>?_) fun hb=>?_
   ·replace hm:=hm.1 hb
    refine rP T hS ⟨[(8,I 0),(9,I bF),(10,I 2)],[]⟩ fun a hS=>?_
    refine aV ?_
    exact fin T hS hO (fun c=>c) rfl (r:=[.int .i64 0,.int .i64 bF,.int .i64 2]) kr (fun X' hM hC=>⟨(0,bF,2),hm,rfl⟩)
   replace hm:=hm.2 hb
   refine aJ ?_
   refine b5 (fun a w=>∃ Z X,VC36_J2 o_ l_ ac Q I1 μ1 dt bF/\St Tryz.f36.ntmps ⟨[(1,Sl a2 l_ c2),(2,I dt),(3,Sl a3 ac c3),(4,Pt 5 0),(13,I bF),(14,Pt 15 0)],[(5,(48,(cO o_ a1 c1))),(15,(56,(cK (gi ac bF))))]⟩ Z a w X/\Old w0 X0 w X/\RS aq w X a2 l_ c2/\RS au w X a3 ac c3/\RS az w X a1 o_.Rows c1) ?_ ?_
   ·refine rPe T hS [52] [(15,I 0)] fun a hS=>?_
    refine aK ?_
    obtain ⟨I2,μ2,ci,hm⟩:=hm
    refine cg (σ:=Int) (fun s a w=>∃ Z X,I2 s/\St Tryz.f36.ntmps ⟨[(1,Sl a2 l_ c2),(2,I dt),(3,Sl a3 ac c3),(4,Pt 5 0),(13,I bF),(14,Pt 15 0),(15,I s)],[(5,(48,(cO o_ a1 c1))),(15,(56,(cK (gi ac bF))))]⟩ Z a w X/\Old w0 X0 w X/\RS aq w X a2 l_ c2/\RS au w X a3 ac c3/\RS az w X a1 o_.Rows c1) (fun s=>μ2 s) (0) ?_ ?_
    ·exact ⟨Z,_,ci,hS.sl _,hO,h107,h109,h111⟩
    rintro lm a yf ⟨Z,zI,hI,hS,hO,h147,h148,h150⟩
    replace hm:=hm lm hI
    clear hI ci
    refine bc ?_
    refine rPe T hS [] [(56,B (decide (lm < bF)))] fun a hS=>?_
    refine aG hS (b:=decide (lm < bF)) kr (fun hb=>?_) fun hb=>?_
    ·replace hm:=hm.1 hb
     refine aJ (bc ?_)
     refine aK ?_
     refine dw [5,15] mixed hS ?_
     intro EW wE hS hE hD hH
     replace hO:=hO.m2 hE
     replace h147:=h147.m1 hE
     replace h148:=h148.m1 hE
     replace h150:=h150.m1 hE
     refine tke T [0,1,5,6] [5,15] hS hH #[true,true,false,false,false,true,true,false] 4 [] [(59,Sl a3 ac c3),(60,I lm),(65,I ((gi ac bF).Oper))] fun a hS=>?_
     obtain ⟨hq,hm⟩:=hm
     refine db (e:=56) (k:=.i64) T 2 hS kr kr kr (by rfl) kr hH kr kr h148 kr kr hq.1 hq.2 ?_
     intro I6 a h154 hS
     have Bh:=h154.here
     refine du (off:=0) (fsz:=1) (ft:=3) (TF:=tI) (y:=(gi ac lm).Oper) 3 T hS kr kr kr (by rfl) kr hH kr h154 kr kr kr (fun cs h=>gF h) ?_
     intro I5 a h156 fy hS
     have uA:=Bh
     rw [← fy] at uA
     clear fy
     refine dU T 4 hS kr kr kr (by rfl) kr hH kr h156 uA rfl kr ?_
     intro v157 a hv hS
     cases hv
     refine tke T [7] [5,15] hS hH (tts 8) 0 [59,60,65,61,62,63] [(66,B (((gi ac lm).Oper) == ((gi ac bF).Oper)))] fun a hS=>?_
     refine aU kr ?_
     replace hS:=hS.sle [] []
     refine aG hS (b:=(((gi ac lm).Oper) == ((gi ac bF).Oper))) kr (fun hb=>?_) fun hb=>?_
     ·replace hm:=hm.1 hb
      refine rP T hS ⟨[(8,I 0),(9,I bF),(10,I 21)],[]⟩ fun a hS=>?_
      refine aV ?_
      exact fin T hS hO (fun c=>c) rfl (r:=[.int .i64 0,.int .i64 bF,.int .i64 21]) kr (fun X' hM hC=>⟨(0,bF,21),hm,rfl⟩)
     replace hm:=hm.2 hb
     refine aJ ?_
     refine region (ePe T hS [66] [(15,I (wR (lm+1)))] fun a hS=>?_)
     exact ⟨wR (lm+1),⟨Z,_,hm.1,hS.sl _,hO,h147,h148,h150⟩,hm.2⟩
    replace hm:=hm.2 hb
    refine cb (by rfl) ?_
    exact ⟨Z,_,hm,hS.sl _,hO,h147,h148,h150⟩
   rintro a G0 ⟨Z,DJ,hm,hS,hO,h115,h116,h117⟩
   unfold VC36_J2 at hm
   refine dw [5,15] mixed hS ?_
   intro Ae B9 hS hE hD hH
   replace hO:=hO.m2 hE
   replace h115:=h115.m1 hE
   replace h116:=h116.m1 hE
   replace h117:=h117.m1 hE
   refine tke T [0,1,2,3,8,4,9] [5,15] hS hH #[true,true,true,true,true,false,false,false,true,true,false,false,false,false,false,false] 9 [2] [(69,V (.agg #[.int .i64 o_.ar,.int .i64 o_.aw,.int .i64 o_.aE,.slice a1 o_.Rows.length c1])),(70,I dt),(71,Sl a2 l_ c2),(73,I ((gi ac bF).Oper)),(78,I ((gi ac bF).Result))] fun a hS=>?_
   obtain ⟨hq,hm⟩:=hm
   refine db (e:=102) (k:=.i64) T 5 hS kr kr kr (by rfl) kr hH kr kr h115 kr kr hq.1 hq.2 ?_
   intro MH a h121 hS
   have HW:=h121.here
   refine du (off:=1) (fsz:=1) (ft:=3) (TF:=tI) (y:=(gi l_ ((gi ac bF).Oper)).Kind) 6 T hS kr kr kr (by rfl) kr hH kr h121 kr kr kr (fun cs h=>kf h) ?_
   intro Cd a h123 fy hS
   have EE:=HW
   rw [← fy] at EE
   clear fy
   refine dU T 7 hS kr kr kr (by rfl) kr hH kr h123 EE rfl kr ?_
   intro v124 a hv hS
   cases hv
   refine only 10 kr (by rfl) (call hS kr kr hb65 kr (fun _ _=>rfl) (Kw _ _ o_ dt ((gi l_ ((gi ac bF).Oper)).Kind) ((gi ac bF).Result) a1 c1 h117) ?_)
   intro v125 a r9 pc hE hp hS
   replace hO:=hO.m2 hE
   replace hD:=hD.ev hE rfl
   replace h115:=h115.m1 hE
   replace h116:=h116.m1 hE
   replace h117:=h117.m1 hE
   replace h121:=h121.m1 hE
   replace h123:=h123.m1 hE
   obtain ⟨bI,hr⟩:∃ r,cX o_ dt ((gi l_ ((gi ac bF).Oper)).Kind) ((gi ac bF).Result)=r:=⟨_,rfl⟩
   replace hm:=hm bI hr
   rw [hr] at hp
   clear hr
   subst hp
   replace hS:=hS.sle [] [(79,V (.tuple #[.int .i64 bI.1,.int .i64 bI.2]))]
   refine c8 (bJ.of hS (bks:=[5,15]) kr hD) ?_
   intro hH
   refine tke T [11,12,13,14,15] [5,15] hS hH (tts 16) 0 [69,70,71,73,78,74,75,76,79] [(16,I bI.1),(17,I bI.2)] fun a hS=>?_
   refine aU kr ?_
   replace hS:=hS.sle [] []
   refine bc ?_
   refine rPe T hS [] [(83,B (bI.2 != 0))] fun a hS=>?_
   refine aG hS (b:=(bI.2 != 0)) kr (fun hb=>?_) fun hb=>?_
   ·replace hm:=hm.1 hb
    refine rP T hS ⟨[(8,I 0),(9,I bF),(10,I bI.2)],[]⟩ fun a hS=>?_
    refine aV ?_
    exact fin T hS hO (fun c=>c) rfl (r:=[.int .i64 0,.int .i64 bF,.int .i64 bI.2]) kr (fun X' hM hC=>⟨(0,bF,bI.2),hm,rfl⟩)
   replace hm:=hm.2 hb
   refine aJ (bc ?_)
   refine b5 (fun a w=>∃ (Z:Nat->Nat) (X:Nat->Nat) (fE:Bool),VC36_J3 Q I1 μ1 dt bF bI fE/\St Tryz.f36.ntmps ⟨[(1,Sl a2 l_ c2),(3,Sl a3 ac c3),(4,Pt 5 0),(13,I bF),(16,I bI.1),(103,B fE)],[(5,(48,(cO o_ a1 c1)))]⟩ Z a w X/\Old w0 X0 w X/\RS aq w X a2 l_ c2/\RS au w X a3 ac c3/\RS az w X a1 o_.Rows c1) ?_ ?_
   ·refine hJ [5,15] mixed hS ?_
    intro yi B5 hS hE hD hH
    replace hO:=hO.m2 hE
    replace h115:=h115.m1 hE
    replace h116:=h116.m1 hE
    replace h117:=h117.m1 hE
    refine tke T [0,1,2] [5,15] hS hH #[true,true,true,false,false,false,false,false,false,false,false,false,false,false,false,false,false,false] 15 [] [(86,Sl a2 l_ c2),(88,I ((gi ac bF).Oper))] fun a hS=>?_
    obtain ⟨hq,hm⟩:=hm
    refine db (e:=102) (k:=.i64) T 3 hS kr kr kr (by rfl) kr hH kr kr h115 kr kr hq.1 hq.2 ?_
    intro I8 a h136 hS
    have HT:=h136.here
    refine du (off:=3) (fsz:=1) (ft:=3) (TF:=tI) (y:=(gi l_ ((gi ac bF).Oper)).End) 4 T hS kr kr kr (by rfl) kr hH kr h136 kr kr kr (fun cs h=>lV h) ?_
    intro Rb a h138 fy hS
    have ED:=HT
    rw [← fy] at ED
    clear fy
    refine dU T 5 hS kr kr kr (by rfl) kr hH kr h138 ED rfl kr ?_
    intro v139 a hv hS
    cases hv
    refine tke T [6,7] [5,15] hS hH #[true,true,true,true,true,true,true,true,false,false,false,false,false,false,false,false,false,false] 10 [86,88,89,90,91] [(93,B (((gi l_ ((gi ac bF).Oper)).End) != (-1)))] fun a hS=>?_
    rcases bft (((gi l_ ((gi ac bF).Oper)).End) != (-1)) with hb | hb
    ·replace hS:=hS.lit (t:=93) kr hb
     replace hm:=hm.1 hb
     refine tke T [8,9,14,10,15] [5,15] hS hH #[true,true,true,true,true,true,true,true,true,true,true,false,false,false,true,true,false,false] 5 [14] [(94,Sl a2 l_ c2),(96,I ((gi ac bF).Oper)),(101,I ((gi ac bF).Result))] fun a hS=>?_
     obtain ⟨hq,hm⟩:=hm
     refine db (e:=102) (k:=.i64) T 11 hS kr kr kr (by rfl) kr hH kr kr h115 kr kr hq.1 hq.2 ?_
     intro Gs a h141 hS
     have HS:=h141.here
     refine du (off:=4) (fsz:=1) (ft:=3) (TF:=tI) (y:=(gi l_ ((gi ac bF).Oper)).Result) 12 T hS kr kr kr (by rfl) kr hH kr h141 kr kr kr (fun cs h=>oS h) ?_
     intro I7 a h143 fy hS
     have xR:=HS
     rw [← fy] at xR
     clear fy
     refine dU T 13 hS kr kr kr (by rfl) kr hH kr h143 xR rfl kr ?_
     intro v144 a hv hS
     cases hv
     refine tke T [16,17] [5,15] hS hH (tts 18) 0 [93,94,96,101,97,98,99] [(103,B (((gi l_ ((gi ac bF).Oper)).Result) != ((gi ac bF).Result)))] fun a hS=>?_
     refine aU kr ?_
     replace hS:=hS.sl ⟨[(1,Sl a2 l_ c2),(3,Sl a3 ac c3),(4,Pt 5 0),(13,I bF),(16,I bI.1),(103,B (((gi l_ ((gi ac bF).Oper)).Result) != ((gi ac bF).Result)))],[(5,(48,(cO o_ a1 c1)))]⟩
     exact ⟨Z,_,(((gi l_ ((gi ac bF).Oper)).Result) != ((gi ac bF).Result)),hm,hS.sl _,hO,h115,h116,h117⟩
    replace hS:=hS.lit (t:=93) kr hb
    replace hm:=hm.2 hb
    refine tke T [8,9,14,10,15,11,12,13,16,17] [5,15] hS hH (tts 18) 0 [14,93] [(103,B false)] fun a hS=>?_
    refine aU kr ?_
    replace hS:=hS.sl ⟨[(1,Sl a2 l_ c2),(3,Sl a3 ac c3),(4,Pt 5 0),(13,I bF),(16,I bI.1),(103,B false)],[(5,(48,(cO o_ a1 c1)))]⟩
    exact ⟨Z,_,false,hm,hS.sl _,hO,h115,h116,h117⟩
   rintro a CA ⟨Z,wG,fE,hm,hS,hO,h129,h130,h132⟩
   unfold VC36_J3 at hm
   refine aG hS (b:=fE) kr (fun hb=>?_) fun hb=>?_
   ·replace hm:=hm.1 hb
    refine rP T hS ⟨[(8,I 0),(9,I bF),(10,I 40)],[]⟩ fun a hS=>?_
    refine aV ?_
    exact fin T hS hO (fun c=>c) rfl (r:=[.int .i64 0,.int .i64 bF,.int .i64 40]) kr (fun X' hM hC=>⟨(0,bF,40),hm,rfl⟩)
   replace hm:=hm.2 hb
   refine aJ ?_
   refine region (ePe T hS [16,103] [(2,I bI.1)] fun a hS=>?_)
   refine region (ePe T hS [] [(13,I (wR (bF+1)))] fun a hS=>?_)
   exact ⟨⟨bI.1,wR (bF+1)⟩,⟨Z,_,hm.1,hS.sl _,hO,h129,h130,h132⟩,hm.2⟩
  replace hm:=hm.2 hb
  refine cb (by rfl) ?_
  exact ⟨Z,_,dt,hm,hS.sl _,hO,h109⟩
 rintro a GY ⟨Z,IS,fG,hm,hS,hO,h106⟩
 unfold VC36_J1 at hm
 refine rPe T hS [2,3] [(8,I fG),(9,I (lN ac)),(10,I 0)] fun a hS=>?_
 refine aV ?_
 exact fin T hS hO (fun c=>c) rfl (r:=[.int .i64 fG,.int .i64 (lN ac),.int .i64 0]) kr (fun X' hM hC=>⟨(fG,(lN ac),0),hm,rfl⟩)
theorem C36 (Fu:S58) (Kw:S65) (v:∀ (o_:ah) (l_:List ab) (state:Int) (ac:List aa),VC36 o_ l_ state ac (fun r=>r=cN o_ l_ state ac)):S36:=by
 intro w X o_ l_ state ac a1 c1 a2 c2 a3 c3   h1 h2 h3
 refine (W36 Fu Kw w X o_ l_ state ac a1 c1 a2 c2 a3 c3   _ (v o_ l_ state ac) h1 h2 h3).mono ?_
 rintro _ _ _ _ ⟨r,rfl,h⟩
 exact h
theorem W67 (w0) (X0) (a_:ab) (b_:ab) (Q:Bool->Prop) (hm:VC67 a_ b_ Q) :
  Ret Tryz.prog 67 #[.agg #[.int .i64 a_.aj,.int .i64 a_.Kind,.int .i64 a_.aF,.int .i64 a_.End,.int .i64 a_.Result],.agg #[.int .i64 b_.aj,.int .i64 b_.Kind,.int .i64 b_.aF,.int .i64 b_.End,.int .i64 b_.Result]] aI w0 X0 (fun w X' v=>∃ r,Q r/\v=.bool r):=by
 unfold VC67 at hm
 refine enter Tryz.func67 rfl (vals:=[.agg #[.int .i64 a_.aj,.int .i64 a_.Kind,.int .i64 a_.aF,.int .i64 a_.End,.int .i64 a_.Result],.agg #[.int .i64 b_.aj,.int .i64 b_.Kind,.int .i64 b_.aF,.int .i64 b_.End,.int .i64 b_.Result]]) kr ?_
 intro Z a hS hO hM
 refine rM T hS ⟨[(2,Pt 3 0),(3,Pt 4 0)],[(3,(102,(cP a_))),(4,(102,(cP b_)))]⟩ fun Z a nS oy hS hE hr=>?_
 replace hO:=hO.m2 hE
 clear hE hr
 refine rP T hS ⟨[(4,B ((decide (a_.End≥0)) && (decide (b_.aF > a_.End))))],[]⟩ (sp:=[8]) fun a hS=>?_
 refine aV ?_
 exact fin T hS hO (fun c=>c) rfl (r:=[.bool ((decide (a_.End≥0)) && (decide (b_.aF > a_.End)))]) kr (fun X' hM hC=>⟨((decide (a_.End≥0)) && (decide (b_.aF > a_.End))),hm,rfl⟩)
theorem C67 (v:∀ (a_:ab) (b_:ab),VC67 a_ b_ (fun r=>r=iP a_ b_)):S67:=by
 intro w X a_ b_    
 refine (W67 w X a_ b_    _ (v a_ b_)).mono ?_
 rintro _ _ _ _ ⟨r,rfl,h⟩
 exact h
theorem W37 (Ft:S66) (Kv:S67) (w0) (X0) (l_:List ab) (ac:List aa) (a1) (c1) (a2) (c2) (Q:Int->Prop) (hm:VC37 l_ ac Q) (h1:RS aq w0 X0 a1 l_ c1) (h2:RS au w0 X0 a2 ac c2) :
  Ret Tryz.prog 37 #[.slice a1 l_.length c1,.slice a2 ac.length c2] aI w0 X0 (fun w X' v=>∃ r,Q r/\v=.int .i64 r):=by
 unfold VC37 at hm
 replace hm:=hm (h1.sm kr)
 replace hm:=hm (h2.sm kr)
 refine enter Tryz.func37 rfl (vals:=[.slice a1 l_.length c1,.slice a2 ac.length c2]) kr ?_
 intro Z a hS hO hM
 replace h1:=h1.m0 hM
 replace h2:=h2.m0 hM
 refine rPe T hS [] [] fun a hS=>?_
 refine b5 (fun a w=>∃ Z X,VC37_J1 Q/\St Tryz.f37.ntmps ⟨[],[]⟩ Z a w X/\Old w0 X0 w X) ?_ ?_
 ·refine rPe T hS [] [(5,I 0)] fun a hS=>?_
  refine aK ?_
  obtain ⟨I1,μ1,ci,hm⟩:=hm
  refine cg (σ:=Int) (fun s a w=>∃ Z X,I1 s/\St Tryz.f37.ntmps ⟨[(0,Sl a1 l_ c1),(1,Sl a2 ac c2),(5,I s)],[]⟩ Z a w X/\Old w0 X0 w X/\RS aq w X a1 l_ c1/\RS au w X a2 ac c2) (fun s=>μ1 s) (0) ?_ ?_
  ·exact ⟨Z,_,ci,hS.sl _,hO,h1,h2⟩
  rintro be a yh ⟨Z,DL,hI,hS,hO,h101,h102⟩
  replace hm:=hm be hI
  clear hI ci
  refine bc ?_
  refine rPe T hS [] [(12,B (decide (be < (lN ac))))] fun a hS=>?_
  refine aG hS (b:=decide (be < (lN ac))) kr (fun hb=>?_) fun hb=>?_
  ·replace hm:=hm.1 hb
   refine aJ ?_
   refine b5 (fun a w=>∃ Z X,VC37_J2 I1 μ1 be/\St Tryz.f37.ntmps ⟨[(0,Sl a1 l_ c1),(1,Sl a2 ac c2),(5,I be)],[]⟩ Z a w X/\Old w0 X0 w X/\RS aq w X a1 l_ c1/\RS au w X a2 ac c2) ?_ ?_
   ·refine aK ?_
    refine bl ?_
    refine oPe T hS 2 [12] [(15,Sl a2 ac c2),(16,I be)] fun a hS=>?_
    obtain ⟨hq,hm⟩:=hm
    refine op1 (index (e:=56) (k:=.i64) T hS kr kr kr kr h102 kr kr hq.1 hq.2 ?_)
    intro Jb a h107 hS
    refine op1 (e7 (off:=0) (fsz:=1) (ft:=3) (TF:=tI) (y:=(gi ac be).Oper) T hS kr kr kr h107 kr kr kr (fun cs h=>gF h) ?_)
    intro ML a h109 hS
    refine op1 (dL T hS kr kr kr h109 rfl kr ?_)
    intro v110 a hv hS
    cases hv
    refine ePe T hS [15,16,17,18,19] [(6,I ((gi ac be).Oper))] fun a hS=>?_
    refine rPe T hS [] [(7,I 0)] fun a hS=>?_
    refine aK ?_
    obtain ⟨I2,μ2,ci,hm⟩:=hm
    refine cg (σ:=Int) (fun s a w=>∃ Z X,I2 s/\St Tryz.f37.ntmps ⟨[(0,Sl a1 l_ c1),(1,Sl a2 ac c2),(5,I be),(6,I ((gi ac be).Oper)),(7,I s)],[]⟩ Z a w X/\Old w0 X0 w X/\RS aq w X a1 l_ c1/\RS au w X a2 ac c2) (fun s=>μ2 s) (0) ?_ ?_
    ·exact ⟨Z,_,ci,hS.sl _,hO,h101,h102⟩
    rintro bd a r8 ⟨Z,tp,hI,hS,hO,h111,h112⟩
    replace hm:=hm bd hI
    clear hI ci
    refine bc ?_
    refine rPe T hS [] [(33,B (((decide (bd < (lN l_))) && (decide (((gi ac be).Oper)≥0))) && (decide (((gi ac be).Oper) < (lN l_)))))] (sp:=[24,28]) fun a hS=>?_
    refine aG hS (b:=(((decide (bd < (lN l_))) && (decide (((gi ac be).Oper)≥0))) && (decide (((gi ac be).Oper) < (lN l_))))) kr (fun hb=>?_) fun hb=>?_
    ·replace hm:=hm.1 hb
     refine aJ (bc ?_)
     refine aK ?_
     refine bl ?_
     refine oPe T hS 2 [33] [(36,Sl a2 ac c2),(37,I bd)] fun a hS=>?_
     refine op1 (call hS kr kr hb66 kr (fun _ _=>rfl) (Ft _ _ ac bd a2 c2 h112) ?_)
     intro v114 a oX tr hE hp hS
     replace hO:=hO.m2 hE
     replace h111:=h111.m1 hE
     replace h112:=h112.m1 hE
     obtain ⟨d6,hr⟩:∃ r,cc ac bd=r:=⟨_,rfl⟩
     replace hm:=hm d6 hr
     rw [hr] at hp
     clear hr
     subst hp
     refine ePe T hS [36,37,38] [(8,I d6)] fun a hS=>?_
     refine b5 (fun a w=>∃ (Z:Nat->Nat) (X:Nat->Nat) (d3:Bool),VC37_J3 Q be I2 μ2 bd d3/\St Tryz.f37.ntmps ⟨[(0,Sl a1 l_ c1),(1,Sl a2 ac c2),(5,I be),(6,I ((gi ac be).Oper)),(7,I bd),(56,B d3)],[]⟩ Z a w X/\Old w0 X0 w X/\RS aq w X a1 l_ c1/\RS au w X a2 ac c2) ?_ ?_
     ·refine hJ [] mixed hS ?_
      intro vz B8 hS hE hD hH
      replace hO:=hO.m2 hE
      replace h111:=h111.m1 hE
      replace h112:=h112.m1 hE
      refine tke T [0,1,4,5] [] hS hH #[true,true,false,false,true,true,false,false,false,false,false,false,false,false,false,false,false,false] 14 [] [(39,Sl a1 l_ c1),(40,I bd),(43,Sl a1 l_ c1),(44,I ((gi ac be).Oper))] fun a hS=>?_
      obtain ⟨hq,hm⟩:=hm
      refine db (e:=102) (k:=.i64) T 2 hS kr kr kr (by rfl) kr hH kr kr h111 kr kr hq.1 hq.2 ?_
      intro DR a h124 hS
      have qr:=h124.here
      refine jJ T 3 hS kr kr kr (by rfl) kr hH kr h124 qr kr kr ?_
      intro v125 a hv hS
      subst hv
      obtain ⟨hq,hm⟩:=hm
      refine db (e:=102) (k:=.i64) T 6 hS kr kr kr (by rfl) kr hH kr kr h111 kr kr hq.1 hq.2 ?_
      intro Re a h127 hS
      have HV:=h127.here
      refine jJ T 7 hS kr kr kr (by rfl) kr hH kr h127 HV kr kr ?_
      intro v128 a hv hS
      subst hv
      refine only 8 kr (by rfl) (call hS kr kr hb67 kr (fun _ _=>rfl) (Kv _ _ (gi l_ bd) (gi l_ ((gi ac be).Oper))) ?_)
      intro v129 a tA B6 hE hp hS
      replace hO:=hO.m2 hE
      replace hD:=hD.ev hE rfl
      replace h111:=h111.m1 hE
      replace h112:=h112.m1 hE
      replace h124:=h124.m1 hE
      replace h127:=h127.m1 hE
      obtain ⟨gc,hr⟩:∃ r,iP (gi l_ bd) (gi l_ ((gi ac be).Oper))=r:=⟨_,rfl⟩
      replace hm:=hm gc hr
      rw [hr] at hp
      clear hr
      subst hp
      refine c8 (bJ.of hS (bks:=[]) kr hD) ?_
      intro hH
      refine tke T [9] [] hS hH #[true,true,true,true,true,true,true,true,true,true,false,false,false,false,false,false,false,false] 8 [39,40,43,44,41,42,45,46,47] [(48,B gc)] fun a hS=>?_
      rcases bft gc with hb | hb
      ·replace hS:=hS.lit (t:=48) kr hb
       replace hm:=hm.1 hb
       refine tke T [10,11,12] [] hS hH #[true,true,true,true,true,true,true,true,true,true,true,true,true,false,false,false,false,false] 5 [] [(51,B (decide (d6 < 0)))] fun a hS=>?_
       refine jv (tc:=51) (b:=decide (d6 < 0)) (f:=fun c=>⟨[(0,Sl a1 l_ c1),(1,Sl a2 ac c2),(5,I be),(6,I ((gi ac be).Oper)),(7,I bd),(48,B true),(55,B (c || (decide (d6≥be))))],[]⟩) T [13,14,15,16] [] [0,1,5,6,7,48,55] hS kr kr kr kr hH (listed':=#[true,true,true,true,true,true,true,true,true,true,true,true,true,true,true,true,true,false]) (fuel:=1) kr kr (by rfl) ?_
       intro a hS
       refine tke T [17] [] hS hH (tts 18) 0 [48,55] [(56,B ((decide (d6 < 0)) || (decide (d6≥be))))] fun a hS=>?_
       refine aU kr ?_
       replace hS:=hS.sle [] []
       exact ⟨Z,_,((decide (d6 < 0)) || (decide (d6≥be))),hm,hS.sl _,hO,h111,h112⟩
      replace hS:=hS.lit (t:=48) kr hb
      replace hm:=hm.2 hb
      refine tke T [10,11,12,13,14,15,16,17] [] hS hH (tts 18) 0 [8,48] [(56,B false)] fun a hS=>?_
      refine aU kr ?_
      replace hS:=hS.sle [] []
      exact ⟨Z,_,false,hm,hS.sl _,hO,h111,h112⟩
     rintro a tz ⟨Z,Mw,d3,hm,hS,hO,h118,h119⟩
     unfold VC37_J3 at hm
     refine aG hS (b:=d3) kr (fun hb=>?_) fun hb=>?_
     ·replace hm:=hm.1 hb
      refine rPe T hS [0,1,5,6,7,56] [(4,I be)] fun a hS=>?_
      refine aV ?_
      exact fin T hS hO (fun c=>c) rfl (r:=[.int .i64 be]) kr (fun X' hM hC=>⟨be,hm,rfl⟩)
     replace hm:=hm.2 hb
     refine aJ ?_
     refine region (ePe T hS [56] [(7,I (wR (bd+1)))] fun a hS=>?_)
     exact ⟨wR (bd+1),⟨Z,_,hm.1,hS.sl _,hO,h118,h119⟩,hm.2⟩
    replace hm:=hm.2 hb
    refine cb (by rfl) ?_
    exact ⟨Z,_,hm,hS.sl _,hO,h111,h112⟩
   rintro a Ad ⟨Z,vi,hm,hS,hO,h104,h105⟩
   unfold VC37_J2 at hm
   refine region (ePe T hS [] [(5,I (wR (be+1)))] fun a hS=>?_)
   exact ⟨wR (be+1),⟨Z,_,hm.1,hS.sl _,hO,h104,h105⟩,hm.2⟩
  replace hm:=hm.2 hb
  refine cb (by rfl) ?_
  exact ⟨Z,_,hm,hS.sl _,hO⟩
 rintro a py ⟨Z,wH,hm,hS,hO⟩
 unfold VC37_J1 at hm
 refine rPe T hS [] [(4,I (-1))] fun a hS=>?_
 refine aV ?_
 exact fin T hS hO (fun c=>c) rfl (r:=[.int .i64 (-1)]) kr (fun X' hM hC=>⟨(-1),hm,rfl⟩)
theorem C37 (Ft:S66) (Kv:S67) (v:∀ (l_:List ab) (ac:List aa),VC37 l_ ac (fun r=>r=ep l_ ac)):S37:=by
 intro w X l_ ac a1 c1 a2 c2   h1 h2
 refine (W37 Ft Kv w X l_ ac a1 c1 a2 c2   _ (v l_ ac) h1 h2).mono ?_
 rintro _ _ _ _ ⟨r,rfl,h⟩
 exact h
end Go.Proofs.YteahldlmkheleaaGreat
