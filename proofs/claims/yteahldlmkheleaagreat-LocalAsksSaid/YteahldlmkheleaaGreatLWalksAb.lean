/- Walks. -/
import Derived.Test.YteahldlmkheleaaGreatLWalksS
set_option linter.all false
namespace Go.Proofs.YteahldlmkheleaaGreat
open Go Go.Sv
set_option maxHeartbeats 1000000
theorem W34 (xf:S63) (w0) (X0) (l_:List ab) (ac:List aa) (a1) (c1) (a2) (c2) (Q:Int->Prop) (hm:VC34 l_ ac Q) (h1:RS ao w0 X0 a1 l_ c1) (h2:RS aq w0 X0 a2 ac c2) :
  Ret Tryz.prog 34 #[.slice a1 l_.length c1,.slice a2 ac.length c2] aJ w0 X0 (fun w X' v=>∃ r,Q r/\v=.int .i64 r):=by
 unfold VC34 at hm
 replace hm:=hm (h1.sm kr)
 replace hm:=hm (h2.sm kr)
 refine enter Tryz.func34 rfl (vals:=[.slice a1 l_.length c1,.slice a2 ac.length c2]) kr ?_
 intro Z a hS hO hM
 replace h1:=h1.m0 hM
 replace h2:=h2.m0 hM
 refine rPe T hS [] [] fun a hS=>?_
 refine FZ (by rfl) ?_
 refine bj ?_
 refine op1 (pc kI tI false 1011 hS kr kr ?_)
 intro d4 a eZ fa hE h104 hS
 replace hO:=hO.m2 hE
 replace h1:=h1.m1 hE
 replace h2:=h2.m1 hE
 refine ePe T hS [10] [(5,V (.map (some d4)))] fun a hS=>?_
 refine bc ?_
 refine F0 ?_
 refine bT (fun a w=>∃ Z X,VC34_J1 Q/\St Tryz.f34.ntmps ⟨[],[]⟩ Z a w X/\Old w0 X0 w X) ?_ ?_
 ·refine rPe T hS [1] [(11,Sl a2 ac c2),(12,I (lN ac)),(13,I 0)] fun a hS=>?_
  refine aL ?_
  obtain ⟨I1,μ1,co,hm⟩:=hm
  refine cl (σ:=(List (Int × Int)) × Int) (fun s a w=>∃ Z X,I1 s.1 s.2/\St Tryz.f34.ntmps ⟨[(0,Sl a1 l_ c1),(5,V (.map (some d4))),(11,Sl a2 ac c2),(12,I (lN ac)),(13,I s.2)],[]⟩ Z a w X/\Old w0 X0 w X/\RS ao w X a1 l_ c1/\OM kI tI false w X 1011 d4 s.1/\RS aq w X a2 ac c2) (fun s=>μ1 s.1 s.2) (⟨([]:List (Int × Int)),0⟩) ?_ ?_
  ·exact ⟨Z,_,co,hS.sl _,hO,h1,h104,h2⟩
  rintro ⟨fB,cH⟩ a wo ⟨Z,t8,hI,hS,hO,h105,h107,h108⟩
  replace hm:=hm fB cH hI
  clear hI co
  refine rPe T hS [] [(14,B (decide (cH < (lN ac))))] fun a hS=>?_
  refine bc ?_
  refine aG hS (b:=decide (cH < (lN ac))) kr (fun hb=>?_) fun hb=>?_
  ·replace hm:=hm.1 hb
   refine aH ?_
   refine bT (fun a w=>∃ (Z:Nat->Nat) (X:Nat->Nat) (dr:List (Int × Int)),VC34_J2 I1 μ1 fB cH dr/\St Tryz.f34.ntmps ⟨[(0,Sl a1 l_ c1),(5,V (.map (some d4))),(11,Sl a2 ac c2),(12,I (lN ac)),(13,I cH)],[]⟩ Z a w X/\Old w0 X0 w X/\RS ao w X a1 l_ c1/\OM kI tI false w X 1011 d4 dr/\RS aq w X a2 ac c2) ?_ ?_
   ·refine aL ?_
    refine bj ?_
    refine oPe T hS 1 [14] [(15,I cH)] fun a hS=>?_
    obtain ⟨hq,hm⟩:=hm
    refine op1 (index (e:=56) (k:=.i64) T hS kr kr kr kr h108 kr kr hq.1 hq.2 ?_)
    intro E0 a h115 hS
    refine op1 (eC T hS kr kr kr h115 kr kr ?_)
    intro v116 a hv hS
    subst hv
    refine eM T hS ⟨[(0,Sl a1 l_ c1),(5,V (.map (some d4))),(6,I cH),(7,Pt 8 0),(11,Sl a2 ac c2),(12,I (lN ac)),(13,I cH)],[(8,(56,(cK (gi ac cH))))]⟩ fun Z a rr t9 hS hE hr=>?_
    replace hO:=hO.m2 hE
    replace h105:=h105.m1 hE
    replace h107:=h107.m2 hE
    replace h108:=h108.m1 hE
    clear hE hr
    refine bc ?_
    refine rPe T hS [] [(27,B ((decide (((gi ac cH).Oper) < 0)) || (decide (((gi ac cH).Oper)≥(lN l_)))))] (sp:=[21]) fun a hS=>?_
    refine aG hS (b:=((decide (((gi ac cH).Oper) < 0)) || (decide (((gi ac cH).Oper)≥(lN l_))))) kr (fun hb=>?_) fun hb=>?_
    ·replace hm:=hm.1 hb
     refine cb (by rfl) ?_
     exact ⟨Z,_,fB,hm,hS.sl _,hO,h105,h107,h108⟩
    replace hm:=hm.2 hb
    refine aH ?_
    refine bT (fun a w=>∃ Z X,VC34_J3 ac I1 μ1 fB cH/\St Tryz.f34.ntmps ⟨[(0,Sl a1 l_ c1),(5,V (.map (some d4))),(7,Pt 8 0),(11,Sl a2 ac c2),(12,I (lN ac)),(13,I cH)],[(8,(56,(cK (gi ac cH))))]⟩ Z a w X/\Old w0 X0 w X/\RS ao w X a1 l_ c1/\OM kI tI false w X 1011 d4 fB/\RS aq w X a2 ac c2) ?_ ?_
    ·refine rPe T hS [27] [(28,Sl a1 l_ c1),(29,I (lN l_)),(30,I 0)] fun a hS=>?_
     refine aL ?_
     obtain ⟨I2,μ2,co,hm⟩:=hm
     refine cl (σ:=Int) (fun s a w=>∃ Z X,I2 s/\St Tryz.f34.ntmps ⟨[(0,Sl a1 l_ c1),(5,V (.map (some d4))),(6,I cH),(7,Pt 8 0),(11,Sl a2 ac c2),(12,I (lN ac)),(13,I cH),(28,Sl a1 l_ c1),(29,I (lN l_)),(30,I s)],[(8,(56,(cK (gi ac cH))))]⟩ Z a w X/\Old w0 X0 w X/\RS ao w X a1 l_ c1/\OM kI tI false w X 1011 d4 fB/\RS aq w X a2 ac c2/\RS ao w X a1 l_ c1) (fun s=>μ2 s) (0) ?_ ?_
     ·exact ⟨Z,_,co,hS.sl _,hO,h105,h107,h108,h105⟩
     rintro dX a F8 ⟨Z,EV,hI,hS,hO,h123,h124,h125,h126⟩
     replace hm:=hm dX hI
     clear hI co
     refine rPe T hS [] [(31,B (decide (dX < (lN l_))))] fun a hS=>?_
     refine bc ?_
     refine aG hS (b:=decide (dX < (lN l_))) kr (fun hb=>?_) fun hb=>?_
     ·replace hm:=hm.1 hb
      refine aH (bc ?_)
      refine aL ?_
      refine bj ?_
      refine oPe T hS 1 [31] [(32,I dX)] fun a hS=>?_
      obtain ⟨hq,hm⟩:=hm
      refine op1 (index (e:=102) (k:=.i64) T hS kr kr kr kr h126 kr kr hq.1 hq.2 ?_)
      intro NJ a h129 hS
      refine op1 (eC T hS kr kr kr h129 kr kr ?_)
      intro v130 a hv hS
      subst hv
      refine eM T hS ⟨[(0,Sl a1 l_ c1),(5,V (.map (some d4))),(6,I cH),(7,Pt 8 0),(8,I dX),(9,Pt 10 0),(11,Sl a2 ac c2),(12,I (lN ac)),(13,I cH),(28,Sl a1 l_ c1),(29,I (lN l_)),(30,I dX)],[(8,(56,(cK (gi ac cH)))),(10,(102,(cP (gi l_ dX))))]⟩ fun Z a zk xC hS hE hr=>?_
      replace hO:=hO.m2 hE
      replace h123:=h123.m1 hE
      replace h124:=h124.m2 hE
      replace h125:=h125.m1 hE
      replace h126:=h126.m1 hE
      clear hE hr
      refine bT (fun a w=>∃ (Z:Nat->Nat) (X:Nat->Nat) (f8:Bool),VC34_J4 Q cH I2 μ2 dX f8/\St Tryz.f34.ntmps ⟨[(0,Sl a1 l_ c1),(5,V (.map (some d4))),(6,I cH),(7,Pt 8 0),(11,Sl a2 ac c2),(12,I (lN ac)),(13,I cH),(28,Sl a1 l_ c1),(29,I (lN l_)),(30,I dX),(47,B f8)],[(8,(56,(cK (gi ac cH))))]⟩ Z a w X/\Old w0 X0 w X/\RS ao w X a1 l_ c1/\OM kI tI false w X 1011 d4 fB/\RS aq w X a2 ac c2/\RS ao w X a1 l_ c1) ?_ ?_
      ·refine gI [8,10] mixed hS ?_
       intro p3 rH hS hE hD hH
       replace hO:=hO.m2 hE
       replace h123:=h123.m1 hE
       replace h124:=h124.m2 hE
       replace h125:=h125.m1 hE
       replace h126:=h126.m1 hE
       refine tke T [0,1,2,3] [8,10] hS hH #[true,true,true,true,false,false,false,false,false,false,false,false,false] 9 [9] [(35,V (.agg #[.int .i64 ((gi l_ dX).aj),.int .i64 ((gi l_ dX).Kind),.int .i64 ((gi l_ dX).aE),.int .i64 ((gi l_ dX).End),.int .i64 ((gi l_ dX).Result)])),(36,Sl a1 l_ c1),(38,I ((gi ac cH).Oper))] fun a hS=>?_
       obtain ⟨hq,hm⟩:=hm
       refine c7 (e:=102) (k:=.i64) T 4 hS kr kr kr (by rfl) kr hH kr kr h123 kr kr hq.1 hq.2 ?_
       intro Hu a h139 hS
       have yO:=h139.here
       refine jr T 5 hS kr kr kr (by rfl) kr hH kr h139 yO kr kr ?_
       intro v140 a hv hS
       subst hv
       refine only 6 kr (by rfl) (call hS kr kr hb63 kr (fun _ _=>rfl) (xf _ _ (gi l_ dX) (gi l_ ((gi ac cH).Oper))) ?_)
       intro v141 a pm rk hE hp hS
       replace hO:=hO.m2 hE
       replace hD:=hD.ev hE rfl
       replace h123:=h123.m1 hE
       replace h124:=h124.m2 hE
       replace h125:=h125.m1 hE
       replace h126:=h126.m1 hE
       replace h139:=h139.m1 hE
       obtain ⟨gc,hr⟩:∃ r,aZ (gi l_ dX) (gi l_ ((gi ac cH).Oper))=r:=⟨_,rfl⟩
       replace hm:=hm gc hr
       rw [hr] at hp
       clear hr
       subst hp
       replace hS:=hS.sle [] [(41,B gc)]
       refine cW (bH.of hS (bks:=[8,10]) kr hD) ?_
       intro hH
       refine tke T [7] [8,10] hS hH #[true,true,true,true,true,true,true,true,false,false,false,false,false] 5 [35,36,38,39,40,41] [(42,B gc)] fun a hS=>?_
       rcases bft gc with hb | hb
       ·replace hS:=hS.lit (t:=42) kr hb
        replace hm:=hm.1 hb
        refine tke T [8,9] [8,10] hS hH #[true,true,true,true,true,true,true,true,true,true,false,false,false] 3 [8] [(43,V (.map (some d4))),(44,I dX)] fun a hS=>?_
        refine only 10 kr (by rfl) (j6 kI tI false (zv:=.int .i64 0) (z:=0) dX hS kr kr kr kr Tryz.underlying113 Tryz.underlying3 kr rfl h124 ?_)
        intro v145 a hv hS
        replace hv:tI.R _ _ [v145] _:=hv
        cases hv
        refine cW (bH.of hS (bks:=[8,10]) kr hD) ?_
        intro hH
        refine tke T [11,12] [8,10] hS hH (tts 13) 0 [42,43,44,45] [(47,B (((aF fB dX).getD 0) == 0))] fun a hS=>?_
        refine aS kr ?_
        replace hS:=hS.sl ⟨[(0,Sl a1 l_ c1),(5,V (.map (some d4))),(6,I cH),(7,Pt 8 0),(11,Sl a2 ac c2),(12,I (lN ac)),(13,I cH),(28,Sl a1 l_ c1),(29,I (lN l_)),(30,I dX),(47,B (((aF fB dX).getD 0) == 0))],[(8,(56,(cK (gi ac cH))))]⟩
        exact ⟨Z,_,(((aF fB dX).getD 0) == 0),hm,hS.sl _,hO,h123,h124,h125,h126⟩
       replace hS:=hS.lit (t:=42) kr hb
       replace hm:=hm.2 hb
       refine tke T [8,9,10,11,12] [8,10] hS hH (tts 13) 0 [8,42] [(47,B false)] fun a hS=>?_
       refine aS kr ?_
       replace hS:=hS.sl ⟨[(0,Sl a1 l_ c1),(5,V (.map (some d4))),(6,I cH),(7,Pt 8 0),(11,Sl a2 ac c2),(12,I (lN ac)),(13,I cH),(28,Sl a1 l_ c1),(29,I (lN l_)),(30,I dX),(47,B false)],[(8,(56,(cK (gi ac cH))))]⟩
       exact ⟨Z,_,false,hm,hS.sl _,hO,h123,h124,h125,h126⟩
      rintro a wq ⟨Z,AH,f8,hm,hS,hO,h131,h132,h133,h134⟩
      unfold VC34_J4 at hm
      refine aG hS (b:=f8) kr (fun hb=>?_) fun hb=>?_
      ·replace hm:=hm.1 hb
       refine rP T hS ⟨[(4,I cH)],[]⟩ fun a hS=>?_
       refine aY ?_
       exact fin T hS hO (fun c=>c) rfl (r:=[.int .i64 cH]) kr (fun X' hM hC=>⟨cH,hm,rfl⟩)
      replace hm:=hm.2 hb
      refine aH ?_
      refine region (ePe T hS [47] [(30,I (wR (dX+1)))] fun a hS=>?_)
      exact ⟨wR (dX+1),⟨Z,_,hm.1,hS.sl _,hO,h131,h132,h133,h134⟩,hm.2⟩
     replace hm:=hm.2 hb
     refine cb (by rfl) ?_
     exact ⟨Z,_,hm,hS.sl _,hO,h123,h124,h125⟩
    rintro a zj ⟨Z,wa,hm,hS,hO,h117,h118,h119⟩
    unfold VC34_J3 at hm
    refine region ?_
    refine oP T hS 3 ⟨[(0,Sl a1 l_ c1),(5,V (.map (some d4))),(11,Sl a2 ac c2),(12,I (lN ac)),(13,I cH),(50,V (.map (some d4))),(52,I ((gi ac cH).Oper))],[]⟩ fun a hS=>?_
    refine op1 (j6 kI tI false (zv:=.int .i64 0) (z:=0) ((gi ac cH).Oper) hS kr kr kr kr Tryz.underlying113 Tryz.underlying3 kr rfl h118 ?_)
    intro v120 a hv hS
    replace hv:tI.R _ _ [v120] _:=hv
    cases hv
    refine oPe T hS 1 [53] [(54,I (wR (((aF fB ((gi ac cH).Oper)).getD 0)+1)))] fun a hS=>?_
    refine op1 (tD kI tI false (v:=I (wR (((aF fB ((gi ac cH).Oper)).getD 0)+1))) (u:=wR (((aF fB ((gi ac cH).Oper)).getD 0)+1)) ((gi ac cH).Oper) hS kr kr kr kr Tryz.underlying113 Tryz.underlying3 kr h118 rfl ?_)
    intro a up hE h122 hS
    clear h118
    replace hO:=hO.m2 hE
    replace h117:=h117.m1 hE
    replace h119:=h119.m1 hE
    refine gX ?_
    exact ⟨Z,_,dk fB ((gi ac cH).Oper) (wR (((aF fB ((gi ac cH).Oper)).getD 0)+1)),hm,hS.sl _,hO,h117,h122,h119⟩
   rintro a sR ⟨Z,AF,dr,hm,hS,hO,h110,h112,h113⟩
   unfold VC34_J2 at hm
   refine region (ePe T hS [] [(13,I (wR (cH+1)))] fun a hS=>?_)
   exact ⟨⟨dr,wR (cH+1)⟩,⟨Z,_,hm.1,hS.sl _,hO,h110,h112,h113⟩,hm.2⟩
  replace hm:=hm.2 hb
  refine cb (by rfl) ?_
  exact ⟨Z,_,hm,hS.sl _,hO⟩
 rintro a H6 ⟨Z,ET,hm,hS,hO⟩
 unfold VC34_J1 at hm
 refine rPe T hS [] [(4,I (-1))] fun a hS=>?_
 refine aY ?_
 exact fin T hS hO (fun c=>c) rfl (r:=[.int .i64 (-1)]) kr (fun X' hM hC=>⟨(-1),hm,rfl⟩)
theorem C34 (xf:S63) (v:∀ (l_:List ab) (ac:List aa),VC34 l_ ac (fun r=>r=cA l_ ac)):S34:=by
 intro w X l_ ac a1 c1 a2 c2   h1 h2
 refine (W34 xf w X l_ ac a1 c1 a2 c2   _ (v l_ ac) h1 h2).mono ?_
 rintro _ _ _ _ ⟨r,rfl,h⟩
 exact h
theorem W106 (w0) (X0) (o_:ab) (Q:Bool->Prop) (hm:VC106 o_ Q) :
  Ret Tryz.prog 106 #[.agg #[.int .i64 o_.aj,.int .i64 o_.Kind,.int .i64 o_.aE,.int .i64 o_.End,.int .i64 o_.Result]] aJ w0 X0 (fun w X' v=>∃ r,Q r/\v=.bool r):=by
 unfold VC106 at hm
 refine enter Tryz.func106 rfl (vals:=[.agg #[.int .i64 o_.aj,.int .i64 o_.Kind,.int .i64 o_.aE,.int .i64 o_.End,.int .i64 o_.Result]]) kr ?_
 intro Z a hS hO hM
 refine rM T hS ⟨[(1,Pt 2 0)],[(2,(102,(cP o_)))]⟩ fun Z a oE o3 hS hE hr=>?_
 replace hO:=hO.m2 hE
 clear hE hr
 refine bc ?_
 refine rPe T hS [] [(5,B (o_.End == (-1)))] fun a hS=>?_
 refine aG hS (b:=(o_.End == (-1))) kr (fun hb=>?_) fun hb=>?_
 ·replace hm:=hm.1 hb
  refine rP T hS ⟨[(2,B (o_.Result == (-1)))],[]⟩ fun a hS=>?_
  refine aY ?_
  exact fin T hS hO (fun c=>c) rfl (r:=[.bool (o_.Result == (-1))]) kr (fun X' hM hC=>⟨(o_.Result == (-1)),hm,rfl⟩)
 replace hm:=hm.2 hb
 refine aH ?_
 refine rP T hS ⟨[(2,B ((((decide (o_.End > o_.aE)) && (decide (o_.End≤9999))) && (decide (o_.Result≥0))) && (decide (o_.Result≤1000000))))],[]⟩ (sp:=[14,19,24]) fun a hS=>?_
 refine aY ?_
 exact fin T hS hO (fun c=>c) rfl (r:=[.bool ((((decide (o_.End > o_.aE)) && (decide (o_.End≤9999))) && (decide (o_.Result≥0))) && (decide (o_.Result≤1000000)))]) kr (fun X' hM hC=>⟨((((decide (o_.End > o_.aE)) && (decide (o_.End≤9999))) && (decide (o_.Result≥0))) && (decide (o_.Result≤1000000))),hm,rfl⟩)
theorem C106 (v:∀ (o_:ab),VC106 o_ (fun r=>r=dR o_)):S106:=by
 intro w X o_    
 refine (W106 w X o_    _ (v o_)).mono ?_
 rintro _ _ _ _ ⟨r,rfl,h⟩
 exact h
theorem W95 (GL:S106) (w0) (X0) (o_:ab) (Q:Int->Prop) (hm:VC95 o_ Q) :
  Ret Tryz.prog 95 #[.agg #[.int .i64 o_.aj,.int .i64 o_.Kind,.int .i64 o_.aE,.int .i64 o_.End,.int .i64 o_.Result]] aJ w0 X0 (fun w X' v=>∃ r,Q r/\v=.int .i64 r):=by
 unfold VC95 at hm
 refine enter Tryz.func95 rfl (vals:=[.agg #[.int .i64 o_.aj,.int .i64 o_.Kind,.int .i64 o_.aE,.int .i64 o_.End,.int .i64 o_.Result]]) kr ?_
 intro Z a hS hO hM
 refine rM T hS ⟨[(1,Pt 2 0)],[(2,(102,(cP o_)))]⟩ fun Z a nG ms hS hE hr=>?_
 replace hO:=hO.m2 hE
 clear hE hr
 refine bc ?_
 refine aL ?_
 refine rPe T hS [] [(3,B ((((decide (o_.aj < 1)) || (decide (o_.aj > 1000))) || (decide (o_.aE < 0))) || (decide (o_.aE > 9999))))] (sp:=[7,12,17]) fun a hS=>?_
 refine aG hS (b:=((((decide (o_.aj < 1)) || (decide (o_.aj > 1000))) || (decide (o_.aE < 0))) || (decide (o_.aE > 9999)))) kr (fun hb=>?_) fun hb=>?_
 ·replace hm:=hm.1 hb
  refine rP T hS ⟨[(2,I 2)],[]⟩ fun a hS=>?_
  refine aY ?_
  exact fin T hS hO (fun c=>c) rfl (r:=[.int .i64 2]) kr (fun X' hM hC=>⟨2,hm,rfl⟩)
 replace hm:=hm.2 hb
 refine rPe T hS [3] [(22,B ((decide (o_.Kind < 0)) || (decide (o_.Kind≥64))))] (sp:=[26]) fun a hS=>?_
 refine aG hS (b:=((decide (o_.Kind < 0)) || (decide (o_.Kind≥64)))) kr (fun hb=>?_) fun hb=>?_
 ·replace hm:=hm.1 hb
  refine rP T hS ⟨[(2,I 31)],[]⟩ fun a hS=>?_
  refine aY ?_
  exact fin T hS hO (fun c=>c) rfl (r:=[.int .i64 31]) kr (fun X' hM hC=>⟨31,hm,rfl⟩)
 replace hm:=hm.2 hb
 refine bj ?_
 refine oP T hS 1 ⟨[(32,V (.agg #[.int .i64 o_.aj,.int .i64 o_.Kind,.int .i64 o_.aE,.int .i64 o_.End,.int .i64 o_.Result]))],[]⟩ fun a hS=>?_
 refine op1 (call hS kr kr hb106 kr (fun _ _=>rfl) (GL _ _ o_) ?_)
 intro v101 a eZ fa hE hp hS
 replace hO:=hO.m2 hE
 obtain ⟨ap,hr⟩:∃ r,dR o_=r:=⟨_,rfl⟩
 replace hm:=hm ap hr
 rw [hr] at hp
 clear hr
 subst hp
 refine ePe T hS [32,33] [(31,B (!ap))] fun a hS=>?_
 refine aG hS (b:=(!ap)) kr (fun hb=>?_) fun hb=>?_
 ·replace hm:=hm.1 hb
  refine rPe T hS [31] [(2,I 7)] fun a hS=>?_
  refine aY ?_
  exact fin T hS hO (fun c=>c) rfl (r:=[.int .i64 7]) kr (fun X' hM hC=>⟨7,hm,rfl⟩)
 replace hm:=hm.2 hb
 refine aH ?_
 refine rPe T hS [31] [(2,I 0)] fun a hS=>?_
 refine aY ?_
 exact fin T hS hO (fun c=>c) rfl (r:=[.int .i64 0]) kr (fun X' hM hC=>⟨0,hm,rfl⟩)
theorem C95 (GL:S106) (v:∀ (o_:ab),VC95 o_ (fun r=>r=cQ o_)):S95:=by
 intro w X o_    
 refine (W95 GL w X o_    _ (v o_)).mono ?_
 rintro _ _ _ _ ⟨r,rfl,h⟩
 exact h
theorem W80 (xf:S63) (Lm:S95) (w0) (X0) (l_:List ab) (a1) (c1) (Q:Int × Int->Prop) (hm:VC80 l_ Q) (h1:RS ao w0 X0 a1 l_ c1) :
  Ret Tryz.prog 80 #[.slice a1 l_.length c1] aJ w0 X0 (fun w X' v=>∃ r,Q r/\v=.tuple #[.int .i64 r.1,.int .i64 r.2]):=by
 unfold VC80 at hm
 replace hm:=hm (h1.sm kr)
 refine enter Tryz.func80 rfl (vals:=[.slice a1 l_.length c1]) kr ?_
 intro Z a hS hO hM
 replace h1:=h1.m0 hM
 refine rPe T hS [] [] fun a hS=>?_
 refine bc ?_
 refine rPe T hS [] [(13,B (decide ((lN l_) > 5000)))] fun a hS=>?_
 refine aG hS (b:=decide ((lN l_) > 5000)) kr (fun hb=>?_) fun hb=>?_
 ·replace hm:=hm.1 hb
  refine rPe T hS [0,13] [(2,I 0),(3,I 3)] fun a hS=>?_
  refine aY ?_
  exact fin T hS hO (fun c=>c) rfl (r:=[.int .i64 0,.int .i64 3]) kr (fun X' hM hC=>⟨(0,3),hm,rfl⟩)
 replace hm:=hm.2 hb
 refine aH ?_
 refine bj ?_
 refine op1 (pc kI tI false 1015 hS kr kr ?_)
 intro d4 a eZ fa hE h104 hS
 replace hO:=hO.m2 hE
 replace h1:=h1.m1 hE
 refine ePe T hS [13,14] [(4,V (.map (some d4)))] fun a hS=>?_
 refine bj ?_
 refine op1 (pc kI ao true 1016 hS kr kr ?_)
 intro iV a mg mc hE h108 hS
 replace hO:=hO.m2 hE
 replace h1:=h1.m1 hE
 replace h104:=h104.m2 hE
 refine ePe T hS [15] [(5,V (.map (some iV)))] fun a hS=>?_
 refine bT (fun a w=>∃ Z X,VC80_J1 l_ Q/\St Tryz.f80.ntmps ⟨[(0,Sl a1 l_ c1)],[]⟩ Z a w X/\Old w0 X0 w X/\RS ao w X a1 l_ c1) ?_ ?_
 ·refine rPe T hS [] [(16,Sl a1 l_ c1),(17,I (lN l_)),(18,I 0)] fun a hS=>?_
  refine aL ?_
  obtain ⟨I1,μ1,co,hm⟩:=hm
  refine cl (σ:=(List (Int × Int)) × (List (Int × ab)) × Int) (fun s a w=>∃ Z X,I1 s.1 s.2.1 s.2.2/\St Tryz.f80.ntmps ⟨[(0,Sl a1 l_ c1),(4,V (.map (some d4))),(5,V (.map (some iV))),(16,Sl a1 l_ c1),(17,I (lN l_)),(18,I s.2.2)],[]⟩ Z a w X/\Old w0 X0 w X/\RS ao w X a1 l_ c1/\OM kI tI false w X 1015 d4 s.1/\OM kI ao true w X 1016 iV s.2.1/\RS ao w X a1 l_ c1) (fun s=>μ1 s.1 s.2.1 s.2.2) (⟨([]:List (Int × Int)),([]:List (Int × ab)),0⟩) ?_ ?_
  ·exact ⟨Z,_,co,hS.sl _,hO,h1,h104,h108,h1⟩
  rintro ⟨dr,bd,aU⟩ a F4 ⟨Z,J3,hI,hS,hO,h110,h112,h114,h115⟩
  replace hm:=hm dr bd aU hI
  clear hI co
  refine rPe T hS [] [(19,B (decide (aU < (lN l_))))] fun a hS=>?_
  refine bc ?_
  refine aG hS (b:=decide (aU < (lN l_))) kr (fun hb=>?_) fun hb=>?_
  ·replace hm:=hm.1 hb
   refine aH ?_
   refine bT (fun a w=>∃ (Z:Nat->Nat) (X:Nat->Nat) (dC:List (Int × Int)),VC80_J2 l_ I1 μ1 dr bd aU dC/\St Tryz.f80.ntmps ⟨[(0,Sl a1 l_ c1),(4,V (.map (some d4))),(5,V (.map (some iV))),(16,Sl a1 l_ c1),(17,I (lN l_)),(18,I aU)],[]⟩ Z a w X/\Old w0 X0 w X/\RS ao w X a1 l_ c1/\OM kI tI false w X 1015 d4 dC/\OM kI ao true w X 1016 iV (dk bd ((gi l_ aU).aj) (gi l_ aU))/\RS ao w X a1 l_ c1) ?_ ?_
   ·refine aL ?_
    refine bj ?_
    refine oPe T hS 1 [19] [(20,I aU)] fun a hS=>?_
    obtain ⟨hq,hm⟩:=hm
    refine op1 (index (e:=102) (k:=.i64) T hS kr kr kr kr h115 kr kr hq.1 hq.2 ?_)
    intro AP a h123 hS
    refine op1 (eC T hS kr kr kr h123 kr kr ?_)
    intro v124 a hv hS
    subst hv
    refine eM T hS ⟨[(0,Sl a1 l_ c1),(4,V (.map (some d4))),(5,V (.map (some iV))),(6,I aU),(7,Pt 8 0),(16,Sl a1 l_ c1),(17,I (lN l_)),(18,I aU)],[(8,(102,(cP (gi l_ aU))))]⟩ fun Z a H4 Nw hS hE hr=>?_
    replace hO:=hO.m2 hE
    replace h110:=h110.m1 hE
    replace h112:=h112.m2 hE
    replace h114:=h114.m2 hE
    replace h115:=h115.m1 hE
    clear hE hr
    refine bc ?_
    refine bj ?_
    refine oPe T hS 1 [] [(23,V (.agg #[.int .i64 ((gi l_ aU).aj),.int .i64 ((gi l_ aU).Kind),.int .i64 ((gi l_ aU).aE),.int .i64 ((gi l_ aU).End),.int .i64 ((gi l_ aU).Result)]))] fun a hS=>?_
    refine op1 (call hS kr kr hb95 kr (fun _ _=>rfl) (Lm _ _ (gi l_ aU)) ?_)
    intro v125 a rx oZ hE hp hS
    replace hO:=hO.m2 hE
    replace h110:=h110.m1 hE
    replace h112:=h112.m2 hE
    replace h114:=h114.m2 hE
    replace h115:=h115.m1 hE
    obtain ⟨bI,hr⟩:∃ r,cQ (gi l_ aU)=r:=⟨_,rfl⟩
    replace hm:=hm bI hr
    rw [hr] at hp
    clear hr
    subst hp
    refine ePe T hS [23,24] [(8,I bI)] fun a hS=>?_
    refine rPe T hS [] [(26,B (bI != 0))] fun a hS=>?_
    refine aG hS (b:=(bI != 0)) kr (fun hb=>?_) fun hb=>?_
    ·replace hm:=hm.1 hb
     refine rP T hS ⟨[(2,I aU),(3,I bI)],[]⟩ fun a hS=>?_
     refine aY ?_
     exact fin T hS hO (fun c=>c) rfl (r:=[.int .i64 aU,.int .i64 bI]) kr (fun X' hM hC=>⟨(aU,bI),hm,rfl⟩)
    replace hm:=hm.2 hb
    refine aH (bc ?_)
    refine bT (fun a w=>∃ (Z:Nat->Nat) (X:Nat->Nat) (mC:Bool),VC80_J3 l_ Q I1 μ1 dr bd aU mC/\St Tryz.f80.ntmps ⟨[(0,Sl a1 l_ c1),(4,V (.map (some d4))),(5,V (.map (some iV))),(6,I aU),(7,Pt 8 0),(16,Sl a1 l_ c1),(17,I (lN l_)),(18,I aU),(60,B mC)],[(8,(102,(cP (gi l_ aU))))]⟩ Z a w X/\Old w0 X0 w X/\RS ao w X a1 l_ c1/\OM kI tI false w X 1015 d4 dr/\OM kI ao true w X 1016 iV bd/\RS ao w X a1 l_ c1) ?_ ?_
    ·refine gI [8] mixed hS ?_
     intro H7 Ho hS hE hD hH
     replace hO:=hO.m2 hE
     replace h110:=h110.m1 hE
     replace h112:=h112.m2 hE
     replace h114:=h114.m2 hE
     replace h115:=h115.m1 hE
     refine tke T [0,1,2] [8] hS hH #[true,true,true,false,false,false,false,false,false,false,false,false,false,false,false,false,false,false,false,false,false,false,false,false,false,false,false,false,false,false,false,false] 29 [] [(31,B (decide (aU > 0)))] fun a hS=>?_
     rcases bft (decide (aU > 0)) with hb | hb
     ·replace hS:=hS.lit (t:=31) kr hb
      replace hm:=hm.1 hb
      refine tke T [3,5,6,4,7] [8] hS hH #[true,true,true,true,true,true,true,true,false,false,false,false,false,false,false,false,false,false,false,false,false,false,false,false,false,false,false,false,false,false,false,false] 24 [] [(33,I ((gi l_ aU).aE)),(34,Sl a1 l_ c1),(36,I (wR (aU - 1)))] fun a hS=>?_
      obtain ⟨hq,hm⟩:=hm
      refine c7 (e:=102) (k:=.i64) T 8 hS kr kr kr (by rfl) kr hH kr kr h110 kr kr hq.1 hq.2 ?_
      intro RU a h159 hS
      have I7:=h159.here
      refine dw (off:=2) (fsz:=1) (ft:=3) (TF:=tI) (y:=(gi l_ (wR (aU - 1))).aE) 9 T hS kr kr kr (by rfl) kr hH kr h159 kr kr kr (fun cs h=>pq h) ?_
      intro RR a h161 fP hS
      have FM:=I7
      rw [← fP] at FM
      clear fP
      refine dV T 10 hS kr kr kr (by rfl) kr hH kr h161 FM rfl kr ?_
      intro v162 a hv hS
      cases hv
      refine tke T [11,12,13] [8] hS hH #[true,true,true,true,true,true,true,true,true,true,true,true,true,true,false,false,false,false,false,false,false,false,false,false,false,false,false,false,false,false,false,false] 18 [31,33,34,36,37,38,39] [(42,B (decide (((gi l_ aU).aE)≤((gi l_ (wR (aU - 1))).aE))))] fun a hS=>?_
      rcases bft (decide (((gi l_ aU).aE)≤((gi l_ (wR (aU - 1))).aE))) with hb | hb
      ·replace hS:=hS.lit (t:=42) kr hb
       replace hm:=hm.1 hb
       refine tke T [14,15,16,17,18,19,20,21,22,23,24,25,26,27,28,29,30,31] [8] hS hH (tts 32) 0 [42] [(60,B true)] fun a hS=>?_
       refine aS kr ?_
       replace hS:=hS.sle [] []
       exact ⟨Z,_,true,hm,hS.sl _,hO,h110,h112,h114,h115⟩
      replace hS:=hS.lit (t:=42) kr hb
      replace hm:=hm.2 hb
      refine tke T [14,15,16] [8] hS hH #[true,true,true,true,true,true,true,true,true,true,true,true,true,true,true,true,true,false,false,false,false,false,false,false,false,false,false,false,false,false,false,false] 15 [] [(43,V (.map (some d4))),(45,I ((gi l_ aU).aE))] fun a hS=>?_
      refine only 17 kr (by rfl) (j6 kI tI false (zv:=.int .i64 0) (z:=0) ((gi l_ aU).aE) hS kr kr kr kr Tryz.underlying113 Tryz.underlying3 kr rfl h112 ?_)
      intro v163 a hv hS
      replace hv:tI.R _ _ [v163] _:=hv
      cases hv
      refine cW (bH.of hS (bks:=[8]) kr hD) ?_
      intro hH
      refine tke T [18,19,20] [8] hS hH #[true,true,true,true,true,true,true,true,true,true,true,true,true,true,true,true,true,true,true,true,true,false,false,false,false,false,false,false,false,false,false,false] 11 [42,43,45,46] [(49,B (decide (((aF dr ((gi l_ aU).aE)).getD 0) > 0)))] fun a hS=>?_
      rcases bft (decide (((aF dr ((gi l_ aU).aE)).getD 0) > 0)) with hb | hb
      ·replace hS:=hS.lit (t:=49) kr hb
       replace hm:=hm.1 hb
       refine tke T [21,22,23,24,25,26,27,28,29,30,31] [8] hS hH (tts 32) 0 [49] [(60,B true)] fun a hS=>?_
       refine aS kr ?_
       replace hS:=hS.sle [] []
       exact ⟨Z,_,true,hm,hS.sl _,hO,h110,h112,h114,h115⟩
      replace hS:=hS.lit (t:=49) kr hb
      replace hm:=hm.2 hb
      refine tke T [21,22,23,24] [8] hS hH #[true,true,true,true,true,true,true,true,true,true,true,true,true,true,true,true,true,true,true,true,true,true,true,true,true,false,false,false,false,false,false,false] 7 [] [(53,B (decide (((gi l_ aU).End)≥0)))] fun a hS=>?_
      rcases bft (decide (((gi l_ aU).End)≥0)) with hb | hb
      ·replace hS:=hS.lit (t:=53) kr hb
       replace hm:=hm.1 hb
       refine tke T [25,26,27] [8] hS hH #[true,true,true,true,true,true,true,true,true,true,true,true,true,true,true,true,true,true,true,true,true,true,true,true,true,true,true,true,false,false,false,false] 4 [] [(54,V (.map (some d4))),(56,I ((gi l_ aU).End))] fun a hS=>?_
       refine only 28 kr (by rfl) (j6 kI tI false (zv:=.int .i64 0) (z:=0) ((gi l_ aU).End) hS kr kr kr kr Tryz.underlying113 Tryz.underlying3 kr rfl h112 ?_)
       intro v164 a hv hS
       replace hv:tI.R _ _ [v164] _:=hv
       cases hv
       refine cW (bH.of hS (bks:=[8]) kr hD) ?_
       intro hH
       refine tke T [29,30,31] [8] hS hH (tts 32) 0 [49,53,54,56,57] [(60,B (decide (((aF dr ((gi l_ aU).End)).getD 0) > 0)))] fun a hS=>?_
       refine aS kr ?_
       replace hS:=hS.sle [] []
       exact ⟨Z,_,decide (((aF dr ((gi l_ aU).End)).getD 0) > 0),hm,hS.sl _,hO,h110,h112,h114,h115⟩
      replace hS:=hS.lit (t:=53) kr hb
      replace hm:=hm.2 hb
      refine tke T [25,26,27,28,29,30,31] [8] hS hH (tts 32) 0 [49,53] [(60,B false)] fun a hS=>?_
      refine aS kr ?_
      replace hS:=hS.sle [] []
      exact ⟨Z,_,false,hm,hS.sl _,hO,h110,h112,h114,h115⟩
     replace hS:=hS.lit (t:=31) kr hb
     replace hm:=hm.2 hb
     refine tke T [3,5,6,4,7,8,9,10,11,12,13,14,15,16] [8] hS hH #[true,true,true,true,true,true,true,true,true,true,true,true,true,true,true,true,true,false,false,false,false,false,false,false,false,false,false,false,false,false,false,false] 15 [31] [(42,B false),(43,V (.map (some d4))),(45,I ((gi l_ aU).aE))] fun a hS=>?_
     refine only 17 kr (by rfl) (j6 kI tI false (zv:=.int .i64 0) (z:=0) ((gi l_ aU).aE) hS kr kr kr kr Tryz.underlying113 Tryz.underlying3 kr rfl h112 ?_)
     intro v165 a hv hS
     replace hv:tI.R _ _ [v165] _:=hv
     cases hv
     refine cW (bH.of hS (bks:=[8]) kr hD) ?_
     intro hH
     refine tke T [18,19,20] [8] hS hH #[true,true,true,true,true,true,true,true,true,true,true,true,true,true,true,true,true,true,true,true,true,false,false,false,false,false,false,false,false,false,false,false] 11 [42,43,45,46] [(49,B (decide (((aF dr ((gi l_ aU).aE)).getD 0) > 0)))] fun a hS=>?_
     rcases bft (decide (((aF dr ((gi l_ aU).aE)).getD 0) > 0)) with hb | hb
     ·replace hS:=hS.lit (t:=49) kr hb
      replace hm:=hm.1 hb
      refine tke T [21,22,23,24,25,26,27,28,29,30,31] [8] hS hH (tts 32) 0 [49] [(60,B true)] fun a hS=>?_
      refine aS kr ?_
      replace hS:=hS.sle [] []
      exact ⟨Z,_,true,hm,hS.sl _,hO,h110,h112,h114,h115⟩
     replace hS:=hS.lit (t:=49) kr hb
     replace hm:=hm.2 hb
     refine tke T [21,22,23,24] [8] hS hH #[true,true,true,true,true,true,true,true,true,true,true,true,true,true,true,true,true,true,true,true,true,true,true,true,true,false,false,false,false,false,false,false] 7 [] [(53,B (decide (((gi l_ aU).End)≥0)))] fun a hS=>?_
     rcases bft (decide (((gi l_ aU).End)≥0)) with hb | hb
     ·replace hS:=hS.lit (t:=53) kr hb
      replace hm:=hm.1 hb
      refine tke T [25,26,27] [8] hS hH #[true,true,true,true,true,true,true,true,true,true,true,true,true,true,true,true,true,true,true,true,true,true,true,true,true,true,true,true,false,false,false,false] 4 [] [(54,V (.map (some d4))),(56,I ((gi l_ aU).End))] fun a hS=>?_
      refine only 28 kr (by rfl) (j6 kI tI false (zv:=.int .i64 0) (z:=0) ((gi l_ aU).End) hS kr kr kr kr Tryz.underlying113 Tryz.underlying3 kr rfl h112 ?_)
      intro v166 a hv hS
      replace hv:tI.R _ _ [v166] _:=hv
      cases hv
      refine cW (bH.of hS (bks:=[8]) kr hD) ?_
      intro hH
      refine tke T [29,30,31] [8] hS hH (tts 32) 0 [49,53,54,56,57] [(60,B (decide (((aF dr ((gi l_ aU).End)).getD 0) > 0)))] fun a hS=>?_
      refine aS kr ?_
      replace hS:=hS.sle [] []
      exact ⟨Z,_,decide (((aF dr ((gi l_ aU).End)).getD 0) > 0),hm,hS.sl _,hO,h110,h112,h114,h115⟩
     replace hS:=hS.lit (t:=53) kr hb
     replace hm:=hm.2 hb
     refine tke T [25,26,27,28,29,30,31] [8] hS hH (tts 32) 0 [49,53] [(60,B false)] fun a hS=>?_
     refine aS kr ?_
     replace hS:=hS.sle [] []
     exact ⟨Z,_,false,hm,hS.sl _,hO,h110,h112,h114,h115⟩
    rintro a DA ⟨Z,Hl,mC,hm,hS,hO,h129,h130,h131,h132⟩
    unfold VC80_J3 at hm
    refine aG hS (b:=mC) kr (fun hb=>?_) fun hb=>?_
    ·replace hm:=hm.1 hb
     refine rP T hS ⟨[(2,I aU),(3,I 32)],[]⟩ fun a hS=>?_
     refine aY ?_
     exact fin T hS hO (fun c=>c) rfl (r:=[.int .i64 aU,.int .i64 32]) kr (fun X' hM hC=>⟨(aU,32),hm,rfl⟩)
    replace hm:=hm.2 hb
    refine aH (bc ?_)
    refine bj ?_
    refine oPe T hS 3 [60] [(63,V (.map (some iV))),(65,I ((gi l_ aU).aj))] fun a hS=>?_
    refine op1 (Gr kI ao true (zv:=.agg #[.int .i64 0,.int .i64 0,.int .i64 0,.int .i64 0,.int .i64 0]) (z:=(⟨0,0,0,0,0⟩:ab)) ((gi l_ aU).aj) hS kr kr kr kr Tryz.underlying153 Tryz.underlying3 kr ⟨_,rfl,rfl⟩ h131 ?_)
    intro v134 a hv hS
    obtain ⟨_,rfl,hv⟩:=hv
    cases hv
    refine eM T hS ⟨[(0,Sl a1 l_ c1),(4,V (.map (some d4))),(5,V (.map (some iV))),(6,I aU),(7,Pt 8 0),(9,Pt 10 0),(10,B ((aF bd ((gi l_ aU).aj)).isSome)),(16,Sl a1 l_ c1),(17,I (lN l_)),(18,I aU)],[(8,(102,(cP (gi l_ aU)))),(10,(102,(cP ((aF bd ((gi l_ aU).aj)).getD (⟨0,0,0,0,0⟩:ab)))))]⟩ fun Z a rr t9 hS hE hr=>?_
    replace hO:=hO.m2 hE
    replace h129:=h129.m1 hE
    replace h130:=h130.m2 hE
    replace h131:=h131.m2 hE
    replace h132:=h132.m1 hE
    clear hE hr
    refine bT (fun a w=>∃ (Z:Nat->Nat) (X:Nat->Nat) (jw:Bool),VC80_J4 l_ Q I1 μ1 dr bd aU jw/\St Tryz.f80.ntmps ⟨[(0,Sl a1 l_ c1),(4,V (.map (some d4))),(5,V (.map (some iV))),(6,I aU),(7,Pt 8 0),(16,Sl a1 l_ c1),(17,I (lN l_)),(18,I aU),(75,B jw)],[(8,(102,(cP (gi l_ aU))))]⟩ Z a w X/\Old w0 X0 w X/\RS ao w X a1 l_ c1/\OM kI tI false w X 1015 d4 dr/\OM kI ao true w X 1016 iV bd/\RS ao w X a1 l_ c1) ?_ ?_
    ·refine region ?_
     refine oPe T hS 2 [10] [(70,B ((aF bd ((gi l_ aU).aj)).isSome))] fun a hS=>?_
     rcases bft ((aF bd ((gi l_ aU).aj)).isSome) with hb | hb
     ·replace hS:=hS.lit (t:=70) kr hb
      replace hm:=hm.1 hb
      refine oP T hS 2 ⟨[(0,Sl a1 l_ c1),(4,V (.map (some d4))),(5,V (.map (some iV))),(6,I aU),(7,Pt 8 0),(16,Sl a1 l_ c1),(17,I (lN l_)),(18,I aU),(70,B true),(71,V (.agg #[.int .i64 (((aF bd ((gi l_ aU).aj)).getD (⟨0,0,0,0,0⟩:ab)).aj),.int .i64 (((aF bd ((gi l_ aU).aj)).getD (⟨0,0,0,0,0⟩:ab)).Kind),.int .i64 (((aF bd ((gi l_ aU).aj)).getD (⟨0,0,0,0,0⟩:ab)).aE),.int .i64 (((aF bd ((gi l_ aU).aj)).getD (⟨0,0,0,0,0⟩:ab)).End),.int .i64 (((aF bd ((gi l_ aU).aj)).getD (⟨0,0,0,0,0⟩:ab)).Result)])),(72,V (.agg #[.int .i64 ((gi l_ aU).aj),.int .i64 ((gi l_ aU).Kind),.int .i64 ((gi l_ aU).aE),.int .i64 ((gi l_ aU).End),.int .i64 ((gi l_ aU).Result)]))],[(8,(102,(cP (gi l_ aU))))]⟩ fun a hS=>?_
      refine op1 (call hS kr kr hb63 kr (fun _ _=>rfl) (xf _ _ ((aF bd ((gi l_ aU).aj)).getD (⟨0,0,0,0,0⟩:ab)) (gi l_ aU)) ?_)
      intro v148 a DH EV hE hp hS
      replace hO:=hO.m2 hE
      replace h129:=h129.m1 hE
      replace h130:=h130.m2 hE
      replace h131:=h131.m2 hE
      replace h132:=h132.m1 hE
      obtain ⟨lc,hr⟩:∃ r,aZ ((aF bd ((gi l_ aU).aj)).getD (⟨0,0,0,0,0⟩:ab)) (gi l_ aU)=r:=⟨_,rfl⟩
      replace hm:=hm lc hr
      rw [hr] at hp
      clear hr
      subst hp
      refine ePe T hS [70,71,72,73] [(75,B (!lc))] fun a hS=>?_
      exact ⟨Z,_,(!lc),hm,hS.sl _,hO,h129,h130,h131,h132⟩
     replace hS:=hS.lit (t:=70) kr hb
     replace hm:=hm.2 hb
     refine eP T hS ⟨[(0,Sl a1 l_ c1),(4,V (.map (some d4))),(5,V (.map (some iV))),(6,I aU),(7,Pt 8 0),(16,Sl a1 l_ c1),(17,I (lN l_)),(18,I aU),(75,B false)],[(8,(102,(cP (gi l_ aU))))]⟩ fun a hS=>?_
     exact ⟨Z,_,false,hm,hS.sl _,hO,h129,h130,h131,h132⟩
    rintro a zj ⟨Z,wa,jw,hm,hS,hO,h135,h136,h137,h138⟩
    unfold VC80_J4 at hm
    refine aG hS (b:=jw) kr (fun hb=>?_) fun hb=>?_
    ·replace hm:=hm.1 hb
     refine rP T hS ⟨[(2,I aU),(3,I 33)],[]⟩ fun a hS=>?_
     refine aY ?_
     exact fin T hS hO (fun c=>c) rfl (r:=[.int .i64 aU,.int .i64 33]) kr (fun X' hM hC=>⟨(aU,33),hm,rfl⟩)
    replace hm:=hm.2 hb
    refine aH ?_
    refine bj ?_
    refine oPe T hS 3 [6,75] [(77,V (.map (some d4))),(79,I ((gi l_ aU).aE))] fun a hS=>?_
    refine op1 (j6 kI tI false (zv:=.int .i64 0) (z:=0) ((gi l_ aU).aE) hS kr kr kr kr Tryz.underlying113 Tryz.underlying3 kr rfl h136 ?_)
    intro v140 a hv hS
    replace hv:tI.R _ _ [v140] _:=hv
    cases hv
    refine oPe T hS 1 [80] [(81,I (wR (((aF dr ((gi l_ aU).aE)).getD 0)+1)))] fun a hS=>?_
    refine op1 (tD kI tI false (v:=I (wR (((aF dr ((gi l_ aU).aE)).getD 0)+1))) (u:=wR (((aF dr ((gi l_ aU).aE)).getD 0)+1)) ((gi l_ aU).aE) hS kr kr kr kr Tryz.underlying113 Tryz.underlying3 kr h136 rfl ?_)
    intro a K1 hE h142 hS
    clear h136
    replace hO:=hO.m2 hE
    replace h135:=h135.m1 hE
    replace h137:=h137.m2 hE
    replace h138:=h138.m1 hE
    refine gX ?_
    refine bj ?_
    refine oPe T hS 4 [] [(82,V (.map (some iV))),(84,I ((gi l_ aU).aj)),(85,V (.agg #[.int .i64 ((gi l_ aU).aj),.int .i64 ((gi l_ aU).Kind),.int .i64 ((gi l_ aU).aE),.int .i64 ((gi l_ aU).End),.int .i64 ((gi l_ aU).Result)]))] fun a hS=>?_
    refine op1 (tD kI ao true (v:=V (.agg #[.int .i64 ((gi l_ aU).aj),.int .i64 ((gi l_ aU).Kind),.int .i64 ((gi l_ aU).aE),.int .i64 ((gi l_ aU).End),.int .i64 ((gi l_ aU).Result)])) (u:=(gi l_ aU)) ((gi l_ aU).aj) hS kr kr kr kr Tryz.underlying153 Tryz.underlying3 kr h137 ⟨_,rfl,rfl⟩ ?_)
    intro a H8 hE h144 hS
    clear h137
    replace hO:=hO.m2 hE
    replace h135:=h135.m1 hE
    replace h138:=h138.m1 hE
    replace h142:=h142.m2 hE
    refine gX ?_
    refine rPe T hS [] [(88,B (decide (((gi l_ aU).End)≥0)))] fun a hS=>?_
    refine aG hS (b:=decide (((gi l_ aU).End)≥0)) kr (fun hb=>?_) fun hb=>?_
    ·replace hm:=hm.1 hb
     refine region ?_
     refine oP T hS 3 ⟨[(0,Sl a1 l_ c1),(4,V (.map (some d4))),(5,V (.map (some iV))),(16,Sl a1 l_ c1),(17,I (lN l_)),(18,I aU),(89,V (.map (some d4))),(91,I ((gi l_ aU).End))],[]⟩ fun a hS=>?_
     refine op1 (j6 kI tI false (zv:=.int .i64 0) (z:=0) ((gi l_ aU).End) hS kr kr kr kr Tryz.underlying113 Tryz.underlying3 kr rfl h142 ?_)
     intro v145 a hv hS
     replace hv:tI.R _ _ [v145] _:=hv
     cases hv
     refine oPe T hS 1 [92] [(93,I (wR (((aF (dk dr ((gi l_ aU).aE) (wR (((aF dr ((gi l_ aU).aE)).getD 0)+1))) ((gi l_ aU).End)).getD 0)+1)))] fun a hS=>?_
     refine op1 (tD kI tI false (v:=I (wR (((aF (dk dr ((gi l_ aU).aE) (wR (((aF dr ((gi l_ aU).aE)).getD 0)+1))) ((gi l_ aU).End)).getD 0)+1))) (u:=wR (((aF (dk dr ((gi l_ aU).aE) (wR (((aF dr ((gi l_ aU).aE)).getD 0)+1))) ((gi l_ aU).End)).getD 0)+1)) ((gi l_ aU).End) hS kr kr kr kr Tryz.underlying113 Tryz.underlying3 kr h142 rfl ?_)
     intro a zl hE h147 hS
     clear h142
     replace hO:=hO.m2 hE
     replace h135:=h135.m1 hE
     replace h138:=h138.m1 hE
     replace h144:=h144.m2 hE
     refine gX ?_
     exact ⟨Z,_,dk (dk dr ((gi l_ aU).aE) (wR (((aF dr ((gi l_ aU).aE)).getD 0)+1))) ((gi l_ aU).End) (wR (((aF (dk dr ((gi l_ aU).aE) (wR (((aF dr ((gi l_ aU).aE)).getD 0)+1))) ((gi l_ aU).End)).getD 0)+1)),hm,hS.sl _,hO,h135,h147,h144,h138⟩
    replace hm:=hm.2 hb
    refine aH ?_
    exact ⟨Z,_,dk dr ((gi l_ aU).aE) (wR (((aF dr ((gi l_ aU).aE)).getD 0)+1)),hm,hS.sl _,hO,h135,h142,h144,h138⟩
   rintro a H3 ⟨Z,Nv,dC,hm,hS,hO,h117,h119,h120,h121⟩
   unfold VC80_J2 at hm
   refine region (ePe T hS [] [(18,I (wR (aU+1)))] fun a hS=>?_)
   exact ⟨⟨dC,dk bd ((gi l_ aU).aj) (gi l_ aU),wR (aU+1)⟩,⟨Z,_,hm.1,hS.sl _,hO,h117,h119,h120,h121⟩,hm.2⟩
  replace hm:=hm.2 hb
  refine cb (by rfl) ?_
  exact ⟨Z,_,hm,hS.sl _,hO,h110⟩
 rintro a Pe ⟨Z,J2,hm,hS,hO,h109⟩
 unfold VC80_J1 at hm
 refine rPe T hS [0] [(2,I (lN l_)),(3,I 0)] fun a hS=>?_
 refine aY ?_
 exact fin T hS hO (fun c=>c) rfl (r:=[.int .i64 (lN l_),.int .i64 0]) kr (fun X' hM hC=>⟨((lN l_),0),hm,rfl⟩)
theorem C80 (xf:S63) (Lm:S95) (v:∀ (l_:List ab),VC80 l_ (fun r=>r=bZ l_)):S80:=by
 intro w X l_ a1 c1   h1
 refine (W80 xf Lm w X l_ a1 c1   _ (v l_) h1).mono ?_
 rintro _ _ _ _ ⟨r,rfl,h⟩
 exact h
theorem W51 (GE:S33) (GD:S34) (GC:S35) (tH:S53) (Gu:S80) (w0) (X0) (o_:ae) (l_:List ab) (ac:List aa) (a1) (c1) (a2) (c2) (a3) (c3) (Q:Int × Int->Prop) (hm:VC51 o_ l_ ac Q) (h1:RS ay w0 X0 a1 o_.Rows c1) (h2:RS ao w0 X0 a2 l_ c2) (h3:RS aq w0 X0 a3 ac c3) :
  Ret Tryz.prog 51 #[.agg #[.int .i64 o_.ar,.int .i64 o_.aw,.int .i64 o_.aC,.slice a1 o_.Rows.length c1],.slice a2 l_.length c2,.slice a3 ac.length c3] aJ w0 X0 (fun w X' v=>∃ r,Q r/\v=.tuple #[.int .i64 r.1,.int .i64 r.2]):=by
 unfold VC51 at hm
 replace hm:=hm (h1.sm kr)
 replace hm:=hm (h2.sm kr)
 replace hm:=hm (h3.sm kr)
 refine enter Tryz.func51 rfl (vals:=[.agg #[.int .i64 o_.ar,.int .i64 o_.aw,.int .i64 o_.aC,.slice a1 o_.Rows.length c1],.slice a2 l_.length c2,.slice a3 ac.length c3]) kr ?_
 intro Z a hS hO hM
 replace h1:=h1.m0 hM
 replace h2:=h2.m0 hM
 replace h3:=h3.m0 hM
 refine rM T hS ⟨[(1,Sl a2 l_ c2),(2,Sl a3 ac c3),(3,Pt 4 0)],[(4,(48,(cO o_ a1 c1)))]⟩ fun Z a sS AJ hS hE hr=>?_
 replace hO:=hO.m2 hE
 replace h1:=h1.m1 hE
 replace h2:=h2.m1 hE
 replace h3:=h3.m1 hE
 clear hE hr
 refine bj ?_
 refine oPe T hS 1 [] [(18,V (.agg #[.int .i64 o_.ar,.int .i64 o_.aw,.int .i64 o_.aC,.slice a1 o_.Rows.length c1]))] fun a hS=>?_
 obtain ⟨hq,hm⟩:=hm
 refine op1 (call hS kr kr hb53 kr (fun _ _=>rfl) (tH _ _ o_ a1 c1 hq h1) ?_)
 intro v101 a eZ fa hE hp hS
 replace hO:=hO.m2 hE
 replace h1:=h1.m1 hE
 replace h2:=h2.m1 hE
 replace h3:=h3.m1 hE
 obtain ⟨ap,hr⟩:∃ r,bp o_=r:=⟨_,rfl⟩
 replace hm:=hm ap hr
 rw [hr] at hp
 clear hr
 subst hp
 refine ePe T hS [18,19] [(9,I ap.2)] fun a hS=>?_
 refine bj ?_
 refine oPe T hS 1 [] [(23,Sl a2 l_ c2)] fun a hS=>?_
 refine op1 (call hS kr kr hb80 kr (fun _ _=>rfl) (Gu _ _ l_ a2 c2 h2) ?_)
 intro v105 a mg mc hE hp hS
 replace hO:=hO.m2 hE
 replace h1:=h1.m1 hE
 replace h2:=h2.m1 hE
 replace h3:=h3.m1 hE
 obtain ⟨aV,hr⟩:∃ r,bZ l_=r:=⟨_,rfl⟩
 replace hm:=hm aV hr
 rw [hr] at hp
 clear hr
 subst hp
 refine ePe T hS [23,24] [(11,I aV.2)] fun a hS=>?_
 refine bc ?_
 refine rPe T hS [9,11] [(32,B ((ap.2 != 0) || (aV.2 != 0)))] (sp:=[29]) fun a hS=>?_
 refine aG hS (b:=((ap.2 != 0) || (aV.2 != 0))) kr (fun hb=>?_) fun hb=>?_
 ·replace hm:=hm.1 hb
  refine rP T hS ⟨[(6,I (-1)),(7,I 2)],[]⟩ fun a hS=>?_
  refine aY ?_
  exact fin T hS hO (fun c=>c) rfl (r:=[.int .i64 (-1),.int .i64 2]) kr (fun X' hM hC=>⟨((-1),2),hm,rfl⟩)
 replace hm:=hm.2 hb
 refine aH (bc ?_)
 refine bj ?_
 refine oP T hS 3 ⟨[(1,Sl a2 l_ c2),(2,Sl a3 ac c3),(34,V (.agg #[.int .i64 o_.ar,.int .i64 o_.aw,.int .i64 o_.aC,.slice a1 o_.Rows.length c1])),(35,Sl a2 l_ c2),(36,Sl a3 ac c3)],[]⟩ fun a hS=>?_
 obtain ⟨hq,hm⟩:=hm
 refine op1 (call hS kr kr hb33 kr (fun _ _=>rfl) (GE _ _ o_ l_ ac a1 c1 a2 c2 a3 c3 hq h1 h2 h3) ?_)
 intro v109 a DL EX hE hp hS
 replace hO:=hO.m2 hE
 replace h1:=h1.m1 hE
 replace h2:=h2.m1 hE
 replace h3:=h3.m1 hE
 obtain ⟨bv,hr⟩:∃ r,cg o_ l_ ac=r:=⟨_,rfl⟩
 replace hm:=hm bv hr
 rw [hr] at hp
 clear hr
 subst hp
 refine ePe T hS [34,35,36,37] [(13,I bv.2.1),(14,I bv.2.2)] fun a hS=>?_
 refine rPe T hS [] [(42,B (bv.2.2 != 0))] fun a hS=>?_
 refine aG hS (b:=(bv.2.2 != 0)) kr (fun hb=>?_) fun hb=>?_
 ·replace hm:=hm.1 hb
  refine rPe T hS [1,2,13,14,42] [(6,I bv.2.1),(7,I bv.2.2)] fun a hS=>?_
  refine aY ?_
  exact fin T hS hO (fun c=>c) rfl (r:=[.int .i64 bv.2.1,.int .i64 bv.2.2]) kr (fun X' hM hC=>⟨(bv.2.1,bv.2.2),hm,rfl⟩)
 replace hm:=hm.2 hb
 refine aH (bc ?_)
 refine bj ?_
 refine oPe T hS 2 [13,14,42] [(45,Sl a2 l_ c2),(46,Sl a3 ac c3)] fun a hS=>?_
 refine op1 (call hS kr kr hb34 kr (fun _ _=>rfl) (GD _ _ l_ ac a2 c2 a3 c3 h2 h3) ?_)
 intro v113 a Ia Hs hE hp hS
 replace hO:=hO.m2 hE
 replace h2:=h2.m1 hE
 replace h3:=h3.m1 hE
 obtain ⟨pu,hr⟩:∃ r,cA l_ ac=r:=⟨_,rfl⟩
 replace hm:=hm pu hr
 rw [hr] at hp
 clear hr
 subst hp
 refine ePe T hS [45,46,47] [(15,I pu)] fun a hS=>?_
 refine rPe T hS [] [(49,B (decide (pu≥0)))] fun a hS=>?_
 refine aG hS (b:=decide (pu≥0)) kr (fun hb=>?_) fun hb=>?_
 ·replace hm:=hm.1 hb
  refine rPe T hS [1,2,15,49] [(6,I pu),(7,I 42)] fun a hS=>?_
  refine aY ?_
  exact fin T hS hO (fun c=>c) rfl (r:=[.int .i64 pu,.int .i64 42]) kr (fun X' hM hC=>⟨(pu,42),hm,rfl⟩)
 replace hm:=hm.2 hb
 refine aH (bc ?_)
 refine bj ?_
 refine oPe T hS 2 [1,15,49] [(51,Sl a2 l_ c2),(52,Sl a3 ac c3)] fun a hS=>?_
 obtain ⟨hq,hm⟩:=hm
 refine op1 (call hS kr kr hb35 kr (fun _ _=>rfl) (GC _ _ l_ ac a2 c2 a3 c3 hq h2 h3) ?_)
 intro v117 a Bb Dg hE hp hS
 replace hO:=hO.m2 hE
 replace h2:=h2.m1 hE
 replace h3:=h3.m1 hE
 obtain ⟨mM,mJ,hp,h123⟩:=hp
 obtain ⟨jT,hr⟩:∃ r,b7 l_ ac=r:=⟨_,rfl⟩
 replace hm:=hm jT hr
 rw [hr] at hp h123
 clear hr
 subst hp
 replace hm:=hm (h123.sm kr)
 refine ePe T hS [51,52,53] [(16,Sl mM jT mJ)] fun a hS=>?_
 refine rPe T hS [] [(56,B (decide ((lN jT) > 0)))] fun a hS=>?_
 refine aG hS (b:=decide ((lN jT) > 0)) kr (fun hb=>?_) fun hb=>?_
 ·replace hm:=hm.1 hb
  refine bj ?_
  refine oPe T hS 1 [2,16,56] [(57,Sl mM jT mJ)] fun a hS=>?_
  obtain ⟨hq,hm⟩:=hm
  refine op1 (index (e:=3) (k:=.i64) T hS kr kr kr kr h123 kr kr hq.1 hq.2 ?_)
  intro EY a h125 hS
  refine op1 (dU T hS kr kr kr h125 rfl kr ?_)
  intro v126 a hv hS
  cases hv
  refine ePe T hS [57,58,59] [(6,I (gi jT 0)),(7,I 41)] fun a hS=>?_
  refine aY ?_
  exact fin T hS hO (fun c=>c) rfl (r:=[.int .i64 (gi jT 0),.int .i64 41]) kr (fun X' hM hC=>⟨(gi jT 0,41),hm,rfl⟩)
 replace hm:=hm.2 hb
 refine aH ?_
 refine rPe T hS [2,16,56] [(6,I (lN ac)),(7,I 0)] fun a hS=>?_
 refine aY ?_
 exact fin T hS hO (fun c=>c) rfl (r:=[.int .i64 (lN ac),.int .i64 0]) kr (fun X' hM hC=>⟨((lN ac),0),hm,rfl⟩)
theorem C51 (GE:S33) (GD:S34) (GC:S35) (tH:S53) (Gu:S80) (v:∀ (o_:ae) (l_:List ab) (ac:List aa),lk o_ l_ ac->VC51 o_ l_ ac (fun r=>r=eH o_ l_ ac)):S51:=by
 intro w X o_ l_ ac a1 c1 a2 c2 a3 c3   hp h1 h2 h3
 refine (W51 GE GD GC tH Gu w X o_ l_ ac a1 c1 a2 c2 a3 c3   _ (v o_ l_ ac hp) h1 h2 h3).mono ?_
 rintro _ _ _ _ ⟨r,rfl,h⟩
 exact h
theorem W20 (LO:S51) (w0) (X0) (o_:ae) (l_:List ab) (ac:List aa) (a1) (c1) (a2) (c2) (a3) (c3) (Q:Bool->Prop) (hm:VC20 o_ l_ ac Q) (h1:RS ay w0 X0 a1 o_.Rows c1) (h2:RS ao w0 X0 a2 l_ c2) (h3:RS aq w0 X0 a3 ac c3) :
  Ret Tryz.prog 20 #[.agg #[.int .i64 o_.ar,.int .i64 o_.aw,.int .i64 o_.aC,.slice a1 o_.Rows.length c1],.slice a2 l_.length c2,.slice a3 ac.length c3] aJ w0 X0 (fun w X' v=>∃ r,Q r/\v=.bool r):=by
 unfold VC20 at hm
 replace hm:=hm (h1.sm kr)
 replace hm:=hm (h2.sm kr)
 replace hm:=hm (h3.sm kr)
 refine enter Tryz.func20 rfl (vals:=[.agg #[.int .i64 o_.ar,.int .i64 o_.aw,.int .i64 o_.aC,.slice a1 o_.Rows.length c1],.slice a2 l_.length c2,.slice a3 ac.length c3]) kr ?_
 intro Z a hS hO hM
 replace h1:=h1.m0 hM
 replace h2:=h2.m0 hM
 replace h3:=h3.m0 hM
 refine rM T hS ⟨[(1,Sl a2 l_ c2),(2,Sl a3 ac c3),(3,Pt 4 0)],[(4,(48,(cO o_ a1 c1)))]⟩ fun Z a nG ms hS hE hr=>?_
 replace hO:=hO.m2 hE
 replace h1:=h1.m1 hE
 replace h2:=h2.m1 hE
 replace h3:=h3.m1 hE
 clear hE hr
 refine bj ?_
 refine oP T hS 3 ⟨[(10,V (.agg #[.int .i64 o_.ar,.int .i64 o_.aw,.int .i64 o_.aC,.slice a1 o_.Rows.length c1])),(11,Sl a2 l_ c2),(12,Sl a3 ac c3)],[]⟩ fun a hS=>?_
 obtain ⟨hq,hm⟩:=hm
 refine op1 (call hS kr kr hb51 kr (fun _ _=>rfl) (LO _ _ o_ l_ ac a1 c1 a2 c2 a3 c3 hq h1 h2 h3) ?_)
 intro v101 a eZ fa hE hp hS
 replace hO:=hO.m2 hE
 replace h1:=h1.m1 hE
 replace h2:=h2.m1 hE
 replace h3:=h3.m1 hE
 obtain ⟨ap,hr⟩:∃ r,eH o_ l_ ac=r:=⟨_,rfl⟩
 replace hm:=hm ap hr
 rw [hr] at hp
 clear hr
 subst hp
 refine ePe T hS [10,11,12,13] [(8,I ap.2)] fun a hS=>?_
 refine rPe T hS [8] [(6,B (ap.2 == 0))] fun a hS=>?_
 refine aY ?_
 exact fin T hS hO (fun c=>c) rfl (r:=[.bool (ap.2 == 0)]) kr (fun X' hM hC=>⟨(ap.2 == 0),hm,rfl⟩)
theorem C20 (LO:S51) (v:∀ (o_:ae) (l_:List ab) (ac:List aa),lk o_ l_ ac->VC20 o_ l_ ac (fun r=>r=c9 o_ l_ ac)):S20:=by
 intro w X o_ l_ ac a1 c1 a2 c2 a3 c3   hp h1 h2 h3
 refine (W20 LO w X o_ l_ ac a1 c1 a2 c2 a3 c3   _ (v o_ l_ ac hp) h1 h2 h3).mono ?_
 rintro _ _ _ _ ⟨r,rfl,h⟩
 exact h
theorem W66 (w0) (X0) (ac:List aa) (i_:Int) (a1) (c1) (Q:Int->Prop) (hm:VC66 ac i_ Q) (h1:RS aq w0 X0 a1 ac c1) :
  Ret Tryz.prog 66 #[.slice a1 ac.length c1,.int .i64 i_] aJ w0 X0 (fun w X' v=>∃ r,Q r/\v=.int .i64 r):=by
 unfold VC66 at hm
 replace hm:=hm (h1.sm kr)
 refine enter Tryz.func66 rfl (vals:=[.slice a1 ac.length c1,.int .i64 i_]) kr ?_
 intro Z a hS hO hM
 replace h1:=h1.m0 hM
 refine rPe T hS [] [] fun a hS=>?_
 refine bT (fun a w=>∃ Z X,VC66_J1 Q/\St Tryz.f66.ntmps ⟨[],[]⟩ Z a w X/\Old w0 X0 w X) ?_ ?_
 ·refine rPe T hS [] [(5,I 0)] fun a hS=>?_
  refine aL ?_
  obtain ⟨I1,μ1,co,hm⟩:=hm
  refine cl (σ:=Int) (fun s a w=>∃ Z X,I1 s/\St Tryz.f66.ntmps ⟨[(0,Sl a1 ac c1),(1,I i_),(5,I s)],[]⟩ Z a w X/\Old w0 X0 w X/\RS aq w X a1 ac c1) (fun s=>μ1 s) (0) ?_ ?_
  ·exact ⟨Z,_,co,hS.sl _,hO,h1⟩
  rintro bu a ry ⟨Z,pI,hI,hS,hO,h101⟩
  replace hm:=hm bu hI
  clear hI co
  refine bc ?_
  refine rPe T hS [] [(9,B (decide (bu < (lN ac))))] fun a hS=>?_
  refine aG hS (b:=decide (bu < (lN ac))) kr (fun hb=>?_) fun hb=>?_
  ·replace hm:=hm.1 hb
   refine aH (bc ?_)
   refine aL ?_
   refine bj ?_
   refine oPe T hS 2 [9] [(12,Sl a1 ac c1),(13,I bu)] fun a hS=>?_
   obtain ⟨hq,hm⟩:=hm
   refine op1 (index (e:=56) (k:=.i64) T hS kr kr kr kr h101 kr kr hq.1 hq.2 ?_)
   intro ui a h104 hS
   refine op1 (e9 (off:=0) (fsz:=1) (ft:=3) (TF:=tI) (y:=(gi ac bu).Oper) T hS kr kr kr h104 kr kr kr (fun cs h=>gL h) ?_)
   intro xI a h106 hS
   refine op1 (dU T hS kr kr kr h106 rfl kr ?_)
   intro v107 a hv hS
   cases hv
   refine ePe T hS [12,13,14,15,16] [(18,B (((gi ac bu).Oper) == i_))] fun a hS=>?_
   refine aG hS (b:=(((gi ac bu).Oper) == i_)) kr (fun hb=>?_) fun hb=>?_
   ·replace hm:=hm.1 hb
    refine rPe T hS [0,1,5,18] [(4,I bu)] fun a hS=>?_
    refine aY ?_
    exact fin T hS hO (fun c=>c) rfl (r:=[.int .i64 bu]) kr (fun X' hM hC=>⟨bu,hm,rfl⟩)
   replace hm:=hm.2 hb
   refine aH ?_
   refine region (ePe T hS [18] [(5,I (wR (bu+1)))] fun a hS=>?_)
   exact ⟨wR (bu+1),⟨Z,_,hm.1,hS.sl _,hO,h101⟩,hm.2⟩
  replace hm:=hm.2 hb
  refine cb (by rfl) ?_
  exact ⟨Z,_,hm,hS.sl _,hO⟩
 rintro a DK ⟨Z,ug,hm,hS,hO⟩
 unfold VC66_J1 at hm
 refine rPe T hS [] [(4,I (-1))] fun a hS=>?_
 refine aY ?_
 exact fin T hS hO (fun c=>c) rfl (r:=[.int .i64 (-1)]) kr (fun X' hM hC=>⟨(-1),hm,rfl⟩)
theorem C66 (v:∀ (ac:List aa) (i_:Int),VC66 ac i_ (fun r=>r=aX ac i_)):S66:=by
 intro w X ac i_ a1 c1   h1
 refine (W66 w X ac i_ a1 c1   _ (v ac i_) h1).mono ?_
 rintro _ _ _ _ ⟨r,rfl,h⟩
 exact h
theorem W68 (w0) (X0) (o_:ae) (state:Int) (kind:Int) (a1) (c1) (Q:Int × Int × Bool->Prop) (hm:VC68 o_ state kind Q) (h1:RS ay w0 X0 a1 o_.Rows c1) :
  Ret Tryz.prog 68 #[.agg #[.int .i64 o_.ar,.int .i64 o_.aw,.int .i64 o_.aC,.slice a1 o_.Rows.length c1],.int .i64 state,.int .i64 kind] aJ w0 X0 (fun w X' v=>∃ r,Q r/\v=.tuple #[.int .i64 r.1,.int .i64 r.2.1,.bool r.2.2]):=by
 unfold VC68 at hm
 replace hm:=hm (h1.sm kr)
 refine enter Tryz.func68 rfl (vals:=[.agg #[.int .i64 o_.ar,.int .i64 o_.aw,.int .i64 o_.aC,.slice a1 o_.Rows.length c1],.int .i64 state,.int .i64 kind]) kr ?_
 intro Z a hS hO hM
 replace h1:=h1.m0 hM
 refine rM T hS ⟨[(1,I state),(2,I kind),(3,Pt 4 0)],[(4,(48,(cO o_ a1 c1)))]⟩ fun Z a um xE hS hE hr=>?_
 replace hO:=hO.m2 hE
 replace h1:=h1.m1 hE
 clear hE hr
 refine bT (fun a w=>∃ Z X,VC68_J1 Q/\St Tryz.f68.ntmps ⟨[],[]⟩ Z a w X/\Old w0 X0 w X) ?_ ?_
 ·refine rPe T hS [] [(9,I 0)] fun a hS=>?_
  refine aL ?_
  obtain ⟨I1,μ1,co,hm⟩:=hm
  refine cl (σ:=Int) (fun s a w=>∃ Z X,I1 s/\St Tryz.f68.ntmps ⟨[(1,I state),(2,I kind),(3,Pt 4 0),(9,I s)],[(4,(48,(cO o_ a1 c1)))]⟩ Z a w X/\Old w0 X0 w X/\RS ay w X a1 o_.Rows c1) (fun s=>μ1 s) (0) ?_ ?_
  ·exact ⟨Z,_,co,hS.sl _,hO,h1⟩
  rintro bD a ws ⟨Z,rI,hI,hS,hO,h102⟩
  replace hm:=hm bD hI
  clear hI co
  refine bc ?_
  refine rPe T hS [] [(14,B (decide (bD < (lN o_.Rows))))] fun a hS=>?_
  refine aG hS (b:=decide (bD < (lN o_.Rows))) kr (fun hb=>?_) fun hb=>?_
  ·replace hm:=hm.1 hb
   refine aH (bc ?_)
   refine aL ?_
   refine bT (fun a w=>∃ (Z:Nat->Nat) (X:Nat->Nat) (bi:Bool),VC68_J2 o_ Q I1 μ1 bD bi/\St Tryz.f68.ntmps ⟨[(1,I state),(2,I kind),(3,Pt 4 0),(9,I bD),(34,B bi)],[(4,(48,(cO o_ a1 c1)))]⟩ Z a w X/\Old w0 X0 w X/\RS ay w X a1 o_.Rows c1) ?_ ?_
   ·refine region ?_
    refine oPe T hS 3 [14] [(18,Sl a1 o_.Rows c1),(19,I bD)] fun a hS=>?_
    obtain ⟨hq,hm⟩:=hm
    refine op1 (index (e:=107) (k:=.i64) T hS kr kr kr kr h102 kr kr hq.1 hq.2 ?_)
    intro NL a h118 hS
    refine op1 (e9 (off:=0) (fsz:=1) (ft:=3) (TF:=tI) (y:=(gi o_.Rows bD).State) T hS kr kr kr h118 kr kr kr (fun cs h=>nD h) ?_)
    intro NK a h120 hS
    refine op1 (dU T hS kr kr kr h120 rfl kr ?_)
    intro v121 a hv hS
    cases hv
    refine oPe T hS 3 [18,19,20,21,22] [(25,B (((gi o_.Rows bD).State) == state))] fun a hS=>?_
    rcases bft (((gi o_.Rows bD).State) == state) with hb | hb
    ·replace hS:=hS.lit (t:=25) kr hb
     replace hm:=hm.1 hb
     refine oPe T hS 3 [] [(27,Sl a1 o_.Rows c1),(28,I bD)] fun a hS=>?_
     obtain ⟨hq,hm⟩:=hm
     refine op1 (index (e:=107) (k:=.i64) T hS kr kr kr kr h102 kr kr hq.1 hq.2 ?_)
     intro AP a h123 hS
     refine op1 (e9 (off:=1) (fsz:=1) (ft:=3) (TF:=tI) (y:=(gi o_.Rows bD).Kind) T hS kr kr kr h123 kr kr kr (fun cs h=>rn h) ?_)
     intro EY a h125 hS
     refine op1 (dU T hS kr kr kr h125 rfl kr ?_)
     intro v126 a hv hS
     cases hv
     refine ePe T hS [25,27,28,29,30,31] [(34,B (((gi o_.Rows bD).Kind) == kind))] fun a hS=>?_
     exact ⟨Z,_,(((gi o_.Rows bD).Kind) == kind),hm,hS.sl _,hO,h102⟩
    replace hS:=hS.lit (t:=25) kr hb
    replace hm:=hm.2 hb
    refine ePe T hS [25] [(34,B false)] fun a hS=>?_
    exact ⟨Z,_,false,hm,hS.sl _,hO,h102⟩
   rintro a ru ⟨Z,oZ,bi,hm,hS,hO,h104⟩
   unfold VC68_J2 at hm
   refine aG hS (b:=bi) kr (fun hb=>?_) fun hb=>?_
   ·replace hm:=hm.1 hb
    refine dv [4] mixed hS ?_
    intro nG ms hS hE hD hH
    replace hO:=hO.m2 hE
    replace h104:=h104.m1 hE
    refine tke T [0,2,6,8,1,7] [4] hS hH #[true,true,true,false,false,false,true,true,true,false,false,false,false,false,false] 9 [3,9] [(36,Sl a1 o_.Rows c1),(37,I bD),(42,Sl a1 o_.Rows c1),(43,I bD)] fun a hS=>?_
    obtain ⟨hq,hm⟩:=hm
    refine c7 (e:=107) (k:=.i64) T 3 hS kr kr kr (by rfl) kr hH kr kr h104 kr kr hq.1 hq.2 ?_
    intro HC a h108 hS
    have yR:=h108.here
    refine dw (off:=2) (fsz:=1) (ft:=3) (TF:=tI) (y:=(gi o_.Rows bD).Next) 4 T hS kr kr kr (by rfl) kr hH kr h108 kr kr kr (fun cs h=>rm h) ?_
    intro AQ a h110 fP hS
    have mr:=yR
    rw [← fP] at mr
    clear fP
    refine dV T 5 hS kr kr kr (by rfl) kr hH kr h110 mr rfl kr ?_
    intro v111 a hv hS
    cases hv
    refine tke T [12] [4] hS hH #[true,true,true,true,true,true,true,true,true,false,false,false,true,false,false] 5 [36,37,38,39,40] [(6,I ((gi o_.Rows bD).Next))] fun a hS=>?_
    obtain ⟨hq,hm⟩:=hm
    refine c7 (e:=107) (k:=.i64) T 9 hS kr kr kr (by rfl) kr hH kr kr h104 kr kr hq.1 hq.2 ?_
    intro Ki a h113 hS
    have Cu:=h113.here
    refine dw (off:=3) (fsz:=1) (ft:=3) (TF:=tI) (y:=(gi o_.Rows bD).Result) 10 T hS kr kr kr (by rfl) kr hH kr h113 kr kr kr (fun cs h=>rl h) ?_
    intro E0 a h115 fP hS
    have qV:=Cu
    rw [← fP] at qV
    clear fP
    refine dV T 11 hS kr kr kr (by rfl) kr hH kr h115 qV rfl kr ?_
    intro v116 a hv hS
    cases hv
    refine tke T [13,14] [4] hS hH (tts 15) 0 [42,43,44,45,46] [(7,I ((gi o_.Rows bD).Result)),(8,B true)] fun a hS=>?_
    refine aS kr ?_
    replace hS:=hS.sl ⟨[(6,I ((gi o_.Rows bD).Next)),(7,I ((gi o_.Rows bD).Result)),(8,B true)],[]⟩
    refine aY ?_
    exact fin T hS hO (fun c=>c) rfl (r:=[.int .i64 ((gi o_.Rows bD).Next),.int .i64 ((gi o_.Rows bD).Result),.bool true]) kr (fun X' hM hC=>⟨((gi o_.Rows bD).Next,(gi o_.Rows bD).Result,true),hm,rfl⟩)
   replace hm:=hm.2 hb
   refine aH ?_
   refine region (ePe T hS [34] [(9,I (wR (bD+1)))] fun a hS=>?_)
   exact ⟨wR (bD+1),⟨Z,_,hm.1,hS.sl _,hO,h104⟩,hm.2⟩
  replace hm:=hm.2 hb
  refine cb (by rfl) ?_
  exact ⟨Z,_,hm,hS.sl _,hO⟩
 rintro a K2 ⟨Z,EW,hm,hS,hO⟩
 unfold VC68_J1 at hm
 refine rPe T hS [] [(6,I 0),(7,I 0),(8,B false)] fun a hS=>?_
 refine aY ?_
 exact fin T hS hO (fun c=>c) rfl (r:=[.int .i64 0,.int .i64 0,.bool false]) kr (fun X' hM hC=>⟨(0,0,false),hm,rfl⟩)
theorem C68 (v:∀ (o_:ae) (state:Int) (kind:Int),VC68 o_ state kind (fun r=>r=b9 o_ state kind)):S68:=by
 intro w X o_ state kind a1 c1   h1
 refine (W68 w X o_ state kind a1 c1   _ (v o_ state kind) h1).mono ?_
 rintro _ _ _ _ ⟨r,rfl,h⟩
 exact h
theorem W65 (Gw:S68) (w0) (X0) (o_:ae) (state:Int) (kind:Int) (result:Int) (a1) (c1) (Q:Int × Int->Prop) (hm:VC65 o_ state kind result Q) (h1:RS ay w0 X0 a1 o_.Rows c1) :
  Ret Tryz.prog 65 #[.agg #[.int .i64 o_.ar,.int .i64 o_.aw,.int .i64 o_.aC,.slice a1 o_.Rows.length c1],.int .i64 state,.int .i64 kind,.int .i64 result] aJ w0 X0 (fun w X' v=>∃ r,Q r/\v=.tuple #[.int .i64 r.1,.int .i64 r.2]):=by
 unfold VC65 at hm
 replace hm:=hm (h1.sm kr)
 refine enter Tryz.func65 rfl (vals:=[.agg #[.int .i64 o_.ar,.int .i64 o_.aw,.int .i64 o_.aC,.slice a1 o_.Rows.length c1],.int .i64 state,.int .i64 kind,.int .i64 result]) kr ?_
 intro Z a hS hO hM
 replace h1:=h1.m0 hM
 refine rM T hS ⟨[(1,I state),(2,I kind),(3,I result),(4,Pt 5 0)],[(5,(48,(cO o_ a1 c1)))]⟩ fun Z a nG ms hS hE hr=>?_
 replace hO:=hO.m2 hE
 replace h1:=h1.m1 hE
 clear hE hr
 refine bc ?_
 refine rPe T hS [] [(20,B ((decide (state < 0)) || (decide (state≥o_.ar))))] (sp:=[15]) fun a hS=>?_
 refine aG hS (b:=((decide (state < 0)) || (decide (state≥o_.ar)))) kr (fun hb=>?_) fun hb=>?_
 ·replace hm:=hm.1 hb
  refine rP T hS ⟨[(8,I 0),(9,I 30)],[]⟩ fun a hS=>?_
  refine aY ?_
  exact fin T hS hO (fun c=>c) rfl (r:=[.int .i64 0,.int .i64 30]) kr (fun X' hM hC=>⟨(0,30),hm,rfl⟩)
 replace hm:=hm.2 hb
 refine aH ?_
 refine bj ?_
 refine oP T hS 3 ⟨[(3,I result),(22,V (.agg #[.int .i64 o_.ar,.int .i64 o_.aw,.int .i64 o_.aC,.slice a1 o_.Rows.length c1])),(23,I state),(24,I kind)],[]⟩ fun a hS=>?_
 refine op1 (call hS kr kr hb68 kr (fun _ _=>rfl) (Gw _ _ o_ state kind a1 c1 h1) ?_)
 intro v101 a eZ fa hE hp hS
 replace hO:=hO.m2 hE
 replace h1:=h1.m1 hE
 obtain ⟨ap,hr⟩:∃ r,b9 o_ state kind=r:=⟨_,rfl⟩
 replace hm:=hm ap hr
 rw [hr] at hp
 clear hr
 subst hp
 refine ePe T hS [22,23,24,25] [(10,I ap.1),(11,I ap.2.1),(12,B ap.2.2)] fun a hS=>?_
 refine bc ?_
 refine rPe T hS [3,11,12] [(35,B ((!ap.2.2) || (ap.2.1 != result)))] (sp:=[31]) fun a hS=>?_
 refine aG hS (b:=((!ap.2.2) || (ap.2.1 != result))) kr (fun hb=>?_) fun hb=>?_
 ·replace hm:=hm.1 hb
  refine rPe T hS [10,35] [(8,I 0),(9,I 40)] fun a hS=>?_
  refine aY ?_
  exact fin T hS hO (fun c=>c) rfl (r:=[.int .i64 0,.int .i64 40]) kr (fun X' hM hC=>⟨(0,40),hm,rfl⟩)
 replace hm:=hm.2 hb
 refine aH ?_
 refine rPe T hS [10,35] [(8,I ap.1),(9,I 0)] fun a hS=>?_
 refine aY ?_
 exact fin T hS hO (fun c=>c) rfl (r:=[.int .i64 ap.1,.int .i64 0]) kr (fun X' hM hC=>⟨(ap.1,0),hm,rfl⟩)
theorem C65 (Gw:S68) (v:∀ (o_:ae) (state:Int) (kind:Int) (result:Int),VC65 o_ state kind result (fun r=>r=cX o_ state kind result)):S65:=by
 intro w X o_ state kind result a1 c1   h1
 refine (W65 Gw w X o_ state kind result a1 c1   _ (v o_ state kind result) h1).mono ?_
 rintro _ _ _ _ ⟨r,rfl,h⟩
 exact h
theorem W58 (w0) (X0) (o_:ae) (a1) (c1) (Q:Int × Int->Prop) (hm:VC58 o_ Q) (h1:RS ay w0 X0 a1 o_.Rows c1) :
  Ret Tryz.prog 58 #[.agg #[.int .i64 o_.ar,.int .i64 o_.aw,.int .i64 o_.aC,.slice a1 o_.Rows.length c1]] aJ w0 X0 (fun w X' v=>∃ r,Q r/\v=.tuple #[.int .i64 r.1,.int .i64 r.2]):=by
 unfold VC58 at hm
 replace hm:=hm (h1.sm kr)
 refine enter Tryz.func58 rfl (vals:=[.agg #[.int .i64 o_.ar,.int .i64 o_.aw,.int .i64 o_.aC,.slice a1 o_.Rows.length c1]]) kr ?_
 intro Z a hS hO hM
 replace h1:=h1.m0 hM
 refine rM T hS ⟨[(1,Pt 2 0)],[(2,(48,(cO o_ a1 c1)))]⟩ fun Z a zn xD hS hE hr=>?_
 replace hO:=hO.m2 hE
 replace h1:=h1.m1 hE
 clear hE hr
 refine bc ?_
 refine rPe T hS [] [(35,B ((((((decide (o_.ar < 1)) || (decide (o_.ar > 32))) || (decide (o_.aw < 1))) || (decide (o_.aw > 64))) || (decide (o_.aC < 0))) || (decide (o_.aC≥o_.ar))))] (sp:=[9,14,19,24,29]) fun a hS=>?_
 refine aG hS (b:=((((((decide (o_.ar < 1)) || (decide (o_.ar > 32))) || (decide (o_.aw < 1))) || (decide (o_.aw > 64))) || (decide (o_.aC < 0))) || (decide (o_.aC≥o_.ar)))) kr (fun hb=>?_) fun hb=>?_
 ·replace hm:=hm.1 hb
  refine rP T hS ⟨[(2,I (-1)),(3,I 2)],[]⟩ fun a hS=>?_
  refine aY ?_
  exact fin T hS hO (fun c=>c) rfl (r:=[.int .i64 (-1),.int .i64 2]) kr (fun X' hM hC=>⟨((-1),2),hm,rfl⟩)
 replace hm:=hm.2 hb
 refine aH ?_
 refine bT (fun a w=>∃ Z X,VC58_J1 o_ Q/\St Tryz.f58.ntmps ⟨[(1,Pt 2 0)],[(2,(48,(cO o_ a1 c1)))]⟩ Z a w X/\Old w0 X0 w X/\RS ay w X a1 o_.Rows c1) ?_ ?_
 ·refine rPe T hS [35] [(4,I 0)] fun a hS=>?_
  refine aL ?_
  obtain ⟨I1,μ1,co,hm⟩:=hm
  refine cl (σ:=Int) (fun s a w=>∃ Z X,I1 s/\St Tryz.f58.ntmps ⟨[(1,Pt 2 0),(4,I s)],[(2,(48,(cO o_ a1 c1)))]⟩ Z a w X/\Old w0 X0 w X/\RS ay w X a1 o_.Rows c1) (fun s=>μ1 s) (0) ?_ ?_
  ·exact ⟨Z,_,co,hS.sl _,hO,h1⟩
  rintro bu a p4 ⟨Z,AI,hI,hS,hO,h103⟩
  replace hm:=hm bu hI
  clear hI co
  refine bc ?_
  refine rPe T hS [] [(40,B (decide (bu < (lN o_.Rows))))] fun a hS=>?_
  refine aG hS (b:=decide (bu < (lN o_.Rows))) kr (fun hb=>?_) fun hb=>?_
  ·replace hm:=hm.1 hb
   refine aH (bc ?_)
   refine aL ?_
   refine bj ?_
   refine oPe T hS 3 [40] [(44,Sl a1 o_.Rows c1),(45,I bu)] fun a hS=>?_
   obtain ⟨hq,hm⟩:=hm
   refine op1 (index (e:=107) (k:=.i64) T hS kr kr kr kr h103 kr kr hq.1 hq.2 ?_)
   intro Kk a h105 hS
   refine op1 (eC T hS kr kr kr h105 kr kr ?_)
   intro v106 a hv hS
   subst hv
   refine eM T hS ⟨[(1,Pt 2 0),(4,I bu),(5,Pt 6 0)],[(2,(48,(cO o_ a1 c1))),(6,(107,(cR (gi o_.Rows bu))))]⟩ fun Z a ru rI hS hE hr=>?_
   replace hO:=hO.m2 hE
   replace h103:=h103.m1 hE
   clear hE hr
   refine bc ?_
   refine rPe T hS [] [(69,B ((((decide (((gi o_.Rows bu).State) < 0)) || (decide (((gi o_.Rows bu).State)≥o_.ar))) || (decide (((gi o_.Rows bu).Next) < 0))) || (decide (((gi o_.Rows bu).Next)≥o_.ar))))] (sp:=[51,58,63]) fun a hS=>?_
   refine aG hS (b:=((((decide (((gi o_.Rows bu).State) < 0)) || (decide (((gi o_.Rows bu).State)≥o_.ar))) || (decide (((gi o_.Rows bu).Next) < 0))) || (decide (((gi o_.Rows bu).Next)≥o_.ar)))) kr (fun hb=>?_) fun hb=>?_
   ·replace hm:=hm.1 hb
    refine rP T hS ⟨[(2,I bu),(3,I 30)],[]⟩ fun a hS=>?_
    refine aY ?_
    exact fin T hS hO (fun c=>c) rfl (r:=[.int .i64 bu,.int .i64 30]) kr (fun X' hM hC=>⟨(bu,30),hm,rfl⟩)
   replace hm:=hm.2 hb
   refine aH (bc ?_)
   refine rPe T hS [69] [(80,B ((decide (((gi o_.Rows bu).Kind) < 0)) || (decide (((gi o_.Rows bu).Kind)≥o_.aw))))] (sp:=[74]) fun a hS=>?_
   refine aG hS (b:=((decide (((gi o_.Rows bu).Kind) < 0)) || (decide (((gi o_.Rows bu).Kind)≥o_.aw)))) kr (fun hb=>?_) fun hb=>?_
   ·replace hm:=hm.1 hb
    refine rP T hS ⟨[(2,I bu),(3,I 31)],[]⟩ fun a hS=>?_
    refine aY ?_
    exact fin T hS hO (fun c=>c) rfl (r:=[.int .i64 bu,.int .i64 31]) kr (fun X' hM hC=>⟨(bu,31),hm,rfl⟩)
   replace hm:=hm.2 hb
   refine aH (bc ?_)
   refine rPe T hS [80] [(89,B ((decide (((gi o_.Rows bu).Result) < 0)) || (decide (((gi o_.Rows bu).Result) > 1000000))))] (sp:=[85]) fun a hS=>?_
   refine aG hS (b:=((decide (((gi o_.Rows bu).Result) < 0)) || (decide (((gi o_.Rows bu).Result) > 1000000)))) kr (fun hb=>?_) fun hb=>?_
   ·replace hm:=hm.1 hb
    refine rP T hS ⟨[(2,I bu),(3,I 7)],[]⟩ fun a hS=>?_
    refine aY ?_
    exact fin T hS hO (fun c=>c) rfl (r:=[.int .i64 bu,.int .i64 7]) kr (fun X' hM hC=>⟨(bu,7),hm,rfl⟩)
   replace hm:=hm.2 hb
   refine aH ?_
   refine bT (fun a w=>∃ (Z:Nat->Nat) (X:Nat->Nat) (d3:Bool),VC58_J2 Q I1 μ1 bu d3/\St Tryz.f58.ntmps ⟨[(1,Pt 2 0),(4,I bu),(128,B d3)],[(2,(48,(cO o_ a1 c1)))]⟩ Z a w X/\Old w0 X0 w X/\RS ay w X a1 o_.Rows c1) ?_ ?_
   ·refine gI [2,6] mixed hS ?_
    intro ry ug hS hE hD hH
    replace hO:=hO.m2 hE
    replace h103:=h103.m1 hE
    refine tke T [0,1,2] [2,6] hS hH #[true,true,true,false,false,false,false,false,false,false,false,false,false,false,false,false,false,false,false,false,false,false,false,false,false,false,false,false,false,false,false,false,false,false,false,false,false,false] 35 [] [(93,B (decide (bu > 0)))] fun a hS=>?_
    rcases bft (decide (bu > 0)) with hb | hb
    ·replace hS:=hS.lit (t:=93) kr hb
     replace hm:=hm.1 hb
     refine tke T [3,5,10,4,6,11] [2,6] hS hH #[true,true,true,true,true,true,true,false,false,false,true,true,false,false,false,false,false,false,false,false,false,false,false,false,false,false,false,false,false,false,false,false,false,false,false,false,false,false] 29 [] [(95,Sl a1 o_.Rows c1),(97,I (wR (bu - 1))),(102,I ((gi o_.Rows bu).State))] fun a hS=>?_
     obtain ⟨hq,hm⟩:=hm
     refine c7 (e:=107) (k:=.i64) T 7 hS kr kr kr (by rfl) kr hH kr kr h103 kr kr hq.1 hq.2 ?_
     intro Dk a h112 hS
     have yQ:=h112.here
     refine dw (off:=0) (fsz:=1) (ft:=3) (TF:=tI) (y:=(gi o_.Rows (wR (bu - 1))).State) 8 T hS kr kr kr (by rfl) kr hH kr h112 kr kr kr (fun cs h=>nD h) ?_
     intro HB a h114 fP hS
     have hd1:=yQ
     rw [← fP] at hd1
     clear fP
     refine dV T 9 hS kr kr kr (by rfl) kr hH kr h114 hd1 rfl kr ?_
     intro v115 a hv hS
     cases hv
     refine tke T [12,13] [2,6] hS hH #[true,true,true,true,true,true,true,true,true,true,true,true,true,true,false,false,false,false,false,false,false,false,false,false,false,false,false,false,false,false,false,false,false,false,false,false,false,false] 24 [95,97,102,98,99,100] [(104,B (decide (((gi o_.Rows (wR (bu - 1))).State) > ((gi o_.Rows bu).State))))] fun a hS=>?_
     rcases bft (decide (((gi o_.Rows (wR (bu - 1))).State) > ((gi o_.Rows bu).State))) with hb | hb
     ·replace hS:=hS.lit (t:=104) kr hb
      replace hm:=hm.1 hb
      refine tke T [14,16,21,15,17,22,18,19,20,23,24,25,27,32,26,28,33,29,30,31,34,35,36,37] [2,6] hS hH (tts 38) 0 [5,93,104] [(128,B true)] fun a hS=>?_
      refine aS kr ?_
      replace hS:=hS.sl ⟨[(1,Pt 2 0),(4,I bu),(128,B true)],[(2,(48,(cO o_ a1 c1)))]⟩
      exact ⟨Z,_,true,hm,hS.sl _,hO,h103⟩
     replace hS:=hS.lit (t:=104) kr hb
     replace hm:=hm.2 hb
     refine tke T [14,16,21,15,17,22] [2,6] hS hH #[true,true,true,true,true,true,true,true,true,true,true,true,true,true,true,true,true,true,false,false,false,true,true,false,false,false,false,false,false,false,false,false,false,false,false,false,false,false] 18 [] [(106,Sl a1 o_.Rows c1),(108,I (wR (bu - 1))),(113,I ((gi o_.Rows bu).State))] fun a hS=>?_
     obtain ⟨hq,hm⟩:=hm
     refine c7 (e:=107) (k:=.i64) T 18 hS kr kr kr (by rfl) kr hH kr kr h103 kr kr hq.1 hq.2 ?_
     intro HA a h117 hS
     have n4:=h117.here
     refine dw (off:=0) (fsz:=1) (ft:=3) (TF:=tI) (y:=(gi o_.Rows (wR (bu - 1))).State) 19 T hS kr kr kr (by rfl) kr hH kr h117 kr kr kr (fun cs h=>nD h) ?_
     intro Hz a h119 fP hS
     have vm:=n4
     rw [← fP] at vm
     clear fP
     refine dV T 20 hS kr kr kr (by rfl) kr hH kr h119 vm rfl kr ?_
     intro v120 a hv hS
     cases hv
     refine tke T [23,24] [2,6] hS hH #[true,true,true,true,true,true,true,true,true,true,true,true,true,true,true,true,true,true,true,true,true,true,true,true,true,false,false,false,false,false,false,false,false,false,false,false,false,false] 13 [106,108,113,109,110,111] [(115,B (((gi o_.Rows (wR (bu - 1))).State) == ((gi o_.Rows bu).State)))] fun a hS=>?_
     rcases bft (((gi o_.Rows (wR (bu - 1))).State) == ((gi o_.Rows bu).State)) with hb | hb
     ·replace hS:=hS.lit (t:=115) kr hb
      replace hm:=hm.1 hb
      refine tke T [25,27,32,26,28,33] [2,6] hS hH #[true,true,true,true,true,true,true,true,true,true,true,true,true,true,true,true,true,true,true,true,true,true,true,true,true,true,true,true,true,false,false,false,true,true,false,false,false,false] 7 [5] [(117,Sl a1 o_.Rows c1),(119,I (wR (bu - 1))),(124,I ((gi o_.Rows bu).Kind))] fun a hS=>?_
      obtain ⟨hq,hm⟩:=hm
      refine c7 (e:=107) (k:=.i64) T 29 hS kr kr kr (by rfl) kr hH kr kr h103 kr kr hq.1 hq.2 ?_
      intro Hy a h122 hS
      have Ct:=h122.here
      refine dw (off:=1) (fsz:=1) (ft:=3) (TF:=tI) (y:=(gi o_.Rows (wR (bu - 1))).Kind) 30 T hS kr kr kr (by rfl) kr hH kr h122 kr kr kr (fun cs h=>rn h) ?_
      intro EZ a h124 fP hS
      have qU:=Ct
      rw [← fP] at qU
      clear fP
      refine dV T 31 hS kr kr kr (by rfl) kr hH kr h124 qU rfl kr ?_
      intro v125 a hv hS
      cases hv
      refine tke T [34,35,36,37] [2,6] hS hH (tts 38) 0 [93,104,115,117,119,124,120,121,122] [(128,B (decide (((gi o_.Rows (wR (bu - 1))).Kind)≥((gi o_.Rows bu).Kind))))] fun a hS=>?_
      refine aS kr ?_
      replace hS:=hS.sl ⟨[(1,Pt 2 0),(4,I bu),(128,B (decide (((gi o_.Rows (wR (bu - 1))).Kind)≥((gi o_.Rows bu).Kind))))],[(2,(48,(cO o_ a1 c1)))]⟩
      exact ⟨Z,_,decide (((gi o_.Rows (wR (bu - 1))).Kind)≥((gi o_.Rows bu).Kind)),hm,hS.sl _,hO,h103⟩
     replace hS:=hS.lit (t:=115) kr hb
     replace hm:=hm.2 hb
     refine tke T [25,27,32,26,28,33,29,30,31,34,35,36,37] [2,6] hS hH (tts 38) 0 [5,93,104,115] [(128,B false)] fun a hS=>?_
     refine aS kr ?_
     replace hS:=hS.sl ⟨[(1,Pt 2 0),(4,I bu),(128,B false)],[(2,(48,(cO o_ a1 c1)))]⟩
     exact ⟨Z,_,false,hm,hS.sl _,hO,h103⟩
    replace hS:=hS.lit (t:=93) kr hb
    replace hm:=hm.2 hb
    refine tke T [3,5,10,4,6,11,7,8,9,12,13,14,16,21,15,17,22,18,19,20,23,24,25,27,32,26,28,33,29,30,31,34,35,36,37] [2,6] hS hH (tts 38) 0 [5,93] [(128,B false)] fun a hS=>?_
    refine aS kr ?_
    replace hS:=hS.sl ⟨[(1,Pt 2 0),(4,I bu),(128,B false)],[(2,(48,(cO o_ a1 c1)))]⟩
    exact ⟨Z,_,false,hm,hS.sl _,hO,h103⟩
   rintro a sS ⟨Z,xF,d3,hm,hS,hO,h108⟩
   unfold VC58_J2 at hm
   refine aG hS (b:=d3) kr (fun hb=>?_) fun hb=>?_
   ·replace hm:=hm.1 hb
    refine rP T hS ⟨[(2,I bu),(3,I 32)],[]⟩ fun a hS=>?_
    refine aY ?_
    exact fin T hS hO (fun c=>c) rfl (r:=[.int .i64 bu,.int .i64 32]) kr (fun X' hM hC=>⟨(bu,32),hm,rfl⟩)
   replace hm:=hm.2 hb
   refine aH ?_
   refine region (ePe T hS [128] [(4,I (wR (bu+1)))] fun a hS=>?_)
   exact ⟨wR (bu+1),⟨Z,_,hm.1,hS.sl _,hO,h108⟩,hm.2⟩
  replace hm:=hm.2 hb
  refine cb (by rfl) ?_
  exact ⟨Z,_,hm,hS.sl _,hO,h103⟩
 rintro a um ⟨Z,pH,hm,hS,hO,h101⟩
 unfold VC58_J1 at hm
 refine rP T hS ⟨[(2,I (lN o_.Rows)),(3,I 0)],[]⟩ fun a hS=>?_
 refine aY ?_
 exact fin T hS hO (fun c=>c) rfl (r:=[.int .i64 (lN o_.Rows),.int .i64 0]) kr (fun X' hM hC=>⟨((lN o_.Rows),0),hm,rfl⟩)
theorem C58 (v:∀ (o_:ae),VC58 o_ (fun r=>r=cJ o_)):S58:=by
 intro w X o_ a1 c1   h1
 refine (W58 w X o_ a1 c1   _ (v o_) h1).mono ?_
 rintro _ _ _ _ ⟨r,rfl,h⟩
 exact h
theorem W36 (Gy:S58) (LE:S65) (w0) (X0) (o_:ae) (l_:List ab) (state:Int) (ac:List aa) (a1) (c1) (a2) (c2) (a3) (c3) (Q:Int × Int × Int->Prop) (hm:VC36 o_ l_ state ac Q) (h1:RS ay w0 X0 a1 o_.Rows c1) (h2:RS ao w0 X0 a2 l_ c2) (h3:RS aq w0 X0 a3 ac c3) :
  Ret Tryz.prog 36 #[.agg #[.int .i64 o_.ar,.int .i64 o_.aw,.int .i64 o_.aC,.slice a1 o_.Rows.length c1],.slice a2 l_.length c2,.int .i64 state,.slice a3 ac.length c3] aJ w0 X0 (fun w X' v=>∃ r,Q r/\v=.tuple #[.int .i64 r.1,.int .i64 r.2.1,.int .i64 r.2.2]):=by
 unfold VC36 at hm
 replace hm:=hm (h1.sm kr)
 replace hm:=hm (h2.sm kr)
 replace hm:=hm (h3.sm kr)
 refine enter Tryz.func36 rfl (vals:=[.agg #[.int .i64 o_.ar,.int .i64 o_.aw,.int .i64 o_.aC,.slice a1 o_.Rows.length c1],.slice a2 l_.length c2,.int .i64 state,.slice a3 ac.length c3]) kr ?_
 intro Z a hS hO hM
 replace h1:=h1.m0 hM
 replace h2:=h2.m0 hM
 replace h3:=h3.m0 hM
 refine rM T hS ⟨[(1,Sl a2 l_ c2),(2,I state),(3,Sl a3 ac c3),(4,Pt 5 0)],[(5,(48,(cO o_ a1 c1)))]⟩ fun Z a DA Hk hS hE hr=>?_
 replace hO:=hO.m2 hE
 replace h1:=h1.m1 hE
 replace h2:=h2.m1 hE
 replace h3:=h3.m1 hE
 clear hE hr
 refine bj ?_
 refine oPe T hS 1 [] [(19,V (.agg #[.int .i64 o_.ar,.int .i64 o_.aw,.int .i64 o_.aC,.slice a1 o_.Rows.length c1]))] fun a hS=>?_
 refine op1 (call hS kr kr hb58 kr (fun _ _=>rfl) (Gy _ _ o_ a1 c1 h1) ?_)
 intro v101 a eZ fa hE hp hS
 replace hO:=hO.m2 hE
 replace h1:=h1.m1 hE
 replace h2:=h2.m1 hE
 replace h3:=h3.m1 hE
 obtain ⟨ap,hr⟩:∃ r,cJ o_=r:=⟨_,rfl⟩
 replace hm:=hm ap hr
 rw [hr] at hp
 clear hr
 subst hp
 refine ePe T hS [19,20] [(12,I ap.2)] fun a hS=>?_
 refine bc ?_
 refine rPe T hS [12] [(24,B (ap.2 != 0))] fun a hS=>?_
 refine aG hS (b:=(ap.2 != 0)) kr (fun hb=>?_) fun hb=>?_
 ·replace hm:=hm.1 hb
  refine rP T hS ⟨[(8,I 0),(9,I (-1)),(10,I 2)],[]⟩ fun a hS=>?_
  refine aY ?_
  exact fin T hS hO (fun c=>c) rfl (r:=[.int .i64 0,.int .i64 (-1),.int .i64 2]) kr (fun X' hM hC=>⟨(0,(-1),2),hm,rfl⟩)
 replace hm:=hm.2 hb
 refine aH (bc ?_)
 refine rPe T hS [24] [(32,B ((decide (state < 0)) || (decide (state≥o_.ar))))] (sp:=[27]) fun a hS=>?_
 refine aG hS (b:=((decide (state < 0)) || (decide (state≥o_.ar)))) kr (fun hb=>?_) fun hb=>?_
 ·replace hm:=hm.1 hb
  refine rP T hS ⟨[(8,I 0),(9,I (-1)),(10,I 30)],[]⟩ fun a hS=>?_
  refine aY ?_
  exact fin T hS hO (fun c=>c) rfl (r:=[.int .i64 0,.int .i64 (-1),.int .i64 30]) kr (fun X' hM hC=>⟨(0,(-1),30),hm,rfl⟩)
 replace hm:=hm.2 hb
 refine aH ?_
 refine bT (fun a w=>∃ (Z:Nat->Nat) (X:Nat->Nat) (eY:Int),VC36_J1 ac Q eY/\St Tryz.f36.ntmps ⟨[(2,I eY),(3,Sl a3 ac c3)],[]⟩ Z a w X/\Old w0 X0 w X/\RS aq w X a3 ac c3) ?_ ?_
 ·refine rPe T hS [32] [(13,I 0)] fun a hS=>?_
  refine aL ?_
  obtain ⟨I1,μ1,co,hm⟩:=hm
  refine cl (σ:=Int × Int) (fun s a w=>∃ Z X,I1 s.1 s.2/\St Tryz.f36.ntmps ⟨[(1,Sl a2 l_ c2),(2,I s.1),(3,Sl a3 ac c3),(4,Pt 5 0),(13,I s.2)],[(5,(48,(cO o_ a1 c1)))]⟩ Z a w X/\Old w0 X0 w X/\RS ao w X a2 l_ c2/\RS aq w X a3 ac c3/\RS ay w X a1 o_.Rows c1) (fun s=>μ1 s.1 s.2) (⟨state,0⟩) ?_ ?_
  ·exact ⟨Z,_,co,hS.sl _,hO,h2,h3,h1⟩
  rintro ⟨di,bJ⟩ a DB ⟨Z,De,hI,hS,hO,h107,h109,h111⟩
  replace hm:=hm di bJ hI
  clear hI co
  refine bc ?_
  refine rPe T hS [] [(36,B (decide (bJ < (lN ac))))] fun a hS=>?_
  refine aG hS (b:=decide (bJ < (lN ac))) kr (fun hb=>?_) fun hb=>?_
  ·replace hm:=hm.1 hb
   refine aH (bc ?_)
   refine aL ?_
   refine bj ?_
   refine oPe T hS 2 [36] [(39,Sl a3 ac c3),(40,I bJ)] fun a hS=>?_
   obtain ⟨hq,hm⟩:=hm
   refine op1 (index (e:=56) (k:=.i64) T hS kr kr kr kr h109 kr kr hq.1 hq.2 ?_)
   intro Ki a h113 hS
   refine op1 (eC T hS kr kr kr h113 kr kr ?_)
   intro v114 a hv hS
   subst hv
   refine eM T hS ⟨[(1,Sl a2 l_ c2),(2,I di),(3,Sl a3 ac c3),(4,Pt 5 0),(13,I bJ),(14,Pt 15 0)],[(5,(48,(cO o_ a1 c1))),(15,(56,(cK (gi ac bJ))))]⟩ fun Z a DC ES hS hE hr=>?_
   replace hO:=hO.m2 hE
   replace h107:=h107.m1 hE
   replace h109:=h109.m1 hE
   replace h111:=h111.m1 hE
   clear hE hr
   refine bc ?_
   refine rPe T hS [] [(52,B ((decide (((gi ac bJ).Oper) < 0)) || (decide (((gi ac bJ).Oper)≥(lN l_)))))] (sp:=[46]) fun a hS=>?_
   refine aG hS (b:=((decide (((gi ac bJ).Oper) < 0)) || (decide (((gi ac bJ).Oper)≥(lN l_))))) kr (fun hb=>?_) fun hb=>?_
   ·replace hm:=hm.1 hb
    refine rP T hS ⟨[(8,I 0),(9,I bJ),(10,I 2)],[]⟩ fun a hS=>?_
    refine aY ?_
    exact fin T hS hO (fun c=>c) rfl (r:=[.int .i64 0,.int .i64 bJ,.int .i64 2]) kr (fun X' hM hC=>⟨(0,bJ,2),hm,rfl⟩)
   replace hm:=hm.2 hb
   refine aH ?_
   refine bT (fun a w=>∃ Z X,VC36_J2 o_ l_ ac Q I1 μ1 di bJ/\St Tryz.f36.ntmps ⟨[(1,Sl a2 l_ c2),(2,I di),(3,Sl a3 ac c3),(4,Pt 5 0),(13,I bJ),(14,Pt 15 0)],[(5,(48,(cO o_ a1 c1))),(15,(56,(cK (gi ac bJ))))]⟩ Z a w X/\Old w0 X0 w X/\RS ao w X a2 l_ c2/\RS aq w X a3 ac c3/\RS ay w X a1 o_.Rows c1) ?_ ?_
   ·refine rPe T hS [52] [(15,I 0)] fun a hS=>?_
    refine aL ?_
    obtain ⟨I2,μ2,co,hm⟩:=hm
    refine cl (σ:=Int) (fun s a w=>∃ Z X,I2 s/\St Tryz.f36.ntmps ⟨[(1,Sl a2 l_ c2),(2,I di),(3,Sl a3 ac c3),(4,Pt 5 0),(13,I bJ),(14,Pt 15 0),(15,I s)],[(5,(48,(cO o_ a1 c1))),(15,(56,(cK (gi ac bJ))))]⟩ Z a w X/\Old w0 X0 w X/\RS ao w X a2 l_ c2/\RS aq w X a3 ac c3/\RS ay w X a1 o_.Rows c1) (fun s=>μ2 s) (0) ?_ ?_
    ·exact ⟨Z,_,co,hS.sl _,hO,h107,h109,h111⟩
    rintro l6 a wo ⟨Z,t8,hI,hS,hO,h147,h148,h150⟩
    replace hm:=hm l6 hI
    clear hI co
    refine bc ?_
    refine rPe T hS [] [(56,B (decide (l6 < bJ)))] fun a hS=>?_
    refine aG hS (b:=decide (l6 < bJ)) kr (fun hb=>?_) fun hb=>?_
    ·replace hm:=hm.1 hb
     refine aH (bc ?_)
     refine aL ?_
     refine dv [5,15] mixed hS ?_
     intro F8 wa hS hE hD hH
     replace hO:=hO.m2 hE
     replace h147:=h147.m1 hE
     replace h148:=h148.m1 hE
     replace h150:=h150.m1 hE
     refine tke T [0,1,5,6] [5,15] hS hH #[true,true,false,false,false,true,true,false] 4 [] [(59,Sl a3 ac c3),(60,I l6),(65,I ((gi ac bJ).Oper))] fun a hS=>?_
     obtain ⟨hq,hm⟩:=hm
     refine c7 (e:=56) (k:=.i64) T 2 hS kr kr kr (by rfl) kr hH kr kr h148 kr kr hq.1 hq.2 ?_
     intro Ke a h154 hS
     have Cs:=h154.here
     refine dw (off:=0) (fsz:=1) (ft:=3) (TF:=tI) (y:=(gi ac l6).Oper) 3 T hS kr kr kr (by rfl) kr hH kr h154 kr kr kr (fun cs h=>gL h) ?_
     intro Kd a h156 fP hS
     have vk:=Cs
     rw [← fP] at vk
     clear fP
     refine dV T 4 hS kr kr kr (by rfl) kr hH kr h156 vk rfl kr ?_
     intro v157 a hv hS
     cases hv
     refine tke T [7] [5,15] hS hH (tts 8) 0 [59,60,65,61,62,63] [(66,B (((gi ac l6).Oper) == ((gi ac bJ).Oper)))] fun a hS=>?_
     refine aS kr ?_
     replace hS:=hS.sle [] []
     refine aG hS (b:=(((gi ac l6).Oper) == ((gi ac bJ).Oper))) kr (fun hb=>?_) fun hb=>?_
     ·replace hm:=hm.1 hb
      refine rP T hS ⟨[(8,I 0),(9,I bJ),(10,I 21)],[]⟩ fun a hS=>?_
      refine aY ?_
      exact fin T hS hO (fun c=>c) rfl (r:=[.int .i64 0,.int .i64 bJ,.int .i64 21]) kr (fun X' hM hC=>⟨(0,bJ,21),hm,rfl⟩)
     replace hm:=hm.2 hb
     refine aH ?_
     refine region (ePe T hS [66] [(15,I (wR (l6+1)))] fun a hS=>?_)
     exact ⟨wR (l6+1),⟨Z,_,hm.1,hS.sl _,hO,h147,h148,h150⟩,hm.2⟩
    replace hm:=hm.2 hb
    refine cb (by rfl) ?_
    exact ⟨Z,_,hm,hS.sl _,hO,h147,h148,h150⟩
   rintro a H6 ⟨Z,ET,hm,hS,hO,h115,h116,h117⟩
   unfold VC36_J2 at hm
   refine dv [5,15] mixed hS ?_
   intro Bb Dg hS hE hD hH
   replace hO:=hO.m2 hE
   replace h115:=h115.m1 hE
   replace h116:=h116.m1 hE
   replace h117:=h117.m1 hE
   refine tke T [0,1,2,3,8,4,9] [5,15] hS hH #[true,true,true,true,true,false,false,false,true,true,false,false,false,false,false,false] 9 [2] [(69,V (.agg #[.int .i64 o_.ar,.int .i64 o_.aw,.int .i64 o_.aC,.slice a1 o_.Rows.length c1])),(70,I di),(71,Sl a2 l_ c2),(73,I ((gi ac bJ).Oper)),(78,I ((gi ac bJ).Result))] fun a hS=>?_
   obtain ⟨hq,hm⟩:=hm
   refine c7 (e:=102) (k:=.i64) T 5 hS kr kr kr (by rfl) kr hH kr kr h115 kr kr hq.1 hq.2 ?_
   intro Kh a h121 hS
   have Jh:=h121.here
   refine dw (off:=1) (fsz:=1) (ft:=3) (TF:=tI) (y:=(gi l_ ((gi ac bJ).Oper)).Kind) 6 T hS kr kr kr (by rfl) kr hH kr h121 kr kr kr (fun cs h=>kP h) ?_
   intro AP a h123 fP hS
   have FR:=Jh
   rw [← fP] at FR
   clear fP
   refine dV T 7 hS kr kr kr (by rfl) kr hH kr h123 FR rfl kr ?_
   intro v124 a hv hS
   cases hv
   refine only 10 kr (by rfl) (call hS kr kr hb65 kr (fun _ _=>rfl) (LE _ _ o_ di ((gi l_ ((gi ac bJ).Oper)).Kind) ((gi ac bJ).Result) a1 c1 h117) ?_)
   intro v125 a rx oZ hE hp hS
   replace hO:=hO.m2 hE
   replace hD:=hD.ev hE rfl
   replace h115:=h115.m1 hE
   replace h116:=h116.m1 hE
   replace h117:=h117.m1 hE
   replace h121:=h121.m1 hE
   replace h123:=h123.m1 hE
   obtain ⟨bI,hr⟩:∃ r,cX o_ di ((gi l_ ((gi ac bJ).Oper)).Kind) ((gi ac bJ).Result)=r:=⟨_,rfl⟩
   replace hm:=hm bI hr
   rw [hr] at hp
   clear hr
   subst hp
   replace hS:=hS.sle [] [(79,V (.tuple #[.int .i64 bI.1,.int .i64 bI.2]))]
   refine cW (bH.of hS (bks:=[5,15]) kr hD) ?_
   intro hH
   refine tke T [11,12,13,14,15] [5,15] hS hH (tts 16) 0 [69,70,71,73,78,74,75,76,79] [(16,I bI.1),(17,I bI.2)] fun a hS=>?_
   refine aS kr ?_
   replace hS:=hS.sle [] []
   refine bc ?_
   refine rPe T hS [] [(83,B (bI.2 != 0))] fun a hS=>?_
   refine aG hS (b:=(bI.2 != 0)) kr (fun hb=>?_) fun hb=>?_
   ·replace hm:=hm.1 hb
    refine rP T hS ⟨[(8,I 0),(9,I bJ),(10,I bI.2)],[]⟩ fun a hS=>?_
    refine aY ?_
    exact fin T hS hO (fun c=>c) rfl (r:=[.int .i64 0,.int .i64 bJ,.int .i64 bI.2]) kr (fun X' hM hC=>⟨(0,bJ,bI.2),hm,rfl⟩)
   replace hm:=hm.2 hb
   refine aH (bc ?_)
   refine bT (fun a w=>∃ (Z:Nat->Nat) (X:Nat->Nat) (fW:Bool),VC36_J3 Q I1 μ1 di bJ bI fW/\St Tryz.f36.ntmps ⟨[(1,Sl a2 l_ c2),(3,Sl a3 ac c3),(4,Pt 5 0),(13,I bJ),(16,I bI.1),(103,B fW)],[(5,(48,(cO o_ a1 c1)))]⟩ Z a w X/\Old w0 X0 w X/\RS ao w X a2 l_ c2/\RS aq w X a3 ac c3/\RS ay w X a1 o_.Rows c1) ?_ ?_
   ·refine gI [5,15] mixed hS ?_
    intro um xE hS hE hD hH
    replace hO:=hO.m2 hE
    replace h115:=h115.m1 hE
    replace h116:=h116.m1 hE
    replace h117:=h117.m1 hE
    refine tke T [0,1,2] [5,15] hS hH #[true,true,true,false,false,false,false,false,false,false,false,false,false,false,false,false,false,false] 15 [] [(86,Sl a2 l_ c2),(88,I ((gi ac bJ).Oper))] fun a hS=>?_
    obtain ⟨hq,hm⟩:=hm
    refine c7 (e:=102) (k:=.i64) T 3 hS kr kr kr (by rfl) kr hH kr kr h115 kr kr hq.1 hq.2 ?_
    intro Kf a h136 hS
    have Jd:=h136.here
    refine dw (off:=3) (fsz:=1) (ft:=3) (TF:=tI) (y:=(gi l_ ((gi ac bJ).Oper)).End) 4 T hS kr kr kr (by rfl) kr hH kr h136 kr kr kr (fun cs h=>kO h) ?_
    intro R3 a h138 fP hS
    have FQ:=Jd
    rw [← fP] at FQ
    clear fP
    refine dV T 5 hS kr kr kr (by rfl) kr hH kr h138 FQ rfl kr ?_
    intro v139 a hv hS
    cases hv
    refine tke T [6,7] [5,15] hS hH #[true,true,true,true,true,true,true,true,false,false,false,false,false,false,false,false,false,false] 10 [86,88,89,90,91] [(93,B (((gi l_ ((gi ac bJ).Oper)).End) != (-1)))] fun a hS=>?_
    rcases bft (((gi l_ ((gi ac bJ).Oper)).End) != (-1)) with hb | hb
    ·replace hS:=hS.lit (t:=93) kr hb
     replace hm:=hm.1 hb
     refine tke T [8,9,14,10,15] [5,15] hS hH #[true,true,true,true,true,true,true,true,true,true,true,false,false,false,true,true,false,false] 5 [14] [(94,Sl a2 l_ c2),(96,I ((gi ac bJ).Oper)),(101,I ((gi ac bJ).Result))] fun a hS=>?_
     obtain ⟨hq,hm⟩:=hm
     refine c7 (e:=102) (k:=.i64) T 11 hS kr kr kr (by rfl) kr hH kr kr h115 kr kr hq.1 hq.2 ?_
     intro Ht a h141 hS
     have Jc:=h141.here
     refine dw (off:=4) (fsz:=1) (ft:=3) (TF:=tI) (y:=(gi l_ ((gi ac bJ).Oper)).Result) 12 T hS kr kr kr (by rfl) kr hH kr h141 kr kr kr (fun cs h=>po h) ?_
     intro NG a h143 fP hS
     have FP:=Jc
     rw [← fP] at FP
     clear fP
     refine dV T 13 hS kr kr kr (by rfl) kr hH kr h143 FP rfl kr ?_
     intro v144 a hv hS
     cases hv
     refine tke T [16,17] [5,15] hS hH (tts 18) 0 [93,94,96,101,97,98,99] [(103,B (((gi l_ ((gi ac bJ).Oper)).Result) != ((gi ac bJ).Result)))] fun a hS=>?_
     refine aS kr ?_
     replace hS:=hS.sl ⟨[(1,Sl a2 l_ c2),(3,Sl a3 ac c3),(4,Pt 5 0),(13,I bJ),(16,I bI.1),(103,B (((gi l_ ((gi ac bJ).Oper)).Result) != ((gi ac bJ).Result)))],[(5,(48,(cO o_ a1 c1)))]⟩
     exact ⟨Z,_,(((gi l_ ((gi ac bJ).Oper)).Result) != ((gi ac bJ).Result)),hm,hS.sl _,hO,h115,h116,h117⟩
    replace hS:=hS.lit (t:=93) kr hb
    replace hm:=hm.2 hb
    refine tke T [8,9,14,10,15,11,12,13,16,17] [5,15] hS hH (tts 18) 0 [14,93] [(103,B false)] fun a hS=>?_
    refine aS kr ?_
    replace hS:=hS.sl ⟨[(1,Sl a2 l_ c2),(3,Sl a3 ac c3),(4,Pt 5 0),(13,I bJ),(16,I bI.1),(103,B false)],[(5,(48,(cO o_ a1 c1)))]⟩
    exact ⟨Z,_,false,hm,hS.sl _,hO,h115,h116,h117⟩
   rintro a zl ⟨Z,ua,fW,hm,hS,hO,h129,h130,h132⟩
   unfold VC36_J3 at hm
   refine aG hS (b:=fW) kr (fun hb=>?_) fun hb=>?_
   ·replace hm:=hm.1 hb
    refine rP T hS ⟨[(8,I 0),(9,I bJ),(10,I 40)],[]⟩ fun a hS=>?_
    refine aY ?_
    exact fin T hS hO (fun c=>c) rfl (r:=[.int .i64 0,.int .i64 bJ,.int .i64 40]) kr (fun X' hM hC=>⟨(0,bJ,40),hm,rfl⟩)
   replace hm:=hm.2 hb
   refine aH ?_
   refine region (ePe T hS [16,103] [(2,I bI.1)] fun a hS=>?_)
   refine region (ePe T hS [] [(13,I (wR (bJ+1)))] fun a hS=>?_)
   exact ⟨⟨bI.1,wR (bJ+1)⟩,⟨Z,_,hm.1,hS.sl _,hO,h129,h130,h132⟩,hm.2⟩
  replace hm:=hm.2 hb
  refine cb (by rfl) ?_
  exact ⟨Z,_,di,hm,hS.sl _,hO,h109⟩
 rintro a F5 ⟨Z,Hm,eY,hm,hS,hO,h106⟩
 unfold VC36_J1 at hm
 refine rPe T hS [2,3] [(8,I eY),(9,I (lN ac)),(10,I 0)] fun a hS=>?_
 refine aY ?_
 exact fin T hS hO (fun c=>c) rfl (r:=[.int .i64 eY,.int .i64 (lN ac),.int .i64 0]) kr (fun X' hM hC=>⟨(eY,(lN ac),0),hm,rfl⟩)
theorem C36 (Gy:S58) (LE:S65) (v:∀ (o_:ae) (l_:List ab) (state:Int) (ac:List aa),VC36 o_ l_ state ac (fun r=>r=bL o_ l_ state ac)):S36:=by
 intro w X o_ l_ state ac a1 c1 a2 c2 a3 c3   h1 h2 h3
 refine (W36 Gy LE w X o_ l_ state ac a1 c1 a2 c2 a3 c3   _ (v o_ l_ state ac) h1 h2 h3).mono ?_
 rintro _ _ _ _ ⟨r,rfl,h⟩
 exact h
theorem W67 (w0) (X0) (a_:ab) (b_:ab) (Q:Bool->Prop) (hm:VC67 a_ b_ Q) :
  Ret Tryz.prog 67 #[.agg #[.int .i64 a_.aj,.int .i64 a_.Kind,.int .i64 a_.aE,.int .i64 a_.End,.int .i64 a_.Result],.agg #[.int .i64 b_.aj,.int .i64 b_.Kind,.int .i64 b_.aE,.int .i64 b_.End,.int .i64 b_.Result]] aJ w0 X0 (fun w X' v=>∃ r,Q r/\v=.bool r):=by
 unfold VC67 at hm
 refine enter Tryz.func67 rfl (vals:=[.agg #[.int .i64 a_.aj,.int .i64 a_.Kind,.int .i64 a_.aE,.int .i64 a_.End,.int .i64 a_.Result],.agg #[.int .i64 b_.aj,.int .i64 b_.Kind,.int .i64 b_.aE,.int .i64 b_.End,.int .i64 b_.Result]]) kr ?_
 intro Z a hS hO hM
 refine rM T hS ⟨[(2,Pt 3 0),(3,Pt 4 0)],[(3,(102,(cP a_))),(4,(102,(cP b_)))]⟩ fun Z a oE o3 hS hE hr=>?_
 replace hO:=hO.m2 hE
 clear hE hr
 refine rP T hS ⟨[(4,B ((decide (a_.End≥0)) && (decide (b_.aE > a_.End))))],[]⟩ (sp:=[8]) fun a hS=>?_
 refine aY ?_
 exact fin T hS hO (fun c=>c) rfl (r:=[.bool ((decide (a_.End≥0)) && (decide (b_.aE > a_.End)))]) kr (fun X' hM hC=>⟨((decide (a_.End≥0)) && (decide (b_.aE > a_.End))),hm,rfl⟩)
theorem C67 (v:∀ (a_:ab) (b_:ab),VC67 a_ b_ (fun r=>r=gC a_ b_)):S67:=by
 intro w X a_ b_    
 refine (W67 w X a_ b_    _ (v a_ b_)).mono ?_
 rintro _ _ _ _ ⟨r,rfl,h⟩
 exact h
theorem W37 (z8:S66) (Gx:S67) (w0) (X0) (l_:List ab) (ac:List aa) (a1) (c1) (a2) (c2) (Q:Int->Prop) (hm:VC37 l_ ac Q) (h1:RS ao w0 X0 a1 l_ c1) (h2:RS aq w0 X0 a2 ac c2) :
  Ret Tryz.prog 37 #[.slice a1 l_.length c1,.slice a2 ac.length c2] aJ w0 X0 (fun w X' v=>∃ r,Q r/\v=.int .i64 r):=by
 unfold VC37 at hm
 replace hm:=hm (h1.sm kr)
 replace hm:=hm (h2.sm kr)
 refine enter Tryz.func37 rfl (vals:=[.slice a1 l_.length c1,.slice a2 ac.length c2]) kr ?_
 intro Z a hS hO hM
 replace h1:=h1.m0 hM
 replace h2:=h2.m0 hM
 refine rPe T hS [] [] fun a hS=>?_
 refine bT (fun a w=>∃ Z X,VC37_J1 Q/\St Tryz.f37.ntmps ⟨[],[]⟩ Z a w X/\Old w0 X0 w X) ?_ ?_
 ·refine rPe T hS [] [(5,I 0)] fun a hS=>?_
  refine aL ?_
  obtain ⟨I1,μ1,co,hm⟩:=hm
  refine cl (σ:=Int) (fun s a w=>∃ Z X,I1 s/\St Tryz.f37.ntmps ⟨[(0,Sl a1 l_ c1),(1,Sl a2 ac c2),(5,I s)],[]⟩ Z a w X/\Old w0 X0 w X/\RS ao w X a1 l_ c1/\RS aq w X a2 ac c2) (fun s=>μ1 s) (0) ?_ ?_
  ·exact ⟨Z,_,co,hS.sl _,hO,h1,h2⟩
  rintro bi a ul ⟨Z,Df,hI,hS,hO,h101,h102⟩
  replace hm:=hm bi hI
  clear hI co
  refine bc ?_
  refine rPe T hS [] [(12,B (decide (bi < (lN ac))))] fun a hS=>?_
  refine aG hS (b:=decide (bi < (lN ac))) kr (fun hb=>?_) fun hb=>?_
  ·replace hm:=hm.1 hb
   refine aH ?_
   refine bT (fun a w=>∃ Z X,VC37_J2 I1 μ1 bi/\St Tryz.f37.ntmps ⟨[(0,Sl a1 l_ c1),(1,Sl a2 ac c2),(5,I bi)],[]⟩ Z a w X/\Old w0 X0 w X/\RS ao w X a1 l_ c1/\RS aq w X a2 ac c2) ?_ ?_
   ·refine aL ?_
    refine bj ?_
    refine oPe T hS 2 [12] [(15,Sl a2 ac c2),(16,I bi)] fun a hS=>?_
    obtain ⟨hq,hm⟩:=hm
    refine op1 (index (e:=56) (k:=.i64) T hS kr kr kr kr h102 kr kr hq.1 hq.2 ?_)
    intro Kj a h107 hS
    refine op1 (e9 (off:=0) (fsz:=1) (ft:=3) (TF:=tI) (y:=(gi ac bi).Oper) T hS kr kr kr h107 kr kr kr (fun cs h=>gL h) ?_)
    intro NN a h109 hS
    refine op1 (dU T hS kr kr kr h109 rfl kr ?_)
    intro v110 a hv hS
    cases hv
    refine ePe T hS [15,16,17,18,19] [(6,I ((gi ac bi).Oper))] fun a hS=>?_
    refine rPe T hS [] [(7,I 0)] fun a hS=>?_
    refine aL ?_
    obtain ⟨I2,μ2,co,hm⟩:=hm
    refine cl (σ:=Int) (fun s a w=>∃ Z X,I2 s/\St Tryz.f37.ntmps ⟨[(0,Sl a1 l_ c1),(1,Sl a2 ac c2),(5,I bi),(6,I ((gi ac bi).Oper)),(7,I s)],[]⟩ Z a w X/\Old w0 X0 w X/\RS ao w X a1 l_ c1/\RS aq w X a2 ac c2) (fun s=>μ2 s) (0) ?_ ?_
    ·exact ⟨Z,_,co,hS.sl _,hO,h101,h102⟩
    rintro bd a p3 ⟨Z,xD,hI,hS,hO,h111,h112⟩
    replace hm:=hm bd hI
    clear hI co
    refine bc ?_
    refine rPe T hS [] [(33,B (((decide (bd < (lN l_))) && (decide (((gi ac bi).Oper)≥0))) && (decide (((gi ac bi).Oper) < (lN l_)))))] (sp:=[24,28]) fun a hS=>?_
    refine aG hS (b:=(((decide (bd < (lN l_))) && (decide (((gi ac bi).Oper)≥0))) && (decide (((gi ac bi).Oper) < (lN l_))))) kr (fun hb=>?_) fun hb=>?_
    ·replace hm:=hm.1 hb
     refine aH (bc ?_)
     refine aL ?_
     refine bj ?_
     refine oPe T hS 2 [33] [(36,Sl a2 ac c2),(37,I bd)] fun a hS=>?_
     refine op1 (call hS kr kr hb66 kr (fun _ _=>rfl) (z8 _ _ ac bd a2 c2 h112) ?_)
     intro v114 a pt ue hE hp hS
     replace hO:=hO.m2 hE
     replace h111:=h111.m1 hE
     replace h112:=h112.m1 hE
     obtain ⟨d7,hr⟩:∃ r,aX ac bd=r:=⟨_,rfl⟩
     replace hm:=hm d7 hr
     rw [hr] at hp
     clear hr
     subst hp
     refine ePe T hS [36,37,38] [(8,I d7)] fun a hS=>?_
     refine bT (fun a w=>∃ (Z:Nat->Nat) (X:Nat->Nat) (dB:Bool),VC37_J3 Q bi I2 μ2 bd dB/\St Tryz.f37.ntmps ⟨[(0,Sl a1 l_ c1),(1,Sl a2 ac c2),(5,I bi),(6,I ((gi ac bi).Oper)),(7,I bd),(56,B dB)],[]⟩ Z a w X/\Old w0 X0 w X/\RS ao w X a1 l_ c1/\RS aq w X a2 ac c2) ?_ ?_
     ·refine gI [] mixed hS ?_
      intro up AK hS hE hD hH
      replace hO:=hO.m2 hE
      replace h111:=h111.m1 hE
      replace h112:=h112.m1 hE
      refine tke T [0,1,4,5] [] hS hH #[true,true,false,false,true,true,false,false,false,false,false,false,false,false,false,false,false,false] 14 [] [(39,Sl a1 l_ c1),(40,I bd),(43,Sl a1 l_ c1),(44,I ((gi ac bi).Oper))] fun a hS=>?_
      obtain ⟨hq,hm⟩:=hm
      refine c7 (e:=102) (k:=.i64) T 2 hS kr kr kr (by rfl) kr hH kr kr h111 kr kr hq.1 hq.2 ?_
      intro EZ a h124 hS
      have qU:=h124.here
      refine jr T 3 hS kr kr kr (by rfl) kr hH kr h124 qU kr kr ?_
      intro v125 a hv hS
      subst hv
      obtain ⟨hq,hm⟩:=hm
      refine c7 (e:=102) (k:=.i64) T 6 hS kr kr kr (by rfl) kr hH kr kr h111 kr kr hq.1 hq.2 ?_
      intro R6 a h127 hS
      have Jg:=h127.here
      refine jr T 7 hS kr kr kr (by rfl) kr hH kr h127 Jg kr kr ?_
      intro v128 a hv hS
      subst hv
      refine only 8 kr (by rfl) (call hS kr kr hb67 kr (fun _ _=>rfl) (Gx _ _ (gi l_ bd) (gi l_ ((gi ac bi).Oper))) ?_)
      intro v129 a ws EW hE hp hS
      replace hO:=hO.m2 hE
      replace hD:=hD.ev hE rfl
      replace h111:=h111.m1 hE
      replace h112:=h112.m1 hE
      replace h124:=h124.m1 hE
      replace h127:=h127.m1 hE
      obtain ⟨iT,hr⟩:∃ r,gC (gi l_ bd) (gi l_ ((gi ac bi).Oper))=r:=⟨_,rfl⟩
      replace hm:=hm iT hr
      rw [hr] at hp
      clear hr
      subst hp
      refine cW (bH.of hS (bks:=[]) kr hD) ?_
      intro hH
      refine tke T [9] [] hS hH #[true,true,true,true,true,true,true,true,true,true,false,false,false,false,false,false,false,false] 8 [39,40,43,44,41,42,45,46,47] [(48,B iT)] fun a hS=>?_
      rcases bft iT with hb | hb
      ·replace hS:=hS.lit (t:=48) kr hb
       replace hm:=hm.1 hb
       refine tke T [10,11,12] [] hS hH #[true,true,true,true,true,true,true,true,true,true,true,true,true,false,false,false,false,false] 5 [] [(51,B (decide (d7 < 0)))] fun a hS=>?_
       refine iL (tc:=51) (b:=decide (d7 < 0)) (f:=fun c=>⟨[(0,Sl a1 l_ c1),(1,Sl a2 ac c2),(5,I bi),(6,I ((gi ac bi).Oper)),(7,I bd),(48,B true),(55,B (c || (decide (d7≥bi))))],[]⟩) T [13,14,15,16] [] [0,1,5,6,7,48,55] hS kr kr kr kr hH (listed':=#[true,true,true,true,true,true,true,true,true,true,true,true,true,true,true,true,true,false]) (fuel:=1) kr kr (by rfl) ?_
       intro a hS
       refine tke T [17] [] hS hH (tts 18) 0 [48,55] [(56,B ((decide (d7 < 0)) || (decide (d7≥bi))))] fun a hS=>?_
       refine aS kr ?_
       replace hS:=hS.sle [] []
       exact ⟨Z,_,((decide (d7 < 0)) || (decide (d7≥bi))),hm,hS.sl _,hO,h111,h112⟩
      replace hS:=hS.lit (t:=48) kr hb
      replace hm:=hm.2 hb
      refine tke T [10,11,12,13,14,15,16,17] [] hS hH (tts 18) 0 [8,48] [(56,B false)] fun a hS=>?_
      refine aS kr ?_
      replace hS:=hS.sle [] []
      exact ⟨Z,_,false,hm,hS.sl _,hO,h111,h112⟩
     rintro a zn ⟨Z,J9,dB,hm,hS,hO,h118,h119⟩
     unfold VC37_J3 at hm
     refine aG hS (b:=dB) kr (fun hb=>?_) fun hb=>?_
     ·replace hm:=hm.1 hb
      refine rPe T hS [0,1,5,6,7,56] [(4,I bi)] fun a hS=>?_
      refine aY ?_
      exact fin T hS hO (fun c=>c) rfl (r:=[.int .i64 bi]) kr (fun X' hM hC=>⟨bi,hm,rfl⟩)
     replace hm:=hm.2 hb
     refine aH ?_
     refine region (ePe T hS [56] [(7,I (wR (bd+1)))] fun a hS=>?_)
     exact ⟨wR (bd+1),⟨Z,_,hm.1,hS.sl _,hO,h118,h119⟩,hm.2⟩
    replace hm:=hm.2 hb
    refine cb (by rfl) ?_
    exact ⟨Z,_,hm,hS.sl _,hO,h111,h112⟩
   rintro a A9 ⟨Z,rH,hm,hS,hO,h104,h105⟩
   unfold VC37_J2 at hm
   refine region (ePe T hS [] [(5,I (wR (bi+1)))] fun a hS=>?_)
   exact ⟨wR (bi+1),⟨Z,_,hm.1,hS.sl _,hO,h104,h105⟩,hm.2⟩
  replace hm:=hm.2 hb
  refine cb (by rfl) ?_
  exact ⟨Z,_,hm,hS.sl _,hO⟩
 rintro a pm ⟨Z,ub,hm,hS,hO⟩
 unfold VC37_J1 at hm
 refine rPe T hS [] [(4,I (-1))] fun a hS=>?_
 refine aY ?_
 exact fin T hS hO (fun c=>c) rfl (r:=[.int .i64 (-1)]) kr (fun X' hM hC=>⟨(-1),hm,rfl⟩)
theorem C37 (z8:S66) (Gx:S67) (v:∀ (l_:List ab) (ac:List aa),VC37 l_ ac (fun r=>r=eB l_ ac)):S37:=by
 intro w X l_ ac a1 c1 a2 c2   h1 h2
 refine (W37 z8 Gx w X l_ ac a1 c1 a2 c2   _ (v l_ ac) h1 h2).mono ?_
 rintro _ _ _ _ ⟨r,rfl,h⟩
 exact h
end Go.Proofs.YteahldlmkheleaaGreat
