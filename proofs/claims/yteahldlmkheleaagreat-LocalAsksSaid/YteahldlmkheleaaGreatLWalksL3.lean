/- Walks. -/
import Derived.Test.YteahldlmkheleaaGreatLWalksS
set_option linter.all false
namespace Go.Proofs.YteahldlmkheleaaGreat
open Go Go.Sv
set_option maxHeartbeats 1000000
theorem W61 (AS:S36) (z8:S66) (Gx:S67) (w0) (X0) (o_:ae) (l_:List ab) (ac:List aa) (a1) (c1) (a2) (c2) (a3) (c3) (Q:Bool->Prop) (hm:VC61 o_ l_ ac Q) (h1:RS ay w0 X0 a1 o_.Rows c1) (h2:RS ao w0 X0 a2 l_ c2) (h3:RS aq w0 X0 a3 ac c3) :
  Ret Tryz.prog 61 #[.agg #[.int .i64 o_.ar,.int .i64 o_.aw,.int .i64 o_.aC,.slice a1 o_.Rows.length c1],.slice a2 l_.length c2,.slice a3 ac.length c3] aJ w0 X0 (fun w X' v=>∃ r,Q r/\v=.bool r):=by
 unfold VC61 at hm
 replace hm:=hm (h1.sm kr)
 replace hm:=hm (h2.sm kr)
 replace hm:=hm (h3.sm kr)
 refine enter Tryz.func61 rfl (vals:=[.agg #[.int .i64 o_.ar,.int .i64 o_.aw,.int .i64 o_.aC,.slice a1 o_.Rows.length c1],.slice a2 l_.length c2,.slice a3 ac.length c3]) kr ?_
 intro Z a hS hO hM
 replace h1:=h1.m0 hM
 replace h2:=h2.m0 hM
 replace h3:=h3.m0 hM
 refine rM T hS ⟨[(1,Sl a2 l_ c2),(2,Sl a3 ac c3),(3,Pt 4 0)],[(4,(48,(cO o_ a1 c1)))]⟩ fun Z a zi AE hS hE hr=>?_
 replace hO:=hO.m2 hE
 replace h1:=h1.m1 hE
 replace h2:=h2.m1 hE
 replace h3:=h3.m1 hE
 clear hE hr
 refine bj ?_
 refine oP T hS 5 ⟨[(1,Sl a2 l_ c2),(2,Sl a3 ac c3),(15,V (.agg #[.int .i64 o_.ar,.int .i64 o_.aw,.int .i64 o_.aC,.slice a1 o_.Rows.length c1])),(16,Sl a2 l_ c2),(18,I o_.aC),(19,Sl a3 ac c3)],[]⟩ fun a hS=>?_
 refine op1 (call hS kr kr hb36 kr (fun _ _=>rfl) (AS _ _ o_ l_ o_.aC ac a1 c1 a2 c2 a3 c3 h1 h2 h3) ?_)
 intro v101 a eZ fa hE hp hS
 replace hO:=hO.m2 hE
 replace h1:=h1.m1 hE
 replace h2:=h2.m1 hE
 replace h3:=h3.m1 hE
 obtain ⟨ap,hr⟩:∃ r,bL o_ l_ o_.aC ac=r:=⟨_,rfl⟩
 replace hm:=hm ap hr
 rw [hr] at hp
 clear hr
 subst hp
 refine ePe T hS [15,16,18,19,20] [(9,I ap.2.2)] fun a hS=>?_
 refine bc ?_
 refine rPe T hS [9] [(25,B (ap.2.2 != 0))] fun a hS=>?_
 refine aG hS (b:=(ap.2.2 != 0)) kr (fun hb=>?_) fun hb=>?_
 ·replace hm:=hm.1 hb
  refine rPe T hS [1,2,25] [(6,B false)] fun a hS=>?_
  refine aY ?_
  exact fin T hS hO (fun c=>c) rfl (r:=[.bool false]) kr (fun X' hM hC=>⟨false,hm,rfl⟩)
 replace hm:=hm.2 hb
 refine aH ?_
 refine bT (fun a w=>∃ Z X,VC61_J1 Q/\St Tryz.f61.ntmps ⟨[],[]⟩ Z a w X/\Old w0 X0 w X) ?_ ?_
 ·refine rPe T hS [25] [(10,I 0)] fun a hS=>?_
  refine aL ?_
  obtain ⟨I1,μ1,co,hm⟩:=hm
  refine cl (σ:=Int) (fun s a w=>∃ Z X,I1 s/\St Tryz.f61.ntmps ⟨[(1,Sl a2 l_ c2),(2,Sl a3 ac c3),(10,I s)],[]⟩ Z a w X/\Old w0 X0 w X/\RS ao w X a2 l_ c2/\RS aq w X a3 ac c3) (fun s=>μ1 s) (0) ?_ ?_
  ·exact ⟨Z,_,co,hS.sl _,hO,h2,h3⟩
  rintro d3 a sR ⟨Z,AF,hI,hS,hO,h105,h106⟩
  replace hm:=hm d3 hI
  clear hI co
  refine bc ?_
  refine rPe T hS [] [(29,B (decide (d3 < (lN l_))))] fun a hS=>?_
  refine aG hS (b:=decide (d3 < (lN l_))) kr (fun hb=>?_) fun hb=>?_
  ·replace hm:=hm.1 hb
   refine aH ?_
   refine bT (fun a w=>∃ Z X,VC61_J2 I1 μ1 d3/\St Tryz.f61.ntmps ⟨[(1,Sl a2 l_ c2),(2,Sl a3 ac c3),(10,I d3)],[]⟩ Z a w X/\Old w0 X0 w X/\RS ao w X a2 l_ c2/\RS aq w X a3 ac c3) ?_ ?_
   ·refine aL ?_
    refine bc ?_
    refine bT (fun a w=>∃ (Z:Nat->Nat) (X:Nat->Nat) (cv:Bool),VC61_J3 l_ ac Q I1 μ1 d3 cv/\St Tryz.f61.ntmps ⟨[(1,Sl a2 l_ c2),(2,Sl a3 ac c3),(10,I d3),(43,B cv)],[]⟩ Z a w X/\Old w0 X0 w X/\RS ao w X a2 l_ c2/\RS aq w X a3 ac c3) ?_ ?_
    ·refine region ?_
     refine oPe T hS 2 [29] [(32,Sl a2 l_ c2),(33,I d3)] fun a hS=>?_
     obtain ⟨hq,hm⟩:=hm
     refine op1 (index (e:=102) (k:=.i64) T hS kr kr kr kr h105 kr kr hq.1 hq.2 ?_)
     intro R1 a h144 hS
     refine op1 (e9 (off:=3) (fsz:=1) (ft:=3) (TF:=tI) (y:=(gi l_ d3).End) T hS kr kr kr h144 kr kr kr (fun cs h=>kO h) ?_)
     intro AO a h146 hS
     refine op1 (dU T hS kr kr kr h146 rfl kr ?_)
     intro v147 a hv hS
     cases hv
     refine oPe T hS 2 [32,33,34,35,36] [(38,B (((gi l_ d3).End) != (-1)))] fun a hS=>?_
     rcases bft (((gi l_ d3).End) != (-1)) with hb | hb
     ·replace hS:=hS.lit (t:=38) kr hb
      replace hm:=hm.1 hb
      refine oPe T hS 2 [] [(39,Sl a3 ac c3),(40,I d3)] fun a hS=>?_
      refine op1 (call hS kr kr hb66 kr (fun _ _=>rfl) (z8 _ _ ac d3 a3 c3 h106) ?_)
      intro v148 a DH EV hE hp hS
      replace hO:=hO.m2 hE
      replace h105:=h105.m1 hE
      replace h106:=h106.m1 hE
      obtain ⟨lc,hr⟩:∃ r,aX ac d3=r:=⟨_,rfl⟩
      replace hm:=hm lc hr
      rw [hr] at hp
      clear hr
      subst hp
      refine ePe T hS [38,39,40,41] [(43,B (decide (lc < 0)))] fun a hS=>?_
      exact ⟨Z,_,decide (lc < 0),hm,hS.sl _,hO,h105,h106⟩
     replace hS:=hS.lit (t:=38) kr hb
     replace hm:=hm.2 hb
     refine ePe T hS [38] [(43,B false)] fun a hS=>?_
     exact ⟨Z,_,false,hm,hS.sl _,hO,h105,h106⟩
    rintro a zj ⟨Z,wa,cv,hm,hS,hO,h110,h111⟩
    unfold VC61_J3 at hm
    refine aG hS (b:=cv) kr (fun hb=>?_) fun hb=>?_
    ·replace hm:=hm.1 hb
     refine rPe T hS [1,2,10,43] [(6,B false)] fun a hS=>?_
     refine aY ?_
     exact fin T hS hO (fun c=>c) rfl (r:=[.bool false]) kr (fun X' hM hC=>⟨false,hm,rfl⟩)
    replace hm:=hm.2 hb
    refine aH ?_
    refine rPe T hS [43] [(11,I 0)] fun a hS=>?_
    refine aL ?_
    obtain ⟨I2,μ2,co,hm⟩:=hm
    refine cl (σ:=Int) (fun s a w=>∃ Z X,I2 s/\St Tryz.f61.ntmps ⟨[(1,Sl a2 l_ c2),(2,Sl a3 ac c3),(10,I d3),(11,I s)],[]⟩ Z a w X/\Old w0 X0 w X/\RS ao w X a2 l_ c2/\RS aq w X a3 ac c3) (fun s=>μ2 s) (0) ?_ ?_
    ·exact ⟨Z,_,co,hS.sl _,hO,h110,h111⟩
    rintro be a pm ⟨Z,ub,hI,hS,hO,h113,h114⟩
    replace hm:=hm be hI
    clear hI co
    refine bc ?_
    refine rPe T hS [] [(47,B (decide (be < (lN l_))))] fun a hS=>?_
    refine aG hS (b:=decide (be < (lN l_))) kr (fun hb=>?_) fun hb=>?_
    ·replace hm:=hm.1 hb
     refine aH (bc ?_)
     refine aL ?_
     refine bj ?_
     refine oPe T hS 2 [47] [(50,Sl a3 ac c3),(51,I d3)] fun a hS=>?_
     refine op1 (call hS kr kr hb66 kr (fun _ _=>rfl) (z8 _ _ ac d3 a3 c3 h114) ?_)
     intro v116 a zq Dh hE hp hS
     replace hO:=hO.m2 hE
     replace h113:=h113.m1 hE
     replace h114:=h114.m1 hE
     obtain ⟨nO,hr⟩:∃ r,aX ac d3=r:=⟨_,rfl⟩
     replace hm:=hm nO hr
     rw [hr] at hp
     clear hr
     subst hp
     refine oPe T hS 2 [50,51] [(53,Sl a3 ac c3),(54,I be)] fun a hS=>?_
     refine op1 (call hS kr kr hb66 kr (fun _ _=>rfl) (z8 _ _ ac be a3 c3 h114) ?_)
     intro v120 a up AK hE hp hS
     replace hO:=hO.m2 hE
     replace h113:=h113.m1 hE
     replace h114:=h114.m1 hE
     obtain ⟨jS,hr⟩:∃ r,aX ac be=r:=⟨_,rfl⟩
     replace hm:=hm jS hr
     rw [hr] at hp
     clear hr
     subst hp
     refine ePe T hS [52,53,54,55] [(12,I nO),(13,I jS)] fun a hS=>?_
     refine bT (fun a w=>∃ (Z:Nat->Nat) (X:Nat->Nat) (k4:Bool),VC61_J4 Q I2 μ2 be k4/\St Tryz.f61.ntmps ⟨[(1,Sl a2 l_ c2),(2,Sl a3 ac c3),(10,I d3),(11,I be),(77,B k4)],[]⟩ Z a w X/\Old w0 X0 w X/\RS ao w X a2 l_ c2/\RS aq w X a3 ac c3) ?_ ?_
     ·refine gI [] mixed hS ?_
      intro sS AJ hS hE hD hH
      replace hO:=hO.m2 hE
      replace h113:=h113.m1 hE
      replace h114:=h114.m1 hE
      refine tke T [0,1,4,5] [] hS hH #[true,true,false,false,true,true,false,false,false,false,false,false,false,false,false,false,false,false,false,false,false,false] 18 [] [(56,Sl a2 l_ c2),(57,I d3),(60,Sl a2 l_ c2),(61,I be)] fun a hS=>?_
      obtain ⟨hq,hm⟩:=hm
      refine c7 (e:=102) (k:=.i64) T 2 hS kr kr kr (by rfl) kr hH kr kr h113 kr kr hq.1 hq.2 ?_
      intro Hx a h130 hS
      have vl:=h130.here
      refine jr T 3 hS kr kr kr (by rfl) kr hH kr h130 vl kr kr ?_
      intro v131 a hv hS
      subst hv
      obtain ⟨hq,hm⟩:=hm
      refine c7 (e:=102) (k:=.i64) T 6 hS kr kr kr (by rfl) kr hH kr kr h113 kr kr hq.1 hq.2 ?_
      intro NI a h133 hS
      have Jf:=h133.here
      refine jr T 7 hS kr kr kr (by rfl) kr hH kr h133 Jf kr kr ?_
      intro v134 a hv hS
      subst hv
      refine only 8 kr (by rfl) (call hS kr kr hb67 kr (fun _ _=>rfl) (Gx _ _ (gi l_ d3) (gi l_ be)) ?_)
      intro v135 a p3 rH hE hp hS
      replace hO:=hO.m2 hE
      replace hD:=hD.ev hE rfl
      replace h113:=h113.m1 hE
      replace h114:=h114.m1 hE
      replace h130:=h130.m1 hE
      replace h133:=h133.m1 hE
      obtain ⟨tm,hr⟩:∃ r,gC (gi l_ d3) (gi l_ be)=r:=⟨_,rfl⟩
      replace hm:=hm tm hr
      rw [hr] at hp
      clear hr
      subst hp
      refine cW (bH.of hS (bks:=[]) kr hD) ?_
      intro hH
      refine tke T [9] [] hS hH #[true,true,true,true,true,true,true,true,true,true,false,false,false,false,false,false,false,false,false,false,false,false] 12 [56,57,60,61,58,59,62,63,64] [(65,B tm)] fun a hS=>?_
      refine iL (tc:=65) (b:=tm) (f:=fun c=>⟨[(1,Sl a2 l_ c2),(2,Sl a3 ac c3),(10,I d3),(11,I be),(12,I nO),(13,I jS),(68,B (c && (decide (jS≥0))))],[]⟩) T [10,11,12] [] [1,2,10,11,12,13,68] hS kr kr kr kr hH (listed':=#[true,true,true,true,true,true,true,true,true,true,true,true,true,false,false,false,false,false,false,false,false,false]) (fuel:=9) kr kr (by rfl) ?_
      intro a hS
      refine tke T [13] [] hS hH #[true,true,true,true,true,true,true,true,true,true,true,true,true,true,false,false,false,false,false,false,false,false] 8 [68] [(69,B (tm && (decide (jS≥0))))] fun a hS=>?_
      rcases bft (tm && (decide (jS≥0))) with hb | hb
      ·replace hS:=hS.lit (t:=69) kr hb
       replace hm:=hm.1 hb
       refine tke T [14,15,16] [] hS hH #[true,true,true,true,true,true,true,true,true,true,true,true,true,true,true,true,true,false,false,false,false,false] 5 [] [(72,B (decide (nO < 0)))] fun a hS=>?_
       refine iL (tc:=72) (b:=decide (nO < 0)) (f:=fun c=>⟨[(1,Sl a2 l_ c2),(2,Sl a3 ac c3),(10,I d3),(11,I be),(69,B true),(76,B (c || (decide (nO > jS))))],[]⟩) T [17,18,19,20] [] [1,2,10,11,69,76] hS kr kr kr kr hH (listed':=#[true,true,true,true,true,true,true,true,true,true,true,true,true,true,true,true,true,true,true,true,true,false]) (fuel:=1) kr kr (by rfl) ?_
       intro a hS
       refine tke T [21] [] hS hH (tts 22) 0 [69,76] [(77,B ((decide (nO < 0)) || (decide (nO > jS))))] fun a hS=>?_
       refine aS kr ?_
       replace hS:=hS.sle [] []
       exact ⟨Z,_,((decide (nO < 0)) || (decide (nO > jS))),hm,hS.sl _,hO,h113,h114⟩
      replace hS:=hS.lit (t:=69) kr hb
      replace hm:=hm.2 hb
      refine tke T [14,15,16,17,18,19,20,21] [] hS hH (tts 22) 0 [12,13,69] [(77,B false)] fun a hS=>?_
      refine aS kr ?_
      replace hS:=hS.sle [] []
      exact ⟨Z,_,false,hm,hS.sl _,hO,h113,h114⟩
     rintro a ul ⟨Z,Df,k4,hm,hS,hO,h124,h125⟩
     unfold VC61_J4 at hm
     refine aG hS (b:=k4) kr (fun hb=>?_) fun hb=>?_
     ·replace hm:=hm.1 hb
      refine rPe T hS [1,2,10,11,77] [(6,B false)] fun a hS=>?_
      refine aY ?_
      exact fin T hS hO (fun c=>c) rfl (r:=[.bool false]) kr (fun X' hM hC=>⟨false,hm,rfl⟩)
     replace hm:=hm.2 hb
     refine aH ?_
     refine region (ePe T hS [77] [(11,I (wR (be+1)))] fun a hS=>?_)
     exact ⟨wR (be+1),⟨Z,_,hm.1,hS.sl _,hO,h124,h125⟩,hm.2⟩
    replace hm:=hm.2 hb
    refine cb (by rfl) ?_
    exact ⟨Z,_,hm,hS.sl _,hO,h113,h114⟩
   rintro a DE ⟨Z,J5,hm,hS,hO,h108,h109⟩
   unfold VC61_J2 at hm
   refine region (ePe T hS [] [(10,I (wR (d3+1)))] fun a hS=>?_)
   exact ⟨wR (d3+1),⟨Z,_,hm.1,hS.sl _,hO,h108,h109⟩,hm.2⟩
  replace hm:=hm.2 hb
  refine cb (by rfl) ?_
  exact ⟨Z,_,hm,hS.sl _,hO⟩
 rintro a wo ⟨Z,t8,hm,hS,hO⟩
 unfold VC61_J1 at hm
 refine rPe T hS [] [(6,B true)] fun a hS=>?_
 refine aY ?_
 exact fin T hS hO (fun c=>c) rfl (r:=[.bool true]) kr (fun X' hM hC=>⟨true,hm,rfl⟩)
theorem C61 (AS:S36) (z8:S66) (Gx:S67) (v:∀ (o_:ae) (l_:List ab) (ac:List aa),VC61 o_ l_ ac (fun r=>r=ec o_ l_ ac)):S61:=by
 intro w X o_ l_ ac a1 c1 a2 c2 a3 c3   h1 h2 h3
 refine (W61 AS z8 Gx w X o_ l_ ac a1 c1 a2 c2 a3 c3   _ (v o_ l_ ac) h1 h2 h3).mono ?_
 rintro _ _ _ _ ⟨r,rfl,h⟩
 exact h
theorem W60 (AS:S36) (Gw:S68) (w0) (X0) (o_:ae) (l_:List ab) (order:List Int) (a1) (c1) (a2) (c2) (a3) (c3) (Q:(List aa) × Int->Prop) (hm:VC60 o_ l_ order Q) (h1:RS ay w0 X0 a1 o_.Rows c1) (h2:RS ao w0 X0 a2 l_ c2) (h3:RS tI w0 X0 a3 order c3) :
  Ret Tryz.prog 60 #[.agg #[.int .i64 o_.ar,.int .i64 o_.aw,.int .i64 o_.aC,.slice a1 o_.Rows.length c1],.slice a2 l_.length c2,.slice a3 order.length c3] aJ w0 X0 (fun w X' v=>∃ r,Q r/\∃ cn cm,v=.tuple #[.slice cn r.1.length cm,.int .i64 r.2]/\RS aq w X' cn r.1 cm):=by
 unfold VC60 at hm
 replace hm:=hm (h1.sm kr)
 replace hm:=hm (h2.sm kr)
 replace hm:=hm (h3.sm kr)
 refine enter Tryz.func60 rfl (vals:=[.agg #[.int .i64 o_.ar,.int .i64 o_.aw,.int .i64 o_.aC,.slice a1 o_.Rows.length c1],.slice a2 l_.length c2,.slice a3 order.length c3]) kr ?_
 intro Z a hS hO hM
 replace h1:=h1.m0 hM
 replace h2:=h2.m0 hM
 replace h3:=h3.m0 hM
 refine rM T hS ⟨[(1,Sl a2 l_ c2),(2,Sl a3 order c3),(3,Pt 4 0)],[(4,(48,(cO o_ a1 c1)))]⟩ fun Z a Pc Nq hS hE hr=>?_
 replace hO:=hO.m2 hE
 replace h1:=h1.m1 hE
 replace h2:=h2.m1 hE
 replace h3:=h3.m1 hE
 clear hE hr
 refine rPe T hS [] [(8,V (.slice none 0 0))] fun a hS=>?_
 refine bj ?_
 refine oPe T hS 5 [] [(15,V (.agg #[.int .i64 o_.ar,.int .i64 o_.aw,.int .i64 o_.aC,.slice a1 o_.Rows.length c1])),(16,Sl a2 l_ c2),(18,I o_.aC),(19,V (.slice none 0 0))] fun a hS=>?_
 refine op1 (call hS kr kr hb36 kr (fun _ _=>rfl) (AS _ _ o_ l_ o_.aC [] a1 c1 a2 c2 none 0 h1 h2 (RS.empty _ _ _)) ?_)
 intro v101 a eZ fa hE hp hS
 replace hO:=hO.m2 hE
 replace h1:=h1.m1 hE
 replace h2:=h2.m1 hE
 replace h3:=h3.m1 hE
 obtain ⟨ap,hr⟩:∃ r,bL o_ l_ o_.aC []=r:=⟨_,rfl⟩
 replace hm:=hm ap hr
 rw [hr] at hp
 clear hr
 subst hp
 refine ePe T hS [15,16,18,19,20] [(9,I ap.1),(11,I ap.2.2)] fun a hS=>?_
 refine bc ?_
 refine rPe T hS [] [(25,B (ap.2.2 != 0))] fun a hS=>?_
 refine aG hS (b:=(ap.2.2 != 0)) kr (fun hb=>?_) fun hb=>?_
 ·replace hm:=hm.1 hb
  refine rP T hS ⟨[(6,V (.slice none 0 0)),(7,I ap.2.2)],[]⟩ fun a hS=>?_
  refine aY ?_
  exact fin T hS hO (fun c=>c) rfl (r:=[.slice none 0 0,.int .i64 ap.2.2]) kr (fun X' hM hC=>⟨([],ap.2.2),hm,none,0,rfl,RS.empty _ _ _⟩)
 replace hm:=hm.2 hb
 refine aH ?_
 refine bT (fun a w=>∃ (Z:Nat->Nat) (X:Nat->Nat) (eY:List aa) (gA:Option Addr) (gy:Nat),VC60_J1 Q eY/\St Tryz.f60.ntmps ⟨[(8,Sl gA eY gy)],[]⟩ Z a w X/\Old w0 X0 w X/\OS aq 56 w X 1007 gA eY gy) ?_ ?_
 ·refine rPe T hS [11,25] [(12,I 0)] fun a hS=>?_
  refine aL ?_
  obtain ⟨I1,μ1,co,hm⟩:=hm
  refine cl (σ:=(List aa) × Int × Int) (fun s a w=>∃ Z X je i9,I1 s.1 s.2.1 s.2.2/\St Tryz.f60.ntmps ⟨[(1,Sl a2 l_ c2),(2,Sl a3 order c3),(3,Pt 4 0),(8,Sl je s.1 i9),(9,I s.2.1),(12,I s.2.2)],[(4,(48,(cO o_ a1 c1)))]⟩ Z a w X/\Old w0 X0 w X/\RS ao w X a2 l_ c2/\RS tI w X a3 order c3/\OS aq 56 w X 1007 je s.1 i9/\RS ay w X a1 o_.Rows c1) (fun s=>μ1 s.1 s.2.1 s.2.2) (⟨[],ap.1,0⟩) ?_ ?_
  ·exact ⟨Z,_,none,0,co,hS.sl _,hO,h2,h3,(OS.nil _ _ _ _ _),h1⟩
  rintro ⟨bd,c8,dC⟩ a HX ⟨Z,Ns,je,i9,hI,hS,hO,h111,h112,h116,h119⟩
  replace hm:=hm bd c8 dC hI
  clear hI co
  refine bc ?_
  refine rPe T hS [] [(30,B (decide (dC < (lN order))))] fun a hS=>?_
  refine aG hS (b:=decide (dC < (lN order))) kr (fun hb=>?_) fun hb=>?_
  ·replace hm:=hm.1 hb
   refine aH (bc ?_)
   refine aL ?_
   refine bj ?_
   refine oPe T hS 2 [30] [(33,Sl a3 order c3),(34,I dC)] fun a hS=>?_
   obtain ⟨hq,hm⟩:=hm
   refine op1 (index (e:=3) (k:=.i64) T hS kr kr kr kr h112 kr kr hq.1 hq.2 ?_)
   intro Kh a h121 hS
   refine op1 (dU T hS kr kr kr h121 rfl kr ?_)
   intro v122 a hv hS
   cases hv
   refine eM T hS ⟨[(1,Sl a2 l_ c2),(2,Sl a3 order c3),(3,Pt 4 0),(8,Sl je bd i9),(9,I c8),(12,I dC),(13,Pt 14 0)],[(4,(48,(cO o_ a1 c1))),(14,(56,[I (gi order dC),I 0]))]⟩ fun Z a A8 Dd hS hE hr=>?_
   replace hO:=hO.m2 hE
   replace h111:=h111.m1 hE
   replace h112:=h112.m1 hE
   replace h116:=h116.m2 hE
   replace h119:=h119.m1 hE
   clear hE hr
   refine bT (fun a w=>∃ (Z:Nat->Nat) (X:Nat->Nat) (l7:List aa) (ia:Int) (oz:Option Addr) (oo:Nat),VC60_J2 o_ l_ order Q I1 μ1 bd c8 dC l7 ia/\St Tryz.f60.ntmps ⟨[(1,Sl a2 l_ c2),(2,Sl a3 order c3),(3,Pt 4 0),(8,Sl oz l7 oo),(12,I dC),(13,Pt 14 0)],[(4,(48,(cO o_ a1 c1))),(14,(56,[I (gi order dC),I ia]))]⟩ Z a w X/\Old w0 X0 w X/\RS ao w X a2 l_ c2/\RS tI w X a3 order c3/\OS aq 56 w X 1007 oz l7 oo/\RS ay w X a1 o_.Rows c1) ?_ ?_
   ·refine bT (fun a w=>∃ (Z:Nat->Nat) (X:Nat->Nat) (i5:List aa) (lC:Bool) (ls:Option Addr) (li:Nat),VC60_J3 o_ l_ order Q I1 μ1 bd c8 dC i5 lC/\St Tryz.f60.ntmps ⟨[(1,Sl a2 l_ c2),(2,Sl a3 order c3),(3,Pt 4 0),(8,Sl ls i5 li),(9,I c8),(12,I dC),(13,Pt 14 0),(51,B lC)],[(4,(48,(cO o_ a1 c1))),(14,(56,[I (gi order dC),I 0]))]⟩ Z a w X/\Old w0 X0 w X/\RS ao w X a2 l_ c2/\RS tI w X a3 order c3/\OS aq 56 w X 1007 ls i5 li/\RS ay w X a1 o_.Rows c1) ?_ ?_
    ·refine region ?_
     refine oPe T hS 2 [] [(38,Sl a3 order c3),(39,I dC)] fun a hS=>?_
     obtain ⟨hq,hm⟩:=hm
     refine op1 (index (e:=3) (k:=.i64) T hS kr kr kr kr h112 kr kr hq.1 hq.2 ?_)
     intro RM a h169 hS
     refine op1 (dU T hS kr kr kr h169 rfl kr ?_)
     intro v170 a hv hS
     cases hv
     refine oPe T hS 2 [38,39,40,41] [(43,B (decide ((gi order dC)≥0)))] fun a hS=>?_
     rcases bft (decide ((gi order dC)≥0)) with hb | hb
     ·replace hS:=hS.lit (t:=43) kr hb
      replace hm:=hm.1 hb
      refine oPe T hS 2 [] [(44,Sl a3 order c3),(45,I dC)] fun a hS=>?_
      obtain ⟨hq,hm⟩:=hm
      refine op1 (index (e:=3) (k:=.i64) T hS kr kr kr kr h112 kr kr hq.1 hq.2 ?_)
      intro RJ a h172 hS
      refine op1 (dU T hS kr kr kr h172 rfl kr ?_)
      intro v173 a hv hS
      cases hv
      refine ePe T hS [43,44,45,46,47] [(51,B (decide ((gi order dC) < (lN l_))))] fun a hS=>?_
      exact ⟨Z,_,bd,decide ((gi order dC) < (lN l_)),je,i9,hm,hS.sl _,hO,h111,h112,h116,h119⟩
     replace hS:=hS.lit (t:=43) kr hb
     replace hm:=hm.2 hb
     refine ePe T hS [43] [(51,B false)] fun a hS=>?_
     exact ⟨Z,_,bd,false,je,i9,hm,hS.sl _,hO,h111,h112,h116,h119⟩
    rintro a F3 ⟨Z,Nu,i5,lC,ls,li,hm,hS,hO,h144,h145,h149,h151⟩
    unfold VC60_J3 at hm
    refine aG hS (b:=lC) kr (fun hb=>?_) fun hb=>?_
    ·replace hm:=hm.1 hb
     refine gI [4] mixed hS ?_
     intro DF EU hS hE hD hH
     replace hO:=hO.m2 hE
     replace h144:=h144.m1 hE
     replace h145:=h145.m1 hE
     replace h149:=h149.m2 hE
     replace h151:=h151.m1 hE
     refine tke T [0,1,2,3,4] [4] hS hH #[true,true,true,true,true,false,false,false,false,false,false,false,false,false,false,false,false] 12 [9] [(53,V (.agg #[.int .i64 o_.ar,.int .i64 o_.aw,.int .i64 o_.aC,.slice a1 o_.Rows.length c1])),(54,I c8),(55,Sl a2 l_ c2),(56,Sl a3 order c3),(57,I dC)] fun a hS=>?_
     obtain ⟨hq,hm⟩:=hm
     refine c7 (e:=3) (k:=.i64) T 5 hS kr kr kr (by rfl) kr hH kr kr h145 kr kr hq.1 hq.2 ?_
     intro RX a h155 hS
     have I9:=h155.here
     refine dV T 6 hS kr kr kr (by rfl) kr hH kr h155 I9 rfl kr ?_
     intro v156 a hv hS
     cases hv
     obtain ⟨hq,hm⟩:=hm
     refine c7 (e:=102) (k:=.i64) T 7 hS kr kr kr (by rfl) kr hH kr kr h144 kr kr hq.1 hq.2 ?_
     intro RV a h158 hS
     have I8:=h158.here
     refine dw (off:=1) (fsz:=1) (ft:=3) (TF:=tI) (y:=(gi l_ (gi order dC)).Kind) 8 T hS kr kr kr (by rfl) kr hH kr h158 kr kr kr (fun cs h=>kP h) ?_
     intro RT a h160 fP hS
     have FN:=I8
     rw [← fP] at FN
     clear fP
     refine dV T 9 hS kr kr kr (by rfl) kr hH kr h160 FN rfl kr ?_
     intro v161 a hv hS
     cases hv
     refine only 10 kr (by rfl) (call hS kr kr hb68 kr (fun _ _=>rfl) (Gw _ _ o_ c8 ((gi l_ (gi order dC)).Kind) a1 c1 h151) ?_)
     intro v162 a F7 De hE hp hS
     replace hO:=hO.m2 hE
     replace hD:=hD.ev hE rfl
     replace h144:=h144.m1 hE
     replace h145:=h145.m1 hE
     replace h149:=h149.m2 hE
     replace h151:=h151.m1 hE
     replace h155:=h155.m1 hE
     replace h158:=h158.m1 hE
     replace h160:=h160.m1 hE
     obtain ⟨kT,hr⟩:∃ r,b9 o_ c8 ((gi l_ (gi order dC)).Kind)=r:=⟨_,rfl⟩
     replace hm:=hm kT hr
     rw [hr] at hp
     clear hr
     subst hp
     replace hS:=hS.sle [] [(63,V (.tuple #[.int .i64 kT.1,.int .i64 kT.2.1,.bool kT.2.2]))]
     refine cW (bH.of hS (bks:=[4]) kr hD) ?_
     intro hH
     refine tke T [11,12,13,14,15] [4] hS hH #[true,true,true,true,true,true,true,true,true,true,true,true,true,true,true,true,false] 1 [53,54,55,56,57,58,59,60,61,62,63] [(65,I kT.2.1),(67,Pt 14 1)] fun a hS=>?_
     replace hS:=hS.sl ⟨[(1,Sl a2 l_ c2),(2,Sl a3 order c3),(3,Pt 4 0),(8,Sl ls i5 li),(12,I dC),(13,Pt 14 0),(65,I kT.2.1),(67,Pt 14 1)],[(4,(48,(cO o_ a1 c1))),(14,(56,[I (gi order dC),I 0]))]⟩
     refine only 16 kr (by rfl) (wz T hS kr kr (sy':=⟨[(1,Sl a2 l_ c2),(2,Sl a3 order c3),(3,Pt 4 0),(8,Sl ls i5 li),(12,I dC),(13,Pt 14 0),(65,I kT.2.1),(67,Pt 14 1)],[(14,(56,[I (gi order dC),I kT.2.1])),(4,(48,(cO o_ a1 c1))),(14,(56,[I (gi order dC),I 0]))]⟩) kr ?_)
     intro a H5 Hl hS hE
     replace hO:=hO.m2 hE
     replace hD:=hD.ev hE rfl
     replace h144:=h144.m1 hE
     replace h145:=h145.m1 hE
     replace h149:=h149.m2 hE
     replace h151:=h151.m1 hE
     replace h155:=h155.m1 hE
     replace h158:=h158.m1 hE
     replace h160:=h160.m1 hE
     replace hS:=hS.sl ⟨[(1,Sl a2 l_ c2),(2,Sl a3 order c3),(3,Pt 4 0),(8,Sl ls i5 li),(12,I dC),(13,Pt 14 0),(65,I kT.2.1),(67,Pt 14 1)],[(4,(48,(cO o_ a1 c1))),(14,(56,[I (gi order dC),I kT.2.1]))]⟩
     refine cW (bH.of hS (bks:=[4]) kr hD) ?_
     intro hH
     refine aS kr ?_
     replace hS:=hS.sle [65,67] []
     exact ⟨Z,_,i5,kT.2.1,ls,li,hm,hS.sl _,hO,h144,h145,h149,h151⟩
    replace hm:=hm.2 hb
    refine aH ?_
    exact ⟨Z,_,i5,0,ls,li,hm,hS.sl _,hO,h144,h145,h149,h151⟩
   rintro a HZ ⟨Z,ER,l7,ia,oz,oo,hm,hS,hO,h123,h124,h128,h129⟩
   unfold VC60_J2 at hm
   refine bj ?_
   refine oP T hS 2 ⟨[(1,Sl a2 l_ c2),(2,Sl a3 order c3),(3,Pt 4 0),(8,Sl oz l7 oo),(12,I dC),(68,Sl oz l7 oo),(69,V (.agg #[.int .i64 (gi order dC),.int .i64 ia]))],[(4,(48,(cO o_ a1 c1)))]⟩ fun a hS=>?_
   refine op1 (lit (E:=56) (col:=0) (T:=aq) (vals:=[.agg #[.int .i64 (gi order dC),.int .i64 ia]]) (ys:=[(⟨gi order dC,ia⟩:aa)]) T hS kr kr kr kr (by exact ⟨rfl,trivial⟩) rfl kr kr kr kr ?_)
   intro b131 a K2 J9 hE h134 hN hS
   clear hN
   replace hO:=hO.m2 hE
   replace h123:=h123.m1 hE
   replace h124:=h124.m1 hE
   replace h128:=h128.m2 hE
   replace h129:=h129.m1 hE
   replace h134:=h134.rs0
   obtain ⟨hq,hm⟩:=hm
   obtain ⟨news,hN⟩:=h134.src
   refine op1 (append (E:=56) (T:=aq) (col:=1007) (xs:=l7) T hS kr kr kr kr h128 hN kr kr kr kr hq ?_)
   intro v5 vR a Ba Hq hE h137 hS
   clear hq hN
   clear h128
   replace hO:=hO.m2 hE
   replace h123:=h123.m1 hE
   replace h124:=h124.m1 hE
   replace h129:=h129.m1 hE
   replace h134:=h134.m1 hE
   refine ePe T hS [69,70,71] [(8,Sl v5 (l7++[(⟨gi order dC,ia⟩:aa)]) vR)] fun a hS=>?_
   refine bj ?_
   refine oPe T hS 5 [] [(73,V (.agg #[.int .i64 o_.ar,.int .i64 o_.aw,.int .i64 o_.aC,.slice a1 o_.Rows.length c1])),(74,Sl a2 l_ c2),(76,I o_.aC),(77,Sl v5 (l7++[(⟨gi order dC,ia⟩:aa)]) vR)] fun a hS=>?_
   refine op1 (call hS kr kr hb36 kr (fun _ _=>rfl) (Ret.m8 (AS _ (eD 1007 _) o_ l_ o_.aC (l7++[(⟨gi order dC,ia⟩:aa)]) a1 c1 a2 c2 v5 vR (h129.m0 (M0.eD 1007)) (h123.m0 (M0.eD 1007)) h137.eD)) ?_)
   intro v140 a K1 J7 hE hp hS
   replace hO:=hO.m2 hE
   replace h123:=h123.m1 hE
   replace h124:=h124.m1 hE
   replace h129:=h129.m1 hE
   replace h137:=h137.m2 hE
   obtain ⟨_,hp⟩:=hp
   obtain ⟨mD,hr⟩:∃ r,bL o_ l_ o_.aC (l7++[(⟨gi order dC,ia⟩:aa)])=r:=⟨_,rfl⟩
   replace hm:=hm mD hr
   rw [hr] at hp
   clear hr
   subst hp
   refine ePe T hS [73,74,76,77,78] [(9,I mD.1),(11,I mD.2.2)] fun a hS=>?_
   refine rPe T hS [] [(83,B (mD.2.2 != 0))] fun a hS=>?_
   refine aG hS (b:=(mD.2.2 != 0)) kr (fun hb=>?_) fun hb=>?_
   ·replace hm:=hm.1 hb
    refine rP T hS ⟨[(6,V (.slice none 0 0)),(7,I mD.2.2)],[]⟩ fun a hS=>?_
    refine aY ?_
    exact fin T hS hO (fun c=>c) rfl (r:=[.slice none 0 0,.int .i64 mD.2.2]) kr (fun X' hM hC=>⟨([],mD.2.2),hm,none,0,rfl,RS.empty _ _ _⟩)
   replace hm:=hm.2 hb
   refine aH ?_
   refine region (ePe T hS [11,83] [(12,I (wR (dC+1)))] fun a hS=>?_)
   exact ⟨⟨l7++[(⟨gi order dC,ia⟩:aa)],mD.1,wR (dC+1)⟩,⟨Z,_,v5,vR,hm.1,hS.sl _,hO,h123,h124,h137,h129⟩,hm.2⟩
  replace hm:=hm.2 hb
  refine cb (by rfl) ?_
  exact ⟨Z,_,bd,je,i9,hm,hS.sl _,hO,h116⟩
 rintro a HW ⟨Z,Hi,eY,gA,gy,hm,hS,hO,h108⟩
 unfold VC60_J1 at hm
 refine rPe T hS [8] [(6,Sl gA eY gy),(7,I 0)] fun a hS=>?_
 refine aY ?_
 obtain ⟨xG,hE,hF⟩:=h108.freeze (by decide)
 replace hS:=hS.ev hE (cr kr)
 replace hO:=hO.m2 hE
 have h110:=hF; clear hE hF
 exact fin T hS hO (fun c=>c) rfl (r:=[.slice gA eY.length gy,.int .i64 0]) kr (fun X' hM hC=>⟨(eY,0),hm,gA,gy,rfl,h110.m0 hM⟩)
theorem C60 (AS:S36) (Gw:S68) (v:∀ (o_:ae) (l_:List ab) (order:List Int),xZ o_ l_ order->VC60 o_ l_ order (fun r=>r=df o_ l_ order)):S60:=by
 intro w X o_ l_ order a1 c1 a2 c2 a3 c3   hp h1 h2 h3
 refine (W60 AS Gw w X o_ l_ order a1 c1 a2 c2 a3 c3   _ (v o_ l_ order hp) h1 h2 h3).mono ?_
 rintro _ _ _ _ ⟨r,rfl,h⟩
 exact h
theorem W30 (LV:S39) (LI:S60) (LH:S61) (w0) (X0) (o_:ae) (l_:List ab) (a1) (c1) (a2) (c2) (Q:(List (List aa))->Prop) (hm:VC30 o_ l_ Q) (h1:RS ay w0 X0 a1 o_.Rows c1) (h2:RS ao w0 X0 a2 l_ c2) :
  Ret Tryz.prog 30 #[.agg #[.int .i64 o_.ar,.int .i64 o_.aw,.int .i64 o_.aC,.slice a1 o_.Rows.length c1],.slice a2 l_.length c2] aJ w0 X0 (fun w X' v=>∃ r,Q r/\∃ cn cm,v=.slice cn r.length cm/\RS (bP aq) w X' cn r cm):=by
 unfold VC30 at hm
 replace hm:=hm (h1.sm kr)
 replace hm:=hm (h2.sm kr)
 refine enter Tryz.func30 rfl (vals:=[.agg #[.int .i64 o_.ar,.int .i64 o_.aw,.int .i64 o_.aC,.slice a1 o_.Rows.length c1],.slice a2 l_.length c2]) kr ?_
 intro Z a hS hO hM
 replace h1:=h1.m0 hM
 replace h2:=h2.m0 hM
 refine rM T hS ⟨[(1,Sl a2 l_ c2),(2,Pt 3 0)],[(3,(48,(cO o_ a1 c1)))]⟩ fun Z a F4 J2 hS hE hr=>?_
 replace hO:=hO.m2 hE
 replace h1:=h1.m1 hE
 replace h2:=h2.m1 hE
 clear hE hr
 refine rPe T hS [] [(5,V (.slice none 0 0))] fun a hS=>?_
 refine bj ?_
 refine oPe T hS 2 [] [(11,I (lN l_))] fun a hS=>?_
 obtain ⟨hq,hm⟩:=hm
 refine op1 (call hS kr kr hb39 kr (fun _ _=>rfl) (LV _ _ (lN l_) hq) ?_)
 intro v101 a eZ fa hE hp hS
 replace hO:=hO.m2 hE
 replace h1:=h1.m1 hE
 replace h2:=h2.m1 hE
 obtain ⟨dK,dJ,hp,h107⟩:=hp
 obtain ⟨ap,hr⟩:∃ r,dj (lN l_)=r:=⟨_,rfl⟩
 replace hm:=hm ap hr
 rw [hr] at hp h107
 clear hr
 subst hp
 replace hm:=hm (h107.sm kr)
 refine ePe T hS [11,12] [(6,Sl dK ap dJ)] fun a hS=>?_
 refine bT (fun a w=>∃ (Z:Nat->Nat) (X:Nat->Nat) (di:List (List aa)) (ci:Option Addr) (ce:Nat),VC30_J1 Q di/\St Tryz.f30.ntmps ⟨[(5,Sl ci di ce)],[]⟩ Z a w X/\Old w0 X0 w X/\OS (bP aq) 26 w X 1005 ci di ce) ?_ ?_
 ·refine rPe T hS [] [(7,I 0)] fun a hS=>?_
  refine aL ?_
  obtain ⟨I1,μ1,co,hm⟩:=hm
  refine cl (σ:=(List (List aa)) × Int) (fun s a w=>∃ Z X dA dz,I1 s.1 s.2/\St Tryz.f30.ntmps ⟨[(1,Sl a2 l_ c2),(2,Pt 3 0),(5,Sl dA s.1 dz),(6,Sl dK ap dJ),(7,I s.2)],[(3,(48,(cO o_ a1 c1)))]⟩ Z a w X/\Old w0 X0 w X/\RS ao w X a2 l_ c2/\OS (bP aq) 26 w X 1005 dA s.1 dz/\RS (bP tI) w X dK ap dJ/\RS ay w X a1 o_.Rows c1) (fun s=>μ1 s.1 s.2) (⟨[],0⟩) ?_ ?_
  ·exact ⟨Z,_,none,0,co,hS.sl _,hO,h2,(OS.nil _ _ _ _ _),h107,h1⟩
  rintro ⟨be,dB⟩ a KZ ⟨Z,Nw,dA,dz,hI,hS,hO,h114,h118,h119,h121⟩
  replace hm:=hm be dB hI
  clear hI co
  refine bc ?_
  refine rPe T hS [] [(16,B (decide (dB < (lN ap))))] fun a hS=>?_
  refine aG hS (b:=decide (dB < (lN ap))) kr (fun hb=>?_) fun hb=>?_
  ·replace hm:=hm.1 hb
   refine aH ?_
   refine bT (fun a w=>∃ (Z:Nat->Nat) (X:Nat->Nat) (fx:List (List aa)) (gZ:Option Addr) (gY:Nat),VC30_J2 I1 μ1 be dB fx/\St Tryz.f30.ntmps ⟨[(1,Sl a2 l_ c2),(2,Pt 3 0),(5,Sl gZ fx gY),(6,Sl dK ap dJ),(7,I dB)],[(3,(48,(cO o_ a1 c1)))]⟩ Z a w X/\Old w0 X0 w X/\RS ao w X a2 l_ c2/\OS (bP aq) 26 w X 1005 gZ fx gY/\RS (bP tI) w X dK ap dJ/\RS ay w X a1 o_.Rows c1) ?_ ?_
   ·refine aL ?_
    refine dv [3] mixed hS ?_
    intro F9 AI hS hE hD hH
    replace hO:=hO.m2 hE
    replace h114:=h114.m1 hE
    replace h118:=h118.m2 hE
    replace h119:=h119.m1 hE
    replace h121:=h121.m1 hE
    refine tke T [0,1,2,3] [3] hS hH #[true,true,true,true,false,false,false,false,false,false,false,false] 8 [] [(20,V (.agg #[.int .i64 o_.ar,.int .i64 o_.aw,.int .i64 o_.aC,.slice a1 o_.Rows.length c1])),(21,Sl a2 l_ c2),(22,Sl dK ap dJ),(23,I dB)] fun a hS=>?_
    obtain ⟨hq,hm⟩:=hm
    refine c7 (e:=43) (k:=.i64) T 4 hS kr kr kr (by rfl) kr hH kr kr h119 kr kr hq.1 hq.2 ?_
    intro Hw a h132 hS
    have qT:=h132.here
    refine dV T 5 hS kr kr kr (by rfl) kr hH kr h132 qT rfl kr ?_
    intro v133 a hv hS
    obtain ⟨rd,rb,hv,h136⟩:=hv
    cases hv
    replace hm:=hm (h136.sm kr)
    obtain ⟨hq,hm⟩:=hm
    refine only 6 kr (by rfl) (call hS kr kr hb60 kr (fun _ _=>rfl) (LI _ _ o_ l_ (gi ap dB) a1 c1 a2 c2 rd rb hq h121 h114 h136) ?_)
    intro v137 a A9 Df hE hp hS
    replace hO:=hO.m2 hE
    replace hD:=hD.ev hE rfl
    replace h114:=h114.m1 hE
    replace h118:=h118.m2 hE
    replace h119:=h119.m1 hE
    replace h121:=h121.m1 hE
    replace h132:=h132.m1 hE
    replace h136:=h136.m1 hE
    obtain ⟨t7,tX,hp,h143⟩:=hp
    obtain ⟨io,hr⟩:∃ r,df o_ l_ (gi ap dB)=r:=⟨_,rfl⟩
    replace hm:=hm io hr
    rw [hr] at hp h143
    clear hr
    subst hp
    replace hm:=hm (h143.sm kr)
    replace hS:=hS.sle [] [(26,V (.tuple #[.slice t7 io.1.length tX,.int .i64 io.2]))]
    refine cW (bH.of hS (bks:=[3]) kr hD) ?_
    intro hH
    refine tke T [7,8,9,10,11] [3] hS hH (tts 12) 0 [20,21,22,23,24,25,26] [(8,Sl t7 io.1 tX),(9,I io.2)] fun a hS=>?_
    refine aS kr ?_
    replace hS:=hS.sle [] []
    refine bT (fun a w=>∃ (Z:Nat->Nat) (X:Nat->Nat) (lD:List (List aa)) (fQ:Bool) (nB:Option Addr) (nv:Nat),VC30_J3 I1 μ1 be dB io lD fQ/\St Tryz.f30.ntmps ⟨[(1,Sl a2 l_ c2),(2,Pt 3 0),(5,Sl nB lD nv),(6,Sl dK ap dJ),(7,I dB),(8,Sl t7 io.1 tX),(36,B fQ)],[(3,(48,(cO o_ a1 c1)))]⟩ Z a w X/\Old w0 X0 w X/\RS ao w X a2 l_ c2/\OS (bP aq) 26 w X 1005 nB lD nv/\RS (bP tI) w X dK ap dJ/\RS aq w X t7 io.1 tX/\RS ay w X a1 o_.Rows c1) ?_ ?_
    ·refine region ?_
     refine oPe T hS 3 [9] [(31,B (io.2 == 0))] fun a hS=>?_
     rcases bft (io.2 == 0) with hb | hb
     ·replace hS:=hS.lit (t:=31) kr hb
      replace hm:=hm.1 hb
      refine oPe T hS 3 [] [(32,V (.agg #[.int .i64 o_.ar,.int .i64 o_.aw,.int .i64 o_.aC,.slice a1 o_.Rows.length c1])),(33,Sl a2 l_ c2),(34,Sl t7 io.1 tX)] fun a hS=>?_
      refine op1 (call hS kr kr hb61 kr (fun _ _=>rfl) (LH _ _ o_ l_ io.1 a1 c1 a2 c2 t7 tX h121 h114 h143) ?_)
      intro v162 a F7 De hE hp hS
      replace hO:=hO.m2 hE
      replace h114:=h114.m1 hE
      replace h118:=h118.m2 hE
      replace h119:=h119.m1 hE
      replace h121:=h121.m1 hE
      replace h143:=h143.m1 hE
      obtain ⟨kT,hr⟩:∃ r,ec o_ l_ io.1=r:=⟨_,rfl⟩
      replace hm:=hm kT hr
      rw [hr] at hp
      clear hr
      subst hp
      refine ePe T hS [31,32,33,34,35] [(36,B kT)] fun a hS=>?_
      exact ⟨Z,_,be,kT,dA,dz,hm,hS.sl _,hO,h114,h118,h119,h143,h121⟩
     replace hS:=hS.lit (t:=31) kr hb
     replace hm:=hm.2 hb
     refine ePe T hS [31] [(36,B false)] fun a hS=>?_
     exact ⟨Z,_,be,false,dA,dz,hm,hS.sl _,hO,h114,h118,h119,h143,h121⟩
    rintro a F5 ⟨Z,Hm,lD,fQ,nB,nv,hm,hS,hO,h144,h148,h149,h150,h152⟩
    unfold VC30_J3 at hm
    refine aG hS (b:=fQ) kr (fun hb=>?_) fun hb=>?_
    ·replace hm:=hm.1 hb
     refine region ?_
     refine oPe T hS 2 [8,36] [(37,Sl nB lD nv),(38,Sl t7 io.1 tX)] fun a hS=>?_
     refine op1 (lit (E:=26) (col:=0) (T:=(bP aq)) (vals:=[.slice t7 io.1.length tX]) (ys:=[io.1]) T hS kr kr kr kr (by exact ⟨⟨t7,tX,rfl,h150⟩,trivial⟩) rfl kr kr kr kr ?_)
     intro b153 a rr t9 hE h156 hN hS
     clear hN
     replace hO:=hO.m2 hE
     replace h144:=h144.m1 hE
     replace h148:=h148.m2 hE
     replace h149:=h149.m1 hE
     replace h150:=h150.m1 hE
     replace h152:=h152.m1 hE
     replace h156:=h156.rs0
     obtain ⟨hq,hm⟩:=hm
     obtain ⟨news,hN⟩:=h156.src
     refine op1 (append (E:=26) (T:=(bP aq)) (col:=1005) (xs:=lD) T hS kr kr kr kr h148 hN kr kr kr kr hq ?_)
     intro t0 tV a sR t8 hE h159 hS
     clear hq hN
     clear h148
     replace hO:=hO.m2 hE
     replace h144:=h144.m1 hE
     replace h149:=h149.m1 hE
     replace h150:=h150.m1 hE
     replace h152:=h152.m1 hE
     replace h156:=h156.m1 hE
     refine ePe T hS [38,39,40] [(5,Sl t0 (lD++[io.1]) tV)] fun a hS=>?_
     exact ⟨Z,_,lD++[io.1],t0,tV,hm,hS.sl _,hO,h144,h159,h149,h152⟩
    replace hm:=hm.2 hb
    refine aH ?_
    exact ⟨Z,_,lD,nB,nv,hm,hS.sl _,hO,h144,h148,h149,h152⟩
   rintro a H4 ⟨Z,Nx,fx,gZ,gY,hm,hS,hO,h122,h126,h127,h128⟩
   unfold VC30_J2 at hm
   refine region (ePe T hS [] [(7,I (wR (dB+1)))] fun a hS=>?_)
   exact ⟨⟨fx,wR (dB+1)⟩,⟨Z,_,gZ,gY,hm.1,hS.sl _,hO,h122,h126,h127,h128⟩,hm.2⟩
  replace hm:=hm.2 hb
  refine cb (by rfl) ?_
  exact ⟨Z,_,be,dA,dz,hm,hS.sl _,hO,h118⟩
 rintro a H0 ⟨Z,Hj,di,ci,ce,hm,hS,hO,h111⟩
 unfold VC30_J1 at hm
 refine rPe T hS [5] [(4,Sl ci di ce)] fun a hS=>?_
 refine aY ?_
 obtain ⟨rJ,hE,hF⟩:=h111.freeze (by decide)
 replace hS:=hS.ev hE (cr kr)
 replace hO:=hO.m2 hE
 have h113:=hF; clear hE hF
 exact fin T hS hO (fun c=>c) rfl (r:=[.slice ci di.length ce]) kr (fun X' hM hC=>⟨di,hm,ci,ce,rfl,h113.m0 hM⟩)
theorem C30 (LV:S39) (LI:S60) (LH:S61) (v:∀ (o_:ae) (l_:List ab),yn o_ l_->VC30 o_ l_ (fun r=>r=eV o_ l_)):S30:=by
 intro w X o_ l_ a1 c1 a2 c2   hp h1 h2
 refine (W30 LV LI LH w X o_ l_ a1 c1 a2 c2   _ (v o_ l_ hp) h1 h2).mono ?_
 rintro _ _ _ _ ⟨r,rfl,h⟩
 exact h
theorem W29 (xj:S28) (w0) (X0) (objects:List ae) (l_:List az) (k_:Int) (a1) (c1) (a2) (c2) (Q:(List au) × Bool->Prop) (hm:VC29 objects l_ k_ Q) (h1:RS aA w0 X0 a1 objects c1) (h2:RS br w0 X0 a2 l_ c2) :
  Ret Tryz.prog 29 #[.slice a1 objects.length c1,.slice a2 l_.length c2,.int .i64 k_] aJ w0 X0 (fun w X' v=>∃ r,Q r/\∃ cn cm,v=.tuple #[.slice cn r.1.length cm,.bool r.2]/\RS aM w X' cn r.1 cm):=by
 unfold VC29 at hm
 replace hm:=hm (h1.sm kr)
 replace hm:=hm (h2.sm kr)
 refine enter Tryz.func29 rfl (vals:=[.slice a1 objects.length c1,.slice a2 l_.length c2,.int .i64 k_]) kr ?_
 intro Z a hS hO hM
 replace h1:=h1.m0 hM
 replace h2:=h2.m0 hM
 refine rPe T hS [] [] fun a hS=>?_
 refine bj ?_
 refine oPe T hS 2 [] [(13,Sl a1 objects c1),(14,Sl a2 l_ c2)] fun a hS=>?_
 obtain ⟨hq,hm⟩:=hm
 refine op1 (call hS kr kr hb28 kr (fun _ _=>rfl) (xj _ _ objects l_ a1 c1 a2 c2 hq h1 h2) ?_)
 intro v101 a eZ fa hE hp hS
 replace hO:=hO.m2 hE
 replace h1:=h1.m1 hE
 replace h2:=h2.m1 hE
 obtain ⟨ap,hr⟩:∃ r,cc objects l_=r:=⟨_,rfl⟩
 replace hm:=hm ap hr
 rw [hr] at hp
 clear hr
 subst hp
 refine ePe T hS [13,14,15] [(9,I ap.2)] fun a hS=>?_
 refine bc ?_
 refine rPe T hS [0,9] [(29,B (((ap.2 != 0) || (decide (k_ < 0))) || (decide (k_≥(lN objects)))))] (sp:=[20,24]) fun a hS=>?_
 refine aG hS (b:=(((ap.2 != 0) || (decide (k_ < 0))) || (decide (k_≥(lN objects))))) kr (fun hb=>?_) fun hb=>?_
 ·replace hm:=hm.1 hb
  refine rPe T hS [1,2,29] [(6,V (.slice none 0 0)),(7,B false)] fun a hS=>?_
  refine aY ?_
  exact fin T hS hO (fun c=>c) rfl (r:=[.slice none 0 0,.bool false]) kr (fun X' hM hC=>⟨([],false),hm,none,0,rfl,RS.empty _ _ _⟩)
 replace hm:=hm.2 hb
 refine aH ?_
 refine rPe T hS [29] [(10,V (.slice none 0 0))] fun a hS=>?_
 refine bT (fun a w=>∃ (Z:Nat->Nat) (X:Nat->Nat) (eY:List au) (gA:Option Addr) (gy:Nat),VC29_J1 Q eY/\St Tryz.f29.ntmps ⟨[(10,Sl gA eY gy)],[]⟩ Z a w X/\Old w0 X0 w X/\OS aM 61 w X 1007 gA eY gy) ?_ ?_
 ·refine rPe T hS [] [(11,I 0)] fun a hS=>?_
  refine aL ?_
  obtain ⟨I1,μ1,co,hm⟩:=hm
  refine cl (σ:=(List au) × Int) (fun s a w=>∃ Z X hG g9,I1 s.1 s.2/\St Tryz.f29.ntmps ⟨[(1,Sl a2 l_ c2),(2,I k_),(10,Sl hG s.1 g9),(11,I s.2)],[]⟩ Z a w X/\Old w0 X0 w X/\RS br w X a2 l_ c2/\OS aM 61 w X 1007 hG s.1 g9) (fun s=>μ1 s.1 s.2) (⟨[],0⟩) ?_ ?_
  ·exact ⟨Z,_,none,0,co,hS.sl _,hO,h2,(OS.nil _ _ _ _ _)⟩
  rintro ⟨cv,aU⟩ a zm ⟨Z,rk,hG,g9,hI,hS,hO,h111,h115⟩
  replace hm:=hm cv aU hI
  clear hI co
  refine bc ?_
  refine rPe T hS [] [(33,B (decide (aU < (lN l_))))] fun a hS=>?_
  refine aG hS (b:=decide (aU < (lN l_))) kr (fun hb=>?_) fun hb=>?_
  ·replace hm:=hm.1 hb
   refine aH ?_
   refine bT (fun a w=>∃ (Z:Nat->Nat) (X:Nat->Nat) (dC:List au) (lT:Option Addr) (lS:Nat),VC29_J2 I1 μ1 cv aU dC/\St Tryz.f29.ntmps ⟨[(1,Sl a2 l_ c2),(2,I k_),(10,Sl lT dC lS),(11,I aU)],[]⟩ Z a w X/\Old w0 X0 w X/\RS br w X a2 l_ c2/\OS aM 61 w X 1007 lT dC lS) ?_ ?_
   ·refine aL ?_
    refine bj ?_
    refine oPe T hS 2 [33] [(36,Sl a2 l_ c2),(37,I aU)] fun a hS=>?_
    obtain ⟨hq,hm⟩:=hm
    refine op1 (index (e:=77) (k:=.i64) T hS kr kr kr kr h111 kr kr hq.1 hq.2 ?_)
    intro AP a h123 hS
    refine op1 (e9 (off:=0) (fsz:=1) (ft:=3) (TF:=tI) (y:=(gi l_ aU).ax) T hS kr kr kr h123 kr kr kr (fun cs h=>kp h) ?_)
    intro EY a h125 hS
    refine op1 (dU T hS kr kr kr h125 rfl kr ?_)
    intro v126 a hv hS
    cases hv
    refine ePe T hS [36,37,38,39,40] [(42,B (((gi l_ aU).ax) == k_))] fun a hS=>?_
    refine aG hS (b:=(((gi l_ aU).ax) == k_)) kr (fun hb=>?_) fun hb=>?_
    ·replace hm:=hm.1 hb
     refine region ?_
     refine oPe T hS 3 [42] [(43,Sl hG cv g9),(44,Sl a2 l_ c2),(45,I aU)] fun a hS=>?_
     obtain ⟨hq,hm⟩:=hm
     refine op1 (index (e:=77) (k:=.i64) T hS kr kr kr kr h111 kr kr hq.1 hq.2 ?_)
     intro Kg a h128 hS
     refine op1 (e9 (off:=1) (fsz:=3) (ft:=61) (TF:=aM) (y:=(gi l_ aU).aI) T hS kr kr kr h128 kr kr kr (fun cs h=>iH h) ?_)
     intro Hx a h130 hS
     refine op1 (eC T hS kr kr kr h130 kr kr ?_)
     intro v131 a hv hS
     subst hv
     refine op1 (lit (E:=61) (col:=0) (T:=aM) (vals:=[.agg #[.int .i64 (((gi l_ aU).aI).bh),.int .i64 (((gi l_ aU).aI).aj),.int .i64 (((gi l_ aU).aI).N)]]) (ys:=[(gi l_ aU).aI]) T hS kr kr kr kr (by exact ⟨rfl,trivial⟩) rfl kr kr kr kr ?_)
     intro b132 a um xE hE h135 hN hS
     clear hN
     replace hO:=hO.m2 hE
     replace h111:=h111.m1 hE
     replace h115:=h115.m2 hE
     replace h128:=h128.m1 hE
     replace h130:=h130.m1 hE
     replace h135:=h135.rs0
     obtain ⟨hq,hm⟩:=hm
     obtain ⟨news,hN⟩:=h135.src
     refine op1 (append (E:=61) (T:=aM) (col:=1007) (xs:=cv) T hS kr kr kr kr h115 hN kr kr kr kr hq ?_)
     intro v4 vQ a p3 rH hE h138 hS
     clear hq hN
     clear h115
     replace hO:=hO.m2 hE
     replace h111:=h111.m1 hE
     replace h128:=h128.m1 hE
     replace h130:=h130.m1 hE
     replace h135:=h135.m1 hE
     refine ePe T hS [44,45,46,47,48,49,50] [(10,Sl v4 (cv++[(gi l_ aU).aI]) vQ)] fun a hS=>?_
     exact ⟨Z,_,cv++[(gi l_ aU).aI],v4,vQ,hm,hS.sl _,hO,h111,h138⟩
    replace hm:=hm.2 hb
    refine aH ?_
    exact ⟨Z,_,cv,hG,g9,hm,hS.sl _,hO,h111,h115⟩
   rintro a pm ⟨Z,ub,dC,lT,lS,hm,hS,hO,h117,h121⟩
   unfold VC29_J2 at hm
   refine region (ePe T hS [] [(11,I (wR (aU+1)))] fun a hS=>?_)
   exact ⟨⟨dC,wR (aU+1)⟩,⟨Z,_,lT,lS,hm.1,hS.sl _,hO,h117,h121⟩,hm.2⟩
  replace hm:=hm.2 hb
  refine cb (by rfl) ?_
  exact ⟨Z,_,cv,hG,g9,hm,hS.sl _,hO,h115⟩
 rintro a zl ⟨Z,ua,eY,gA,gy,hm,hS,hO,h108⟩
 unfold VC29_J1 at hm
 refine rPe T hS [10] [(6,Sl gA eY gy),(7,B true)] fun a hS=>?_
 refine aY ?_
 obtain ⟨xG,hE,hF⟩:=h108.freeze (by decide)
 replace hS:=hS.ev hE (cr kr)
 replace hO:=hO.m2 hE
 have h110:=hF; clear hE hF
 exact fin T hS hO (fun c=>c) rfl (r:=[.slice gA eY.length gy,.bool true]) kr (fun X' hM hC=>⟨(eY,true),hm,gA,gy,rfl,h110.m0 hM⟩)
theorem C29 (xj:S28) (v:∀ (objects:List ae) (l_:List az) (k_:Int),pL objects l_ k_->VC29 objects l_ k_ (fun r=>r=de objects l_ k_)):S29:=by
 intro w X objects l_ k_ a1 c1 a2 c2   hp h1 h2
 refine (W29 xj w X objects l_ k_ a1 c1 a2 c2   _ (v objects l_ k_ hp) h1 h2).mono ?_
 rintro _ _ _ _ ⟨r,rfl,h⟩
 exact h
theorem W10 (GG:S16) (GF:S18) (xj:S28) (L0:S29) (LZ:S30) (w0) (X0) (objects:List ae) (l_:List az) (a1) (c1) (a2) (c2) (Q:Bool × Int->Prop) (hm:VC10 objects l_ Q) (h1:RS aA w0 X0 a1 objects c1) (h2:RS br w0 X0 a2 l_ c2) :
  Ret Tryz.prog 10 #[.slice a1 objects.length c1,.slice a2 l_.length c2] aJ w0 X0 (fun w X' v=>∃ r,Q r/\v=.tuple #[.bool r.1,.int .i64 r.2]):=by
 unfold VC10 at hm
 replace hm:=hm (h1.sm kr)
 replace hm:=hm (h2.sm kr)
 refine enter Tryz.func10 rfl (vals:=[.slice a1 objects.length c1,.slice a2 l_.length c2]) kr ?_
 intro Z a hS hO hM
 replace h1:=h1.m0 hM
 replace h2:=h2.m0 hM
 refine rPe T hS [] [] fun a hS=>?_
 refine bj ?_
 refine oPe T hS 2 [] [(16,Sl a1 objects c1),(17,Sl a2 l_ c2)] fun a hS=>?_
 obtain ⟨hq,hm⟩:=hm
 refine op1 (call hS kr kr hb28 kr (fun _ _=>rfl) (xj _ _ objects l_ a1 c1 a2 c2 hq h1 h2) ?_)
 intro v101 a eZ fa hE hp hS
 replace hO:=hO.m2 hE
 replace h1:=h1.m1 hE
 replace h2:=h2.m1 hE
 obtain ⟨ap,hr⟩:∃ r,cc objects l_=r:=⟨_,rfl⟩
 replace hm:=hm ap hr
 rw [hr] at hp
 clear hr
 subst hp
 refine ePe T hS [16,17,18] [(7,I ap.2)] fun a hS=>?_
 refine bc ?_
 refine rPe T hS [] [(22,B (ap.2 != 0))] fun a hS=>?_
 refine aG hS (b:=(ap.2 != 0)) kr (fun hb=>?_) fun hb=>?_
 ·replace hm:=hm.1 hb
  refine rPe T hS [0,1,7,22] [(4,B false),(5,I ap.2)] fun a hS=>?_
  refine aY ?_
  exact fin T hS hO (fun c=>c) rfl (r:=[.bool false,.int .i64 ap.2]) kr (fun X' hM hC=>⟨(false,ap.2),hm,rfl⟩)
 replace hm:=hm.2 hb
 refine aH ?_
 refine bj ?_
 refine oPe T hS 2 [7,22] [(25,Sl a1 objects c1),(26,Sl a2 l_ c2)] fun a hS=>?_
 obtain ⟨hq,hm⟩:=hm
 refine op1 (call hS kr kr hb16 kr (fun _ _=>rfl) (GG _ _ objects l_ a1 c1 a2 c2 hq h1 h2) ?_)
 intro v105 a mg mc hE hp hS
 replace hO:=hO.m2 hE
 replace h1:=h1.m1 hE
 replace h2:=h2.m1 hE
 obtain ⟨ci,ce,gz,gx,hp,h111,h114⟩:=hp
 obtain ⟨aV,hr⟩:∃ r,cU objects l_=r:=⟨_,rfl⟩
 replace hm:=hm aV hr
 rw [hr] at hp h111 h114
 clear hr
 subst hp
 replace hm:=hm (h111.sm kr)
 replace hm:=hm (h114.sm kr)
 refine ePe T hS [25,26,27] [(8,Sl ci aV.1 ce)] fun a hS=>?_
 refine bc ?_
 refine rPe T hS [8] [(32,B (decide ((lN aV.1) > 20)))] fun a hS=>?_
 refine aG hS (b:=decide ((lN aV.1) > 20)) kr (fun hb=>?_) fun hb=>?_
 ·replace hm:=hm.1 hb
  refine rPe T hS [0,1,32] [(4,B false),(5,I 3)] fun a hS=>?_
  refine aY ?_
  exact fin T hS hO (fun c=>c) rfl (r:=[.bool false,.int .i64 3]) kr (fun X' hM hC=>⟨(false,3),hm,rfl⟩)
 replace hm:=hm.2 hb
 refine aH ?_
 refine bT (fun a w=>∃ Z X,VC10_J1 Q/\St Tryz.f10.ntmps ⟨[],[]⟩ Z a w X/\Old w0 X0 w X) ?_ ?_
 ·refine rPe T hS [32] [(10,I 0)] fun a hS=>?_
  refine aL ?_
  obtain ⟨I1,μ1,co,hm⟩:=hm
  refine cl (σ:=Int) (fun s a w=>∃ Z X,I1 s/\St Tryz.f10.ntmps ⟨[(0,Sl a1 objects c1),(1,Sl a2 l_ c2),(10,I s)],[]⟩ Z a w X/\Old w0 X0 w X/\RS aA w X a1 objects c1/\RS br w X a2 l_ c2) (fun s=>μ1 s) (0) ?_ ?_
  ·exact ⟨Z,_,co,hS.sl _,hO,h1,h2⟩
  rintro c8 a zl ⟨Z,ua,hI,hS,hO,h115,h116⟩
  replace hm:=hm c8 hI
  clear hI co
  refine bc ?_
  refine rPe T hS [] [(36,B (decide (c8 < (lN objects))))] fun a hS=>?_
  refine aG hS (b:=decide (c8 < (lN objects))) kr (fun hb=>?_) fun hb=>?_
  ·replace hm:=hm.1 hb
   refine aH (bc ?_)
   refine aL ?_
   refine bj ?_
   refine oPe T hS 3 [36] [(40,Sl a1 objects c1),(41,Sl a2 l_ c2),(42,I c8)] fun a hS=>?_
   obtain ⟨hq,hm⟩:=hm
   refine op1 (call hS kr kr hb29 kr (fun _ _=>rfl) (L0 _ _ objects l_ c8 a1 c1 a2 c2 hq h115 h116) ?_)
   intro v118 a uq AL hE hp hS
   replace hO:=hO.m2 hE
   replace h115:=h115.m1 hE
   replace h116:=h116.m1 hE
   obtain ⟨jJ,jG,hp,h124⟩:=hp
   obtain ⟨d8,hr⟩:∃ r,de objects l_ c8=r:=⟨_,rfl⟩
   replace hm:=hm d8 hr
   rw [hr] at hp h124
   clear hr
   subst hp
   replace hm:=hm (h124.sm kr)
   refine ePe T hS [40,41,42,43] [(11,Sl jJ d8.1 jG)] fun a hS=>?_
   refine bj ?_
   refine oPe T hS 1 [11] [(47,Sl jJ d8.1 jG)] fun a hS=>?_
   refine op1 (call hS kr kr hb18 kr (fun _ _=>rfl) (GF _ _ d8.1 jJ jG h124) ?_)
   intro v125 a rx oZ hE hp hS
   replace hO:=hO.m2 hE
   replace h115:=h115.m1 hE
   replace h116:=h116.m1 hE
   replace h124:=h124.m1 hE
   obtain ⟨ko,kg,hp,h131⟩:=hp
   obtain ⟨bI,hr⟩:∃ r,eu d8.1=r:=⟨_,rfl⟩
   replace hm:=hm bI hr
   rw [hr] at hp h131
   clear hr
   subst hp
   replace hm:=hm (h131.sm kr)
   refine ePe T hS [47,48] [(13,Sl ko bI.1 kg)] fun a hS=>?_
   refine bj ?_
   refine oPe T hS 2 [] [(51,Sl a1 objects c1),(52,I c8)] fun a hS=>?_
   obtain ⟨hq,hm⟩:=hm
   refine op1 (index (e:=48) (k:=.i64) T hS kr kr kr kr h115 kr kr hq.1 hq.2 ?_)
   intro NI a h133 hS
   refine op1 (eC T hS kr kr kr h133 kr kr ?_)
   intro v134 a hv hS
   obtain ⟨Dc,CU,hv,h137⟩:=hv
   subst hv
   replace hm:=hm (h137.sm kr)
   refine oPe T hS 1 [13,51,52,53] [(55,Sl ko bI.1 kg)] fun a hS=>?_
   obtain ⟨hq,hm⟩:=hm
   refine op1 (call hS kr kr hb30 kr (fun _ _=>rfl) (LZ _ _ (gi objects c8) bI.1 Dc CU ko kg hq h137 h131) ?_)
   intro v138 a rt uc hE hp hS
   replace hO:=hO.m2 hE
   replace h115:=h115.m1 hE
   replace h116:=h116.m1 hE
   replace h131:=h131.m1 hE
   replace h137:=h137.m1 hE
   obtain ⟨jI,jF,hp,h144⟩:=hp
   obtain ⟨mE,hr⟩:∃ r,eV (gi objects c8) bI.1=r:=⟨_,rfl⟩
   replace hm:=hm mE hr
   rw [hr] at hp h144
   clear hr
   subst hp
   replace hm:=hm (h144.sm kr)
   refine ePe T hS [54,55,56] [(58,B ((lN mE) == 0))] fun a hS=>?_
   refine aG hS (b:=((lN mE) == 0)) kr (fun hb=>?_) fun hb=>?_
   ·replace hm:=hm.1 hb
    refine rPe T hS [0,1,10,58] [(4,B false),(5,I 0)] fun a hS=>?_
    refine aY ?_
    exact fin T hS hO (fun c=>c) rfl (r:=[.bool false,.int .i64 0]) kr (fun X' hM hC=>⟨(false,0),hm,rfl⟩)
   replace hm:=hm.2 hb
   refine aH ?_
   refine region (ePe T hS [58] [(10,I (wR (c8+1)))] fun a hS=>?_)
   exact ⟨wR (c8+1),⟨Z,_,hm.1,hS.sl _,hO,h115,h116⟩,hm.2⟩
  replace hm:=hm.2 hb
  refine cb (by rfl) ?_
  exact ⟨Z,_,hm,hS.sl _,hO⟩
 rintro a zk ⟨Z,Hp,hm,hS,hO⟩
 unfold VC10_J1 at hm
 refine rPe T hS [] [(4,B true),(5,I 0)] fun a hS=>?_
 refine aY ?_
 exact fin T hS hO (fun c=>c) rfl (r:=[.bool true,.int .i64 0]) kr (fun X' hM hC=>⟨(true,0),hm,rfl⟩)
theorem C10 (GG:S16) (GF:S18) (xj:S28) (L0:S29) (LZ:S30) (v:∀ (objects:List ae) (l_:List az),qm objects l_->VC10 objects l_ (fun r=>r=gO objects l_)):S10:=by
 intro w X objects l_ a1 c1 a2 c2   hp h1 h2
 refine (W10 GG GF xj L0 LZ w X objects l_ a1 c1 a2 c2   _ (v objects l_ hp) h1 h2).mono ?_
 rintro _ _ _ _ ⟨r,rfl,h⟩
 exact h
theorem W3 (Pk:S10) (NW:S11) (HF:S12) (Pj:S13) (k6:S6) (k7:S7) (k8:S8) (k9:S9) (w0) (X0) (h_:ak) (ac:List aa) (a1) (c1) (a2) (c2) (a3) (c3) (Q:Bool->Prop) (hm:VC3 h_ ac Q) (h1:RS aA w0 X0 a1 h_.ah c1) (h2:RS aP w0 X0 a2 h_.al c2) (h3:RS aq w0 X0 a3 ac c3) :
  Ret Tryz.prog 3 #[.agg #[.slice a1 h_.ah.length c1,.slice a2 h_.al.length c2],.slice a3 ac.length c3] aJ w0 X0 (fun w X' v=>∃ r,Q r/\v=.bool r):=by
 unfold VC3 at hm
 replace hm:=hm (h1.sm kr)
 replace hm:=hm (h2.sm kr)
 replace hm:=hm (h3.sm kr)
 refine enter Tryz.func3 rfl (vals:=[.agg #[.slice a1 h_.ah.length c1,.slice a2 h_.al.length c2],.slice a3 ac.length c3]) kr ?_
 intro Z a hS hO hM
 replace h1:=h1.m0 hM
 replace h2:=h2.m0 hM
 replace h3:=h3.m0 hM
 refine rM T hS ⟨[(1,Sl a3 ac c3),(2,Pt 3 0)],[(3,(25,[Sl a1 h_.ah c1,Sl a2 h_.al c2]))]⟩ fun Z a sR t8 hS hE hr=>?_
 replace hO:=hO.m2 hE
 replace h1:=h1.m1 hE
 replace h2:=h2.m1 hE
 replace h3:=h3.m1 hE
 clear hE hr
 refine bc ?_
 refine bT (fun a w=>∃ (Z:Nat->Nat) (X:Nat->Nat) (bu:Bool),VC3_J1 h_ ac Q bu/\St Tryz.f3.ntmps ⟨[(1,Sl a3 ac c3),(2,Pt 3 0),(21,B bu)],[(3,(25,[Sl a1 h_.ah c1,Sl a2 h_.al c2]))]⟩ Z a w X/\Old w0 X0 w X/\RS aq w X a3 ac c3/\RS aA w X a1 h_.ah c1/\RS aP w X a2 h_.al c2) ?_ ?_
 ·refine region ?_
  refine oPe T hS 1 [] [(9,V (.agg #[.slice a1 h_.ah.length c1,.slice a2 h_.al.length c2]))] fun a hS=>?_
  refine op1 (call hS kr kr hb6 kr (fun _ _=>rfl) (k6 _ _ h_ a1 c1 a2 c2 h1 h2) ?_)
  intro v147 a zk xC hE hp hS
  replace hO:=hO.m2 hE
  replace h1:=h1.m1 hE
  replace h2:=h2.m1 hE
  replace h3:=h3.m1 hE
  obtain ⟨nN,hr⟩:∃ r,gQ h_=r:=⟨_,rfl⟩
  replace hm:=hm nN hr
  rw [hr] at hp
  clear hr
  subst hp
  refine oPe T hS 2 [9,10] [(12,B (!nN))] fun a hS=>?_
  rcases bft (!nN) with hb | hb
  ·replace hS:=hS.lit (t:=12) kr hb
   replace hm:=hm.1 hb
   refine ePe T hS [12] [(21,B true)] fun a hS=>?_
   exact ⟨Z,_,true,hm,hS.sl _,hO,h3,h1,h2⟩
  replace hS:=hS.lit (t:=12) kr hb
  replace hm:=hm.2 hb
  refine oPe T hS 1 [] [(13,V (.agg #[.slice a1 h_.ah.length c1,.slice a2 h_.al.length c2]))] fun a hS=>?_
  refine op1 (call hS kr kr hb7 kr (fun _ _=>rfl) (k7 _ _ h_ a1 c1 a2 c2 h1 h2) ?_)
  intro v151 a DF EU hE hp hS
  replace hO:=hO.m2 hE
  replace h1:=h1.m1 hE
  replace h2:=h2.m1 hE
  replace h3:=h3.m1 hE
  obtain ⟨zJ,hr⟩:∃ r,ff h_=r:=⟨_,rfl⟩
  replace hm:=hm zJ hr
  rw [hr] at hp
  clear hr
  subst hp
  refine ePe T hS [12,13,14] [(21,B ((decide (zJ > 5)) || (decide ((lN ac) > 20))))] (sp:=[17]) fun a hS=>?_
  exact ⟨Z,_,((decide (zJ > 5)) || (decide ((lN ac) > 20))),hm,hS.sl _,hO,h3,h1,h2⟩
 rintro a H7 ⟨Z,t9,bu,hm,hS,hO,h101,h103,h104⟩
 unfold VC3_J1 at hm
 refine aG hS (b:=bu) kr (fun hb=>?_) fun hb=>?_
 ·replace hm:=hm.1 hb
  refine bj ?_
  refine op1 (call hS kr kr hb8 kr (fun _ _=>rfl) (k8 _ _) ?_)
  intro v105 a mg mc hE hp hS
  replace hO:=hO.m2 hE
  replace h101:=h101.m1 hE
  replace h103:=h103.m1 hE
  replace h104:=h104.m1 hE
  obtain ⟨aV,hr⟩:∃ r,gE=r:=⟨_,rfl⟩
  replace hm:=hm aV hr
  rw [hr] at hp
  clear hr
  subst hp
  refine eP T hS ⟨[(4,B aV)],[]⟩ fun a hS=>?_
  refine aY ?_
  exact fin T hS hO (fun c=>c) rfl (r:=[.bool aV]) kr (fun X' hM hC=>⟨aV,hm,rfl⟩)
 replace hm:=hm.2 hb
 refine aH ?_
 refine bj ?_
 refine oPe T hS 1 [21] [(24,V (.agg #[.slice a1 h_.ah.length c1,.slice a2 h_.al.length c2]))] fun a hS=>?_
 obtain ⟨hq,hm⟩:=hm
 refine op1 (call hS kr kr hb9 kr (fun _ _=>rfl) (k9 _ _ (⟨h_.ah,h_.al⟩:ak) a1 c1 a2 c2 hq h103 h104) ?_)
 intro v109 a DL EX hE hp hS
 replace hO:=hO.m2 hE
 replace h101:=h101.m1 hE
 replace h103:=h103.m1 hE
 replace h104:=h104.m1 hE
 obtain ⟨bv,hr⟩:∃ r,dx (⟨h_.ah,h_.al⟩:ak)=r:=⟨_,rfl⟩
 replace hm:=hm bv hr
 rw [hr] at hp
 clear hr
 subst hp
 refine ePe T hS [24,25] [(5,B bv.1),(6,I bv.2)] fun a hS=>?_
 refine dv [3] mixed hS ?_
 intro ur wc hS hE hD hH
 replace hO:=hO.m2 hE
 replace h101:=h101.m1 hE
 replace h103:=h103.m1 hE
 replace h104:=h104.m1 hE
 refine tke T [0,2,1] [3] hS hH #[true,true,true,false,false,false,false,false,false,false] 7 [] [(30,Sl a1 h_.ah c1),(31,V (.agg #[.slice a1 h_.ah.length c1,.slice a2 h_.al.length c2]))] fun a hS=>?_
 obtain ⟨hq,hm⟩:=hm
 refine only 3 kr (by rfl) (call hS kr kr hb11 kr (fun _ _=>rfl) (NW _ _ (⟨h_.ah,h_.al⟩:ak) a1 c1 a2 c2 hq h103 h104) ?_)
 intro v115 a wt AM hE hp hS
 replace hO:=hO.m2 hE
 replace hD:=hD.ev hE rfl
 replace h101:=h101.m1 hE
 replace h103:=h103.m1 hE
 replace h104:=h104.m1 hE
 obtain ⟨lT,lS,hp,h121⟩:=hp
 obtain ⟨ip,hr⟩:∃ r,dg (⟨h_.ah,h_.al⟩:ak)=r:=⟨_,rfl⟩
 replace hm:=hm ip hr
 rw [hr] at hp h121
 clear hr
 subst hp
 replace hm:=hm (h121.sm kr)
 replace hS:=hS.sle [] [(32,Sl lT ip lS)]
 refine cW (bH.of hS (bks:=[3]) kr hD) ?_
 intro hH
 obtain ⟨hq,hm⟩:=hm
 refine only 4 kr (by rfl) (call hS kr kr hb10 kr (fun _ _=>rfl) (Pk _ _ h_.ah ip a1 c1 lT lS hq h103 h121) ?_)
 intro v122 a DJ wb hE hp hS
 replace hO:=hO.m2 hE
 replace hD:=hD.ev hE rfl
 replace h101:=h101.m1 hE
 replace h103:=h103.m1 hE
 replace h104:=h104.m1 hE
 replace h121:=h121.m1 hE
 obtain ⟨jk,hr⟩:∃ r,gO h_.ah ip=r:=⟨_,rfl⟩
 replace hm:=hm jk hr
 rw [hr] at hp
 clear hr
 subst hp
 replace hS:=hS.sle [] [(33,V (.tuple #[.bool jk.1,.int .i64 jk.2]))]
 refine cW (bH.of hS (bks:=[3]) kr hD) ?_
 intro hH
 refine tke T [5,6,7,8,9] [3] hS hH (tts 10) 0 [30,31,32,33] [(7,B jk.1),(8,I jk.2)] fun a hS=>?_
 refine aS kr ?_
 replace hS:=hS.sle [] []
 refine dv [3] mixed hS ?_
 intro rx oZ hS hE hD hH
 replace hO:=hO.m2 hE
 replace h101:=h101.m1 hE
 replace h103:=h103.m1 hE
 replace h104:=h104.m1 hE
 refine tke T [0,1,2,3] [3] hS hH #[true,true,true,true,false,false,false,false,false,false,false,false,false,false,false,false,false,false,false,false,false,false,false,false] 20 [5,7] [(39,B (bv.1 == jk.1))] fun a hS=>?_
 refine iL (tc:=39) (b:=(bv.1 == jk.1)) (f:=fun c=>⟨[(1,Sl a3 ac c3),(2,Pt 3 0),(43,B (c && (bv.2 == jk.2)))],[(3,(25,[Sl a1 h_.ah c1,Sl a2 h_.al c2]))]⟩) T [4,5,6,7] [3] [1,2,43] hS kr kr kr kr hH (listed':=#[true,true,true,true,true,true,true,true,false,false,false,false,false,false,false,false,false,false,false,false,false,false,false,false]) (fuel:=16) kr kr (by rfl) ?_
 intro a hS
 refine tke T [8] [3] hS hH #[true,true,true,true,true,true,true,true,true,false,false,false,false,false,false,false,false,false,false,false,false,false,false,false] 15 [43] [(44,B ((bv.1 == jk.1) && (bv.2 == jk.2)))] fun a hS=>?_
 rcases bft ((bv.1 == jk.1) && (bv.2 == jk.2)) with hb | hb
 ·replace hS:=hS.lit (t:=44) kr hb
  replace hm:=hm.1 hb
  refine tke T [9,10,12,14,16,13] [3] hS hH #[true,true,true,true,true,true,true,true,true,true,true,false,true,true,true,false,true,false,false,false,false,false,false,false] 9 [1,2] [(45,V (.agg #[.slice a1 h_.ah.length c1,.slice a2 h_.al.length c2])),(46,Sl a3 ac c3),(49,Sl a1 h_.ah c1),(50,V (.agg #[.slice a1 h_.ah.length c1,.slice a2 h_.al.length c2])),(52,Sl a3 ac c3)] fun a hS=>?_
  obtain ⟨hq,hm⟩:=hm
  refine only 11 kr (by rfl) (call hS kr kr hb12 kr (fun _ _=>rfl) (HF _ _ (⟨h_.ah,h_.al⟩:ak) ac a1 c1 a2 c2 a3 c3 hq h103 h104 h101) ?_)
  intro v128 a F9 AI hE hp hS
  replace hO:=hO.m2 hE
  replace hD:=hD.ev hE rfl
  replace h101:=h101.m1 hE
  replace h103:=h103.m1 hE
  replace h104:=h104.m1 hE
  obtain ⟨fb,hr⟩:∃ r,dT (⟨h_.ah,h_.al⟩:ak) ac=r:=⟨_,rfl⟩
  replace hm:=hm fb hr
  rw [hr] at hp
  clear hr
  subst hp
  replace hS:=hS.sle [] [(47,B fb)]
  refine cW (bH.of hS (bks:=[3]) kr hD) ?_
  intro hH
  obtain ⟨hq,hm⟩:=hm
  refine only 15 kr (by rfl) (call hS kr kr hb11 kr (fun _ _=>rfl) (NW _ _ (⟨h_.ah,h_.al⟩:ak) a1 c1 a2 c2 hq h103 h104) ?_)
  intro v132 a um xE hE hp hS
  replace hO:=hO.m2 hE
  replace hD:=hD.ev hE rfl
  replace h101:=h101.m1 hE
  replace h103:=h103.m1 hE
  replace h104:=h104.m1 hE
  obtain ⟨mb,ma,hp,h138⟩:=hp
  obtain ⟨tn,hr⟩:∃ r,dg (⟨h_.ah,h_.al⟩:ak)=r:=⟨_,rfl⟩
  replace hm:=hm tn hr
  rw [hr] at hp h138
  clear hr
  subst hp
  replace hm:=hm (h138.sm kr)
  replace hS:=hS.sle [] [(51,Sl mb tn ma)]
  refine cW (bH.of hS (bks:=[3]) kr hD) ?_
  intro hH
  obtain ⟨hq,hm⟩:=hm
  refine only 17 kr (by rfl) (call hS kr kr hb13 kr (fun _ _=>rfl) (Pj _ _ h_.ah tn ac a1 c1 mb ma a3 c3 hq h103 h138 h101) ?_)
  intro v139 a ul ub hE hp hS
  replace hO:=hO.m2 hE
  replace hD:=hD.ev hE rfl
  replace h101:=h101.m1 hE
  replace h103:=h103.m1 hE
  replace h104:=h104.m1 hE
  replace h138:=h138.m1 hE
  obtain ⟨bV,hr⟩:∃ r,fc h_.ah tn ac=r:=⟨_,rfl⟩
  replace hm:=hm bV hr
  rw [hr] at hp
  clear hr
  subst hp
  replace hS:=hS.sle [] [(53,B bV)]
  refine cW (bH.of hS (bks:=[3]) kr hD) ?_
  intro hH
  refine tke T [18,19,20] [3] hS hH #[true,true,true,true,true,true,true,true,true,true,true,true,true,true,true,true,true,true,true,true,true,false,false,false] 3 [44,45,46,49,50,52,47,51,53] [(56,B (fb == bV))] fun a hS=>?_
  rcases bft (fb == bV) with hb | hb
  ·replace hS:=hS.lit (t:=56) kr hb
   replace hm:=hm.1 hb
   refine only 21 kr (by rfl) (call hS kr kr hb8 kr (fun _ _=>rfl) (k8 _ _) ?_)
   intro v143 a zm ua hE hp hS
   replace hO:=hO.m2 hE
   replace hD:=hD.ev hE rfl
   replace h101:=h101.m1 hE
   replace h103:=h103.m1 hE
   replace h104:=h104.m1 hE
   replace h138:=h138.m1 hE
   obtain ⟨tl,hr⟩:∃ r,gE=r:=⟨_,rfl⟩
   replace hm:=hm tl hr
   rw [hr] at hp
   clear hr
   subst hp
   replace hS:=hS.sle [] [(57,B tl)]
   refine cW (bH.of hS (bks:=[3]) kr hD) ?_
   intro hH
   refine tke T [22,23] [3] hS hH (tts 24) 0 [56,57] [(4,B tl)] fun a hS=>?_
   refine aS kr ?_
   replace hS:=hS.sl ⟨[(4,B tl)],[]⟩
   refine aY ?_
   exact fin T hS hO (fun c=>c) rfl (r:=[.bool tl]) kr (fun X' hM hC=>⟨tl,hm,rfl⟩)
  replace hS:=hS.lit (t:=56) kr hb
  replace hm:=hm.2 hb
  refine tke T [21,22,23] [3] hS hH (tts 24) 0 [56] [(4,B false)] fun a hS=>?_
  refine aS kr ?_
  replace hS:=hS.sl ⟨[(4,B false)],[]⟩
  refine aY ?_
  exact fin T hS hO (fun c=>c) rfl (r:=[.bool false]) kr (fun X' hM hC=>⟨false,hm,rfl⟩)
 replace hS:=hS.lit (t:=44) kr hb
 replace hm:=hm.2 hb
 refine tke T [9,10,12,14,16,11,13,15,17,18,19,20,21,22,23] [3] hS hH (tts 24) 0 [1,2,44] [(4,B false)] fun a hS=>?_
 refine aS kr ?_
 replace hS:=hS.sl ⟨[(4,B false)],[]⟩
 refine aY ?_
 exact fin T hS hO (fun c=>c) rfl (r:=[.bool false]) kr (fun X' hM hC=>⟨false,hm,rfl⟩)
end Go.Proofs.YteahldlmkheleaaGreat
