/- Walks. -/
import Derived.Test.YteahldlmkheleaaGreatLWalksS
set_option linter.all false
namespace Go.Proofs.YteahldlmkheleaaGreat
open Go Go.Sv
abbrev zAe0 (i1 i2 i3:Nat):List (Nat × Nat):=[(i1,901),(i2,902),(i3,903)]
set_option maxHeartbeats 1000000
theorem W18 (GA:S50) (w0) (X0) (l_:List au) (a1) (c1) (Q:(List ab) × Int->Prop) (hm:VC18 l_ Q) (h1:RS aM w0 X0 a1 l_ c1) :
  Ret Tryz.prog 18 #[.slice a1 l_.length c1] aJ w0 X0 (fun w X' v=>∃ r,Q r/\∃ cn cm,v=.tuple #[.slice cn r.1.length cm,.int .i64 r.2]/\RS ao w X' cn r.1 cm):=by
 unfold VC18 at hm
 replace hm:=hm (h1.sm kr)
 refine enter Tryz.func18 rfl (vals:=[.slice a1 l_.length c1]) kr ?_
 intro Z a hS hO hM
 replace h1:=h1.m0 hM
 refine rPe T hS [] [] fun a hS=>?_
 refine bj ?_
 refine oPe T hS 1 [] [(11,Sl a1 l_ c1)] fun a hS=>?_
 refine op1 (call hS kr kr hb50 kr (fun _ _=>rfl) (GA _ _ l_ a1 c1 h1) ?_)
 intro v101 a eZ fa hE hp hS
 replace hO:=hO.m2 hE
 replace h1:=h1.m1 hE
 obtain ⟨ap,hr⟩:∃ r,eR l_=r:=⟨_,rfl⟩
 replace hm:=hm ap hr
 rw [hr] at hp
 clear hr
 subst hp
 refine ePe T hS [11,12] [(5,I ap.2)] fun a hS=>?_
 refine bc ?_
 refine rPe T hS [] [(16,B (ap.2 != 0))] fun a hS=>?_
 refine aG hS (b:=(ap.2 != 0)) kr (fun hb=>?_) fun hb=>?_
 ·replace hm:=hm.1 hb
  refine rPe T hS [0,5,16] [(2,V (.slice none 0 0)),(3,I ap.2)] fun a hS=>?_
  refine aY ?_
  exact fin T hS hO (fun c=>c) rfl (r:=[.slice none 0 0,.int .i64 ap.2]) kr (fun X' hM hC=>⟨([],ap.2),hm,none,0,rfl,RS.empty _ _ _⟩)
 replace hm:=hm.2 hb
 refine aH ?_
 refine rPe T hS [5,16] [(6,V (.slice none 0 0))] fun a hS=>?_
 refine bT (fun a w=>∃ (Z:Nat->Nat) (X:Nat->Nat) (eY:List ab) (gA:Option Addr) (gy:Nat),VC18_J1 Q eY/\St Tryz.f18.ntmps ⟨[(6,Sl gA eY gy)],[]⟩ Z a w X/\Old w0 X0 w X/\OS ao 102 w X 1003 gA eY gy) ?_ ?_
 ·refine rPe T hS [] [(7,I 0)] fun a hS=>?_
  refine aL ?_
  obtain ⟨I1,μ1,co,hm⟩:=hm
  refine cl (σ:=(List ab) × Int) (fun s a w=>∃ Z X hG g9,I1 s.1 s.2/\St Tryz.f18.ntmps ⟨[(0,Sl a1 l_ c1),(6,Sl hG s.1 g9),(7,I s.2)],[]⟩ Z a w X/\Old w0 X0 w X/\RS aM w X a1 l_ c1/\OS ao 102 w X 1003 hG s.1 g9) (fun s=>μ1 s.1 s.2) (⟨[],0⟩) ?_ ?_
  ·exact ⟨Z,_,none,0,co,hS.sl _,hO,h1,(OS.nil _ _ _ _ _)⟩
  rintro ⟨cv,aU⟩ a O6 ⟨Z,Ng,hG,g9,hI,hS,hO,h111,h115⟩
  replace hm:=hm cv aU hI
  clear hI co
  refine bc ?_
  refine rPe T hS [] [(21,B (decide (aU < (lN l_))))] fun a hS=>?_
  refine aG hS (b:=decide (aU < (lN l_))) kr (fun hb=>?_) fun hb=>?_
  ·replace hm:=hm.1 hb
   refine aH ?_
   refine bT (fun a w=>∃ (Z:Nat->Nat) (X:Nat->Nat) (dC:List ab) (lT:Option Addr) (lS:Nat),VC18_J2 I1 μ1 cv aU dC/\St Tryz.f18.ntmps ⟨[(0,Sl a1 l_ c1),(6,Sl lT dC lS),(7,I aU)],[]⟩ Z a w X/\Old w0 X0 w X/\RS aM w X a1 l_ c1/\OS ao 102 w X 1003 lT dC lS) ?_ ?_
   ·refine aL ?_
    refine bc ?_
    refine bj ?_
    refine oPe T hS 2 [21] [(24,Sl a1 l_ c1),(25,I aU)] fun a hS=>?_
    obtain ⟨hq,hm⟩:=hm
    refine op1 (index (e:=61) (k:=.i64) T hS kr kr kr kr h111 kr kr hq.1 hq.2 ?_)
    intro AP a h123 hS
    refine op1 (e9 (off:=0) (fsz:=1) (ft:=3) (TF:=tI) (y:=(gi l_ aU).bh) T hS kr kr kr h123 kr kr kr (fun cs h=>lU h) ?_)
    intro EY a h125 hS
    refine op1 (dU T hS kr kr kr h125 rfl kr ?_)
    intro v126 a hv hS
    cases hv
    refine ePe T hS [24,25,26,27,28] [(29,B (((gi l_ aU).bh) != 1))] fun a hS=>?_
    refine aG hS (b:=(((gi l_ aU).bh) != 1)) kr (fun hb=>?_) fun hb=>?_
    ·replace hm:=hm.1 hb
     refine cb (by rfl) ?_
     exact ⟨Z,_,cv,hG,g9,hm,hS.sl _,hO,h111,h115⟩
    replace hm:=hm.2 hb
    refine aH ?_
    refine dv [] mixed hS ?_
    intro sS AJ hS hE hD hH
    replace hO:=hO.m2 hE
    replace h111:=h111.m1 hE
    replace h115:=h115.m2 hE
    refine tke T [0,1,5,6,10] [] hS hH #[true,true,false,false,false,true,true,false,false,false,true,false,false,false] 9 [] [(30,Sl a1 l_ c1),(31,I aU),(35,Sl a1 l_ c1),(36,I aU),(40,I aU)] fun a hS=>?_
    obtain ⟨hq,hm⟩:=hm
    refine c7 (e:=61) (k:=.i64) T 2 hS kr kr kr (by rfl) kr hH kr kr h111 kr kr hq.1 hq.2 ?_
    intro Hx a h130 hS
    have vl:=h130.here
    refine dw (off:=1) (fsz:=1) (ft:=3) (TF:=tI) (y:=(gi l_ aU).aj) 3 T hS kr kr kr (by rfl) kr hH kr h130 kr kr kr (fun cs h=>gV h) ?_
    intro Hw a h132 fP hS
    have qT:=vl
    rw [← fP] at qT
    clear fP
    refine dV T 4 hS kr kr kr (by rfl) kr hH kr h132 qT rfl kr ?_
    intro v133 a hv hS
    cases hv
    obtain ⟨hq,hm⟩:=hm
    refine c7 (e:=61) (k:=.i64) T 7 hS kr kr kr (by rfl) kr hH kr kr h111 kr kr hq.1 hq.2 ?_
    intro R4 a h135 hS
    have Je:=h135.here
    refine dw (off:=2) (fsz:=1) (ft:=3) (TF:=tI) (y:=(gi l_ aU).N) 8 T hS kr kr kr (by rfl) kr hH kr h135 kr kr kr (fun cs h=>oC h) ?_
    intro Hv a h137 fP hS
    have yP:=Je
    rw [← fP] at yP
    clear fP
    refine dV T 9 hS kr kr kr (by rfl) kr hH kr h137 yP rfl kr ?_
    intro v138 a hv hS
    cases hv
    refine tke T [11] [] hS hH #[true,true,true,true,true,true,true,true,true,true,true,true,false,false] 2 [30,31,35,36,40,32,33,34,37,38,39] [(41,V (.agg #[.int .i64 ((gi l_ aU).aj),.int .i64 ((gi l_ aU).N),.int .i64 aU,.int .i64 (-1),.int .i64 (-1)]))] fun a hS=>?_
    replace hS:=hS.sl ⟨[(0,Sl a1 l_ c1),(6,Sl hG cv g9),(7,I aU),(41,V (.agg #[.int .i64 ((gi l_ aU).aj),.int .i64 ((gi l_ aU).N),.int .i64 aU,.int .i64 (-1),.int .i64 (-1)]))],[]⟩
    refine only 12 kr (by rfl) (MX T hS kr kr kr (sy':=⟨[(8,Pt 9 0),(0,Sl a1 l_ c1),(6,Sl hG cv g9),(7,I aU),(41,V (.agg #[.int .i64 ((gi l_ aU).aj),.int .i64 ((gi l_ aU).N),.int .i64 aU,.int .i64 (-1),.int .i64 (-1)]))],[(9,(102,[I 0,I 0,I 0,I 0,I 0]))]⟩) kr ?_)
    intro Z a rt uc hS hE Fg
    replace hO:=hO.m2 hE
    replace hD:=hD.ev hE rfl
    replace h111:=h111.m1 hE
    replace h115:=h115.m2 hE
    replace h130:=h130.m1 hE
    replace h132:=h132.m1 hE
    replace h135:=h135.m1 hE
    replace h137:=h137.m1 hE
    replace hS:=hS.sl ⟨[(0,Sl a1 l_ c1),(6,Sl hG cv g9),(7,I aU),(41,V (.agg #[.int .i64 ((gi l_ aU).aj),.int .i64 ((gi l_ aU).N),.int .i64 aU,.int .i64 (-1),.int .i64 (-1)])),(8,Pt 9 0)],[(9,(102,[I 0,I 0,I 0,I 0,I 0]))]⟩
    refine cW ((bH.of hS (bks:=[]) kr hD).rho Fg kr) ?_
    intro hH
    replace hS:=hS.sl ⟨[(0,Sl a1 l_ c1),(6,Sl hG cv g9),(7,I aU),(41,V (.agg #[.int .i64 ((gi l_ aU).aj),.int .i64 ((gi l_ aU).N),.int .i64 aU,.int .i64 (-1),.int .i64 (-1)])),(8,Pt 9 0)],[(9,(102,[I 0,I 0,I 0,I 0,I 0]))]⟩
    refine only 13 kr (by rfl) (wz T hS kr kr (sy':=⟨[(0,Sl a1 l_ c1),(6,Sl hG cv g9),(7,I aU),(41,V (.agg #[.int .i64 ((gi l_ aU).aj),.int .i64 ((gi l_ aU).N),.int .i64 aU,.int .i64 (-1),.int .i64 (-1)])),(8,Pt 9 0)],[(9,(102,[I ((gi l_ aU).aj),I ((gi l_ aU).N),I aU,I (-1),I (-1)])),(9,(102,[I 0,I 0,I 0,I 0,I 0]))]⟩) kr ?_)
    intro a pm rk hS hE
    replace hO:=hO.m2 hE
    replace hD:=hD.ev hE rfl
    replace h111:=h111.m1 hE
    replace h115:=h115.m2 hE
    replace h130:=h130.m1 hE
    replace h132:=h132.m1 hE
    replace h135:=h135.m1 hE
    replace h137:=h137.m1 hE
    replace hS:=hS.sl ⟨[(0,Sl a1 l_ c1),(6,Sl hG cv g9),(7,I aU),(41,V (.agg #[.int .i64 ((gi l_ aU).aj),.int .i64 ((gi l_ aU).N),.int .i64 aU,.int .i64 (-1),.int .i64 (-1)])),(8,Pt 9 0)],[(9,(102,[I ((gi l_ aU).aj),I ((gi l_ aU).N),I aU,I (-1),I (-1)]))]⟩
    refine cW ((bH.of hS (bks:=[]) kr hD).rho Fg kr) ?_
    intro hH
    refine aS kr ?_
    replace hS:=hS.sle [41] []
    refine bT (fun a w=>∃ (Z:Nat->Nat) (X:Nat->Nat) (lD:List ab) (l6:Int) (lC:Int) (fQ:Int) (jh:Int) (nF:Int) (nB:Option Addr) (nv:Nat),VC18_J3 I1 μ1 cv aU lD l6 lC fQ jh nF/\St Tryz.f18.ntmps ⟨[(0,Sl a1 l_ c1),(6,Sl nB lD nv),(7,I aU),(8,Pt 9 0)],[(9,(102,[I l6,I lC,I fQ,I jh,I nF]))]⟩ Z a w X/\Old w0 X0 w X/\RS aM w X a1 l_ c1/\OS ao 102 w X 1003 nB lD nv) ?_ ?_
    ·refine rPe T hS [] [(9,I (wR (aU+1)))] fun a hS=>?_
     refine aL ?_
     obtain ⟨I2,μ2,co,hm⟩:=hm
     refine cl (σ:=(List ab) × Int × Int × Int × Int × Int × Int) (fun s a w=>∃ Z X rc ra,I2 s.1 s.2.1 s.2.2.1 s.2.2.2.1 s.2.2.2.2.1 s.2.2.2.2.2.1 s.2.2.2.2.2.2/\St Tryz.f18.ntmps ⟨[(0,Sl a1 l_ c1),(6,Sl rc s.1 ra),(7,I aU),(8,Pt 9 0),(9,I s.2.1)],[(9,(102,[I s.2.2.1,I s.2.2.2.1,I s.2.2.2.2.1,I s.2.2.2.2.2.1,I s.2.2.2.2.2.2]))]⟩ Z a w X/\Old w0 X0 w X/\RS aM w X a1 l_ c1/\OS ao 102 w X 1003 rc s.1 ra) (fun s=>μ2 s.1 s.2.1 s.2.2.1 s.2.2.2.1 s.2.2.2.2.1 s.2.2.2.2.2.1 s.2.2.2.2.2.2) (⟨cv,wR (aU+1),(gi l_ aU).aj,(gi l_ aU).N,aU,(-1),(-1)⟩) ?_ ?_
     ·exact ⟨Z,_,hG,g9,co,hS.sl _,hO,h111,h115⟩
     rintro ⟨wn,kZ,mA,jg,wm,pl,A4⟩ a KQ ⟨Z,Nk,rc,ra,hI,hS,hO,h163,h167⟩
     replace hm:=hm wn kZ mA jg wm pl A4 hI
     clear hI co
     refine bc ?_
     refine rPe T hS [] [(52,B ((decide (kZ < (lN l_))) && (decide (pl < 0))))] (sp:=[48]) fun a hS=>?_
     refine aG hS (b:=((decide (kZ < (lN l_))) && (decide (pl < 0)))) kr (fun hb=>?_) fun hb=>?_
     ·replace hm:=hm.1 hb
      refine aH ?_
      refine bT (fun a w=>∃ (Z:Nat->Nat) (X:Nat->Nat) (pY:List ab) (fV:Int) (Dy:Int) (tZ:Option Addr) (tU:Nat),VC18_J4 I2 μ2 wn kZ mA jg wm pl A4 pY fV Dy/\St Tryz.f18.ntmps ⟨[(0,Sl a1 l_ c1),(6,Sl tZ pY tU),(7,I aU),(8,Pt 9 0),(9,I kZ)],[(9,(102,[I mA,I jg,I wm,I fV,I Dy]))]⟩ Z a w X/\Old w0 X0 w X/\RS aM w X a1 l_ c1/\OS ao 102 w X 1003 tZ pY tU) ?_ ?_
      ·refine aL ?_
       refine dv [9] mixed hS ?_
       intro HX Hi hS hE hD hH
       replace hO:=hO.m2 hE
       replace h163:=h163.m1 hE
       replace h167:=h167.m2 hE
       refine tke T [0,1,5,6] [9] hS hH #[true,true,false,false,false,true,true,false,false,false,false] 7 [] [(55,Sl a1 l_ c1),(56,I kZ),(60,Sl a1 l_ c1),(61,I aU)] fun a hS=>?_
       obtain ⟨hq,hm⟩:=hm
       refine c7 (e:=61) (k:=.i64) T 2 hS kr kr kr (by rfl) kr hH kr kr h163 kr kr hq.1 hq.2 ?_
       intro RH a h184 hS
       have I0:=h184.here
       refine dw (off:=1) (fsz:=1) (ft:=3) (TF:=tI) (y:=(gi l_ kZ).aj) 3 T hS kr kr kr (by rfl) kr hH kr h184 kr kr kr (fun cs h=>gV h) ?_
       intro RE a h186 fP hS
       have FL:=I0
       rw [← fP] at FL
       clear fP
       refine dV T 4 hS kr kr kr (by rfl) kr hH kr h186 FL rfl kr ?_
       intro v187 a hv hS
       cases hv
       obtain ⟨hq,hm⟩:=hm
       refine c7 (e:=61) (k:=.i64) T 7 hS kr kr kr (by rfl) kr hH kr kr h163 kr kr hq.1 hq.2 ?_
       intro RB a h189 hS
       have IZ:=h189.here
       refine dw (off:=1) (fsz:=1) (ft:=3) (TF:=tI) (y:=(gi l_ aU).aj) 8 T hS kr kr kr (by rfl) kr hH kr h189 kr kr kr (fun cs h=>gV h) ?_
       intro NB a h191 fP hS
       have FK:=IZ
       rw [← fP] at FK
       clear fP
       refine dV T 9 hS kr kr kr (by rfl) kr hH kr h191 FK rfl kr ?_
       intro v192 a hv hS
       cases hv
       refine tke T [10] [9] hS hH (tts 11) 0 [55,56,60,61,57,58,59,62,63,64] [(65,B (((gi l_ kZ).aj) == ((gi l_ aU).aj)))] fun a hS=>?_
       refine aS kr ?_
       replace hS:=hS.sle [] []
       refine aG hS (b:=(((gi l_ kZ).aj) == ((gi l_ aU).aj))) kr (fun hb=>?_) fun hb=>?_
       ·replace hm:=hm.1 hb
        refine rM T hS ⟨[(0,Sl a1 l_ c1),(6,Sl rc wn ra),(7,I aU),(8,Pt 9 0),(9,I kZ)],[(9,(102,[I mA,I jg,I wm,I kZ,I A4]))]⟩ fun Z a KS Nm hS hE hr=>?_
        replace hO:=hO.m2 hE
        replace h163:=h163.m1 hE
        replace h167:=h167.m2 hE
        clear hE hr
        refine region ?_
        refine oPe T hS 2 [] [(68,Sl a1 l_ c1),(69,I kZ)] fun a hS=>?_
        obtain ⟨hq,hm⟩:=hm
        refine op1 (index (e:=61) (k:=.i64) T hS kr kr kr kr h163 kr kr hq.1 hq.2 ?_)
        intro Ry a h194 hS
        refine op1 (e9 (off:=2) (fsz:=1) (ft:=3) (TF:=tI) (y:=(gi l_ kZ).N) T hS kr kr kr h194 kr kr kr (fun cs h=>oC h) ?_)
        intro Rw a h196 hS
        refine op1 (dU T hS kr kr kr h196 rfl kr ?_)
        intro v197 a hv hS
        cases hv
        refine eM T hS ⟨[(0,Sl a1 l_ c1),(6,Sl rc wn ra),(7,I aU),(8,Pt 9 0),(9,I kZ)],[(9,(102,[I mA,I jg,I wm,I kZ,I ((gi l_ kZ).N)]))]⟩ fun Z a HU JX hS hE hr=>?_
        replace hO:=hO.m2 hE
        replace h163:=h163.m1 hE
        replace h167:=h167.m2 hE
        clear hE hr
        exact ⟨Z,_,wn,kZ,(gi l_ kZ).N,rc,ra,hm,hS.sl _,hO,h163,h167⟩
       replace hm:=hm.2 hb
       refine aH ?_
       exact ⟨Z,_,wn,pl,A4,rc,ra,hm,hS.sl _,hO,h163,h167⟩
      rintro a HS ⟨Z,Nl,pY,fV,Dy,tZ,tU,hm,hS,hO,h174,h178⟩
      unfold VC18_J4 at hm
      refine region (ePe T hS [] [(9,I (wR (kZ+1)))] fun a hS=>?_)
      exact ⟨⟨pY,wR (kZ+1),mA,jg,wm,fV,Dy⟩,⟨Z,_,tZ,tU,hm.1,hS.sl _,hO,h174,h178⟩,hm.2⟩
     replace hm:=hm.2 hb
     refine cb (by rfl) ?_
     exact ⟨Z,_,wn,mA,jg,wm,pl,A4,rc,ra,hm,hS.sl _,hO,h163,h167⟩
    rintro a KO ⟨Z,JV,lD,l6,lC,fQ,jh,nF,nB,nv,hm,hS,hO,h144,h148⟩
    unfold VC18_J3 at hm
    refine region ?_
    refine oP T hS 2 ⟨[(0,Sl a1 l_ c1),(6,Sl nB lD nv),(7,I aU),(74,Sl nB lD nv),(75,V (.agg #[.int .i64 l6,.int .i64 lC,.int .i64 fQ,.int .i64 jh,.int .i64 nF]))],[]⟩ fun a hS=>?_
    refine op1 (lit (E:=102) (col:=0) (T:=ao) (vals:=[.agg #[.int .i64 l6,.int .i64 lC,.int .i64 fQ,.int .i64 jh,.int .i64 nF]]) (ys:=[(⟨l6,lC,fQ,jh,nF⟩:ab)]) T hS kr kr kr kr (by exact ⟨rfl,trivial⟩) rfl kr kr kr kr ?_)
    intro b154 a DE AF hE h157 hN hS
    clear hN
    replace hO:=hO.m2 hE
    replace h144:=h144.m1 hE
    replace h148:=h148.m2 hE
    replace h157:=h157.rs0
    obtain ⟨hq,hm⟩:=hm
    obtain ⟨news,hN⟩:=h157.src
    refine op1 (append (E:=102) (T:=ao) (col:=1003) (xs:=lD) T hS kr kr kr kr h148 hN kr kr kr kr hq ?_)
    intro JS JE a DD Hn hE h160 hS
    clear hq hN
    clear h148
    replace hO:=hO.m2 hE
    replace h144:=h144.m1 hE
    replace h157:=h157.m1 hE
    refine ePe T hS [75,76,77] [(6,Sl JS (lD++[(⟨l6,lC,fQ,jh,nF⟩:ab)]) JE)] fun a hS=>?_
    exact ⟨Z,_,lD++[(⟨l6,lC,fQ,jh,nF⟩:ab)],JS,JE,hm,hS.sl _,hO,h144,h160⟩
   rintro a HR ⟨Z,Nh,dC,lT,lS,hm,hS,hO,h117,h121⟩
   unfold VC18_J2 at hm
   refine region (ePe T hS [] [(7,I (wR (aU+1)))] fun a hS=>?_)
   exact ⟨⟨dC,wR (aU+1)⟩,⟨Z,_,lT,lS,hm.1,hS.sl _,hO,h117,h121⟩,hm.2⟩
  replace hm:=hm.2 hb
  refine cb (by rfl) ?_
  exact ⟨Z,_,cv,hG,g9,hm,hS.sl _,hO,h115⟩
 rintro a KN ⟨Z,Q8,eY,gA,gy,hm,hS,hO,h108⟩
 unfold VC18_J1 at hm
 refine rPe T hS [6] [(2,Sl gA eY gy),(3,I 0)] fun a hS=>?_
 refine aY ?_
 obtain ⟨xG,hE,hF⟩:=h108.freeze (by decide)
 replace hS:=hS.ev hE (cr kr)
 replace hO:=hO.m2 hE
 have h110:=hF; clear hE hF
 exact fin T hS hO (fun c=>c) rfl (r:=[.slice gA eY.length gy,.int .i64 0]) kr (fun X' hM hC=>⟨(eY,0),hm,gA,gy,rfl,h110.m0 hM⟩)
theorem C18 (GA:S50) (v:∀ (l_:List au),VC18 l_ (fun r=>r=eu l_)):S18:=by
 intro w X l_ a1 c1   h1
 refine (W18 GA w X l_ a1 c1   _ (v l_) h1).mono ?_
 rintro _ _ _ _ ⟨r,rfl,h⟩
 exact h
theorem W25 (w0) (X0) (a_:List Int) (b_:List Int) (a1) (c1) (a2) (c2) (Q:Bool->Prop) (hm:VC25 a_ b_ Q) (h1:RS tI w0 X0 a1 a_ c1) (h2:RS tI w0 X0 a2 b_ c2) :
  Ret Tryz.prog 25 #[.slice a1 a_.length c1,.slice a2 b_.length c2] aJ w0 X0 (fun w X' v=>∃ r,Q r/\v=.bool r):=by
 unfold VC25 at hm
 replace hm:=hm (h1.sm kr)
 replace hm:=hm (h2.sm kr)
 refine enter Tryz.func25 rfl (vals:=[.slice a1 a_.length c1,.slice a2 b_.length c2]) kr ?_
 intro Z a hS hO hM
 replace h1:=h1.m0 hM
 replace h2:=h2.m0 hM
 refine rPe T hS [] [] fun a hS=>?_
 refine bc ?_
 refine rPe T hS [] [(10,B ((lN a_) != (lN b_)))] fun a hS=>?_
 refine aG hS (b:=((lN a_) != (lN b_))) kr (fun hb=>?_) fun hb=>?_
 ·replace hm:=hm.1 hb
  refine rPe T hS [0,1,10] [(4,B false)] fun a hS=>?_
  refine aY ?_
  exact fin T hS hO (fun c=>c) rfl (r:=[.bool false]) kr (fun X' hM hC=>⟨false,hm,rfl⟩)
 replace hm:=hm.2 hb
 refine aH ?_
 refine bT (fun a w=>∃ Z X,VC25_J1 Q/\St Tryz.f25.ntmps ⟨[],[]⟩ Z a w X/\Old w0 X0 w X) ?_ ?_
 ·refine rPe T hS [10] [(5,I 0)] fun a hS=>?_
  refine aL ?_
  obtain ⟨I1,μ1,co,hm⟩:=hm
  refine cl (σ:=Int) (fun s a w=>∃ Z X,I1 s/\St Tryz.f25.ntmps ⟨[(0,Sl a1 a_ c1),(1,Sl a2 b_ c2),(5,I s)],[]⟩ Z a w X/\Old w0 X0 w X/\RS tI w X a1 a_ c1/\RS tI w X a2 b_ c2) (fun s=>μ1 s) (0) ?_ ?_
  ·exact ⟨Z,_,co,hS.sl _,hO,h1,h2⟩
  rintro bi a ur ⟨Z,rJ,hI,hS,hO,h101,h102⟩
  replace hm:=hm bi hI
  clear hI co
  refine bc ?_
  refine rPe T hS [] [(14,B (decide (bi < (lN a_))))] fun a hS=>?_
  refine aG hS (b:=decide (bi < (lN a_))) kr (fun hb=>?_) fun hb=>?_
  ·replace hm:=hm.1 hb
   refine aH (bc ?_)
   refine aL ?_
   refine dv [] mixed hS ?_
   intro zr o1 hS hE hD hH
   replace hO:=hO.m2 hE
   replace h101:=h101.m1 hE
   replace h102:=h102.m1 hE
   refine tke T [0,1,4,5] [] hS hH #[true,true,false,false,true,true,false,false,false] 5 [] [(17,Sl a1 a_ c1),(18,I bi),(21,Sl a2 b_ c2),(22,I bi)] fun a hS=>?_
   obtain ⟨hq,hm⟩:=hm
   refine c7 (e:=3) (k:=.i64) T 2 hS kr kr kr (by rfl) kr hH kr kr h101 kr kr hq.1 hq.2 ?_
   intro Kj a h107 hS
   have Cv:=h107.here
   refine dV T 3 hS kr kr kr (by rfl) kr hH kr h107 Cv rfl kr ?_
   intro v108 a hv hS
   cases hv
   obtain ⟨hq,hm⟩:=hm
   refine c7 (e:=3) (k:=.i64) T 6 hS kr kr kr (by rfl) kr hH kr kr h102 kr kr hq.1 hq.2 ?_
   intro AQ a h110 hS
   have mr:=h110.here
   refine dV T 7 hS kr kr kr (by rfl) kr hH kr h110 mr rfl kr ?_
   intro v111 a hv hS
   cases hv
   refine tke T [8] [] hS hH (tts 9) 0 [17,18,21,22,19,20,23,24] [(25,B ((gi a_ bi) != (gi b_ bi)))] fun a hS=>?_
   refine aS kr ?_
   replace hS:=hS.sle [] []
   refine aG hS (b:=((gi a_ bi) != (gi b_ bi))) kr (fun hb=>?_) fun hb=>?_
   ·replace hm:=hm.1 hb
    refine rPe T hS [0,1,5,25] [(4,B false)] fun a hS=>?_
    refine aY ?_
    exact fin T hS hO (fun c=>c) rfl (r:=[.bool false]) kr (fun X' hM hC=>⟨false,hm,rfl⟩)
   replace hm:=hm.2 hb
   refine aH ?_
   refine region (ePe T hS [25] [(5,I (wR (bi+1)))] fun a hS=>?_)
   exact ⟨wR (bi+1),⟨Z,_,hm.1,hS.sl _,hO,h101,h102⟩,hm.2⟩
  replace hm:=hm.2 hb
  refine cb (by rfl) ?_
  exact ⟨Z,_,hm,hS.sl _,hO⟩
 rintro a pt ⟨Z,wc,hm,hS,hO⟩
 unfold VC25_J1 at hm
 refine rPe T hS [] [(4,B true)] fun a hS=>?_
 refine aY ?_
 exact fin T hS hO (fun c=>c) rfl (r:=[.bool true]) kr (fun X' hM hC=>⟨true,hm,rfl⟩)
theorem C25 (v:∀ (a_:List Int) (b_:List Int),VC25 a_ b_ (fun r=>r=eS a_ b_)):S25:=by
 intro w X a_ b_ a1 c1 a2 c2   h1 h2
 refine (W25 w X a_ b_ a1 c1 a2 c2   _ (v a_ b_) h1 h2).mono ?_
 rintro _ _ _ _ ⟨r,rfl,h⟩
 exact h
theorem W92 (w0) (X0) (s_:List Int) (v_:Int) (a1) (c1) (Q:Int->Prop) (hm:VC92 s_ v_ Q) (h1:RS tI w0 X0 a1 s_ c1) :
  Ret Tryz.prog 92 #[.slice a1 s_.length c1,.int .i64 v_] aJ w0 X0 (fun w X' v=>∃ r,Q r/\v=.int .i64 r):=by
 unfold VC92 at hm
 replace hm:=hm (h1.sm kr)
 refine enter Tryz.func92 rfl (vals:=[.slice a1 s_.length c1,.int .i64 v_]) kr ?_
 intro Z a hS hO hM
 replace h1:=h1.m0 hM
 refine rPe T hS [] [] fun a hS=>?_
 refine bT (fun a w=>∃ Z X,VC92_J1 Q/\St Tryz.f92.ntmps ⟨[],[]⟩ Z a w X/\Old w0 X0 w X) ?_ ?_
 ·refine rPe T hS [] [(7,I (lN s_)),(8,I 0)] fun a hS=>?_
  refine aL ?_
  obtain ⟨I1,μ1,co,hm⟩:=hm
  refine cl (σ:=Int) (fun s a w=>∃ Z X,I1 s/\St Tryz.f92.ntmps ⟨[(0,Sl a1 s_ c1),(1,I v_),(7,I (lN s_)),(8,I s)],[]⟩ Z a w X/\Old w0 X0 w X/\RS tI w X a1 s_ c1) (fun s=>μ1 s) (0) ?_ ?_
  ·exact ⟨Z,_,co,hS.sl _,hO,h1⟩
  rintro bu a rz ⟨Z,ms,hI,hS,hO,h101⟩
  replace hm:=hm bu hI
  clear hI co
  refine rPe T hS [] [(9,B (decide (bu < (lN s_))))] fun a hS=>?_
  refine bc ?_
  refine aG hS (b:=decide (bu < (lN s_))) kr (fun hb=>?_) fun hb=>?_
  ·replace hm:=hm.1 hb
   refine aH (bc ?_)
   refine aL ?_
   refine rPe T hS [9] [(5,I bu)] fun a hS=>?_
   refine bj ?_
   refine oPe T hS 3 [] [(11,I v_),(12,Sl a1 s_ c1),(13,I bu)] fun a hS=>?_
   obtain ⟨hq,hm⟩:=hm
   refine op1 (index (e:=3) (k:=.i64) T hS kr kr kr kr h101 kr kr hq.1 hq.2 ?_)
   intro ui a h104 hS
   refine op1 (dU T hS kr kr kr h104 rfl kr ?_)
   intro v105 a hv hS
   cases hv
   refine ePe T hS [11,12,13,14,15] [(16,B (v_ == (gi s_ bu)))] fun a hS=>?_
   refine aG hS (b:=(v_ == (gi s_ bu))) kr (fun hb=>?_) fun hb=>?_
   ·replace hm:=hm.1 hb
    refine rPe T hS [0,1,5,7,8,16] [(4,I bu)] fun a hS=>?_
    refine aY ?_
    exact fin T hS hO (fun c=>c) rfl (r:=[.int .i64 bu]) kr (fun X' hM hC=>⟨bu,hm,rfl⟩)
   replace hm:=hm.2 hb
   refine aH ?_
   refine region (ePe T hS [5,16] [(8,I (wR (bu+1)))] fun a hS=>?_)
   exact ⟨wR (bu+1),⟨Z,_,hm.1,hS.sl _,hO,h101⟩,hm.2⟩
  replace hm:=hm.2 hb
  refine cb (by rfl) ?_
  exact ⟨Z,_,hm,hS.sl _,hO⟩
 rintro a ry ⟨Z,pI,hm,hS,hO⟩
 unfold VC92_J1 at hm
 refine rPe T hS [] [(4,I (-1))] fun a hS=>?_
 refine aY ?_
 exact fin T hS hO (fun c=>c) rfl (r:=[.int .i64 (-1)]) kr (fun X' hM hC=>⟨(-1),hm,rfl⟩)
theorem C92 (v:∀ (s_:List Int) (v_:Int),VC92 s_ v_ (fun r=>r=ea s_ v_)):S92:=by
 intro w X s_ v_ a1 c1   h1
 refine (W92 w X s_ v_ a1 c1   _ (v s_ v_) h1).mono ?_
 rintro _ _ _ _ ⟨r,rfl,h⟩
 exact h
theorem W77 (Lo:S92) (w0) (X0) (s_:List Int) (v_:Int) (a1) (c1) (Q:Bool->Prop) (hm:VC77 s_ v_ Q) (h1:RS tI w0 X0 a1 s_ c1) :
  Ret Tryz.prog 77 #[.slice a1 s_.length c1,.int .i64 v_] aJ w0 X0 (fun w X' v=>∃ r,Q r/\v=.bool r):=by
 unfold VC77 at hm
 replace hm:=hm (h1.sm kr)
 refine enter Tryz.func77 rfl (vals:=[.slice a1 s_.length c1,.int .i64 v_]) kr ?_
 intro Z a hS hO hM
 replace h1:=h1.m0 hM
 refine rPe T hS [] [] fun a hS=>?_
 refine bj ?_
 refine oPe T hS 2 [0,1] [(5,Sl a1 s_ c1),(6,I v_)] fun a hS=>?_
 refine op1 (call hS kr kr hb92 kr (fun _ _=>rfl) (Lo _ _ s_ v_ a1 c1 h1) ?_)
 intro v101 a eZ fa hE hp hS
 replace hO:=hO.m2 hE
 replace h1:=h1.m1 hE
 obtain ⟨ap,hr⟩:∃ r,ea s_ v_=r:=⟨_,rfl⟩
 replace hm:=hm ap hr
 rw [hr] at hp
 clear hr
 subst hp
 refine ePe T hS [5,6,7] [(4,B (decide (ap≥0)))] fun a hS=>?_
 refine aY ?_
 exact fin T hS hO (fun c=>c) rfl (r:=[.bool (decide (ap≥0))]) kr (fun X' hM hC=>⟨(decide (ap≥0)),hm,rfl⟩)
theorem C77 (Lo:S92) (v:∀ (s_:List Int) (v_:Int),VC77 s_ v_ (fun r=>r=cx s_ v_)):S77:=by
 intro w X s_ v_ a1 c1   h1
 refine (W77 Lo w X s_ v_ a1 c1   _ (v s_ v_) h1).mono ?_
 rintro _ _ _ _ ⟨r,rfl,h⟩
 exact h
theorem W49 (w0) (X0) (s_:List ba) (a1) (c1) (Q:(List ba)->Prop) (hm:VC49 s_ Q) (h1:RS ay w0 X0 a1 s_ c1) :
  Ret Tryz.prog 49 #[.slice a1 s_.length c1] aJ w0 X0 (fun w X' v=>∃ r,Q r/\∃ cn cm,v=.slice cn r.length cm/\RS ay w X' cn r cm):=by
 unfold VC49 at hm
 replace hm:=hm (h1.sm kr)
 refine enter Tryz.func49 rfl (vals:=[.slice a1 s_.length c1]) kr ?_
 intro Z a hS hO hM
 replace h1:=h1.m0 hM
 refine rPe T hS [] [] fun a hS=>?_
 refine bc ?_
 refine bj ?_
 refine oPe T hS 1 [] [(3,Sl a1 s_ c1)] fun a hS=>?_
 obtain ⟨b101,hb102⟩:∃ q:Bool,a1.isNone=q:=⟨_,rfl⟩
 replace hm:=hm b101 (h1.It hb102)
 refine op1 (FU (e:=107) (m:=s_.length) (c:=c1) hS kr kr kr kr Tryz.underlying46 hb102 ?_)
 intro a hS
 clear hb102
 refine gX ?_
 refine aG hS (b:=b101) kr (fun hb=>?_) fun hb=>?_
 ·replace hm:=hm.1 hb
  refine rPe T hS [0,4] [(2,V (.slice none 0 0))] fun a hS=>?_
  refine aY ?_
  exact fin T hS hO (fun c=>c) rfl (r:=[.slice none 0 0]) kr (fun X' hM hC=>⟨[],hm,none,0,rfl,RS.empty _ _ _⟩)
 replace hm:=hm.2 hb
 refine aH ?_
 refine bj ?_
 refine op1 (lit (E:=107) (col:=1003) (T:=ay) (vals:=[]) (ys:=([]:List ba)) T hS kr kr kr kr trivial rfl kr kr kr kr ?_)
 intro b103 a zr o1 hE h106 hN hS
 clear hN
 replace hO:=hO.m2 hE
 replace h1:=h1.m1 hE
 refine oPe T hS 1 [0,4] [(6,Sl a1 s_ c1)] fun a hS=>?_
 obtain ⟨hq,hm⟩:=hm
 obtain ⟨news,hN⟩:=h1.src
 refine op1 (append (E:=107) (T:=ay) (col:=1003) (xs:=([]:List ba)) T hS kr kr kr kr h106 hN kr kr kr kr hq ?_)
 intro fH fG a rz pI hE h109 hS
 clear hq hN
 clear h106
 replace hO:=hO.m2 hE
 replace h1:=h1.m1 hE
 refine ePe T hS [6,7] [(2,Sl fH (([]:List ba)++s_) fG)] fun a hS=>?_
 refine aY ?_
 obtain ⟨rJ,hE,hF⟩:=h109.freeze (by decide)
 replace hS:=hS.ev hE (cr kr)
 replace hO:=hO.m2 hE
 have h113:=hF; clear hE hF
 exact fin T hS hO (fun c=>c) rfl (r:=[.slice fH (([]:List ba)++s_).length fG]) kr (fun X' hM hC=>⟨(([]:List ba)++s_),hm,fH,fG,rfl,h113.m0 hM⟩)
theorem C49 (v:∀ (s_:List ba),yl s_->VC49 s_ (fun r=>r=cY s_)):S49:=by
 intro w X s_ a1 c1   hp h1
 refine (W49 w X s_ a1 c1   _ (v s_ hp) h1).mono ?_
 rintro _ _ _ _ ⟨r,rfl,h⟩
 exact h
theorem W76 (w0) (X0) (p_:Int × Int) (n_:Int) (Q:Bool->Prop) (hm:VC76 p_ n_ Q) :
  Ret Tryz.prog 76 #[.agg #[.int .i64 p_.1,.int .i64 p_.2],.int .i64 n_] aJ w0 X0 (fun w X' v=>∃ r,Q r/\v=.bool r):=by
 unfold VC76 at hm
 refine enter Tryz.func76 rfl (vals:=[.agg #[.int .i64 p_.1,.int .i64 p_.2],.int .i64 n_]) kr ?_
 intro Z a hS hO hM
 refine rM T hS ⟨[(1,I n_),(2,Pt 3 0)],[(3,(131,[I p_.1,I p_.2]))]⟩ fun Z a oE o3 hS hE hr=>?_
 replace hO:=hO.m2 hE
 clear hE hr
 refine rP T hS ⟨[(4,B (((decide ((if p_.2 < p_.1 then p_.2 else p_.1)≥0)) && (decide ((if p_.2 > p_.1 then p_.2 else p_.1) < n_))) && (p_.1 != p_.2)))],[]⟩ (sp:=[11,20]) fun a hS=>?_
 refine aY ?_
 exact fin T hS hO (fun c=>c) rfl (r:=[.bool (((decide ((if p_.2 < p_.1 then p_.2 else p_.1)≥0)) && (decide ((if p_.2 > p_.1 then p_.2 else p_.1) < n_))) && (p_.1 != p_.2))]) kr (fun X' hM hC=>⟨(((decide ((if p_.2 < p_.1 then p_.2 else p_.1)≥0)) && (decide ((if p_.2 > p_.1 then p_.2 else p_.1) < n_))) && (p_.1 != p_.2)),hm,rfl⟩)
theorem C76 (v:∀ (p_:Int × Int) (n_:Int),VC76 p_ n_ (fun r=>r=eI p_ n_)):S76:=by
 intro w X p_ n_    
 refine (W76 w X p_ n_    _ (v p_ n_)).mono ?_
 rintro _ _ _ _ ⟨r,rfl,h⟩
 exact h
theorem W75 (Lx:S76) (Gv:S77) (w0) (X0) (p_:Int × Int) (am:Int) (av:Int) (aN:List Int) (a1) (c1) (b1) (i1) (b2) (i2) (b3) (i3) (Q:Bool->Prop) (hm:VC75 p_ am av aN Q) (h1:RS tI w0 X0 a1 aN c1) (fw:Cell w0 X0 b1 i1 3 [.int .i64 am]) (gF:Cell w0 X0 b2 i2 3 [.int .i64 av]) (lO:Cell w0 X0 b3 i3 43 [.slice a1 aN.length c1]) (hA:dW [i1,i2,i3]) :
  Ret Tryz.prog 75 #[.agg #[.int .i64 p_.1,.int .i64 p_.2],.pointer (some ⟨b1,0,none⟩),.pointer (some ⟨b2,0,none⟩),.pointer (some ⟨b3,0,none⟩)] (pR [i1,i2,i3]) w0 X0 (fun w X' v=>∃ r,Q r/\v=.bool r/\Cell w X' b1 i1 3 [.int .i64 am]/\Cell w X' b2 i2 3 [.int .i64 av]/\Cell w X' b3 i3 43 [.slice a1 aN.length c1]):=by
 unfold VC75 at hm
 replace hm:=hm (h1.sm kr)
 refine fM Tryz.func75 rfl (dH (zAe0 i1 i2 i3)) (fun id=>(bif Nat.beq id 901 then b1 else (bif Nat.beq id 902 then b2 else (bif Nat.beq id 903 then b3 else 0)))) (args:=[V (.agg #[.int .i64 p_.1,.int .i64 p_.2]),Pt 901 0,Pt 902 0,Pt 903 0]) (bxs:=[(901,(3,[I am])),(902,(3,[I av])),(903,(43,[Sl a1 aN c1]))]) kr rfl (bn.cons kr (fw.map (bM 0 hA.1 rfl)) (bn.cons kr (gF.map (bM 1 hA.1 rfl)) (bn.cons kr (lO.map (bM 2 hA.1 rfl)) bn.nil))) (fA (fun q hq=>(hA.2 q.1 (List.mem_map.2 ⟨q,hq,rfl⟩)).1)) ?_
 intro a hS hO hM
 have hP:Pin [(901,b1),(902,b2),(903,b3)] (fun id=>(bif Nat.beq id 901 then b1 else (bif Nat.beq id 902 then b2 else (bif Nat.beq id 903 then b3 else 0)))):=by intro q hq; simp at hq; rcases hq with rfl | rfl | rfl <;> rfl
 generalize (fun id=>(bif Nat.beq id 901 then b1 else (bif Nat.beq id 902 then b2 else (bif Nat.beq id 903 then b3 else 0))))=Z at hS hP
 clear fw gF lO
 replace h1:=h1.m0 hM
 refine rM T hS ⟨[(1,Pt 901 0),(2,Pt 902 0),(3,Pt 903 0),(4,Pt 5 0)],[(5,(131,[I p_.1,I p_.2])),(901,(3,[I am])),(902,(3,[I av])),(903,(43,[Sl a1 aN c1]))]⟩ fun Z a ry ug hS hE hr=>?_
 replace hO:=hO.m2 hE
 replace h1:=h1.m1 hE
 replace hP:=hP.mv hr kr
 clear hE hr
 refine bj ?_
 refine oPe T hS 2 [1] [(6,V (.agg #[.int .i64 p_.1,.int .i64 p_.2])),(7,I am)] fun a hS=>?_
 refine op1 (call hS kr kr hb76 kr (fun _ _=>rfl) (Lx _ _ (p_.1,p_.2) am) ?_)
 intro v101 a eZ fa hE hp hS
 replace hO:=hO.m2 hE
 replace h1:=h1.m1 hE
 obtain ⟨ap,hr⟩:∃ r,eI (p_.1,p_.2) am=r:=⟨_,rfl⟩
 replace hm:=hm ap hr
 rw [hr] at hp
 clear hr
 subst hp
 refine oPe T hS 7 [2,6,7,8] [(15,B (ap && (p_.2 == av)))] (sp:=[9]) fun a hS=>?_
 rcases bft (ap && (p_.2 == av)) with hb | hb
 ·replace hS:=hS.lit (t:=15) kr hb
  replace hm:=hm.1 hb
  refine oP T hS 3 ⟨[(15,B true),(16,Sl a1 aN c1),(18,I p_.1)],[(901,(3,[I am])),(902,(3,[I av])),(903,(43,[Sl a1 aN c1]))]⟩ fun a hS=>?_
  refine op1 (call hS kr kr hb77 kr (fun _ _=>rfl) (Gv _ _ aN p_.1 a1 c1 h1) ?_)
  intro v105 a mg mc hE hp hS
  replace hO:=hO.m2 hE
  replace h1:=h1.m1 hE
  obtain ⟨aV,hr⟩:∃ r,cx aN p_.1=r:=⟨_,rfl⟩
  replace hm:=hm aV hr
  rw [hr] at hp
  clear hr
  subst hp
  refine ePe T hS [15,16,18,19] [(5,B (!aV))] fun a hS=>?_
  refine aY ?_
  exact gG T hS hO (fun c h=>bW kr h) (fun c h=>bX (l:=(zAe0 i1 i2 i3)) h) (bR (zAe0 i1 i2 i3)) rfl (r:=[.bool (!aV)]) kr (fun X' hM hC=>⟨(!aV),hm,rfl,((hS.cell (id:=901) (t:=3) (cs:=[I am]) kr).out (f:=(bR (zAe0 i1 i2 i3))) hC kr kr (hP.at 0 rfl)),((hS.cell (id:=902) (t:=3) (cs:=[I av]) kr).out (f:=(bR (zAe0 i1 i2 i3))) hC kr kr (hP.at 1 rfl)),((hS.cell (id:=903) (t:=43) (cs:=[Sl a1 aN c1]) kr).out (f:=(bR (zAe0 i1 i2 i3))) hC kr kr (hP.at 2 rfl))⟩)
 replace hS:=hS.lit (t:=15) kr hb
 replace hm:=hm.2 hb
 refine eP T hS ⟨[(5,B false)],[(901,(3,[I am])),(902,(3,[I av])),(903,(43,[Sl a1 aN c1]))]⟩ fun a hS=>?_
 refine aY ?_
 exact gG T hS hO (fun c h=>bW kr h) (fun c h=>bX (l:=(zAe0 i1 i2 i3)) h) (bR (zAe0 i1 i2 i3)) rfl (r:=[.bool false]) kr (fun X' hM hC=>⟨false,hm,rfl,((hS.cell (id:=901) (t:=3) (cs:=[I am]) kr).out (f:=(bR (zAe0 i1 i2 i3))) hC kr kr (hP.at 0 rfl)),((hS.cell (id:=902) (t:=3) (cs:=[I av]) kr).out (f:=(bR (zAe0 i1 i2 i3))) hC kr kr (hP.at 1 rfl)),((hS.cell (id:=903) (t:=43) (cs:=[Sl a1 aN c1]) kr).out (f:=(bR (zAe0 i1 i2 i3))) hC kr kr (hP.at 2 rfl))⟩)
theorem C75 (Lx:S76) (Gv:S77) (v:∀ (p_:Int × Int) (am:Int) (av:Int) (aN:List Int),VC75 p_ am av aN (fun r=>r=cj p_ am av aN)):S75:=by
 intro w X p_ am av aN a1 c1  b1 i1 b2 i2 b3 i3 h1 fw gF lO hA
 refine (W75 Lx Gv w X p_ am av aN a1 c1  b1 i1 b2 i2 b3 i3 _ (v p_ am av aN) h1 fw gF lO hA).mono ?_
 rintro _ _ _ _ ⟨r,rfl,h⟩
 exact h
theorem W93_75 (Ly:S75) (w0) (X0) (s_:List (Int × Int)) (am:Int) (av:Int) (aN:List Int) (a1) (c1) (a2) (c2) (b1) (i1) (b2) (i2) (b3) (i3) (Q:Int->Prop) (hm:VC93_75 s_ am av aN Q) (h1:RS tP2 w0 X0 a1 s_ c1) (h2:RS tI w0 X0 a2 aN c2) (fw:Cell w0 X0 b1 i1 3 [.int .i64 am]) (gF:Cell w0 X0 b2 i2 3 [.int .i64 av]) (lO:Cell w0 X0 b3 i3 43 [.slice a2 aN.length c2]) (hA:dW [i1,i2,i3]) :
  Ret Tryz.prog 93 #[.slice a1 s_.length c1,.func (.func 75) #[] #[.pointer (some ⟨b1,0,none⟩),.pointer (some ⟨b2,0,none⟩),.pointer (some ⟨b3,0,none⟩)]] (pR [i1,i2,i3]) w0 X0 (fun w X' v=>∃ r,Q r/\v=.int .i64 r/\Cell w X' b1 i1 3 [.int .i64 am]/\Cell w X' b2 i2 3 [.int .i64 av]/\Cell w X' b3 i3 43 [.slice a2 aN.length c2]):=by
 unfold VC93_75 at hm
 replace hm:=hm (h1.sm kr)
 replace hm:=hm (h2.sm kr)
 refine fM Tryz.func93 rfl (dH (zAe0 i1 i2 i3)) (fun id=>(bif Nat.beq id 901 then b1 else (bif Nat.beq id 902 then b2 else (bif Nat.beq id 903 then b3 else 0)))) (args:=[Sl a1 s_ c1,.f (.func 75) [] [.p 901 0,.p 902 0,.p 903 0]]) (bxs:=[(901,(3,[I am])),(902,(3,[I av])),(903,(43,[Sl a2 aN c2]))]) kr rfl (bn.cons kr (fw.map (bM 0 hA.1 rfl)) (bn.cons kr (gF.map (bM 1 hA.1 rfl)) (bn.cons kr (lO.map (bM 2 hA.1 rfl)) bn.nil))) (fA (fun q hq=>(hA.2 q.1 (List.mem_map.2 ⟨q,hq,rfl⟩)).1)) ?_
 intro a hS hO hM
 have hP:Pin [(901,b1),(902,b2),(903,b3)] (fun id=>(bif Nat.beq id 901 then b1 else (bif Nat.beq id 902 then b2 else (bif Nat.beq id 903 then b3 else 0)))):=by intro q hq; simp at hq; rcases hq with rfl | rfl | rfl <;> rfl
 generalize (fun id=>(bif Nat.beq id 901 then b1 else (bif Nat.beq id 902 then b2 else (bif Nat.beq id 903 then b3 else 0))))=Z at hS hP
 clear fw gF lO
 replace h1:=h1.m0 hM
 replace h2:=h2.m0 hM
 refine rPe T hS [] [] fun a hS=>?_
 refine bT (fun a w=>∃ Z X,VC93_75_J1 Q/\St Tryz.f93.ntmps ⟨[],[(901,(3,[I am])),(902,(3,[I av])),(903,(43,[Sl a2 aN c2]))]⟩ Z a w X/\gf (dH (zAe0 i1 i2 i3)) w0 X0 w X/\Pin [(901,b1),(902,b2),(903,b3)] Z/\RS tI w X a2 aN c2) ?_ ?_
 ·refine rPe T hS [] [(7,I (lN s_)),(8,I 0)] fun a hS=>?_
  refine aL ?_
  obtain ⟨I1,μ1,co,hm⟩:=hm
  refine cl (σ:=Int) (fun s a w=>∃ Z X,I1 s/\St Tryz.f93.ntmps ⟨[(0,Sl a1 s_ c1),(1,.f (.func 75) [] [.p 901 0,.p 902 0,.p 903 0]),(7,I (lN s_)),(8,I s)],[(901,(3,[I am])),(902,(3,[I av])),(903,(43,[Sl a2 aN c2]))]⟩ Z a w X/\gf (dH (zAe0 i1 i2 i3)) w0 X0 w X/\Pin [(901,b1),(902,b2),(903,b3)] Z/\RS tP2 w X a1 s_ c1/\RS tI w X a2 aN c2) (fun s=>μ1 s) (0) ?_ ?_
  ·exact ⟨Z,_,co,hS.sl _,hO,hP,h1,h2⟩
  rintro bi a wt ⟨Z,Hs,hI,hS,hO,hP,h102,h104⟩
  replace hm:=hm bi hI
  clear hI co
  refine rPe T hS [] [(9,B (decide (bi < (lN s_))))] fun a hS=>?_
  refine bc ?_
  refine aG hS (b:=decide (bi < (lN s_))) kr (fun hb=>?_) fun hb=>?_
  ·replace hm:=hm.1 hb
   refine aH (bc ?_)
   refine aL ?_
   refine rPe T hS [9] [(5,I bi)] fun a hS=>?_
   refine bj ?_
   refine oPe T hS 3 [] [(11,.f (.func 75) [] [.p 901 0,.p 902 0,.p 903 0]),(12,Sl a1 s_ c1),(13,I bi)] fun a hS=>?_
   obtain ⟨hq,hm⟩:=hm
   refine op1 (index (e:=131) (k:=.i64) T hS kr kr kr kr h102 kr kr hq.1 hq.2 ?_)
   intro xI a h106 hS
   refine op1 (eC T hS kr kr kr h106 kr kr ?_)
   intro v107 a hv hS
   subst hv
   refine op1 (kd (fi:=[]) (cp:=[.p 901 0,.p 902 0,.p 903 0]) hS kr kr hb75 kr kr (Ly _ _ (gi s_ bi) am av aN a2 c2 (Z 901) 901 (Z 902) 902 (Z 903) 903 h104 (hS.cell (id:=901) (t:=3) (cs:=[I am]) kr) (hS.cell (id:=902) (t:=3) (cs:=[I av]) kr) (hS.cell (id:=903) (t:=43) (cs:=[Sl a2 aN c2]) kr) ⟨by decide,by decide⟩) ?_)
   intro v108 a ry ug hE hp hS
   replace hO:=hO.m2 hE
   replace h102:=h102.m1 hE
   replace h104:=h104.m1 hE
   replace h106:=h106.m1 hE
   obtain ⟨hp,FG,FF,FE⟩:=hp
   obtain ⟨dG,hr⟩:∃ r,cj (gi s_ bi) am av aN=r:=⟨_,rfl⟩
   replace hm:=hm dG hr
   rw [hr] at hp
   clear hr
   subst hp
   replace hS:=hS.cD (id:=901) (t:=3) (cs:=[I am]) kr FG
   replace hS:=hS.cD (id:=902) (t:=3) (cs:=[I av]) kr FF
   replace hS:=hS.cD (id:=903) (t:=43) (cs:=[Sl a2 aN c2]) kr FE
   clear FG FF FE
   refine gX ?_
   refine aG hS (b:=dG) kr (fun hb=>?_) fun hb=>?_
   ·replace hm:=hm.1 hb
    refine rPe T hS [0,1,5,7,8,16] [(4,I bi)] fun a hS=>?_
    refine aY ?_
    exact gG T hS hO (fun c h=>bW kr h) (fun c h=>bX (l:=(zAe0 i1 i2 i3)) h) (bR (zAe0 i1 i2 i3)) rfl (r:=[.int .i64 bi]) kr (fun X' hM hC=>⟨bi,hm,rfl,((hS.cell (id:=901) (t:=3) (cs:=[I am]) kr).out (f:=(bR (zAe0 i1 i2 i3))) hC kr kr (hP.at 0 rfl)),((hS.cell (id:=902) (t:=3) (cs:=[I av]) kr).out (f:=(bR (zAe0 i1 i2 i3))) hC kr kr (hP.at 1 rfl)),((hS.cell (id:=903) (t:=43) (cs:=[Sl a2 aN c2]) kr).out (f:=(bR (zAe0 i1 i2 i3))) hC kr kr (hP.at 2 rfl))⟩)
   replace hm:=hm.2 hb
   refine aH ?_
   refine region (ePe T hS [5,16] [(8,I (wR (bi+1)))] fun a hS=>?_)
   exact ⟨wR (bi+1),⟨Z,_,hm.1,hS.sl _,hO,hP,h102,h104⟩,hm.2⟩
  replace hm:=hm.2 hb
  refine cb (by rfl) ?_
  exact ⟨Z,_,hm,hS.sl _,hO,hP,h104⟩
 rintro a Bb ⟨Z,AM,hm,hS,hO,hP,h101⟩
 unfold VC93_75_J1 at hm
 refine rPe T hS [] [(4,I (-1))] fun a hS=>?_
 refine aY ?_
 exact gG T hS hO (fun c h=>bW kr h) (fun c h=>bX (l:=(zAe0 i1 i2 i3)) h) (bR (zAe0 i1 i2 i3)) rfl (r:=[.int .i64 (-1)]) kr (fun X' hM hC=>⟨(-1),hm,rfl,((hS.cell (id:=901) (t:=3) (cs:=[I am]) kr).out (f:=(bR (zAe0 i1 i2 i3))) hC kr kr (hP.at 0 rfl)),((hS.cell (id:=902) (t:=3) (cs:=[I av]) kr).out (f:=(bR (zAe0 i1 i2 i3))) hC kr kr (hP.at 1 rfl)),((hS.cell (id:=903) (t:=43) (cs:=[Sl a2 aN c2]) kr).out (f:=(bR (zAe0 i1 i2 i3))) hC kr kr (hP.at 2 rfl))⟩)
theorem C93_75 (Ly:S75) (v:∀ (s_:List (Int × Int)) (am:Int) (av:Int) (aN:List Int),VC93_75 s_ am av aN (fun r=>r=bm s_ am av aN)):S93_75:=by
 intro w X s_ am av aN a1 c1 a2 c2  b1 i1 b2 i2 b3 i3 h1 h2 fw gF lO hA
 refine (W93_75 Ly w X s_ am av aN a1 c1 a2 c2  b1 i1 b2 i2 b3 i3 _ (v s_ am av aN) h1 h2 fw gF lO hA).mono ?_
 rintro _ _ _ _ ⟨r,rfl,h⟩
 exact h
theorem W78_75 (xa:S93_75) (w0) (X0) (s_:List (Int × Int)) (am:Int) (av:Int) (aN:List Int) (a1) (c1) (a2) (c2) (b1) (i1) (b2) (i2) (b3) (i3) (Q:Bool->Prop) (hm:VC78_75 s_ am av aN Q) (h1:RS tP2 w0 X0 a1 s_ c1) (h2:RS tI w0 X0 a2 aN c2) (fw:Cell w0 X0 b1 i1 3 [.int .i64 am]) (gF:Cell w0 X0 b2 i2 3 [.int .i64 av]) (lO:Cell w0 X0 b3 i3 43 [.slice a2 aN.length c2]) (hA:dW [i1,i2,i3]) :
  Ret Tryz.prog 78 #[.slice a1 s_.length c1,.func (.func 75) #[] #[.pointer (some ⟨b1,0,none⟩),.pointer (some ⟨b2,0,none⟩),.pointer (some ⟨b3,0,none⟩)]] (pR [i1,i2,i3]) w0 X0 (fun w X' v=>∃ r,Q r/\v=.bool r/\Cell w X' b1 i1 3 [.int .i64 am]/\Cell w X' b2 i2 3 [.int .i64 av]/\Cell w X' b3 i3 43 [.slice a2 aN.length c2]):=by
 unfold VC78_75 at hm
 replace hm:=hm (h1.sm kr)
 replace hm:=hm (h2.sm kr)
 refine fM Tryz.func78 rfl (dH (zAe0 i1 i2 i3)) (fun id=>(bif Nat.beq id 901 then b1 else (bif Nat.beq id 902 then b2 else (bif Nat.beq id 903 then b3 else 0)))) (args:=[Sl a1 s_ c1,.f (.func 75) [] [.p 901 0,.p 902 0,.p 903 0]]) (bxs:=[(901,(3,[I am])),(902,(3,[I av])),(903,(43,[Sl a2 aN c2]))]) kr rfl (bn.cons kr (fw.map (bM 0 hA.1 rfl)) (bn.cons kr (gF.map (bM 1 hA.1 rfl)) (bn.cons kr (lO.map (bM 2 hA.1 rfl)) bn.nil))) (fA (fun q hq=>(hA.2 q.1 (List.mem_map.2 ⟨q,hq,rfl⟩)).1)) ?_
 intro a hS hO hM
 have hP:Pin [(901,b1),(902,b2),(903,b3)] (fun id=>(bif Nat.beq id 901 then b1 else (bif Nat.beq id 902 then b2 else (bif Nat.beq id 903 then b3 else 0)))):=by intro q hq; simp at hq; rcases hq with rfl | rfl | rfl <;> rfl
 generalize (fun id=>(bif Nat.beq id 901 then b1 else (bif Nat.beq id 902 then b2 else (bif Nat.beq id 903 then b3 else 0))))=Z at hS hP
 clear fw gF lO
 replace h1:=h1.m0 hM
 replace h2:=h2.m0 hM
 refine rPe T hS [] [] fun a hS=>?_
 refine bj ?_
 refine oPe T hS 2 [0,1] [(5,Sl a1 s_ c1),(6,.f (.func 75) [] [.p 901 0,.p 902 0,.p 903 0])] fun a hS=>?_
 refine op1 (l5 hS kr kr hb93 kr (xa _ _ s_ am av aN a1 c1 a2 c2 (Z 901) 901 (Z 902) 902 (Z 903) 903 h1 h2 (hS.cell (id:=901) (t:=3) (cs:=[I am]) kr) (hS.cell (id:=902) (t:=3) (cs:=[I av]) kr) (hS.cell (id:=903) (t:=43) (cs:=[Sl a2 aN c2]) kr) ⟨by decide,by decide⟩) ?_)
 intro v101 a eZ fa hE hp hS
 replace hO:=hO.m2 hE
 replace h1:=h1.m1 hE
 replace h2:=h2.m1 hE
 obtain ⟨hp,vj,vi,qR⟩:=hp
 obtain ⟨ap,hr⟩:∃ r,bm s_ am av aN=r:=⟨_,rfl⟩
 replace hm:=hm ap hr
 rw [hr] at hp
 clear hr
 subst hp
 replace hS:=hS.cD (id:=901) (t:=3) (cs:=[I am]) kr vj
 replace hS:=hS.cD (id:=902) (t:=3) (cs:=[I av]) kr vi
 replace hS:=hS.cD (id:=903) (t:=43) (cs:=[Sl a2 aN c2]) kr qR
 clear vj vi qR
 refine ePe T hS [5,6,7] [(4,B (decide (ap≥0)))] fun a hS=>?_
 refine aY ?_
 exact gG T hS hO (fun c h=>bW kr h) (fun c h=>bX (l:=(zAe0 i1 i2 i3)) h) (bR (zAe0 i1 i2 i3)) rfl (r:=[.bool (decide (ap≥0))]) kr (fun X' hM hC=>⟨(decide (ap≥0)),hm,rfl,((hS.cell (id:=901) (t:=3) (cs:=[I am]) kr).out (f:=(bR (zAe0 i1 i2 i3))) hC kr kr (hP.at 0 rfl)),((hS.cell (id:=902) (t:=3) (cs:=[I av]) kr).out (f:=(bR (zAe0 i1 i2 i3))) hC kr kr (hP.at 1 rfl)),((hS.cell (id:=903) (t:=43) (cs:=[Sl a2 aN c2]) kr).out (f:=(bR (zAe0 i1 i2 i3))) hC kr kr (hP.at 2 rfl))⟩)
theorem C78_75 (xa:S93_75) (v:∀ (s_:List (Int × Int)) (am:Int) (av:Int) (aN:List Int),VC78_75 s_ am av aN (fun r=>r=bF s_ am av aN)):S78_75:=by
 intro w X s_ am av aN a1 c1 a2 c2  b1 i1 b2 i2 b3 i3 h1 h2 fw gF lO hA
 refine (W78_75 xa w X s_ am av aN a1 c1 a2 c2  b1 i1 b2 i2 b3 i3 _ (v s_ am av aN) h1 h2 fw gF lO hA).mono ?_
 rintro _ _ _ _ ⟨r,rfl,h⟩
 exact h
theorem W74 (Gv:S77) (xd:S78_75) (w0) (X0) (x_:Int) (am:Int) (av:List Int) (aN:List (Int × Int)) (a1) (c1) (a2) (c2) (b1) (i1) (b2) (i2) (b3) (i3) (Q:Bool->Prop) (hm:VC74 x_ am av aN Q) (h1:RS tI w0 X0 a1 av c1) (h2:RS tP2 w0 X0 a2 aN c2) (fw:Cell w0 X0 b1 i1 3 [.int .i64 am]) (gF:Cell w0 X0 b2 i2 43 [.slice a1 av.length c1]) (lO:Cell w0 X0 b3 i3 95 [.slice a2 aN.length c2]) (hA:dW [i1,i2,i3]) :
  Ret Tryz.prog 74 #[.int .i64 x_,.pointer (some ⟨b1,0,none⟩),.pointer (some ⟨b2,0,none⟩),.pointer (some ⟨b3,0,none⟩)] (pR [i1,i2,i3]) w0 X0 (fun w X' v=>∃ r,Q r/\v=.bool r/\Cell w X' b1 i1 3 [.int .i64 am]/\Cell w X' b2 i2 43 [.slice a1 av.length c1]/\Cell w X' b3 i3 95 [.slice a2 aN.length c2]):=by
 unfold VC74 at hm
 replace hm:=hm (h1.sm kr)
 replace hm:=hm (h2.sm kr)
 refine fM Tryz.func74 rfl (dH (zAe0 i1 i2 i3)) (fun id=>(bif Nat.beq id 901 then b1 else (bif Nat.beq id 902 then b2 else (bif Nat.beq id 903 then b3 else 0)))) (args:=[I x_,Pt 901 0,Pt 902 0,Pt 903 0]) (bxs:=[(901,(3,[I am])),(902,(43,[Sl a1 av c1])),(903,(95,[Sl a2 aN c2]))]) kr rfl (bn.cons kr (fw.map (bM 0 hA.1 rfl)) (bn.cons kr (gF.map (bM 1 hA.1 rfl)) (bn.cons kr (lO.map (bM 2 hA.1 rfl)) bn.nil))) (fA (fun q hq=>(hA.2 q.1 (List.mem_map.2 ⟨q,hq,rfl⟩)).1)) ?_
 intro a hS hO hM
 have hP:Pin [(901,b1),(902,b2),(903,b3)] (fun id=>(bif Nat.beq id 901 then b1 else (bif Nat.beq id 902 then b2 else (bif Nat.beq id 903 then b3 else 0)))):=by intro q hq; simp at hq; rcases hq with rfl | rfl | rfl <;> rfl
 generalize (fun id=>(bif Nat.beq id 901 then b1 else (bif Nat.beq id 902 then b2 else (bif Nat.beq id 903 then b3 else 0))))=Z at hS hP
 clear fw gF lO
 replace h1:=h1.m0 hM
 replace h2:=h2.m0 hM
 refine rM T hS ⟨[(1,Pt 901 0),(2,Pt 902 0),(3,Pt 903 0),(4,Pt 5 0)],[(5,(3,[I x_])),(901,(3,[I am])),(902,(43,[Sl a1 av c1])),(903,(95,[Sl a2 aN c2]))]⟩ fun Z a Bc uf hS hE hr=>?_
 replace hO:=hO.m2 hE
 replace h1:=h1.m1 hE
 replace h2:=h2.m1 hE
 replace hP:=hP.mv hr kr
 clear hE hr
 refine rPe T hS [1] [(6,.f (.func 75) [] [.p 901 0,.p 5 0,.p 902 0])] fun a hS=>?_
 refine bj ?_
 refine oPe T hS 2 [2,4] [(8,Sl a1 av c1),(9,I x_)] fun a hS=>?_
 refine op1 (call hS kr kr hb77 kr (fun _ _=>rfl) (Gv _ _ av x_ a1 c1 h1) ?_)
 intro v101 a eZ fa hE hp hS
 replace hO:=hO.m2 hE
 replace h1:=h1.m1 hE
 replace h2:=h2.m1 hE
 obtain ⟨ap,hr⟩:∃ r,cx av x_=r:=⟨_,rfl⟩
 replace hm:=hm ap hr
 rw [hr] at hp
 clear hr
 subst hp
 refine oPe T hS 1 [8,9,10] [(11,B ap)] fun a hS=>?_
 rcases bft ap with hb | hb
 ·replace hS:=hS.lit (t:=11) kr hb
  replace hm:=hm.1 hb
  refine eP T hS ⟨[(5,B true)],[(901,(3,[I am])),(902,(43,[Sl a1 av c1])),(903,(95,[Sl a2 aN c2]))]⟩ fun a hS=>?_
  refine aY ?_
  exact gG T hS hO (fun c h=>bW kr h) (fun c h=>bX (l:=(zAe0 i1 i2 i3)) h) (bR (zAe0 i1 i2 i3)) rfl (r:=[.bool true]) kr (fun X' hM hC=>⟨true,hm,rfl,((hS.cell (id:=901) (t:=3) (cs:=[I am]) kr).out (f:=(bR (zAe0 i1 i2 i3))) hC kr kr (hP.at 0 rfl)),((hS.cell (id:=902) (t:=43) (cs:=[Sl a1 av c1]) kr).out (f:=(bR (zAe0 i1 i2 i3))) hC kr kr (hP.at 1 rfl)),((hS.cell (id:=903) (t:=95) (cs:=[Sl a2 aN c2]) kr).out (f:=(bR (zAe0 i1 i2 i3))) hC kr kr (hP.at 2 rfl))⟩)
 replace hS:=hS.lit (t:=11) kr hb
 replace hm:=hm.2 hb
 refine oPe T hS 2 [3,6] [(12,Sl a2 aN c2),(13,.f (.func 75) [] [.p 901 0,.p 5 0,.p 902 0])] fun a hS=>?_
 refine op1 (l5 hS kr kr hb78 kr (xd _ _ aN am x_ av a2 c2 a1 c1 (Z 901) 901 (Z 5) 5 (Z 902) 902 h2 h1 (hS.cell (id:=901) (t:=3) (cs:=[I am]) kr) (hS.cell (id:=5) (t:=3) (cs:=[I x_]) kr) (hS.cell (id:=902) (t:=43) (cs:=[Sl a1 av c1]) kr) ⟨by decide,by decide⟩) ?_)
 intro v105 a mg mc hE hp hS
 replace hO:=hO.m2 hE
 replace h1:=h1.m1 hE
 replace h2:=h2.m1 hE
 obtain ⟨hp,FH,vh,vg⟩:=hp
 obtain ⟨aV,hr⟩:∃ r,bF aN am x_ av=r:=⟨_,rfl⟩
 replace hm:=hm aV hr
 rw [hr] at hp
 clear hr
 subst hp
 replace hS:=hS.cD (id:=901) (t:=3) (cs:=[I am]) kr FH
 replace hS:=hS.cD (id:=5) (t:=3) (cs:=[I x_]) kr vh
 replace hS:=hS.cD (id:=902) (t:=43) (cs:=[Sl a1 av c1]) kr vg
 clear FH vh vg
 refine eP T hS ⟨[(5,B aV)],[(901,(3,[I am])),(902,(43,[Sl a1 av c1])),(903,(95,[Sl a2 aN c2]))]⟩ fun a hS=>?_
 refine aY ?_
 exact gG T hS hO (fun c h=>bW kr h) (fun c h=>bX (l:=(zAe0 i1 i2 i3)) h) (bR (zAe0 i1 i2 i3)) rfl (r:=[.bool aV]) kr (fun X' hM hC=>⟨aV,hm,rfl,((hS.cell (id:=901) (t:=3) (cs:=[I am]) kr).out (f:=(bR (zAe0 i1 i2 i3))) hC kr kr (hP.at 0 rfl)),((hS.cell (id:=902) (t:=43) (cs:=[Sl a1 av c1]) kr).out (f:=(bR (zAe0 i1 i2 i3))) hC kr kr (hP.at 1 rfl)),((hS.cell (id:=903) (t:=95) (cs:=[Sl a2 aN c2]) kr).out (f:=(bR (zAe0 i1 i2 i3))) hC kr kr (hP.at 2 rfl))⟩)
theorem C74 (Gv:S77) (xd:S78_75) (v:∀ (x_:Int) (am:Int) (av:List Int) (aN:List (Int × Int)),VC74 x_ am av aN (fun r=>r=c6 x_ am av aN)):S74:=by
 intro w X x_ am av aN a1 c1 a2 c2  b1 i1 b2 i2 b3 i3 h1 h2 fw gF lO hA
 refine (W74 Gv xd w X x_ am av aN a1 c1 a2 c2  b1 i1 b2 i2 b3 i3 _ (v x_ am av aN) h1 h2 fw gF lO hA).mono ?_
 rintro _ _ _ _ ⟨r,rfl,h⟩
 exact h
theorem W44 (Lz:S74) (w0) (X0) (n_:Int) (pairs:List (Int × Int)) (a1) (c1) (Q:(List Int) × Bool->Prop) (hm:VC44 n_ pairs Q) (h1:RS tP2 w0 X0 a1 pairs c1) :
  Ret Tryz.prog 44 #[.int .i64 n_,.slice a1 pairs.length c1] aJ w0 X0 (fun w X' v=>∃ r,Q r/\∃ cn cm,v=.tuple #[.slice cn r.1.length cm,.bool r.2]/\RS tI w X' cn r.1 cm):=by
 unfold VC44 at hm
 replace hm:=hm (h1.sm kr)
 refine enter Tryz.func44 rfl (vals:=[.int .i64 n_,.slice a1 pairs.length c1]) kr ?_
 intro Z a hS hO hM
 replace h1:=h1.m0 hM
 refine rM T hS ⟨[(2,Pt 3 0),(3,Pt 4 0)],[(3,(3,[I n_])),(4,(95,[Sl a1 pairs c1]))]⟩ fun Z a F5 Nx hS hE hr=>?_
 replace hO:=hO.m2 hE
 replace h1:=h1.m1 hE
 clear hE hr
 refine bc ?_
 refine rPe T hS [] [(14,B ((decide (n_ < 0)) || (decide (n_ > 64))))] (sp:=[11]) fun a hS=>?_
 refine aG hS (b:=((decide (n_ < 0)) || (decide (n_ > 64)))) kr (fun hb=>?_) fun hb=>?_
 ·replace hm:=hm.1 hb
  refine rP T hS ⟨[(4,V (.slice none 0 0)),(5,B false)],[]⟩ fun a hS=>?_
  refine aY ?_
  exact fin T hS hO (fun c=>c) rfl (r:=[.slice none 0 0,.bool false]) kr (fun X' hM hC=>⟨([],false),hm,none,0,rfl,RS.empty _ _ _⟩)
 replace hm:=hm.2 hb
 refine aH ?_
 refine bj ?_
 refine oPe T hS 1 [14] [(15,I n_)] fun a hS=>?_
 obtain ⟨hq,hm⟩:=hm
 refine op1 (make (E:=3) (kl:=.i64) (kc:=.i64) (col:=1005) (T:=tI) T 0 hS kr kr kr kr kr kr hq.1 hq.2.1 (by have:=hq.2.2; have e_:((tI.bytes:Nat):Int)=8:=rfl; rw [e_]; omega) (by have:=hq.2.2; omega) (fun _ _=>rfl) ?_)
 intro b101 a eZ fa hE h104 hN hS
 clear hq hN
 replace hO:=hO.m2 hE
 replace h1:=h1.m1 hE
 replace hS:=hS.conv (t:=16) (y:=.slice (some ⟨b101,0,none⟩) (List.replicate (0:Int).toNat (0:Int)).length n_.toNat) kr (by rw [List.length_replicate])
 refine eM T hS ⟨[(2,Pt 3 0),(3,Pt 4 0),(6,Pt 7 0)],[(3,(3,[I n_])),(4,(95,[Sl a1 pairs c1])),(7,(43,[V (.slice (some ⟨b101,0,none⟩) (List.replicate (0:Int).toNat (0:Int)).length n_.toNat)]))]⟩ fun Z a DB Hm hS hE hr=>?_
 replace hO:=hO.m2 hE
 replace h1:=h1.m1 hE
 replace h104:=h104.m2 hE
 clear hE hr
 refine rPe T hS [3] [(7,.f (.func 74) [] [.p 3 0,.p 7 0,.p 4 0])] fun a hS=>?_
 refine bT (fun a w=>∃ (Z:Nat->Nat) (X:Nat->Nat) (eY:List Int) (gA:Option Addr) (gy:Nat),VC44_J1 Q eY/\St Tryz.f44.ntmps ⟨[(6,Pt 7 0)],[(7,(43,[Sl gA eY gy]))]⟩ Z a w X/\Old w0 X0 w X/\OS tI 3 w X 1005 gA eY gy) ?_ ?_
 ·refine aL ?_
  obtain ⟨I1,μ1,co,hm⟩:=hm
  refine cl (σ:=(List Int)) (fun s a w=>∃ Z X hG g9,I1 s/\St Tryz.f44.ntmps ⟨[(2,Pt 3 0),(6,Pt 7 0),(7,.f (.func 74) [] [.p 3 0,.p 7 0,.p 4 0])],[(3,(3,[I n_])),(4,(95,[Sl a1 pairs c1])),(7,(43,[Sl hG s g9]))]⟩ Z a w X/\Old w0 X0 w X/\RS tP2 w X a1 pairs c1/\OS tI 3 w X 1005 hG s g9) (fun s=>μ1 s) (List.replicate (0:Int).toNat (0:Int)) ?_ ?_
  ·exact ⟨Z,_,(some ⟨b101,0,none⟩),n_.toNat,co,hS.sl _,hO,h1,h104⟩
  rintro cv a DC ⟨Z,AE,hG,g9,hI,hS,hO,h111,h115⟩
  replace hm:=hm cv hI
  clear hI co
  refine bc ?_
  refine rPe T hS [] [(21,B (decide ((lN cv) < n_)))] fun a hS=>?_
  refine aG hS (b:=decide ((lN cv) < n_)) kr (fun hb=>?_) fun hb=>?_
  ·replace hm:=hm.1 hb
   refine aH ?_
   refine aL ?_
   refine rPe T hS [21] [(8,I 0)] fun a hS=>?_
   refine bT (fun a w=>∃ (Z:Nat->Nat) (X:Nat->Nat) (aU:Int) (dC:List Int) (lT:Option Addr) (lS:Nat),VC44_J2 n_ Q I1 μ1 cv aU dC/\St Tryz.f44.ntmps ⟨[(2,Pt 3 0),(6,Pt 7 0),(7,.f (.func 74) [] [.p 3 0,.p 7 0,.p 4 0]),(8,I aU)],[(3,(3,[I n_])),(4,(95,[Sl a1 pairs c1])),(7,(43,[Sl lT dC lS]))]⟩ Z a w X/\Old w0 X0 w X/\RS tP2 w X a1 pairs c1/\OS tI 3 w X 1005 lT dC lS) ?_ ?_
   ·refine aL ?_
    obtain ⟨I2,μ2,co,hm⟩:=hm
    refine cl (σ:=Int × (List Int)) (fun s a w=>∃ Z X mb ma,I2 s.1 s.2/\St Tryz.f44.ntmps ⟨[(2,Pt 3 0),(6,Pt 7 0),(7,.f (.func 74) [] [.p 3 0,.p 7 0,.p 4 0]),(8,I s.1)],[(3,(3,[I n_])),(4,(95,[Sl a1 pairs c1])),(7,(43,[Sl mb s.2 ma]))]⟩ Z a w X/\Old w0 X0 w X/\RS tP2 w X a1 pairs c1/\OS tI 3 w X 1005 mb s.2 ma) (fun s=>μ2 s.1 s.2) (⟨0,cv⟩) ?_ ?_
    ·exact ⟨Z,_,hG,g9,co,hS.sl _,hO,h111,h115⟩
    rintro ⟨mC,f8⟩ a DD ⟨Z,Ho,mb,ma,hI,hS,hO,h134,h138⟩
    replace hm:=hm mC f8 hI
    clear hI co
    refine bc ?_
    refine bT (fun a w=>∃ (Z:Nat->Nat) (X:Nat->Nat) (jw:Bool) (ji:List Int) (jI:Option Addr) (jF:Nat),VC44_J3 n_ Q I1 μ1 cv I2 μ2 mC f8 jw ji/\St Tryz.f44.ntmps ⟨[(2,Pt 3 0),(6,Pt 7 0),(7,.f (.func 74) [] [.p 3 0,.p 7 0,.p 4 0]),(8,I mC),(29,B jw)],[(3,(3,[I n_])),(4,(95,[Sl a1 pairs c1])),(7,(43,[Sl jI ji jF]))]⟩ Z a w X/\Old w0 X0 w X/\RS tP2 w X a1 pairs c1/\OS tI 3 w X 1005 jI ji jF) ?_ ?_
    ·refine region ?_
     refine oPe T hS 4 [] [(25,B (decide (mC < n_)))] fun a hS=>?_
     rcases bft (decide (mC < n_)) with hb | hb
     ·replace hS:=hS.lit (t:=25) kr hb
      replace hm:=hm.1 hb
      refine oPe T hS 2 [] [(26,.f (.func 74) [] [.p 3 0,.p 7 0,.p 4 0]),(27,I mC)] fun a hS=>?_
      have hb149:=(hS.cell (id:=3) (t:=3) (cs:=[I n_]) kr)
      have hb150:=(hS.cell (id:=7) (t:=43) (cs:=[Sl mb f8 ma]) kr)
      have hb151:=(hS.cell (id:=4) (t:=95) (cs:=[Sl a1 pairs c1]) kr)
      refine op1 (kd (fi:=[]) (cp:=[.p 3 0,.p 7 0,.p 4 0]) hS kr kr hb74 kr kr (Ret.sV kr (Lz _ (eD 1005 _) mC n_ f8 pairs mb ma a1 c1 (Z 3) 3 (Z 7) 7 (Z 4) 4 h138.eD (h134.m0 (M0.eD 1005)) (hb149.eD kr) (hb150.eD kr) (hb151.eD kr) ⟨by decide,by decide⟩)) ?_)
      intro v145 a zl Hp hE hp hS
      replace hO:=hO.m2 hE
      replace h134:=h134.m1 hE
      replace h138:=h138.m2 hE
      obtain ⟨l0,_,hp⟩:=hp
      obtain ⟨hp,yL,yK,yJ⟩:=hp
      replace yL:=yL.back hb149 l0
      replace yK:=yK.back hb150 l0
      replace yJ:=yJ.back hb151 l0
      clear l0 hb149 hb150 hb151
      obtain ⟨zK,hr⟩:∃ r,c6 mC n_ f8 pairs=r:=⟨_,rfl⟩
      replace hm:=hm zK hr
      rw [hr] at hp
      clear hr
      subst hp
      replace hS:=hS.cD (id:=3) (t:=3) (cs:=[I n_]) kr yL
      replace hS:=hS.cD (id:=7) (t:=43) (cs:=[Sl mb f8 ma]) kr yK
      replace hS:=hS.cD (id:=4) (t:=95) (cs:=[Sl a1 pairs c1]) kr yJ
      clear yL yK yJ
      refine ePe T hS [25,26,27,28] [(29,B zK)] fun a hS=>?_
      exact ⟨Z,_,zK,f8,mb,ma,hm,hS.sl _,hO,h134,h138⟩
     replace hS:=hS.lit (t:=25) kr hb
     replace hm:=hm.2 hb
     refine ePe T hS [25] [(29,B false)] fun a hS=>?_
     exact ⟨Z,_,false,f8,mb,ma,hm,hS.sl _,hO,h134,h138⟩
    rintro a H7 ⟨Z,t9,jw,ji,jI,jF,hm,hS,hO,h140,h144⟩
    unfold VC44_J3 at hm
    refine aG hS (b:=jw) kr (fun hb=>?_) fun hb=>?_
    ·replace hm:=hm.1 hb
     refine aH ?_
     refine aL ?_
     refine region (ePe T hS [29] [(8,I (wR (mC+1)))] fun a hS=>?_)
     exact ⟨⟨wR (mC+1),ji⟩,⟨Z,_,jI,jF,hm.1,hS.sl _,hO,h140,h144⟩,hm.2⟩
    replace hm:=hm.2 hb
    refine cb (by rfl) ?_
    exact ⟨Z,_,mC,ji,jI,jF,hm,hS.sl _,hO,h140,h144⟩
   rintro a zi ⟨Z,Hn,aU,dC,lT,lS,hm,hS,hO,h117,h121⟩
   unfold VC44_J2 at hm
   refine bc ?_
   refine rPe T hS [] [(34,B (aU == n_))] fun a hS=>?_
   refine aG hS (b:=(aU == n_)) kr (fun hb=>?_) fun hb=>?_
   ·replace hm:=hm.1 hb
    refine rP T hS ⟨[(4,V (.slice none 0 0)),(5,B false)],[]⟩ fun a hS=>?_
    refine aY ?_
    exact fin T hS hO (fun c=>c) rfl (r:=[.slice none 0 0,.bool false]) kr (fun X' hM hC=>⟨([],false),hm,none,0,rfl,RS.empty _ _ _⟩)
   replace hm:=hm.2 hb
   refine aH ?_
   refine region ?_
   refine oPe T hS 2 [8,34] [(35,Sl lT dC lS),(36,I aU)] fun a hS=>?_
   refine op1 (lit (E:=3) (col:=0) (T:=tI) (vals:=[.int .i64 aU]) (ys:=[aU]) T hS kr kr kr kr (by exact ⟨rfl,trivial⟩) rfl kr kr kr kr ?_)
   intro b122 a DJ wb hE h125 hN hS
   clear hN
   replace hO:=hO.m2 hE
   replace h117:=h117.m1 hE
   replace h121:=h121.m2 hE
   replace h125:=h125.rs0
   obtain ⟨hq,hm⟩:=hm
   obtain ⟨news,hN⟩:=h125.src
   refine op1 (append (E:=3) (T:=tI) (col:=1005) (xs:=dC) T hS kr kr kr kr h121 hN kr kr kr kr hq ?_)
   intro ko kg a rx oZ hE h128 hS
   clear hq hN
   clear h121
   replace hO:=hO.m2 hE
   replace h117:=h117.m1 hE
   replace h125:=h125.m1 hE
   refine eM T hS ⟨[(2,Pt 3 0),(6,Pt 7 0),(7,.f (.func 74) [] [.p 3 0,.p 7 0,.p 4 0])],[(3,(3,[I n_])),(4,(95,[Sl a1 pairs c1])),(7,(43,[Sl ko (dC++[aU]) kg]))]⟩ fun Z a p4 pH hS hE hr=>?_
   replace hO:=hO.m2 hE
   replace h117:=h117.m1 hE
   replace h128:=h128.m2 hE
   clear hE hr
   exact ⟨dC++[aU],⟨Z,_,ko,kg,hm.1,hS.sl _,hO,h117,h128⟩,hm.2⟩
  replace hm:=hm.2 hb
  refine cb (by rfl) ?_
  exact ⟨Z,_,cv,hG,g9,hm,hS.sl _,hO,h115⟩
 rintro a F6 ⟨Z,ES,eY,gA,gy,hm,hS,hO,h108⟩
 unfold VC44_J1 at hm
 refine rP T hS ⟨[(4,Sl gA eY gy),(5,B true)],[]⟩ fun a hS=>?_
 refine aY ?_
 obtain ⟨xG,hE,hF⟩:=h108.freeze (by decide)
 replace hS:=hS.ev hE (cr kr)
 replace hO:=hO.m2 hE
 have h110:=hF; clear hE hF
 exact fin T hS hO (fun c=>c) rfl (r:=[.slice gA eY.length gy,.bool true]) kr (fun X' hM hC=>⟨(eY,true),hm,gA,gy,rfl,h110.m0 hM⟩)
theorem C44 (Lz:S74) (v:∀ (n_:Int) (pairs:List (Int × Int)),VC44 n_ pairs (fun r=>r=dc n_ pairs)):S44:=by
 intro w X n_ pairs a1 c1   h1
 refine (W44 Lz w X n_ pairs a1 c1   _ (v n_ pairs) h1).mono ?_
 rintro _ _ _ _ ⟨r,rfl,h⟩
 exact h
theorem W47 (w0) (X0) (h_:ak) (a1) (c1) (a2) (c2) (Q:(List au)->Prop) (hm:VC47 h_ Q) (h1:RS aA w0 X0 a1 h_.ah c1) (h2:RS aP w0 X0 a2 h_.al c2) :
  Ret Tryz.prog 47 #[.agg #[.slice a1 h_.ah.length c1,.slice a2 h_.al.length c2]] aJ w0 X0 (fun w X' v=>∃ r,Q r/\∃ cn cm,v=.slice cn r.length cm/\RS aM w X' cn r cm):=by
 unfold VC47 at hm
 replace hm:=hm (h1.sm kr)
 replace hm:=hm (h2.sm kr)
 refine enter Tryz.func47 rfl (vals:=[.agg #[.slice a1 h_.ah.length c1,.slice a2 h_.al.length c2]]) kr ?_
 intro Z a hS hO hM
 replace h1:=h1.m0 hM
 replace h2:=h2.m0 hM
 refine rM T hS ⟨[(1,Pt 2 0)],[(2,(25,[Sl a1 h_.ah c1,Sl a2 h_.al c2]))]⟩ fun Z a p4 pH hS hE hr=>?_
 replace hO:=hO.m2 hE
 replace h1:=h1.m1 hE
 replace h2:=h2.m1 hE
 clear hE hr
 refine rPe T hS [] [(3,V (.slice none 0 0))] fun a hS=>?_
 refine bT (fun a w=>∃ (Z:Nat->Nat) (X:Nat->Nat) (bD:List au) (dq:Option Addr) (dl:Nat),VC47_J1 Q bD/\St Tryz.f47.ntmps ⟨[(3,Sl dq bD dl)],[]⟩ Z a w X/\Old w0 X0 w X/\OS aM 61 w X 1003 dq bD dl) ?_ ?_
 ·refine rP T hS ⟨[(3,V (.slice none 0 0)),(7,Sl a2 h_.al c2),(8,I (lN h_.al)),(9,I 0)],[]⟩ fun a hS=>?_
  refine aL ?_
  obtain ⟨I1,μ1,co,hm⟩:=hm
  refine cl (σ:=(List au) × Int) (fun s a w=>∃ Z X iK iJ,I1 s.1 s.2/\St Tryz.f47.ntmps ⟨[(3,Sl iK s.1 iJ),(7,Sl a2 h_.al c2),(8,I (lN h_.al)),(9,I s.2)],[]⟩ Z a w X/\Old w0 X0 w X/\OS aM 61 w X 1003 iK s.1 iJ/\RS aP w X a2 h_.al c2) (fun s=>μ1 s.1 s.2) (⟨[],0⟩) ?_ ?_
  ·exact ⟨Z,_,none,0,co,hS.sl _,hO,(OS.nil _ _ _ _ _),h2⟩
  rintro ⟨d3,cv⟩ a ru ⟨Z,oZ,iK,iJ,hI,hS,hO,h110,h111⟩
  replace hm:=hm d3 cv hI
  clear hI co
  refine rPe T hS [] [(10,B (decide (cv < (lN h_.al))))] fun a hS=>?_
  refine bc ?_
  refine aG hS (b:=decide (cv < (lN h_.al))) kr (fun hb=>?_) fun hb=>?_
  ·replace hm:=hm.1 hb
   refine aH (bc ?_)
   refine aL ?_
   refine bj ?_
   obtain ⟨hq,hm⟩:=hm
   refine op1 (index (e:=63) (k:=.i64) T hS kr kr kr kr h111 kr kr hq.1 hq.2 ?_)
   intro HB a h114 hS
   refine op1 (eC T hS kr kr kr h114 kr kr ?_)
   intro v115 a hv hS
   subst hv
   refine eM T hS ⟨[(3,Sl iK d3 iJ),(5,Pt 6 0),(7,Sl a2 h_.al c2),(8,I (lN h_.al)),(9,I cv)],[(6,(63,[I ((gi h_.al cv).ax),I (((gi h_.al cv).aI).bh),I (((gi h_.al cv).aI).aj),I (((gi h_.al cv).aI).N)]))]⟩ fun Z a zp xF hS hE hr=>?_
   replace hO:=hO.m2 hE
   replace h110:=h110.m2 hE
   replace h111:=h111.m1 hE
   clear hE hr
   refine region ?_
   refine oP T hS 3 ⟨[(3,Sl iK d3 iJ),(7,Sl a2 h_.al c2),(8,I (lN h_.al)),(9,I cv),(13,Sl iK d3 iJ),(15,V (.agg #[.int .i64 (((gi h_.al cv).aI).bh),.int .i64 (((gi h_.al cv).aI).aj),.int .i64 (((gi h_.al cv).aI).N)]))],[]⟩ fun a hS=>?_
   refine op1 (lit (E:=61) (col:=0) (T:=aM) (vals:=[.agg #[.int .i64 (((gi h_.al cv).aI).bh),.int .i64 (((gi h_.al cv).aI).aj),.int .i64 (((gi h_.al cv).aI).N)]]) (ys:=[((gi h_.al cv).aI)]) T hS kr kr kr kr (by exact ⟨rfl,trivial⟩) rfl kr kr kr kr ?_)
   intro b116 a zq Dh hE h119 hN hS
   clear hN
   replace hO:=hO.m2 hE
   replace h110:=h110.m2 hE
   replace h111:=h111.m1 hE
   replace h119:=h119.rs0
   obtain ⟨hq,hm⟩:=hm
   obtain ⟨news,hN⟩:=h119.src
   refine op1 (append (E:=61) (T:=aM) (col:=1003) (xs:=d3) T hS kr kr kr kr h110 hN kr kr kr kr hq ?_)
   intro oY oW a Ga Hr hE h122 hS
   clear hq hN
   clear h110
   replace hO:=hO.m2 hE
   replace h111:=h111.m1 hE
   replace h119:=h119.m1 hE
   refine ePe T hS [15,16,17] [(3,Sl oY (d3++[((gi h_.al cv).aI)]) oW)] fun a hS=>?_
   refine region (ePe T hS [] [(9,I (wR (cv+1)))] fun a hS=>?_)
   exact ⟨⟨d3++[((gi h_.al cv).aI)],wR (cv+1)⟩,⟨Z,_,oY,oW,hm.1,hS.sl _,hO,h122,h111⟩,hm.2⟩
  replace hm:=hm.2 hb
  refine cb (by rfl) ?_
  exact ⟨Z,_,d3,iK,iJ,hm,hS.sl _,hO,h110⟩
 rintro a ws ⟨Z,rI,bD,dq,dl,hm,hS,hO,h104⟩
 unfold VC47_J1 at hm
 refine rPe T hS [3] [(2,Sl dq bD dl)] fun a hS=>?_
 refine aY ?_
 obtain ⟨o1,hE,hF⟩:=h104.freeze (by decide)
 replace hS:=hS.ev hE (cr kr)
 replace hO:=hO.m2 hE
 have h106:=hF; clear hE hF
 exact fin T hS hO (fun c=>c) rfl (r:=[.slice dq bD.length dl]) kr (fun X' hM hC=>⟨bD,hm,dq,dl,rfl,h106.m0 hM⟩)
theorem C47 (v:∀ (h_:ak),lh h_->VC47 h_ (fun r=>r=bl h_)):S47:=by
 intro w X h_ a1 c1 a2 c2   hp h1 h2
 refine (W47 w X h_ a1 c1 a2 c2   _ (v h_ hp) h1 h2).mono ?_
 rintro _ _ _ _ ⟨r,rfl,h⟩
 exact h
theorem W52 (tH:S53) (w0) (X0) (o_:ae) (a1) (c1) (Q:Bool->Prop) (hm:VC52 o_ Q) (h1:RS ay w0 X0 a1 o_.Rows c1) :
  Ret Tryz.prog 52 #[.agg #[.int .i64 o_.ar,.int .i64 o_.aw,.int .i64 o_.aC,.slice a1 o_.Rows.length c1]] aJ w0 X0 (fun w X' v=>∃ r,Q r/\v=.bool r):=by
 unfold VC52 at hm
 replace hm:=hm (h1.sm kr)
 refine enter Tryz.func52 rfl (vals:=[.agg #[.int .i64 o_.ar,.int .i64 o_.aw,.int .i64 o_.aC,.slice a1 o_.Rows.length c1]]) kr ?_
 intro Z a hS hO hM
 replace h1:=h1.m0 hM
 refine rM T hS ⟨[(1,Pt 2 0)],[(2,(48,(cO o_ a1 c1)))]⟩ fun Z a nG ms hS hE hr=>?_
 replace hO:=hO.m2 hE
 replace h1:=h1.m1 hE
 clear hE hr
 refine bj ?_
 refine oP T hS 1 ⟨[(6,V (.agg #[.int .i64 o_.ar,.int .i64 o_.aw,.int .i64 o_.aC,.slice a1 o_.Rows.length c1]))],[]⟩ fun a hS=>?_
 obtain ⟨hq,hm⟩:=hm
 refine op1 (call hS kr kr hb53 kr (fun _ _=>rfl) (tH _ _ o_ a1 c1 hq h1) ?_)
 intro v101 a eZ fa hE hp hS
 replace hO:=hO.m2 hE
 replace h1:=h1.m1 hE
 obtain ⟨ap,hr⟩:∃ r,bp o_=r:=⟨_,rfl⟩
 replace hm:=hm ap hr
 rw [hr] at hp
 clear hr
 subst hp
 refine ePe T hS [6,7] [(4,I ap.2)] fun a hS=>?_
 refine rPe T hS [4] [(2,B (ap.2 != 0))] fun a hS=>?_
 refine aY ?_
 exact fin T hS hO (fun c=>c) rfl (r:=[.bool (ap.2 != 0)]) kr (fun X' hM hC=>⟨(ap.2 != 0),hm,rfl⟩)
theorem C52 (tH:S53) (v:∀ (o_:ae),kx o_->VC52 o_ (fun r=>r=cM o_)):S52:=by
 intro w X o_ a1 c1   hp h1
 refine (W52 tH w X o_ a1 c1   _ (v o_ hp) h1).mono ?_
 rintro _ _ _ _ ⟨r,rfl,h⟩
 exact h
theorem W83_52 (LN:S52) (w0) (X0) (s_:List ae) (a1) (c1) (Q:Int->Prop) (hm:VC83_52 s_ Q) (h1:RS aA w0 X0 a1 s_ c1) (hA:dW []) :
  Ret Tryz.prog 83 #[.slice a1 s_.length c1,.func (.func 52) #[] #[]] (pR []) w0 X0 (fun w X' v=>∃ r,Q r/\v=.int .i64 r):=by
 unfold VC83_52 at hm
 replace hm:=hm (h1.sm kr)
 refine fM Tryz.func83 rfl (dH []) (fun id=>0) (args:=[Sl a1 s_ c1,.f (.func 52) [] []]) (bxs:=[]) kr rfl bn.nil (fA (fun q hq=>(hA.2 q.1 (List.mem_map.2 ⟨q,hq,rfl⟩)).1)) ?_
 intro a hS hO hM
 generalize (fun id:Nat=>0)=Z at hS
 replace h1:=h1.m0 hM
 refine rPe T hS [] [] fun a hS=>?_
 refine bT (fun a w=>∃ Z X,VC83_52_J1 Q/\St Tryz.f83.ntmps ⟨[],[]⟩ Z a w X/\gf (dH []) w0 X0 w X) ?_ ?_
 ·refine rPe T hS [] [(7,I (lN s_)),(8,I 0)] fun a hS=>?_
  refine aL ?_
  obtain ⟨I1,μ1,co,hm⟩:=hm
  refine cl (σ:=Int) (fun s a w=>∃ Z X,I1 s/\St Tryz.f83.ntmps ⟨[(0,Sl a1 s_ c1),(1,.f (.func 52) [] []),(7,I (lN s_)),(8,I s)],[]⟩ Z a w X/\gf (dH []) w0 X0 w X/\RS aA w X a1 s_ c1) (fun s=>μ1 s) (0) ?_ ?_
  ·exact ⟨Z,_,co,hS.sl _,hO,h1⟩
  rintro bu a Ia ⟨Z,uf,hI,hS,hO,h101⟩
  replace hm:=hm bu hI
  clear hI co
  refine rPe T hS [] [(9,B (decide (bu < (lN s_))))] fun a hS=>?_
  refine bc ?_
  refine aG hS (b:=decide (bu < (lN s_))) kr (fun hb=>?_) fun hb=>?_
  ·replace hm:=hm.1 hb
   refine aH (bc ?_)
   refine aL ?_
   refine rPe T hS [9] [(5,I bu)] fun a hS=>?_
   refine bj ?_
   refine oPe T hS 3 [] [(11,.f (.func 52) [] []),(12,Sl a1 s_ c1),(13,I bu)] fun a hS=>?_
   obtain ⟨hq,hm⟩:=hm
   refine op1 (index (e:=48) (k:=.i64) T hS kr kr kr kr h101 kr kr hq.1 hq.2 ?_)
   intro ui a h104 hS
   refine op1 (eC T hS kr kr kr h104 kr kr ?_)
   intro v105 a hv hS
   obtain ⟨gA,gy,hv,h108⟩:=hv
   subst hv
   replace hm:=hm (h108.sm kr)
   obtain ⟨hq,hm⟩:=hm
   refine op1 (FX (fi:=[]) (cp:=[]) hS kr kr hb52 kr kr (fun _ _=>rfl) (LN _ _ (gi s_ bu) gA gy hq h108) ?_)
   intro v109 a DL EX hE hp hS
   replace hO:=hO.m2 hE
   replace h101:=h101.m1 hE
   replace h104:=h104.m1 hE
   replace h108:=h108.m1 hE
   obtain ⟨bv,hr⟩:∃ r,cM (gi s_ bu)=r:=⟨_,rfl⟩
   replace hm:=hm bv hr
   rw [hr] at hp
   clear hr
   subst hp
   refine gX ?_
   refine aG hS (b:=bv) kr (fun hb=>?_) fun hb=>?_
   ·replace hm:=hm.1 hb
    refine rPe T hS [0,1,5,7,8,16] [(4,I bu)] fun a hS=>?_
    refine aY ?_
    exact gG T hS hO (fun c h=>bW kr h) (fun c h=>bX (l:=[]) h) (bR []) rfl (r:=[.int .i64 bu]) kr (fun X' hM hC=>⟨bu,hm,rfl⟩)
   replace hm:=hm.2 hb
   refine aH ?_
   refine region (ePe T hS [5,16] [(8,I (wR (bu+1)))] fun a hS=>?_)
   exact ⟨wR (bu+1),⟨Z,_,hm.1,hS.sl _,hO,h101⟩,hm.2⟩
  replace hm:=hm.2 hb
  refine cb (by rfl) ?_
  exact ⟨Z,_,hm,hS.sl _,hO⟩
 rintro a wt ⟨Z,Hs,hm,hS,hO⟩
 unfold VC83_52_J1 at hm
 refine rPe T hS [] [(4,I (-1))] fun a hS=>?_
 refine aY ?_
 exact gG T hS hO (fun c h=>bW kr h) (fun c h=>bX (l:=[]) h) (bR []) rfl (r:=[.int .i64 (-1)]) kr (fun X' hM hC=>⟨(-1),hm,rfl⟩)
theorem C83_52 (LN:S52) (v:∀ (s_:List ae),lj s_->VC83_52 s_ (fun r=>r=bb s_)):S83_52:=by
 intro w X s_ a1 c1   hp h1 hA
 refine (W83_52 LN w X s_ a1 c1   _ (v s_ hp) h1 hA).mono ?_
 rintro _ _ _ _ ⟨r,rfl,h⟩
 exact h
theorem W54_52 (xc:S83_52) (w0) (X0) (s_:List ae) (a1) (c1) (Q:Bool->Prop) (hm:VC54_52 s_ Q) (h1:RS aA w0 X0 a1 s_ c1) (hA:dW []) :
  Ret Tryz.prog 54 #[.slice a1 s_.length c1,.func (.func 52) #[] #[]] (pR []) w0 X0 (fun w X' v=>∃ r,Q r/\v=.bool r):=by
 unfold VC54_52 at hm
 replace hm:=hm (h1.sm kr)
 refine fM Tryz.func54 rfl (dH []) (fun id=>0) (args:=[Sl a1 s_ c1,.f (.func 52) [] []]) (bxs:=[]) kr rfl bn.nil (fA (fun q hq=>(hA.2 q.1 (List.mem_map.2 ⟨q,hq,rfl⟩)).1)) ?_
 intro a hS hO hM
 generalize (fun id:Nat=>0)=Z at hS
 replace h1:=h1.m0 hM
 refine rPe T hS [] [] fun a hS=>?_
 refine bj ?_
 refine oPe T hS 2 [0,1] [(5,Sl a1 s_ c1),(6,.f (.func 52) [] [])] fun a hS=>?_
 obtain ⟨hq,hm⟩:=hm
 refine op1 (l5 hS kr kr hb83 kr (xc _ _ s_ a1 c1 hq h1 ⟨by decide,by decide⟩) ?_)
 intro v101 a eZ fa hE hp hS
 replace hO:=hO.m2 hE
 replace h1:=h1.m1 hE
 obtain ⟨ap,hr⟩:∃ r,bb s_=r:=⟨_,rfl⟩
 replace hm:=hm ap hr
 rw [hr] at hp
 clear hr
 subst hp
 refine ePe T hS [5,6,7] [(4,B (decide (ap≥0)))] fun a hS=>?_
 refine aY ?_
 exact gG T hS hO (fun c h=>bW kr h) (fun c h=>bX (l:=[]) h) (bR []) rfl (r:=[.bool (decide (ap≥0))]) kr (fun X' hM hC=>⟨(decide (ap≥0)),hm,rfl⟩)
theorem C54_52 (xc:S83_52) (v:∀ (s_:List ae),lj s_->VC54_52 s_ (fun r=>r=a8 s_)):S54_52:=by
 intro w X s_ a1 c1   hp h1 hA
 refine (W54_52 xc w X s_ a1 c1   _ (v s_ hp) h1 hA).mono ?_
 rintro _ _ _ _ ⟨r,rfl,h⟩
 exact h
theorem W23 (B2:S47) (xg:S54_52) (Gz:S55) (w0) (X0) (h_:ak) (a1) (c1) (a2) (c2) (Q:Int × Int->Prop) (hm:VC23 h_ Q) (h1:RS aA w0 X0 a1 h_.ah c1) (h2:RS aP w0 X0 a2 h_.al c2) :
  Ret Tryz.prog 23 #[.agg #[.slice a1 h_.ah.length c1,.slice a2 h_.al.length c2]] aJ w0 X0 (fun w X' v=>∃ r,Q r/\v=.tuple #[.int .i64 r.1,.int .i64 r.2]):=by
 unfold VC23 at hm
 replace hm:=hm (h1.sm kr)
 replace hm:=hm (h2.sm kr)
 refine enter Tryz.func23 rfl (vals:=[.agg #[.slice a1 h_.ah.length c1,.slice a2 h_.al.length c2]]) kr ?_
 intro Z a hS hO hM
 replace h1:=h1.m0 hM
 replace h2:=h2.m0 hM
 refine rM T hS ⟨[(1,Pt 2 0)],[(2,(25,[Sl a1 h_.ah c1,Sl a2 h_.al c2]))]⟩ fun Z a H5 Hl hS hE hr=>?_
 replace hO:=hO.m2 hE
 replace h1:=h1.m1 hE
 replace h2:=h2.m1 hE
 clear hE hr
 refine rPe T hS [] [(4,.f (.func 52) [] [])] fun a hS=>?_
 refine bc ?_
 refine bT (fun a w=>∃ (Z:Nat->Nat) (X:Nat->Nat) (bD:Bool),VC23_J1 h_ Q bD/\St Tryz.f23.ntmps ⟨[(1,Pt 2 0),(25,B bD)],[(2,(25,[Sl a1 h_.ah c1,Sl a2 h_.al c2]))]⟩ Z a w X/\Old w0 X0 w X/\RS aA w X a1 h_.ah c1/\RS aP w X a2 h_.al c2) ?_ ?_
 ·refine region ?_
  refine oPe T hS 11 [] [(20,B ((decide ((lN h_.ah) < 1)) || (decide ((lN h_.ah) > 8))))] (sp:=[14]) fun a hS=>?_
  rcases bft ((decide ((lN h_.ah) < 1)) || (decide ((lN h_.ah) > 8))) with hb | hb
  ·replace hS:=hS.lit (t:=20) kr hb
   replace hm:=hm.1 hb
   refine ePe T hS [4,20] [(25,B true)] fun a hS=>?_
   exact ⟨Z,_,true,hm,hS.sl _,hO,h1,h2⟩
  replace hS:=hS.lit (t:=20) kr hb
  replace hm:=hm.2 hb
  refine oPe T hS 3 [4] [(22,Sl a1 h_.ah c1),(23,.f (.func 52) [] [])] fun a hS=>?_
  obtain ⟨hq,hm⟩:=hm
  refine op1 (l5 hS kr kr hb54 kr (xg _ _ h_.ah a1 c1 hq h1 ⟨by decide,by decide⟩) ?_)
  intro v160 a H6 Ny hE hp hS
  replace hO:=hO.m2 hE
  replace h1:=h1.m1 hE
  replace h2:=h2.m1 hE
  obtain ⟨zI,hr⟩:∃ r,a8 h_.ah=r:=⟨_,rfl⟩
  replace hm:=hm zI hr
  rw [hr] at hp
  clear hr
  subst hp
  refine ePe T hS [20,22,23,24] [(25,B zI)] fun a hS=>?_
  exact ⟨Z,_,zI,hm,hS.sl _,hO,h1,h2⟩
 rintro a DB ⟨Z,De,bD,hm,hS,hO,h102,h103⟩
 unfold VC23_J1 at hm
 refine aG hS (b:=bD) kr (fun hb=>?_) fun hb=>?_
 ·replace hm:=hm.1 hb
  refine rP T hS ⟨[(2,I (-1)),(3,I 2)],[]⟩ fun a hS=>?_
  refine aY ?_
  exact fin T hS hO (fun c=>c) rfl (r:=[.int .i64 (-1),.int .i64 2]) kr (fun X' hM hC=>⟨((-1),2),hm,rfl⟩)
 replace hm:=hm.2 hb
 refine aH (bc ?_)
 refine bj ?_
 refine oPe T hS 1 [25] [(27,V (.agg #[.slice a1 h_.ah.length c1,.slice a2 h_.al.length c2]))] fun a hS=>?_
 obtain ⟨hq,hm⟩:=hm
 refine op1 (call hS kr kr hb47 kr (fun _ _=>rfl) (B2 _ _ (⟨h_.ah,h_.al⟩:ak) a1 c1 a2 c2 hq h102 h103) ?_)
 intro v104 a nG ms hE hp hS
 replace hO:=hO.m2 hE
 replace h102:=h102.m1 hE
 replace h103:=h103.m1 hE
 obtain ⟨iK,iJ,hp,h110⟩:=hp
 obtain ⟨wP,hr⟩:∃ r,bl (⟨h_.ah,h_.al⟩:ak)=r:=⟨_,rfl⟩
 replace hm:=hm wP hr
 rw [hr] at hp h110
 clear hr
 subst hp
 replace hm:=hm (h110.sm kr)
 refine op1 (call hS kr kr hb55 kr (fun _ _=>rfl) (Gz _ _ wP iK iJ h110) ?_)
 intro v111 a Bc uf hE hp hS
 replace hO:=hO.m2 hE
 replace h102:=h102.m1 hE
 replace h103:=h103.m1 hE
 replace h110:=h110.m1 hE
 obtain ⟨dy,hr⟩:∃ r,bA wP=r:=⟨_,rfl⟩
 replace hm:=hm dy hr
 rw [hr] at hp
 clear hr
 subst hp
 refine ePe T hS [27,28,29] [(5,I dy.1),(6,I dy.2)] fun a hS=>?_
 refine rPe T hS [] [(33,B (dy.2 != 0))] fun a hS=>?_
 refine aG hS (b:=(dy.2 != 0)) kr (fun hb=>?_) fun hb=>?_
 ·replace hm:=hm.1 hb
  refine rP T hS ⟨[(2,I dy.1),(3,I dy.2)],[]⟩ fun a hS=>?_
  refine aY ?_
  exact fin T hS hO (fun c=>c) rfl (r:=[.int .i64 dy.1,.int .i64 dy.2]) kr (fun X' hM hC=>⟨(dy.1,dy.2),hm,rfl⟩)
 replace hm:=hm.2 hb
 refine aH ?_
 refine bj ?_
 refine op1 (pc kI tI false 1037 hS kr kr ?_)
 intro cZ a wt AM hE h118 hS
 replace hO:=hO.m2 hE
 replace h102:=h102.m1 hE
 replace h103:=h103.m1 hE
 refine ePe T hS [5,6,33,36] [(7,V (.map (some cZ)))] fun a hS=>?_
 refine bT (fun a w=>∃ Z X,VC23_J2 h_ Q/\St Tryz.f23.ntmps ⟨[(1,Pt 2 0)],[(2,(25,[Sl a1 h_.ah c1,Sl a2 h_.al c2]))]⟩ Z a w X/\Old w0 X0 w X/\RS aA w X a1 h_.ah c1/\RS aP w X a2 h_.al c2) ?_ ?_
 ·refine rPe T hS [] [(38,Sl a2 h_.al c2),(39,I (lN h_.al)),(40,I 0)] fun a hS=>?_
  refine aL ?_
  obtain ⟨I1,μ1,co,hm⟩:=hm
  refine cl (σ:=(List (Int × Int)) × Int) (fun s a w=>∃ Z X,I1 s.1 s.2/\St Tryz.f23.ntmps ⟨[(1,Pt 2 0),(7,V (.map (some cZ))),(38,Sl a2 h_.al c2),(39,I (lN h_.al)),(40,I s.2)],[(2,(25,[Sl a1 h_.ah c1,Sl a2 h_.al c2]))]⟩ Z a w X/\Old w0 X0 w X/\OM kI tI false w X 1037 cZ s.1/\RS aP w X a2 h_.al c2/\RS aA w X a1 h_.ah c1/\RS aP w X a2 h_.al c2) (fun s=>μ1 s.1 s.2) (⟨([]:List (Int × Int)),0⟩) ?_ ?_
  ·exact ⟨Z,_,co,hS.sl _,hO,h118,h103,h102,h103⟩
  rintro ⟨il,dY⟩ a sR ⟨Z,AF,hI,hS,hO,h122,h123,h125,h126⟩
  replace hm:=hm il dY hI
  clear hI co
  refine rPe T hS [] [(41,B (decide (dY < (lN h_.al))))] fun a hS=>?_
  refine bc ?_
  refine aG hS (b:=decide (dY < (lN h_.al))) kr (fun hb=>?_) fun hb=>?_
  ·replace hm:=hm.1 hb
   refine aH (bc ?_)
   refine aL ?_
   refine bj ?_
   refine oPe T hS 1 [41] [(42,I dY)] fun a hS=>?_
   obtain ⟨hq,hm⟩:=hm
   refine op1 (index (e:=63) (k:=.i64) T hS kr kr kr kr h123 kr kr hq.1 hq.2 ?_)
   intro Kg a h128 hS
   refine op1 (eC T hS kr kr kr h128 kr kr ?_)
   intro v129 a hv hS
   subst hv
   refine eM T hS ⟨[(1,Pt 2 0),(7,V (.map (some cZ))),(8,I dY),(9,Pt 10 0),(38,Sl a2 h_.al c2),(39,I (lN h_.al)),(40,I dY)],[(2,(25,[Sl a1 h_.ah c1,Sl a2 h_.al c2])),(10,(63,[I ((gi h_.al dY).ax),I (((gi h_.al dY).aI).bh),I (((gi h_.al dY).aI).aj),I (((gi h_.al dY).aI).N)]))]⟩ fun Z a rr t9 hS hE hr=>?_
   replace hO:=hO.m2 hE
   replace h122:=h122.m2 hE
   replace h123:=h123.m1 hE
   replace h125:=h125.m1 hE
   replace h126:=h126.m1 hE
   clear hE hr
   refine bc ?_
   refine aL ?_
   refine rPe T hS [] [(45,B ((decide (((gi h_.al dY).ax) < 0)) || (decide (((gi h_.al dY).ax)≥(lN h_.ah)))))] (sp:=[49]) fun a hS=>?_
   refine aG hS (b:=((decide (((gi h_.al dY).ax) < 0)) || (decide (((gi h_.al dY).ax)≥(lN h_.ah))))) kr (fun hb=>?_) fun hb=>?_
   ·replace hm:=hm.1 hb
    refine rP T hS ⟨[(2,I dY),(3,I 2)],[]⟩ fun a hS=>?_
    refine aY ?_
    exact fin T hS hO (fun c=>c) rfl (r:=[.int .i64 dY,.int .i64 2]) kr (fun X' hM hC=>⟨(dY,2),hm,rfl⟩)
   replace hm:=hm.2 hb
   refine bT (fun a w=>∃ (Z:Nat->Nat) (X:Nat->Nat) (ge:Bool),VC23_J3 h_ Q I1 μ1 il dY ge/\St Tryz.f23.ntmps ⟨[(1,Pt 2 0),(7,V (.map (some cZ))),(8,I dY),(9,Pt 10 0),(38,Sl a2 h_.al c2),(39,I (lN h_.al)),(40,I dY),(58,B ge)],[(2,(25,[Sl a1 h_.ah c1,Sl a2 h_.al c2])),(10,(63,[I ((gi h_.al dY).ax),I (((gi h_.al dY).aI).bh),I (((gi h_.al dY).aI).aj),I (((gi h_.al dY).aI).N)]))]⟩ Z a w X/\Old w0 X0 w X/\OM kI tI false w X 1037 cZ il/\RS aP w X a2 h_.al c2/\RS aA w X a1 h_.ah c1/\RS aP w X a2 h_.al c2) ?_ ?_
   ·refine region ?_
    refine oPe T hS 5 [45] [(63,B ((((gi h_.al dY).aI).bh) == 2))] fun a hS=>?_
    rcases bft ((((gi h_.al dY).aI).bh) == 2) with hb | hb
    ·replace hS:=hS.lit (t:=63) kr hb
     replace hm:=hm.1 hb
     refine oPe T hS 4 [] [(64,V (.map (some cZ))),(67,I (((gi h_.al dY).aI).aj))] fun a hS=>?_
     refine op1 (j6 kI tI false (zv:=.int .i64 0) (z:=0) (((gi h_.al dY).aI).aj) hS kr kr kr kr Tryz.underlying113 Tryz.underlying3 kr rfl h122 ?_)
     intro v151 a hv hS
     replace hv:tI.R _ _ [v151] _:=hv
     cases hv
     refine ePe T hS [63,64,67,68] [(58,B (((aF il (((gi h_.al dY).aI).aj)).getD 0) != ((gi h_.al dY).ax)))] fun a hS=>?_
     exact ⟨Z,_,(((aF il (((gi h_.al dY).aI).aj)).getD 0) != ((gi h_.al dY).ax)),hm,hS.sl _,hO,h122,h123,h125,h126⟩
    replace hS:=hS.lit (t:=63) kr hb
    replace hm:=hm.2 hb
    refine ePe T hS [63] [(58,B false)] fun a hS=>?_
    exact ⟨Z,_,false,hm,hS.sl _,hO,h122,h123,h125,h126⟩
   rintro a zj ⟨Z,wa,ge,hm,hS,hO,h130,h131,h133,h134⟩
   unfold VC23_J3 at hm
   refine aG hS (b:=ge) kr (fun hb=>?_) fun hb=>?_
   ·replace hm:=hm.1 hb
    refine rP T hS ⟨[(2,I dY),(3,I 32)],[]⟩ fun a hS=>?_
    refine aY ?_
    exact fin T hS hO (fun c=>c) rfl (r:=[.int .i64 dY,.int .i64 32]) kr (fun X' hM hC=>⟨(dY,32),hm,rfl⟩)
   replace hm:=hm.2 hb
   refine bT (fun a w=>∃ (Z:Nat->Nat) (X:Nat->Nat) (Dz:Bool),VC23_J4 h_ Q I1 μ1 il dY Dz/\St Tryz.f23.ntmps ⟨[(1,Pt 2 0),(7,V (.map (some cZ))),(8,I dY),(9,Pt 10 0),(38,Sl a2 h_.al c2),(39,I (lN h_.al)),(40,I dY),(74,B Dz)],[(2,(25,[Sl a1 h_.ah c1,Sl a2 h_.al c2])),(10,(63,[I ((gi h_.al dY).ax),I (((gi h_.al dY).aI).bh),I (((gi h_.al dY).aI).aj),I (((gi h_.al dY).aI).N)]))]⟩ Z a w X/\Old w0 X0 w X/\OM kI tI false w X 1037 cZ il/\RS aP w X a2 h_.al c2/\RS aA w X a1 h_.ah c1/\RS aP w X a2 h_.al c2) ?_ ?_
   ·refine gI [2,10] mixed hS ?_
    intro pm rk hS hE hD hH
    replace hO:=hO.m2 hE
    replace h130:=h130.m2 hE
    replace h131:=h131.m1 hE
    replace h133:=h133.m1 hE
    replace h134:=h134.m1 hE
    refine tke T [0,1,2,3,4] [2,10] hS hH #[true,true,true,true,true,false,false,false,false,false,false,false,false,false,false,false,false,false] 13 [] [(79,B ((((gi h_.al dY).aI).bh) == 1))] fun a hS=>?_
    rcases bft ((((gi h_.al dY).aI).bh) == 1) with hb | hb
    ·replace hS:=hS.lit (t:=79) kr hb
     replace hm:=hm.1 hb
     refine tke T [5,8,10,6,9,11,7] [2,10] hS hH #[true,true,true,true,true,true,true,true,true,true,true,true,false,false,false,false,false,false] 6 [] [(82,I (((gi h_.al dY).aI).N)),(84,Sl a1 h_.ah c1),(86,I ((gi h_.al dY).ax))] fun a hS=>?_
     obtain ⟨hq,hm⟩:=hm
     refine c7 (e:=48) (k:=.i64) T 12 hS kr kr kr (by rfl) kr hH kr kr h133 kr kr hq.1 hq.2 ?_
     intro R0 a h145 hS
     have Jb:=h145.here
     refine dw (off:=1) (fsz:=1) (ft:=3) (TF:=tI) (y:=(gi h_.ah ((gi h_.al dY).ax)).aw) 13 T hS kr kr kr (by rfl) kr hH kr h145 kr kr kr (fun cs h=>m6 h) ?_
     intro RZ a h147 fP hS
     have FO:=Jb
     rw [← fP] at FO
     clear fP
     refine dV T 14 hS kr kr kr (by rfl) kr hH kr h147 FO rfl kr ?_
     intro v148 a hv hS
     cases hv
     refine tke T [15,16,17] [2,10] hS hH (tts 18) 0 [79,82,84,86,87,88,89] [(74,B (decide ((((gi h_.al dY).aI).N)≥((gi h_.ah ((gi h_.al dY).ax)).aw))))] fun a hS=>?_
     refine aS kr ?_
     replace hS:=hS.sle [] []
     exact ⟨Z,_,decide ((((gi h_.al dY).aI).N)≥((gi h_.ah ((gi h_.al dY).ax)).aw)),hm,hS.sl _,hO,h130,h131,h133,h134⟩
    replace hS:=hS.lit (t:=79) kr hb
    replace hm:=hm.2 hb
    refine tke T [5,8,10,6,9,11,7,12,13,14,15,16,17] [2,10] hS hH (tts 18) 0 [79] [(74,B false)] fun a hS=>?_
    refine aS kr ?_
    replace hS:=hS.sle [] []
    exact ⟨Z,_,false,hm,hS.sl _,hO,h130,h131,h133,h134⟩
   rintro a DG ⟨Z,xC,Dz,hm,hS,hO,h135,h136,h138,h139⟩
   unfold VC23_J4 at hm
   refine aG hS (b:=Dz) kr (fun hb=>?_) fun hb=>?_
   ·replace hm:=hm.1 hb
    refine rP T hS ⟨[(2,I dY),(3,I 31)],[]⟩ fun a hS=>?_
    refine aY ?_
    exact fin T hS hO (fun c=>c) rfl (r:=[.int .i64 dY,.int .i64 31]) kr (fun X' hM hC=>⟨(dY,31),hm,rfl⟩)
   replace hm:=hm.2 hb
   refine aH ?_
   refine region ?_
   refine oP T hS 6 ⟨[(1,Pt 2 0),(7,V (.map (some cZ))),(38,Sl a2 h_.al c2),(39,I (lN h_.al)),(40,I dY),(93,V (.map (some cZ))),(96,I (((gi h_.al dY).aI).aj)),(98,I ((gi h_.al dY).ax))],[(2,(25,[Sl a1 h_.ah c1,Sl a2 h_.al c2]))]⟩ fun a hS=>?_
   refine op1 (tD kI tI false (v:=I ((gi h_.al dY).ax)) (u:=(gi h_.al dY).ax) (((gi h_.al dY).aI).aj) hS kr kr kr kr Tryz.underlying113 Tryz.underlying3 kr h135 rfl ?_)
   intro a ul hE h141 hS
   clear h135
   replace hO:=hO.m2 hE
   replace h136:=h136.m1 hE
   replace h138:=h138.m1 hE
   replace h139:=h139.m1 hE
   refine gX ?_
   refine region (ePe T hS [] [(40,I (wR (dY+1)))] fun a hS=>?_)
   exact ⟨⟨dk il (((gi h_.al dY).aI).aj) ((gi h_.al dY).ax),wR (dY+1)⟩,⟨Z,_,hm.1,hS.sl _,hO,h141,h136,h138,h139⟩,hm.2⟩
  replace hm:=hm.2 hb
  refine cb (by rfl) ?_
  exact ⟨Z,_,hm,hS.sl _,hO,h125,h126⟩
 rintro a wo ⟨Z,t8,hm,hS,hO,h119,h120⟩
 unfold VC23_J2 at hm
 refine rP T hS ⟨[(2,I (lN h_.al)),(3,I 0)],[]⟩ fun a hS=>?_
 refine aY ?_
 exact fin T hS hO (fun c=>c) rfl (r:=[.int .i64 (lN h_.al),.int .i64 0]) kr (fun X' hM hC=>⟨((lN h_.al),0),hm,rfl⟩)
theorem C23 (B2:S47) (xg:S54_52) (Gz:S55) (v:∀ (h_:ak),gg h_->VC23 h_ (fun r=>r=aB h_)):S23:=by
 intro w X h_ a1 c1 a2 c2   hp h1 h2
 refine (W23 B2 xg Gz w X h_ a1 c1 a2 c2   _ (v h_ hp) h1 h2).mono ?_
 rintro _ _ _ _ ⟨r,rfl,h⟩
 exact h
theorem W45 (w0) (X0) (l_:List az) (a1) (c1) (Q:(List au)->Prop) (hm:VC45 l_ Q) (h1:RS br w0 X0 a1 l_ c1) :
  Ret Tryz.prog 45 #[.slice a1 l_.length c1] aJ w0 X0 (fun w X' v=>∃ r,Q r/\∃ cn cm,v=.slice cn r.length cm/\RS aM w X' cn r cm):=by
 unfold VC45 at hm
 replace hm:=hm (h1.sm kr)
 refine enter Tryz.func45 rfl (vals:=[.slice a1 l_.length c1]) kr ?_
 intro Z a hS hO hM
 replace h1:=h1.m0 hM
 refine rPe T hS [] [] fun a hS=>?_
 refine rPe T hS [] [(3,V (.slice none 0 0))] fun a hS=>?_
 refine bT (fun a w=>∃ (Z:Nat->Nat) (X:Nat->Nat) (bD:List au) (dq:Option Addr) (dl:Nat),VC45_J1 Q bD/\St Tryz.f45.ntmps ⟨[(3,Sl dq bD dl)],[]⟩ Z a w X/\Old w0 X0 w X/\OS aM 61 w X 1003 dq bD dl) ?_ ?_
 ·refine rPe T hS [] [(4,I 0)] fun a hS=>?_
  refine aL ?_
  obtain ⟨I1,μ1,co,hm⟩:=hm
  refine cl (σ:=(List au) × Int) (fun s a w=>∃ Z X ci ce,I1 s.1 s.2/\St Tryz.f45.ntmps ⟨[(0,Sl a1 l_ c1),(3,Sl ci s.1 ce),(4,I s.2)],[]⟩ Z a w X/\Old w0 X0 w X/\RS br w X a1 l_ c1/\OS aM 61 w X 1003 ci s.1 ce) (fun s=>μ1 s.1 s.2) (⟨[],0⟩) ?_ ?_
  ·exact ⟨Z,_,none,0,co,hS.sl _,hO,h1,(OS.nil _ _ _ _ _)⟩
  rintro ⟨di,cv⟩ a ru ⟨Z,oZ,ci,ce,hI,hS,hO,h107,h111⟩
  replace hm:=hm di cv hI
  clear hI co
  refine bc ?_
  refine rPe T hS [] [(8,B (decide (cv < (lN l_))))] fun a hS=>?_
  refine aG hS (b:=decide (cv < (lN l_))) kr (fun hb=>?_) fun hb=>?_
  ·replace hm:=hm.1 hb
   refine aH (bc ?_)
   refine aL ?_
   refine region ?_
   refine oPe T hS 3 [8] [(11,Sl ci di ce),(12,Sl a1 l_ c1),(13,I cv)] fun a hS=>?_
   obtain ⟨hq,hm⟩:=hm
   refine op1 (index (e:=77) (k:=.i64) T hS kr kr kr kr h107 kr kr hq.1 hq.2 ?_)
   intro HB a h114 hS
   refine op1 (e9 (off:=1) (fsz:=3) (ft:=61) (TF:=aM) (y:=(gi l_ cv).aI) T hS kr kr kr h114 kr kr kr (fun cs h=>iH h) ?_)
   intro NM a h116 hS
   refine op1 (eC T hS kr kr kr h116 kr kr ?_)
   intro v117 a hv hS
   subst hv
   refine op1 (lit (E:=61) (col:=0) (T:=aM) (vals:=[.agg #[.int .i64 (((gi l_ cv).aI).bh),.int .i64 (((gi l_ cv).aI).aj),.int .i64 (((gi l_ cv).aI).N)]]) (ys:=[(gi l_ cv).aI]) T hS kr kr kr kr (by exact ⟨rfl,trivial⟩) rfl kr kr kr kr ?_)
   intro b118 a uq AL hE h121 hN hS
   clear hN
   replace hO:=hO.m2 hE
   replace h107:=h107.m1 hE
   replace h111:=h111.m2 hE
   replace h114:=h114.m1 hE
   replace h116:=h116.m1 hE
   replace h121:=h121.rs0
   obtain ⟨hq,hm⟩:=hm
   obtain ⟨news,hN⟩:=h121.src
   refine op1 (append (E:=61) (T:=aM) (col:=1003) (xs:=di) T hS kr kr kr kr h111 hN kr kr kr kr hq ?_)
   intro iE iC a uo ud hE h124 hS
   clear hq hN
   clear h111
   replace hO:=hO.m2 hE
   replace h107:=h107.m1 hE
   replace h114:=h114.m1 hE
   replace h116:=h116.m1 hE
   replace h121:=h121.m1 hE
   refine ePe T hS [12,13,14,15,16,17,18] [(3,Sl iE (di++[(gi l_ cv).aI]) iC)] fun a hS=>?_
   refine region (ePe T hS [] [(4,I (wR (cv+1)))] fun a hS=>?_)
   exact ⟨⟨di++[(gi l_ cv).aI],wR (cv+1)⟩,⟨Z,_,iE,iC,hm.1,hS.sl _,hO,h107,h124⟩,hm.2⟩
  replace hm:=hm.2 hb
  refine cb (by rfl) ?_
  exact ⟨Z,_,di,ci,ce,hm,hS.sl _,hO,h111⟩
 rintro a ws ⟨Z,rI,bD,dq,dl,hm,hS,hO,h104⟩
 unfold VC45_J1 at hm
 refine rPe T hS [3] [(2,Sl dq bD dl)] fun a hS=>?_
 refine aY ?_
 obtain ⟨o1,hE,hF⟩:=h104.freeze (by decide)
 replace hS:=hS.ev hE (cr kr)
 replace hO:=hO.m2 hE
 have h106:=hF; clear hE hF
 exact fin T hS hO (fun c=>c) rfl (r:=[.slice dq bD.length dl]) kr (fun X' hM hC=>⟨bD,hm,dq,dl,rfl,h106.m0 hM⟩)
theorem C45 (v:∀ (l_:List az),rY l_->VC45 l_ (fun r=>r=bQ l_)):S45:=by
 intro w X l_ a1 c1   hp h1
 refine (W45 w X l_ a1 c1   _ (v l_ hp) h1).mono ?_
 rintro _ _ _ _ ⟨r,rfl,h⟩
 exact h
theorem W59 (w0) (X0) (l_:List az) (at_:Int) (a1) (c1) (Q:Int->Prop) (hm:VC59 l_ at_ Q) (h1:RS br w0 X0 a1 l_ c1) :
  Ret Tryz.prog 59 #[.slice a1 l_.length c1,.int .i64 at_] aJ w0 X0 (fun w X' v=>∃ r,Q r/\v=.int .i64 r):=by
 unfold VC59 at hm
 replace hm:=hm (h1.sm kr)
 refine enter Tryz.func59 rfl (vals:=[.slice a1 l_.length c1,.int .i64 at_]) kr ?_
 intro Z a hS hO hM
 replace h1:=h1.m0 hM
 refine rPe T hS [] [] fun a hS=>?_
 refine bT (fun a w=>∃ Z X,VC59_J1 Q/\St Tryz.f59.ntmps ⟨[],[]⟩ Z a w X/\Old w0 X0 w X) ?_ ?_
 ·refine rPe T hS [] [(5,I (wR (at_ - 1)))] fun a hS=>?_
  refine aL ?_
  obtain ⟨I1,μ1,co,hm⟩:=hm
  refine cl (σ:=Int) (fun s a w=>∃ Z X,I1 s/\St Tryz.f59.ntmps ⟨[(0,Sl a1 l_ c1),(1,I at_),(5,I s)],[]⟩ Z a w X/\Old w0 X0 w X/\RS br w X a1 l_ c1) (fun s=>μ1 s) (wR (at_ - 1)) ?_ ?_
  ·exact ⟨Z,_,co,hS.sl _,hO,h1⟩
  rintro bu a zp ⟨Z,wb,hI,hS,hO,h101⟩
  replace hm:=hm bu hI
  clear hI co
  refine bc ?_
  refine rPe T hS [] [(9,B (decide (bu≥0)))] fun a hS=>?_
  refine aG hS (b:=decide (bu≥0)) kr (fun hb=>?_) fun hb=>?_
  ·replace hm:=hm.1 hb
   refine aH (bc ?_)
   refine aL ?_
   refine dv [] mixed hS ?_
   intro K4 Rh hS hE hD hH
   replace hO:=hO.m2 hE
   replace h101:=h101.m1 hE
   refine tke T [0,1,6,7] [] hS hH #[true,true,false,false,false,false,true,true,false,false,false,false,false] 9 [] [(12,Sl a1 l_ c1),(13,I bu),(18,Sl a1 l_ c1),(19,I at_)] fun a hS=>?_
   obtain ⟨hq,hm⟩:=hm
   refine c7 (e:=77) (k:=.i64) T 2 hS kr kr kr (by rfl) kr hH kr kr h101 kr kr hq.1 hq.2 ?_
   intro xI a h106 hS
   have qW:=h106.here
   refine dw (off:=1) (fsz:=3) (ft:=61) (TF:=aM) (y:=(gi l_ bu).aI) 3 T hS kr kr kr (by rfl) kr hH kr h106 kr kr kr (fun cs h=>iH h) ?_
   intro HC a h108 fP hS
   have yR:=qW
   rw [← fP] at yR
   clear fP
   refine dw (off:=1) (fsz:=1) (ft:=3) (TF:=tI) (y:=((gi l_ bu).aI).aj) 4 T hS kr kr kr (by rfl) kr hH kr h108 kr kr kr (fun cs h=>gV h) ?_
   intro AQ a h110 fP hS
   have mr:=yR
   rw [← fP] at mr
   clear fP
   refine dV T 5 hS kr kr kr (by rfl) kr hH kr h110 mr rfl kr ?_
   intro v111 a hv hS
   cases hv
   obtain ⟨hq,hm⟩:=hm
   refine c7 (e:=77) (k:=.i64) T 8 hS kr kr kr (by rfl) kr hH kr kr h101 kr kr hq.1 hq.2 ?_
   intro Ki a h113 hS
   have Cu:=h113.here
   refine dw (off:=1) (fsz:=3) (ft:=61) (TF:=aM) (y:=(gi l_ at_).aI) 9 T hS kr kr kr (by rfl) kr hH kr h113 kr kr kr (fun cs h=>iH h) ?_
   intro E0 a h115 fP hS
   have qV:=Cu
   rw [← fP] at qV
   clear fP
   refine dw (off:=1) (fsz:=1) (ft:=3) (TF:=tI) (y:=((gi l_ at_).aI).aj) 10 T hS kr kr kr (by rfl) kr hH kr h115 kr kr kr (fun cs h=>gV h) ?_
   intro HA a h117 fP hS
   have n4:=qV
   rw [← fP] at n4
   clear fP
   refine dV T 11 hS kr kr kr (by rfl) kr hH kr h117 n4 rfl kr ?_
   intro v118 a hv hS
   cases hv
   refine tke T [12] [] hS hH (tts 13) 0 [12,13,18,19,14,15,16,17,20,21,22,23] [(24,B ((((gi l_ bu).aI).aj) == (((gi l_ at_).aI).aj)))] fun a hS=>?_
   refine aS kr ?_
   replace hS:=hS.sle [] []
   refine aG hS (b:=((((gi l_ bu).aI).aj) == (((gi l_ at_).aI).aj))) kr (fun hb=>?_) fun hb=>?_
   ·replace hm:=hm.1 hb
    refine bj ?_
    refine oPe T hS 2 [0,1,5,24] [(25,Sl a1 l_ c1),(26,I bu)] fun a hS=>?_
    obtain ⟨hq,hm⟩:=hm
    refine op1 (index (e:=77) (k:=.i64) T hS kr kr kr kr h101 kr kr hq.1 hq.2 ?_)
    intro NK a h120 hS
    refine op1 (e9 (off:=0) (fsz:=1) (ft:=3) (TF:=tI) (y:=(gi l_ bu).ax) T hS kr kr kr h120 kr kr kr (fun cs h=>kp h) ?_)
    intro Hy a h122 hS
    refine op1 (dU T hS kr kr kr h122 rfl kr ?_)
    intro v123 a hv hS
    cases hv
    refine ePe T hS [25,26,27,28,29] [(4,I ((gi l_ bu).ax))] fun a hS=>?_
    refine aY ?_
    exact fin T hS hO (fun c=>c) rfl (r:=[.int .i64 ((gi l_ bu).ax)]) kr (fun X' hM hC=>⟨((gi l_ bu).ax),hm,rfl⟩)
   replace hm:=hm.2 hb
   refine aH ?_
   refine region (ePe T hS [24] [(5,I (wR (bu - 1)))] fun a hS=>?_)
   exact ⟨wR (bu - 1),⟨Z,_,hm.1,hS.sl _,hO,h101⟩,hm.2⟩
  replace hm:=hm.2 hb
  refine cb (by rfl) ?_
  exact ⟨Z,_,hm,hS.sl _,hO⟩
 rintro a sS ⟨Z,xF,hm,hS,hO⟩
 unfold VC59_J1 at hm
 refine rPe T hS [] [(4,I (-1))] fun a hS=>?_
 refine aY ?_
 exact fin T hS hO (fun c=>c) rfl (r:=[.int .i64 (-1)]) kr (fun X' hM hC=>⟨(-1),hm,rfl⟩)
theorem C59 (v:∀ (l_:List az) (at_:Int),tr l_ at_->VC59 l_ at_ (fun r=>r=fC l_ at_)):S59:=by
 intro w X l_ at_ a1 c1   hp h1
 refine (W59 w X l_ at_ a1 c1   _ (v l_ at_ hp) h1).mono ?_
 rintro _ _ _ _ ⟨r,rfl,h⟩
 exact h
end Go.Proofs.YteahldlmkheleaaGreat
