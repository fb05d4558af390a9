/- Walks. -/
import Derived.Test.YteahldlmkheleaaGreatLWalksS
set_option linter.all false
namespace Go.Proofs.YteahldlmkheleaaGreat
open Go Go.Sv
set_option maxHeartbeats 1000000
theorem W39 (w0) (X0) (n_:Int) (Q:(List (List Int))->Prop) (hm:VC39 n_ Q) :
  Ret Tryz.prog 39 #[.int .i64 n_] aJ w0 X0 (fun w X' v=>∃ r,Q r/\∃ cn cm,v=.slice cn r.length cm/\RS (bP tI) w X' cn r cm):=by
 unfold VC39 at hm
 refine enter Tryz.func39 rfl (vals:=[.int .i64 n_]) kr ?_
 intro Z a hS hO hM
 refine rPe T hS [] [] fun a hS=>?_
 refine bj ?_
 refine op1 (lit (E:=43) (col:=1003) (T:=(bP tI)) (vals:=[.slice none 0 0]) (ys:=([[]]:List (List Int))) T hS kr kr kr kr (by exact ⟨⟨none,0,rfl,RS.empty _ _ _⟩,trivial⟩) rfl kr kr kr kr ?_)
 intro b101 a eZ fa hE h104 hN hS
 clear hN
 replace hO:=hO.m2 hE
 refine ePe T hS [10] [(3,Sl (some ⟨b101,0,none⟩) ([[]]:List (List Int)) 1)] fun a hS=>?_
 refine bj ?_
 refine op1 (lit (E:=43) (col:=0) (T:=(bP tI)) (vals:=[.slice none 0 0]) (ys:=([[]]:List (List Int))) T hS kr kr kr kr (by exact ⟨⟨none,0,rfl,RS.empty _ _ _⟩,trivial⟩) rfl kr kr kr kr ?_)
 intro b105 a mg mc hE h108 hN hS
 clear hN
 replace hO:=hO.m2 hE
 replace h104:=h104.m2 hE
 replace h108:=h108.rs0
 refine ePe T hS [11] [(4,Sl (some ⟨b105,0,none⟩) ([[]]:List (List Int)) 1)] fun a hS=>?_
 refine bT (fun a w=>∃ (Z:Nat->Nat) (X:Nat->Nat) (cH:List (List Int)) (fH:Option Addr) (fG:Nat),VC39_J1 Q cH/\St Tryz.f39.ntmps ⟨[(3,Sl fH cH fG)],[]⟩ Z a w X/\Old w0 X0 w X/\OS (bP tI) 43 w X 1003 fH cH fG) ?_ ?_
 ·refine aL ?_
  obtain ⟨I1,μ1,co,hm⟩:=hm
  refine cl (σ:=(List (List Int)) × (List (List Int))) (fun s a w=>∃ Z X dA dz ju js,I1 s.1 s.2/\St Tryz.f39.ntmps ⟨[(0,I n_),(3,Sl dA s.1 dz),(4,Sl ju s.2 js)],[]⟩ Z a w X/\Old w0 X0 w X/\OS (bP tI) 43 w X 1003 dA s.1 dz/\RS (bP tI) w X ju s.2 js) (fun s=>μ1 s.1 s.2) (⟨([[]]:List (List Int)),([[]]:List (List Int))⟩) ?_ ?_
  ·exact ⟨Z,_,(some ⟨b101,0,none⟩),1,(some ⟨b105,0,none⟩),1,co,hS.sl _,hO,h104,h108⟩
  rintro ⟨be,bq⟩ a OO ⟨Z,QQ,dA,dz,ju,js,hI,hS,hO,h118,h122⟩
  replace hm:=hm be bq hI
  clear hI co
  refine bc ?_
  refine rPe T hS [] [(14,B (decide ((lN bq) > 0)))] fun a hS=>?_
  refine aG hS (b:=decide ((lN bq) > 0)) kr (fun hb=>?_) fun hb=>?_
  ·replace hm:=hm.1 hb
   refine aH ?_
   refine aL ?_
   refine rPe T hS [14] [(5,V (.slice none 0 0))] fun a hS=>?_
   refine bT (fun a w=>∃ (Z:Nat->Nat) (X:Nat->Nat) (fx:List (List Int)) (dX:List (List Int)) (gZ:Option Addr) (gY:Nat) (ig:Option Addr) (ie:Nat),VC39_J2 I1 μ1 be bq fx dX/\St Tryz.f39.ntmps ⟨[(0,I n_),(3,Sl gZ fx gY),(5,Sl ig dX ie)],[]⟩ Z a w X/\Old w0 X0 w X/\OS (bP tI) 43 w X 1003 gZ fx gY/\OS (bP tI) 43 w X 1006 ig dX ie) ?_ ?_
   ·refine rPe T hS [] [(6,I 0)] fun a hS=>?_
    refine aL ?_
    obtain ⟨I2,μ2,co,hm⟩:=hm
    refine cl (σ:=(List (List Int)) × (List (List Int)) × Int) (fun s a w=>∃ Z X v4 vQ oy om,I2 s.1 s.2.1 s.2.2/\St Tryz.f39.ntmps ⟨[(0,I n_),(3,Sl v4 s.1 vQ),(4,Sl ju bq js),(5,Sl oy s.2.1 om),(6,I s.2.2)],[]⟩ Z a w X/\Old w0 X0 w X/\OS (bP tI) 43 w X 1003 v4 s.1 vQ/\RS (bP tI) w X ju bq js/\OS (bP tI) 43 w X 1006 oy s.2.1 om) (fun s=>μ2 s.1 s.2.1 s.2.2) (⟨be,[],0⟩) ?_ ?_
    ·exact ⟨Z,_,dA,dz,none,0,co,hS.sl _,hO,h118,h122,(OS.nil _ _ _ _ _)⟩
    rintro ⟨pZ,md,dZ⟩ a KE ⟨Z,QR,v4,vQ,oy,om,hI,hS,hO,h141,h142,h146⟩
    replace hm:=hm pZ md dZ hI
    clear hI co
    refine bc ?_
    refine rPe T hS [] [(18,B (decide (dZ < (lN bq))))] fun a hS=>?_
    refine aG hS (b:=decide (dZ < (lN bq))) kr (fun hb=>?_) fun hb=>?_
    ·replace hm:=hm.1 hb
     refine aH ?_
     refine bT (fun a w=>∃ (Z:Nat->Nat) (X:Nat->Nat) (mB:List (List Int)) (nF:List (List Int)) (kC:Option Addr) (kA:Nat) (EP:Option Addr) (ED:Nat),VC39_J3 I2 μ2 pZ md dZ mB nF/\St Tryz.f39.ntmps ⟨[(0,I n_),(3,Sl kC mB kA),(4,Sl ju bq js),(5,Sl EP nF ED),(6,I dZ)],[]⟩ Z a w X/\Old w0 X0 w X/\OS (bP tI) 43 w X 1003 kC mB kA/\RS (bP tI) w X ju bq js/\OS (bP tI) 43 w X 1006 EP nF ED) ?_ ?_
     ·refine aL ?_
      refine rPe T hS [18] [(7,I 0)] fun a hS=>?_
      refine aL ?_
      obtain ⟨I3,μ3,co,hm⟩:=hm
      refine cl (σ:=(List (List Int)) × (List (List Int)) × Int) (fun s a w=>∃ Z X Da CS C5 CR,I3 s.1 s.2.1 s.2.2/\St Tryz.f39.ntmps ⟨[(0,I n_),(3,Sl Da s.1 CS),(4,Sl ju bq js),(5,Sl C5 s.2.1 CR),(6,I dZ),(7,I s.2.2)],[]⟩ Z a w X/\Old w0 X0 w X/\OS (bP tI) 43 w X 1003 Da s.1 CS/\RS (bP tI) w X ju bq js/\OS (bP tI) 43 w X 1006 C5 s.2.1 CR) (fun s=>μ3 s.1 s.2.1 s.2.2) (⟨pZ,md,0⟩) ?_ ?_
      ·exact ⟨Z,_,v4,vQ,oy,om,co,hS.sl _,hO,h141,h142,h146⟩
      rintro ⟨A7,rp,ik⟩ a KF ⟨Z,QS,Da,CS,C5,CR,hI,hS,hO,h160,h161,h165⟩
      replace hm:=hm A7 rp ik hI
      clear hI co
      refine bc ?_
      refine rPe T hS [] [(23,B (decide (ik < n_)))] fun a hS=>?_
      refine aG hS (b:=decide (ik < n_)) kr (fun hb=>?_) fun hb=>?_
      ·replace hm:=hm.1 hb
       refine aH ?_
       refine bT (fun a w=>∃ (Z:Nat->Nat) (X:Nat->Nat) (A5:List (List Int)) (pl:List (List Int)) (EN:Option Addr) (EB:Nat) (EM:Option Addr) (EA:Nat),VC39_J4 I3 μ3 A7 rp ik A5 pl/\St Tryz.f39.ntmps ⟨[(0,I n_),(3,Sl EN A5 EB),(4,Sl ju bq js),(5,Sl EM pl EA),(6,I dZ),(7,I ik)],[]⟩ Z a w X/\Old w0 X0 w X/\OS (bP tI) 43 w X 1003 EN A5 EB/\RS (bP tI) w X ju bq js/\OS (bP tI) 43 w X 1006 EM pl EA) ?_ ?_
       ·refine aL ?_
        refine rPe T hS [23] [(8,B false)] fun a hS=>?_
        refine bT (fun a w=>∃ (Z:Nat->Nat) (X:Nat->Nat) (zg:List (List Int)) (sQ:List (List Int)) (A3:Bool) (C4:Option Addr) (CQ:Nat) (C3:Option Addr) (CP:Nat),VC39_J5 bq dZ I3 μ3 A7 rp ik zg sQ A3/\St Tryz.f39.ntmps ⟨[(0,I n_),(3,Sl C4 zg CQ),(4,Sl ju bq js),(5,Sl C3 sQ CP),(6,I dZ),(7,I ik),(8,B A3)],[]⟩ Z a w X/\Old w0 X0 w X/\OS (bP tI) 43 w X 1003 C4 zg CQ/\RS (bP tI) w X ju bq js/\OS (bP tI) 43 w X 1006 C3 sQ CP) ?_ ?_
        ·refine rPe T hS [] [(9,I 0)] fun a hS=>?_
         refine aL ?_
         obtain ⟨I4,μ4,co,hm⟩:=hm
         refine cl (σ:=(List (List Int)) × (List (List Int)) × Bool × Int) (fun s a w=>∃ Z X kj ke Az Ao,I4 s.1 s.2.1 s.2.2.1 s.2.2.2/\St Tryz.f39.ntmps ⟨[(0,I n_),(3,Sl kj s.1 ke),(4,Sl ju bq js),(5,Sl Az s.2.1 Ao),(6,I dZ),(7,I ik),(8,B s.2.2.1),(9,I s.2.2.2)],[]⟩ Z a w X/\Old w0 X0 w X/\OS (bP tI) 43 w X 1003 kj s.1 ke/\RS (bP tI) w X ju bq js/\OS (bP tI) 43 w X 1006 Az s.2.1 Ao) (fun s=>μ4 s.1 s.2.1 s.2.2.1 s.2.2.2) (⟨A7,rp,false,0⟩) ?_ ?_
         ·exact ⟨Z,_,Da,CS,C5,CR,co,hS.sl _,hO,h160,h161,h165⟩
         rintro ⟨A1,A0,AZ,pX⟩ a OT ⟨Z,Na,kj,ke,Az,Ao,hI,hS,hO,h224,h225,h229⟩
         replace hm:=hm A1 A0 AZ pX hI
         clear hI co
         refine bc ?_
         refine bj ?_
         refine oPe T hS 3 [] [(26,I pX),(27,Sl ju bq js),(28,I dZ)] fun a hS=>?_
         obtain ⟨hq,hm⟩:=hm
         refine op1 (index (e:=43) (k:=.i64) T hS kr kr kr kr h225 kr kr hq.1 hq.2 ?_)
         intro Rp a h233 hS
         refine op1 (dU T hS kr kr kr h233 rfl kr ?_)
         intro v234 a hv hS
         obtain ⟨QH,QE,hv,h237⟩:=hv
         cases hv
         replace hm:=hm (h237.sm kr)
         refine ePe T hS [26,27,28,29,30] [(32,B (decide (pX < (lN (gi bq dZ)))))] fun a hS=>?_
         refine aG hS (b:=decide (pX < (lN (gi bq dZ)))) kr (fun hb=>?_) fun hb=>?_
         ·replace hm:=hm.1 hb
          refine aH ?_
          refine bT (fun a w=>∃ (Z:Nat->Nat) (X:Nat->Nat) (AY:List (List Int)) (AX:List (List Int)) (Dv:Bool) (kY:Option Addr) (kX:Nat) (EJ:Option Addr) (Ey:Nat),VC39_J6 I4 μ4 A1 A0 AZ pX AY AX Dv/\St Tryz.f39.ntmps ⟨[(0,I n_),(3,Sl kY AY kX),(4,Sl ju bq js),(5,Sl EJ AX Ey),(6,I dZ),(7,I ik),(8,B Dv),(9,I pX)],[]⟩ Z a w X/\Old w0 X0 w X/\OS (bP tI) 43 w X 1003 kY AY kX/\RS (bP tI) w X ju bq js/\OS (bP tI) 43 w X 1006 EJ AX Ey) ?_ ?_
          ·refine aL ?_
           refine region ?_
           refine oPe T hS 2 [32] [(36,B AZ)] fun a hS=>?_
           rcases bft AZ with hb | hb
           ·replace hS:=hS.lit (t:=36) kr hb
            replace hm:=hm.1 hb
            refine ePe T hS [36] [(8,B true)] fun a hS=>?_
            exact ⟨Z,_,A1,A0,true,kj,ke,Az,Ao,hm,hS.sl _,hO,h224,h225,h229⟩
           replace hS:=hS.lit (t:=36) kr hb
           replace hm:=hm.2 hb
           refine oPe T hS 2 [] [(37,Sl ju bq js),(38,I dZ)] fun a hS=>?_
           obtain ⟨hq,hm⟩:=hm
           refine op1 (index (e:=43) (k:=.i64) T hS kr kr kr kr h225 kr kr hq.1 hq.2 ?_)
           intro Ro a h249 hS
           refine op1 (dU T hS kr kr kr h249 rfl kr ?_)
           intro v250 a hv hS
           obtain ⟨Hf,Hb,hv,h253⟩:=hv
           cases hv
           replace hm:=hm (h253.sm kr)
           refine oPe T hS 1 [37,38,39] [(41,I pX)] fun a hS=>?_
           obtain ⟨hq,hm⟩:=hm
           refine op1 (index (e:=3) (k:=.i64) T hS kr kr kr kr h253 kr kr hq.1 hq.2 ?_)
           intro Rn a h255 hS
           refine op1 (dU T hS kr kr kr h255 rfl kr ?_)
           intro v256 a hv hS
           cases hv
           refine ePe T hS [36,40,41,42,43] [(8,B ((gi (gi bq dZ) pX) == ik))] fun a hS=>?_
           exact ⟨Z,_,A1,A0,((gi (gi bq dZ) pX) == ik),kj,ke,Az,Ao,hm,hS.sl _,hO,h224,h225,h229⟩
          rintro a KH ⟨Z,QU,AY,AX,Dv,kY,kX,EJ,Ey,hm,hS,hO,h241,h242,h246⟩
          unfold VC39_J6 at hm
          refine region (ePe T hS [] [(9,I (wR (pX+1)))] fun a hS=>?_)
          exact ⟨⟨AY,AX,Dv,wR (pX+1)⟩,⟨Z,_,kY,kX,EJ,Ey,hm.1,hS.sl _,hO,h241,h242,h246⟩,hm.2⟩
         replace hm:=hm.2 hb
         refine cb (by rfl) ?_
         exact ⟨Z,_,A1,A0,AZ,kj,ke,Az,Ao,hm,hS.sl _,hO,h224,h225,h229⟩
        rintro a KG ⟨Z,QT,zg,sQ,A3,C4,CQ,C3,CP,hm,hS,hO,h179,h180,h184⟩
        unfold VC39_J5 at hm
        refine rPe T hS [8] [(48,B (!A3))] fun a hS=>?_
        refine aG hS (b:=(!A3)) kr (fun hb=>?_) fun hb=>?_
        ·replace hm:=hm.1 hb
         refine region ?_
         refine oPe T hS 1 [48] [(49,Sl C3 sQ CP)] fun a hS=>?_
         refine op1 (lit (E:=3) (col:=1051) (T:=tI) (vals:=[]) (ys:=([]:List Int)) T hS kr kr kr kr trivial rfl kr kr kr kr ?_)
         intro b186 a Pb JZ hE h189 hN hS
         clear hN
         replace hO:=hO.m2 hE
         replace h179:=h179.m2 hE
         replace h180:=h180.m1 hE
         replace h184:=h184.m2 hE
         refine oPe T hS 2 [] [(51,Sl ju bq js),(52,I dZ)] fun a hS=>?_
         obtain ⟨hq,hm⟩:=hm
         refine op1 (index (e:=43) (k:=.i64) T hS kr kr kr kr h180 kr kr hq.1 hq.2 ?_)
         intro NB a h191 hS
         refine op1 (dU T hS kr kr kr h191 rfl kr ?_)
         intro v192 a hv hS
         obtain ⟨QJ,QG,hv,h195⟩:=hv
         cases hv
         replace hm:=hm (h195.sm kr)
         obtain ⟨hq,hm⟩:=hm
         obtain ⟨news,hN⟩:=h195.src
         refine op1 (append (E:=3) (T:=tI) (col:=1051) (xs:=([]:List Int)) T hS kr kr kr kr h189 hN kr kr kr kr hq ?_)
         intro QI QF a KT Rb hE h198 hS
         clear hq hN
         clear h189
         replace hO:=hO.m2 hE
         replace h179:=h179.m2 hE
         replace h180:=h180.m1 hE
         replace h184:=h184.m2 hE
         replace h191:=h191.m1 hE
         replace h195:=h195.m1 hE
         refine oPe T hS 1 [51,52,53,54] [(56,I ik)] fun a hS=>?_
         refine op1 (lit (E:=3) (col:=0) (T:=tI) (vals:=[.int .i64 ik]) (ys:=[ik]) T hS kr kr kr kr (by exact ⟨rfl,trivial⟩) rfl kr kr kr kr ?_)
         intro b201 a HT JW hE h204 hN hS
         clear hN
         replace hO:=hO.m2 hE
         replace h179:=h179.m2 hE
         replace h180:=h180.m1 hE
         replace h184:=h184.m2 hE
         replace h198:=h198.m2 hE
         replace h204:=h204.rs0
         obtain ⟨hq,hm⟩:=hm
         obtain ⟨news,hN⟩:=h204.src
         refine op1 (append (E:=3) (T:=tI) (col:=1051) (xs:=([]:List Int)++(gi bq dZ)) T hS kr kr kr kr h198 hN kr kr kr kr hq ?_)
         intro JO JA a KQ JV hE h207 hS
         clear hq hN
         clear h198
         replace hO:=hO.m2 hE
         replace h179:=h179.m2 hE
         replace h180:=h180.m1 hE
         replace h184:=h184.m2 hE
         replace h204:=h204.m1 hE
         obtain ⟨Ng,hE,hF⟩:=h207.freeze (by decide)
         replace hS:=hS.ev hE (cr kr)
         replace hO:=hO.m2 hE
         replace h179:=h179.m2 hE
         replace h180:=h180.m1 hE
         replace h184:=h184.m2 hE
         replace h204:=h204.m1 hE
         have h211:=hF; clear hE hF
         refine op1 (lit (E:=43) (col:=0) (T:=(bP tI)) (vals:=[.slice JO ((([]:List Int)++(gi bq dZ))++[ik]).length JA]) (ys:=[(([]:List Int)++(gi bq dZ))++[ik]]) T hS kr kr kr kr (by exact ⟨⟨JO,JA,rfl,h211⟩,trivial⟩) rfl kr kr kr kr ?_)
         intro b212 a KN Q6 hE h215 hN hS
         clear hN
         replace hO:=hO.m2 hE
         replace h179:=h179.m2 hE
         replace h180:=h180.m1 hE
         replace h184:=h184.m2 hE
         replace h204:=h204.m1 hE
         replace h211:=h211.m1 hE
         replace h215:=h215.rs0
         obtain ⟨hq,hm⟩:=hm
         obtain ⟨news,hN⟩:=h215.src
         refine op1 (append (E:=43) (T:=(bP tI)) (col:=1006) (xs:=sQ) T hS kr kr kr kr h184 hN kr kr kr kr hq ?_)
         intro mL mI a KM Nf hE h218 hS
         clear hq hN
         clear h184
         replace hO:=hO.m2 hE
         replace h179:=h179.m2 hE
         replace h180:=h180.m1 hE
         replace h204:=h204.m1 hE
         replace h211:=h211.m1 hE
         replace h215:=h215.m1 hE
         refine ePe T hS [56,57,58,59,60] [(5,Sl mL (sQ++[(([]:List Int)++(gi bq dZ))++[ik]]) mI)] fun a hS=>?_
         exact ⟨Z,_,zg,sQ++[(([]:List Int)++(gi bq dZ))++[ik]],C4,CQ,mL,mI,hm,hS.sl _,hO,h179,h180,h218⟩
        replace hm:=hm.2 hb
        refine aH ?_
        exact ⟨Z,_,zg,sQ,C4,CQ,C3,CP,hm,hS.sl _,hO,h179,h180,h184⟩
       rintro a OR ⟨Z,M9,A5,pl,EN,EB,EM,EA,hm,hS,hO,h170,h171,h175⟩
       unfold VC39_J4 at hm
       refine region (ePe T hS [] [(7,I (wR (ik+1)))] fun a hS=>?_)
       exact ⟨⟨A5,pl,wR (ik+1)⟩,⟨Z,_,EN,EB,EM,EA,hm.1,hS.sl _,hO,h170,h171,h175⟩,hm.2⟩
      replace hm:=hm.2 hb
      refine cb (by rfl) ?_
      exact ⟨Z,_,A7,rp,Da,CS,C5,CR,hm,hS.sl _,hO,h160,h161,h165⟩
     rintro a OQ ⟨Z,M8,mB,nF,kC,kA,EP,ED,hm,hS,hO,h151,h152,h156⟩
     unfold VC39_J3 at hm
     refine region (ePe T hS [] [(6,I (wR (dZ+1)))] fun a hS=>?_)
     exact ⟨⟨mB,nF,wR (dZ+1)⟩,⟨Z,_,kC,kA,EP,ED,hm.1,hS.sl _,hO,h151,h152,h156⟩,hm.2⟩
    replace hm:=hm.2 hb
    refine cb (by rfl) ?_
    exact ⟨Z,_,pZ,md,v4,vQ,oy,om,hm,hS.sl _,hO,h141,h146⟩
   rintro a OP ⟨Z,M7,fx,dX,gZ,gY,ig,ie,hm,hS,hO,h126,h130⟩
   unfold VC39_J2 at hm
   refine bj ?_
   refine oPe T hS 2 [] [(61,Sl gZ fx gY),(62,Sl ig dX ie)] fun a hS=>?_
   obtain ⟨hq,hm⟩:=hm
   obtain ⟨news,hN⟩:=h130.src
   refine op1 (append (E:=43) (T:=(bP tI)) (col:=1003) (xs:=fx) T hS kr kr kr kr h126 hN kr kr kr kr hq ?_)
   intro rd rb a p4 pH hE h133 hS
   clear hq hN
   clear h126
   replace hO:=hO.m2 hE
   replace h130:=h130.m2 hE
   refine ePe T hS [62,63] [(3,Sl rd (fx++dX) rb)] fun a hS=>?_
   refine region ?_
   refine oPe T hS 1 [5] [(64,Sl ig dX ie)] fun a hS=>?_
   obtain ⟨Hq,hE,hF⟩:=h130.freeze (by decide)
   replace hS:=hS.ev hE (cr kr)
   replace hO:=hO.m2 hE
   replace h133:=h133.m2 hE
   have h137:=hF; clear hE hF
   refine op1 (gD T hS kr kr kr (sv:=Sl ig dX ie) kr ?_)
   intro a hS
   refine gX ?_
   exact ⟨⟨fx++dX,dX⟩,⟨Z,_,rd,rb,ig,ie,hm.1,hS.sl _,hO,h133,h137⟩,hm.2⟩
  replace hm:=hm.2 hb
  refine cb (by rfl) ?_
  exact ⟨Z,_,be,dA,dz,hm,hS.sl _,hO,h118⟩
 rintro a ON ⟨Z,QP,cH,fH,fG,hm,hS,hO,h112⟩
 unfold VC39_J1 at hm
 refine rPe T hS [3] [(2,Sl fH cH fG)] fun a hS=>?_
 refine aY ?_
 obtain ⟨uf,hE,hF⟩:=h112.freeze (by decide)
 replace hS:=hS.ev hE (cr kr)
 replace hO:=hO.m2 hE
 have h114:=hF; clear hE hF
 exact fin T hS hO (fun c=>c) rfl (r:=[.slice fH cH.length fG]) kr (fun X' hM hC=>⟨cH,hm,fH,fG,rfl,h114.m0 hM⟩)
theorem C39 (v:∀ (n_:Int),x5 n_->VC39 n_ (fun r=>r=dj n_)):S39:=by
 intro w X n_    hp 
 refine (W39 w X n_    _ (v n_ hp)).mono ?_
 rintro _ _ _ _ ⟨r,rfl,h⟩
 exact h
end Go.Proofs.YteahldlmkheleaaGreat
