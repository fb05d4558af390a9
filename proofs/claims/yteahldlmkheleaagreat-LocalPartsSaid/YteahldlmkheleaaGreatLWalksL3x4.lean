/- Walks of the functions: each returns what its condition asks. -/
import Derived.Test.YteahldlmkheleaaGreatLWalksS
set_option linter.all false
namespace Go.Proofs.YteahldlmkheleaaGreat
open Go Go.Sv
set_option maxHeartbeats 1000000
theorem W39 (w0) (X0) (n_:Int) (Q:(List (List Int))->Prop) (hm:VC39 n_ Q) :
  Ret Tryz.prog 39 #[.int .i64 n_] aL w0 X0 (fun w X' v=>∃ r,Q r/\∃ cz cy,v=.slice cz r.length cy/\RS (cd tI) w X' cz r cy):=by
 unfold VC39 at hm
 refine enter Tryz.func39 rfl (vals:=[.int .i64 n_]) kr ?_
 intro Z a hS hO hM
 refine rPe T hS [] [] fun a hS=>?_
 refine bq ?_
 refine op1 (lit (E:=43) (col:=1003) (T:=(cd tI)) (vals:=[.slice none 0 0]) (ys:=([[]]:List (List Int))) T hS kr kr kr kr (by exact ⟨⟨none,0,rfl,RS.empty _ _ _⟩,trivial⟩) rfl kr kr kr kr ?_)
 intro b101 a fp fx hE h104 hN hS
 clear hN
 replace hO:=hO.m2 hE
 refine ePe T hS [10] [(3,Sl (some ⟨b101,0,none⟩) ([[]]:List (List Int)) 1)] fun a hS=>?_
 refine bq ?_
 refine op1 (lit (E:=43) (col:=0) (T:=(cd tI)) (vals:=[.slice none 0 0]) (ys:=([[]]:List (List Int))) T hS kr kr kr kr (by exact ⟨⟨none,0,rfl,RS.empty _ _ _⟩,trivial⟩) rfl kr kr kr kr ?_)
 intro b105 a ny m9 hE h108 hN hS
 clear hN
 replace hO:=hO.m2 hE
 replace h104:=h104.m2 hE
 replace h108:=h108.rs0
 refine ePe T hS [11] [(4,Sl (some ⟨b105,0,none⟩) ([[]]:List (List Int)) 1)] fun a hS=>?_
 refine cb (fun a w=>∃ (Z:Nat->Nat) (X:Nat->Nat) (cr:List (List Int)) (fg:Option Addr) (ff:Nat),VC39_J1 Q cr/\St Tryz.f39.ntmps ⟨[(3,Sl fg cr ff)],[]⟩ Z a w X/\Old w0 X0 w X/\OS (cd tI) 43 w X 1003 fg cr ff) ?_ ?_
 ·refine aN ?_
  obtain ⟨I1,μ1,cx,hm⟩:=hm
  refine ct (σ:=(List (List Int)) × (List (List Int))) (fun s a w=>∃ Z X dY dX ib hZ,I1 s.1 s.2/\St Tryz.f39.ntmps ⟨[(0,I n_),(3,Sl dY s.1 dX),(4,Sl ib s.2 hZ)],[]⟩ Z a w X/\Old w0 X0 w X/\OS (cd tI) 43 w X 1003 dY s.1 dX/\RS (cd tI) w X ib s.2 hZ) (fun s=>μ1 s.1 s.2) (⟨([[]]:List (List Int)),([[]]:List (List Int))⟩) ?_ ?_
  ·exact ⟨Z,_,(some ⟨b101,0,none⟩),1,(some ⟨b105,0,none⟩),1,cx,hS.sl _,hO,h104,h108⟩
  rintro ⟨bw,bp⟩ a Pe ⟨Z,Rv,dY,dX,ib,hZ,hI,hS,hO,h118,h122⟩
  replace hm:=hm bw bp hI
  clear hI cx
  refine bg ?_
  refine rPe T hS [] [(14,B (decide ((lN bp) > 0)))] fun a hS=>?_
  refine aJ hS (b:=decide ((lN bp) > 0)) kr (fun hb=>?_) fun hb=>?_
  ·replace hm:=hm.1 hb
   refine aM ?_
   refine aN ?_
   refine rPe T hS [14] [(5,V (.slice none 0 0))] fun a hS=>?_
   refine cb (fun a w=>∃ (Z:Nat->Nat) (X:Nat->Nat) (eL:List (List Int)) (c9:List (List Int)) (ia:Option Addr) (hY:Nat) (iH:Option Addr) (iG:Nat),VC39_J2 I1 μ1 bw bp eL c9/\St Tryz.f39.ntmps ⟨[(0,I n_),(3,Sl ia eL hY),(5,Sl iH c9 iG)],[]⟩ Z a w X/\Old w0 X0 w X/\OS (cd tI) 43 w X 1003 ia eL hY/\OS (cd tI) 43 w X 1006 iH c9 iG) ?_ ?_
   ·refine rPe T hS [] [(6,I 0)] fun a hS=>?_
    refine aN ?_
    obtain ⟨I2,μ2,cx,hm⟩:=hm
    refine ct (σ:=(List (List Int)) × (List (List Int)) × Int) (fun s a w=>∃ Z X xV xU oL oG,I2 s.1 s.2.1 s.2.2/\St Tryz.f39.ntmps ⟨[(0,I n_),(3,Sl xV s.1 xU),(4,Sl ib bp hZ),(5,Sl oL s.2.1 oG),(6,I s.2.2)],[]⟩ Z a w X/\Old w0 X0 w X/\OS (cd tI) 43 w X 1003 xV s.1 xU/\RS (cd tI) w X ib bp hZ/\OS (cd tI) 43 w X 1006 oL s.2.1 oG) (fun s=>μ2 s.1 s.2.1 s.2.2) (⟨bw,[],0⟩) ?_ ?_
    ·exact ⟨Z,_,dY,dX,none,0,cx,hS.sl _,hO,h118,h122,(OS.nil _ _ _ _ _)⟩
    rintro ⟨qm,mj,ep⟩ a KP ⟨Z,Rw,xV,xU,oL,oG,hI,hS,hO,h141,h142,h146⟩
    replace hm:=hm qm mj ep hI
    clear hI cx
    refine bg ?_
    refine rPe T hS [] [(18,B (decide (ep < (lN bp))))] fun a hS=>?_
    refine aJ hS (b:=decide (ep < (lN bp))) kr (fun hb=>?_) fun hb=>?_
    ·replace hm:=hm.1 hb
     refine aM ?_
     refine cb (fun a w=>∃ (Z:Nat->Nat) (X:Nat->Nat) (mS:List (List Int)) (nW:List (List Int)) (kP:Option Addr) (kN:Nat) (EW:Option Addr) (EJ:Nat),VC39_J3 I2 μ2 qm mj ep mS nW/\St Tryz.f39.ntmps ⟨[(0,I n_),(3,Sl kP mS kN),(4,Sl ib bp hZ),(5,Sl EW nW EJ),(6,I ep)],[]⟩ Z a w X/\Old w0 X0 w X/\OS (cd tI) 43 w X 1003 kP mS kN/\RS (cd tI) w X ib bp hZ/\OS (cd tI) 43 w X 1006 EW nW EJ) ?_ ?_
     ·refine aN ?_
      refine rPe T hS [18] [(7,I 0)] fun a hS=>?_
      refine aN ?_
      obtain ⟨I3,μ3,cx,hm⟩:=hm
      refine ct (σ:=(List (List Int)) × (List (List Int)) × Int) (fun s a w=>∃ Z X Df CX De CW,I3 s.1 s.2.1 s.2.2/\St Tryz.f39.ntmps ⟨[(0,I n_),(3,Sl Df s.1 CX),(4,Sl ib bp hZ),(5,Sl De s.2.1 CW),(6,I ep),(7,I s.2.2)],[]⟩ Z a w X/\Old w0 X0 w X/\OS (cd tI) 43 w X 1003 Df s.1 CX/\RS (cd tI) w X ib bp hZ/\OS (cd tI) 43 w X 1006 De s.2.1 CW) (fun s=>μ3 s.1 s.2.1 s.2.2) (⟨qm,mj,0⟩) ?_ ?_
      ·exact ⟨Z,_,xV,xU,oL,oG,cx,hS.sl _,hO,h141,h142,h146⟩
      rintro ⟨Bi,rT,iJ⟩ a KQ ⟨Z,Rx,Df,CX,De,CW,hI,hS,hO,h160,h161,h165⟩
      replace hm:=hm Bi rT iJ hI
      clear hI cx
      refine bg ?_
      refine rPe T hS [] [(23,B (decide (iJ < n_)))] fun a hS=>?_
      refine aJ hS (b:=decide (iJ < n_)) kr (fun hb=>?_) fun hb=>?_
      ·replace hm:=hm.1 hb
       refine aM ?_
       refine cb (fun a w=>∃ (Z:Nat->Nat) (X:Nat->Nat) (Bg:List (List Int)) (pT:List (List Int)) (EU:Option Addr) (EH:Nat) (ET:Option Addr) (EG:Nat),VC39_J4 I3 μ3 Bi rT iJ Bg pT/\St Tryz.f39.ntmps ⟨[(0,I n_),(3,Sl EU Bg EH),(4,Sl ib bp hZ),(5,Sl ET pT EG),(6,I ep),(7,I iJ)],[]⟩ Z a w X/\Old w0 X0 w X/\OS (cd tI) 43 w X 1003 EU Bg EH/\RS (cd tI) w X ib bp hZ/\OS (cd tI) 43 w X 1006 ET pT EG) ?_ ?_
       ·refine aN ?_
        refine rPe T hS [23] [(8,B false)] fun a hS=>?_
        refine cb (fun a w=>∃ (Z:Nat->Nat) (X:Nat->Nat) (zC:List (List Int)) (tg:List (List Int)) (pS:Bool) (Dd:Option Addr) (CV:Nat) (Dc:Option Addr) (CU:Nat),VC39_J5 bp ep I3 μ3 Bi rT iJ zC tg pS/\St Tryz.f39.ntmps ⟨[(0,I n_),(3,Sl Dd zC CV),(4,Sl ib bp hZ),(5,Sl Dc tg CU),(6,I ep),(7,I iJ),(8,B pS)],[]⟩ Z a w X/\Old w0 X0 w X/\OS (cd tI) 43 w X 1003 Dd zC CV/\RS (cd tI) w X ib bp hZ/\OS (cd tI) 43 w X 1006 Dc tg CU) ?_ ?_
        ·refine rPe T hS [] [(9,I 0)] fun a hS=>?_
         refine aN ?_
         obtain ⟨I4,μ4,cx,hm⟩:=hm
         refine ct (σ:=(List (List Int)) × (List (List Int)) × Bool × Int) (fun s a w=>∃ Z X kD ky AQ AG,I4 s.1 s.2.1 s.2.2.1 s.2.2.2/\St Tryz.f39.ntmps ⟨[(0,I n_),(3,Sl kD s.1 ky),(4,Sl ib bp hZ),(5,Sl AQ s.2.1 AG),(6,I ep),(7,I iJ),(8,B s.2.2.1),(9,I s.2.2.2)],[]⟩ Z a w X/\Old w0 X0 w X/\OS (cd tI) 43 w X 1003 kD s.1 ky/\RS (cd tI) w X ib bp hZ/\OS (cd tI) 43 w X 1006 AQ s.2.1 AG) (fun s=>μ4 s.1 s.2.1 s.2.2.1 s.2.2.2) (⟨Bi,rT,false,0⟩) ?_ ?_
         ·exact ⟨Z,_,Df,CX,De,CW,cx,hS.sl _,hO,h160,h161,h165⟩
         rintro ⟨Bd,Bc,Bb,qj⟩ a Pj ⟨Z,Ny,kD,ky,AQ,AG,hI,hS,hO,h224,h225,h229⟩
         replace hm:=hm Bd Bc Bb qj hI
         clear hI cx
         refine bg ?_
         refine bq ?_
         refine oPe T hS 3 [] [(26,I qj),(27,Sl ib bp hZ),(28,I ep)] fun a hS=>?_
         obtain ⟨hq,hm⟩:=hm
         refine op1 (index (e:=43) (k:=.i64) T hS kr kr kr kr h225 kr kr hq.1 hq.2 ?_)
         intro R9 a h233 hS
         refine op1 (dW T hS kr kr kr h233 rfl kr ?_)
         intro v234 a hv hS
         obtain ⟨Rm,Rj,hv,h237⟩:=hv
         cases hv
         replace hm:=hm (h237.sm kr)
         refine ePe T hS [26,27,28,29,30] [(32,B (decide (qj < (lN (gi bp ep)))))] fun a hS=>?_
         refine aJ hS (b:=decide (qj < (lN (gi bp ep)))) kr (fun hb=>?_) fun hb=>?_
         ·replace hm:=hm.1 hb
          refine aM ?_
          refine cb (fun a w=>∃ (Z:Nat->Nat) (X:Nat->Nat) (Ba:List (List Int)) (A9:List (List Int)) (DH:Bool) (lh:Option Addr) (lg:Nat) (ER:Option Addr) (EE:Nat),VC39_J6 I4 μ4 Bd Bc Bb qj Ba A9 DH/\St Tryz.f39.ntmps ⟨[(0,I n_),(3,Sl lh Ba lg),(4,Sl ib bp hZ),(5,Sl ER A9 EE),(6,I ep),(7,I iJ),(8,B DH),(9,I qj)],[]⟩ Z a w X/\Old w0 X0 w X/\OS (cd tI) 43 w X 1003 lh Ba lg/\RS (cd tI) w X ib bp hZ/\OS (cd tI) 43 w X 1006 ER A9 EE) ?_ ?_
          ·refine aN ?_
           refine region ?_
           refine oPe T hS 2 [32] [(36,B Bb)] fun a hS=>?_
           rcases bft Bb with hb | hb
           ·replace hS:=hS.lit (t:=36) kr hb
            replace hm:=hm.1 hb
            refine ePe T hS [36] [(8,B true)] fun a hS=>?_
            exact ⟨Z,_,Bd,Bc,true,kD,ky,AQ,AG,hm,hS.sl _,hO,h224,h225,h229⟩
           replace hS:=hS.lit (t:=36) kr hb
           replace hm:=hm.2 hb
           refine oPe T hS 2 [] [(37,Sl ib bp hZ),(38,I ep)] fun a hS=>?_
           obtain ⟨hq,hm⟩:=hm
           refine op1 (index (e:=43) (k:=.i64) T hS kr kr kr kr h225 kr kr hq.1 hq.2 ?_)
           intro R8 a h249 hS
           refine op1 (dW T hS kr kr kr h249 rfl kr ?_)
           intro v250 a hv hS
           obtain ⟨Ht,Ho,hv,h253⟩:=hv
           cases hv
           replace hm:=hm (h253.sm kr)
           refine oPe T hS 1 [37,38,39] [(41,I qj)] fun a hS=>?_
           obtain ⟨hq,hm⟩:=hm
           refine op1 (index (e:=3) (k:=.i64) T hS kr kr kr kr h253 kr kr hq.1 hq.2 ?_)
           intro R7 a h255 hS
           refine op1 (dW T hS kr kr kr h255 rfl kr ?_)
           intro v256 a hv hS
           cases hv
           refine ePe T hS [36,40,41,42,43] [(8,B ((gi (gi bp ep) qj) == iJ))] fun a hS=>?_
           exact ⟨Z,_,Bd,Bc,((gi (gi bp ep) qj) == iJ),kD,ky,AQ,AG,hm,hS.sl _,hO,h224,h225,h229⟩
          rintro a KS ⟨Z,Rz,Ba,A9,DH,lh,lg,ER,EE,hm,hS,hO,h241,h242,h246⟩
          unfold VC39_J6 at hm
          refine region (ePe T hS [] [(9,I (wR (qj+1)))] fun a hS=>?_)
          exact ⟨⟨Ba,A9,DH,wR (qj+1)⟩,⟨Z,_,lh,lg,ER,EE,hm.1,hS.sl _,hO,h241,h242,h246⟩,hm.2⟩
         replace hm:=hm.2 hb
         refine cm (by rfl) ?_
         exact ⟨Z,_,Bd,Bc,Bb,kD,ky,AQ,AG,hm,hS.sl _,hO,h224,h225,h229⟩
        rintro a KR ⟨Z,Ry,zC,tg,pS,Dd,CV,Dc,CU,hm,hS,hO,h179,h180,h184⟩
        unfold VC39_J5 at hm
        refine rPe T hS [8] [(48,B (!pS))] fun a hS=>?_
        refine aJ hS (b:=(!pS)) kr (fun hb=>?_) fun hb=>?_
        ·replace hm:=hm.1 hb
         refine region ?_
         refine oPe T hS 1 [48] [(49,Sl Dc tg CU)] fun a hS=>?_
         refine op1 (lit (E:=3) (col:=1051) (T:=tI) (vals:=[]) (ys:=([]:List Int)) T hS kr kr kr kr trivial rfl kr kr kr kr ?_)
         intro b186 a PE Ka hE h189 hN hS
         clear hN
         replace hO:=hO.m2 hE
         replace h179:=h179.m2 hE
         replace h180:=h180.m1 hE
         replace h184:=h184.m2 hE
         refine oPe T hS 2 [] [(51,Sl ib bp hZ),(52,I ep)] fun a hS=>?_
         obtain ⟨hq,hm⟩:=hm
         refine op1 (index (e:=43) (k:=.i64) T hS kr kr kr kr h180 kr kr hq.1 hq.2 ?_)
         intro Ko a h191 hS
         refine op1 (dW T hS kr kr kr h191 rfl kr ?_)
         intro v192 a hv hS
         obtain ⟨Ro,Rl,hv,h195⟩:=hv
         cases hv
         replace hm:=hm (h195.sm kr)
         obtain ⟨hq,hm⟩:=hm
         obtain ⟨news,hN⟩:=h195.src
         refine op1 (append (E:=3) (T:=tI) (col:=1051) (xs:=([]:List Int)) T hS kr kr kr kr h189 hN kr kr kr kr hq ?_)
         intro Rn Rk a Ic NM hE h198 hS
         clear hq hN
         clear h189
         replace hO:=hO.m2 hE
         replace h179:=h179.m2 hE
         replace h180:=h180.m1 hE
         replace h184:=h184.m2 hE
         replace h191:=h191.m1 hE
         replace h195:=h195.m1 hE
         refine oPe T hS 1 [51,52,53,54] [(56,I iJ)] fun a hS=>?_
         refine op1 (lit (E:=3) (col:=0) (T:=tI) (vals:=[.int .i64 iJ]) (ys:=[iJ]) T hS kr kr kr kr (by exact ⟨rfl,trivial⟩) rfl kr kr kr kr ?_)
         intro b201 a Ia J7 hE h204 hN hS
         clear hN
         replace hO:=hO.m2 hE
         replace h179:=h179.m2 hE
         replace h180:=h180.m1 hE
         replace h184:=h184.m2 hE
         replace h198:=h198.m2 hE
         replace h204:=h204.rs0
         obtain ⟨hq,hm⟩:=hm
         obtain ⟨news,hN⟩:=h204.src
         refine op1 (append (E:=3) (T:=tI) (col:=1051) (xs:=([]:List Int)++(gi bp ep)) T hS kr kr kr kr h198 hN kr kr kr kr hq ?_)
         intro JY JJ a H8 Hx hE h207 hS
         clear hq hN
         clear h198
         replace hO:=hO.m2 hE
         replace h179:=h179.m2 hE
         replace h180:=h180.m1 hE
         replace h184:=h184.m2 hE
         replace h204:=h204.m1 hE
         obtain ⟨NF,hE,hF⟩:=h207.freeze (by decide)
         replace hS:=hS.ev hE (cA kr)
         replace hO:=hO.m2 hE
         replace h179:=h179.m2 hE
         replace h180:=h180.m1 hE
         replace h184:=h184.m2 hE
         replace h204:=h204.m1 hE
         have h211:=hF; clear hE hF
         refine op1 (lit (E:=43) (col:=0) (T:=(cd tI)) (vals:=[.slice JY ((([]:List Int)++(gi bp ep))++[iJ]).length JJ]) (ys:=[(([]:List Int)++(gi bp ep))++[iJ]]) T hS kr kr kr kr (by exact ⟨⟨JY,JJ,rfl,h211⟩,trivial⟩) rfl kr kr kr kr ?_)
         intro b212 a KY RN hE h215 hN hS
         clear hN
         replace hO:=hO.m2 hE
         replace h179:=h179.m2 hE
         replace h180:=h180.m1 hE
         replace h184:=h184.m2 hE
         replace h204:=h204.m1 hE
         replace h211:=h211.m1 hE
         replace h215:=h215.rs0
         obtain ⟨hq,hm⟩:=hm
         obtain ⟨news,hN⟩:=h215.src
         refine op1 (append (E:=43) (T:=(cd tI)) (col:=1006) (xs:=tg) T hS kr kr kr kr h184 hN kr kr kr kr hq ?_)
         intro m7 mY a KX ND hE h218 hS
         clear hq hN
         clear h184
         replace hO:=hO.m2 hE
         replace h179:=h179.m2 hE
         replace h180:=h180.m1 hE
         replace h204:=h204.m1 hE
         replace h211:=h211.m1 hE
         replace h215:=h215.m1 hE
         refine ePe T hS [56,57,58,59,60] [(5,Sl m7 (tg++[(([]:List Int)++(gi bp ep))++[iJ]]) mY)] fun a hS=>?_
         exact ⟨Z,_,zC,tg++[(([]:List Int)++(gi bp ep))++[iJ]],Dd,CV,m7,mY,hm,hS.sl _,hO,h179,h180,h218⟩
        replace hm:=hm.2 hb
        refine aM ?_
        exact ⟨Z,_,zC,tg,Dd,CV,Dc,CU,hm,hS.sl _,hO,h179,h180,h184⟩
       rintro a Ph ⟨Z,Nx,Bg,pT,EU,EH,ET,EG,hm,hS,hO,h170,h171,h175⟩
       unfold VC39_J4 at hm
       refine region (ePe T hS [] [(7,I (wR (iJ+1)))] fun a hS=>?_)
       exact ⟨⟨Bg,pT,wR (iJ+1)⟩,⟨Z,_,EU,EH,ET,EG,hm.1,hS.sl _,hO,h170,h171,h175⟩,hm.2⟩
      replace hm:=hm.2 hb
      refine cm (by rfl) ?_
      exact ⟨Z,_,Bi,rT,Df,CX,De,CW,hm,hS.sl _,hO,h160,h161,h165⟩
     rintro a Pg ⟨Z,Nw,mS,nW,kP,kN,EW,EJ,hm,hS,hO,h151,h152,h156⟩
     unfold VC39_J3 at hm
     refine region (ePe T hS [] [(6,I (wR (ep+1)))] fun a hS=>?_)
     exact ⟨⟨mS,nW,wR (ep+1)⟩,⟨Z,_,kP,kN,EW,EJ,hm.1,hS.sl _,hO,h151,h152,h156⟩,hm.2⟩
    replace hm:=hm.2 hb
    refine cm (by rfl) ?_
    exact ⟨Z,_,qm,mj,xV,xU,oL,oG,hm,hS.sl _,hO,h141,h146⟩
   rintro a Pf ⟨Z,Nv,eL,c9,ia,hY,iH,iG,hm,hS,hO,h126,h130⟩
   unfold VC39_J2 at hm
   refine bq ?_
   refine oPe T hS 2 [] [(61,Sl ia eL hY),(62,Sl iH c9 iG)] fun a hS=>?_
   obtain ⟨hq,hm⟩:=hm
   obtain ⟨news,hN⟩:=h130.src
   refine op1 (append (E:=43) (T:=(cd tI)) (col:=1003) (xs:=eL) T hS kr kr kr kr h126 hN kr kr kr kr hq ?_)
   intro pn pd a pU pq hE h133 hS
   clear hq hN
   clear h126
   replace hO:=hO.m2 hE
   replace h130:=h130.m2 hE
   refine ePe T hS [62,63] [(3,Sl pn (eL++c9) pd)] fun a hS=>?_
   refine region ?_
   refine oPe T hS 1 [5] [(64,Sl iH c9 iG)] fun a hS=>?_
   obtain ⟨Kk,hE,hF⟩:=h130.freeze (by decide)
   replace hS:=hS.ev hE (cA kr)
   replace hO:=hO.m2 hE
   replace h133:=h133.m2 hE
   have h137:=hF; clear hE hF
   refine op1 (gU T hS kr kr kr (sv:=Sl iH c9 iG) kr ?_)
   intro a hS
   refine gY ?_
   exact ⟨⟨eL++c9,c9⟩,⟨Z,_,pn,pd,iH,iG,hm.1,hS.sl _,hO,h133,h137⟩,hm.2⟩
  replace hm:=hm.2 hb
  refine cm (by rfl) ?_
  exact ⟨Z,_,bw,dY,dX,hm,hS.sl _,hO,h118⟩
 rintro a Pd ⟨Z,Ru,cr,fg,ff,hm,hS,hO,h112⟩
 unfold VC39_J1 at hm
 refine rPe T hS [3] [(2,Sl fg cr ff)] fun a hS=>?_
 refine aY ?_
 obtain ⟨rN,hE,hF⟩:=h112.freeze (by decide)
 replace hS:=hS.ev hE (cA kr)
 replace hO:=hO.m2 hE
 have h114:=hF; clear hE hF
 exact fin T hS hO (fun c=>c) rfl (r:=[.slice fg cr.length ff]) kr (fun X' hM hC=>⟨cr,hm,fg,ff,rfl,h114.m0 hM⟩)
theorem C39 (v:∀ (n_:Int),yq n_->VC39 n_ (fun r=>r=dh n_)):S39:=by
 intro w X n_    hp 
 refine (W39 w X n_    _ (v n_ hp)).mono ?_
 rintro _ _ _ _ ⟨r,rfl,h⟩
 exact h
end Go.Proofs.YteahldlmkheleaaGreat
