import Derived.Test.YteahldlmkheleaaGreatLWalksS
set_option linter.all false
namespace Go.Proofs.YteahldlmkheleaaGreat
open Go Go.Sv
set_option maxHeartbeats 1000000
theorem W39 (w0) (X0) (n_:Int) (Q:(List (List Int))->Prop) (hm:VC39 n_ Q) :
  Ret Tryz.prog 39 #[.int .i64 n_] aI w0 X0 (fun w X' v=>∃ r,Q r/\∃ co cn,v=.slice co r.length cn/\RS (b7 tI) w X' co r cn):=by
 unfold VC39 at hm
 refine enter Tryz.func39 rfl (vals:=[.int .i64 n_]) kr ?_
 intro Z a hS hO hM
 refine rPe T hS [] [] fun a hS=>?_
 refine bl ?_
 refine op1 (lit (E:=43) (col:=1003) (T:=(b7 tI)) (vals:=[.slice none 0 0]) (ys:=([[]]:List (List Int))) T hS kr kr kr kr (by exact ⟨⟨none,0,rfl,RS.empty _ _ _⟩,trivial⟩) rfl kr kr kr kr ?_)
 intro b101 a eX e8 hE h104 hN hS
 clear hN
 replace hO:=hO.m2 hE
 refine ePe T hS [10] [(3,Sl (some ⟨b101,0,none⟩) ([[]]:List (List Int)) 1)] fun a hS=>?_
 refine bl ?_
 refine op1 (lit (E:=43) (col:=0) (T:=(b7 tI)) (vals:=[.slice none 0 0]) (ys:=([[]]:List (List Int))) T hS kr kr kr kr (by exact ⟨⟨none,0,rfl,RS.empty _ _ _⟩,trivial⟩) rfl kr kr kr kr ?_)
 intro b105 a mD mj hE h108 hN hS
 clear hN
 replace hO:=hO.m2 hE
 replace h104:=h104.m2 hE
 replace h108:=h108.rs0
 refine ePe T hS [11] [(4,Sl (some ⟨b105,0,none⟩) ([[]]:List (List Int)) 1)] fun a hS=>?_
 refine b5 (fun a w=>∃ (Z:Nat->Nat) (X:Nat->Nat) (ce:List (List Int)) (eR:Option Addr) (d9:Nat),VC39_J1 Q ce/\St Tryz.f39.ntmps ⟨[(3,Sl eR ce d9)],[]⟩ Z a w X/\Old w0 X0 w X/\OS (b7 tI) 43 w X 1003 eR ce d9) ?_ ?_
 ·refine aK ?_
  obtain ⟨I1,μ1,ci,hm⟩:=hm
  refine cg (σ:=(List (List Int)) × (List (List Int))) (fun s a w=>∃ Z X dN dM gO gL,I1 s.1 s.2/\St Tryz.f39.ntmps ⟨[(0,I n_),(3,Sl dN s.1 dM),(4,Sl gO s.2 gL)],[]⟩ Z a w X/\Old w0 X0 w X/\OS (b7 tI) 43 w X 1003 dN s.1 dM/\RS (b7 tI) w X gO s.2 gL) (fun s=>μ1 s.1 s.2) (⟨([[]]:List (List Int)),([[]]:List (List Int))⟩) ?_ ?_
  ·exact ⟨Z,_,(some ⟨b101,0,none⟩),1,(some ⟨b105,0,none⟩),1,ci,hS.sl _,hO,h104,h108⟩
  rintro ⟨bo,bi⟩ a NK ⟨Z,P4,dN,dM,gO,gL,hI,hS,hO,h118,h122⟩
  replace hm:=hm bo bi hI
  clear hI ci
  refine bc ?_
  refine rPe T hS [] [(14,B (decide ((lN bi) > 0)))] fun a hS=>?_
  refine aG hS (b:=decide ((lN bi) > 0)) kr (fun hb=>?_) fun hb=>?_
  ·replace hm:=hm.1 hb
   refine aJ ?_
   refine aK ?_
   refine rPe T hS [14] [(5,V (.slice none 0 0))] fun a hS=>?_
   refine b5 (fun a w=>∃ (Z:Nat->Nat) (X:Nat->Nat) (d5:List (List Int)) (cU:List (List Int)) (gN:Option Addr) (gK:Nat) (hZ:Option Addr) (hY:Nat),VC39_J2 I1 μ1 bo bi d5 cU/\St Tryz.f39.ntmps ⟨[(0,I n_),(3,Sl gN d5 gK),(5,Sl hZ cU hY)],[]⟩ Z a w X/\Old w0 X0 w X/\OS (b7 tI) 43 w X 1003 gN d5 gK/\OS (b7 tI) 43 w X 1006 hZ cU hY) ?_ ?_
   ·refine rPe T hS [] [(6,I 0)] fun a hS=>?_
    refine aK ?_
    obtain ⟨I2,μ2,ci,hm⟩:=hm
    refine cg (σ:=(List (List Int)) × (List (List Int)) × Int) (fun s a w=>∃ Z X wC ww nP nK,I2 s.1 s.2.1 s.2.2/\St Tryz.f39.ntmps ⟨[(0,I n_),(3,Sl wC s.1 ww),(4,Sl gO bi gL),(5,Sl nP s.2.1 nK),(6,I s.2.2)],[]⟩ Z a w X/\Old w0 X0 w X/\OS (b7 tI) 43 w X 1003 wC s.1 ww/\RS (b7 tI) w X gO bi gL/\OS (b7 tI) 43 w X 1006 nP s.2.1 nK) (fun s=>μ2 s.1 s.2.1 s.2.2) (⟨bo,[],0⟩) ?_ ?_
    ·exact ⟨Z,_,dN,dM,none,0,ci,hS.sl _,hO,h118,h122,(OS.nil _ _ _ _ _)⟩
    rintro ⟨px,lC,dT⟩ a Jv ⟨Z,P5,wC,ww,nP,nK,hI,hS,hO,h141,h142,h146⟩
    replace hm:=hm px lC dT hI
    clear hI ci
    refine bc ?_
    refine rPe T hS [] [(18,B (decide (dT < (lN bi))))] fun a hS=>?_
    refine aG hS (b:=decide (dT < (lN bi))) kr (fun hb=>?_) fun hb=>?_
    ·replace hm:=hm.1 hb
     refine aJ ?_
     refine b5 (fun a w=>∃ (Z:Nat->Nat) (X:Nat->Nat) (l8:List (List Int)) (m7:List (List Int)) (j6:Option Addr) (jY:Nat) (DG:Option Addr) (Dv:Nat),VC39_J3 I2 μ2 px lC dT l8 m7/\St Tryz.f39.ntmps ⟨[(0,I n_),(3,Sl j6 l8 jY),(4,Sl gO bi gL),(5,Sl DG m7 Dv),(6,I dT)],[]⟩ Z a w X/\Old w0 X0 w X/\OS (b7 tI) 43 w X 1003 j6 l8 jY/\RS (b7 tI) w X gO bi gL/\OS (b7 tI) 43 w X 1006 DG m7 Dv) ?_ ?_
     ·refine aK ?_
      refine rPe T hS [18] [(7,I 0)] fun a hS=>?_
      refine aK ?_
      obtain ⟨I3,μ3,ci,hm⟩:=hm
      refine cg (σ:=(List (List Int)) × (List (List Int)) × Int) (fun s a w=>∃ Z X B0 BJ BZ BI,I3 s.1 s.2.1 s.2.2/\St Tryz.f39.ntmps ⟨[(0,I n_),(3,Sl B0 s.1 BJ),(4,Sl gO bi gL),(5,Sl BZ s.2.1 BI),(6,I dT),(7,I s.2.2)],[]⟩ Z a w X/\Old w0 X0 w X/\OS (b7 tI) 43 w X 1003 B0 s.1 BJ/\RS (b7 tI) w X gO bi gL/\OS (b7 tI) 43 w X 1006 BZ s.2.1 BI) (fun s=>μ3 s.1 s.2.1 s.2.2) (⟨px,lC,0⟩) ?_ ?_
      ·exact ⟨Z,_,wC,ww,nP,nK,ci,hS.sl _,hO,h141,h142,h146⟩
      rintro ⟨z5,qQ,ia⟩ a Jw ⟨Z,P6,B0,BJ,BZ,BI,hI,hS,hO,h160,h161,h165⟩
      replace hm:=hm z5 qQ ia hI
      clear hI ci
      refine bc ?_
      refine rPe T hS [] [(23,B (decide (ia < n_)))] fun a hS=>?_
      refine aG hS (b:=decide (ia < n_)) kr (fun hb=>?_) fun hb=>?_
      ·replace hm:=hm.1 hb
       refine aJ ?_
       refine b5 (fun a w=>∃ (Z:Nat->Nat) (X:Nat->Nat) (z3:List (List Int)) (oV:List (List Int)) (DE:Option Addr) (Dt:Nat) (DD:Option Addr) (Ds:Nat),VC39_J4 I3 μ3 z5 qQ ia z3 oV/\St Tryz.f39.ntmps ⟨[(0,I n_),(3,Sl DE z3 Dt),(4,Sl gO bi gL),(5,Sl DD oV Ds),(6,I dT),(7,I ia)],[]⟩ Z a w X/\Old w0 X0 w X/\OS (b7 tI) 43 w X 1003 DE z3 Dt/\RS (b7 tI) w X gO bi gL/\OS (b7 tI) 43 w X 1006 DD oV Ds) ?_ ?_
       ·refine aK ?_
        refine rPe T hS [23] [(8,B false)] fun a hS=>?_
        refine b5 (fun a w=>∃ (Z:Nat->Nat) (X:Nat->Nat) (yc:List (List Int)) (rY:List (List Int)) (oU:Bool) (BX:Option Addr) (BH:Nat) (BW:Option Addr) (BG:Nat),VC39_J5 bi dT I3 μ3 z5 qQ ia yc rY oU/\St Tryz.f39.ntmps ⟨[(0,I n_),(3,Sl BX yc BH),(4,Sl gO bi gL),(5,Sl BW rY BG),(6,I dT),(7,I ia),(8,B oU)],[]⟩ Z a w X/\Old w0 X0 w X/\OS (b7 tI) 43 w X 1003 BX yc BH/\RS (b7 tI) w X gO bi gL/\OS (b7 tI) 43 w X 1006 BW rY BG) ?_ ?_
        ·refine rPe T hS [] [(9,I 0)] fun a hS=>?_
         refine aK ?_
         obtain ⟨I4,μ4,ci,hm⟩:=hm
         refine cg (σ:=(List (List Int)) × (List (List Int)) × Bool × Int) (fun s a w=>∃ Z X jP jL zC zp,I4 s.1 s.2.1 s.2.2.1 s.2.2.2/\St Tryz.f39.ntmps ⟨[(0,I n_),(3,Sl jP s.1 jL),(4,Sl gO bi gL),(5,Sl zC s.2.1 zp),(6,I dT),(7,I ia),(8,B s.2.2.1),(9,I s.2.2.2)],[]⟩ Z a w X/\Old w0 X0 w X/\OS (b7 tI) 43 w X 1003 jP s.1 jL/\RS (b7 tI) w X gO bi gL/\OS (b7 tI) 43 w X 1006 zC s.2.1 zp) (fun s=>μ4 s.1 s.2.1 s.2.2.1 s.2.2.2) (⟨z5,qQ,false,0⟩) ?_ ?_
         ·exact ⟨Z,_,B0,BJ,BZ,BI,ci,hS.sl _,hO,h160,h161,h165⟩
         rintro ⟨zY,zX,zW,pl⟩ a NO ⟨Z,L7,jP,jL,zC,zp,hI,hS,hO,h224,h225,h229⟩
         replace hm:=hm zY zX zW pl hI
         clear hI ci
         refine bc ?_
         refine bl ?_
         refine oPe T hS 3 [] [(26,I pl),(27,Sl gO bi gL),(28,I dT)] fun a hS=>?_
         obtain ⟨hq,hm⟩:=hm
         refine op1 (index (e:=43) (k:=.i64) T hS kr kr kr kr h225 kr kr hq.1 hq.2 ?_)
         intro QE a h233 hS
         refine op1 (dL T hS kr kr kr h233 rfl kr ?_)
         intro v234 a hv hS
         obtain ⟨PU,PR,hv,h237⟩:=hv
         cases hv
         replace hm:=hm (h237.sm kr)
         refine ePe T hS [26,27,28,29,30] [(32,B (decide (pl < (lN (gi bi dT)))))] fun a hS=>?_
         refine aG hS (b:=decide (pl < (lN (gi bi dT)))) kr (fun hb=>?_) fun hb=>?_
         ·replace hm:=hm.1 hb
          refine aJ ?_
          refine b5 (fun a w=>∃ (Z:Nat->Nat) (X:Nat->Nat) (zV:List (List Int)) (zU:List (List Int)) (Cq:Bool) (kx:Option Addr) (kw:Nat) (DB:Option Addr) (Dp:Nat),VC39_J6 I4 μ4 zY zX zW pl zV zU Cq/\St Tryz.f39.ntmps ⟨[(0,I n_),(3,Sl kx zV kw),(4,Sl gO bi gL),(5,Sl DB zU Dp),(6,I dT),(7,I ia),(8,B Cq),(9,I pl)],[]⟩ Z a w X/\Old w0 X0 w X/\OS (b7 tI) 43 w X 1003 kx zV kw/\RS (b7 tI) w X gO bi gL/\OS (b7 tI) 43 w X 1006 DB zU Dp) ?_ ?_
          ·refine aK ?_
           refine region ?_
           refine oPe T hS 2 [32] [(36,B zW)] fun a hS=>?_
           rcases bft zW with hb | hb
           ·replace hS:=hS.lit (t:=36) kr hb
            replace hm:=hm.1 hb
            refine ePe T hS [36] [(8,B true)] fun a hS=>?_
            exact ⟨Z,_,zY,zX,true,jP,jL,zC,zp,hm,hS.sl _,hO,h224,h225,h229⟩
           replace hS:=hS.lit (t:=36) kr hb
           replace hm:=hm.2 hb
           refine oPe T hS 2 [] [(37,Sl gO bi gL),(38,I dT)] fun a hS=>?_
           obtain ⟨hq,hm⟩:=hm
           refine op1 (index (e:=43) (k:=.i64) T hS kr kr kr kr h225 kr kr hq.1 hq.2 ?_)
           intro QD a h249 hS
           refine op1 (dL T hS kr kr kr h249 rfl kr ?_)
           intro v250 a hv hS
           obtain ⟨Gb,F6,hv,h253⟩:=hv
           cases hv
           replace hm:=hm (h253.sm kr)
           refine oPe T hS 1 [37,38,39] [(41,I pl)] fun a hS=>?_
           obtain ⟨hq,hm⟩:=hm
           refine op1 (index (e:=3) (k:=.i64) T hS kr kr kr kr h253 kr kr hq.1 hq.2 ?_)
           intro QC a h255 hS
           refine op1 (dL T hS kr kr kr h255 rfl kr ?_)
           intro v256 a hv hS
           cases hv
           refine ePe T hS [36,40,41,42,43] [(8,B ((gi (gi bi dT) pl) == ia))] fun a hS=>?_
           exact ⟨Z,_,zY,zX,((gi (gi bi dT) pl) == ia),jP,jL,zC,zp,hm,hS.sl _,hO,h224,h225,h229⟩
          rintro a Jy ⟨Z,P8,zV,zU,Cq,kx,kw,DB,Dp,hm,hS,hO,h241,h242,h246⟩
          unfold VC39_J6 at hm
          refine region (ePe T hS [] [(9,I (wR (pl+1)))] fun a hS=>?_)
          exact ⟨⟨zV,zU,Cq,wR (pl+1)⟩,⟨Z,_,kx,kw,DB,Dp,hm.1,hS.sl _,hO,h241,h242,h246⟩,hm.2⟩
         replace hm:=hm.2 hb
         refine cb (by rfl) ?_
         exact ⟨Z,_,zY,zX,zW,jP,jL,zC,zp,hm,hS.sl _,hO,h224,h225,h229⟩
        rintro a Jx ⟨Z,P7,yc,rY,oU,BX,BH,BW,BG,hm,hS,hO,h179,h180,h184⟩
        unfold VC39_J5 at hm
        refine rPe T hS [8] [(48,B (!oU))] fun a hS=>?_
        refine aG hS (b:=(!oU)) kr (fun hb=>?_) fun hb=>?_
        ·replace hm:=hm.1 hb
         refine region ?_
         refine oPe T hS 1 [48] [(49,Sl BW rY BG)] fun a hS=>?_
         refine op1 (lit (E:=3) (col:=1051) (T:=tI) (vals:=[]) (ys:=([]:List Int)) T hS kr kr kr kr trivial rfl kr kr kr kr ?_)
         intro b186 a N7 IL hE h189 hN hS
         clear hN
         replace hO:=hO.m2 hE
         replace h179:=h179.m2 hE
         replace h180:=h180.m1 hE
         replace h184:=h184.m2 hE
         refine oPe T hS 2 [] [(51,Sl gO bi gL),(52,I dT)] fun a hS=>?_
         obtain ⟨hq,hm⟩:=hm
         refine op1 (index (e:=43) (k:=.i64) T hS kr kr kr kr h180 kr kr hq.1 hq.2 ?_)
         intro I0 a h191 hS
         refine op1 (dL T hS kr kr kr h191 rfl kr ?_)
         intro v192 a hv hS
         obtain ⟨PW,PT,hv,h195⟩:=hv
         cases hv
         replace hm:=hm (h195.sm kr)
         obtain ⟨hq,hm⟩:=hm
         obtain ⟨news,hN⟩:=h195.src
         refine op1 (append (E:=3) (T:=tI) (col:=1051) (xs:=([]:List Int)) T hS kr kr kr kr h189 hN kr kr kr kr hq ?_)
         intro PV PS a GT Mk hE h198 hS
         clear hq hN
         clear h189
         replace hO:=hO.m2 hE
         replace h179:=h179.m2 hE
         replace h180:=h180.m1 hE
         replace h184:=h184.m2 hE
         replace h191:=h191.m1 hE
         replace h195:=h195.m1 hE
         refine oPe T hS 1 [51,52,53,54] [(56,I ia)] fun a hS=>?_
         refine op1 (lit (E:=3) (col:=0) (T:=tI) (vals:=[.int .i64 ia]) (ys:=[ia]) T hS kr kr kr kr (by exact ⟨rfl,trivial⟩) rfl kr kr kr kr ?_)
         intro b201 a GR II hE h204 hN hS
         clear hN
         replace hO:=hO.m2 hE
         replace h179:=h179.m2 hE
         replace h180:=h180.m1 hE
         replace h184:=h184.m2 hE
         replace h198:=h198.m2 hE
         replace h204:=h204.rs0
         obtain ⟨hq,hm⟩:=hm
         obtain ⟨news,hN⟩:=h204.src
         refine op1 (append (E:=3) (T:=tI) (col:=1051) (xs:=([]:List Int)++(gi bi dT)) T hS kr kr kr kr h198 hN kr kr kr kr hq ?_)
         intro Iy Ii a GP Gf hE h207 hS
         clear hq hN
         clear h198
         replace hO:=hO.m2 hE
         replace h179:=h179.m2 hE
         replace h180:=h180.m1 hE
         replace h184:=h184.m2 hE
         replace h204:=h204.m1 hE
         obtain ⟨Md,hE,hF⟩:=h207.freeze (by decide)
         replace hS:=hS.ev hE (cq kr)
         replace hO:=hO.m2 hE
         replace h179:=h179.m2 hE
         replace h180:=h180.m1 hE
         replace h184:=h184.m2 hE
         replace h204:=h204.m1 hE
         have h211:=hF; clear hE hF
         refine op1 (lit (E:=43) (col:=0) (T:=(b7 tI)) (vals:=[.slice Iy ((([]:List Int)++(gi bi dT))++[ia]).length Ii]) (ys:=[(([]:List Int)++(gi bi dT))++[ia]]) T hS kr kr kr kr (by exact ⟨⟨Iy,Ii,rfl,h211⟩,trivial⟩) rfl kr kr kr kr ?_)
         intro b212 a JE Qk hE h215 hN hS
         clear hN
         replace hO:=hO.m2 hE
         replace h179:=h179.m2 hE
         replace h180:=h180.m1 hE
         replace h184:=h184.m2 hE
         replace h204:=h204.m1 hE
         replace h211:=h211.m1 hE
         replace h215:=h215.rs0
         obtain ⟨hq,hm⟩:=hm
         obtain ⟨news,hN⟩:=h215.src
         refine op1 (append (E:=43) (T:=(b7 tI)) (col:=1006) (xs:=rY) T hS kr kr kr kr h184 hN kr kr kr kr hq ?_)
         intro mh md a JD Mc hE h218 hS
         clear hq hN
         clear h184
         replace hO:=hO.m2 hE
         replace h179:=h179.m2 hE
         replace h180:=h180.m1 hE
         replace h204:=h204.m1 hE
         replace h211:=h211.m1 hE
         replace h215:=h215.m1 hE
         refine ePe T hS [56,57,58,59,60] [(5,Sl mh (rY++[(([]:List Int)++(gi bi dT))++[ia]]) md)] fun a hS=>?_
         exact ⟨Z,_,yc,rY++[(([]:List Int)++(gi bi dT))++[ia]],BX,BH,mh,md,hm,hS.sl _,hO,h179,h180,h218⟩
        replace hm:=hm.2 hb
        refine aJ ?_
        exact ⟨Z,_,yc,rY,BX,BH,BW,BG,hm,hS.sl _,hO,h179,h180,h184⟩
       rintro a NN ⟨Z,L6,z3,oV,DE,Dt,DD,Ds,hm,hS,hO,h170,h171,h175⟩
       unfold VC39_J4 at hm
       refine region (ePe T hS [] [(7,I (wR (ia+1)))] fun a hS=>?_)
       exact ⟨⟨z3,oV,wR (ia+1)⟩,⟨Z,_,DE,Dt,DD,Ds,hm.1,hS.sl _,hO,h170,h171,h175⟩,hm.2⟩
      replace hm:=hm.2 hb
      refine cb (by rfl) ?_
      exact ⟨Z,_,z5,qQ,B0,BJ,BZ,BI,hm,hS.sl _,hO,h160,h161,h165⟩
     rintro a NM ⟨Z,L5,l8,m7,j6,jY,DG,Dv,hm,hS,hO,h151,h152,h156⟩
     unfold VC39_J3 at hm
     refine region (ePe T hS [] [(6,I (wR (dT+1)))] fun a hS=>?_)
     exact ⟨⟨l8,m7,wR (dT+1)⟩,⟨Z,_,j6,jY,DG,Dv,hm.1,hS.sl _,hO,h151,h152,h156⟩,hm.2⟩
    replace hm:=hm.2 hb
    refine cb (by rfl) ?_
    exact ⟨Z,_,px,lC,wC,ww,nP,nK,hm,hS.sl _,hO,h141,h146⟩
   rintro a NL ⟨Z,L4,d5,cU,gN,gK,hZ,hY,hm,hS,hO,h126,h130⟩
   unfold VC39_J2 at hm
   refine bl ?_
   refine oPe T hS 2 [] [(61,Sl gN d5 gK),(62,Sl hZ cU hY)] fun a hS=>?_
   obtain ⟨hq,hm⟩:=hm
   obtain ⟨news,hN⟩:=h130.src
   refine op1 (append (E:=43) (T:=(b7 tI)) (col:=1003) (xs:=d5) T hS kr kr kr kr h126 hN kr kr kr kr hq ?_)
   intro ou ol a oW ow hE h133 hS
   clear hq hN
   clear h126
   replace hO:=hO.m2 hE
   replace h130:=h130.m2 hE
   refine ePe T hS [62,63] [(3,Sl ou (d5++cU) ol)] fun a hS=>?_
   refine region ?_
   refine oPe T hS 1 [5] [(64,Sl hZ cU hY)] fun a hS=>?_
   obtain ⟨IW,hE,hF⟩:=h130.freeze (by decide)
   replace hS:=hS.ev hE (cq kr)
   replace hO:=hO.m2 hE
   replace h133:=h133.m2 hE
   have h137:=hF; clear hE hF
   refine op1 (gw T hS kr kr kr (sv:=Sl hZ cU hY) kr ?_)
   intro a hS
   refine gA ?_
   exact ⟨⟨d5++cU,cU⟩,⟨Z,_,ou,ol,hZ,hY,hm.1,hS.sl _,hO,h133,h137⟩,hm.2⟩
  replace hm:=hm.2 hb
  refine cb (by rfl) ?_
  exact ⟨Z,_,bo,dN,dM,hm,hS.sl _,hO,h118⟩
 rintro a NJ ⟨Z,P3,ce,eR,d9,hm,hS,hO,h112⟩
 unfold VC39_J1 at hm
 refine rPe T hS [3] [(2,Sl eR ce d9)] fun a hS=>?_
 refine aV ?_
 obtain ⟨qL,hE,hF⟩:=h112.freeze (by decide)
 replace hS:=hS.ev hE (cq kr)
 replace hO:=hO.m2 hE
 have h114:=hF; clear hE hF
 exact fin T hS hO (fun c=>c) rfl (r:=[.slice eR ce.length d9]) kr (fun X' hM hC=>⟨ce,hm,eR,d9,rfl,h114.m0 hM⟩)
theorem C39 (v:∀ (n_:Int),w8 n_->VC39 n_ (fun r=>r=c7 n_)):S39:=by
 intro w X n_    hp 
 refine (W39 w X n_    _ (v n_ hp)).mono ?_
 rintro _ _ _ _ ⟨r,rfl,h⟩
 exact h
end Go.Proofs.YteahldlmkheleaaGreat
