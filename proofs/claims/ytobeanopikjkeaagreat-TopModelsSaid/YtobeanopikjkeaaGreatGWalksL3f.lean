/- Walks of the functions: each returns what its condition asks. Condition: the contracts of its callees, handed in. -/
import Derived.Test.YtobeanopikjkeaaGreatGWalksS
set_option linter.all false
namespace Go.Proofs.YtobeanopikjkeaaGreat
open Go Go.Sv
set_option maxHeartbeats 1000000
theorem W28 (w0) (X0) (n_:Int) (Q:(List (List Int))->Prop) (hm:VC28 n_ Q) :
  rt 28 #[ii n_] aB w0 X0 (fun w X' v=>∃ r,Q r/\∃ dg de,v=.slice dg r.length de/\RS (aA tI) w X' dg r de):=by
 unfold VC28 at hm
 refine enter Tryz.func28 rfl (vals:=[ii n_]) kr ?_
 intro Z a hS hO hM
 refine rPe T hS [] [] fun a hS=>(bk ?_)
 refine op1 (lit (E:=79) (col:=1003) (T:=(aA tI)) (vals:=[.slice none 0 0]) (ys:=([[]]:List (List Int))) T hS kr kr kr kr (by exact ⟨⟨none,0,rfl,RS.empty _ _ _⟩,trivial⟩) rfl kr kr kr kr ?_)
 intro b101 a eI eN hE h104 hN hS
 clear hN
 replace hO:=hO.m2 hE
 refine ePe T hS [10] [(3,Sl (some ⟨b101,0,none⟩) ([[]]:List (List Int)) 1)] fun a hS=>(bk ?_)
 refine op1 (lit (E:=79) (col:=0) (T:=(aA tI)) (vals:=[.slice none 0 0]) (ys:=([[]]:List (List Int))) T hS kr kr kr kr (by exact ⟨⟨none,0,rfl,RS.empty _ _ _⟩,trivial⟩) rfl kr kr kr kr ?_)
 intro b105 a o9 qf hE h108 hN hS
 clear hN
 have ⟨hO,h104⟩:=e2e hE hO.m2 h104.m2
 replace h108:=h108.rs0
 refine ePe T hS [11] [(4,Sl (some ⟨b105,0,none⟩) ([[]]:List (List Int)) 1)] fun a hS=>(cg (fun a w=>∃ Z X,∃ (oo:List (List Int)) (nj:Option Addr) (nh:Nat),VC28_J1 Q oo/\St Tryz.f28.ntmps ⟨[(3,Sl nj oo nh)],[]⟩ Z a w X/\Old w0 X0 w X/\OS (aA tI) 79 w X 1003 nj oo nh) ?_ ?_)
 ·refine aH ?_
  obtain ⟨I1,μ1,cC,hm⟩:=hm
  refine cu (σ:=(List (List Int)) × (List (List Int))) (fun s a w=>∃ Z X dT dS kG kE,I1 s.1 s.2/\St Tryz.f28.ntmps ⟨[(0,I n_),(3,Sl dT s.1 dS),(4,Sl kG s.2 kE)],[]⟩ Z a w X/\Old w0 X0 w X/\OS (aA tI) 79 w X 1003 dT s.1 dS/\RS (aA tI) w X kG s.2 kE) (fun s=>μ1 s.1 s.2) (⟨([[]]:List (List Int)),([[]]:List (List Int))⟩) ?_ ?_
  ·exact ⟨Z,_,(some ⟨b101,0,none⟩),1,(some ⟨b105,0,none⟩),1,cC,hS.sl _,hO,h104,h108⟩
  rintro ⟨ba,cn⟩ a Yc ⟨Z,abS,dT,dS,kG,kE,hI,hS,hO,h118,h122⟩
  replace hm:=hm ba cn hI
  clear hI cC
  refine a8 (rPe T hS [] [(14,B (decide ((lN cn) > 0)))] fun a hS=>?_)
  refine aC hS (b:=decide ((lN cn) > 0)) kr (fun hb=>?_) fun hb=>?_
  ·replace hm:=hm.1 hb
   refine aI (aH ?_)
   refine rPe T hS [14] [(5,V (.slice none 0 0))] fun a hS=>(cg (fun a w=>∃ Z X,∃ (gz:List (List Int)) (bP:List (List Int)) (iG:Option Addr) (iE:Nat) (gE:Option Addr) (gC:Nat),VC28_J2 I1 μ1 ba cn gz bP/\St Tryz.f28.ntmps ⟨[(0,I n_),(3,Sl iG gz iE),(5,Sl gE bP gC)],[]⟩ Z a w X/\Old w0 X0 w X/\OS (aA tI) 79 w X 1003 iG gz iE/\OS (aA tI) 79 w X 1006 gE bP gC) ?_ ?_)
   ·refine rPe T hS [] [(6,I 0)] fun a hS=>(aH ?_)
    obtain ⟨I2,μ2,cC,hm⟩:=hm
    refine cu (σ:=(List (List Int)) × (List (List Int)) × Int) (fun s a w=>∃ Z X He GY lv lq,I2 s.1 s.2.1 s.2.2/\St Tryz.f28.ntmps ⟨[(0,I n_),(3,Sl He s.1 GY),(4,Sl kG cn kE),(5,Sl lv s.2.1 lq),(6,I s.2.2)],[]⟩ Z a w X/\Old w0 X0 w X/\OS (aA tI) 79 w X 1003 He s.1 GY/\RS (aA tI) w X kG cn kE/\OS (aA tI) 79 w X 1006 lv s.2.1 lq) (fun s=>μ2 s.1 s.2.1 s.2.2) (⟨ba,[],0⟩) ?_ ?_
    ·exact ⟨Z,_,dT,dS,none,0,cC,hS.sl _,hO,h118,h122,(OS.nil _ _ _ _ _)⟩
    rintro ⟨iT,mF,jN⟩ a SH ⟨Z,abU,He,GY,lv,lq,hI,hS,hO,h141,h142,h146⟩
    replace hm:=hm iT mF jN hI
    clear hI cC
    refine a8 (rPe T hS [] [(18,B (decide (jN < (lN cn))))] fun a hS=>?_)
    refine aC hS (b:=decide (jN < (lN cn))) kr (fun hb=>?_) fun hb=>?_
    ·replace hm:=hm.1 hb
     refine aI (cg (fun a w=>∃ Z X,∃ (Et:List (List Int)) (jf:List (List Int)) (AI:Option Addr) (Ax:Nat) (rU:Option Addr) (rR:Nat),VC28_J3 I2 μ2 iT mF jN Et jf/\St Tryz.f28.ntmps ⟨[(0,I n_),(3,Sl AI Et Ax),(4,Sl kG cn kE),(5,Sl rU jf rR),(6,I jN)],[]⟩ Z a w X/\Old w0 X0 w X/\OS (aA tI) 79 w X 1003 AI Et Ax/\RS (aA tI) w X kG cn kE/\OS (aA tI) 79 w X 1006 rU jf rR) ?_ ?_)
     ·refine aH (rPe T hS [18] [(7,I 0)] fun a hS=>?_)
      refine aH ?_
      obtain ⟨I3,μ3,cC,hm⟩:=hm
      refine cu (σ:=(List (List Int)) × (List (List Int)) × Int) (fun s a w=>∃ Z X Hc GW mL mK,I3 s.1 s.2.1 s.2.2/\St Tryz.f28.ntmps ⟨[(0,I n_),(3,Sl Hc s.1 GW),(4,Sl kG cn kE),(5,Sl mL s.2.1 mK),(6,I jN),(7,I s.2.2)],[]⟩ Z a w X/\Old w0 X0 w X/\OS (aA tI) 79 w X 1003 Hc s.1 GW/\RS (aA tI) w X kG cn kE/\OS (aA tI) 79 w X 1006 mL s.2.1 mK) (fun s=>μ3 s.1 s.2.1 s.2.2) (⟨iT,mF,0⟩) ?_ ?_
      ·exact ⟨Z,_,He,GY,lv,lq,cC,hS.sl _,hO,h141,h142,h146⟩
      rintro ⟨tT,mN,hZ⟩ a Yi ⟨Z,abX,Hc,GW,mL,mK,hI,hS,hO,h160,h161,h165⟩
      replace hm:=hm tT mN hZ hI
      clear hI cC
      refine a8 (rPe T hS [] [(23,B (decide (hZ < n_)))] fun a hS=>?_)
      refine aC hS (b:=decide (hZ < n_)) kr (fun hb=>?_) fun hb=>?_
      ·replace hm:=hm.1 hb
       refine aI (cg (fun a w=>∃ Z X,∃ (jB:List (List Int)) (Eo:List (List Int)) (JD:Option Addr) (Jp:Nat) (yL:Option Addr) (yA:Nat),VC28_J4 I3 μ3 tT mN hZ jB Eo/\St Tryz.f28.ntmps ⟨[(0,I n_),(3,Sl JD jB Jp),(4,Sl kG cn kE),(5,Sl yL Eo yA),(6,I jN),(7,I hZ)],[]⟩ Z a w X/\Old w0 X0 w X/\OS (aA tI) 79 w X 1003 JD jB Jp/\RS (aA tI) w X kG cn kE/\OS (aA tI) 79 w X 1006 yL Eo yA) ?_ ?_)
       ·refine aH (rPe T hS [23] [(8,B false)] fun a hS=>?_)
        refine cg (fun a w=>∃ Z X,∃ (Cs:List (List Int)) (vB:List (List Int)) (su:Bool) (Hb:Option Addr) (GV:Nat) (Ha:Option Addr) (GU:Nat),VC28_J5 cn jN I3 μ3 tT mN hZ Cs vB su/\St Tryz.f28.ntmps ⟨[(0,I n_),(3,Sl Hb Cs GV),(4,Sl kG cn kE),(5,Sl Ha vB GU),(6,I jN),(7,I hZ),(8,B su)],[]⟩ Z a w X/\Old w0 X0 w X/\OS (aA tI) 79 w X 1003 Hb Cs GV/\RS (aA tI) w X kG cn kE/\OS (aA tI) 79 w X 1006 Ha vB GU) ?_ ?_
        ·refine rPe T hS [] [(9,I 0)] fun a hS=>(aH ?_)
         obtain ⟨I4,μ4,cC,hm⟩:=hm
         refine cu (σ:=(List (List Int)) × (List (List Int)) × Bool × Int) (fun s a w=>∃ Z X DV DJ DU DI,I4 s.1 s.2.1 s.2.2.1 s.2.2.2/\St Tryz.f28.ntmps ⟨[(0,I n_),(3,Sl DV s.1 DJ),(4,Sl kG cn kE),(5,Sl DU s.2.1 DI),(6,I jN),(7,I hZ),(8,B s.2.2.1),(9,I s.2.2.2)],[]⟩ Z a w X/\Old w0 X0 w X/\OS (aA tI) 79 w X 1003 DV s.1 DJ/\RS (aA tI) w X kG cn kE/\OS (aA tI) 79 w X 1006 DU s.2.1 DI) (fun s=>μ4 s.1 s.2.1 s.2.2.1 s.2.2.2) (⟨tT,mN,false,0⟩) ?_ ?_
         ·exact ⟨Z,_,Hc,GW,mL,mK,cC,hS.sl _,hO,h160,h161,h165⟩
         rintro ⟨El,Ek,Ej,sr⟩ a SI ⟨Z,ab0,DV,DJ,DU,DI,hI,hS,hO,h224,h225,h229⟩
         replace hm:=hm El Ek Ej sr hI
         clear hI cC
         refine a8 (bk ?_)
         refine oPe T hS 3 [] [(26,I sr),(27,Sl kG cn kE),(28,I jN)] fun a hS=>?_
         obtain ⟨hq,hm⟩:=hm
         refine op1 (index (e:=79) (k:=.i64) T hS kr kr kr kr h225 kr kr hq.1 hq.2 ?_)
         intro acL a h233 hS
         refine op1 (fc T hS kr kr kr h233 rfl kr ?_)
         intro v234 a hv hS
         obtain ⟨aaY,aaP,hv,h237⟩:=hv
         cases hv
         replace hm:=hm (h237.sm kr)
         refine ePe T hS [26,27,28,29,30] [(32,B (decide (sr < (lN (gi cn jN)))))] fun a hS=>(aC hS (b:=decide (sr < (lN (gi cn jN)))) kr (fun hb=>?_) fun hb=>?_)
         ·replace hm:=hm.1 hb
          refine aI (cg (fun a w=>∃ Z X,∃ (Ei:List (List Int)) (Eh:List (List Int)) (HA:Bool) (Jz:Option Addr) (Jl:Nat) (Jy:Option Addr) (Jk:Nat),VC28_J6 I4 μ4 El Ek Ej sr Ei Eh HA/\St Tryz.f28.ntmps ⟨[(0,I n_),(3,Sl Jz Ei Jl),(4,Sl kG cn kE),(5,Sl Jy Eh Jk),(6,I jN),(7,I hZ),(8,B HA),(9,I sr)],[]⟩ Z a w X/\Old w0 X0 w X/\OS (aA tI) 79 w X 1003 Jz Ei Jl/\RS (aA tI) w X kG cn kE/\OS (aA tI) 79 w X 1006 Jy Eh Jk) ?_ ?_)
          ·refine aH (region ?_)
           refine oPe T hS 2 [32] [(36,B Ej)] fun a hS=>?_
           rcases bft Ej with hb | hb
           ·replace hS:=hS.lit (t:=36) kr hb
            replace hm:=hm.1 hb
            refine ePe T hS [36] [(8,B true)] fun a hS=>?_
            exact ⟨Z,_,El,Ek,true,DV,DJ,DU,DI,hm,hS.sl _,hO,h224,h225,h229⟩
           replace hS:=hS.lit (t:=36) kr hb
           replace hm:=hm.2 hb
           refine oPe T hS 2 [] [(37,Sl kG cn kE),(38,I jN)] fun a hS=>?_
           obtain ⟨hq,hm⟩:=hm
           refine op1 (index (e:=79) (k:=.i64) T hS kr kr kr kr h225 kr kr hq.1 hq.2 ?_)
           intro acK a h249 hS
           refine op1 (fc T hS kr kr kr h249 rfl kr ?_)
           intro v250 a hv hS
           obtain ⟨aaX,aaO,hv,h253⟩:=hv
           cases hv
           replace hm:=hm (h253.sm kr)
           refine oPe T hS 1 [37,38,39] [(41,I sr)] fun a hS=>?_
           obtain ⟨hq,hm⟩:=hm
           refine op1 (index (e:=3) (k:=.i64) T hS kr kr kr kr h253 kr kr hq.1 hq.2 ?_)
           intro acJ a h255 hS
           refine op1 (fc T hS kr kr kr h255 rfl kr ?_)
           intro v256 a hv hS
           cases hv
           refine ePe T hS [36,40,41,42,43] [(8,B ((gi (gi cn jN) sr) == hZ))] fun a hS=>?_
           exact ⟨Z,_,El,Ek,((gi (gi cn jN) sr) == hZ),DV,DJ,DU,DI,hm,hS.sl _,hO,h224,h225,h229⟩
          rintro a Ym ⟨Z,Vw,Ei,Eh,HA,Jz,Jl,Jy,Jk,hm,hS,hO,h241,h242,h246⟩
          unfold VC28_J6 at hm
          refine region (ePe T hS [] [(9,I (wR (sr+1)))] fun a hS=>?_)
          exact ⟨⟨Ei,Eh,HA,wR (sr+1)⟩,⟨Z,_,Jz,Jl,Jy,Jk,hm.1,hS.sl _,hO,h241,h242,h246⟩,hm.2⟩
         replace hm:=hm.2 hb
         refine cl (by rfl) ?_
         exact ⟨Z,_,El,Ek,Ej,DV,DJ,DU,DI,hm,hS.sl _,hO,h224,h225,h229⟩
        rintro a Yl ⟨Z,Vv,Cs,vB,su,Hb,GV,Ha,GU,hm,hS,hO,h179,h180,h184⟩
        unfold VC28_J5 at hm
        refine rPe T hS [8] [(48,B (!su))] fun a hS=>(aC hS (b:=(!su)) kr (fun hb=>?_) fun hb=>?_)
        ·replace hm:=hm.1 hb
         refine region (oPe T hS 1 [48] [(49,Sl Ha vB GU)] fun a hS=>?_)
         refine op1 (lit (E:=3) (col:=1051) (T:=tI) (vals:=[]) (ys:=([]:List Int)) T hS kr kr kr kr trivial rfl kr kr kr kr ?_)
         intro b186 a Lm Ro hE h189 hN hS
         clear hN
         have ⟨hO,h179,h180,h184⟩:=e4e hE hO.m2 h179.m2 h180.m1 h184.m2
         refine oPe T hS 2 [] [(51,Sl kG cn kE),(52,I jN)] fun a hS=>?_
         obtain ⟨hq,hm⟩:=hm
         refine op1 (index (e:=79) (k:=.i64) T hS kr kr kr kr h180 kr kr hq.1 hq.2 ?_)
         intro acO a h191 hS
         refine op1 (fc T hS kr kr kr h191 rfl kr ?_)
         intro v192 a hv hS
         obtain ⟨aa0,aaR,hv,h195⟩:=hv
         cases hv
         replace hm:=hm (h195.sm kr)
         obtain ⟨hq,hm⟩:=hm
         obtain ⟨news,hN⟩:=h195.src
         refine op1 (append (E:=3) (T:=tI) (col:=1051) (xs:=([]:List Int)) T hS kr kr kr kr h189 hN kr kr kr kr hq ?_)
         intro aaZ aaQ a YO acs hE h198 hS
         clear hq hN
         clear h189
         have ⟨hO,h179,h180,h184,h191,h195⟩:=e6e hE hO.m2 h179.m2 h180.m1 h184.m2 h191.m1 h195.m1
         refine oPe T hS 1 [51,52,53,54] [(56,I hZ)] fun a hS=>(op1 (lit (E:=3) (col:=0) (T:=tI) (vals:=[ii hZ]) (ys:=[hZ]) T hS kr kr kr kr (by exact ⟨rfl,trivial⟩) rfl kr kr kr kr ?_))
         intro b201 a YM acp hE h204 hN hS
         clear hN
         have ⟨hO,h179,h180,h184,h198⟩:=e5e hE hO.m2 h179.m2 h180.m1 h184.m2 h198.m2
         replace h204:=h204.rs0
         obtain ⟨hq,hm⟩:=hm
         obtain ⟨news,hN⟩:=h204.src
         refine op1 (append (E:=3) (T:=tI) (col:=1051) (xs:=([]:List Int)++(gi cn jN)) T hS kr kr kr kr h198 hN kr kr kr kr hq ?_)
         intro Ri Q3 a YK acn hE h207 hS
         clear hq hN
         clear h198
         have ⟨hO,h179,h180,h184,h204⟩:=e5e hE hO.m2 h179.m2 h180.m1 h184.m2 h204.m1
         obtain ⟨acm,hE,hF⟩:=h207.freeze (by decide)
         replace hS:=hS.ev hE (cq kr)
         have ⟨hO,h179,h180,h184,h204⟩:=e5e hE hO.m2 h179.m2 h180.m1 h184.m2 h204.m1
         have h211:=hF; clear hE hF
         refine op1 (lit (E:=79) (col:=0) (T:=(aA tI)) (vals:=[.slice Ri ((([]:List Int)++(gi cn jN))++[hZ]).length Q3]) (ys:=[(([]:List Int)++(gi cn jN))++[hZ]]) T hS kr kr kr kr (by exact ⟨⟨Ri,Q3,rfl,h211⟩,trivial⟩) rfl kr kr kr kr ?_)
         intro b212 a YI acj hE h215 hN hS
         clear hN
         have ⟨hO,h179,h180,h184,h204,h211⟩:=e6e hE hO.m2 h179.m2 h180.m1 h184.m2 h204.m1 h211.m1
         replace h215:=h215.rs0
         obtain ⟨hq,hm⟩:=hm
         obtain ⟨news,hN⟩:=h215.src
         refine op1 (append (E:=79) (T:=(aA tI)) (col:=1006) (xs:=vB) T hS kr kr kr kr h184 hN kr kr kr kr hq ?_)
         intro Rh Q2 a YG ach hE h218 hS
         clear hq hN
         clear h184
         have ⟨hO,h179,h180,h204,h211,h215⟩:=e6e hE hO.m2 h179.m2 h180.m1 h204.m1 h211.m1 h215.m1
         refine ePe T hS [56,57,58,59,60] [(5,Sl Rh (vB++[(([]:List Int)++(gi cn jN))++[hZ]]) Q2)] fun a hS=>?_
         exact ⟨Z,_,Cs,vB++[(([]:List Int)++(gi cn jN))++[hZ]],Hb,GV,Rh,Q2,hm,hS.sl _,hO,h179,h180,h218⟩
        replace hm:=hm.2 hb
        refine aI ?_
        exact ⟨Z,_,Cs,vB,Hb,GV,Ha,GU,hm,hS.sl _,hO,h179,h180,h184⟩
       rintro a Yj ⟨Z,abZ,jB,Eo,JD,Jp,yL,yA,hm,hS,hO,h170,h171,h175⟩
       unfold VC28_J4 at hm
       refine region (ePe T hS [] [(7,I (wR (hZ+1)))] fun a hS=>?_)
       exact ⟨⟨jB,Eo,wR (hZ+1)⟩,⟨Z,_,JD,Jp,yL,yA,hm.1,hS.sl _,hO,h170,h171,h175⟩,hm.2⟩
      replace hm:=hm.2 hb
      refine cl (by rfl) ?_
      exact ⟨Z,_,tT,mN,Hc,GW,mL,mK,hm,hS.sl _,hO,h160,h161,h165⟩
     rintro a Yh ⟨Z,abW,Et,jf,AI,Ax,rU,rR,hm,hS,hO,h151,h152,h156⟩
     unfold VC28_J3 at hm
     refine region (ePe T hS [] [(6,I (wR (jN+1)))] fun a hS=>?_)
     exact ⟨⟨Et,jf,wR (jN+1)⟩,⟨Z,_,AI,Ax,rU,rR,hm.1,hS.sl _,hO,h151,h152,h156⟩,hm.2⟩
    replace hm:=hm.2 hb
    refine cl (by rfl) ?_
    exact ⟨Z,_,iT,mF,He,GY,lv,lq,hm,hS.sl _,hO,h141,h146⟩
   rintro a Yf ⟨Z,Vu,gz,bP,iG,iE,gE,gC,hm,hS,hO,h126,h130⟩
   unfold VC28_J2 at hm
   refine bk (oPe T hS 2 [] [(61,Sl iG gz iE),(62,Sl gE bP gC)] fun a hS=>?_)
   obtain ⟨hq,hm⟩:=hm
   obtain ⟨news,hN⟩:=h130.src
   refine op1 (append (E:=79) (T:=(aA tI)) (col:=1003) (xs:=gz) T hS kr kr kr kr h126 hN kr kr kr kr hq ?_)
   intro lx lr a yZ JP hE h133 hS
   clear hq hN
   clear h126
   have ⟨hO,h130⟩:=e2e hE hO.m2 h130.m2
   refine ePe T hS [62,63] [(3,Sl lx (gz++bP) lr)] fun a hS=>(region ?_)
   refine oPe T hS 1 [5] [(64,Sl gE bP gC)] fun a hS=>?_
   obtain ⟨NZ,hE,hF⟩:=h130.freeze (by decide)
   replace hS:=hS.ev hE (cq kr)
   have ⟨hO,h133⟩:=e2e hE hO.m2 h133.m2
   have h137:=hF; clear hE hF
   refine op1 (LK T hS kr kr kr (sv:=Sl gE bP gC) kr ?_)
   intro a hS
   refine gM ?_
   exact ⟨⟨gz++bP,bP⟩,⟨Z,_,lx,lr,gE,gC,hm.1,hS.sl _,hO,h133,h137⟩,hm.2⟩
  replace hm:=hm.2 hb
  refine cl (by rfl) ?_
  exact ⟨Z,_,ba,dT,dS,hm,hS.sl _,hO,h118⟩
 rintro a Ya ⟨Z,abQ,oo,nj,nh,hm,hS,hO,h112⟩
 unfold VC28_J1 at hm
 refine rPe T hS [3] [(2,Sl nj oo nh)] fun a hS=>(aR ?_)
 obtain ⟨AP,hE,hF⟩:=h112.freeze (by decide)
 replace hS:=hS.ev hE (cq kr)
 replace hO:=hO.m2 hE
 have h114:=hF; clear hE hF
 exact fin T hS hO (fun c=>c) rfl (r:=[.slice nj oo.length nh]) kr (fun X' hM hC=>⟨oo,hm,nj,nh,rfl,h114.m0 hM⟩)
theorem C28 (v:∀ (n_:Int),Bo n_->VC28 n_ (fun r=>r=da n_)):S28:=fun w X n_ hp=>mo1 (W28 w X n_ _ (v n_ hp))
theorem W8 (TO:S28) (TN:S29) (TM:S30) (w0) (X0) (o_:ah) (l_:List ae) (a1) (c1) (a2) (c2) (Q:(List (List ak))->Prop) (hm:VC8 o_ l_ Q) (h1:RS aF w0 X0 a1 o_.Rows c1) (h2:RS ar w0 X0 a2 l_ c2) :
  rt 8 #[.agg #[ii o_.ab,ii o_.aP,ii o_.aU,.slice a1 o_.Rows.length c1],.slice a2 l_.length c2] aB w0 X0 (fun w X' v=>∃ r,Q r/\∃ dg de,v=.slice dg r.length de/\RS (aA aO) w X' dg r de):=by
 unfold VC8 at hm
 replace hm:=hm (h1.sm kr)
 replace hm:=hm (h2.sm kr)
 refine enter Tryz.func8 rfl (vals:=[.agg #[ii o_.ab,ii o_.aP,ii o_.aU,.slice a1 o_.Rows.length c1],.slice a2 l_.length c2]) kr ?_
 intro Z a hS hO hM
 replace h1:=h1.m0 hM
 replace h2:=h2.m0 hM
 refine rM T hS ⟨[(1,Sl a2 l_ c2),(2,Pt 3 0)],[(3,(24,(cO o_ a1 c1)))]⟩ fun Z a HK JK hS hE hr=>?_
 have ⟨hO,h1,h2⟩:=e3e hE hO.m2 h1.m1 h2.m1
 clear hE hr
 refine rPe T hS [] [(5,V (.slice none 0 0))] fun a hS=>(bk ?_)
 refine oPe T hS 2 [] [(11,I (lN l_))] fun a hS=>?_
 obtain ⟨hq,hm⟩:=hm
 refine op1 (call hS kr kr hb28 kr (fun _ _=>rfl) (TO _ _ (lN l_) hq) ?_)
 intro v101 a eI eN hE hp hS
 have ⟨hO,h1,h2⟩:=e3e hE hO.m2 h1.m1 h2.m1
 obtain ⟨yO,yD,hp,h107⟩:=hp
 obtain ⟨al,hr⟩:∃ r,da (lN l_)=r:=⟨_,rfl⟩
 replace hm:=hm al hr
 rw [hr] at hp h107
 clear hr
 subst hp
 replace hm:=hm (h107.sm kr)
 refine ePe T hS [11,12] [(6,Sl yO al yD)] fun a hS=>(cg (fun a w=>∃ Z X,∃ (fJ:List (List ak)) (iQ:Option Addr) (iP:Nat),VC8_J1 Q fJ/\St Tryz.f8.ntmps ⟨[(5,Sl iQ fJ iP)],[]⟩ Z a w X/\Old w0 X0 w X/\OS (aA aO) 41 w X 1005 iQ fJ iP) ?_ ?_)
 ·refine rPe T hS [] [(7,I 0)] fun a hS=>(aH ?_)
  obtain ⟨I1,μ1,cC,hm⟩:=hm
  refine cu (σ:=(List (List ak)) × Int) (fun s a w=>∃ Z X dT dS,I1 s.1 s.2/\St Tryz.f8.ntmps ⟨[(1,Sl a2 l_ c2),(2,Pt 3 0),(5,Sl dT s.1 dS),(6,Sl yO al yD),(7,I s.2)],[(3,(24,(cO o_ a1 c1)))]⟩ Z a w X/\Old w0 X0 w X/\RS ar w X a2 l_ c2/\OS (aA aO) 41 w X 1005 dT s.1 dS/\RS (aA tI) w X yO al yD/\RS aF w X a1 o_.Rows c1) (fun s=>μ1 s.1 s.2) (⟨[],0⟩) ?_ ?_
  ·exact ⟨Z,_,none,0,cC,hS.sl _,hO,h2,(OS.nil _ _ _ _ _),h107,h1⟩
  rintro ⟨ba,rG⟩ a YU ⟨Z,Ru,dT,dS,hI,hS,hO,h114,h118,h119,h121⟩
  replace hm:=hm ba rG hI
  clear hI cC
  refine a8 (rPe T hS [] [(16,B (decide (rG < (lN al))))] fun a hS=>?_)
  refine aC hS (b:=decide (rG < (lN al))) kr (fun hb=>?_) fun hb=>?_
  ·replace hm:=hm.1 hb
   refine aI (cg (fun a w=>∃ Z X,∃ (gz:List (List ak)) (iG:Option Addr) (iE:Nat),VC8_J2 I1 μ1 ba rG gz/\St Tryz.f8.ntmps ⟨[(1,Sl a2 l_ c2),(2,Pt 3 0),(5,Sl iG gz iE),(6,Sl yO al yD),(7,I rG)],[(3,(24,(cO o_ a1 c1)))]⟩ Z a w X/\Old w0 X0 w X/\RS ar w X a2 l_ c2/\OS (aA aO) 41 w X 1005 iG gz iE/\RS (aA tI) w X yO al yD/\RS aF w X a1 o_.Rows c1) ?_ ?_)
   ·refine aH (eT [3] mixed hS ?_)
    intro EC JQ hS hE hD hH
    have ⟨hO,h114,h118,h119,h121⟩:=e5e hE hO.m2 h114.m1 h118.m2 h119.m1 h121.m1
    refine tke T [0,1,2,3] [3] hS hH #[true,true,true,true,false,false,false,false,false,false,false,false] 8 [] [(20,V (.agg #[ii o_.ab,ii o_.aP,ii o_.aU,.slice a1 o_.Rows.length c1])),(21,Sl a2 l_ c2),(22,Sl yO al yD),(23,I rG)] fun a hS=>?_
    obtain ⟨hq,hm⟩:=hm
    refine eY (e:=79) (k:=.i64) T 4 hS kr kr kr (by rfl) kr hH kr kr h119 kr kr hq.1 hq.2 ?_
    intro V6 a h132 hS
    have Qm:=h132.here
    refine gu T 5 hS kr kr kr (by rfl) kr hH kr h132 Qm rfl kr ?_
    intro v133 a hv hS
    obtain ⟨lx,lr,hv,h136⟩:=hv
    cases hv
    replace hm:=hm (h136.sm kr)
    obtain ⟨hq,hm⟩:=hm
    refine only 6 kr (by rfl) (call hS kr kr hb29 kr (fun _ _=>rfl) (TN _ _ o_ l_ (gi al rG) a1 c1 a2 c2 lx lr hq h121 h114 h136) ?_)
    intro v137 a Cy AM hE hp hS
    replace hO:=hO.m2 hE
    replace hD:=hD.ev hE rfl
    have ⟨h114,h118,h119,h121,h132,h136⟩:=e6e hE h114.m1 h118.m2 h119.m1 h121.m1 h132.m1 h136.m1
    obtain ⟨jw,jt,hp,h143⟩:=hp
    obtain ⟨b8,hr⟩:∃ r,cV o_ l_ (gi al rG)=r:=⟨_,rfl⟩
    replace hm:=hm b8 hr
    rw [hr] at hp h143
    clear hr
    subst hp
    replace hm:=hm (h143.sm kr)
    replace hS:=hS.sle [] [(26,V (.tuple #[.slice jw b8.1.length jt,ii b8.2]))]
    refine cm (br.of hS (bks:=[3]) kr hD) ?_
    intro hH
    refine tke T [7,8,9,10,11] [3] hS hH (tts 12) 0 [20,21,22,23,24,25,26] [(8,Sl jw b8.1 jt),(9,I b8.2)] fun a hS=>(bn kr ?_)
    replace hS:=hS.sle [] []
    refine cg (fun a w=>∃ Z X,∃ (lS:List (List ak)) (HD:Bool) (Hd:Option Addr) (GX:Nat),VC8_J3 I1 μ1 ba rG b8 lS HD/\St Tryz.f8.ntmps ⟨[(1,Sl a2 l_ c2),(2,Pt 3 0),(5,Sl Hd lS GX),(6,Sl yO al yD),(7,I rG),(8,Sl jw b8.1 jt),(36,B HD)],[(3,(24,(cO o_ a1 c1)))]⟩ Z a w X/\Old w0 X0 w X/\RS ar w X a2 l_ c2/\OS (aA aO) 41 w X 1005 Hd lS GX/\RS (aA tI) w X yO al yD/\RS aO w X jw b8.1 jt/\RS aF w X a1 o_.Rows c1) ?_ ?_
    ·refine region (oPe T hS 3 [9] [(31,B (b8.2 == 0))] fun a hS=>?_)
     rcases bft (b8.2 == 0) with hb | hb
     ·replace hS:=hS.lit (t:=31) kr hb
      replace hm:=hm.1 hb
      refine oPe T hS 3 [] [(32,V (.agg #[ii o_.ab,ii o_.aP,ii o_.aU,.slice a1 o_.Rows.length c1])),(33,Sl a2 l_ c2),(34,Sl jw b8.1 jt)] fun a hS=>(op1 (call hS kr kr hb30 kr (fun _ _=>rfl) (TM _ _ o_ l_ b8.1 a1 c1 a2 c2 jw jt h121 h114 h143) ?_))
      intro v162 a yY AL hE hp hS
      have ⟨hO,h114,h118,h119,h121,h143⟩:=e6e hE hO.m2 h114.m1 h118.m2 h119.m1 h121.m1 h143.m1
      generalize hr:dN o_ l_ b8.1=lb at hp
      replace hm:=hm lb hr
      subst hp
      refine ePe T hS [31,32,33,34,35] [(36,B lb)] fun a hS=>?_
      exact ⟨Z,_,ba,lb,dT,dS,hm,hS.sl _,hO,h114,h118,h119,h143,h121⟩
     replace hS:=hS.lit (t:=31) kr hb
     replace hm:=hm.2 hb
     refine ePe T hS [31] [(36,B false)] fun a hS=>?_
     exact ⟨Z,_,ba,false,dT,dS,hm,hS.sl _,hO,h114,h118,h119,h143,h121⟩
    rintro a Lp ⟨Z,Rv,lS,HD,Hd,GX,hm,hS,hO,h144,h148,h149,h150,h152⟩
    unfold VC8_J3 at hm
    refine aC hS (b:=HD) kr (fun hb=>?_) fun hb=>?_
    ·replace hm:=hm.1 hb
     refine region (oPe T hS 2 [8,36] [(37,Sl Hd lS GX),(38,Sl jw b8.1 jt)] fun a hS=>?_)
     refine op1 (lit (E:=41) (col:=0) (T:=(aA aO)) (vals:=[.slice jw b8.1.length jt]) (ys:=[b8.1]) T hS kr kr kr kr (by exact ⟨⟨jw,jt,rfl,h150⟩,trivial⟩) rfl kr kr kr kr ?_)
     intro b153 a Cw D1 hE h156 hN hS
     clear hN
     have ⟨hO,h144,h148,h149,h150,h152⟩:=e6e hE hO.m2 h144.m1 h148.m2 h149.m1 h150.m1 h152.m1
     replace h156:=h156.rs0
     obtain ⟨hq,hm⟩:=hm
     obtain ⟨news,hN⟩:=h156.src
     refine op1 (append (E:=41) (T:=(aA aO)) (col:=1005) (xs:=lS) T hS kr kr kr kr h148 hN kr kr kr kr hq ?_)
     intro Rk Q5 a HL JN hE h159 hS
     clear hq hN
     clear h148
     have ⟨hO,h144,h149,h150,h152,h156⟩:=e6e hE hO.m2 h144.m1 h149.m1 h150.m1 h152.m1 h156.m1
     refine ePe T hS [38,39,40] [(5,Sl Rk (lS++[b8.1]) Q5)] fun a hS=>?_
     exact ⟨Z,_,lS++[b8.1],Rk,Q5,hm,hS.sl _,hO,h144,h159,h149,h152⟩
    replace hm:=hm.2 hb
    refine aI ?_
    exact ⟨Z,_,lS,Hd,GX,hm,hS.sl _,hO,h144,h148,h149,h152⟩
   rintro a OA ⟨Z,VH,gz,iG,iE,hm,hS,hO,h122,h126,h127,h128⟩
   unfold VC8_J2 at hm
   refine region (ePe T hS [] [(7,I (wR (rG+1)))] fun a hS=>?_)
   exact ⟨⟨gz,wR (rG+1)⟩,⟨Z,_,iG,iE,hm.1,hS.sl _,hO,h122,h126,h127,h128⟩,hm.2⟩
  replace hm:=hm.2 hb
  refine cl (by rfl) ?_
  exact ⟨Z,_,ba,dT,dS,hm,hS.sl _,hO,h118⟩
 rintro a YT ⟨Z,acA,fJ,iQ,iP,hm,hS,hO,h111⟩
 unfold VC8_J1 at hm
 refine rPe T hS [5] [(4,Sl iQ fJ iP)] fun a hS=>(aR ?_)
 obtain ⟨yQ,hE,hF⟩:=h111.freeze (by decide)
 replace hS:=hS.ev hE (cq kr)
 replace hO:=hO.m2 hE
 have h113:=hF; clear hE hF
 exact fin T hS hO (fun c=>c) rfl (r:=[.slice iQ fJ.length iP]) kr (fun X' hM hC=>⟨fJ,hm,iQ,iP,rfl,h113.m0 hM⟩)
theorem C8 (TO:S28) (TN:S29) (TM:S30) (v:∀ (o_:ah) (l_:List ae),Bt o_ l_->VC8 o_ l_ (fun r=>r=bM o_ l_)):S8:=fun w X o_ l_ a1 c1 a2 c2 hp h1 h2=>mo1 (W8 TO TN TM w X o_ l_ a1 c1 a2 c2 _ (v o_ l_ hp) h1 h2)
theorem W3 (Y7:S10) (Y6:S11) (k4:S4) (k5:S5) (k6:S6) (k7:S7) (k8:S8) (k9:S9) (w0) (X0) (o_:ah) (l_:List ae) (a1) (c1) (a2) (c2) (Q:Bool->Prop) (hm:VC3 o_ l_ Q) (h1:RS aF w0 X0 a1 o_.Rows c1) (h2:RS ar w0 X0 a2 l_ c2) :
  rt 3 #[.agg #[ii o_.ab,ii o_.aP,ii o_.aU,.slice a1 o_.Rows.length c1],.slice a2 l_.length c2] aB w0 X0 (fun w X' v=>∃ r,Q r/\v=.bool r):=by
 unfold VC3 at hm
 replace hm:=hm (h1.sm kr)
 replace hm:=hm (h2.sm kr)
 refine enter Tryz.func3 rfl (vals:=[.agg #[ii o_.ab,ii o_.aP,ii o_.aU,.slice a1 o_.Rows.length c1],.slice a2 l_.length c2]) kr ?_
 intro Z a hS hO hM
 replace h1:=h1.m0 hM
 replace h2:=h2.m0 hM
 refine rM T hS ⟨[(1,Sl a2 l_ c2),(2,Pt 3 0)],[(3,(24,(cO o_ a1 c1)))]⟩ fun Z a Yt ab6 hS hE hr=>?_
 have ⟨hO,h1,h2⟩:=e3e hE hO.m2 h1.m1 h2.m1
 clear hE hr
 refine a8 (bk ?_)
 refine oPe T hS 1 [] [(19,V (.agg #[ii o_.ab,ii o_.aP,ii o_.aU,.slice a1 o_.Rows.length c1]))] fun a hS=>(op1 (call hS kr kr hb4 kr (fun _ _=>rfl) (k4 _ _ o_ a1 c1 h1) ?_))
 intro v101 a eI eN hE hp hS
 have ⟨hO,h1,h2⟩:=e3e hE hO.m2 h1.m1 h2.m1
 generalize hr:ke o_=al at hp
 replace hm:=hm al hr
 subst hp
 refine ePe T hS [19,20] [(26,B ((!al) || (decide ((lN l_) > 3))))] (sp:=[22]) fun a hS=>(aC hS (b:=((!al) || (decide ((lN l_) > 3)))) kr (fun hb=>?_) fun hb=>?_)
 ·replace hm:=hm.1 hb
  refine bk (op1 (call hS kr kr hb5 kr (fun _ _=>rfl) (k5 _ _) ?_))
  intro v105 a o9 qf hE hp hS
  have ⟨hO,h1,h2⟩:=e3e hE hO.m2 h1.m1 h2.m1
  generalize hr:ji=bu at hp
  replace hm:=hm bu hr
  subst hp
  refine eP T hS ⟨[(4,B bu)],[]⟩ fun a hS=>(aR ?_)
  exact fin T hS hO (fun c=>c) rfl (r:=[.bool bu]) kr (fun X' hM hC=>⟨_,hm,rfl⟩)
 replace hm:=hm.2 hb
 refine aI (bk ?_)
 refine oPe T hS 2 [26] [(29,V (.agg #[ii o_.ab,ii o_.aP,ii o_.aU,.slice a1 o_.Rows.length c1])),(30,Sl a2 l_ c2)] fun a hS=>?_
 obtain ⟨hq,hm⟩:=hm
 refine op1 (call hS kr kr hb6 kr (fun _ _=>rfl) (k6 _ _ o_ l_ a1 c1 a2 c2 hq h1 h2) ?_)
 intro v109 a EG AQ hE hp hS
 have ⟨hO,h1,h2⟩:=e3e hE hO.m2 h1.m1 h2.m1
 obtain ⟨ni,ng,hp,h115⟩:=hp
 obtain ⟨aS,hr⟩:∃ r,bg o_ l_=r:=⟨_,rfl⟩
 replace hm:=hm aS hr
 rw [hr] at hp h115
 clear hr
 subst hp
 replace hm:=hm (h115.sm kr)
 refine eM T hS ⟨[(1,Sl a2 l_ c2),(2,Pt 3 0),(5,Pt 6 0),(6,I aS.2)],[(3,(24,(cO o_ a1 c1))),(6,(30,[I aS.1.bC,Sl ni aS.1.ai ng]))]⟩ fun Z a Yv ab8 hS hE hr=>?_
 have ⟨hO,h1,h2,h115⟩:=e4e hE hO.m2 h1.m1 h2.m1 h115.m1
 clear hE hr
 refine bk (oPe T hS 1 [] [(35,V (.agg #[ii aS.1.bC,.slice ni aS.1.ai.length ng]))] fun a hS=>?_)
 refine op1 (call hS kr kr hb7 kr (fun _ _=>rfl) (k7 _ _ aS.1 ni ng h115) ?_)
 intro v116 a y5 yP hE hp hS
 have ⟨hO,h1,h2,h115⟩:=e4e hE hO.m2 h1.m1 h2.m1 h115.m1
 generalize hr:ff aS.1=cY at hp
 replace hm:=hm cY hr
 subst hp
 refine ePe T hS [35,36] [(7,I cY.1),(8,I cY.2)] fun a hS=>(a8 ?_)
 refine rPe T hS [6,8] [(44,B ((aS.2 != 0) || (cY.2 != 0)))] (sp:=[41]) fun a hS=>(aC hS (b:=((aS.2 != 0) || (cY.2 != 0))) kr (fun hb=>?_) fun hb=>?_)
 ·replace hm:=hm.1 hb
  refine bk (op1 (call hS kr kr hb5 kr (fun _ _=>rfl) (k5 _ _) ?_))
  intro v120 a xa wV hE hp hS
  have ⟨hO,h1,h2,h115⟩:=e4e hE hO.m2 h1.m1 h2.m1 h115.m1
  generalize hr:ji=bJ at hp
  replace hm:=hm bJ hr
  subst hp
  refine eP T hS ⟨[(4,B bJ)],[]⟩ fun a hS=>(aR ?_)
  exact fin T hS hO (fun c=>c) rfl (r:=[.bool bJ]) kr (fun X' hM hC=>⟨_,hm,rfl⟩)
 replace hm:=hm.2 hb
 refine aI (bk ?_)
 refine oPe T hS 2 [44] [(46,V (.agg #[ii o_.ab,ii o_.aP,ii o_.aU,.slice a1 o_.Rows.length c1])),(47,Sl a2 l_ c2)] fun a hS=>?_
 obtain ⟨hq,hm⟩:=hm
 refine op1 (call hS kr kr hb8 kr (fun _ _=>rfl) (k8 _ _ o_ l_ a1 c1 a2 c2 hq h1 h2) ?_)
 intro v124 a CA AO hE hp hS
 have ⟨hO,h1,h2,h115⟩:=e4e hE hO.m2 h1.m1 h2.m1 h115.m1
 obtain ⟨gE,gC,hp,h130⟩:=hp
 obtain ⟨cf,hr⟩:∃ r,bM o_ l_=r:=⟨_,rfl⟩
 replace hm:=hm cf hr
 rw [hr] at hp h130
 clear hr
 subst hp
 replace hm:=hm (h130.sm kr)
 refine ePe T hS [46,47,48] [(9,Sl gE cf gC)] fun a hS=>(bk ?_)
 refine oPe T hS 2 [] [(50,I (lN cf))] fun a hS=>?_
 obtain ⟨hq,hm⟩:=hm
 refine op1 (make (E:=4) (kl:=.i64) (kc:=.i64) (col:=1011) (T:=cD) T false hS kr kr kr kr kr kr hq.1 hq.2.1 (by have:=hq.2.2; have e_:((cD.bytes:Nat):Int)=1:=rfl; rw [e_]; omega) (by have:=hq.2.2; omega) (fun _ _=>rfl) ?_)
 intro b131 a OJ JO hE h134 hN hS
 clear hq hN
 have ⟨hO,h1,h2,h115,h130⟩:=e5e hE hO.m2 h1.m1 h2.m1 h115.m1 h130.m1
 replace hS:=hS.conv (t:=51) (y:=.slice (some ⟨b131,0,none⟩) (List.replicate (lN cf).toNat (false:Bool)).length (lN cf).toNat) kr (by rw [List.length_replicate])
 refine ePe T hS [50,51] [(10,V (.slice (some ⟨b131,0,none⟩) (List.replicate (lN cf).toNat (false:Bool)).length (lN cf).toNat))] fun a hS=>(cg (fun a w=>∃ Z X,∃ (Eu:List Bool) (wQ:Option Addr) (wH:Nat),VC3_J1 Q cY cf Eu/\St Tryz.f3.ntmps ⟨[(7,I cY.1),(9,Sl gE cf gC),(10,Sl wQ Eu wH)],[]⟩ Z a w X/\Old w0 X0 w X/\RS (aA aO) w X gE cf gC/\OS cD 4 w X 1011 wQ Eu wH) ?_ ?_)
 ·refine rPe T hS [] [(11,I 0)] fun a hS=>(aH ?_)
  obtain ⟨I2,μ2,cC,hm⟩:=hm
  refine cu (σ:=(List Bool) × Int) (fun s a w=>∃ Z X mL mK,I2 s.1 s.2/\St Tryz.f3.ntmps ⟨[(1,Sl a2 l_ c2),(2,Pt 3 0),(5,Pt 6 0),(7,I cY.1),(9,Sl gE cf gC),(10,Sl mL s.1 mK),(11,I s.2)],[(3,(24,(cO o_ a1 c1))),(6,(30,[I aS.1.bC,Sl ni aS.1.ai ng]))]⟩ Z a w X/\Old w0 X0 w X/\RS ar w X a2 l_ c2/\RS (aA aO) w X gE cf gC/\OS cD 4 w X 1011 mL s.1 mK/\RS aF w X a1 o_.Rows c1/\RS (aA tI) w X ni aS.1.ai ng) (fun s=>μ2 s.1 s.2) (⟨List.replicate (lN cf).toNat (false:Bool),0⟩) ?_ ?_
  ·exact ⟨Z,_,(some ⟨b131,0,none⟩),(lN cf).toNat,cC,hS.sl _,hO,h2,h130,h134,h1,h115⟩
  rintro ⟨mN,hZ⟩ a Yy ⟨Z,acb,mL,mK,hI,hS,hO,h160,h161,h165,h167,h168⟩
  replace hm:=hm mN hZ hI
  clear hI cC
  refine a8 (rPe T hS [] [(54,B (decide (hZ < cY.1)))] fun a hS=>?_)
  refine aC hS (b:=decide (hZ < cY.1)) kr (fun hb=>?_) fun hb=>?_
  ·replace hm:=hm.1 hb
   refine aI (a8 ?_)
   refine aH (bk ?_)
   refine oPe T hS 2 [54] [(58,V (.agg #[ii aS.1.bC,.slice ni aS.1.ai.length ng])),(59,I hZ)] fun a hS=>(op1 (call hS kr kr hb9 kr (fun _ _=>rfl) (k9 _ _ aS.1 hZ ni ng h168) ?_))
   intro v169 a Oz JL hE hp hS
   have ⟨hO,h160,h161,h165,h167,h168⟩:=e6e hE hO.m2 h160.m1 h161.m1 h165.m2 h167.m1 h168.m1
   obtain ⟨yL,yA,hp,h175⟩:=hp
   obtain ⟨kH,hr⟩:∃ r,fk aS.1 hZ=r:=⟨_,rfl⟩
   replace hm:=hm kH hr
   rw [hr] at hp h175
   clear hr
   subst hp
   replace hm:=hm (h175.sm kr)
   refine ePe T hS [58,59,60] [(12,Sl yL kH.1 yA),(13,B kH.2)] fun a hS=>(bk ?_)
   refine oPe T hS 3 [12] [(64,V (.agg #[ii o_.ab,ii o_.aP,ii o_.aU,.slice a1 o_.Rows.length c1])),(65,Sl a2 l_ c2),(66,Sl yL kH.1 yA)] fun a hS=>?_
   obtain ⟨hq,hm⟩:=hm
   refine op1 (call hS kr kr hb10 kr (fun _ _=>rfl) (Y7 _ _ o_ l_ kH.1 a1 c1 a2 c2 yL yA hq h167 h160 h175) ?_)
   intro v176 a Lo Rq hE hp hS
   have ⟨hO,h160,h161,h165,h167,h168,h175⟩:=e7e hE hO.m2 h160.m1 h161.m1 h165.m2 h167.m1 h168.m1 h175.m1
   obtain ⟨AG,Av,hp,h182⟩:=hp
   obtain ⟨ig,hr⟩:∃ r,bX o_ l_ kH.1=r:=⟨_,rfl⟩
   replace hm:=hm ig hr
   rw [hr] at hp h182
   clear hr
   subst hp
   replace hm:=hm (h182.sm kr)
   refine ePe T hS [64,65,66,67] [(14,Sl AG ig.1 Av),(15,I ig.2)] fun a hS=>(a8 ?_)
   refine rPe T hS [13,15] [(75,B ((!kH.2) || (ig.2 != 0)))] (sp:=[72]) fun a hS=>(aC hS (b:=((!kH.2) || (ig.2 != 0))) kr (fun hb=>?_) fun hb=>?_)
   ·replace hm:=hm.1 hb
    refine rP T hS ⟨[(4,B false)],[]⟩ fun a hS=>(aR ?_)
    exact fin T hS hO (fun c=>c) rfl (r:=[.bool false]) kr (fun X' hM hC=>⟨_,hm,rfl⟩)
   replace hm:=hm.2 hb
   refine aI (rPe T hS [75] [(16,B false)] fun a hS=>?_)
   refine cg (fun a w=>∃ Z X,∃ (su:List Bool) (mE:Bool) (JC:Option Addr) (Jo:Nat),VC3_J3 Q I2 μ2 mN hZ su mE/\St Tryz.f3.ntmps ⟨[(1,Sl a2 l_ c2),(2,Pt 3 0),(5,Pt 6 0),(7,I cY.1),(9,Sl gE cf gC),(10,Sl JC su Jo),(11,I hZ),(16,B mE)],[(3,(24,(cO o_ a1 c1))),(6,(30,[I aS.1.bC,Sl ni aS.1.ai ng]))]⟩ Z a w X/\Old w0 X0 w X/\RS ar w X a2 l_ c2/\RS (aA aO) w X gE cf gC/\OS cD 4 w X 1011 JC su Jo/\RS aF w X a1 o_.Rows c1/\RS (aA tI) w X ni aS.1.ai ng) ?_ ?_
   ·refine rPe T hS [] [(17,I 0)] fun a hS=>(aH ?_)
    obtain ⟨I3,μ3,cC,hm⟩:=hm
    refine cu (σ:=(List Bool) × Bool × Int) (fun s a w=>∃ Z X wP wG,I3 s.1 s.2.1 s.2.2/\St Tryz.f3.ntmps ⟨[(1,Sl a2 l_ c2),(2,Pt 3 0),(5,Pt 6 0),(7,I cY.1),(9,Sl gE cf gC),(10,Sl wP s.1 wG),(11,I hZ),(14,Sl AG ig.1 Av),(16,B s.2.1),(17,I s.2.2)],[(3,(24,(cO o_ a1 c1))),(6,(30,[I aS.1.bC,Sl ni aS.1.ai ng]))]⟩ Z a w X/\Old w0 X0 w X/\RS ar w X a2 l_ c2/\RS (aA aO) w X gE cf gC/\OS cD 4 w X 1011 wP s.1 wG/\RS aO w X AG ig.1 Av/\RS aF w X a1 o_.Rows c1/\RS (aA tI) w X ni aS.1.ai ng) (fun s=>μ3 s.1 s.2.1 s.2.2) (⟨mN,false,0⟩) ?_ ?_
    ·exact ⟨Z,_,mL,mK,cC,hS.sl _,hO,h160,h161,h165,h182,h167,h168⟩
    rintro ⟨vA,HC,om⟩ a SJ ⟨Z,acd,wP,wG,hI,hS,hO,h192,h193,h197,h198,h201,h202⟩
    replace hm:=hm vA HC om hI
    clear hI cC
    refine a8 (rPe T hS [] [(79,B (decide (om < (lN cf))))] fun a hS=>?_)
    refine aC hS (b:=decide (om < (lN cf))) kr (fun hb=>?_) fun hb=>?_
    ·replace hm:=hm.1 hb
     refine aI (cg (fun a w=>∃ Z X,∃ (Em:List Bool) (HB:Bool) (JA:Option Addr) (Jm:Nat),VC3_J4 I3 μ3 vA HC om Em HB/\St Tryz.f3.ntmps ⟨[(1,Sl a2 l_ c2),(2,Pt 3 0),(5,Pt 6 0),(7,I cY.1),(9,Sl gE cf gC),(10,Sl JA Em Jm),(11,I hZ),(14,Sl AG ig.1 Av),(16,B HB),(17,I om)],[(3,(24,(cO o_ a1 c1))),(6,(30,[I aS.1.bC,Sl ni aS.1.ai ng]))]⟩ Z a w X/\Old w0 X0 w X/\RS ar w X a2 l_ c2/\RS (aA aO) w X gE cf gC/\OS cD 4 w X 1011 JA Em Jm/\RS aO w X AG ig.1 Av/\RS aF w X a1 o_.Rows c1/\RS (aA tI) w X ni aS.1.ai ng) ?_ ?_)
     ·refine aH (bk ?_)
      refine oPe T hS 2 [79] [(82,Sl gE cf gC),(83,I om)] fun a hS=>?_
      obtain ⟨hq,hm⟩:=hm
      refine op1 (index (e:=41) (k:=.i64) T hS kr kr kr kr h193 kr kr hq.1 hq.2 ?_)
      intro acN a h214 hS
      refine op1 (fc T hS kr kr kr h214 rfl kr ?_)
      intro v215 a hv hS
      obtain ⟨Vt,Vh,hv,h218⟩:=hv
      cases hv
      replace hm:=hm (h218.sm kr)
      refine oPe T hS 1 [82,83,84] [(86,Sl AG ig.1 Av)] fun a hS=>(op1 (call hS kr kr hb11 kr (fun _ _=>rfl) (Y6 _ _ (gi cf om) ig.1 Vt Vh AG Av h218 h198) ?_))
      intro v219 a YE acf hE hp hS
      have ⟨hO,h192,h193,h197,h198,h201,h202,h218⟩:=e8e hE hO.m2 h192.m1 h193.m1 h197.m2 h198.m1 h201.m1 h202.m1 h218.m1
      generalize hr:gk (gi cf om) ig.1=CR at hp
      replace hm:=hm CR hr
      subst hp
      refine gM (aC hS (b:=CR) kr (fun hb=>?_) fun hb=>?_)
      ·replace hm:=hm.1 hb
       refine region (oPe T hS 2 [87] [(88,Sl wP vA wG),(89,I om)] fun a hS=>?_)
       obtain ⟨xS,hm⟩:=hm
       refine op1 (iC (E:=4) (k:=.i64) T hS kr kr kr kr h197 kr kr xS.1 xS.2 ?_)
       intro acM a h225 h224 hS
       refine op1 (mR (x:=true) (v:=B true) (i:=om.toNat) (E:=4) (xs:=vA) T hS kr kr kr kr h197 h225 (by have:=xS.1; have:=xS.2; omega) kr (fun _ _ _=>rfl) ?_)
       intro a YC hE h228 hS
       clear h197 h225 h224 xS
       have ⟨hO,h192,h193,h198,h201,h202⟩:=e6e hE hO.m2 h192.m1 h193.m1 h198.m1 h201.m1 h202.m1
       replace hS:=hS.conv (t:=10) (y:=.slice wP (vA.set om.toNat true).length wG) kr (by rw [List.length_set])
       replace hS:=hS.conv (t:=88) (y:=.slice wP (vA.set om.toNat true).length wG) kr (by rw [List.length_set])
       refine ePe T hS [88,89] [(16,B true)] fun a hS=>?_
       exact ⟨Z,_,(vA.set om.toNat true),true,wP,wG,hm,hS.sl _,hO,h192,h193,h228,h198,h201,h202⟩
      replace hm:=hm.2 hb
      refine aI ?_
      exact ⟨Z,_,vA,HC,wP,wG,hm,hS.sl _,hO,h192,h193,h197,h198,h201,h202⟩
     rintro a YA ⟨Z,Vy,Em,HB,JA,Jm,hm,hS,hO,h203,h204,h208,h209,h211,h212⟩
     unfold VC3_J4 at hm
     refine region (ePe T hS [] [(17,I (wR (om+1)))] fun a hS=>?_)
     exact ⟨⟨Em,HB,wR (om+1)⟩,⟨Z,_,JA,Jm,hm.1,hS.sl _,hO,h203,h204,h208,h209,h211,h212⟩,hm.2⟩
    replace hm:=hm.2 hb
    refine cl (by rfl) ?_
    exact ⟨Z,_,vA,HC,wP,wG,hm,hS.sl _,hO,h192,h193,h197,h201,h202⟩
   rintro a Yz ⟨Z,Vx,su,mE,JC,Jo,hm,hS,hO,h183,h184,h188,h190,h191⟩
   unfold VC3_J3 at hm
   refine rPe T hS [16] [(92,B (!mE))] fun a hS=>(aC hS (b:=(!mE)) kr (fun hb=>?_) fun hb=>?_)
   ·replace hm:=hm.1 hb
    refine rP T hS ⟨[(4,B false)],[]⟩ fun a hS=>(aR ?_)
    exact fin T hS hO (fun c=>c) rfl (r:=[.bool false]) kr (fun X' hM hC=>⟨_,hm,rfl⟩)
   replace hm:=hm.2 hb
   refine aI (region (ePe T hS [92] [(11,I (wR (hZ+1)))] fun a hS=>?_))
   exact ⟨⟨su,wR (hZ+1)⟩,⟨Z,_,JC,Jo,hm.1,hS.sl _,hO,h183,h184,h188,h190,h191⟩,hm.2⟩
  replace hm:=hm.2 hb
  refine cl (by rfl) ?_
  exact ⟨Z,_,mN,mL,mK,hm,hS.sl _,hO,h161,h165⟩
 rintro a Yw ⟨Z,aca,Eu,wQ,wH,hm,hS,hO,h135,h139⟩
 unfold VC3_J1 at hm
 refine cg (fun a w=>∃ Z X,VC3_J2 Q cY cf/\St Tryz.f3.ntmps ⟨[(7,I cY.1),(9,Sl gE cf gC)],[]⟩ Z a w X/\Old w0 X0 w X/\RS (aA aO) w X gE cf gC) ?_ ?_
 ·refine rPe T hS [] [(18,I 0)] fun a hS=>(aH ?_)
  obtain ⟨I1,μ1,cC,hm⟩:=hm
  refine cu (σ:=(List Bool) × Int) (fun s a w=>∃ Z X kK kJ,I1 s.1 s.2/\St Tryz.f3.ntmps ⟨[(7,I cY.1),(9,Sl gE cf gC),(10,Sl kK s.1 kJ),(18,I s.2)],[]⟩ Z a w X/\Old w0 X0 w X/\RS (aA aO) w X gE cf gC/\OS cD 4 w X 1011 kK s.1 kJ) (fun s=>μ1 s.1 s.2) (⟨Eu,0⟩) ?_ ?_
  ·exact ⟨Z,_,wQ,wH,cC,hS.sl _,hO,h135,h139⟩
  rintro ⟨jh,jC⟩ a HL ⟨Z,NV,kK,kJ,hI,hS,hO,h145,h149⟩
  replace hm:=hm jh jC hI
  clear hI cC
  refine a8 (rPe T hS [] [(96,B (decide (jC < (lN jh))))] fun a hS=>?_)
  refine aC hS (b:=decide (jC < (lN jh))) kr (fun hb=>?_) fun hb=>?_
  ·replace hm:=hm.1 hb
   refine aI (a8 ?_)
   refine aH (bk ?_)
   refine oPe T hS 2 [96] [(99,Sl kK jh kJ),(100,I jC)] fun a hS=>?_
   obtain ⟨Kl,hm⟩:=hm
   refine op1 (iC (E:=4) (k:=.i64) T hS kr kr kr kr h149 kr kr Kl.1 Kl.2 ?_)
   intro V4 a h153 h152 hS
   refine op1 (tl T hS kr kr kr h152 rfl kr ?_)
   intro v155 a hv hS
   cases hv
   refine ePe T hS [99,100,101,102] [(103,B (!(gi jh jC)))] fun a hS=>(aC hS (b:=(!(gi jh jC))) kr (fun hb=>?_) fun hb=>?_)
   ·replace hm:=hm.1 hb
    refine rPe T hS [7,9,10,18,103] [(4,B false)] fun a hS=>(aR ?_)
    exact fin T hS hO (fun c=>c) rfl (r:=[.bool false]) kr (fun X' hM hC=>⟨_,hm,rfl⟩)
   replace hm:=hm.2 hb
   refine aI (region (ePe T hS [103] [(18,I (wR (jC+1)))] fun a hS=>?_))
   exact ⟨⟨jh,wR (jC+1)⟩,⟨Z,_,kK,kJ,hm.1,hS.sl _,hO,h145,h149⟩,hm.2⟩
  replace hm:=hm.2 hb
  refine cl (by rfl) ?_
  exact ⟨Z,_,hm,hS.sl _,hO,h145⟩
 rintro a EA ⟨Z,JN,hm,hS,hO,h140⟩
 unfold VC3_J2 at hm
 refine bk (oPe T hS 7 [7,9] [(110,B ((decide (cY.1 > 0)) == (decide ((lN cf) > 0))))] fun a hS=>?_)
 rcases bft ((decide (cY.1 > 0)) == (decide ((lN cf) > 0))) with hb | hb
 ·replace hS:=hS.lit (t:=110) kr hb
  replace hm:=hm.1 hb
  refine op1 (call hS kr kr hb5 kr (fun _ _=>rfl) (k5 _ _) ?_)
  intro v141 a Ls RB hE hp hS
  replace hO:=hO.m2 hE
  generalize hr:ji=qt at hp
  replace hm:=hm qt hr
  subst hp
  refine ePe T hS [110,111] [(4,B qt)] fun a hS=>(aR ?_)
  exact fin T hS hO (fun c=>c) rfl (r:=[.bool qt]) kr (fun X' hM hC=>⟨_,hm,rfl⟩)
 replace hS:=hS.lit (t:=110) kr hb
 replace hm:=hm.2 hb
 refine ePe T hS [110] [(4,B false)] fun a hS=>(aR ?_)
 exact fin T hS hO (fun c=>c) rfl (r:=[.bool false]) kr (fun X' hM hC=>⟨_,hm,rfl⟩)
end Go.Proofs.YtobeanopikjkeaaGreat
