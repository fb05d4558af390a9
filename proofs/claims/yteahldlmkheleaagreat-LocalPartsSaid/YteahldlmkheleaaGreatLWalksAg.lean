import Derived.Test.YteahldlmkheleaaGreatLWalksS
set_option linter.all false
namespace Go.Proofs.YteahldlmkheleaaGreat
open Go Go.Sv
abbrev zAg0 (cD:Nat):Nat->Nat:=fun c=>(bif Nat.beq c 1017 then cD else c)
abbrev zAg1 (i1 i2 i3 i4:Nat):List (Nat × Nat):=[(i1,901),(i2,902),(i3,903),(i4,904)]
set_option maxHeartbeats 1000000
theorem W43 (wd:S63) (Kr:S73) (w0) (X0) (l_:List ab) (rows:List (List aa)) (a1) (c1) (a2) (c2) (Q:(List aa) × (List (Int × Int))->Prop) (hm:VC43 l_ rows Q) (h1:RS aq w0 X0 a1 l_ c1) (h2:RS (b7 au) w0 X0 a2 rows c2) :
  Ret Tryz.prog 43 #[.slice a1 l_.length c1,.slice a2 rows.length c2] aI w0 X0 (fun w X' v=>∃ r,Q r/\∃ co cn iA iz,v=.tuple #[.slice co r.1.length cn,.slice iA r.2.length iz]/\RS au w X' co r.1 cn/\RS tP2 w X' iA r.2 iz):=by
 unfold VC43 at hm
 replace hm:=hm (h1.sm kr)
 replace hm:=hm (h2.sm kr)
 refine enter Tryz.func43 rfl (vals:=[.slice a1 l_.length c1,.slice a2 rows.length c2]) kr ?_
 intro Z a hS hO hM
 replace h1:=h1.m0 hM
 replace h2:=h2.m0 hM
 refine rPe T hS [] [] fun a hS=>?_
 refine bl ?_
 refine oPe T hS 1 [] [(16,Sl a2 rows c2)] fun a hS=>?_
 obtain ⟨hq,hm⟩:=hm
 refine op1 (call hS kr kr hb73 kr (fun _ _=>rfl) (Kr _ _ rows a2 c2 hq h2) ?_)
 intro v101 a eX e8 hE hp hS
 replace hO:=hO.m2 hE
 replace h1:=h1.m1 hE
 replace h2:=h2.m1 hE
 obtain ⟨dH,dG,hp,h107⟩:=hp
 obtain ⟨am,hr⟩:∃ r,b8 rows=r:=⟨_,rfl⟩
 replace hm:=hm am hr
 rw [hr] at hp h107
 clear hr
 subst hp
 replace hm:=hm (h107.sm kr)
 refine ePe T hS [16,17] [(6,Sl dH am dG)] fun a hS=>?_
 refine rPe T hS [] [(7,V (.slice none 0 0))] fun a hS=>?_
 refine rPe T hS [] [(8,I 0)] fun a hS=>?_
 refine b5 (fun a w=>∃ (Z:Nat->Nat) (X:Nat->Nat) (bF:List (Int × Int)) (iy:Option Addr) (io:Nat),VC43_J1 l_ Q am bF/\St Tryz.f43.ntmps ⟨[(0,Sl a1 l_ c1),(6,Sl dH am dG),(7,Sl iy bF io)],[]⟩ Z a w X/\Old w0 X0 w X/\RS aq w X a1 l_ c1/\RS au w X dH am dG/\OS tP2 131 w X 1006 iy bF io) ?_ ?_
 ·refine rPe T hS [1] [(18,Sl a2 rows c2),(19,I (lN rows)),(20,I 0)] fun a hS=>?_
  refine aK ?_
  obtain ⟨I3,μ3,ci,hm⟩:=hm
  refine cg (σ:=(List (Int × Int)) × Int × Int) (fun s a w=>∃ Z X mW mS,I3 s.1 s.2.1 s.2.2/\St Tryz.f43.ntmps ⟨[(0,Sl a1 l_ c1),(6,Sl dH am dG),(7,Sl mW s.1 mS),(8,I s.2.1),(18,Sl a2 rows c2),(19,I (lN rows)),(20,I s.2.2)],[]⟩ Z a w X/\Old w0 X0 w X/\RS aq w X a1 l_ c1/\RS au w X dH am dG/\OS tP2 131 w X 1006 mW s.1 mS/\RS (b7 au) w X a2 rows c2) (fun s=>μ3 s.1 s.2.1 s.2.2) (⟨[],0,0⟩) ?_ ?_
  ·exact ⟨Z,_,none,0,ci,hS.sl _,hO,h1,h107,(OS.nil _ _ _ _ _),h2⟩
  rintro ⟨m6,h8,iW⟩ a NT ⟨Z,Qd,mW,mS,hI,hS,hO,h194,h195,h199,h201⟩
  replace hm:=hm m6 h8 iW hI
  clear hI ci
  refine rPe T hS [] [(21,B (decide (iW < (lN rows))))] fun a hS=>?_
  refine bc ?_
  refine aG hS (b:=decide (iW < (lN rows))) kr (fun hb=>?_) fun hb=>?_
  ·replace hm:=hm.1 hb
   refine aJ (bc ?_)
   refine aK ?_
   refine bl ?_
   obtain ⟨hq,hm⟩:=hm
   refine op1 (index (e:=26) (k:=.i64) T hS kr kr kr kr h201 kr kr hq.1 hq.2 ?_)
   intro QJ a h204 hS
   refine op1 (dL T hS kr kr kr h204 rfl kr ?_)
   intro v205 a hv hS
   obtain ⟨nN,nI,hv,h208⟩:=hv
   cases hv
   replace hm:=hm (h208.sm kr)
   refine ePe T hS [21,22,23] [(10,Sl nN (gi rows iW) nI)] fun a hS=>?_
   refine b5 (fun a w=>∃ (Z:Nat->Nat) (X:Nat->Nat) (zZ:List (Int × Int)) (zD:Option Addr) (zq:Nat),VC43_J5 rows I3 μ3 m6 h8 iW zZ/\St Tryz.f43.ntmps ⟨[(0,Sl a1 l_ c1),(6,Sl dH am dG),(7,Sl zD zZ zq),(8,I h8),(10,Sl nN (gi rows iW) nI),(18,Sl a2 rows c2),(19,I (lN rows)),(20,I iW)],[]⟩ Z a w X/\Old w0 X0 w X/\RS aq w X a1 l_ c1/\RS au w X dH am dG/\OS tP2 131 w X 1006 zD zZ zq/\RS au w X nN (gi rows iW) nI/\RS (b7 au) w X a2 rows c2) ?_ ?_
   ·refine rPe T hS [] [(11,I 1)] fun a hS=>?_
    refine aK ?_
    obtain ⟨I4,μ4,ci,hm⟩:=hm
    refine cg (σ:=(List (Int × Int)) × Int) (fun s a w=>∃ Z X BU BE,I4 s.1 s.2/\St Tryz.f43.ntmps ⟨[(0,Sl a1 l_ c1),(6,Sl dH am dG),(7,Sl BU s.1 BE),(8,I h8),(10,Sl nN (gi rows iW) nI),(11,I s.2),(18,Sl a2 rows c2),(19,I (lN rows)),(20,I iW)],[]⟩ Z a w X/\Old w0 X0 w X/\RS aq w X a1 l_ c1/\RS au w X dH am dG/\OS tP2 131 w X 1006 BU s.1 BE/\RS au w X nN (gi rows iW) nI/\RS (b7 au) w X a2 rows c2) (fun s=>μ4 s.1 s.2) (⟨m6,1⟩) ?_ ?_
    ·exact ⟨Z,_,mW,mS,ci,hS.sl _,hO,h194,h195,h199,h208,h201⟩
    rintro ⟨yb,mB⟩ a JB ⟨Z,Qe,BU,BE,hI,hS,hO,h217,h218,h222,h223,h225⟩
    replace hm:=hm yb mB hI
    clear hI ci
    refine bc ?_
    refine rPe T hS [] [(27,B (decide (mB < (lN (gi rows iW)))))] fun a hS=>?_
    refine aG hS (b:=decide (mB < (lN (gi rows iW)))) kr (fun hb=>?_) fun hb=>?_
    ·replace hm:=hm.1 hb
     refine aJ (bc ?_)
     refine aK ?_
     refine region ?_
     refine oPe T hS 9 [27] [(30,Sl BU yb BE),(38,V (.agg #[.int .i64 (wR ((wR (h8+mB)) - 1)),.int .i64 (wR (h8+mB))]))] fun a hS=>?_
     refine op1 (lit (E:=131) (col:=0) (T:=tP2) (vals:=[.agg #[.int .i64 (wR ((wR (h8+mB)) - 1)),.int .i64 (wR (h8+mB))]]) (ys:=[(wR ((wR (h8+mB)) - 1),wR (h8+mB))]) T hS kr kr kr kr (by exact ⟨rfl,trivial⟩) rfl kr kr kr kr ?_)
     intro b226 a NX Qh hE h229 hN hS
     clear hN
     replace hO:=hO.m2 hE
     replace h217:=h217.m1 hE
     replace h218:=h218.m1 hE
     replace h222:=h222.m2 hE
     replace h223:=h223.m1 hE
     replace h225:=h225.m1 hE
     replace h229:=h229.rs0
     obtain ⟨hq,hm⟩:=hm
     obtain ⟨news,hN⟩:=h229.src
     refine op1 (append (E:=131) (T:=tP2) (col:=1006) (xs:=yb) T hS kr kr kr kr h222 hN kr kr kr kr hq ?_)
     intro Ix Ih a JC Mb hE h232 hS
     clear hq hN
     clear h222
     replace hO:=hO.m2 hE
     replace h217:=h217.m1 hE
     replace h218:=h218.m1 hE
     replace h223:=h223.m1 hE
     replace h225:=h225.m1 hE
     replace h229:=h229.m1 hE
     refine ePe T hS [38,39,40] [(7,Sl Ix (yb++[(wR ((wR (h8+mB)) - 1),wR (h8+mB))]) Ih)] fun a hS=>?_
     refine region (ePe T hS [] [(11,I (wR (mB+1)))] fun a hS=>?_)
     exact ⟨⟨yb++[(wR ((wR (h8+mB)) - 1),wR (h8+mB))],wR (mB+1)⟩,⟨Z,_,Ix,Ih,hm.1,hS.sl _,hO,h217,h218,h232,h223,h225⟩,hm.2⟩
    replace hm:=hm.2 hb
    refine cb (by rfl) ?_
    exact ⟨Z,_,yb,BU,BE,hm,hS.sl _,hO,h217,h218,h222,h223,h225⟩
   rintro a NU ⟨Z,Ma,zZ,zD,zq,hm,hS,hO,h209,h210,h214,h215,h216⟩
   unfold VC43_J5 at hm
   refine region (ePe T hS [10] [(8,I (wR (h8+(lN (gi rows iW)))))] fun a hS=>?_)
   refine region (ePe T hS [] [(20,I (wR (iW+1)))] fun a hS=>?_)
   exact ⟨⟨zZ,wR (h8+(lN (gi rows iW))),wR (iW+1)⟩,⟨Z,_,zD,zq,hm.1,hS.sl _,hO,h209,h210,h214,h216⟩,hm.2⟩
  replace hm:=hm.2 hb
  refine cb (by rfl) ?_
  exact ⟨Z,_,m6,mW,mS,hm,hS.sl _,hO,h194,h195,h199⟩
 rintro a NS ⟨Z,Qc,bF,iy,io,hm,hS,hO,h108,h109,h113⟩
 unfold VC43_J1 at hm
 refine b5 (fun a w=>∃ (Z:Nat->Nat) (X:Nat->Nat) (bo:List (Int × Int)) (dN:Option Addr) (dM:Nat),VC43_J2 Q am bo/\St Tryz.f43.ntmps ⟨[(6,Sl dH am dG),(7,Sl dN bo dM)],[]⟩ Z a w X/\Old w0 X0 w X/\RS au w X dH am dG/\OS tP2 131 w X 1006 dN bo dM) ?_ ?_
 ·refine rPe T hS [] [(46,Sl dH am dG),(47,I (lN am)),(48,I 0)] fun a hS=>?_
  refine aK ?_
  obtain ⟨I1,μ1,ci,hm⟩:=hm
  refine cg (σ:=(List (Int × Int)) × Int) (fun s a w=>∃ Z X gN gK,I1 s.1 s.2/\St Tryz.f43.ntmps ⟨[(0,Sl a1 l_ c1),(6,Sl dH am dG),(7,Sl gN s.1 gK),(46,Sl dH am dG),(47,I (lN am)),(48,I s.2)],[]⟩ Z a w X/\Old w0 X0 w X/\RS aq w X a1 l_ c1/\RS au w X dH am dG/\OS tP2 131 w X 1006 gN s.1 gK/\RS au w X dH am dG) (fun s=>μ1 s.1 s.2) (⟨bF,0⟩) ?_ ?_
  ·exact ⟨Z,_,iy,io,ci,hS.sl _,hO,h108,h109,h113,h109⟩
  rintro ⟨d5,fF⟩ a GU ⟨Z,Mm,gN,gK,hI,hS,hO,h121,h122,h126,h127⟩
  replace hm:=hm d5 fF hI
  clear hI ci
  refine rPe T hS [] [(49,B (decide (fF < (lN am))))] fun a hS=>?_
  refine bc ?_
  refine aG hS (b:=decide (fF < (lN am))) kr (fun hb=>?_) fun hb=>?_
  ·replace hm:=hm.1 hb
   refine aJ ?_
   refine b5 (fun a w=>∃ (Z:Nat->Nat) (X:Nat->Nat) (fE:List (Int × Int)) (gD:Option Addr) (gB:Nat),VC43_J3 I1 μ1 d5 fF fE/\St Tryz.f43.ntmps ⟨[(0,Sl a1 l_ c1),(6,Sl dH am dG),(7,Sl gD fE gB),(46,Sl dH am dG),(47,I (lN am)),(48,I fF)],[]⟩ Z a w X/\Old w0 X0 w X/\RS aq w X a1 l_ c1/\RS au w X dH am dG/\OS tP2 131 w X 1006 gD fE gB/\RS au w X dH am dG) ?_ ?_
   ·refine aK ?_
    refine bl ?_
    refine oPe T hS 1 [49] [(50,I fF)] fun a hS=>?_
    obtain ⟨hq,hm⟩:=hm
    refine op1 (index (e:=56) (k:=.i64) T hS kr kr kr kr h127 kr kr hq.1 hq.2 ?_)
    intro DP a h137 hS
    refine op1 (eD T hS kr kr kr h137 kr kr ?_)
    intro v138 a hv hS
    subst hv
    refine eM T hS ⟨[(0,Sl a1 l_ c1),(6,Sl dH am dG),(7,Sl gN d5 gK),(12,I fF),(13,Pt 14 0),(46,Sl dH am dG),(47,I (lN am)),(48,I fF)],[(14,(56,(cK (gi am fF))))]⟩ fun Z a EQ IM hS hE hr=>?_
    replace hO:=hO.m2 hE
    replace h121:=h121.m1 hE
    replace h122:=h122.m1 hE
    replace h126:=h126.m2 hE
    replace h127:=h127.m1 hE
    clear hE hr
    refine rPe T hS [] [(53,Sl dH am dG),(54,I (lN am)),(55,I 0)] fun a hS=>?_
    refine aK ?_
    obtain ⟨I2,μ2,ci,hm⟩:=hm
    refine cg (σ:=(List (Int × Int)) × Int) (fun s a w=>∃ Z X jQ jM,I2 s.1 s.2/\St Tryz.f43.ntmps ⟨[(0,Sl a1 l_ c1),(6,Sl dH am dG),(7,Sl jQ s.1 jM),(12,I fF),(13,Pt 14 0),(46,Sl dH am dG),(47,I (lN am)),(48,I fF),(53,Sl dH am dG),(54,I (lN am)),(55,I s.2)],[(14,(56,(cK (gi am fF))))]⟩ Z a w X/\Old w0 X0 w X/\RS aq w X a1 l_ c1/\RS au w X dH am dG/\OS tP2 131 w X 1006 jQ s.1 jM/\RS au w X dH am dG/\RS au w X dH am dG) (fun s=>μ2 s.1 s.2) (⟨d5,0⟩) ?_ ?_
    ·exact ⟨Z,_,gN,gK,ci,hS.sl _,hO,h121,h122,h126,h127,h122⟩
    rintro ⟨iZ,dT⟩ a JL ⟨Z,Mn,jQ,jM,hI,hS,hO,h139,h140,h144,h145,h146⟩
    replace hm:=hm iZ dT hI
    clear hI ci
    refine rPe T hS [] [(56,B (decide (dT < (lN am))))] fun a hS=>?_
    refine bc ?_
    refine aG hS (b:=decide (dT < (lN am))) kr (fun hb=>?_) fun hb=>?_
    ·replace hm:=hm.1 hb
     refine aJ ?_
     refine b5 (fun a w=>∃ (Z:Nat->Nat) (X:Nat->Nat) (m8:List (Int × Int)) (DH:Option Addr) (Dw:Nat),VC43_J4 I2 μ2 iZ dT m8/\St Tryz.f43.ntmps ⟨[(0,Sl a1 l_ c1),(6,Sl dH am dG),(7,Sl DH m8 Dw),(12,I fF),(13,Pt 14 0),(46,Sl dH am dG),(47,I (lN am)),(48,I fF),(53,Sl dH am dG),(54,I (lN am)),(55,I dT)],[(14,(56,(cK (gi am fF))))]⟩ Z a w X/\Old w0 X0 w X/\RS aq w X a1 l_ c1/\RS au w X dH am dG/\OS tP2 131 w X 1006 DH m8 Dw/\RS au w X dH am dG/\RS au w X dH am dG) ?_ ?_
     ·refine aK ?_
      refine bl ?_
      refine oPe T hS 1 [56] [(57,I dT)] fun a hS=>?_
      obtain ⟨hq,hm⟩:=hm
      refine op1 (index (e:=56) (k:=.i64) T hS kr kr kr kr h146 kr kr hq.1 hq.2 ?_)
      intro MB a h157 hS
      refine op1 (eD T hS kr kr kr h157 kr kr ?_)
      intro v158 a hv hS
      subst hv
      refine eM T hS ⟨[(0,Sl a1 l_ c1),(6,Sl dH am dG),(7,Sl jQ iZ jM),(12,I fF),(13,Pt 14 0),(14,I dT),(15,Pt 16 0),(46,Sl dH am dG),(47,I (lN am)),(48,I fF),(53,Sl dH am dG),(54,I (lN am)),(55,I dT)],[(14,(56,(cK (gi am fF)))),(16,(56,(cK (gi am dT))))]⟩ fun Z a ER IP hS hE hr=>?_
      replace hO:=hO.m2 hE
      replace h139:=h139.m1 hE
      replace h140:=h140.m1 hE
      replace h144:=h144.m2 hE
      replace h145:=h145.m1 hE
      replace h146:=h146.m1 hE
      clear hE hr
      refine dw [14,16] mixed hS ?_
      intro yf DJ hS hE hD hH
      replace hO:=hO.m2 hE
      replace h139:=h139.m1 hE
      replace h140:=h140.m1 hE
      replace h144:=h144.m2 hE
      replace h145:=h145.m1 hE
      replace h146:=h146.m1 hE
      refine tke T [0,1,5,6,2,7] [14,16] hS hH #[true,true,true,false,false,true,true,true,false,false,false] 5 [15] [(60,Sl a1 l_ c1),(62,I ((gi am fF).Oper)),(65,Sl a1 l_ c1),(67,I ((gi am dT).Oper))] fun a hS=>?_
      obtain ⟨hq,hm⟩:=hm
      refine db (e:=102) (k:=.i64) T 3 hS kr kr kr (by rfl) kr hH kr kr h139 kr kr hq.1 hq.2 ?_
      intro Q3 a h162 hS
      have HO:=h162.here
      refine jJ T 4 hS kr kr kr (by rfl) kr hH kr h162 HO kr kr ?_
      intro v163 a hv hS
      subst hv
      obtain ⟨hq,hm⟩:=hm
      refine db (e:=102) (k:=.i64) T 8 hS kr kr kr (by rfl) kr hH kr kr h139 kr kr hq.1 hq.2 ?_
      intro MA a h165 hS
      have HN:=h165.here
      refine jJ T 9 hS kr kr kr (by rfl) kr hH kr h165 HN kr kr ?_
      intro v166 a hv hS
      subst hv
      refine only 10 kr (by rfl) (call hS kr kr hb63 kr (fun _ _=>rfl) (wd _ _ (gi l_ ((gi am fF).Oper)) (gi l_ ((gi am dT).Oper))) ?_)
      intro v167 a Cw Gi hE hp hS
      replace hO:=hO.m2 hE
      replace hD:=hD.ev hE rfl
      replace h139:=h139.m1 hE
      replace h140:=h140.m1 hE
      replace h144:=h144.m2 hE
      replace h145:=h145.m1 hE
      replace h146:=h146.m1 hE
      replace h162:=h162.m1 hE
      replace h165:=h165.m1 hE
      obtain ⟨tZ,hr⟩:∃ r,bh (gi l_ ((gi am fF).Oper)) (gi l_ ((gi am dT).Oper))=r:=⟨_,rfl⟩
      replace hm:=hm tZ hr
      rw [hr] at hp
      clear hr
      subst hp
      replace hS:=hS.sle [] [(70,B tZ)]
      refine c8 (bJ.of hS (bks:=[14,16]) kr hD) ?_
      intro hH
      refine aU kr ?_
      replace hS:=hS.sl ⟨[(0,Sl a1 l_ c1),(6,Sl dH am dG),(7,Sl jQ iZ jM),(12,I fF),(13,Pt 14 0),(14,I dT),(46,Sl dH am dG),(47,I (lN am)),(48,I fF),(53,Sl dH am dG),(54,I (lN am)),(55,I dT),(70,B tZ)],[(14,(56,(cK (gi am fF))))]⟩
      refine aG hS (b:=tZ) kr (fun hb=>?_) fun hb=>?_
      ·replace hm:=hm.1 hb
       refine region ?_
       refine oPe T hS 4 [14,70] [(71,Sl jQ iZ jM),(74,V (.agg #[.int .i64 fF,.int .i64 dT]))] fun a hS=>?_
       refine op1 (lit (E:=131) (col:=0) (T:=tP2) (vals:=[.agg #[.int .i64 fF,.int .i64 dT]]) (ys:=[(fF,dT)]) T hS kr kr kr kr (by exact ⟨rfl,trivial⟩) rfl kr kr kr kr ?_)
       intro b171 a ES Gh hE h174 hN hS
       clear hN
       replace hO:=hO.m2 hE
       replace h139:=h139.m1 hE
       replace h140:=h140.m1 hE
       replace h144:=h144.m2 hE
       replace h145:=h145.m1 hE
       replace h146:=h146.m1 hE
       replace h174:=h174.rs0
       obtain ⟨hq,hm⟩:=hm
       obtain ⟨news,hN⟩:=h174.src
       refine op1 (append (E:=131) (T:=tP2) (col:=1006) (xs:=iZ) T hS kr kr kr kr h144 hN kr kr kr kr hq ?_)
       intro IC Im a GV Gg hE h177 hS
       clear hq hN
       clear h144
       replace hO:=hO.m2 hE
       replace h139:=h139.m1 hE
       replace h140:=h140.m1 hE
       replace h145:=h145.m1 hE
       replace h146:=h146.m1 hE
       replace h174:=h174.m1 hE
       refine ePe T hS [74,75,76] [(7,Sl IC (iZ++[(fF,dT)]) Im)] fun a hS=>?_
       exact ⟨Z,_,iZ++[(fF,dT)],IC,Im,hm,hS.sl _,hO,h139,h140,h177,h145,h146⟩
      replace hm:=hm.2 hb
      refine aJ ?_
      exact ⟨Z,_,iZ,jQ,jM,hm,hS.sl _,hO,h139,h140,h144,h145,h146⟩
     rintro a JM ⟨Z,IO,m8,DH,Dw,hm,hS,hO,h148,h149,h153,h154,h155⟩
     unfold VC43_J4 at hm
     refine region (ePe T hS [] [(55,I (wR (dT+1)))] fun a hS=>?_)
     exact ⟨⟨m8,wR (dT+1)⟩,⟨Z,_,DH,Dw,hm.1,hS.sl _,hO,h148,h149,h153,h154,h155⟩,hm.2⟩
    replace hm:=hm.2 hb
    refine cb (by rfl) ?_
    exact ⟨Z,_,iZ,jQ,jM,hm,hS.sl _,hO,h139,h140,h144,h145⟩
   rintro a JK ⟨Z,IL,fE,gD,gB,hm,hS,hO,h129,h130,h134,h135⟩
   unfold VC43_J3 at hm
   refine region (ePe T hS [] [(48,I (wR (fF+1)))] fun a hS=>?_)
   exact ⟨⟨fE,wR (fF+1)⟩,⟨Z,_,gD,gB,hm.1,hS.sl _,hO,h129,h130,h134,h135⟩,hm.2⟩
  replace hm:=hm.2 hb
  refine cb (by rfl) ?_
  exact ⟨Z,_,d5,gN,gK,hm,hS.sl _,hO,h122,h126⟩
 rintro a JJ ⟨Z,IK,bo,dN,dM,hm,hS,hO,h114,h118⟩
 unfold VC43_J2 at hm
 refine rPe T hS [6,7] [(4,Sl dH am dG),(5,Sl dN bo dM)] fun a hS=>?_
 refine aV ?_
 obtain ⟨B9,hE,hF⟩:=h118.freeze (by decide)
 replace hS:=hS.ev hE (cq kr)
 replace hO:=hO.m2 hE
 replace h114:=h114.m1 hE
 have h120:=hF; clear hE hF
 exact fin T hS hO (fun c=>c) rfl (r:=[.slice dH am.length dG,.slice dN bo.length dM]) kr (fun X' hM hC=>⟨(am,bo),hm,dH,dG,dN,dM,rfl,h114.m0 hM,h120.m0 hM⟩)
theorem C43 (wd:S63) (Kr:S73) (v:∀ (l_:List ab) (rows:List (List aa)),ue l_ rows->VC43 l_ rows (fun r=>r=b9 l_ rows)):S43:=by
 intro w X l_ rows a1 c1 a2 c2   hp h1 h2
 refine (W43 wd Kr w X l_ rows a1 c1 a2 c2   _ (v l_ rows hp) h1 h2).mono ?_
 rintro _ _ _ _ ⟨r,rfl,h⟩
 exact h
theorem W15 (KJ:S41) (KI:S42) (KH:S43) (KG:S44) (w0) (X0) (h_:ak) (a1) (c1) (a2) (c2) (Q:(List aa) × Int->Prop) (hm:VC15 h_ Q) (h1:RS ay w0 X0 a1 h_.ae c1) (h2:RS aM w0 X0 a2 h_.ao c2) :
  Ret Tryz.prog 15 #[.agg #[.slice a1 h_.ae.length c1,.slice a2 h_.ao.length c2]] aI w0 X0 (fun w X' v=>∃ r,Q r/\∃ co cn,v=.tuple #[.slice co r.1.length cn,.int .i64 r.2]/\RS au w X' co r.1 cn):=by
 unfold VC15 at hm
 replace hm:=hm (h1.sm kr)
 replace hm:=hm (h2.sm kr)
 refine enter Tryz.func15 rfl (vals:=[.agg #[.slice a1 h_.ae.length c1,.slice a2 h_.ao.length c2]]) kr ?_
 intro Z a hS hO hM
 replace h1:=h1.m0 hM
 replace h2:=h2.m0 hM
 refine rM T hS ⟨[(1,Pt 2 0)],[(2,(25,[Sl a1 h_.ae c1,Sl a2 h_.ao c2]))]⟩ fun Z a Oa IQ hS hE hr=>?_
 replace hO:=hO.m2 hE
 replace h1:=h1.m1 hE
 replace h2:=h2.m1 hE
 clear hE hr
 refine bl ?_
 refine oPe T hS 1 [] [(16,V (.agg #[.slice a1 h_.ae.length c1,.slice a2 h_.ao.length c2]))] fun a hS=>?_
 obtain ⟨hq,hm⟩:=hm
 refine op1 (call hS kr kr hb41 kr (fun _ _=>rfl) (KJ _ _ h_ a1 c1 a2 c2 hq h1 h2) ?_)
 intro v101 a eX e8 hE hp hS
 replace hO:=hO.m2 hE
 replace h1:=h1.m1 hE
 replace h2:=h2.m1 hE
 obtain ⟨dH,dG,gr,gq,hp,h107,h110⟩:=hp
 obtain ⟨am,hr⟩:∃ r,cd h_=r:=⟨_,rfl⟩
 replace hm:=hm am hr
 rw [hr] at hp h107 h110
 clear hr
 subst hp
 replace hm:=hm (h107.sm kr)
 replace hm:=hm (h110.sm kr)
 refine ePe T hS [16,17] [(4,Sl dH am.1 dG),(5,Sl gr am.2.1 gq),(6,I am.2.2)] fun a hS=>?_
 refine bc ?_
 refine rPe T hS [] [(22,B (am.2.2 != 0))] fun a hS=>?_
 refine aG hS (b:=(am.2.2 != 0)) kr (fun hb=>?_) fun hb=>?_
 ·replace hm:=hm.1 hb
  refine rP T hS ⟨[(2,V (.slice none 0 0)),(3,I am.2.2)],[]⟩ fun a hS=>?_
  refine aV ?_
  exact fin T hS hO (fun c=>c) rfl (r:=[.slice none 0 0,.int .i64 am.2.2]) kr (fun X' hM hC=>⟨([],am.2.2),hm,none,0,rfl,RS.empty _ _ _⟩)
 replace hm:=hm.2 hb
 refine aJ ?_
 refine bl ?_
 refine oP T hS 3 ⟨[(4,Sl dH am.1 dG),(6,I am.2.2),(25,V (.agg #[.slice a1 h_.ae.length c1,.slice a2 h_.ao.length c2])),(26,Sl dH am.1 dG),(27,Sl gr am.2.1 gq)],[]⟩ fun a hS=>?_
 obtain ⟨hq,hm⟩:=hm
 refine op1 (call hS kr kr hb42 kr (fun _ _=>rfl) (KI _ _ h_ am.1 am.2.1 a1 c1 a2 c2 dH dG gr gq hq h1 h2 h107 h110) ?_)
 intro v111 a yk qL hE hp hS
 replace hO:=hO.m2 hE
 replace h1:=h1.m1 hE
 replace h2:=h2.m1 hE
 replace h107:=h107.m1 hE
 replace h110:=h110.m1 hE
 obtain ⟨q5,qY,hp,h117⟩:=hp
 obtain ⟨cV,hr⟩:∃ r,cz h_ am.1 am.2.1=r:=⟨_,rfl⟩
 replace hm:=hm cV hr
 rw [hr] at hp h117
 clear hr
 subst hp
 replace hm:=hm (h117.sm kr)
 refine ePe T hS [25,26,27,28] [(6,I cV.2),(7,Sl q5 cV.1 qY)] fun a hS=>?_
 refine bc ?_
 refine rPe T hS [] [(32,B (cV.2 != 0))] fun a hS=>?_
 refine aG hS (b:=(cV.2 != 0)) kr (fun hb=>?_) fun hb=>?_
 ·replace hm:=hm.1 hb
  refine rPe T hS [4,6,7,32] [(2,V (.slice none 0 0)),(3,I cV.2)] fun a hS=>?_
  refine aV ?_
  exact fin T hS hO (fun c=>c) rfl (r:=[.slice none 0 0,.int .i64 cV.2]) kr (fun X' hM hC=>⟨([],cV.2),hm,none,0,rfl,RS.empty _ _ _⟩)
 replace hm:=hm.2 hb
 refine aJ ?_
 refine bl ?_
 refine oPe T hS 2 [4,6,7,32] [(35,Sl dH am.1 dG),(36,Sl q5 cV.1 qY)] fun a hS=>?_
 obtain ⟨hq,hm⟩:=hm
 refine op1 (call hS kr kr hb43 kr (fun _ _=>rfl) (KH _ _ am.1 cV.1 dH dG q5 qY hq h107 h117) ?_)
 intro v118 a tD zL hE hp hS
 replace hO:=hO.m2 hE
 replace h107:=h107.m1 hE
 replace h117:=h117.m1 hE
 obtain ⟨jR,jN,ip,ii,hp,h124,h127⟩:=hp
 obtain ⟨d7,hr⟩:∃ r,b9 am.1 cV.1=r:=⟨_,rfl⟩
 replace hm:=hm d7 hr
 rw [hr] at hp h124 h127
 clear hr
 subst hp
 replace hm:=hm (h124.sm kr)
 replace hm:=hm (h127.sm kr)
 refine ePe T hS [35,36,37] [(8,Sl jR d7.1 jN),(9,Sl ip d7.2 ii)] fun a hS=>?_
 refine bl ?_
 refine oPe T hS 3 [9] [(42,I (lN d7.1)),(43,Sl ip d7.2 ii)] fun a hS=>?_
 refine op1 (call hS kr kr hb44 kr (fun _ _=>rfl) (KG _ _ (lN d7.1) d7.2 ip ii h127) ?_)
 intro v128 a JT DM hE hp hS
 replace hO:=hO.m2 hE
 replace h124:=h124.m1 hE
 replace h127:=h127.m1 hE
 obtain ⟨gD,gB,hp,h134⟩:=hp
 obtain ⟨fM,hr⟩:∃ r,de (lN d7.1) d7.2=r:=⟨_,rfl⟩
 replace hm:=hm fM hr
 rw [hr] at hp h134
 clear hr
 subst hp
 replace hm:=hm (h134.sm kr)
 refine ePe T hS [42,43,44] [(10,Sl gD fM.1 gB),(11,B fM.2)] fun a hS=>?_
 refine bc ?_
 refine rPe T hS [11] [(48,B (!fM.2))] fun a hS=>?_
 refine aG hS (b:=(!fM.2)) kr (fun hb=>?_) fun hb=>?_
 ·replace hm:=hm.1 hb
  refine rPe T hS [8,10,48] [(2,V (.slice none 0 0)),(3,I 41)] fun a hS=>?_
  refine aV ?_
  exact fin T hS hO (fun c=>c) rfl (r:=[.slice none 0 0,.int .i64 41]) kr (fun X' hM hC=>⟨([],41),hm,none,0,rfl,RS.empty _ _ _⟩)
 replace hm:=hm.2 hb
 refine aJ ?_
 refine bl ?_
 refine op1 (lit (E:=56) (col:=1003) (T:=au) (vals:=[]) (ys:=([]:List aa)) T hS kr kr kr kr trivial rfl kr kr kr kr ?_)
 intro b135 a r8 vi hE h138 hN hS
 clear hN
 replace hO:=hO.m2 hE
 replace h124:=h124.m1 hE
 replace h134:=h134.m1 hE
 refine ePe T hS [48,49] [(12,Sl (some ⟨b135,0,none⟩) ([]:List aa) 0)] fun a hS=>?_
 refine b5 (fun a w=>∃ (Z:Nat->Nat) (X:Nat->Nat) (jh:List aa) (mX:Option Addr) (mT:Nat),VC15_J1 Q jh/\St Tryz.f15.ntmps ⟨[(12,Sl mX jh mT)],[]⟩ Z a w X/\Old w0 X0 w X/\OS au 56 w X 1003 mX jh mT) ?_ ?_
 ·refine rPe T hS [10] [(50,Sl gD fM.1 gB),(51,I (lN fM.1)),(52,I 0)] fun a hS=>?_
  refine aK ?_
  obtain ⟨I1,μ1,ci,hm⟩:=hm
  refine cg (σ:=(List aa) × Int) (fun s a w=>∃ Z X qJ qC,I1 s.1 s.2/\St Tryz.f15.ntmps ⟨[(8,Sl jR d7.1 jN),(12,Sl qJ s.1 qC),(50,Sl gD fM.1 gB),(51,I (lN fM.1)),(52,I s.2)],[]⟩ Z a w X/\Old w0 X0 w X/\RS au w X jR d7.1 jN/\OS au 56 w X 1003 qJ s.1 qC/\RS tI w X gD fM.1 gB) (fun s=>μ1 s.1 s.2) (⟨([]:List aa),0⟩) ?_ ?_
  ·exact ⟨Z,_,(some ⟨b135,0,none⟩),0,ci,hS.sl _,hO,h124,h138,h134⟩
  rintro ⟨l9,f8⟩ a Cw ⟨Z,IR,qJ,qC,hI,hS,hO,h145,h149,h150⟩
  replace hm:=hm l9 f8 hI
  clear hI ci
  refine rPe T hS [] [(53,B (decide (f8 < (lN fM.1))))] fun a hS=>?_
  refine bc ?_
  refine aG hS (b:=decide (f8 < (lN fM.1))) kr (fun hb=>?_) fun hb=>?_
  ·replace hm:=hm.1 hb
   refine aJ (bc ?_)
   refine aK ?_
   refine bl ?_
   obtain ⟨hq,hm⟩:=hm
   refine op1 (index (e:=3) (k:=.i64) T hS kr kr kr kr h150 kr kr hq.1 hq.2 ?_)
   intro MC a h153 hS
   refine op1 (dL T hS kr kr kr h153 rfl kr ?_)
   intro v154 a hv hS
   cases hv
   refine ePe T hS [53,54,55] [(14,I (gi fM.1 f8))] fun a hS=>?_
   refine region ?_
   refine oPe T hS 3 [14] [(56,Sl qJ l9 qC),(57,Sl jR d7.1 jN),(58,I (gi fM.1 f8))] fun a hS=>?_
   obtain ⟨hq,hm⟩:=hm
   refine op1 (index (e:=56) (k:=.i64) T hS kr kr kr kr h145 kr kr hq.1 hq.2 ?_)
   intro I5 a h156 hS
   refine op1 (eD T hS kr kr kr h156 kr kr ?_)
   intro v157 a hv hS
   subst hv
   refine op1 (lit (E:=56) (col:=0) (T:=au) (vals:=[.agg #[.int .i64 ((gi d7.1 (gi fM.1 f8)).Oper),.int .i64 ((gi d7.1 (gi fM.1 f8)).Result)]]) (ys:=[gi d7.1 (gi fM.1 f8)]) T hS kr kr kr kr (by exact ⟨rfl,trivial⟩) rfl kr kr kr kr ?_)
   intro b158 a yf DJ hE h161 hN hS
   clear hN
   replace hO:=hO.m2 hE
   replace h145:=h145.m1 hE
   replace h149:=h149.m2 hE
   replace h150:=h150.m1 hE
   replace h156:=h156.m1 hE
   replace h161:=h161.rs0
   obtain ⟨hq,hm⟩:=hm
   obtain ⟨news,hN⟩:=h161.src
   refine op1 (append (E:=56) (T:=au) (col:=1003) (xs:=l9) T hS kr kr kr kr h149 hN kr kr kr kr hq ?_)
   intro qI qB a Cy DI hE h164 hS
   clear hq hN
   clear h149
   replace hO:=hO.m2 hE
   replace h145:=h145.m1 hE
   replace h150:=h150.m1 hE
   replace h156:=h156.m1 hE
   replace h161:=h161.m1 hE
   refine ePe T hS [57,58,59,60,61,62] [(12,Sl qI (l9++[gi d7.1 (gi fM.1 f8)]) qB)] fun a hS=>?_
   refine region (ePe T hS [] [(52,I (wR (f8+1)))] fun a hS=>?_)
   exact ⟨⟨l9++[gi d7.1 (gi fM.1 f8)],wR (f8+1)⟩,⟨Z,_,qI,qB,hm.1,hS.sl _,hO,h145,h164,h150⟩,hm.2⟩
  replace hm:=hm.2 hb
  refine cb (by rfl) ?_
  exact ⟨Z,_,l9,qJ,qC,hm,hS.sl _,hO,h149⟩
 rintro a JR ⟨Z,Gi,jh,mX,mT,hm,hS,hO,h142⟩
 unfold VC15_J1 at hm
 refine rPe T hS [12] [(2,Sl mX jh mT),(3,I 0)] fun a hS=>?_
 refine aV ?_
 obtain ⟨q6,hE,hF⟩:=h142.freeze (by decide)
 replace hS:=hS.ev hE (cq kr)
 replace hO:=hO.m2 hE
 have h144:=hF; clear hE hF
 exact fin T hS hO (fun c=>c) rfl (r:=[.slice mX jh.length mT,.int .i64 0]) kr (fun X' hM hC=>⟨(jh,0),hm,mX,mT,rfl,h144.m0 hM⟩)
theorem C15 (KJ:S41) (KI:S42) (KH:S43) (KG:S44) (v:∀ (h_:ak),fQ h_->VC15 h_ (fun r=>r=cG h_)):S15:=by
 intro w X h_ a1 c1 a2 c2   hp h1 h2
 refine (W15 KJ KI KH KG w X h_ a1 c1 a2 c2   _ (v h_ hp) h1 h2).mono ?_
 rintro _ _ _ _ ⟨r,rfl,h⟩
 exact h
theorem W9 (D0:S15) (w0) (X0) (h_:ak) (a1) (c1) (a2) (c2) (Q:Bool × Int->Prop) (hm:VC9 h_ Q) (h1:RS ay w0 X0 a1 h_.ae c1) (h2:RS aM w0 X0 a2 h_.ao c2) :
  Ret Tryz.prog 9 #[.agg #[.slice a1 h_.ae.length c1,.slice a2 h_.ao.length c2]] aI w0 X0 (fun w X' v=>∃ r,Q r/\v=.tuple #[.bool r.1,.int .i64 r.2]):=by
 unfold VC9 at hm
 replace hm:=hm (h1.sm kr)
 replace hm:=hm (h2.sm kr)
 refine enter Tryz.func9 rfl (vals:=[.agg #[.slice a1 h_.ae.length c1,.slice a2 h_.ao.length c2]]) kr ?_
 intro Z a hS hO hM
 replace h1:=h1.m0 hM
 replace h2:=h2.m0 hM
 refine rM T hS ⟨[(1,Pt 2 0)],[(2,(25,[Sl a1 h_.ae c1,Sl a2 h_.ao c2]))]⟩ fun Z a E4 Ca hS hE hr=>?_
 replace hO:=hO.m2 hE
 replace h1:=h1.m1 hE
 replace h2:=h2.m1 hE
 clear hE hr
 refine bl ?_
 refine oP T hS 1 ⟨[(7,V (.agg #[.slice a1 h_.ae.length c1,.slice a2 h_.ao.length c2]))],[]⟩ fun a hS=>?_
 obtain ⟨hq,hm⟩:=hm
 refine op1 (call hS kr kr hb15 kr (fun _ _=>rfl) (D0 _ _ h_ a1 c1 a2 c2 hq h1 h2) ?_)
 intro v101 a eX e8 hE hp hS
 replace hO:=hO.m2 hE
 replace h1:=h1.m1 hE
 replace h2:=h2.m1 hE
 obtain ⟨dH,dG,hp,h107⟩:=hp
 obtain ⟨am,hr⟩:∃ r,cG h_=r:=⟨_,rfl⟩
 replace hm:=hm am hr
 rw [hr] at hp h107
 clear hr
 subst hp
 replace hm:=hm (h107.sm kr)
 refine ePe T hS [7,8] [(5,I am.2)] fun a hS=>?_
 refine bc ?_
 refine rPe T hS [] [(12,B (am.2 == 41))] fun a hS=>?_
 refine aG hS (b:=(am.2 == 41)) kr (fun hb=>?_) fun hb=>?_
 ·replace hm:=hm.1 hb
  refine rPe T hS [5,12] [(2,B false),(3,I 0)] fun a hS=>?_
  refine aV ?_
  exact fin T hS hO (fun c=>c) rfl (r:=[.bool false,.int .i64 0]) kr (fun X' hM hC=>⟨(false,0),hm,rfl⟩)
 replace hm:=hm.2 hb
 refine aJ ?_
 refine rPe T hS [5,12] [(2,B (am.2 == 0)),(3,I am.2)] fun a hS=>?_
 refine aV ?_
 exact fin T hS hO (fun c=>c) rfl (r:=[.bool (am.2 == 0),.int .i64 am.2]) kr (fun X' hM hC=>⟨((am.2 == 0),am.2),hm,rfl⟩)
theorem C9 (D0:S15) (v:∀ (h_:ak),fQ h_->VC9 h_ (fun r=>r=dv h_)):S9:=by
 intro w X h_ a1 c1 a2 c2   hp h1 h2
 refine (W9 D0 w X h_ a1 c1 a2 c2   _ (v h_ hp) h1 h2).mono ?_
 rintro _ _ _ _ ⟨r,rfl,h⟩
 exact h
theorem W32 (w0) (X0) (i_:Int) (al:List aa) (ap:List ab) (aL:List Int) (bz:Int) (a1) (c1) (a2) (c2) (a3) (c3) (b1) (i1) (b2) (i2) (b3) (i3) (b4) (i4) (Q:Bool->Prop) (hm:VC32 i_ al ap aL bz Q) (h1:RS au w0 X0 a1 al c1) (h2:RS aq w0 X0 a2 ap c2) (h3:RS tI w0 X0 a3 aL c3) (fb:Cell w0 X0 b1 i1 26 [.slice a1 al.length c1]) (gp:Cell w0 X0 b2 i2 42 [.slice a2 ap.length c2]) (lb:Cell w0 X0 b3 i3 43 [.slice a3 aL.length c3]) (sY:Cell w0 X0 b4 i4 3 [.int .i64 bz]) (hA:dP [i1,i2,i3,i4]) :
  Ret Tryz.prog 32 #[.int .i64 i_,.pointer (some ⟨b1,0,none⟩),.pointer (some ⟨b2,0,none⟩),.pointer (some ⟨b3,0,none⟩),.pointer (some ⟨b4,0,none⟩)] (pR [i1,i2,i3,i4]) w0 X0 (fun w X' v=>∃ r,Q r/\v=.bool r/\Cell w X' b1 i1 26 [.slice a1 al.length c1]/\Cell w X' b2 i2 42 [.slice a2 ap.length c2]/\Cell w X' b3 i3 43 [.slice a3 aL.length c3]/\Cell w X' b4 i4 3 [.int .i64 bz]):=by
 unfold VC32 at hm
 replace hm:=hm (h1.sm kr)
 replace hm:=hm (h2.sm kr)
 replace hm:=hm (h3.sm kr)
 refine fv Tryz.func32 rfl (dB (zAg1 i1 i2 i3 i4)) (fun id=>(bif Nat.beq id 901 then b1 else (bif Nat.beq id 902 then b2 else (bif Nat.beq id 903 then b3 else (bif Nat.beq id 904 then b4 else 0))))) (args:=[I i_,Pt 901 0,Pt 902 0,Pt 903 0,Pt 904 0]) (bxs:=[(901,(26,[Sl a1 al c1])),(902,(42,[Sl a2 ap c2])),(903,(43,[Sl a3 aL c3])),(904,(3,[I bz]))]) kr rfl (bn.cons kr (fb.map (bK 0 hA.1 rfl)) (bn.cons kr (gp.map (bK 1 hA.1 rfl)) (bn.cons kr (lb.map (bK 2 hA.1 rfl)) (bn.cons kr (sY.map (bK 3 hA.1 rfl)) bn.nil)))) (fe (fun q hq=>(hA.2 q.1 (List.mem_map.2 ⟨q,hq,rfl⟩)).1)) ?_
 intro a hS hO hM
 have hP:Pin [(901,b1),(902,b2),(903,b3),(904,b4)] (fun id=>(bif Nat.beq id 901 then b1 else (bif Nat.beq id 902 then b2 else (bif Nat.beq id 903 then b3 else (bif Nat.beq id 904 then b4 else 0))))):=by intro q hq; simp at hq; rcases hq with rfl | rfl | rfl | rfl <;> rfl
 generalize (fun id=>(bif Nat.beq id 901 then b1 else (bif Nat.beq id 902 then b2 else (bif Nat.beq id 903 then b3 else (bif Nat.beq id 904 then b4 else 0)))))=Z at hS hP
 clear fb gp lb sY
 replace h1:=h1.m0 hM
 replace h2:=h2.m0 hM
 replace h3:=h3.m0 hM
 refine rPe T hS [] [] fun a hS=>?_
 refine bl ?_
 refine oPe T hS 2 [0,1] [(8,Sl a1 al c1),(9,I i_)] fun a hS=>?_
 obtain ⟨hq,hm⟩:=hm
 refine op1 (index (e:=56) (k:=.i64) T hS kr kr kr kr h1 kr kr hq.1 hq.2 ?_)
 intro Jd a h102 hS
 refine op1 (e7 (off:=0) (fsz:=1) (ft:=3) (TF:=tI) (y:=(gi al i_).Oper) T hS kr kr kr h102 kr kr kr (fun cs h=>gF h) ?_)
 intro tv a h104 hS
 refine op1 (dL T hS kr kr kr h104 rfl kr ?_)
 intro v105 a hv hS
 cases hv
 refine ePe T hS [8,9,10,11,12] [(7,I ((gi al i_).Oper))] fun a hS=>?_
 refine dw [901,902,903,904] mixed hS ?_
 intro mD mj hS hE hD hH
 replace hO:=hO.m2 hE
 replace h1:=h1.m1 hE
 replace h2:=h2.m1 hE
 replace h3:=h3.m1 hE
 refine tke T [0,1,2] [901,902,903,904] hS hH #[true,true,true,false,false,false,false,false,false,false,false,false,false,false,false,false,false] 14 [] [(15,B (decide (((gi al i_).Oper) < 0)))] fun a hS=>?_
 refine jv (tc:=15) (b:=decide (((gi al i_).Oper) < 0)) (f:=fun c=>⟨[(3,Pt 903 0),(4,Pt 904 0),(7,I ((gi al i_).Oper)),(20,B (c || (decide (((gi al i_).Oper)≥(lN ap)))))],[(901,(26,[Sl a1 al c1])),(902,(42,[Sl a2 ap c2])),(903,(43,[Sl a3 aL c3])),(904,(3,[I bz]))]⟩) T [3,4,5,6,7] [901,902,903,904] [3,4,7,20] hS kr kr kr kr hH (listed':=#[true,true,true,true,true,true,true,true,false,false,false,false,false,false,false,false,false]) (fuel:=9) kr kr (by rfl) ?_
 intro a hS
 refine tke T [8] [901,902,903,904] hS hH #[true,true,true,true,true,true,true,true,true,false,false,false,false,false,false,false,false] 8 [20] [(21,B ((decide (((gi al i_).Oper) < 0)) || (decide (((gi al i_).Oper)≥(lN ap)))))] fun a hS=>?_
 rcases bft ((decide (((gi al i_).Oper) < 0)) || (decide (((gi al i_).Oper)≥(lN ap)))) with hb | hb
 ·replace hS:=hS.lit (t:=21) kr hb
  replace hm:=hm.1 hb
  refine tke T [9,10,13,11,12,14,15,16] [901,902,903,904] hS hH (tts 17) 0 [3,4,7,21] [(6,B true)] fun a hS=>?_
  refine aU kr ?_
  replace hS:=hS.sle [] []
  refine aV ?_
  exact gy T hS hO (fun c h=>bT kr h) (fun c h=>bU (l:=(zAg1 i1 i2 i3 i4)) h) (bO (zAg1 i1 i2 i3 i4)) rfl (r:=[.bool true]) kr (fun X' hM hC=>⟨true,hm,rfl,((hS.cell (id:=901) (t:=26) (cs:=[Sl a1 al c1]) kr).out (f:=(bO (zAg1 i1 i2 i3 i4))) hC kr kr (hP.at 0 rfl)),((hS.cell (id:=902) (t:=42) (cs:=[Sl a2 ap c2]) kr).out (f:=(bO (zAg1 i1 i2 i3 i4))) hC kr kr (hP.at 1 rfl)),((hS.cell (id:=903) (t:=43) (cs:=[Sl a3 aL c3]) kr).out (f:=(bO (zAg1 i1 i2 i3 i4))) hC kr kr (hP.at 2 rfl)),((hS.cell (id:=904) (t:=3) (cs:=[I bz]) kr).out (f:=(bO (zAg1 i1 i2 i3 i4))) hC kr kr (hP.at 3 rfl))⟩)
 replace hS:=hS.lit (t:=21) kr hb
 replace hm:=hm.2 hb
 refine tke T [9,10,13] [901,902,903,904] hS hH #[true,true,true,true,true,true,true,true,true,true,true,false,false,true,false,false,false] 5 [3,4,7] [(22,Sl a3 aL c3),(23,I ((gi al i_).Oper)),(26,I bz)] fun a hS=>?_
 obtain ⟨hq,hm⟩:=hm
 refine db (e:=3) (k:=.i64) T 11 hS kr kr kr (by rfl) kr hH kr kr h3 kr kr hq.1 hq.2 ?_
 intro ML a h109 hS
 have HY:=h109.here
 refine dU T 12 hS kr kr kr (by rfl) kr hH kr h109 HY rfl kr ?_
 intro v110 a hv hS
 cases hv
 refine tke T [14,15,16] [901,902,903,904] hS hH (tts 17) 0 [21,22,23,26,24,25] [(6,B ((gi aL ((gi al i_).Oper)) == bz))] fun a hS=>?_
 refine aU kr ?_
 replace hS:=hS.sle [] []
 refine aV ?_
 exact gy T hS hO (fun c h=>bT kr h) (fun c h=>bU (l:=(zAg1 i1 i2 i3 i4)) h) (bO (zAg1 i1 i2 i3 i4)) rfl (r:=[.bool ((gi aL ((gi al i_).Oper)) == bz)]) kr (fun X' hM hC=>⟨((gi aL ((gi al i_).Oper)) == bz),hm,rfl,((hS.cell (id:=901) (t:=26) (cs:=[Sl a1 al c1]) kr).out (f:=(bO (zAg1 i1 i2 i3 i4))) hC kr kr (hP.at 0 rfl)),((hS.cell (id:=902) (t:=42) (cs:=[Sl a2 ap c2]) kr).out (f:=(bO (zAg1 i1 i2 i3 i4))) hC kr kr (hP.at 1 rfl)),((hS.cell (id:=903) (t:=43) (cs:=[Sl a3 aL c3]) kr).out (f:=(bO (zAg1 i1 i2 i3 i4))) hC kr kr (hP.at 2 rfl)),((hS.cell (id:=904) (t:=3) (cs:=[I bz]) kr).out (f:=(bO (zAg1 i1 i2 i3 i4))) hC kr kr (hP.at 3 rfl))⟩)
theorem C32 (v:∀ (i_:Int) (al:List aa) (ap:List ab) (aL:List Int) (bz:Int),xg i_ al ap aL bz->VC32 i_ al ap aL bz (fun r=>r=dD i_ al ap aL bz)):S32:=by
 intro w X i_ al ap aL bz a1 c1 a2 c2 a3 c3  b1 i1 b2 i2 b3 i3 b4 i4 hp h1 h2 h3 fb gp lb sY hA
 refine (W32 w X i_ al ap aL bz a1 c1 a2 c2 a3 c3  b1 i1 b2 i2 b3 i3 b4 i4 _ (v i_ al ap aL bz hp) h1 h2 h3 fb gp lb sY hA).mono ?_
 rintro _ _ _ _ ⟨r,rfl,h⟩
 exact h
theorem W31_32 (KP:S32) (w0) (X0) (l_:List aa) (al:List aa) (ap:List ab) (aL:List Int) (bz:Int) (a1) (c1) (a2) (c2) (a3) (c3) (a4) (c4) (b1) (i1) (b2) (i2) (b3) (i3) (b4) (i4) (Q:(List aa)->Prop) (hm:VC31_32 l_ al ap aL bz Q) (h1:RS au w0 X0 a1 l_ c1) (h2:RS au w0 X0 a2 al c2) (h3:RS aq w0 X0 a3 ap c3) (h4:RS tI w0 X0 a4 aL c4) (fb:Cell w0 X0 b1 i1 26 [.slice a2 al.length c2]) (gp:Cell w0 X0 b2 i2 42 [.slice a3 ap.length c3]) (lb:Cell w0 X0 b3 i3 43 [.slice a4 aL.length c4]) (sY:Cell w0 X0 b4 i4 3 [.int .i64 bz]) (hA:dP [i1,i2,i3,i4]) :
  Ret Tryz.prog 31 #[.slice a1 l_.length c1,.func (.func 32) #[] #[.pointer (some ⟨b1,0,none⟩),.pointer (some ⟨b2,0,none⟩),.pointer (some ⟨b3,0,none⟩),.pointer (some ⟨b4,0,none⟩)]] (pR [i1,i2,i3,i4]) w0 X0 (fun w X' v=>∃ r,Q r/\∃ co cn,v=.slice co r.length cn/\RS au w X' co r cn/\Cell w X' b1 i1 26 [.slice a2 al.length c2]/\Cell w X' b2 i2 42 [.slice a3 ap.length c3]/\Cell w X' b3 i3 43 [.slice a4 aL.length c4]/\Cell w X' b4 i4 3 [.int .i64 bz]):=by
 unfold VC31_32 at hm
 replace hm:=hm (h1.sm kr)
 replace hm:=hm (h2.sm kr)
 replace hm:=hm (h3.sm kr)
 replace hm:=hm (h4.sm kr)
 refine fv Tryz.func31 rfl (dB (zAg1 i1 i2 i3 i4)) (fun id=>(bif Nat.beq id 901 then b1 else (bif Nat.beq id 902 then b2 else (bif Nat.beq id 903 then b3 else (bif Nat.beq id 904 then b4 else 0))))) (args:=[Sl a1 l_ c1,.f (.func 32) [] [.p 901 0,.p 902 0,.p 903 0,.p 904 0]]) (bxs:=[(901,(26,[Sl a2 al c2])),(902,(42,[Sl a3 ap c3])),(903,(43,[Sl a4 aL c4])),(904,(3,[I bz]))]) kr rfl (bn.cons kr (fb.map (bK 0 hA.1 rfl)) (bn.cons kr (gp.map (bK 1 hA.1 rfl)) (bn.cons kr (lb.map (bK 2 hA.1 rfl)) (bn.cons kr (sY.map (bK 3 hA.1 rfl)) bn.nil)))) (fe (fun q hq=>(hA.2 q.1 (List.mem_map.2 ⟨q,hq,rfl⟩)).1)) ?_
 intro a hS hO hM
 have hP:Pin [(901,b1),(902,b2),(903,b3),(904,b4)] (fun id=>(bif Nat.beq id 901 then b1 else (bif Nat.beq id 902 then b2 else (bif Nat.beq id 903 then b3 else (bif Nat.beq id 904 then b4 else 0))))):=by intro q hq; simp at hq; rcases hq with rfl | rfl | rfl | rfl <;> rfl
 generalize (fun id=>(bif Nat.beq id 901 then b1 else (bif Nat.beq id 902 then b2 else (bif Nat.beq id 903 then b3 else (bif Nat.beq id 904 then b4 else 0)))))=Z at hS hP
 clear fb gp lb sY
 replace h1:=h1.m0 hM
 replace h2:=h2.m0 hM
 replace h3:=h3.m0 hM
 replace h4:=h4.m0 hM
 refine rPe T hS [] [] fun a hS=>?_
 refine rPe T hS [] [(5,V (.slice none 0 0))] fun a hS=>?_
 refine b5 (fun a w=>∃ (Z:Nat->Nat) (X:Nat->Nat) (bv:List aa) (dm:Option Addr) (dl:Nat),VC31_32_J1 Q bv/\St Tryz.f31.ntmps ⟨[(5,Sl dm bv dl)],[(901,(26,[Sl a2 al c2])),(902,(42,[Sl a3 ap c3])),(903,(43,[Sl a4 aL c4])),(904,(3,[I bz]))]⟩ Z a w X/\fO (dB (zAg1 i1 i2 i3 i4)) w0 X0 w X/\Pin [(901,b1),(902,b2),(903,b3),(904,b4)] Z/\OS au 56 w X 1005 dm bv dl/\RS au w X a2 al c2/\RS aq w X a3 ap c3/\RS tI w X a4 aL c4) ?_ ?_
 ·refine rPe T hS [0] [(8,Sl a1 l_ c1),(9,I (lN l_)),(10,I 0)] fun a hS=>?_
  refine aK ?_
  obtain ⟨I1,μ1,ci,hm⟩:=hm
  refine cg (σ:=(List aa) × Int) (fun s a w=>∃ Z X iy io,I1 s.1 s.2/\St Tryz.f31.ntmps ⟨[(1,.f (.func 32) [] [.p 901 0,.p 902 0,.p 903 0,.p 904 0]),(5,Sl iy s.1 io),(8,Sl a1 l_ c1),(9,I (lN l_)),(10,I s.2)],[(901,(26,[Sl a2 al c2])),(902,(42,[Sl a3 ap c3])),(903,(43,[Sl a4 aL c4])),(904,(3,[I bz]))]⟩ Z a w X/\fO (dB (zAg1 i1 i2 i3 i4)) w0 X0 w X/\Pin [(901,b1),(902,b2),(903,b3),(904,b4)] Z/\OS au 56 w X 1005 iy s.1 io/\RS au w X a1 l_ c1/\RS au w X a2 al c2/\RS aq w X a3 ap c3/\RS tI w X a4 aL c4) (fun s=>μ1 s.1 s.2) (⟨[],0⟩) ?_ ?_
  ·exact ⟨Z,_,none,0,ci,hS.sl _,hO,hP,(OS.nil _ _ _ _ _),h1,h2,h3,h4⟩
  rintro ⟨bF,bo⟩ a EV ⟨Z,Gl,iy,io,hI,hS,hO,hP,h113,h114,h116,h117,h118⟩
  replace hm:=hm bF bo hI
  clear hI ci
  refine rPe T hS [] [(11,B (decide (bo < (lN l_))))] fun a hS=>?_
  refine bc ?_
  refine aG hS (b:=decide (bo < (lN l_))) kr (fun hb=>?_) fun hb=>?_
  ·replace hm:=hm.1 hb
   refine aJ ?_
   refine b5 (fun a w=>∃ (Z:Nat->Nat) (X:Nat->Nat) (bi:List aa) (gO:Option Addr) (gL:Nat),VC31_32_J2 I1 μ1 bF bo bi/\St Tryz.f31.ntmps ⟨[(1,.f (.func 32) [] [.p 901 0,.p 902 0,.p 903 0,.p 904 0]),(5,Sl gO bi gL),(8,Sl a1 l_ c1),(9,I (lN l_)),(10,I bo)],[(901,(26,[Sl a2 al c2])),(902,(42,[Sl a3 ap c3])),(903,(43,[Sl a4 aL c4])),(904,(3,[I bz]))]⟩ Z a w X/\fO (dB (zAg1 i1 i2 i3 i4)) w0 X0 w X/\Pin [(901,b1),(902,b2),(903,b3),(904,b4)] Z/\OS au 56 w X 1005 gO bi gL/\RS au w X a1 l_ c1/\RS au w X a2 al c2/\RS aq w X a3 ap c3/\RS tI w X a4 aL c4) ?_ ?_
   ·refine aK ?_
    refine bl ?_
    refine oPe T hS 1 [11] [(12,I bo)] fun a hS=>?_
    obtain ⟨hq,hm⟩:=hm
    refine op1 (index (e:=56) (k:=.i64) T hS kr kr kr kr h114 kr kr hq.1 hq.2 ?_)
    intro MG a h128 hS
    refine op1 (eD T hS kr kr kr h128 kr kr ?_)
    intro v129 a hv hS
    subst hv
    refine eM T hS ⟨[(1,.f (.func 32) [] [.p 901 0,.p 902 0,.p 903 0,.p 904 0]),(5,Sl iy bF io),(6,I bo),(7,Pt 8 0),(8,Sl a1 l_ c1),(9,I (lN l_)),(10,I bo)],[(8,(56,(cK (gi l_ bo)))),(901,(26,[Sl a2 al c2])),(902,(42,[Sl a3 ap c3])),(903,(43,[Sl a4 aL c4])),(904,(3,[I bz]))]⟩ fun Z a vy zJ hS hE hr=>?_
    replace hO:=hO.m2 hE
    replace h113:=h113.m2 hE
    replace h114:=h114.m1 hE
    replace h116:=h116.m1 hE
    replace h117:=h117.m1 hE
    replace h118:=h118.m1 hE
    replace hP:=hP.mv hr kr
    clear hE hr
    refine bl ?_
    refine oPe T hS 2 [6] [(15,.f (.func 32) [] [.p 901 0,.p 902 0,.p 903 0,.p 904 0]),(16,I bo)] fun a hS=>?_
    obtain ⟨hq,hm⟩:=hm
    refine op1 (jK (fi:=[]) (cp:=[.p 901 0,.p 902 0,.p 903 0,.p 904 0]) hS kr kr hb32 kr kr (KP _ _ bo al ap aL bz a2 c2 a3 c3 a4 c4 (Z 901) 901 (Z 902) 902 (Z 903) 903 (Z 904) 904 hq h116 h117 h118 (hS.cell (id:=901) (t:=26) (cs:=[Sl a2 al c2]) kr) (hS.cell (id:=902) (t:=42) (cs:=[Sl a3 ap c3]) kr) (hS.cell (id:=903) (t:=43) (cs:=[Sl a4 aL c4]) kr) (hS.cell (id:=904) (t:=3) (cs:=[I bz]) kr) ⟨by decide,by decide⟩) ?_)
    intro v130 a oW ow hE hp hS
    replace hO:=hO.m2 hE
    replace h113:=h113.m2 hE
    replace h114:=h114.m1 hE
    replace h116:=h116.m1 hE
    replace h117:=h117.m1 hE
    replace h118:=h118.m1 hE
    obtain ⟨hp,En,Em,El,us⟩:=hp
    obtain ⟨fP,hr⟩:∃ r,dD bo al ap aL bz=r:=⟨_,rfl⟩
    replace hm:=hm fP hr
    rw [hr] at hp
    clear hr
    subst hp
    replace hS:=hS.cB (id:=901) (t:=26) (cs:=[Sl a2 al c2]) kr En
    replace hS:=hS.cB (id:=902) (t:=42) (cs:=[Sl a3 ap c3]) kr Em
    replace hS:=hS.cB (id:=903) (t:=43) (cs:=[Sl a4 aL c4]) kr El
    replace hS:=hS.cB (id:=904) (t:=3) (cs:=[I bz]) kr us
    clear En Em El us
    refine gA ?_
    refine aG hS (b:=fP) kr (fun hb=>?_) fun hb=>?_
    ·replace hm:=hm.1 hb
     refine region ?_
     refine oP T hS 2 ⟨[(1,.f (.func 32) [] [.p 901 0,.p 902 0,.p 903 0,.p 904 0]),(5,Sl iy bF io),(8,Sl a1 l_ c1),(9,I (lN l_)),(10,I bo),(18,Sl iy bF io),(19,V (.agg #[.int .i64 ((gi l_ bo).Oper),.int .i64 ((gi l_ bo).Result)]))],[(901,(26,[Sl a2 al c2])),(902,(42,[Sl a3 ap c3])),(903,(43,[Sl a4 aL c4])),(904,(3,[I bz]))]⟩ fun a hS=>?_
     refine op1 (lit (E:=56) (col:=0) (T:=au) (vals:=[.agg #[.int .i64 ((gi l_ bo).Oper),.int .i64 ((gi l_ bo).Result)]]) (ys:=[(gi l_ bo)]) T hS kr kr kr kr (by exact ⟨rfl,trivial⟩) rfl kr kr kr kr ?_)
     intro b138 a r7 vh hE h141 hN hS
     clear hN
     replace hO:=hO.m2 hE
     replace h113:=h113.m2 hE
     replace h114:=h114.m1 hE
     replace h116:=h116.m1 hE
     replace h117:=h117.m1 hE
     replace h118:=h118.m1 hE
     replace h141:=h141.rs0
     obtain ⟨hq,hm⟩:=hm
     obtain ⟨news,hN⟩:=h141.src
     refine op1 (append (E:=56) (T:=au) (col:=1005) (xs:=bF) T hS kr kr kr kr h113 hN kr kr kr kr hq ?_)
     intro vf u4 a py q6 hE h144 hS
     clear hq hN
     clear h113
     replace hO:=hO.m2 hE
     replace h114:=h114.m1 hE
     replace h116:=h116.m1 hE
     replace h117:=h117.m1 hE
     replace h118:=h118.m1 hE
     replace h141:=h141.m1 hE
     refine ePe T hS [19,20,21] [(5,Sl vf (bF++[(gi l_ bo)]) u4)] fun a hS=>?_
     exact ⟨Z,_,bF++[(gi l_ bo)],vf,u4,hm,hS.sl _,hO,hP,h144,h114,h116,h117,h118⟩
    replace hm:=hm.2 hb
    refine aJ ?_
    exact ⟨Z,_,bF,iy,io,hm,hS.sl _,hO,hP,h113,h114,h116,h117,h118⟩
   rintro a Aa ⟨Z,wF,bi,gO,gL,hm,hS,hO,hP,h122,h123,h124,h125,h126⟩
   unfold VC31_32_J2 at hm
   refine region (ePe T hS [] [(10,I (wR (bo+1)))] fun a hS=>?_)
   exact ⟨⟨bi,wR (bo+1)⟩,⟨Z,_,gO,gL,hm.1,hS.sl _,hO,hP,h122,h123,h124,h125,h126⟩,hm.2⟩
  replace hm:=hm.2 hb
  refine cb (by rfl) ?_
  exact ⟨Z,_,bF,iy,io,hm,hS.sl _,hO,hP,h113,h116,h117,h118⟩
 rintro a r6 ⟨Z,IU,bv,dm,dl,hm,hS,hO,hP,h104,h105,h106,h107⟩
 unfold VC31_32_J1 at hm
 refine rPe T hS [5] [(4,Sl dm bv dl)] fun a hS=>?_
 refine aV ?_
 obtain ⟨pd,hE,hF⟩:=h104.freeze (by decide)
 replace hS:=hS.ev hE (cq kr)
 replace hO:=hO.m2 hE
 replace h105:=h105.m1 hE
 replace h106:=h106.m1 hE
 replace h107:=h107.m1 hE
 have h109:=hF; clear hE hF
 exact gy T hS hO (fun c h=>bT kr h) (fun c h=>bU (l:=(zAg1 i1 i2 i3 i4)) h) (bO (zAg1 i1 i2 i3 i4)) rfl (r:=[.slice dm bv.length dl]) kr (fun X' hM hC=>⟨bv,hm,dm,dl,rfl,h109.m0 hM,((hS.cell (id:=901) (t:=26) (cs:=[Sl a2 al c2]) kr).out (f:=(bO (zAg1 i1 i2 i3 i4))) hC kr kr (hP.at 0 rfl)),((hS.cell (id:=902) (t:=42) (cs:=[Sl a3 ap c3]) kr).out (f:=(bO (zAg1 i1 i2 i3 i4))) hC kr kr (hP.at 1 rfl)),((hS.cell (id:=903) (t:=43) (cs:=[Sl a4 aL c4]) kr).out (f:=(bO (zAg1 i1 i2 i3 i4))) hC kr kr (hP.at 2 rfl)),((hS.cell (id:=904) (t:=3) (cs:=[I bz]) kr).out (f:=(bO (zAg1 i1 i2 i3 i4))) hC kr kr (hP.at 3 rfl))⟩)
theorem C31_32 (KP:S32) (v:∀ (l_:List aa) (al:List aa) (ap:List ab) (aL:List Int) (bz:Int),xf l_ al ap aL bz->VC31_32 l_ al ap aL bz (fun r=>r=bL l_ al ap aL bz)):S31_32:=by
 intro w X l_ al ap aL bz a1 c1 a2 c2 a3 c3 a4 c4  b1 i1 b2 i2 b3 i3 b4 i4 hp h1 h2 h3 h4 fb gp lb sY hA
 refine (W31_32 KP w X l_ al ap aL bz a1 c1 a2 c2 a3 c3 a4 c4  b1 i1 b2 i2 b3 i3 b4 i4 _ (v l_ al ap aL bz hp) h1 h2 h3 h4 fb gp lb sY hA).mono ?_
 rintro _ _ _ _ ⟨r,rfl,h⟩
 exact h
theorem W12 (qV:S23) (AY:S24) (wg:S31_32) (FA:S33) (Fz:S34) (Fy:S35) (w0) (X0) (h_:ak) (ac:List aa) (a1) (c1) (a2) (c2) (a3) (c3) (Q:Bool->Prop) (hm:VC12 h_ ac Q) (h1:RS ay w0 X0 a1 h_.ae c1) (h2:RS aM w0 X0 a2 h_.ao c2) (h3:RS au w0 X0 a3 ac c3) :
  Ret Tryz.prog 12 #[.agg #[.slice a1 h_.ae.length c1,.slice a2 h_.ao.length c2],.slice a3 ac.length c3] aI w0 X0 (fun w X' v=>∃ r,Q r/\v=.bool r):=by
 unfold VC12 at hm
 replace hm:=hm (h1.sm kr)
 replace hm:=hm (h2.sm kr)
 replace hm:=hm (h3.sm kr)
 refine enter Tryz.func12 rfl (vals:=[.agg #[.slice a1 h_.ae.length c1,.slice a2 h_.ao.length c2],.slice a3 ac.length c3]) kr ?_
 intro Z a hS hO hM
 replace h1:=h1.m0 hM
 replace h2:=h2.m0 hM
 replace h3:=h3.m0 hM
 refine rM T hS ⟨[(2,Pt 3 0),(3,Pt 4 0)],[(3,(25,[Sl a1 h_.ae c1,Sl a2 h_.ao c2])),(4,(26,[Sl a3 ac c3]))]⟩ fun Z a Cy DI hS hE hr=>?_
 replace hO:=hO.m2 hE
 replace h1:=h1.m1 hE
 replace h2:=h2.m1 hE
 replace h3:=h3.m1 hE
 clear hE hr
 refine bc ?_
 refine bl ?_
 refine oPe T hS 1 [] [(16,V (.agg #[.slice a1 h_.ae.length c1,.slice a2 h_.ao.length c2]))] fun a hS=>?_
 obtain ⟨hq,hm⟩:=hm
 refine op1 (call hS kr kr hb23 kr (fun _ _=>rfl) (qV _ _ h_ a1 c1 a2 c2 hq h1 h2) ?_)
 intro v101 a eX e8 hE hp hS
 replace hO:=hO.m2 hE
 replace h1:=h1.m1 hE
 replace h2:=h2.m1 hE
 replace h3:=h3.m1 hE
 obtain ⟨am,hr⟩:∃ r,aB h_=r:=⟨_,rfl⟩
 replace hm:=hm am hr
 rw [hr] at hp
 clear hr
 subst hp
 refine ePe T hS [16,17] [(6,I am.2)] fun a hS=>?_
 refine rPe T hS [6] [(21,B (am.2 != 0))] fun a hS=>?_
 refine aG hS (b:=(am.2 != 0)) kr (fun hb=>?_) fun hb=>?_
 ·replace hm:=hm.1 hb
  refine rP T hS ⟨[(4,B false)],[]⟩ fun a hS=>?_
  refine aV ?_
  exact fin T hS hO (fun c=>c) rfl (r:=[.bool false]) kr (fun X' hM hC=>⟨false,hm,rfl⟩)
 replace hm:=hm.2 hb
 refine aJ ?_
 refine bl ?_
 refine oPe T hS 1 [21] [(23,V (.agg #[.slice a1 h_.ae.length c1,.slice a2 h_.ao.length c2]))] fun a hS=>?_
 obtain ⟨hq,hm⟩:=hm
 refine op1 (call hS kr kr hb24 kr (fun _ _=>rfl) (AY _ _ h_ a1 c1 a2 c2 hq h1 h2) ?_)
 intro v105 a mD mj hE hp hS
 replace hO:=hO.m2 hE
 replace h1:=h1.m1 hE
 replace h2:=h2.m1 hE
 replace h3:=h3.m1 hE
 obtain ⟨cx,cw,gE,gC,hp,h111,h114⟩:=hp
 obtain ⟨aZ,hr⟩:∃ r,cA h_=r:=⟨_,rfl⟩
 replace hm:=hm aZ hr
 rw [hr] at hp h111 h114
 clear hr
 subst hp
 replace hm:=hm (h111.sm kr)
 replace hm:=hm (h114.sm kr)
 refine eM T hS ⟨[(2,Pt 3 0),(3,Pt 4 0),(7,Pt 8 0),(8,Pt 9 0)],[(3,(25,[Sl a1 h_.ae c1,Sl a2 h_.ao c2])),(4,(26,[Sl a3 ac c3])),(8,(42,[Sl cx aZ.1 cw])),(9,(43,[Sl gE aZ.2 gC]))]⟩ fun Z a z8 B3 hS hE hr=>?_
 replace hO:=hO.m2 hE
 replace h1:=h1.m1 hE
 replace h2:=h2.m1 hE
 replace h3:=h3.m1 hE
 replace h111:=h111.m1 hE
 replace h114:=h114.m1 hE
 clear hE hr
 refine b5 (fun a w=>∃ Z X,VC12_J1 ac Q aZ/\St Tryz.f12.ntmps ⟨[(3,Pt 4 0),(7,Pt 8 0)],[(4,(26,[Sl a3 ac c3])),(8,(42,[Sl cx aZ.1 cw]))]⟩ Z a w X/\Old w0 X0 w X/\RS au w X a3 ac c3/\RS aq w X cx aZ.1 cw) ?_ ?_
 ·refine rP T hS ⟨[(3,Pt 4 0),(7,Pt 8 0),(8,Pt 9 0),(28,Sl a1 h_.ae c1),(29,I (lN h_.ae)),(30,I 0)],[(4,(26,[Sl a3 ac c3])),(8,(42,[Sl cx aZ.1 cw])),(9,(43,[Sl gE aZ.2 gC]))]⟩ fun a hS=>?_
  refine aK ?_
  obtain ⟨I1,μ1,ci,hm⟩:=hm
  refine cg (σ:=Int) (fun s a w=>∃ Z X,I1 s/\St Tryz.f12.ntmps ⟨[(3,Pt 4 0),(7,Pt 8 0),(8,Pt 9 0),(28,Sl a1 h_.ae c1),(29,I (lN h_.ae)),(30,I s)],[(4,(26,[Sl a3 ac c3])),(8,(42,[Sl cx aZ.1 cw])),(9,(43,[Sl gE aZ.2 gC]))]⟩ Z a w X/\Old w0 X0 w X/\RS ay w X a1 h_.ae c1/\RS au w X a3 ac c3/\RS aq w X cx aZ.1 cw/\RS tI w X gE aZ.2 gC) (fun s=>μ1 s) (0) ?_ ?_
  ·exact ⟨Z,_,ci,hS.sl _,hO,h1,h3,h111,h114⟩
  rintro jV a yg ⟨Z,B4,hI,hS,hO,h128,h130,h131,h132⟩
  replace hm:=hm jV hI
  clear hI ci
  refine rPe T hS [] [(31,B (decide (jV < (lN h_.ae))))] fun a hS=>?_
  refine bc ?_
  refine aG hS (b:=decide (jV < (lN h_.ae))) kr (fun hb=>?_) fun hb=>?_
  ·replace hm:=hm.1 hb
   refine aJ (bc ?_)
   refine aK ?_
   refine bl ?_
   refine oPe T hS 1 [31] [(32,I jV)] fun a hS=>?_
   obtain ⟨hq,hm⟩:=hm
   refine op1 (index (e:=48) (k:=.i64) T hS kr kr kr kr h128 kr kr hq.1 hq.2 ?_)
   intro ME a h134 hS
   refine op1 (eD T hS kr kr kr h134 kr kr ?_)
   intro v135 a hv hS
   obtain ⟨mY,mU,hv,h138⟩:=hv
   subst hv
   replace hm:=hm (h138.sm kr)
   refine eM T hS ⟨[(3,Pt 4 0),(7,Pt 8 0),(8,Pt 9 0),(9,Pt 10 0),(10,Pt 11 0),(28,Sl a1 h_.ae c1),(29,I (lN h_.ae)),(30,I jV)],[(4,(26,[Sl a3 ac c3])),(8,(42,[Sl cx aZ.1 cw])),(9,(43,[Sl gE aZ.2 gC])),(10,(3,[I jV])),(11,(48,(cO (gi h_.ae jV) mY mU)))]⟩ fun Z a r6 wD hS hE hr=>?_
   replace hO:=hO.m2 hE
   replace h128:=h128.m1 hE
   replace h130:=h130.m1 hE
   replace h131:=h131.m1 hE
   replace h132:=h132.m1 hE
   replace h138:=h138.m1 hE
   clear hE hr
   refine bl ?_
   refine oPe T hS 2 [9] [(35,Sl a3 ac c3),(36,.f (.func 32) [] [.p 4 0,.p 8 0,.p 9 0,.p 10 0])] fun a hS=>?_
   obtain ⟨hq,hm⟩:=hm
   refine op1 (lx hS kr kr hb31 kr (wg _ _ ac ac aZ.1 aZ.2 jV a3 c3 a3 c3 cx cw gE gC (Z 4) 4 (Z 8) 8 (Z 9) 9 (Z 10) 10 hq h130 h130 h131 h132 (hS.cell (id:=4) (t:=26) (cs:=[Sl a3 ac c3]) kr) (hS.cell (id:=8) (t:=42) (cs:=[Sl cx aZ.1 cw]) kr) (hS.cell (id:=9) (t:=43) (cs:=[Sl gE aZ.2 gC]) kr) (hS.cell (id:=10) (t:=3) (cs:=[I jV]) kr) ⟨by decide,by decide⟩) ?_)
   intro v139 a yh wH hE hp hS
   replace hO:=hO.m2 hE
   replace h128:=h128.m1 hE
   replace h130:=h130.m1 hE
   replace h131:=h131.m1 hE
   replace h132:=h132.m1 hE
   replace h138:=h138.m1 hE
   obtain ⟨j7,jZ,hp,h145,up,rt,Eh,Eg⟩:=hp
   obtain ⟨b6,hr⟩:∃ r,bL ac ac aZ.1 aZ.2 jV=r:=⟨_,rfl⟩
   replace hm:=hm b6 hr
   rw [hr] at hp h145
   clear hr
   subst hp
   replace hm:=hm (h145.sm kr)
   replace hS:=hS.cB (id:=4) (t:=26) (cs:=[Sl a3 ac c3]) kr up
   replace hS:=hS.cB (id:=8) (t:=42) (cs:=[Sl cx aZ.1 cw]) kr rt
   replace hS:=hS.cB (id:=9) (t:=43) (cs:=[Sl gE aZ.2 gC]) kr Eh
   replace hS:=hS.cB (id:=10) (t:=3) (cs:=[I jV]) kr Eg
   clear up rt Eh Eg
   refine eP T hS ⟨[(3,Pt 4 0),(7,Pt 8 0),(8,Pt 9 0),(10,Pt 11 0),(11,Sl j7 b6 jZ),(28,Sl a1 h_.ae c1),(29,I (lN h_.ae)),(30,I jV)],[(4,(26,[Sl a3 ac c3])),(8,(42,[Sl cx aZ.1 cw])),(9,(43,[Sl gE aZ.2 gC])),(11,(48,(cO (gi h_.ae jV) mY mU)))]⟩ fun a hS=>?_
   refine bl ?_
   refine oP T hS 3 ⟨[(3,Pt 4 0),(7,Pt 8 0),(8,Pt 9 0),(28,Sl a1 h_.ae c1),(29,I (lN h_.ae)),(30,I jV),(39,V (.agg #[.int .i64 ((gi h_.ae jV).ar),.int .i64 ((gi h_.ae jV).aw),.int .i64 ((gi h_.ae jV).aE),.slice mY ((gi h_.ae jV).Rows).length mU])),(40,Sl cx aZ.1 cw),(41,Sl j7 b6 jZ)],[(4,(26,[Sl a3 ac c3])),(8,(42,[Sl cx aZ.1 cw])),(9,(43,[Sl gE aZ.2 gC]))]⟩ fun a hS=>?_
   obtain ⟨hq,hm⟩:=hm
   refine op1 (call hS kr kr hb33 kr (fun _ _=>rfl) (FA _ _ (gi h_.ae jV) aZ.1 b6 mY mU cx cw j7 jZ hq h138 h131 h145) ?_)
   intro v150 a EW wE hE hp hS
   replace hO:=hO.m2 hE
   replace h128:=h128.m1 hE
   replace h130:=h130.m1 hE
   replace h131:=h131.m1 hE
   replace h132:=h132.m1 hE
   replace h138:=h138.m1 hE
   replace h145:=h145.m1 hE
   obtain ⟨t7,hr⟩:∃ r,cC (gi h_.ae jV) aZ.1 b6=r:=⟨_,rfl⟩
   replace hm:=hm t7 hr
   rw [hr] at hp
   clear hr
   subst hp
   refine ePe T hS [39,40,41,42] [(14,I t7.2.2)] fun a hS=>?_
   refine rPe T hS [14] [(47,B (t7.2.2 != 0))] fun a hS=>?_
   refine aG hS (b:=(t7.2.2 != 0)) kr (fun hb=>?_) fun hb=>?_
   ·replace hm:=hm.1 hb
    refine rP T hS ⟨[(4,B false)],[]⟩ fun a hS=>?_
    refine aV ?_
    exact fin T hS hO (fun c=>c) rfl (r:=[.bool false]) kr (fun X' hM hC=>⟨false,hm,rfl⟩)
   replace hm:=hm.2 hb
   refine aJ ?_
   refine region (ePe T hS [47] [(30,I (wR (jV+1)))] fun a hS=>?_)
   exact ⟨wR (jV+1),⟨Z,_,hm.1,hS.sl _,hO,h128,h130,h131,h132⟩,hm.2⟩
  replace hm:=hm.2 hb
  refine cb (by rfl) ?_
  exact ⟨Z,_,hm,hS.sl _,hO,h130,h131⟩
 rintro a yf ⟨Z,zI,hm,hS,hO,h115,h116⟩
 unfold VC12_J1 at hm
 refine bl ?_
 refine oPe T hS 2 [] [(49,Sl cx aZ.1 cw),(50,Sl a3 ac c3)] fun a hS=>?_
 refine op1 (call hS kr kr hb34 kr (fun _ _=>rfl) (Fz _ _ aZ.1 ac cx cw a3 c3 h116 h115) ?_)
 intro v117 a Ae B9 hE hp hS
 replace hO:=hO.m2 hE
 replace h115:=h115.m1 hE
 replace h116:=h116.m1 hE
 obtain ⟨jy,hr⟩:∃ r,cH aZ.1 ac=r:=⟨_,rfl⟩
 replace hm:=hm jy hr
 rw [hr] at hp
 clear hr
 subst hp
 refine oPe T hS 2 [49,50,51] [(53,B (decide (jy < 0)))] fun a hS=>?_
 rcases bft (decide (jy < 0)) with hb | hb
 ·replace hS:=hS.lit (t:=53) kr hb
  replace hm:=hm.1 hb
  refine oP T hS 2 ⟨[(53,B true),(54,Sl cx aZ.1 cw),(55,Sl a3 ac c3)],[]⟩ fun a hS=>?_
  obtain ⟨hq,hm⟩:=hm
  refine op1 (call hS kr kr hb35 kr (fun _ _=>rfl) (Fy _ _ aZ.1 ac cx cw a3 c3 hq h116 h115) ?_)
  intro v121 a tC tq hE hp hS
  replace hO:=hO.m2 hE
  replace h115:=h115.m1 hE
  replace h116:=h116.m1 hE
  obtain ⟨ip,ii,hp,h127⟩:=hp
  obtain ⟨dA,hr⟩:∃ r,bZ aZ.1 ac=r:=⟨_,rfl⟩
  replace hm:=hm dA hr
  rw [hr] at hp h127
  clear hr
  subst hp
  replace hm:=hm (h127.sm kr)
  refine ePe T hS [53,54,55,56] [(4,B ((lN dA) == 0))] fun a hS=>?_
  refine aV ?_
  exact fin T hS hO (fun c=>c) rfl (r:=[.bool ((lN dA) == 0)]) kr (fun X' hM hC=>⟨((lN dA) == 0),hm,rfl⟩)
 replace hS:=hS.lit (t:=53) kr hb
 replace hm:=hm.2 hb
 refine eP T hS ⟨[(4,B false)],[]⟩ fun a hS=>?_
 refine aV ?_
 exact fin T hS hO (fun c=>c) rfl (r:=[.bool false]) kr (fun X' hM hC=>⟨false,hm,rfl⟩)
theorem C12 (qV:S23) (AY:S24) (wg:S31_32) (FA:S33) (Fz:S34) (Fy:S35) (v:∀ (h_:ak) (ac:List aa),ub h_ ac->VC12 h_ ac (fun r=>r=fS h_ ac)):S12:=by
 intro w X h_ ac a1 c1 a2 c2 a3 c3   hp h1 h2 h3
 refine (W12 qV AY wg FA Fz Fy w X h_ ac a1 c1 a2 c2 a3 c3   _ (v h_ ac hp) h1 h2 h3).mono ?_
 rintro _ _ _ _ ⟨r,rfl,h⟩
 exact h
theorem W13 (FC:S16) (FB:S28) (KO:S36) (KN:S37) (KM:S38) (w0) (X0) (objects:List ah) (l_:List aD) (ac:List aa) (a1) (c1) (a2) (c2) (a3) (c3) (Q:Bool->Prop) (hm:VC13 objects l_ ac Q) (h1:RS ay w0 X0 a1 objects c1) (h2:RS bA w0 X0 a2 l_ c2) (h3:RS au w0 X0 a3 ac c3) :
  Ret Tryz.prog 13 #[.slice a1 objects.length c1,.slice a2 l_.length c2,.slice a3 ac.length c3] aI w0 X0 (fun w X' v=>∃ r,Q r/\v=.bool r):=by
 unfold VC13 at hm
 replace hm:=hm (h1.sm kr)
 replace hm:=hm (h2.sm kr)
 replace hm:=hm (h3.sm kr)
 refine enter Tryz.func13 rfl (vals:=[.slice a1 objects.length c1,.slice a2 l_.length c2,.slice a3 ac.length c3]) kr ?_
 intro Z a hS hO hM
 replace h1:=h1.m0 hM
 replace h2:=h2.m0 hM
 replace h3:=h3.m0 hM
 refine rPe T hS [] [] fun a hS=>?_
 refine bl ?_
 refine oPe T hS 2 [] [(19,Sl a1 objects c1),(20,Sl a2 l_ c2)] fun a hS=>?_
 obtain ⟨hq,hm⟩:=hm
 refine op1 (call hS kr kr hb28 kr (fun _ _=>rfl) (FB _ _ objects l_ a1 c1 a2 c2 hq h1 h2) ?_)
 intro v101 a eX e8 hE hp hS
 replace hO:=hO.m2 hE
 replace h1:=h1.m1 hE
 replace h2:=h2.m1 hE
 replace h3:=h3.m1 hE
 obtain ⟨am,hr⟩:∃ r,dz objects l_=r:=⟨_,rfl⟩
 replace hm:=hm am hr
 rw [hr] at hp
 clear hr
 subst hp
 refine ePe T hS [19,20,21] [(8,I am.2)] fun a hS=>?_
 refine bc ?_
 refine rPe T hS [8] [(25,B (am.2 != 0))] fun a hS=>?_
 refine aG hS (b:=(am.2 != 0)) kr (fun hb=>?_) fun hb=>?_
 ·replace hm:=hm.1 hb
  refine rPe T hS [0,1,2,25] [(6,B false)] fun a hS=>?_
  refine aV ?_
  exact fin T hS hO (fun c=>c) rfl (r:=[.bool false]) kr (fun X' hM hC=>⟨false,hm,rfl⟩)
 replace hm:=hm.2 hb
 refine aJ ?_
 refine bl ?_
 refine oPe T hS 2 [1,25] [(27,Sl a1 objects c1),(28,Sl a2 l_ c2)] fun a hS=>?_
 obtain ⟨hq,hm⟩:=hm
 refine op1 (call hS kr kr hb16 kr (fun _ _=>rfl) (FC _ _ objects l_ a1 c1 a2 c2 hq h1 h2) ?_)
 intro v105 a mD mj hE hp hS
 replace hO:=hO.m2 hE
 replace h1:=h1.m1 hE
 replace h2:=h2.m1 hE
 replace h3:=h3.m1 hE
 obtain ⟨cx,cw,gE,gC,hp,h111,h114⟩:=hp
 obtain ⟨aZ,hr⟩:∃ r,bb objects l_=r:=⟨_,rfl⟩
 replace hm:=hm aZ hr
 rw [hr] at hp h111 h114
 clear hr
 subst hp
 replace hm:=hm (h111.sm kr)
 replace hm:=hm (h114.sm kr)
 refine ePe T hS [27,28,29] [(9,Sl cx aZ.1 cw),(10,Sl gE aZ.2 gC)] fun a hS=>?_
 refine b5 (fun a w=>∃ Z X,VC13_J1 objects ac Q aZ/\St Tryz.f13.ntmps ⟨[(0,Sl a1 objects c1),(2,Sl a3 ac c3),(9,Sl cx aZ.1 cw),(10,Sl gE aZ.2 gC)],[]⟩ Z a w X/\Old w0 X0 w X/\RS ay w X a1 objects c1/\RS au w X a3 ac c3/\RS aq w X cx aZ.1 cw/\RS tI w X gE aZ.2 gC) ?_ ?_
 ·refine rPe T hS [] [(11,I 0)] fun a hS=>?_
  refine aK ?_
  obtain ⟨I3,μ3,ci,hm⟩:=hm
  refine cg (σ:=Int) (fun s a w=>∃ Z X,I3 s/\St Tryz.f13.ntmps ⟨[(0,Sl a1 objects c1),(2,Sl a3 ac c3),(9,Sl cx aZ.1 cw),(10,Sl gE aZ.2 gC),(11,I s)],[]⟩ Z a w X/\Old w0 X0 w X/\RS ay w X a1 objects c1/\RS au w X a3 ac c3/\RS aq w X cx aZ.1 cw/\RS tI w X gE aZ.2 gC) (fun s=>μ3 s) (0) ?_ ?_
  ·exact ⟨Z,_,ci,hS.sl _,hO,h1,h3,h111,h114⟩
  rintro jp a NW ⟨Z,Mb,hI,hS,hO,h209,h210,h211,h212⟩
  replace hm:=hm jp hI
  clear hI ci
  refine bc ?_
  refine rPe T hS [] [(35,B (decide (jp < (lN ac))))] fun a hS=>?_
  refine aG hS (b:=decide (jp < (lN ac))) kr (fun hb=>?_) fun hb=>?_
  ·replace hm:=hm.1 hb
   refine aJ (bc ?_)
   refine aK ?_
   refine b5 (fun a w=>∃ (Z:Nat->Nat) (X:Nat->Nat) (Cr:Bool),VC13_J5 Q I3 μ3 jp Cr/\St Tryz.f13.ntmps ⟨[(0,Sl a1 objects c1),(2,Sl a3 ac c3),(9,Sl cx aZ.1 cw),(10,Sl gE aZ.2 gC),(11,I jp),(53,B Cr)],[]⟩ Z a w X/\Old w0 X0 w X/\RS ay w X a1 objects c1/\RS au w X a3 ac c3/\RS aq w X cx aZ.1 cw/\RS tI w X gE aZ.2 gC) ?_ ?_
   ·refine region ?_
    refine oPe T hS 2 [35] [(38,Sl a3 ac c3),(39,I jp)] fun a hS=>?_
    obtain ⟨hq,hm⟩:=hm
    refine op1 (index (e:=56) (k:=.i64) T hS kr kr kr kr h210 kr kr hq.1 hq.2 ?_)
    intro My a h220 hS
    refine op1 (e7 (off:=0) (fsz:=1) (ft:=3) (TF:=tI) (y:=(gi ac jp).Oper) T hS kr kr kr h220 kr kr kr (fun cs h=>gF h) ?_)
    intro QH a h222 hS
    refine op1 (dL T hS kr kr kr h222 rfl kr ?_)
    intro v223 a hv hS
    cases hv
    refine oPe T hS 2 [38,39,40,41,42] [(44,B (decide (((gi ac jp).Oper) < 0)))] fun a hS=>?_
    rcases bft (decide (((gi ac jp).Oper) < 0)) with hb | hb
    ·replace hS:=hS.lit (t:=44) kr hb
     replace hm:=hm.1 hb
     refine ePe T hS [44] [(53,B true)] fun a hS=>?_
     exact ⟨Z,_,true,hm,hS.sl _,hO,h209,h210,h211,h212⟩
    replace hS:=hS.lit (t:=44) kr hb
    replace hm:=hm.2 hb
    refine oPe T hS 2 [] [(45,Sl a3 ac c3),(46,I jp)] fun a hS=>?_
    obtain ⟨hq,hm⟩:=hm
    refine op1 (index (e:=56) (k:=.i64) T hS kr kr kr kr h210 kr kr hq.1 hq.2 ?_)
    intro QG a h225 hS
    refine op1 (e7 (off:=0) (fsz:=1) (ft:=3) (TF:=tI) (y:=(gi ac jp).Oper) T hS kr kr kr h225 kr kr kr (fun cs h=>gF h) ?_)
    intro QF a h227 hS
    refine op1 (dL T hS kr kr kr h227 rfl kr ?_)
    intro v228 a hv hS
    cases hv
    refine ePe T hS [44,45,46,47,48,49] [(53,B (decide (((gi ac jp).Oper)≥(lN aZ.1))))] fun a hS=>?_
    exact ⟨Z,_,decide (((gi ac jp).Oper)≥(lN aZ.1)),hm,hS.sl _,hO,h209,h210,h211,h212⟩
   rintro a JC ⟨Z,Qg,Cr,hm,hS,hO,h214,h215,h216,h217⟩
   unfold VC13_J5 at hm
   refine aG hS (b:=Cr) kr (fun hb=>?_) fun hb=>?_
   ·replace hm:=hm.1 hb
    refine rPe T hS [0,2,9,10,11,53] [(6,B false)] fun a hS=>?_
    refine aV ?_
    exact fin T hS hO (fun c=>c) rfl (r:=[.bool false]) kr (fun X' hM hC=>⟨false,hm,rfl⟩)
   replace hm:=hm.2 hb
   refine aJ ?_
   refine region (ePe T hS [53] [(11,I (wR (jp+1)))] fun a hS=>?_)
   exact ⟨wR (jp+1),⟨Z,_,hm.1,hS.sl _,hO,h214,h215,h216,h217⟩,hm.2⟩
  replace hm:=hm.2 hb
  refine cb (by rfl) ?_
  exact ⟨Z,_,hm,hS.sl _,hO,h209,h210,h211,h212⟩
 rintro a NV ⟨Z,Qf,hm,hS,hO,h115,h116,h117,h118⟩
 unfold VC13_J1 at hm
 refine b5 (fun a w=>∃ Z X,VC13_J2 ac Q aZ/\St Tryz.f13.ntmps ⟨[(2,Sl a3 ac c3),(9,Sl cx aZ.1 cw)],[]⟩ Z a w X/\Old w0 X0 w X/\RS au w X a3 ac c3/\RS aq w X cx aZ.1 cw) ?_ ?_
 ·refine rPe T hS [] [(12,I 0)] fun a hS=>?_
  refine aK ?_
  obtain ⟨I1,μ1,ci,hm⟩:=hm
  refine cg (σ:=Int) (fun s a w=>∃ Z X,I1 s/\St Tryz.f13.ntmps ⟨[(0,Sl a1 objects c1),(2,Sl a3 ac c3),(9,Sl cx aZ.1 cw),(10,Sl gE aZ.2 gC),(12,I s)],[]⟩ Z a w X/\Old w0 X0 w X/\RS ay w X a1 objects c1/\RS au w X a3 ac c3/\RS aq w X cx aZ.1 cw/\RS tI w X gE aZ.2 gC) (fun s=>μ1 s) (0) ?_ ?_
  ·exact ⟨Z,_,ci,hS.sl _,hO,h115,h116,h117,h118⟩
  rintro jt a JF ⟨Z,Mg,hI,hS,hO,h132,h133,h134,h135⟩
  replace hm:=hm jt hI
  clear hI ci
  refine bc ?_
  refine rPe T hS [] [(57,B (decide (jt < (lN objects))))] fun a hS=>?_
  refine aG hS (b:=decide (jt < (lN objects))) kr (fun hb=>?_) fun hb=>?_
  ·replace hm:=hm.1 hb
   refine aJ (bc ?_)
   refine aK ?_
   refine rPe T hS [57] [(13,V (.slice none 0 0))] fun a hS=>?_
   refine b5 (fun a w=>∃ (Z:Nat->Nat) (X:Nat->Nat) (iZ:List aa) (jQ:Option Addr) (jM:Nat),VC13_J3 objects Q aZ I1 μ1 jt iZ/\St Tryz.f13.ntmps ⟨[(0,Sl a1 objects c1),(2,Sl a3 ac c3),(9,Sl cx aZ.1 cw),(10,Sl gE aZ.2 gC),(12,I jt),(13,Sl jQ iZ jM)],[]⟩ Z a w X/\Old w0 X0 w X/\RS ay w X a1 objects c1/\RS au w X a3 ac c3/\RS aq w X cx aZ.1 cw/\RS tI w X gE aZ.2 gC/\OS au 56 w X 1014 jQ iZ jM) ?_ ?_
   ·refine rPe T hS [] [(14,I 0)] fun a hS=>?_
    refine aK ?_
    obtain ⟨I2,μ2,ci,hm⟩:=hm
    refine cg (σ:=(List aa) × Int) (fun s a w=>∃ Z X ve uZ,I2 s.1 s.2/\St Tryz.f13.ntmps ⟨[(0,Sl a1 objects c1),(2,Sl a3 ac c3),(9,Sl cx aZ.1 cw),(10,Sl gE aZ.2 gC),(12,I jt),(13,Sl ve s.1 uZ),(14,I s.2)],[]⟩ Z a w X/\Old w0 X0 w X/\RS ay w X a1 objects c1/\RS au w X a3 ac c3/\RS aq w X cx aZ.1 cw/\RS tI w X gE aZ.2 gC/\OS au 56 w X 1014 ve s.1 uZ) (fun s=>μ2 s.1 s.2) (⟨[],0⟩) ?_ ?_
    ·exact ⟨Z,_,none,0,ci,hS.sl _,hO,h132,h133,h134,h135,(OS.nil _ _ _ _ _)⟩
    rintro ⟨ia,iX⟩ a GR ⟨Z,Mi,ve,uZ,hI,hS,hO,h162,h163,h164,h165,h169⟩
    replace hm:=hm ia iX hI
    clear hI ci
    refine bc ?_
    refine rPe T hS [] [(63,B (decide (iX < (lN ac))))] fun a hS=>?_
    refine aG hS (b:=decide (iX < (lN ac))) kr (fun hb=>?_) fun hb=>?_
    ·replace hm:=hm.1 hb
     refine aJ ?_
     refine b5 (fun a w=>∃ (Z:Nat->Nat) (X:Nat->Nat) (pu:List aa) (tl:Option Addr) (tf:Nat),VC13_J4 I2 μ2 ia iX pu/\St Tryz.f13.ntmps ⟨[(0,Sl a1 objects c1),(2,Sl a3 ac c3),(9,Sl cx aZ.1 cw),(10,Sl gE aZ.2 gC),(12,I jt),(13,Sl tl pu tf),(14,I iX)],[]⟩ Z a w X/\Old w0 X0 w X/\RS ay w X a1 objects c1/\RS au w X a3 ac c3/\RS aq w X cx aZ.1 cw/\RS tI w X gE aZ.2 gC/\OS au 56 w X 1014 tl pu tf) ?_ ?_
     ·refine aK ?_
      refine bl ?_
      refine oPe T hS 3 [63] [(66,Sl gE aZ.2 gC),(67,Sl a3 ac c3),(68,I iX)] fun a hS=>?_
      obtain ⟨hq,hm⟩:=hm
      refine op1 (index (e:=56) (k:=.i64) T hS kr kr kr kr h163 kr kr hq.1 hq.2 ?_)
      intro QX a h180 hS
      refine op1 (e7 (off:=0) (fsz:=1) (ft:=3) (TF:=tI) (y:=(gi ac iX).Oper) T hS kr kr kr h180 kr kr kr (fun cs h=>gF h) ?_)
      intro Mz a h182 hS
      refine op1 (dL T hS kr kr kr h182 rfl kr ?_)
      intro v183 a hv hS
      cases hv
      obtain ⟨hq,hm⟩:=hm
      refine op1 (index (e:=3) (k:=.i64) T hS kr kr kr kr h165 kr kr hq.1 hq.2 ?_)
      intro QV a h185 hS
      refine op1 (dL T hS kr kr kr h185 rfl kr ?_)
      intro v186 a hv hS
      cases hv
      refine ePe T hS [66,67,68,69,70,71,72,73] [(75,B ((gi aZ.2 ((gi ac iX).Oper)) == jt))] fun a hS=>?_
      refine aG hS (b:=((gi aZ.2 ((gi ac iX).Oper)) == jt)) kr (fun hb=>?_) fun hb=>?_
      ·replace hm:=hm.1 hb
       refine region ?_
       refine oPe T hS 3 [75] [(76,Sl ve ia uZ),(77,Sl a3 ac c3),(78,I iX)] fun a hS=>?_
       obtain ⟨hq,hm⟩:=hm
       refine op1 (index (e:=56) (k:=.i64) T hS kr kr kr kr h163 kr kr hq.1 hq.2 ?_)
       intro QS a h188 hS
       refine op1 (eD T hS kr kr kr h188 kr kr ?_)
       intro v189 a hv hS
       subst hv
       refine op1 (lit (E:=56) (col:=0) (T:=au) (vals:=[.agg #[.int .i64 ((gi ac iX).Oper),.int .i64 ((gi ac iX).Result)]]) (ys:=[gi ac iX]) T hS kr kr kr kr (by exact ⟨rfl,trivial⟩) rfl kr kr kr kr ?_)
       intro b190 a GU IK hE h193 hN hS
       clear hN
       replace hO:=hO.m2 hE
       replace h162:=h162.m1 hE
       replace h163:=h163.m1 hE
       replace h164:=h164.m1 hE
       replace h165:=h165.m1 hE
       replace h169:=h169.m2 hE
       replace h188:=h188.m1 hE
       replace h193:=h193.rs0
       obtain ⟨hq,hm⟩:=hm
       obtain ⟨news,hN⟩:=h193.src
       refine op1 (append (E:=56) (T:=au) (col:=1014) (xs:=ia) T hS kr kr kr kr h169 hN kr kr kr kr hq ?_)
       intro mW mS a JI Ml hE h196 hS
       clear hq hN
       clear h169
       replace hO:=hO.m2 hE
       replace h162:=h162.m1 hE
       replace h163:=h163.m1 hE
       replace h164:=h164.m1 hE
       replace h165:=h165.m1 hE
       replace h188:=h188.m1 hE
       replace h193:=h193.m1 hE
       refine ePe T hS [77,78,79,80,81,82] [(13,Sl mW (ia++[gi ac iX]) mS)] fun a hS=>?_
       exact ⟨Z,_,ia++[gi ac iX],mW,mS,hm,hS.sl _,hO,h162,h163,h164,h165,h196⟩
      replace hm:=hm.2 hb
      refine aJ ?_
      exact ⟨Z,_,ia,ve,uZ,hm,hS.sl _,hO,h162,h163,h164,h165,h169⟩
     rintro a JH ⟨Z,IJ,pu,tl,tf,hm,hS,hO,h171,h172,h173,h174,h178⟩
     unfold VC13_J4 at hm
     refine region (ePe T hS [] [(14,I (wR (iX+1)))] fun a hS=>?_)
     exact ⟨⟨pu,wR (iX+1)⟩,⟨Z,_,tl,tf,hm.1,hS.sl _,hO,h171,h172,h173,h174,h178⟩,hm.2⟩
    replace hm:=hm.2 hb
    refine cb (by rfl) ?_
    exact ⟨Z,_,ia,ve,uZ,hm,hS.sl _,hO,h162,h163,h164,h165,h169⟩
   rintro a JG ⟨Z,II,iZ,jQ,jM,hm,hS,hO,h137,h138,h139,h140,h144⟩
   unfold VC13_J3 at hm
   refine dw [] mixed hS ?_
   intro CB zK hS hE hD hH
   replace hO:=hO.m2 hE
   replace h137:=h137.m1 hE
   replace h138:=h138.m1 hE
   replace h139:=h139.m1 hE
   replace h140:=h140.m1 hE
   replace h144:=h144.m2 hE
   refine tke T [0,1,4,5,6,10] [] hS hH #[true,true,false,false,true,true,true,false,false,false,true,false,false,false,false,false,false,false,false] 13 [13] [(84,Sl a1 objects c1),(85,I jt),(88,Sl cx aZ.1 cw),(89,Sl a1 objects c1),(90,I jt),(94,Sl jQ iZ jM)] fun a hS=>?_
   obtain ⟨hq,hm⟩:=hm
   refine db (e:=48) (k:=.i64) T 2 hS kr kr kr (by rfl) kr hH kr kr h137 kr kr hq.1 hq.2 ?_
   intro MD a h148 hS
   have xQ:=h148.here
   refine jJ T 3 hS kr kr kr (by rfl) kr hH kr h148 xQ kr kr ?_
   intro v149 a hv hS
   obtain ⟨tm,tg,hv,h152⟩:=hv
   subst hv
   replace hm:=hm (h152.sm kr)
   obtain ⟨hq,hm⟩:=hm
   refine db (e:=48) (k:=.i64) T 7 hS kr kr kr (by rfl) kr hH kr kr h137 kr kr hq.1 hq.2 ?_
   intro I6 a h154 hS
   have Bh:=h154.here
   refine du (off:=2) (fsz:=1) (ft:=3) (TF:=tI) (y:=(gi objects jt).aE) 8 T hS kr kr kr (by rfl) kr hH kr h154 kr kr kr (fun cs h=>mz h) ?_
   intro I5 a h156 fy hS
   have uA:=Bh
   rw [← fy] at uA
   clear fy
   refine dU T 9 hS kr kr kr (by rfl) kr hH kr h156 uA rfl kr ?_
   intro v157 a hv hS
   cases hv
   refine only 11 kr (by rfl) (call hS kr kr hb36 kr (fun _ _=>rfl) (Ret.nT (KO _ (eN 1014 _) (gi objects jt) aZ.1 ((gi objects jt).aE) iZ tm tg cx cw jQ jM (h152.m0 (M0.eN 1014)) (h139.m0 (M0.eN 1014)) h144.eN)) ?_)
   intro v158 a yf DJ hE hp hS
   replace hO:=hO.m2 hE
   replace hD:=hD.ev hE rfl
   replace h137:=h137.m1 hE
   replace h138:=h138.m1 hE
   replace h139:=h139.m1 hE
   replace h140:=h140.m1 hE
   replace h144:=h144.m2 hE
   replace h148:=h148.m1 hE
   replace h152:=h152.m1 hE
   replace h154:=h154.m1 hE
   replace h156:=h156.m1 hE
   obtain ⟨_,hp⟩:=hp
   obtain ⟨t6,hr⟩:∃ r,cN (gi objects jt) aZ.1 ((gi objects jt).aE) iZ=r:=⟨_,rfl⟩
   replace hm:=hm t6 hr
   rw [hr] at hp
   clear hr
   subst hp
   refine c8 (bJ.of hS (bks:=[]) kr hD) ?_
   intro hH
   refine tke T [12,13,14,15,16,17,18] [] hS hH (tts 19) 0 [84,85,88,89,90,94,86,87,91,92,93,95] [(17,I t6.2.2)] fun a hS=>?_
   refine aU kr ?_
   replace hS:=hS.sle [] []
   refine rPe T hS [17] [(100,B (t6.2.2 != 0))] fun a hS=>?_
   refine aG hS (b:=(t6.2.2 != 0)) kr (fun hb=>?_) fun hb=>?_
   ·replace hm:=hm.1 hb
    refine rPe T hS [0,2,9,10,12,100] [(6,B false)] fun a hS=>?_
    refine aV ?_
    exact fin T hS hO (fun c=>c) rfl (r:=[.bool false]) kr (fun X' hM hC=>⟨false,hm,rfl⟩)
   replace hm:=hm.2 hb
   refine aJ ?_
   refine region (ePe T hS [100] [(12,I (wR (jt+1)))] fun a hS=>?_)
   exact ⟨wR (jt+1),⟨Z,_,hm.1,hS.sl _,hO,h137,h138,h139,h140⟩,hm.2⟩
  replace hm:=hm.2 hb
  refine cb (by rfl) ?_
  exact ⟨Z,_,hm,hS.sl _,hO,h133,h134⟩
 rintro a N3 ⟨Z,Mf,hm,hS,hO,h119,h120⟩
 unfold VC13_J2 at hm
 refine bl ?_
 refine oPe T hS 2 [] [(101,Sl cx aZ.1 cw),(102,Sl a3 ac c3)] fun a hS=>?_
 refine op1 (call hS kr kr hb37 kr (fun _ _=>rfl) (KN _ _ aZ.1 ac cx cw a3 c3 h120 h119) ?_)
 intro v121 a tC tq hE hp hS
 replace hO:=hO.m2 hE
 replace h119:=h119.m1 hE
 replace h120:=h120.m1 hE
 obtain ⟨dA,hr⟩:∃ r,ep aZ.1 ac=r:=⟨_,rfl⟩
 replace hm:=hm dA hr
 rw [hr] at hp
 clear hr
 subst hp
 refine oPe T hS 2 [101,102,103] [(105,B (decide (dA < 0)))] fun a hS=>?_
 rcases bft (decide (dA < 0)) with hb | hb
 ·replace hS:=hS.lit (t:=105) kr hb
  replace hm:=hm.1 hb
  refine oPe T hS 2 [2,9] [(106,Sl cx aZ.1 cw),(107,Sl a3 ac c3)] fun a hS=>?_
  obtain ⟨hq,hm⟩:=hm
  refine op1 (call hS kr kr hb38 kr (fun _ _=>rfl) (KM _ _ aZ.1 ac false cx cw a3 c3 hq h120 h119) ?_)
  intro v125 a r9 pc hE hp hS
  replace hO:=hO.m2 hE
  replace h119:=h119.m1 hE
  replace h120:=h120.m1 hE
  obtain ⟨lh,le,hp,h131⟩:=hp
  obtain ⟨bI,hr⟩:∃ r,eF aZ.1 ac false=r:=⟨_,rfl⟩
  replace hm:=hm bI hr
  rw [hr] at hp h131
  clear hr
  subst hp
  replace hm:=hm (h131.sm kr)
  refine ePe T hS [105,106,107,108] [(6,B ((lN bI) == 0))] fun a hS=>?_
  refine aV ?_
  exact fin T hS hO (fun c=>c) rfl (r:=[.bool ((lN bI) == 0)]) kr (fun X' hM hC=>⟨((lN bI) == 0),hm,rfl⟩)
 replace hS:=hS.lit (t:=105) kr hb
 replace hm:=hm.2 hb
 refine ePe T hS [2,9,105] [(6,B false)] fun a hS=>?_
 refine aV ?_
 exact fin T hS hO (fun c=>c) rfl (r:=[.bool false]) kr (fun X' hM hC=>⟨false,hm,rfl⟩)
theorem C13 (FC:S16) (FB:S28) (KO:S36) (KN:S37) (KM:S38) (v:∀ (objects:List ah) (l_:List aD) (ac:List aa),wZ objects l_ ac->VC13 objects l_ ac (fun r=>r=dW objects l_ ac)):S13:=by
 intro w X objects l_ ac a1 c1 a2 c2 a3 c3   hp h1 h2 h3
 refine (W13 FC FB KO KN KM w X objects l_ ac a1 c1 a2 c2 a3 c3   _ (v objects l_ ac hp) h1 h2 h3).mono ?_
 rintro _ _ _ _ ⟨r,rfl,h⟩
 exact h
theorem W27 (w0) (X0) (Q:ah->Prop) (hm:VC27 Q) :
  Ret Tryz.prog 27 #[] aI w0 X0 (fun w X' v=>∃ r,Q r/\∃ co cn,v=.agg #[.int .i64 r.ar,.int .i64 r.aw,.int .i64 r.aE,.slice co r.Rows.length cn]/\RS az w X' co r.Rows cn):=by
 unfold VC27 at hm
 refine enter Tryz.func27 rfl (vals:=[]) kr ?_
 intro Z a hS hO hM
 refine rM T hS ⟨[(0,Pt 1 0)],[(1,(48,[I 0,I 0,I 0,V (.slice none 0 0)]))]⟩ fun Z a qT pd hS hE hr=>?_
 replace hO:=hO.m2 hE
 clear hE hr
 refine bl ?_
 refine oPe T hS 4 [] [(1,V (.agg #[.int .i64 0,.int .i64 0,.int .i64 1,.int .i64 0])),(2,V (.agg #[.int .i64 0,.int .i64 1,.int .i64 0,.int .i64 0])),(3,V (.agg #[.int .i64 1,.int .i64 0,.int .i64 1,.int .i64 0])),(4,V (.agg #[.int .i64 1,.int .i64 1,.int .i64 1,.int .i64 1]))] fun a hS=>?_
 refine op1 (lit (E:=107) (col:=0) (T:=az) (vals:=[.agg #[.int .i64 0,.int .i64 0,.int .i64 1,.int .i64 0],.agg #[.int .i64 0,.int .i64 1,.int .i64 0,.int .i64 0],.agg #[.int .i64 1,.int .i64 0,.int .i64 1,.int .i64 0],.agg #[.int .i64 1,.int .i64 1,.int .i64 1,.int .i64 1]]) (ys:=[(⟨0,0,1,0⟩:a8),(⟨0,1,0,0⟩:a8),(⟨1,0,1,0⟩:a8),(⟨1,1,1,1⟩:a8)]) T hS kr kr kr kr (by exact ⟨rfl,rfl,rfl,rfl,trivial⟩) rfl kr kr kr kr ?_)
 intro b101 a eX e8 hE h104 hN hS
 clear hN
 replace hO:=hO.m2 hE
 replace h104:=h104.rs0
 refine eM T hS ⟨[(0,Pt 1 0)],[(1,(48,[I 2,I 2,I 0,Sl (some ⟨b101,0,none⟩) [(⟨0,0,1,0⟩:a8),(⟨0,1,0,0⟩:a8),(⟨1,0,1,0⟩:a8),(⟨1,1,1,1⟩:a8)] 4]))]⟩ fun Z a mE lB hS hE hr=>?_
 replace hO:=hO.m2 hE
 replace h104:=h104.m1 hE
 clear hE hr
 refine aV ?_
 exact fin T hS hO (fun c=>c) rfl (r:=[.agg #[.int .i64 2,.int .i64 2,.int .i64 0,.slice (some ⟨b101,0,none⟩) [(⟨0,0,1,0⟩:a8),(⟨0,1,0,0⟩:a8),(⟨1,0,1,0⟩:a8),(⟨1,1,1,1⟩:a8)].length 4]]) kr (fun X' hM hC=>⟨(⟨2,2,0,[(⟨0,0,1,0⟩:a8),(⟨0,1,0,0⟩:a8),(⟨1,0,1,0⟩:a8),(⟨1,1,1,1⟩:a8)]⟩:ah),hm,(some ⟨b101,0,none⟩),4,rfl,h104.m0 hM⟩)
theorem C27 (v:∀ (_:Unit),VC27 (fun r=>r=dr)):S27:=by
 intro w X     
 refine (W27 w X     _ (v ())).mono ?_
 rintro _ _ _ _ ⟨r,rfl,h⟩
 exact h
theorem W22 (DZ:S27) (w0) (X0) (object:Int) (cD) (Q:ak->Prop) (hm:VC22 object Q) :
  Ret Tryz.prog 22 #[.int .i64 object] aI w0 X0 (fun w X' v=>∃ r,Q r/\∃ co cn iA iz,v=.agg #[.slice co r.ae.length cn,.slice iA r.ao.length iz]/\RS ay w X' co r.ae cn/\OS aM 63 w X' cD iA r.ao iz):=by
 unfold VC22 at hm
 refine enter Tryz.func22 rfl (vals:=[.int .i64 object]) kr ?_
 intro Z a hS hO hM
 refine rM T hS ⟨[(0,I object),(2,Pt 3 0)],[(3,(25,[V (.slice none 0 0),V (.slice none 0 0)]))]⟩ fun Z a yj wI hS hE hr=>?_
 replace hO:=hO.m2 hE
 clear hE hr
 refine bl ?_
 refine op1 (call hS kr kr hb27 kr (fun _ _=>rfl) (DZ _ _) ?_)
 intro v101 a eX e8 hE hp hS
 replace hO:=hO.m2 hE
 obtain ⟨dH,dG,hp,h107⟩:=hp
 obtain ⟨am,hr⟩:∃ r,dr=r:=⟨_,rfl⟩
 replace hm:=hm am hr
 rw [hr] at hp h107
 clear hr
 subst hp
 replace hm:=hm (h107.sm kr)
 refine op1 (call hS kr kr hb27 kr (fun _ _=>rfl) (DZ _ _) ?_)
 intro v108 a pz q8 hE hp hS
 replace hO:=hO.m2 hE
 replace h107:=h107.m1 hE
 obtain ⟨gE,gC,hp,h114⟩:=hp
 obtain ⟨cZ,hr⟩:∃ r,dr=r:=⟨_,rfl⟩
 replace hm:=hm cZ hr
 rw [hr] at hp h114
 clear hr
 subst hp
 replace hm:=hm (h114.sm kr)
 refine op1 (lit (E:=48) (col:=0) (T:=ay) (vals:=[.agg #[.int .i64 am.ar,.int .i64 am.aw,.int .i64 am.aE,.slice dH am.Rows.length dG],.agg #[.int .i64 cZ.ar,.int .i64 cZ.aw,.int .i64 cZ.aE,.slice gE cZ.Rows.length gC]]) (ys:=[am,cZ]) T hS kr kr kr kr (by exact ⟨⟨dH,dG,rfl,h107⟩,⟨gE,gC,rfl,h114⟩,trivial⟩) rfl kr kr kr kr ?_)
 intro b115 a vA zM hE h118 hN hS
 clear hN
 replace hO:=hO.m2 hE
 replace h107:=h107.m1 hE
 replace h114:=h114.m1 hE
 replace h118:=h118.rs0
 refine oPe T hS 10 [0,3,4] [(7,V (.agg #[.int .i64 0,.int .i64 1,.int .i64 1,.int .i64 0])),(10,V (.agg #[.int .i64 object,.int .i64 1,.int .i64 2,.int .i64 1])),(12,V (.agg #[.int .i64 0,.int .i64 2,.int .i64 1,.int .i64 0])),(15,V (.agg #[.int .i64 object,.int .i64 2,.int .i64 2,.int .i64 1]))] fun a hS=>?_
 refine op1 (lit (E:=63) (col:=1017) (T:=aM) (vals:=[.agg #[.int .i64 0,.int .i64 1,.int .i64 1,.int .i64 0],.agg #[.int .i64 object,.int .i64 1,.int .i64 2,.int .i64 1],.agg #[.int .i64 0,.int .i64 2,.int .i64 1,.int .i64 0],.agg #[.int .i64 object,.int .i64 2,.int .i64 2,.int .i64 1]]) (ys:=[(⟨0,(⟨1,1,0⟩:av)⟩:ba),(⟨object,(⟨1,2,1⟩:av)⟩:ba),(⟨0,(⟨2,1,0⟩:av)⟩:ba),(⟨object,(⟨2,2,1⟩:av)⟩:ba)]) T hS kr kr kr kr (by exact ⟨rfl,rfl,rfl,rfl,trivial⟩) rfl kr kr kr kr ?_)
 intro b119 a E0 Gp hE h122 hN hS
 clear hN
 replace hO:=hO.m2 hE
 replace h118:=h118.m1 hE
 refine eM T hS ⟨[(2,Pt 3 0)],[(3,(25,[Sl (some ⟨b115,0,none⟩) [am,cZ] 2,Sl (some ⟨b119,0,none⟩) [(⟨0,(⟨1,1,0⟩:av)⟩:ba),(⟨object,(⟨1,2,1⟩:av)⟩:ba),(⟨0,(⟨2,1,0⟩:av)⟩:ba),(⟨object,(⟨2,2,1⟩:av)⟩:ba)] 4]))]⟩ fun Z a EZ wJ hS hE hr=>?_
 replace hO:=hO.m2 hE
 replace h118:=h118.m1 hE
 replace h122:=h122.m2 hE
 clear hE hr
 refine aV ?_
 exact fin T hS hO (zAg0 cD) rfl (r:=[.agg #[.slice (some ⟨b115,0,none⟩) [am,cZ].length 2,.slice (some ⟨b119,0,none⟩) [(⟨0,(⟨1,1,0⟩:av)⟩:ba),(⟨object,(⟨1,2,1⟩:av)⟩:ba),(⟨0,(⟨2,1,0⟩:av)⟩:ba),(⟨object,(⟨2,2,1⟩:av)⟩:ba)].length 4]]) kr (fun X' hM hC=>⟨(⟨[am,cZ],[(⟨0,(⟨1,1,0⟩:av)⟩:ba),(⟨object,(⟨1,2,1⟩:av)⟩:ba),(⟨0,(⟨2,1,0⟩:av)⟩:ba),(⟨object,(⟨2,2,1⟩:av)⟩:ba)]⟩:ak),hm,(some ⟨b115,0,none⟩),2,(some ⟨b119,0,none⟩),4,rfl,h118.m0 hM,(OS.out (f:=(zAg0 cD)) h122 hM hC kr)⟩)
theorem C22 (DZ:S27) (v:∀ (object:Int),VC22 object (fun r=>r=cv object)):S22:=by
 intro w X object  cD  
 refine (W22 DZ w X object  cD  _ (v object)).mono ?_
 rintro _ _ _ _ ⟨r,rfl,h⟩
 exact h
theorem W11 (w0) (X0) (h_:ak) (a1) (c1) (a2) (c2) (Q:(List aD)->Prop) (hm:VC11 h_ Q) (h1:RS ay w0 X0 a1 h_.ae c1) (h2:RS aM w0 X0 a2 h_.ao c2) :
  Ret Tryz.prog 11 #[.agg #[.slice a1 h_.ae.length c1,.slice a2 h_.ao.length c2]] aI w0 X0 (fun w X' v=>∃ r,Q r/\∃ co cn,v=.slice co r.length cn/\RS bA w X' co r cn):=by
 unfold VC11 at hm
 replace hm:=hm (h1.sm kr)
 replace hm:=hm (h2.sm kr)
 refine enter Tryz.func11 rfl (vals:=[.agg #[.slice a1 h_.ae.length c1,.slice a2 h_.ao.length c2]]) kr ?_
 intro Z a hS hO hM
 replace h1:=h1.m0 hM
 replace h2:=h2.m0 hM
 refine rM T hS ⟨[(1,Pt 2 0)],[(2,(25,[Sl a1 h_.ae c1,Sl a2 h_.ao c2]))]⟩ fun Z a r7 vh hS hE hr=>?_
 replace hO:=hO.m2 hE
 replace h1:=h1.m1 hE
 replace h2:=h2.m1 hE
 clear hE hr
 refine rPe T hS [] [(3,V (.slice none 0 0))] fun a hS=>?_
 refine b5 (fun a w=>∃ (Z:Nat->Nat) (X:Nat->Nat) (bv:List aD) (dm:Option Addr) (dl:Nat),VC11_J1 Q bv/\St Tryz.f11.ntmps ⟨[(3,Sl dm bv dl)],[]⟩ Z a w X/\Old w0 X0 w X/\OS bA 77 w X 1003 dm bv dl) ?_ ?_
 ·refine rPe T hS [] [(4,I 0)] fun a hS=>?_
  refine aK ?_
  obtain ⟨I1,μ1,ci,hm⟩:=hm
  refine cg (σ:=(List aD) × Int) (fun s a w=>∃ Z X gr gq,I1 s.1 s.2/\St Tryz.f11.ntmps ⟨[(1,Pt 2 0),(3,Sl gr s.1 gq),(4,I s.2)],[(2,(25,[Sl a1 h_.ae c1,Sl a2 h_.ao c2]))]⟩ Z a w X/\Old w0 X0 w X/\OS bA 77 w X 1003 gr s.1 gq/\RS ay w X a1 h_.ae c1/\RS aM w X a2 h_.ao c2) (fun s=>μ1 s.1 s.2) (⟨[],0⟩) ?_ ?_
  ·exact ⟨Z,_,none,0,ci,hS.sl _,hO,(OS.nil _ _ _ _ _),h1,h2⟩
  rintro ⟨gu,dn⟩ a r8 ⟨Z,tp,gr,gq,hI,hS,hO,h110,h112,h113⟩
  replace hm:=hm gu dn hI
  clear hI ci
  refine bc ?_
  refine rPe T hS [] [(9,B (decide (dn < (lN h_.ao))))] fun a hS=>?_
  refine aG hS (b:=decide (dn < (lN h_.ao))) kr (fun hb=>?_) fun hb=>?_
  ·replace hm:=hm.1 hb
   refine aJ (bc ?_)
   refine aK ?_
   refine hJ [2] mixed hS ?_
   intro G3 Gq hS hE hD hH
   replace hO:=hO.m2 hE
   replace h110:=h110.m2 hE
   replace h112:=h112.m1 hE
   replace h113:=h113.m1 hE
   refine tke T [0,1,3,7,9,2,8] [2] hS hH #[true,true,true,true,false,false,false,true,true,true,false,false,false,false,false,false,false] 10 [] [(12,Sl gr gu gq),(14,Sl a2 h_.ao c2),(15,I dn),(20,Sl a2 h_.ao c2),(21,I dn)] fun a hS=>?_
   obtain ⟨hq,hm⟩:=hm
   refine db (e:=63) (k:=.i64) T 4 hS kr kr kr (by rfl) kr hH kr kr h113 kr kr hq.1 hq.2 ?_
   intro Gx a h117 hS
   have nl:=h117.here
   refine du (off:=0) (fsz:=1) (ft:=3) (TF:=tI) (y:=(gi h_.ao dn).ax) 5 T hS kr kr kr (by rfl) kr hH kr h117 kr kr kr (fun cs h=>jT h) ?_
   intro Gw a h119 fy hS
   have uC:=nl
   rw [← fy] at uC
   clear fy
   refine dU T 6 hS kr kr kr (by rfl) kr hH kr h119 uC rfl kr ?_
   intro v120 a hv hS
   cases hv
   obtain ⟨hq,hm⟩:=hm
   refine db (e:=63) (k:=.i64) T 10 hS kr kr kr (by rfl) kr hH kr kr h113 kr kr hq.1 hq.2 ?_
   intro Gv a h122 hS
   have Bj:=h122.here
   refine du (off:=1) (fsz:=3) (ft:=61) (TF:=aO) (y:=(gi h_.ao dn).aS) 11 T hS kr kr kr (by rfl) kr hH kr h122 kr kr kr (fun cs h=>lU h) ?_
   intro DR a h124 fy hS
   have qr:=Bj
   rw [← fy] at qr
   clear fy
   refine jJ T 12 hS kr kr kr (by rfl) kr hH kr h124 qr kr kr ?_
   intro v125 a hv hS
   subst hv
   refine tke T [13] [2] hS hH #[true,true,true,true,true,true,true,true,true,true,true,true,true,true,false,false,false] 3 [14,15,20,21,16,17,18,22,23,24] [(25,V (.agg #[.int .i64 ((gi h_.ao dn).ax),.int .i64 (((gi h_.ao dn).aS).bk),.int .i64 (((gi h_.ao dn).aS).aj),.int .i64 (((gi h_.ao dn).aS).N)]))] fun a hS=>?_
   refine only 14 kr (by rfl) (lit (E:=77) (col:=0) (T:=bA) (vals:=[.agg #[.int .i64 ((gi h_.ao dn).ax),.int .i64 (((gi h_.ao dn).aS).bk),.int .i64 (((gi h_.ao dn).aS).aj),.int .i64 (((gi h_.ao dn).aS).N)]]) (ys:=[(⟨(gi h_.ao dn).ax,((gi h_.ao dn).aS)⟩:aD)]) T hS kr kr kr kr (by exact ⟨rfl,trivial⟩) rfl kr kr kr kr ?_)
   intro b126 a tB B7 hE h129 hN hS
   clear hN
   replace hO:=hO.m2 hE
   replace hD:=hD.ev hE rfl
   replace h110:=h110.m2 hE
   replace h112:=h112.m1 hE
   replace h113:=h113.m1 hE
   replace h117:=h117.m1 hE
   replace h119:=h119.m1 hE
   replace h122:=h122.m1 hE
   replace h124:=h124.m1 hE
   replace h129:=h129.rs0
   refine c8 (bJ.of hS (bks:=[2]) kr hD) ?_
   intro hH
   obtain ⟨hq,hm⟩:=hm
   obtain ⟨news,hN⟩:=h129.src
   refine only 15 kr (by rfl) (append (E:=77) (T:=bA) (col:=1003) (xs:=gu) T hS kr kr kr kr h110 hN kr kr kr kr hq ?_)
   intro qZ qX a tA B6 hE h132 hS
   clear hq hN
   clear h110
   replace hO:=hO.m2 hE
   replace hD:=hD.ev hE rfl
   replace h112:=h112.m1 hE
   replace h113:=h113.m1 hE
   replace h117:=h117.m1 hE
   replace h119:=h119.m1 hE
   replace h122:=h122.m1 hE
   replace h124:=h124.m1 hE
   replace h129:=h129.m1 hE
   replace hS:=hS.sle [3,12] [(27,Sl qZ (gu++[(⟨(gi h_.ao dn).ax,((gi h_.ao dn).aS)⟩:aD)]) qX)]
   refine c8 (bJ.of hS (bks:=[2]) kr hD) ?_
   intro hH
   refine tke T [16] [2] hS hH (tts 17) 0 [25,26,27] [(3,Sl qZ (gu++[(⟨(gi h_.ao dn).ax,((gi h_.ao dn).aS)⟩:aD)]) qX)] fun a hS=>?_
   refine aU kr ?_
   replace hS:=hS.sle [] []
   refine region (ePe T hS [] [(4,I (wR (dn+1)))] fun a hS=>?_)
   exact ⟨⟨gu++[(⟨(gi h_.ao dn).ax,((gi h_.ao dn).aS)⟩:aD)],wR (dn+1)⟩,⟨Z,_,qZ,qX,hm.1,hS.sl _,hO,h132,h112,h113⟩,hm.2⟩
  replace hm:=hm.2 hb
  refine cb (by rfl) ?_
  exact ⟨Z,_,gu,gr,gq,hm,hS.sl _,hO,h110⟩
 rintro a Ad ⟨Z,vi,bv,dm,dl,hm,hS,hO,h104⟩
 unfold VC11_J1 at hm
 refine rPe T hS [3] [(2,Sl dm bv dl)] fun a hS=>?_
 refine aV ?_
 obtain ⟨ox,hE,hF⟩:=h104.freeze (by decide)
 replace hS:=hS.ev hE (cq kr)
 replace hO:=hO.m2 hE
 have h106:=hF; clear hE hF
 exact fin T hS hO (fun c=>c) rfl (r:=[.slice dm bv.length dl]) kr (fun X' hM hC=>⟨bv,hm,dm,dl,rfl,h106.m0 hM⟩)
theorem C11 (v:∀ (h_:ak),lq h_->VC11 h_ (fun r=>r=eu h_)):S11:=by
 intro w X h_ a1 c1 a2 c2   hp h1 h2
 refine (W11 w X h_ a1 c1 a2 c2   _ (v h_ hp) h1 h2).mono ?_
 rintro _ _ _ _ ⟨r,rfl,h⟩
 exact h
theorem W7 (w0) (X0) (h_:ak) (a1) (c1) (a2) (c2) (Q:Int->Prop) (hm:VC7 h_ Q) (h1:RS ay w0 X0 a1 h_.ae c1) (h2:RS aM w0 X0 a2 h_.ao c2) :
  Ret Tryz.prog 7 #[.agg #[.slice a1 h_.ae.length c1,.slice a2 h_.ao.length c2]] aI w0 X0 (fun w X' v=>∃ r,Q r/\v=.int .i64 r):=by
 unfold VC7 at hm
 replace hm:=hm (h1.sm kr)
 replace hm:=hm (h2.sm kr)
 refine enter Tryz.func7 rfl (vals:=[.agg #[.slice a1 h_.ae.length c1,.slice a2 h_.ao.length c2]]) kr ?_
 intro Z a hS hO hM
 replace h1:=h1.m0 hM
 replace h2:=h2.m0 hM
 refine rM T hS ⟨[(1,Pt 2 0)],[(2,(25,[Sl a1 h_.ae c1,Sl a2 h_.ao c2]))]⟩ fun Z a tC tq hS hE hr=>?_
 replace hO:=hO.m2 hE
 replace h1:=h1.m1 hE
 replace h2:=h2.m1 hE
 clear hE hr
 refine rPe T hS [] [(3,I 0)] fun a hS=>?_
 refine b5 (fun a w=>∃ (Z:Nat->Nat) (X:Nat->Nat) (bv:Int),VC7_J1 Q bv/\St Tryz.f7.ntmps ⟨[(3,I bv)],[]⟩ Z a w X/\Old w0 X0 w X) ?_ ?_
 ·refine rPe T hS [] [(4,I 0)] fun a hS=>?_
  refine aK ?_
  obtain ⟨I1,μ1,ci,hm⟩:=hm
  refine cg (σ:=Int × Int) (fun s a w=>∃ Z X,I1 s.1 s.2/\St Tryz.f7.ntmps ⟨[(1,Pt 2 0),(3,I s.1),(4,I s.2)],[(2,(25,[Sl a1 h_.ae c1,Sl a2 h_.ao c2]))]⟩ Z a w X/\Old w0 X0 w X/\RS ay w X a1 h_.ae c1/\RS aM w X a2 h_.ao c2) (fun s=>μ1 s.1 s.2) (⟨0,0⟩) ?_ ?_
  ·exact ⟨Z,_,ci,hS.sl _,hO,h1,h2⟩
  rintro ⟨bu,be⟩ a tD ⟨Z,DN,hI,hS,hO,h104,h105⟩
  replace hm:=hm bu be hI
  clear hI ci
  refine bc ?_
  refine rPe T hS [] [(9,B (decide (be < (lN h_.ao))))] fun a hS=>?_
  refine aG hS (b:=decide (be < (lN h_.ao))) kr (fun hb=>?_) fun hb=>?_
  ·replace hm:=hm.1 hb
   refine aJ ?_
   refine b5 (fun a w=>∃ (Z:Nat->Nat) (X:Nat->Nat) (ff:Int),VC7_J2 I1 μ1 bu be ff/\St Tryz.f7.ntmps ⟨[(1,Pt 2 0),(3,I ff),(4,I be)],[(2,(25,[Sl a1 h_.ae c1,Sl a2 h_.ao c2]))]⟩ Z a w X/\Old w0 X0 w X/\RS ay w X a1 h_.ae c1/\RS aM w X a2 h_.ao c2) ?_ ?_
   ·refine aK ?_
    refine bl ?_
    refine oPe T hS 3 [9] [(13,Sl a2 h_.ao c2),(14,I be)] fun a hS=>?_
    obtain ⟨hq,hm⟩:=hm
    refine op1 (index (e:=63) (k:=.i64) T hS kr kr kr kr h105 kr kr hq.1 hq.2 ?_)
    intro zP a h110 hS
    refine op1 (e7 (off:=1) (fsz:=3) (ft:=61) (TF:=aO) (y:=(gi h_.ao be).aS) T hS kr kr kr h110 kr kr kr (fun cs h=>lU h) ?_)
    intro Ce a h112 hS
    refine op1 (e7 (off:=0) (fsz:=1) (ft:=3) (TF:=tI) (y:=((gi h_.ao be).aS).bk) T hS kr kr kr h112 kr kr kr (fun cs h=>lj h) ?_)
    intro Gy a h114 hS
    refine op1 (dL T hS kr kr kr h114 rfl kr ?_)
    intro v115 a hv hS
    cases hv
    refine ePe T hS [13,14,15,16,17,18] [(19,B ((((gi h_.ao be).aS).bk) == 1))] fun a hS=>?_
    refine aG hS (b:=((((gi h_.ao be).aS).bk) == 1)) kr (fun hb=>?_) fun hb=>?_
    ·replace hm:=hm.1 hb
     refine region (ePe T hS [19] [(3,I (wR (bu+1)))] fun a hS=>?_)
     exact ⟨Z,_,wR (bu+1),hm,hS.sl _,hO,h104,h105⟩
    replace hm:=hm.2 hb
    refine aJ ?_
    exact ⟨Z,_,bu,hm,hS.sl _,hO,h104,h105⟩
   rintro a Af ⟨Z,tr,ff,hm,hS,hO,h107,h108⟩
   unfold VC7_J2 at hm
   refine region (ePe T hS [] [(4,I (wR (be+1)))] fun a hS=>?_)
   exact ⟨⟨ff,wR (be+1)⟩,⟨Z,_,hm.1,hS.sl _,hO,h107,h108⟩,hm.2⟩
  replace hm:=hm.2 hb
  refine cb (by rfl) ?_
  exact ⟨Z,_,bu,hm,hS.sl _,hO⟩
 rintro a vz ⟨Z,zL,bv,hm,hS,hO⟩
 unfold VC7_J1 at hm
 refine rPe T hS [3] [(2,I bv)] fun a hS=>?_
 refine aV ?_
 exact fin T hS hO (fun c=>c) rfl (r:=[.int .i64 bv]) kr (fun X' hM hC=>⟨bv,hm,rfl⟩)
theorem C7 (v:∀ (h_:ak),VC7 h_ (fun r=>r=eT h_)):S7:=by
 intro w X h_ a1 c1 a2 c2   h1 h2
 refine (W7 w X h_ a1 c1 a2 c2   _ (v h_) h1 h2).mono ?_
 rintro _ _ _ _ ⟨r,rfl,h⟩
 exact h
theorem W6 (KS:S21) (w0) (X0) (h_:ak) (a1) (c1) (a2) (c2) (Q:Bool->Prop) (hm:VC6 h_ Q) (h1:RS ay w0 X0 a1 h_.ae c1) (h2:RS aM w0 X0 a2 h_.ao c2) :
  Ret Tryz.prog 6 #[.agg #[.slice a1 h_.ae.length c1,.slice a2 h_.ao.length c2]] aI w0 X0 (fun w X' v=>∃ r,Q r/\v=.bool r):=by
 unfold VC6 at hm
 replace hm:=hm (h1.sm kr)
 replace hm:=hm (h2.sm kr)
 refine enter Tryz.func6 rfl (vals:=[.agg #[.slice a1 h_.ae.length c1,.slice a2 h_.ao.length c2]]) kr ?_
 intro Z a hS hO hM
 replace h1:=h1.m0 hM
 replace h2:=h2.m0 hM
 refine rM T hS ⟨[(1,Pt 2 0)],[(2,(25,[Sl a1 h_.ae c1,Sl a2 h_.ao c2]))]⟩ fun Z a Ae B9 hS hE hr=>?_
 replace hO:=hO.m2 hE
 replace h1:=h1.m1 hE
 replace h2:=h2.m1 hE
 clear hE hr
 refine bc ?_
 refine rPe T hS [] [(13,B ((decide ((lN h_.ae) > 10)) || (decide ((lN h_.ao) > 20))))] (sp:=[8]) fun a hS=>?_
 refine aG hS (b:=((decide ((lN h_.ae) > 10)) || (decide ((lN h_.ao) > 20)))) kr (fun hb=>?_) fun hb=>?_
 ·replace hm:=hm.1 hb
  refine rP T hS ⟨[(2,B false)],[]⟩ fun a hS=>?_
  refine aV ?_
  exact fin T hS hO (fun c=>c) rfl (r:=[.bool false]) kr (fun X' hM hC=>⟨false,hm,rfl⟩)
 replace hm:=hm.2 hb
 refine aJ ?_
 refine b5 (fun a w=>∃ Z X,VC6_J1 Q/\St Tryz.f6.ntmps ⟨[],[]⟩ Z a w X/\Old w0 X0 w X) ?_ ?_
 ·refine rPe T hS [13] [(3,I 0)] fun a hS=>?_
  refine aK ?_
  obtain ⟨I1,μ1,ci,hm⟩:=hm
  refine cg (σ:=Int) (fun s a w=>∃ Z X,I1 s/\St Tryz.f6.ntmps ⟨[(1,Pt 2 0),(3,I s)],[(2,(25,[Sl a1 h_.ae c1,Sl a2 h_.ao c2]))]⟩ Z a w X/\Old w0 X0 w X/\RS ay w X a1 h_.ae c1/\RS aM w X a2 h_.ao c2) (fun s=>μ1 s) (0) ?_ ?_
  ·exact ⟨Z,_,ci,hS.sl _,hO,h1,h2⟩
  rintro bv a oX ⟨Z,vj,hI,hS,hO,h102,h103⟩
  replace hm:=hm bv hI
  clear hI ci
  refine bc ?_
  refine rPe T hS [] [(18,B (decide (bv < (lN h_.ae))))] fun a hS=>?_
  refine aG hS (b:=decide (bv < (lN h_.ae))) kr (fun hb=>?_) fun hb=>?_
  ·replace hm:=hm.1 hb
   refine aJ (bc ?_)
   refine aK ?_
   refine bl ?_
   refine oPe T hS 3 [18] [(22,Sl a1 h_.ae c1),(23,I bv)] fun a hS=>?_
   obtain ⟨hq,hm⟩:=hm
   refine op1 (index (e:=48) (k:=.i64) T hS kr kr kr kr h102 kr kr hq.1 hq.2 ?_)
   intro Jc a h105 hS
   refine op1 (eD T hS kr kr kr h105 kr kr ?_)
   intro v106 a hv hS
   obtain ⟨zH,zw,hv,h109⟩:=hv
   subst hv
   replace hm:=hm (h109.sm kr)
   refine op1 (call hS kr kr hb21 kr (fun _ _=>rfl) (KS _ _ (gi h_.ae bv) zH zw h109) ?_)
   intro v110 a CD tt hE hp hS
   replace hO:=hO.m2 hE
   replace h102:=h102.m1 hE
   replace h103:=h103.m1 hE
   replace h105:=h105.m1 hE
   replace h109:=h109.m1 hE
   obtain ⟨fB,hr⟩:∃ r,gI (gi h_.ae bv)=r:=⟨_,rfl⟩
   replace hm:=hm fB hr
   rw [hr] at hp
   clear hr
   subst hp
   refine ePe T hS [22,23,24,25,26] [(27,B (!fB))] fun a hS=>?_
   refine aG hS (b:=(!fB)) kr (fun hb=>?_) fun hb=>?_
   ·replace hm:=hm.1 hb
    refine rP T hS ⟨[(2,B false)],[]⟩ fun a hS=>?_
    refine aV ?_
    exact fin T hS hO (fun c=>c) rfl (r:=[.bool false]) kr (fun X' hM hC=>⟨false,hm,rfl⟩)
   replace hm:=hm.2 hb
   refine aJ ?_
   refine region (ePe T hS [27] [(3,I (wR (bv+1)))] fun a hS=>?_)
   exact ⟨wR (bv+1),⟨Z,_,hm.1,hS.sl _,hO,h102,h103⟩,hm.2⟩
  replace hm:=hm.2 hb
  refine cb (by rfl) ?_
  exact ⟨Z,_,hm,hS.sl _,hO⟩
 rintro a Af ⟨Z,tr,hm,hS,hO⟩
 unfold VC6_J1 at hm
 refine rPe T hS [] [(2,B true)] fun a hS=>?_
 refine aV ?_
 exact fin T hS hO (fun c=>c) rfl (r:=[.bool true]) kr (fun X' hM hC=>⟨true,hm,rfl⟩)
theorem C6 (KS:S21) (v:∀ (h_:ak),VC6 h_ (fun r=>r=gH h_)):S6:=by
 intro w X h_ a1 c1 a2 c2   h1 h2
 refine (W6 KS w X h_ a1 c1 a2 c2   _ (v h_) h1 h2).mono ?_
 rintro _ _ _ _ ⟨r,rfl,h⟩
 exact h
end Go.Proofs.YteahldlmkheleaaGreat
