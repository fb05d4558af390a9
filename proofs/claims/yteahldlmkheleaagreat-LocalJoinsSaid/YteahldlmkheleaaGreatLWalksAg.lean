import Derived.Test.YteahldlmkheleaaGreatLWalksS
set_option linter.all false
namespace Go.Proofs.YteahldlmkheleaaGreat
open Go Go.Sv
abbrev zAg0 (cz:Nat):Nat->Nat:=fun c=>(bif Nat.beq c 1017 then cz else c)
abbrev zAg1 (i1 i2 i3 i4:Nat):List (Nat × Nat):=[(i1,901),(i2,902),(i3,903),(i4,904)]
set_option maxHeartbeats 1000000
theorem W43 (ww:S63) (J0:S73) (w0) (X0) (l_:List ab) (rows:List (List aa)) (a1) (c1) (a2) (c2) (Q:(List aa) × (List (Int × Int))->Prop) (hm:VC43 l_ rows Q) (h1:RS ao w0 X0 a1 l_ c1) (h2:RS (eW ar) w0 X0 a2 rows c2) :
  Ret Tryz.prog 43 #[.slice a1 l_.length c1,.slice a2 rows.length c2] aJ w0 X0 (fun w X' v=>∃ r,Q r/\∃ cB cA iE iD,v=.tuple #[.slice cB r.1.length cA,.slice iE r.2.length iD]/\RS ar w X' cB r.1 cA/\RS tP2 w X' iE r.2 iD):=by
 unfold VC43 at hm
 replace hm:=hm (h1.sm kr)
 replace hm:=hm (h2.sm kr)
 refine enter Tryz.func43 rfl (vals:=[.slice a1 l_.length c1,.slice a2 rows.length c2]) kr ?_
 intro Z a hS hO hM
 replace h1:=h1.m0 hM
 replace h2:=h2.m0 hM
 refine rPe T hS [] [] fun a hS=>?_
 refine bn ?_
 refine oPe T hS 1 [] [(16,Sl a2 rows c2)] fun a hS=>?_
 obtain ⟨hq,hm⟩:=hm
 refine op1 (call hS kr kr hb73 kr (fun _ _=>rfl) (J0 _ _ rows a2 c2 hq h2) ?_)
 intro v101 a fh fo hE hp hS
 replace hO:=hO.m2 hE
 replace h1:=h1.m1 hE
 replace h2:=h2.m1 hE
 obtain ⟨dQ,dP,hp,h107⟩:=hp
 obtain ⟨av,hr⟩:∃ r,b6 rows=r:=⟨_,rfl⟩
 replace hm:=hm av hr
 rw [hr] at hp h107
 clear hr
 subst hp
 replace hm:=hm (h107.sm kr)
 refine ePe T hS [16,17] [(6,Sl dQ av dP)] fun a hS=>?_
 refine rPe T hS [] [(7,V (.slice none 0 0))] fun a hS=>?_
 refine rPe T hS [] [(8,I 0)] fun a hS=>?_
 refine b5 (fun a w=>∃ (Z:Nat->Nat) (X:Nat->Nat) (bE:List (Int × Int)) (iz:Option Addr) (ip:Nat),VC43_J1 l_ Q av bE/\St Tryz.f43.ntmps ⟨[(0,Sl a1 l_ c1),(6,Sl dQ av dP),(7,Sl iz bE ip)],[]⟩ Z a w X/\Old w0 X0 w X/\RS ao w X a1 l_ c1/\RS ar w X dQ av dP/\OS tP2 131 w X 1006 iz bE ip) ?_ ?_
 ·refine rPe T hS [1] [(18,Sl a2 rows c2),(19,I (lN rows)),(20,I 0)] fun a hS=>?_
  refine aN ?_
  obtain ⟨I3,μ3,cy,hm⟩:=hm
  refine cw (σ:=(List (Int × Int)) × Int × Int) (fun s a w=>∃ Z X na m6,I3 s.1 s.2.1 s.2.2/\St Tryz.f43.ntmps ⟨[(0,Sl a1 l_ c1),(6,Sl dQ av dP),(7,Sl na s.1 m6),(8,I s.2.1),(18,Sl a2 rows c2),(19,I (lN rows)),(20,I s.2.2)],[]⟩ Z a w X/\Old w0 X0 w X/\RS ao w X a1 l_ c1/\RS ar w X dQ av dP/\OS tP2 131 w X 1006 na s.1 m6/\RS (eW ar) w X a2 rows c2) (fun s=>μ3 s.1 s.2.1 s.2.2) (⟨[],0,0⟩) ?_ ?_
  ·exact ⟨Z,_,none,0,cy,hS.sl _,hO,h1,h107,(OS.nil _ _ _ _ _),h2⟩
  rintro ⟨ni,ie,g9⟩ a Nm ⟨Z,Lx,na,m6,hI,hS,hO,h194,h195,h199,h201⟩
  replace hm:=hm ni ie g9 hI
  clear hI cy
  refine rPe T hS [] [(21,B (decide (g9 < (lN rows))))] fun a hS=>?_
  refine bd ?_
  refine aF hS (b:=decide (g9 < (lN rows))) kr (fun hb=>?_) fun hb=>?_
  ·replace hm:=hm.1 hb
   refine aL (bd ?_)
   refine aN ?_
   refine bn ?_
   obtain ⟨hq,hm⟩:=hm
   refine op1 (index (e:=26) (k:=.i64) T hS kr kr kr kr h201 kr kr hq.1 hq.2 ?_)
   intro Qj a h204 hS
   refine op1 (eC T hS kr kr kr h204 rfl kr ?_)
   intro v205 a hv hS
   obtain ⟨nZ,nT,hv,h208⟩:=hv
   cases hv
   replace hm:=hm (h208.sm kr)
   refine ePe T hS [21,22,23] [(10,Sl nZ (gi rows g9) nT)] fun a hS=>?_
   refine b5 (fun a w=>∃ (Z:Nat->Nat) (X:Nat->Nat) (z8:List (Int × Int)) (zN:Option Addr) (zE:Nat),VC43_J5 rows I3 μ3 ni ie g9 z8/\St Tryz.f43.ntmps ⟨[(0,Sl a1 l_ c1),(6,Sl dQ av dP),(7,Sl zN z8 zE),(8,I ie),(10,Sl nZ (gi rows g9) nT),(18,Sl a2 rows c2),(19,I (lN rows)),(20,I g9)],[]⟩ Z a w X/\Old w0 X0 w X/\RS ao w X a1 l_ c1/\RS ar w X dQ av dP/\OS tP2 131 w X 1006 zN z8 zE/\RS ar w X nZ (gi rows g9) nT/\RS (eW ar) w X a2 rows c2) ?_ ?_
   ·refine rPe T hS [] [(11,I 1)] fun a hS=>?_
    refine aN ?_
    obtain ⟨I4,μ4,cy,hm⟩:=hm
    refine cw (σ:=(List (Int × Int)) × Int) (fun s a w=>∃ Z X BT BI,I4 s.1 s.2/\St Tryz.f43.ntmps ⟨[(0,Sl a1 l_ c1),(6,Sl dQ av dP),(7,Sl BT s.1 BI),(8,I ie),(10,Sl nZ (gi rows g9) nT),(11,I s.2),(18,Sl a2 rows c2),(19,I (lN rows)),(20,I g9)],[]⟩ Z a w X/\Old w0 X0 w X/\RS ao w X a1 l_ c1/\RS ar w X dQ av dP/\OS tP2 131 w X 1006 BT s.1 BI/\RS ar w X nZ (gi rows g9) nT/\RS (eW ar) w X a2 rows c2) (fun s=>μ4 s.1 s.2) (⟨ni,1⟩) ?_ ?_
    ·exact ⟨Z,_,na,m6,cy,hS.sl _,hO,h194,h195,h199,h208,h201⟩
    rintro ⟨yu,mF⟩ a I9 ⟨Z,PF,BT,BI,hI,hS,hO,h217,h218,h222,h223,h225⟩
    replace hm:=hm yu mF hI
    clear hI cy
    refine bd ?_
    refine rPe T hS [] [(27,B (decide (mF < (lN (gi rows g9)))))] fun a hS=>?_
    refine aF hS (b:=decide (mF < (lN (gi rows g9)))) kr (fun hb=>?_) fun hb=>?_
    ·replace hm:=hm.1 hb
     refine aL (bd ?_)
     refine aN ?_
     refine region ?_
     refine oPe T hS 9 [27] [(30,Sl BT yu BI),(38,V (.agg #[.int .i64 (wR ((wR (ie+mF)) - 1)),.int .i64 (wR (ie+mF))]))] fun a hS=>?_
     refine op1 (lit (E:=131) (col:=0) (T:=tP2) (vals:=[.agg #[.int .i64 (wR ((wR (ie+mF)) - 1)),.int .i64 (wR (ie+mF))]]) (ys:=[(wR ((wR (ie+mF)) - 1),wR (ie+mF))]) T hS kr kr kr kr (by exact ⟨rfl,trivial⟩) rfl kr kr kr kr ?_)
     intro b226 a Ns PJ hE h229 hN hS
     clear hN
     replace hO:=hO.m2 hE
     replace h217:=h217.m1 hE
     replace h218:=h218.m1 hE
     replace h222:=h222.m2 hE
     replace h223:=h223.m1 hE
     replace h225:=h225.m1 hE
     replace h229:=h229.rs0
     obtain ⟨hq,hm⟩:=hm
     obtain ⟨news,hN⟩:=h229.src
     refine op1 (append (E:=131) (T:=tP2) (col:=1006) (xs:=yu) T hS kr kr kr kr h222 hN kr kr kr kr hq ?_)
     intro Il H6 a Ja Lz hE h232 hS
     clear hq hN
     clear h222
     replace hO:=hO.m2 hE
     replace h217:=h217.m1 hE
     replace h218:=h218.m1 hE
     replace h223:=h223.m1 hE
     replace h225:=h225.m1 hE
     replace h229:=h229.m1 hE
     refine ePe T hS [38,39,40] [(7,Sl Il (yu++[(wR ((wR (ie+mF)) - 1),wR (ie+mF))]) H6)] fun a hS=>?_
     refine region (ePe T hS [] [(11,I (wR (mF+1)))] fun a hS=>?_)
     exact ⟨⟨yu++[(wR ((wR (ie+mF)) - 1),wR (ie+mF))],wR (mF+1)⟩,⟨Z,_,Il,H6,hm.1,hS.sl _,hO,h217,h218,h232,h223,h225⟩,hm.2⟩
    replace hm:=hm.2 hb
    refine cl (by rfl) ?_
    exact ⟨Z,_,yu,BT,BI,hm,hS.sl _,hO,h217,h218,h222,h223,h225⟩
   rintro a I8 ⟨Z,Ly,z8,zN,zE,hm,hS,hO,h209,h210,h214,h215,h216⟩
   unfold VC43_J5 at hm
   refine region (ePe T hS [10] [(8,I (wR (ie+(lN (gi rows g9)))))] fun a hS=>?_)
   refine region (ePe T hS [] [(20,I (wR (g9+1)))] fun a hS=>?_)
   exact ⟨⟨z8,wR (ie+(lN (gi rows g9))),wR (g9+1)⟩,⟨Z,_,zN,zE,hm.1,hS.sl _,hO,h209,h210,h214,h216⟩,hm.2⟩
  replace hm:=hm.2 hb
  refine cl (by rfl) ?_
  exact ⟨Z,_,ni,na,m6,hm,hS.sl _,hO,h194,h195,h199⟩
 rintro a Nl ⟨Z,PD,bE,iz,ip,hm,hS,hO,h108,h109,h113⟩
 unfold VC43_J1 at hm
 refine b5 (fun a w=>∃ (Z:Nat->Nat) (X:Nat->Nat) (bi:List (Int × Int)) (dZ:Option Addr) (dY:Nat),VC43_J2 Q av bi/\St Tryz.f43.ntmps ⟨[(6,Sl dQ av dP),(7,Sl dZ bi dY)],[]⟩ Z a w X/\Old w0 X0 w X/\RS ar w X dQ av dP/\OS tP2 131 w X 1006 dZ bi dY) ?_ ?_
 ·refine rPe T hS [] [(46,Sl dQ av dP),(47,I (lN av)),(48,I 0)] fun a hS=>?_
  refine aN ?_
  obtain ⟨I1,μ1,cy,hm⟩:=hm
  refine cw (σ:=(List (Int × Int)) × Int) (fun s a w=>∃ Z X jP jL,I1 s.1 s.2/\St Tryz.f43.ntmps ⟨[(0,Sl a1 l_ c1),(6,Sl dQ av dP),(7,Sl jP s.1 jL),(46,Sl dQ av dP),(47,I (lN av)),(48,I s.2)],[]⟩ Z a w X/\Old w0 X0 w X/\RS ao w X a1 l_ c1/\RS ar w X dQ av dP/\OS tP2 131 w X 1006 jP s.1 jL/\RS ar w X dQ av dP) (fun s=>μ1 s.1 s.2) (⟨bE,0⟩) ?_ ?_
  ·exact ⟨Z,_,iz,ip,cy,hS.sl _,hO,h108,h109,h113,h109⟩
  rintro ⟨ib,fL⟩ a GA ⟨Z,LJ,jP,jL,hI,hS,hO,h121,h122,h126,h127⟩
  replace hm:=hm ib fL hI
  clear hI cy
  refine rPe T hS [] [(49,B (decide (fL < (lN av))))] fun a hS=>?_
  refine bd ?_
  refine aF hS (b:=decide (fL < (lN av))) kr (fun hb=>?_) fun hb=>?_
  ·replace hm:=hm.1 hb
   refine aL ?_
   refine b5 (fun a w=>∃ (Z:Nat->Nat) (X:Nat->Nat) (fK:List (Int × Int)) (gJ:Option Addr) (gI:Nat),VC43_J3 I1 μ1 ib fL fK/\St Tryz.f43.ntmps ⟨[(0,Sl a1 l_ c1),(6,Sl dQ av dP),(7,Sl gJ fK gI),(46,Sl dQ av dP),(47,I (lN av)),(48,I fL)],[]⟩ Z a w X/\Old w0 X0 w X/\RS ao w X a1 l_ c1/\RS ar w X dQ av dP/\OS tP2 131 w X 1006 gJ fK gI/\RS ar w X dQ av dP) ?_ ?_
   ·refine aN ?_
    refine bn ?_
    refine oPe T hS 1 [49] [(50,I fL)] fun a hS=>?_
    obtain ⟨hq,hm⟩:=hm
    refine op1 (index (e:=56) (k:=.i64) T hS kr kr kr kr h127 kr kr hq.1 hq.2 ?_)
    intro Ga a h137 hS
    refine op1 (eB T hS kr kr kr h137 kr kr ?_)
    intro v138 a hv hS
    subst hv
    refine eM T hS ⟨[(0,Sl a1 l_ c1),(6,Sl dQ av dP),(7,Sl jP ib jL),(12,I fL),(13,Pt 14 0),(46,Sl dQ av dP),(47,I (lN av)),(48,I fL)],[(14,(56,(cK (gi av fL))))]⟩ fun Z a EC Iu hS hE hr=>?_
    replace hO:=hO.m2 hE
    replace h121:=h121.m1 hE
    replace h122:=h122.m1 hE
    replace h126:=h126.m2 hE
    replace h127:=h127.m1 hE
    clear hE hr
    refine rPe T hS [] [(53,Sl dQ av dP),(54,I (lN av)),(55,I 0)] fun a hS=>?_
    refine aN ?_
    obtain ⟨I2,μ2,cy,hm⟩:=hm
    refine cw (σ:=(List (Int × Int)) × Int) (fun s a w=>∃ Z X jO jK,I2 s.1 s.2/\St Tryz.f43.ntmps ⟨[(0,Sl a1 l_ c1),(6,Sl dQ av dP),(7,Sl jO s.1 jK),(12,I fL),(13,Pt 14 0),(46,Sl dQ av dP),(47,I (lN av)),(48,I fL),(53,Sl dQ av dP),(54,I (lN av)),(55,I s.2)],[(14,(56,(cK (gi av fL))))]⟩ Z a w X/\Old w0 X0 w X/\RS ao w X a1 l_ c1/\RS ar w X dQ av dP/\OS tP2 131 w X 1006 jO s.1 jK/\RS ar w X dQ av dP/\RS ar w X dQ av dP) (fun s=>μ2 s.1 s.2) (⟨ib,0⟩) ?_ ?_
    ·exact ⟨Z,_,jP,jL,cy,hS.sl _,hO,h121,h122,h126,h127,h122⟩
    rintro ⟨iV,gm⟩ a Jj ⟨Z,LN,jO,jK,hI,hS,hO,h139,h140,h144,h145,h146⟩
    replace hm:=hm iV gm hI
    clear hI cy
    refine rPe T hS [] [(56,B (decide (gm < (lN av))))] fun a hS=>?_
    refine bd ?_
    refine aF hS (b:=decide (gm < (lN av))) kr (fun hb=>?_) fun hb=>?_
    ·replace hm:=hm.1 hb
     refine aL ?_
     refine b5 (fun a w=>∃ (Z:Nat->Nat) (X:Nat->Nat) (nj:List (Int × Int)) (Ds:Option Addr) (Di:Nat),VC43_J4 I2 μ2 iV gm nj/\St Tryz.f43.ntmps ⟨[(0,Sl a1 l_ c1),(6,Sl dQ av dP),(7,Sl Ds nj Di),(12,I fL),(13,Pt 14 0),(46,Sl dQ av dP),(47,I (lN av)),(48,I fL),(53,Sl dQ av dP),(54,I (lN av)),(55,I gm)],[(14,(56,(cK (gi av fL))))]⟩ Z a w X/\Old w0 X0 w X/\RS ao w X a1 l_ c1/\RS ar w X dQ av dP/\OS tP2 131 w X 1006 Ds nj Di/\RS ar w X dQ av dP/\RS ar w X dQ av dP) ?_ ?_
     ·refine aN ?_
      refine bn ?_
      refine oPe T hS 1 [56] [(57,I gm)] fun a hS=>?_
      obtain ⟨hq,hm⟩:=hm
      refine op1 (index (e:=56) (k:=.i64) T hS kr kr kr kr h146 kr kr hq.1 hq.2 ?_)
      intro L0 a h157 hS
      refine op1 (eB T hS kr kr kr h157 kr kr ?_)
      intro v158 a hv hS
      subst hv
      refine eM T hS ⟨[(0,Sl a1 l_ c1),(6,Sl dQ av dP),(7,Sl jO iV jK),(12,I fL),(13,Pt 14 0),(14,I gm),(15,Pt 16 0),(46,Sl dQ av dP),(47,I (lN av)),(48,I fL),(53,Sl dQ av dP),(54,I (lN av)),(55,I gm)],[(14,(56,(cK (gi av fL)))),(16,(56,(cK (gi av gm))))]⟩ fun Z a GB Iw hS hE hr=>?_
      replace hO:=hO.m2 hE
      replace h139:=h139.m1 hE
      replace h140:=h140.m1 hE
      replace h144:=h144.m2 hE
      replace h145:=h145.m1 hE
      replace h146:=h146.m1 hE
      clear hE hr
      refine dq [14,16] mixed hS ?_
      intro yz Dw hS hE hD hH
      replace hO:=hO.m2 hE
      replace h139:=h139.m1 hE
      replace h140:=h140.m1 hE
      replace h144:=h144.m2 hE
      replace h145:=h145.m1 hE
      replace h146:=h146.m1 hE
      refine tke T [0,1,5,6,2,7] [14,16] hS hH #[true,true,true,false,false,true,true,true,false,false,false] 5 [15] [(60,Sl a1 l_ c1),(62,I ((gi av fL).Oper)),(65,Sl a1 l_ c1),(67,I ((gi av gm).Oper))] fun a hS=>?_
      obtain ⟨hq,hm⟩:=hm
      refine c6 (e:=102) (k:=.i64) T 3 hS kr kr kr (by rfl) kr hH kr kr h139 kr kr hq.1 hq.2 ?_
      intro QC a h162 hS
      have HC:=h162.here
      refine ku T 4 hS kr kr kr (by rfl) kr hH kr h162 HC kr kr ?_
      intro v163 a hv hS
      subst hv
      obtain ⟨hq,hm⟩:=hm
      refine c6 (e:=102) (k:=.i64) T 8 hS kr kr kr (by rfl) kr hH kr kr h139 kr kr hq.1 hq.2 ?_
      intro LZ a h165 hS
      have HB:=h165.here
      refine ku T 9 hS kr kr kr (by rfl) kr hH kr h165 HB kr kr ?_
      intro v166 a hv hS
      subst hv
      refine only 10 kr (by rfl) (call hS kr kr hb63 kr (fun _ _=>rfl) (ww _ _ (gi l_ ((gi av fL).Oper)) (gi l_ ((gi av gm).Oper))) ?_)
      intro v167 a Cp F0 hE hp hS
      replace hO:=hO.m2 hE
      replace hD:=hD.ev hE rfl
      replace h139:=h139.m1 hE
      replace h140:=h140.m1 hE
      replace h144:=h144.m2 hE
      replace h145:=h145.m1 hE
      replace h146:=h146.m1 hE
      replace h162:=h162.m1 hE
      replace h165:=h165.m1 hE
      obtain ⟨t8,hr⟩:∃ r,bb (gi l_ ((gi av fL).Oper)) (gi l_ ((gi av gm).Oper))=r:=⟨_,rfl⟩
      replace hm:=hm t8 hr
      rw [hr] at hp
      clear hr
      subst hp
      replace hS:=hS.sle [] [(70,B t8)]
      refine cV (bI.of hS (bks:=[14,16]) kr hD) ?_
      intro hH
      refine aV kr ?_
      replace hS:=hS.sl ⟨[(0,Sl a1 l_ c1),(6,Sl dQ av dP),(7,Sl jO iV jK),(12,I fL),(13,Pt 14 0),(14,I gm),(46,Sl dQ av dP),(47,I (lN av)),(48,I fL),(53,Sl dQ av dP),(54,I (lN av)),(55,I gm),(70,B t8)],[(14,(56,(cK (gi av fL))))]⟩
      refine aF hS (b:=t8) kr (fun hb=>?_) fun hb=>?_
      ·replace hm:=hm.1 hb
       refine region ?_
       refine oPe T hS 4 [14,70] [(71,Sl jO iV jK),(74,V (.agg #[.int .i64 fL,.int .i64 gm]))] fun a hS=>?_
       refine op1 (lit (E:=131) (col:=0) (T:=tP2) (vals:=[.agg #[.int .i64 fL,.int .i64 gm]]) (ys:=[(fL,gm)]) T hS kr kr kr kr (by exact ⟨rfl,trivial⟩) rfl kr kr kr kr ?_)
       intro b171 a GE Ix hE h174 hN hS
       clear hN
       replace hO:=hO.m2 hE
       replace h139:=h139.m1 hE
       replace h140:=h140.m1 hE
       replace h144:=h144.m2 hE
       replace h145:=h145.m1 hE
       replace h146:=h146.m1 hE
       replace h174:=h174.rs0
       obtain ⟨hq,hm⟩:=hm
       obtain ⟨news,hN⟩:=h174.src
       refine op1 (append (E:=131) (T:=tP2) (col:=1006) (xs:=iV) T hS kr kr kr kr h144 hN kr kr kr kr hq ?_)
       intro Io H8 a GC FZ hE h177 hS
       clear hq hN
       clear h144
       replace hO:=hO.m2 hE
       replace h139:=h139.m1 hE
       replace h140:=h140.m1 hE
       replace h145:=h145.m1 hE
       replace h146:=h146.m1 hE
       replace h174:=h174.m1 hE
       refine ePe T hS [74,75,76] [(7,Sl Io (iV++[(fL,gm)]) H8)] fun a hS=>?_
       exact ⟨Z,_,iV++[(fL,gm)],Io,H8,hm,hS.sl _,hO,h139,h140,h177,h145,h146⟩
      replace hm:=hm.2 hb
      refine aL ?_
      exact ⟨Z,_,iV,jO,jK,hm,hS.sl _,hO,h139,h140,h144,h145,h146⟩
     rintro a Jk ⟨Z,Iv,nj,Ds,Di,hm,hS,hO,h148,h149,h153,h154,h155⟩
     unfold VC43_J4 at hm
     refine region (ePe T hS [] [(55,I (wR (gm+1)))] fun a hS=>?_)
     exact ⟨⟨nj,wR (gm+1)⟩,⟨Z,_,Ds,Di,hm.1,hS.sl _,hO,h148,h149,h153,h154,h155⟩,hm.2⟩
    replace hm:=hm.2 hb
    refine cl (by rfl) ?_
    exact ⟨Z,_,iV,jO,jK,hm,hS.sl _,hO,h139,h140,h144,h145⟩
   rintro a Ji ⟨Z,LK,fK,gJ,gI,hm,hS,hO,h129,h130,h134,h135⟩
   unfold VC43_J3 at hm
   refine region (ePe T hS [] [(48,I (wR (fL+1)))] fun a hS=>?_)
   exact ⟨⟨fK,wR (fL+1)⟩,⟨Z,_,gJ,gI,hm.1,hS.sl _,hO,h129,h130,h134,h135⟩,hm.2⟩
  replace hm:=hm.2 hb
  refine cl (by rfl) ?_
  exact ⟨Z,_,ib,jP,jL,hm,hS.sl _,hO,h122,h126⟩
 rintro a Jh ⟨Z,It,bi,dZ,dY,hm,hS,hO,h114,h118⟩
 unfold VC43_J2 at hm
 refine rPe T hS [6,7] [(4,Sl dQ av dP),(5,Sl dZ bi dY)] fun a hS=>?_
 refine aZ ?_
 obtain ⟨zZ,hE,hF⟩:=h118.freeze (by decide)
 replace hS:=hS.ev hE (cN kr)
 replace hO:=hO.m2 hE
 replace h114:=h114.m1 hE
 have h120:=hF; clear hE hF
 exact fin T hS hO (fun c=>c) rfl (r:=[.slice dQ av.length dP,.slice dZ bi.length dY]) kr (fun X' hM hC=>⟨(av,bi),hm,dQ,dP,dZ,dY,rfl,h114.m0 hM,h120.m0 hM⟩)
theorem C43 (ww:S63) (J0:S73) (v:∀ (l_:List ab) (rows:List (List aa)),uu l_ rows->VC43 l_ rows (fun r=>r=b8 l_ rows)):S43:=by
 intro w X l_ rows a1 c1 a2 c2   hp h1 h2
 refine (W43 ww J0 w X l_ rows a1 c1 a2 c2   _ (v l_ rows hp) h1 h2).mono ?_
 rintro _ _ _ _ ⟨r,rfl,h⟩
 exact h
theorem W15 (Kj:S41) (Ki:S42) (Kh:S43) (Kg:S44) (w0) (X0) (h_:aj) (a1) (c1) (a2) (c2) (Q:(List aa) × Int->Prop) (hm:VC15 h_ Q) (h1:RS az w0 X0 a1 h_.ae c1) (h2:RS aI w0 X0 a2 h_.ak c2) :
  Ret Tryz.prog 15 #[.agg #[.slice a1 h_.ae.length c1,.slice a2 h_.ak.length c2]] aJ w0 X0 (fun w X' v=>∃ r,Q r/\∃ cB cA,v=.tuple #[.slice cB r.1.length cA,.int .i64 r.2]/\RS ar w X' cB r.1 cA):=by
 unfold VC15 at hm
 replace hm:=hm (h1.sm kr)
 replace hm:=hm (h2.sm kr)
 refine enter Tryz.func15 rfl (vals:=[.agg #[.slice a1 h_.ae.length c1,.slice a2 h_.ak.length c2]]) kr ?_
 intro Z a hS hO hM
 replace h1:=h1.m0 hM
 replace h2:=h2.m0 hM
 refine rM T hS ⟨[(1,Pt 2 0)],[(2,(25,[Sl a1 h_.ae c1,Sl a2 h_.ak c2]))]⟩ fun Z a NJ Iy hS hE hr=>?_
 replace hO:=hO.m2 hE
 replace h1:=h1.m1 hE
 replace h2:=h2.m1 hE
 clear hE hr
 refine bn ?_
 refine oPe T hS 1 [] [(16,V (.agg #[.slice a1 h_.ae.length c1,.slice a2 h_.ak.length c2]))] fun a hS=>?_
 obtain ⟨hq,hm⟩:=hm
 refine op1 (call hS kr kr hb41 kr (fun _ _=>rfl) (Kj _ _ h_ a1 c1 a2 c2 hq h1 h2) ?_)
 intro v101 a fh fo hE hp hS
 replace hO:=hO.m2 hE
 replace h1:=h1.m1 hE
 replace h2:=h2.m1 hE
 obtain ⟨dQ,dP,iC,iB,hp,h107,h110⟩:=hp
 obtain ⟨av,hr⟩:∃ r,cb h_=r:=⟨_,rfl⟩
 replace hm:=hm av hr
 rw [hr] at hp h107 h110
 clear hr
 subst hp
 replace hm:=hm (h107.sm kr)
 replace hm:=hm (h110.sm kr)
 refine ePe T hS [16,17] [(4,Sl dQ av.1 dP),(5,Sl iC av.2.1 iB),(6,I av.2.2)] fun a hS=>?_
 refine bd ?_
 refine rPe T hS [] [(22,B (av.2.2 != 0))] fun a hS=>?_
 refine aF hS (b:=(av.2.2 != 0)) kr (fun hb=>?_) fun hb=>?_
 ·replace hm:=hm.1 hb
  refine rP T hS ⟨[(2,V (.slice none 0 0)),(3,I av.2.2)],[]⟩ fun a hS=>?_
  refine aZ ?_
  exact fin T hS hO (fun c=>c) rfl (r:=[.slice none 0 0,.int .i64 av.2.2]) kr (fun X' hM hC=>⟨([],av.2.2),hm,none,0,rfl,RS.empty _ _ _⟩)
 replace hm:=hm.2 hb
 refine aL ?_
 refine bn ?_
 refine oP T hS 3 ⟨[(4,Sl dQ av.1 dP),(6,I av.2.2),(25,V (.agg #[.slice a1 h_.ae.length c1,.slice a2 h_.ak.length c2])),(26,Sl dQ av.1 dP),(27,Sl iC av.2.1 iB)],[]⟩ fun a hS=>?_
 obtain ⟨hq,hm⟩:=hm
 refine op1 (call hS kr kr hb42 kr (fun _ _=>rfl) (Ki _ _ h_ av.1 av.2.1 a1 c1 a2 c2 dQ dP iC iB hq h1 h2 h107 h110) ?_)
 intro v111 a Ag vA hE hp hS
 replace hO:=hO.m2 hE
 replace h1:=h1.m1 hE
 replace h2:=h2.m1 hE
 replace h107:=h107.m1 hE
 replace h110:=h110.m1 hE
 obtain ⟨FY,FS,hp,h117⟩:=hp
 obtain ⟨dp,hr⟩:∃ r,cv h_ av.1 av.2.1=r:=⟨_,rfl⟩
 replace hm:=hm dp hr
 rw [hr] at hp h117
 clear hr
 subst hp
 replace hm:=hm (h117.sm kr)
 refine ePe T hS [25,26,27,28] [(6,I dp.2),(7,Sl FY dp.1 FS)] fun a hS=>?_
 refine bd ?_
 refine rPe T hS [] [(32,B (dp.2 != 0))] fun a hS=>?_
 refine aF hS (b:=(dp.2 != 0)) kr (fun hb=>?_) fun hb=>?_
 ·replace hm:=hm.1 hb
  refine rPe T hS [4,6,7,32] [(2,V (.slice none 0 0)),(3,I dp.2)] fun a hS=>?_
  refine aZ ?_
  exact fin T hS hO (fun c=>c) rfl (r:=[.slice none 0 0,.int .i64 dp.2]) kr (fun X' hM hC=>⟨([],dp.2),hm,none,0,rfl,RS.empty _ _ _⟩)
 replace hm:=hm.2 hb
 refine aL ?_
 refine bn ?_
 refine oPe T hS 2 [4,6,7,32] [(35,Sl dQ av.1 dP),(36,Sl FY dp.1 FS)] fun a hS=>?_
 obtain ⟨hq,hm⟩:=hm
 refine op1 (call hS kr kr hb43 kr (fun _ _=>rfl) (Kh _ _ av.1 dp.1 dQ dP FY FS hq h107 h117) ?_)
 intro v118 a vR B1 hE hp hS
 replace hO:=hO.m2 hE
 replace h107:=h107.m1 hE
 replace h117:=h117.m1 hE
 obtain ⟨kT,kQ,iy,io,hp,h124,h127⟩:=hp
 obtain ⟨fy,hr⟩:∃ r,b8 av.1 dp.1=r:=⟨_,rfl⟩
 replace hm:=hm fy hr
 rw [hr] at hp h124 h127
 clear hr
 subst hp
 replace hm:=hm (h124.sm kr)
 replace hm:=hm (h127.sm kr)
 refine ePe T hS [35,36,37] [(8,Sl kT fy.1 kQ),(9,Sl iy fy.2 io)] fun a hS=>?_
 refine bn ?_
 refine oPe T hS 3 [9] [(42,I (lN fy.1)),(43,Sl iy fy.2 io)] fun a hS=>?_
 refine op1 (call hS kr kr hb44 kr (fun _ _=>rfl) (Kg _ _ (lN fy.1) fy.2 iy io h127) ?_)
 intro v128 a Js Dy hE hp hS
 replace hO:=hO.m2 hE
 replace h124:=h124.m1 hE
 replace h127:=h127.m1 hE
 obtain ⟨gJ,gI,hp,h134⟩:=hp
 obtain ⟨fR,hr⟩:∃ r,c8 (lN fy.1) fy.2=r:=⟨_,rfl⟩
 replace hm:=hm fR hr
 rw [hr] at hp h134
 clear hr
 subst hp
 replace hm:=hm (h134.sm kr)
 refine ePe T hS [42,43,44] [(10,Sl gJ fR.1 gI),(11,B fR.2)] fun a hS=>?_
 refine bd ?_
 refine rPe T hS [11] [(48,B (!fR.2))] fun a hS=>?_
 refine aF hS (b:=(!fR.2)) kr (fun hb=>?_) fun hb=>?_
 ·replace hm:=hm.1 hb
  refine rPe T hS [8,10,48] [(2,V (.slice none 0 0)),(3,I 41)] fun a hS=>?_
  refine aZ ?_
  exact fin T hS hO (fun c=>c) rfl (r:=[.slice none 0 0,.int .i64 41]) kr (fun X' hM hC=>⟨([],41),hm,none,0,rfl,RS.empty _ _ _⟩)
 replace hm:=hm.2 hb
 refine aL ?_
 refine bn ?_
 refine op1 (lit (E:=56) (col:=1003) (T:=ar) (vals:=[]) (ys:=([]:List aa)) T hS kr kr kr kr trivial rfl kr kr kr kr ?_)
 intro b135 a sh vz hE h138 hN hS
 clear hN
 replace hO:=hO.m2 hE
 replace h124:=h124.m1 hE
 replace h134:=h134.m1 hE
 refine ePe T hS [48,49] [(12,Sl (some ⟨b135,0,none⟩) ([]:List aa) 0)] fun a hS=>?_
 refine b5 (fun a w=>∃ (Z:Nat->Nat) (X:Nat->Nat) (jd:List aa) (lV:Option Addr) (lT:Nat),VC15_J1 Q jd/\St Tryz.f15.ntmps ⟨[(12,Sl lV jd lT)],[]⟩ Z a w X/\Old w0 X0 w X/\OS ar 56 w X 1003 lV jd lT) ?_ ?_
 ·refine rPe T hS [10] [(50,Sl gJ fR.1 gI),(51,I (lN fR.1)),(52,I 0)] fun a hS=>?_
  refine aN ?_
  obtain ⟨I1,μ1,cy,hm⟩:=hm
  refine cw (σ:=(List aa) × Int) (fun s a w=>∃ Z X qO qG,I1 s.1 s.2/\St Tryz.f15.ntmps ⟨[(8,Sl kT fy.1 kQ),(12,Sl qO s.1 qG),(50,Sl gJ fR.1 gI),(51,I (lN fR.1)),(52,I s.2)],[]⟩ Z a w X/\Old w0 X0 w X/\RS ar w X kT fy.1 kQ/\OS ar 56 w X 1003 qO s.1 qG/\RS tI w X gJ fR.1 gI) (fun s=>μ1 s.1 s.2) (⟨([]:List aa),0⟩) ?_ ?_
  ·exact ⟨Z,_,(some ⟨b135,0,none⟩),0,cy,hS.sl _,hO,h124,h138,h134⟩
  rintro ⟨mb,ge⟩ a Cp ⟨Z,F1,qO,qG,hI,hS,hO,h145,h149,h150⟩
  replace hm:=hm mb ge hI
  clear hI cy
  refine rPe T hS [] [(53,B (decide (ge < (lN fR.1))))] fun a hS=>?_
  refine bd ?_
  refine aF hS (b:=decide (ge < (lN fR.1))) kr (fun hb=>?_) fun hb=>?_
  ·replace hm:=hm.1 hb
   refine aL (bd ?_)
   refine aN ?_
   refine bn ?_
   obtain ⟨hq,hm⟩:=hm
   refine op1 (index (e:=3) (k:=.i64) T hS kr kr kr kr h150 kr kr hq.1 hq.2 ?_)
   intro L1 a h153 hS
   refine op1 (eC T hS kr kr kr h153 rfl kr ?_)
   intro v154 a hv hS
   cases hv
   refine ePe T hS [53,54,55] [(14,I (gi fR.1 ge))] fun a hS=>?_
   refine region ?_
   refine oPe T hS 3 [14] [(56,Sl qO mb qG),(57,Sl kT fy.1 kQ),(58,I (gi fR.1 ge))] fun a hS=>?_
   obtain ⟨hq,hm⟩:=hm
   refine op1 (index (e:=56) (k:=.i64) T hS kr kr kr kr h145 kr kr hq.1 hq.2 ?_)
   intro II a h156 hS
   refine op1 (eB T hS kr kr kr h156 kr kr ?_)
   intro v157 a hv hS
   subst hv
   refine op1 (lit (E:=56) (col:=0) (T:=ar) (vals:=[.agg #[.int .i64 ((gi fy.1 (gi fR.1 ge)).Oper),.int .i64 ((gi fy.1 (gi fR.1 ge)).Result)]]) (ys:=[gi fy.1 (gi fR.1 ge)]) T hS kr kr kr kr (by exact ⟨rfl,trivial⟩) rfl kr kr kr kr ?_)
   intro b158 a yz Dw hE h161 hN hS
   clear hN
   replace hO:=hO.m2 hE
   replace h145:=h145.m1 hE
   replace h149:=h149.m2 hE
   replace h150:=h150.m1 hE
   replace h156:=h156.m1 hE
   replace h161:=h161.rs0
   obtain ⟨hq,hm⟩:=hm
   obtain ⟨news,hN⟩:=h161.src
   refine op1 (append (E:=56) (T:=ar) (col:=1003) (xs:=mb) T hS kr kr kr kr h149 hN kr kr kr kr hq ?_)
   intro qN qF a Cr Dv hE h164 hS
   clear hq hN
   clear h149
   replace hO:=hO.m2 hE
   replace h145:=h145.m1 hE
   replace h150:=h150.m1 hE
   replace h156:=h156.m1 hE
   replace h161:=h161.m1 hE
   refine ePe T hS [57,58,59,60,61,62] [(12,Sl qN (mb++[gi fy.1 (gi fR.1 ge)]) qF)] fun a hS=>?_
   refine region (ePe T hS [] [(52,I (wR (ge+1)))] fun a hS=>?_)
   exact ⟨⟨mb++[gi fy.1 (gi fR.1 ge)],wR (ge+1)⟩,⟨Z,_,qN,qF,hm.1,hS.sl _,hO,h145,h164,h150⟩,hm.2⟩
  replace hm:=hm.2 hb
  refine cl (by rfl) ?_
  exact ⟨Z,_,mb,qO,qG,hm,hS.sl _,hO,h149⟩
 rintro a Jp ⟨Z,F0,jd,lV,lT,hm,hS,hO,h142⟩
 unfold VC15_J1 at hm
 refine rPe T hS [12] [(2,Sl lV jd lT),(3,I 0)] fun a hS=>?_
 refine aZ ?_
 obtain ⟨ra,hE,hF⟩:=h142.freeze (by decide)
 replace hS:=hS.ev hE (cN kr)
 replace hO:=hO.m2 hE
 have h144:=hF; clear hE hF
 exact fin T hS hO (fun c=>c) rfl (r:=[.slice lV jd.length lT,.int .i64 0]) kr (fun X' hM hC=>⟨(jd,0),hm,lV,lT,rfl,h144.m0 hM⟩)
theorem C15 (Kj:S41) (Ki:S42) (Kh:S43) (Kg:S44) (v:∀ (h_:aj),fV h_->VC15 h_ (fun r=>r=bP h_)):S15:=by
 intro w X h_ a1 c1 a2 c2   hp h1 h2
 refine (W15 Kj Ki Kh Kg w X h_ a1 c1 a2 c2   _ (v h_ hp) h1 h2).mono ?_
 rintro _ _ _ _ ⟨r,rfl,h⟩
 exact h
theorem W9 (Cb:S15) (w0) (X0) (h_:aj) (a1) (c1) (a2) (c2) (Q:Bool × Int->Prop) (hm:VC9 h_ Q) (h1:RS az w0 X0 a1 h_.ae c1) (h2:RS aI w0 X0 a2 h_.ak c2) :
  Ret Tryz.prog 9 #[.agg #[.slice a1 h_.ae.length c1,.slice a2 h_.ak.length c2]] aJ w0 X0 (fun w X' v=>∃ r,Q r/\v=.tuple #[.bool r.1,.int .i64 r.2]):=by
 unfold VC9 at hm
 replace hm:=hm (h1.sm kr)
 replace hm:=hm (h2.sm kr)
 refine enter Tryz.func9 rfl (vals:=[.agg #[.slice a1 h_.ae.length c1,.slice a2 h_.ak.length c2]]) kr ?_
 intro Z a hS hO hM
 replace h1:=h1.m0 hM
 replace h2:=h2.m0 hM
 refine rM T hS ⟨[(1,Pt 2 0)],[(2,(25,[Sl a1 h_.ae c1,Sl a2 h_.ak c2]))]⟩ fun Z a EK B2 hS hE hr=>?_
 replace hO:=hO.m2 hE
 replace h1:=h1.m1 hE
 replace h2:=h2.m1 hE
 clear hE hr
 refine bn ?_
 refine oP T hS 1 ⟨[(7,V (.agg #[.slice a1 h_.ae.length c1,.slice a2 h_.ak.length c2]))],[]⟩ fun a hS=>?_
 obtain ⟨hq,hm⟩:=hm
 refine op1 (call hS kr kr hb15 kr (fun _ _=>rfl) (Cb _ _ h_ a1 c1 a2 c2 hq h1 h2) ?_)
 intro v101 a fh fo hE hp hS
 replace hO:=hO.m2 hE
 replace h1:=h1.m1 hE
 replace h2:=h2.m1 hE
 obtain ⟨dQ,dP,hp,h107⟩:=hp
 obtain ⟨av,hr⟩:∃ r,bP h_=r:=⟨_,rfl⟩
 replace hm:=hm av hr
 rw [hr] at hp h107
 clear hr
 subst hp
 replace hm:=hm (h107.sm kr)
 refine ePe T hS [7,8] [(5,I av.2)] fun a hS=>?_
 refine bd ?_
 refine rPe T hS [] [(12,B (av.2 == 41))] fun a hS=>?_
 refine aF hS (b:=(av.2 == 41)) kr (fun hb=>?_) fun hb=>?_
 ·replace hm:=hm.1 hb
  refine rPe T hS [5,12] [(2,B false),(3,I 0)] fun a hS=>?_
  refine aZ ?_
  exact fin T hS hO (fun c=>c) rfl (r:=[.bool false,.int .i64 0]) kr (fun X' hM hC=>⟨(false,0),hm,rfl⟩)
 replace hm:=hm.2 hb
 refine aL ?_
 refine rPe T hS [5,12] [(2,B (av.2 == 0)),(3,I av.2)] fun a hS=>?_
 refine aZ ?_
 exact fin T hS hO (fun c=>c) rfl (r:=[.bool (av.2 == 0),.int .i64 av.2]) kr (fun X' hM hC=>⟨((av.2 == 0),av.2),hm,rfl⟩)
theorem C9 (Cb:S15) (v:∀ (h_:aj),fV h_->VC9 h_ (fun r=>r=eQ h_)):S9:=by
 intro w X h_ a1 c1 a2 c2   hp h1 h2
 refine (W9 Cb w X h_ a1 c1 a2 c2   _ (v h_ hp) h1 h2).mono ?_
 rintro _ _ _ _ ⟨r,rfl,h⟩
 exact h
theorem W32 (w0) (X0) (i_:Int) (am:List aa) (ap:List ab) (aM:List Int) (bz:Int) (a1) (c1) (a2) (c2) (a3) (c3) (b1) (i1) (b2) (i2) (b3) (i3) (b4) (i4) (Q:Bool->Prop) (hm:VC32 i_ am ap aM bz Q) (h1:RS ar w0 X0 a1 am c1) (h2:RS ao w0 X0 a2 ap c2) (h3:RS tI w0 X0 a3 aM c3) (ff:Cell w0 X0 b1 i1 26 [.slice a1 am.length c1]) (gE:Cell w0 X0 b2 i2 42 [.slice a2 ap.length c2]) (lc:Cell w0 X0 b3 i3 43 [.slice a3 aM.length c3]) (ti:Cell w0 X0 b4 i4 3 [.int .i64 bz]) (hA:dH [i1,i2,i3,i4]) :
  Ret Tryz.prog 32 #[.int .i64 i_,.pointer (some ⟨b1,0,none⟩),.pointer (some ⟨b2,0,none⟩),.pointer (some ⟨b3,0,none⟩),.pointer (some ⟨b4,0,none⟩)] (pR [i1,i2,i3,i4]) w0 X0 (fun w X' v=>∃ r,Q r/\v=.bool r/\Cell w X' b1 i1 26 [.slice a1 am.length c1]/\Cell w X' b2 i2 42 [.slice a2 ap.length c2]/\Cell w X' b3 i3 43 [.slice a3 aM.length c3]/\Cell w X' b4 i4 3 [.int .i64 bz]):=by
 unfold VC32 at hm
 replace hm:=hm (h1.sm kr)
 replace hm:=hm (h2.sm kr)
 replace hm:=hm (h3.sm kr)
 refine fB Tryz.func32 rfl (dx (zAg1 i1 i2 i3 i4)) (fun id=>(bif Nat.beq id 901 then b1 else (bif Nat.beq id 902 then b2 else (bif Nat.beq id 903 then b3 else (bif Nat.beq id 904 then b4 else 0))))) (args:=[I i_,Pt 901 0,Pt 902 0,Pt 903 0,Pt 904 0]) (bxs:=[(901,(26,[Sl a1 am c1])),(902,(42,[Sl a2 ap c2])),(903,(43,[Sl a3 aM c3])),(904,(3,[I bz]))]) kr rfl (bm.cons kr (ff.map (bK 0 hA.1 rfl)) (bm.cons kr (gE.map (bK 1 hA.1 rfl)) (bm.cons kr (lc.map (bK 2 hA.1 rfl)) (bm.cons kr (ti.map (bK 3 hA.1 rfl)) bm.nil)))) (fm (fun q hq=>(hA.2 q.1 (List.mem_map.2 ⟨q,hq,rfl⟩)).1)) ?_
 intro a hS hO hM
 have hP:Pin [(901,b1),(902,b2),(903,b3),(904,b4)] (fun id=>(bif Nat.beq id 901 then b1 else (bif Nat.beq id 902 then b2 else (bif Nat.beq id 903 then b3 else (bif Nat.beq id 904 then b4 else 0))))):=by intro q hq; simp at hq; rcases hq with rfl | rfl | rfl | rfl <;> rfl
 generalize (fun id=>(bif Nat.beq id 901 then b1 else (bif Nat.beq id 902 then b2 else (bif Nat.beq id 903 then b3 else (bif Nat.beq id 904 then b4 else 0)))))=Z at hS hP
 clear ff gE lc ti
 replace h1:=h1.m0 hM
 replace h2:=h2.m0 hM
 replace h3:=h3.m0 hM
 refine rPe T hS [] [] fun a hS=>?_
 refine bn ?_
 refine oPe T hS 2 [0,1] [(8,Sl a1 am c1),(9,I i_)] fun a hS=>?_
 obtain ⟨hq,hm⟩:=hm
 refine op1 (index (e:=56) (k:=.i64) T hS kr kr kr kr h1 kr kr hq.1 hq.2 ?_)
 intro IP a h102 hS
 refine op1 (fc (off:=0) (fsz:=1) (ft:=3) (TF:=tI) (y:=(gi am i_).Oper) T hS kr kr kr h102 kr kr kr (fun cs h=>fw h) ?_)
 intro tJ a h104 hS
 refine op1 (eC T hS kr kr kr h104 rfl kr ?_)
 intro v105 a hv hS
 cases hv
 refine ePe T hS [8,9,10,11,12] [(7,I ((gi am i_).Oper))] fun a hS=>?_
 refine dq [901,902,903,904] mixed hS ?_
 intro nk ne hS hE hD hH
 replace hO:=hO.m2 hE
 replace h1:=h1.m1 hE
 replace h2:=h2.m1 hE
 replace h3:=h3.m1 hE
 refine tke T [0,1,2] [901,902,903,904] hS hH #[true,true,true,false,false,false,false,false,false,false,false,false,false,false,false,false,false] 14 [] [(15,B (decide (((gi am i_).Oper) < 0)))] fun a hS=>?_
 refine js (tc:=15) (b:=decide (((gi am i_).Oper) < 0)) (f:=fun c=>⟨[(3,Pt 903 0),(4,Pt 904 0),(7,I ((gi am i_).Oper)),(20,B (c || (decide (((gi am i_).Oper)≥(lN ap)))))],[(901,(26,[Sl a1 am c1])),(902,(42,[Sl a2 ap c2])),(903,(43,[Sl a3 aM c3])),(904,(3,[I bz]))]⟩) T [3,4,5,6,7] [901,902,903,904] [3,4,7,20] hS kr kr kr kr hH (listed':=#[true,true,true,true,true,true,true,true,false,false,false,false,false,false,false,false,false]) (fuel:=9) kr kr (by rfl) ?_
 intro a hS
 refine tke T [8] [901,902,903,904] hS hH #[true,true,true,true,true,true,true,true,true,false,false,false,false,false,false,false,false] 8 [20] [(21,B ((decide (((gi am i_).Oper) < 0)) || (decide (((gi am i_).Oper)≥(lN ap)))))] fun a hS=>?_
 rcases bft ((decide (((gi am i_).Oper) < 0)) || (decide (((gi am i_).Oper)≥(lN ap)))) with hb | hb
 ·replace hS:=hS.lit (t:=21) kr hb
  replace hm:=hm.1 hb
  refine tke T [9,10,13,11,12,14,15,16] [901,902,903,904] hS hH (tts 17) 0 [3,4,7,21] [(6,B true)] fun a hS=>?_
  refine aV kr ?_
  replace hS:=hS.sle [] []
  refine aZ ?_
  exact gF T hS hO (fun c h=>bS kr h) (fun c h=>bT (l:=(zAg1 i1 i2 i3 i4)) h) (bN (zAg1 i1 i2 i3 i4)) rfl (r:=[.bool true]) kr (fun X' hM hC=>⟨true,hm,rfl,((hS.cell (id:=901) (t:=26) (cs:=[Sl a1 am c1]) kr).out (f:=(bN (zAg1 i1 i2 i3 i4))) hC kr kr (hP.at 0 rfl)),((hS.cell (id:=902) (t:=42) (cs:=[Sl a2 ap c2]) kr).out (f:=(bN (zAg1 i1 i2 i3 i4))) hC kr kr (hP.at 1 rfl)),((hS.cell (id:=903) (t:=43) (cs:=[Sl a3 aM c3]) kr).out (f:=(bN (zAg1 i1 i2 i3 i4))) hC kr kr (hP.at 2 rfl)),((hS.cell (id:=904) (t:=3) (cs:=[I bz]) kr).out (f:=(bN (zAg1 i1 i2 i3 i4))) hC kr kr (hP.at 3 rfl))⟩)
 replace hS:=hS.lit (t:=21) kr hb
 replace hm:=hm.2 hb
 refine tke T [9,10,13] [901,902,903,904] hS hH #[true,true,true,true,true,true,true,true,true,true,true,false,false,true,false,false,false] 5 [3,4,7] [(22,Sl a3 aM c3),(23,I ((gi am i_).Oper)),(26,I bz)] fun a hS=>?_
 obtain ⟨hq,hm⟩:=hm
 refine c6 (e:=3) (k:=.i64) T 11 hS kr kr kr (by rfl) kr hH kr kr h3 kr kr hq.1 hq.2 ?_
 intro Mb a h109 hS
 have HM:=h109.here
 refine dF T 12 hS kr kr kr (by rfl) kr hH kr h109 HM rfl kr ?_
 intro v110 a hv hS
 cases hv
 refine tke T [14,15,16] [901,902,903,904] hS hH (tts 17) 0 [21,22,23,26,24,25] [(6,B ((gi aM ((gi am i_).Oper)) == bz))] fun a hS=>?_
 refine aV kr ?_
 replace hS:=hS.sle [] []
 refine aZ ?_
 exact gF T hS hO (fun c h=>bS kr h) (fun c h=>bT (l:=(zAg1 i1 i2 i3 i4)) h) (bN (zAg1 i1 i2 i3 i4)) rfl (r:=[.bool ((gi aM ((gi am i_).Oper)) == bz)]) kr (fun X' hM hC=>⟨((gi aM ((gi am i_).Oper)) == bz),hm,rfl,((hS.cell (id:=901) (t:=26) (cs:=[Sl a1 am c1]) kr).out (f:=(bN (zAg1 i1 i2 i3 i4))) hC kr kr (hP.at 0 rfl)),((hS.cell (id:=902) (t:=42) (cs:=[Sl a2 ap c2]) kr).out (f:=(bN (zAg1 i1 i2 i3 i4))) hC kr kr (hP.at 1 rfl)),((hS.cell (id:=903) (t:=43) (cs:=[Sl a3 aM c3]) kr).out (f:=(bN (zAg1 i1 i2 i3 i4))) hC kr kr (hP.at 2 rfl)),((hS.cell (id:=904) (t:=3) (cs:=[I bz]) kr).out (f:=(bN (zAg1 i1 i2 i3 i4))) hC kr kr (hP.at 3 rfl))⟩)
theorem C32 (v:∀ (i_:Int) (am:List aa) (ap:List ab) (aM:List Int) (bz:Int),xC i_ am ap aM bz->VC32 i_ am ap aM bz (fun r=>r=dy i_ am ap aM bz)):S32:=by
 intro w X i_ am ap aM bz a1 c1 a2 c2 a3 c3  b1 i1 b2 i2 b3 i3 b4 i4 hp h1 h2 h3 ff gE lc ti hA
 refine (W32 w X i_ am ap aM bz a1 c1 a2 c2 a3 c3  b1 i1 b2 i2 b3 i3 b4 i4 _ (v i_ am ap aM bz hp) h1 h2 h3 ff gE lc ti hA).mono ?_
 rintro _ _ _ _ ⟨r,rfl,h⟩
 exact h
theorem W31_32 (Kn:S32) (w0) (X0) (l_:List aa) (am:List aa) (ap:List ab) (aM:List Int) (bz:Int) (a1) (c1) (a2) (c2) (a3) (c3) (a4) (c4) (b1) (i1) (b2) (i2) (b3) (i3) (b4) (i4) (Q:(List aa)->Prop) (hm:VC31_32 l_ am ap aM bz Q) (h1:RS ar w0 X0 a1 l_ c1) (h2:RS ar w0 X0 a2 am c2) (h3:RS ao w0 X0 a3 ap c3) (h4:RS tI w0 X0 a4 aM c4) (ff:Cell w0 X0 b1 i1 26 [.slice a2 am.length c2]) (gE:Cell w0 X0 b2 i2 42 [.slice a3 ap.length c3]) (lc:Cell w0 X0 b3 i3 43 [.slice a4 aM.length c4]) (ti:Cell w0 X0 b4 i4 3 [.int .i64 bz]) (hA:dH [i1,i2,i3,i4]) :
  Ret Tryz.prog 31 #[.slice a1 l_.length c1,.func (.func 32) #[] #[.pointer (some ⟨b1,0,none⟩),.pointer (some ⟨b2,0,none⟩),.pointer (some ⟨b3,0,none⟩),.pointer (some ⟨b4,0,none⟩)]] (pR [i1,i2,i3,i4]) w0 X0 (fun w X' v=>∃ r,Q r/\∃ cB cA,v=.slice cB r.length cA/\RS ar w X' cB r cA/\Cell w X' b1 i1 26 [.slice a2 am.length c2]/\Cell w X' b2 i2 42 [.slice a3 ap.length c3]/\Cell w X' b3 i3 43 [.slice a4 aM.length c4]/\Cell w X' b4 i4 3 [.int .i64 bz]):=by
 unfold VC31_32 at hm
 replace hm:=hm (h1.sm kr)
 replace hm:=hm (h2.sm kr)
 replace hm:=hm (h3.sm kr)
 replace hm:=hm (h4.sm kr)
 refine fB Tryz.func31 rfl (dx (zAg1 i1 i2 i3 i4)) (fun id=>(bif Nat.beq id 901 then b1 else (bif Nat.beq id 902 then b2 else (bif Nat.beq id 903 then b3 else (bif Nat.beq id 904 then b4 else 0))))) (args:=[Sl a1 l_ c1,.f (.func 32) [] [.p 901 0,.p 902 0,.p 903 0,.p 904 0]]) (bxs:=[(901,(26,[Sl a2 am c2])),(902,(42,[Sl a3 ap c3])),(903,(43,[Sl a4 aM c4])),(904,(3,[I bz]))]) kr rfl (bm.cons kr (ff.map (bK 0 hA.1 rfl)) (bm.cons kr (gE.map (bK 1 hA.1 rfl)) (bm.cons kr (lc.map (bK 2 hA.1 rfl)) (bm.cons kr (ti.map (bK 3 hA.1 rfl)) bm.nil)))) (fm (fun q hq=>(hA.2 q.1 (List.mem_map.2 ⟨q,hq,rfl⟩)).1)) ?_
 intro a hS hO hM
 have hP:Pin [(901,b1),(902,b2),(903,b3),(904,b4)] (fun id=>(bif Nat.beq id 901 then b1 else (bif Nat.beq id 902 then b2 else (bif Nat.beq id 903 then b3 else (bif Nat.beq id 904 then b4 else 0))))):=by intro q hq; simp at hq; rcases hq with rfl | rfl | rfl | rfl <;> rfl
 generalize (fun id=>(bif Nat.beq id 901 then b1 else (bif Nat.beq id 902 then b2 else (bif Nat.beq id 903 then b3 else (bif Nat.beq id 904 then b4 else 0)))))=Z at hS hP
 clear ff gE lc ti
 replace h1:=h1.m0 hM
 replace h2:=h2.m0 hM
 replace h3:=h3.m0 hM
 replace h4:=h4.m0 hM
 refine rPe T hS [] [] fun a hS=>?_
 refine rPe T hS [] [(5,V (.slice none 0 0))] fun a hS=>?_
 refine b5 (fun a w=>∃ (Z:Nat->Nat) (X:Nat->Nat) (bv:List aa) (dk:Option Addr) (dj:Nat),VC31_32_J1 Q bv/\St Tryz.f31.ntmps ⟨[(5,Sl dk bv dj)],[(901,(26,[Sl a2 am c2])),(902,(42,[Sl a3 ap c3])),(903,(43,[Sl a4 aM c4])),(904,(3,[I bz]))]⟩ Z a w X/\fU (dx (zAg1 i1 i2 i3 i4)) w0 X0 w X/\Pin [(901,b1),(902,b2),(903,b3),(904,b4)] Z/\OS ar 56 w X 1005 dk bv dj/\RS ar w X a2 am c2/\RS ao w X a3 ap c3/\RS tI w X a4 aM c4) ?_ ?_
 ·refine rPe T hS [0] [(8,Sl a1 l_ c1),(9,I (lN l_)),(10,I 0)] fun a hS=>?_
  refine aN ?_
  obtain ⟨I1,μ1,cy,hm⟩:=hm
  refine cw (σ:=(List aa) × Int) (fun s a w=>∃ Z X iz ip,I1 s.1 s.2/\St Tryz.f31.ntmps ⟨[(1,.f (.func 32) [] [.p 901 0,.p 902 0,.p 903 0,.p 904 0]),(5,Sl iz s.1 ip),(8,Sl a1 l_ c1),(9,I (lN l_)),(10,I s.2)],[(901,(26,[Sl a2 am c2])),(902,(42,[Sl a3 ap c3])),(903,(43,[Sl a4 aM c4])),(904,(3,[I bz]))]⟩ Z a w X/\fU (dx (zAg1 i1 i2 i3 i4)) w0 X0 w X/\Pin [(901,b1),(902,b2),(903,b3),(904,b4)] Z/\OS ar 56 w X 1005 iz s.1 ip/\RS ar w X a1 l_ c1/\RS ar w X a2 am c2/\RS ao w X a3 ap c3/\RS tI w X a4 aM c4) (fun s=>μ1 s.1 s.2) (⟨[],0⟩) ?_ ?_
  ·exact ⟨Z,_,none,0,cy,hS.sl _,hO,hP,(OS.nil _ _ _ _ _),h1,h2,h3,h4⟩
  rintro ⟨bE,bi⟩ a GJ ⟨Z,IC,iz,ip,hI,hS,hO,hP,h113,h114,h116,h117,h118⟩
  replace hm:=hm bE bi hI
  clear hI cy
  refine rPe T hS [] [(11,B (decide (bi < (lN l_))))] fun a hS=>?_
  refine bd ?_
  refine aF hS (b:=decide (bi < (lN l_))) kr (fun hb=>?_) fun hb=>?_
  ·replace hm:=hm.1 hb
   refine aL ?_
   refine b5 (fun a w=>∃ (Z:Nat->Nat) (X:Nat->Nat) (bH:List aa) (Dt:Option Addr) (Dj:Nat),VC31_32_J2 I1 μ1 bE bi bH/\St Tryz.f31.ntmps ⟨[(1,.f (.func 32) [] [.p 901 0,.p 902 0,.p 903 0,.p 904 0]),(5,Sl Dt bH Dj),(8,Sl a1 l_ c1),(9,I (lN l_)),(10,I bi)],[(901,(26,[Sl a2 am c2])),(902,(42,[Sl a3 ap c3])),(903,(43,[Sl a4 aM c4])),(904,(3,[I bz]))]⟩ Z a w X/\fU (dx (zAg1 i1 i2 i3 i4)) w0 X0 w X/\Pin [(901,b1),(902,b2),(903,b3),(904,b4)] Z/\OS ar 56 w X 1005 Dt bH Dj/\RS ar w X a1 l_ c1/\RS ar w X a2 am c2/\RS ao w X a3 ap c3/\RS tI w X a4 aM c4) ?_ ?_
   ·refine aN ?_
    refine bn ?_
    refine oPe T hS 1 [11] [(12,I bi)] fun a hS=>?_
    obtain ⟨hq,hm⟩:=hm
    refine op1 (index (e:=56) (k:=.i64) T hS kr kr kr kr h114 kr kr hq.1 hq.2 ?_)
    intro L6 a h128 hS
    refine op1 (eB T hS kr kr kr h128 kr kr ?_)
    intro v129 a hv hS
    subst hv
    refine eM T hS ⟨[(1,.f (.func 32) [] [.p 901 0,.p 902 0,.p 903 0,.p 904 0]),(5,Sl iz bE ip),(6,I bi),(7,Pt 8 0),(8,Sl a1 l_ c1),(9,I (lN l_)),(10,I bi)],[(8,(56,(cK (gi l_ bi)))),(901,(26,[Sl a2 am c2])),(902,(42,[Sl a3 ap c3])),(903,(43,[Sl a4 aM c4])),(904,(3,[I bz]))]⟩ fun Z a tO wV hS hE hr=>?_
    replace hO:=hO.m2 hE
    replace h113:=h113.m2 hE
    replace h114:=h114.m1 hE
    replace h116:=h116.m1 hE
    replace h117:=h117.m1 hE
    replace h118:=h118.m1 hE
    replace hP:=hP.mv hr kr
    clear hE hr
    refine bn ?_
    refine oPe T hS 2 [6] [(15,.f (.func 32) [] [.p 901 0,.p 902 0,.p 903 0,.p 904 0]),(16,I bi)] fun a hS=>?_
    obtain ⟨hq,hm⟩:=hm
    refine op1 (jI (fi:=[]) (cp:=[.p 901 0,.p 902 0,.p 903 0,.p 904 0]) hS kr kr hb32 kr kr (Kn _ _ bi am ap aM bz a2 c2 a3 c3 a4 c4 (Z 901) 901 (Z 902) 902 (Z 903) 903 (Z 904) 904 hq h116 h117 h118 (hS.cell (id:=901) (t:=26) (cs:=[Sl a2 am c2]) kr) (hS.cell (id:=902) (t:=42) (cs:=[Sl a3 ap c3]) kr) (hS.cell (id:=903) (t:=43) (cs:=[Sl a4 aM c4]) kr) (hS.cell (id:=904) (t:=3) (cs:=[I bz]) kr) ⟨by decide,by decide⟩) ?_)
    intro v130 a qZ qQ hE hp hS
    replace hO:=hO.m2 hE
    replace h113:=h113.m2 hE
    replace h114:=h114.m1 hE
    replace h116:=h116.m1 hE
    replace h117:=h117.m1 hE
    replace h118:=h118.m1 hE
    obtain ⟨hp,D7,D6,D5,uG⟩:=hp
    obtain ⟨ji,hr⟩:∃ r,dy bi am ap aM bz=r:=⟨_,rfl⟩
    replace hm:=hm ji hr
    rw [hr] at hp
    clear hr
    subst hp
    replace hS:=hS.cx (id:=901) (t:=26) (cs:=[Sl a2 am c2]) kr D7
    replace hS:=hS.cx (id:=902) (t:=42) (cs:=[Sl a3 ap c3]) kr D6
    replace hS:=hS.cx (id:=903) (t:=43) (cs:=[Sl a4 aM c4]) kr D5
    replace hS:=hS.cx (id:=904) (t:=3) (cs:=[I bz]) kr uG
    clear D7 D6 D5 uG
    refine g8 ?_
    refine aF hS (b:=ji) kr (fun hb=>?_) fun hb=>?_
    ·replace hm:=hm.1 hb
     refine region ?_
     refine oP T hS 2 ⟨[(1,.f (.func 32) [] [.p 901 0,.p 902 0,.p 903 0,.p 904 0]),(5,Sl iz bE ip),(8,Sl a1 l_ c1),(9,I (lN l_)),(10,I bi),(18,Sl iz bE ip),(19,V (.agg #[.int .i64 ((gi l_ bi).Oper),.int .i64 ((gi l_ bi).Result)]))],[(901,(26,[Sl a2 am c2])),(902,(42,[Sl a3 ap c3])),(903,(43,[Sl a4 aM c4])),(904,(3,[I bz]))]⟩ fun a hS=>?_
     refine op1 (lit (E:=56) (col:=0) (T:=ar) (vals:=[.agg #[.int .i64 ((gi l_ bi).Oper),.int .i64 ((gi l_ bi).Result)]]) (ys:=[(gi l_ bi)]) T hS kr kr kr kr (by exact ⟨rfl,trivial⟩) rfl kr kr kr kr ?_)
     intro b138 a sg vy hE h141 hN hS
     clear hN
     replace hO:=hO.m2 hE
     replace h113:=h113.m2 hE
     replace h114:=h114.m1 hE
     replace h116:=h116.m1 hE
     replace h117:=h117.m1 hE
     replace h118:=h118.m1 hE
     replace h141:=h141.rs0
     obtain ⟨hq,hm⟩:=hm
     obtain ⟨news,hN⟩:=h141.src
     refine op1 (append (E:=56) (T:=ar) (col:=1005) (xs:=bE) T hS kr kr kr kr h113 hN kr kr kr kr hq ?_)
     intro vv vj a qY ra hE h144 hS
     clear hq hN
     clear h113
     replace hO:=hO.m2 hE
     replace h114:=h114.m1 hE
     replace h116:=h116.m1 hE
     replace h117:=h117.m1 hE
     replace h118:=h118.m1 hE
     replace h141:=h141.m1 hE
     refine ePe T hS [19,20,21] [(5,Sl vv (bE++[(gi l_ bi)]) vj)] fun a hS=>?_
     exact ⟨Z,_,bE++[(gi l_ bi)],vv,vj,hm,hS.sl _,hO,hP,h144,h114,h116,h117,h118⟩
    replace hm:=hm.2 hb
    refine aL ?_
    exact ⟨Z,_,bE,iz,ip,hm,hS.sl _,hO,hP,h113,h114,h116,h117,h118⟩
   rintro a Ct ⟨Z,zU,bH,Dt,Dj,hm,hS,hO,hP,h122,h123,h124,h125,h126⟩
   unfold VC31_32_J2 at hm
   refine region (ePe T hS [] [(10,I (wR (bi+1)))] fun a hS=>?_)
   exact ⟨⟨bH,wR (bi+1)⟩,⟨Z,_,Dt,Dj,hm.1,hS.sl _,hO,hP,h122,h123,h124,h125,h126⟩,hm.2⟩
  replace hm:=hm.2 hb
  refine cl (by rfl) ?_
  exact ⟨Z,_,bE,iz,ip,hm,hS.sl _,hO,hP,h113,h116,h117,h118⟩
 rintro a sf ⟨Z,IB,bv,dk,dj,hm,hS,hO,hP,h104,h105,h106,h107⟩
 unfold VC31_32_J1 at hm
 refine rPe T hS [5] [(4,Sl dk bv dj)] fun a hS=>?_
 refine aZ ?_
 obtain ⟨oG,hE,hF⟩:=h104.freeze (by decide)
 replace hS:=hS.ev hE (cN kr)
 replace hO:=hO.m2 hE
 replace h105:=h105.m1 hE
 replace h106:=h106.m1 hE
 replace h107:=h107.m1 hE
 have h109:=hF; clear hE hF
 exact gF T hS hO (fun c h=>bS kr h) (fun c h=>bT (l:=(zAg1 i1 i2 i3 i4)) h) (bN (zAg1 i1 i2 i3 i4)) rfl (r:=[.slice dk bv.length dj]) kr (fun X' hM hC=>⟨bv,hm,dk,dj,rfl,h109.m0 hM,((hS.cell (id:=901) (t:=26) (cs:=[Sl a2 am c2]) kr).out (f:=(bN (zAg1 i1 i2 i3 i4))) hC kr kr (hP.at 0 rfl)),((hS.cell (id:=902) (t:=42) (cs:=[Sl a3 ap c3]) kr).out (f:=(bN (zAg1 i1 i2 i3 i4))) hC kr kr (hP.at 1 rfl)),((hS.cell (id:=903) (t:=43) (cs:=[Sl a4 aM c4]) kr).out (f:=(bN (zAg1 i1 i2 i3 i4))) hC kr kr (hP.at 2 rfl)),((hS.cell (id:=904) (t:=3) (cs:=[I bz]) kr).out (f:=(bN (zAg1 i1 i2 i3 i4))) hC kr kr (hP.at 3 rfl))⟩)
theorem C31_32 (Kn:S32) (v:∀ (l_:List aa) (am:List aa) (ap:List ab) (aM:List Int) (bz:Int),xB l_ am ap aM bz->VC31_32 l_ am ap aM bz (fun r=>r=bL l_ am ap aM bz)):S31_32:=by
 intro w X l_ am ap aM bz a1 c1 a2 c2 a3 c3 a4 c4  b1 i1 b2 i2 b3 i3 b4 i4 hp h1 h2 h3 h4 ff gE lc ti hA
 refine (W31_32 Kn w X l_ am ap aM bz a1 c1 a2 c2 a3 c3 a4 c4  b1 i1 b2 i2 b3 i3 b4 i4 _ (v l_ am ap aM bz hp) h1 h2 h3 h4 ff gE lc ti hA).mono ?_
 rintro _ _ _ _ ⟨r,rfl,h⟩
 exact h
theorem W12 (q8:S23) (A1:S24) (wD:S31_32) (Fg:S33) (Ff:S34) (Fe:S35) (w0) (X0) (h_:aj) (ac:List aa) (a1) (c1) (a2) (c2) (a3) (c3) (Q:Bool->Prop) (hm:VC12 h_ ac Q) (h1:RS az w0 X0 a1 h_.ae c1) (h2:RS aI w0 X0 a2 h_.ak c2) (h3:RS ar w0 X0 a3 ac c3) :
  Ret Tryz.prog 12 #[.agg #[.slice a1 h_.ae.length c1,.slice a2 h_.ak.length c2],.slice a3 ac.length c3] aJ w0 X0 (fun w X' v=>∃ r,Q r/\v=.bool r):=by
 unfold VC12 at hm
 replace hm:=hm (h1.sm kr)
 replace hm:=hm (h2.sm kr)
 replace hm:=hm (h3.sm kr)
 refine enter Tryz.func12 rfl (vals:=[.agg #[.slice a1 h_.ae.length c1,.slice a2 h_.ak.length c2],.slice a3 ac.length c3]) kr ?_
 intro Z a hS hO hM
 replace h1:=h1.m0 hM
 replace h2:=h2.m0 hM
 replace h3:=h3.m0 hM
 refine rM T hS ⟨[(2,Pt 3 0),(3,Pt 4 0)],[(3,(25,[Sl a1 h_.ae c1,Sl a2 h_.ak c2])),(4,(26,[Sl a3 ac c3]))]⟩ fun Z a Cr Dv hS hE hr=>?_
 replace hO:=hO.m2 hE
 replace h1:=h1.m1 hE
 replace h2:=h2.m1 hE
 replace h3:=h3.m1 hE
 clear hE hr
 refine bd ?_
 refine bn ?_
 refine oPe T hS 1 [] [(16,V (.agg #[.slice a1 h_.ae.length c1,.slice a2 h_.ak.length c2]))] fun a hS=>?_
 obtain ⟨hq,hm⟩:=hm
 refine op1 (call hS kr kr hb23 kr (fun _ _=>rfl) (q8 _ _ h_ a1 c1 a2 c2 hq h1 h2) ?_)
 intro v101 a fh fo hE hp hS
 replace hO:=hO.m2 hE
 replace h1:=h1.m1 hE
 replace h2:=h2.m1 hE
 replace h3:=h3.m1 hE
 obtain ⟨av,hr⟩:∃ r,aA h_=r:=⟨_,rfl⟩
 replace hm:=hm av hr
 rw [hr] at hp
 clear hr
 subst hp
 refine ePe T hS [16,17] [(6,I av.2)] fun a hS=>?_
 refine rPe T hS [6] [(21,B (av.2 != 0))] fun a hS=>?_
 refine aF hS (b:=(av.2 != 0)) kr (fun hb=>?_) fun hb=>?_
 ·replace hm:=hm.1 hb
  refine rP T hS ⟨[(4,B false)],[]⟩ fun a hS=>?_
  refine aZ ?_
  exact fin T hS hO (fun c=>c) rfl (r:=[.bool false]) kr (fun X' hM hC=>⟨false,hm,rfl⟩)
 replace hm:=hm.2 hb
 refine aL ?_
 refine bn ?_
 refine oPe T hS 1 [21] [(23,V (.agg #[.slice a1 h_.ae.length c1,.slice a2 h_.ak.length c2]))] fun a hS=>?_
 obtain ⟨hq,hm⟩:=hm
 refine op1 (call hS kr kr hb24 kr (fun _ _=>rfl) (A1 _ _ h_ a1 c1 a2 c2 hq h1 h2) ?_)
 intro v105 a nk ne hE hp hS
 replace hO:=hO.m2 hE
 replace h1:=h1.m1 hE
 replace h2:=h2.m1 hE
 replace h3:=h3.m1 hE
 obtain ⟨ci,ce,d6,d5,hp,h111,h114⟩:=hp
 obtain ⟨a8,hr⟩:∃ r,cJ h_=r:=⟨_,rfl⟩
 replace hm:=hm a8 hr
 rw [hr] at hp h111 h114
 clear hr
 subst hp
 replace hm:=hm (h111.sm kr)
 replace hm:=hm (h114.sm kr)
 refine eM T hS ⟨[(2,Pt 3 0),(3,Pt 4 0),(7,Pt 8 0),(8,Pt 9 0)],[(3,(25,[Sl a1 h_.ae c1,Sl a2 h_.ak c2])),(4,(26,[Sl a3 ac c3])),(8,(42,[Sl ci a8.1 ce])),(9,(43,[Sl d6 a8.2 d5]))]⟩ fun Z a Ac BV hS hE hr=>?_
 replace hO:=hO.m2 hE
 replace h1:=h1.m1 hE
 replace h2:=h2.m1 hE
 replace h3:=h3.m1 hE
 replace h111:=h111.m1 hE
 replace h114:=h114.m1 hE
 clear hE hr
 refine b5 (fun a w=>∃ Z X,VC12_J1 ac Q a8/\St Tryz.f12.ntmps ⟨[(3,Pt 4 0),(7,Pt 8 0)],[(4,(26,[Sl a3 ac c3])),(8,(42,[Sl ci a8.1 ce]))]⟩ Z a w X/\Old w0 X0 w X/\RS ar w X a3 ac c3/\RS ao w X ci a8.1 ce) ?_ ?_
 ·refine rP T hS ⟨[(3,Pt 4 0),(7,Pt 8 0),(8,Pt 9 0),(28,Sl a1 h_.ae c1),(29,I (lN h_.ae)),(30,I 0)],[(4,(26,[Sl a3 ac c3])),(8,(42,[Sl ci a8.1 ce])),(9,(43,[Sl d6 a8.2 d5]))]⟩ fun a hS=>?_
  refine aN ?_
  obtain ⟨I1,μ1,cy,hm⟩:=hm
  refine cw (σ:=Int) (fun s a w=>∃ Z X,I1 s/\St Tryz.f12.ntmps ⟨[(3,Pt 4 0),(7,Pt 8 0),(8,Pt 9 0),(28,Sl a1 h_.ae c1),(29,I (lN h_.ae)),(30,I s)],[(4,(26,[Sl a3 ac c3])),(8,(42,[Sl ci a8.1 ce])),(9,(43,[Sl d6 a8.2 d5]))]⟩ Z a w X/\Old w0 X0 w X/\RS az w X a1 h_.ae c1/\RS ar w X a3 ac c3/\RS ao w X ci a8.1 ce/\RS tI w X d6 a8.2 d5) (fun s=>μ1 s) (0) ?_ ?_
  ·exact ⟨Z,_,cy,hS.sl _,hO,h1,h3,h111,h114⟩
  rintro jT a yA ⟨Z,BW,hI,hS,hO,h128,h130,h131,h132⟩
  replace hm:=hm jT hI
  clear hI cy
  refine rPe T hS [] [(31,B (decide (jT < (lN h_.ae))))] fun a hS=>?_
  refine bd ?_
  refine aF hS (b:=decide (jT < (lN h_.ae))) kr (fun hb=>?_) fun hb=>?_
  ·replace hm:=hm.1 hb
   refine aL (bd ?_)
   refine aN ?_
   refine bn ?_
   refine oPe T hS 1 [31] [(32,I jT)] fun a hS=>?_
   obtain ⟨hq,hm⟩:=hm
   refine op1 (index (e:=48) (k:=.i64) T hS kr kr kr kr h128 kr kr hq.1 hq.2 ?_)
   intro L3 a h134 hS
   refine op1 (eB T hS kr kr kr h134 kr kr ?_)
   intro v135 a hv hS
   obtain ⟨nc,m8,hv,h138⟩:=hv
   subst hv
   replace hm:=hm (h138.sm kr)
   refine eM T hS ⟨[(3,Pt 4 0),(7,Pt 8 0),(8,Pt 9 0),(9,Pt 10 0),(10,Pt 11 0),(28,Sl a1 h_.ae c1),(29,I (lN h_.ae)),(30,I jT)],[(4,(26,[Sl a3 ac c3])),(8,(42,[Sl ci a8.1 ce])),(9,(43,[Sl d6 a8.2 d5])),(10,(3,[I jT])),(11,(48,(cO (gi h_.ae jT) nc m8)))]⟩ fun Z a sf wT hS hE hr=>?_
   replace hO:=hO.m2 hE
   replace h128:=h128.m1 hE
   replace h130:=h130.m1 hE
   replace h131:=h131.m1 hE
   replace h132:=h132.m1 hE
   replace h138:=h138.m1 hE
   clear hE hr
   refine bn ?_
   refine oPe T hS 2 [9] [(35,Sl a3 ac c3),(36,.f (.func 32) [] [.p 4 0,.p 8 0,.p 9 0,.p 10 0])] fun a hS=>?_
   obtain ⟨hq,hm⟩:=hm
   refine op1 (lv hS kr kr hb31 kr (wD _ _ ac ac a8.1 a8.2 jT a3 c3 a3 c3 ci ce d6 d5 (Z 4) 4 (Z 8) 8 (Z 9) 9 (Z 10) 10 hq h130 h130 h131 h132 (hS.cell (id:=4) (t:=26) (cs:=[Sl a3 ac c3]) kr) (hS.cell (id:=8) (t:=42) (cs:=[Sl ci a8.1 ce]) kr) (hS.cell (id:=9) (t:=43) (cs:=[Sl d6 a8.2 d5]) kr) (hS.cell (id:=10) (t:=3) (cs:=[I jT]) kr) ⟨by decide,by decide⟩) ?_)
   intro v139 a yB zX hE hp hS
   replace hO:=hO.m2 hE
   replace h128:=h128.m1 hE
   replace h130:=h130.m1 hE
   replace h131:=h131.m1 hE
   replace h132:=h132.m1 hE
   replace h138:=h138.m1 hE
   obtain ⟨gc,f9,hp,h145,uF,rx,D1,D0⟩:=hp
   obtain ⟨bZ,hr⟩:∃ r,bL ac ac a8.1 a8.2 jT=r:=⟨_,rfl⟩
   replace hm:=hm bZ hr
   rw [hr] at hp h145
   clear hr
   subst hp
   replace hm:=hm (h145.sm kr)
   replace hS:=hS.cx (id:=4) (t:=26) (cs:=[Sl a3 ac c3]) kr uF
   replace hS:=hS.cx (id:=8) (t:=42) (cs:=[Sl ci a8.1 ce]) kr rx
   replace hS:=hS.cx (id:=9) (t:=43) (cs:=[Sl d6 a8.2 d5]) kr D1
   replace hS:=hS.cx (id:=10) (t:=3) (cs:=[I jT]) kr D0
   clear uF rx D1 D0
   refine eP T hS ⟨[(3,Pt 4 0),(7,Pt 8 0),(8,Pt 9 0),(10,Pt 11 0),(11,Sl gc bZ f9),(28,Sl a1 h_.ae c1),(29,I (lN h_.ae)),(30,I jT)],[(4,(26,[Sl a3 ac c3])),(8,(42,[Sl ci a8.1 ce])),(9,(43,[Sl d6 a8.2 d5])),(11,(48,(cO (gi h_.ae jT) nc m8)))]⟩ fun a hS=>?_
   refine bn ?_
   refine oP T hS 3 ⟨[(3,Pt 4 0),(7,Pt 8 0),(8,Pt 9 0),(28,Sl a1 h_.ae c1),(29,I (lN h_.ae)),(30,I jT),(39,V (.agg #[.int .i64 ((gi h_.ae jT).aq),.int .i64 ((gi h_.ae jT).ax),.int .i64 ((gi h_.ae jT).aE),.slice nc ((gi h_.ae jT).Rows).length m8])),(40,Sl ci a8.1 ce),(41,Sl gc bZ f9)],[(4,(26,[Sl a3 ac c3])),(8,(42,[Sl ci a8.1 ce])),(9,(43,[Sl d6 a8.2 d5]))]⟩ fun a hS=>?_
   obtain ⟨hq,hm⟩:=hm
   refine op1 (call hS kr kr hb33 kr (fun _ _=>rfl) (Fg _ _ (gi h_.ae jT) a8.1 bZ nc m8 ci ce gc f9 hq h138 h131 h145) ?_)
   intro v150 a EF wU hE hp hS
   replace hO:=hO.m2 hE
   replace h128:=h128.m1 hE
   replace h130:=h130.m1 hE
   replace h131:=h131.m1 hE
   replace h132:=h132.m1 hE
   replace h138:=h138.m1 hE
   replace h145:=h145.m1 hE
   obtain ⟨ul,hr⟩:∃ r,b7 (gi h_.ae jT) a8.1 bZ=r:=⟨_,rfl⟩
   replace hm:=hm ul hr
   rw [hr] at hp
   clear hr
   subst hp
   refine ePe T hS [39,40,41,42] [(14,I ul.2.2)] fun a hS=>?_
   refine rPe T hS [14] [(47,B (ul.2.2 != 0))] fun a hS=>?_
   refine aF hS (b:=(ul.2.2 != 0)) kr (fun hb=>?_) fun hb=>?_
   ·replace hm:=hm.1 hb
    refine rP T hS ⟨[(4,B false)],[]⟩ fun a hS=>?_
    refine aZ ?_
    exact fin T hS hO (fun c=>c) rfl (r:=[.bool false]) kr (fun X' hM hC=>⟨false,hm,rfl⟩)
   replace hm:=hm.2 hb
   refine aL ?_
   refine region (ePe T hS [47] [(30,I (wR (jT+1)))] fun a hS=>?_)
   exact ⟨wR (jT+1),⟨Z,_,hm.1,hS.sl _,hO,h128,h130,h131,h132⟩,hm.2⟩
  replace hm:=hm.2 hb
  refine cl (by rfl) ?_
  exact ⟨Z,_,hm,hS.sl _,hO,h130,h131⟩
 rintro a yz ⟨Z,zT,hm,hS,hO,h115,h116⟩
 unfold VC12_J1 at hm
 refine bn ?_
 refine oPe T hS 2 [] [(49,Sl ci a8.1 ce),(50,Sl a3 ac c3)] fun a hS=>?_
 refine op1 (call hS kr kr hb34 kr (fun _ _=>rfl) (Ff _ _ a8.1 ac ci ce a3 c3 h116 h115) ?_)
 intro v117 a yF zZ hE hp hS
 replace hO:=hO.m2 hE
 replace h115:=h115.m1 hE
 replace h116:=h116.m1 hE
 obtain ⟨jw,hr⟩:∃ r,ct a8.1 ac=r:=⟨_,rfl⟩
 replace hm:=hm jw hr
 rw [hr] at hp
 clear hr
 subst hp
 refine oPe T hS 2 [49,50,51] [(53,B (decide (jw < 0)))] fun a hS=>?_
 rcases bft (decide (jw < 0)) with hb | hb
 ·replace hS:=hS.lit (t:=53) kr hb
  replace hm:=hm.1 hb
  refine oP T hS 2 ⟨[(53,B true),(54,Sl ci a8.1 ce),(55,Sl a3 ac c3)],[]⟩ fun a hS=>?_
  obtain ⟨hq,hm⟩:=hm
  refine op1 (call hS kr kr hb35 kr (fun _ _=>rfl) (Fe _ _ a8.1 ac ci ce a3 c3 hq h116 h115) ?_)
  intro v121 a tR tE hE hp hS
  replace hO:=hO.m2 hE
  replace h115:=h115.m1 hE
  replace h116:=h116.m1 hE
  obtain ⟨iy,io,hp,h127⟩:=hp
  obtain ⟨dv,hr⟩:∃ r,bX a8.1 ac=r:=⟨_,rfl⟩
  replace hm:=hm dv hr
  rw [hr] at hp h127
  clear hr
  subst hp
  replace hm:=hm (h127.sm kr)
  refine ePe T hS [53,54,55,56] [(4,B ((lN dv) == 0))] fun a hS=>?_
  refine aZ ?_
  exact fin T hS hO (fun c=>c) rfl (r:=[.bool ((lN dv) == 0)]) kr (fun X' hM hC=>⟨((lN dv) == 0),hm,rfl⟩)
 replace hS:=hS.lit (t:=53) kr hb
 replace hm:=hm.2 hb
 refine eP T hS ⟨[(4,B false)],[]⟩ fun a hS=>?_
 refine aZ ?_
 exact fin T hS hO (fun c=>c) rfl (r:=[.bool false]) kr (fun X' hM hC=>⟨false,hm,rfl⟩)
theorem C12 (q8:S23) (A1:S24) (wD:S31_32) (Fg:S33) (Ff:S34) (Fe:S35) (v:∀ (h_:aj) (ac:List aa),rB h_ ac->VC12 h_ ac (fun r=>r=ec h_ ac)):S12:=by
 intro w X h_ ac a1 c1 a2 c2 a3 c3   hp h1 h2 h3
 refine (W12 q8 A1 wD Fg Ff Fe w X h_ ac a1 c1 a2 c2 a3 c3   _ (v h_ ac hp) h1 h2 h3).mono ?_
 rintro _ _ _ _ ⟨r,rfl,h⟩
 exact h
theorem W13 (G8:S16) (Fh:S28) (Km:S36) (Kl:S37) (Kk:S38) (w0) (X0) (objects:List al) (l_:List aH) (ac:List aa) (a1) (c1) (a2) (c2) (a3) (c3) (Q:Bool->Prop) (hm:VC13 objects l_ ac Q) (h1:RS az w0 X0 a1 objects c1) (h2:RS bJ w0 X0 a2 l_ c2) (h3:RS ar w0 X0 a3 ac c3) :
  Ret Tryz.prog 13 #[.slice a1 objects.length c1,.slice a2 l_.length c2,.slice a3 ac.length c3] aJ w0 X0 (fun w X' v=>∃ r,Q r/\v=.bool r):=by
 unfold VC13 at hm
 replace hm:=hm (h1.sm kr)
 replace hm:=hm (h2.sm kr)
 replace hm:=hm (h3.sm kr)
 refine enter Tryz.func13 rfl (vals:=[.slice a1 objects.length c1,.slice a2 l_.length c2,.slice a3 ac.length c3]) kr ?_
 intro Z a hS hO hM
 replace h1:=h1.m0 hM
 replace h2:=h2.m0 hM
 replace h3:=h3.m0 hM
 refine rPe T hS [] [] fun a hS=>?_
 refine bn ?_
 refine oPe T hS 2 [] [(19,Sl a1 objects c1),(20,Sl a2 l_ c2)] fun a hS=>?_
 obtain ⟨hq,hm⟩:=hm
 refine op1 (call hS kr kr hb28 kr (fun _ _=>rfl) (Fh _ _ objects l_ a1 c1 a2 c2 hq h1 h2) ?_)
 intro v101 a fh fo hE hp hS
 replace hO:=hO.m2 hE
 replace h1:=h1.m1 hE
 replace h2:=h2.m1 hE
 replace h3:=h3.m1 hE
 obtain ⟨av,hr⟩:∃ r,du objects l_=r:=⟨_,rfl⟩
 replace hm:=hm av hr
 rw [hr] at hp
 clear hr
 subst hp
 refine ePe T hS [19,20,21] [(8,I av.2)] fun a hS=>?_
 refine bd ?_
 refine rPe T hS [8] [(25,B (av.2 != 0))] fun a hS=>?_
 refine aF hS (b:=(av.2 != 0)) kr (fun hb=>?_) fun hb=>?_
 ·replace hm:=hm.1 hb
  refine rPe T hS [0,1,2,25] [(6,B false)] fun a hS=>?_
  refine aZ ?_
  exact fin T hS hO (fun c=>c) rfl (r:=[.bool false]) kr (fun X' hM hC=>⟨false,hm,rfl⟩)
 replace hm:=hm.2 hb
 refine aL ?_
 refine bn ?_
 refine oPe T hS 2 [1,25] [(27,Sl a1 objects c1),(28,Sl a2 l_ c2)] fun a hS=>?_
 obtain ⟨hq,hm⟩:=hm
 refine op1 (call hS kr kr hb16 kr (fun _ _=>rfl) (G8 _ _ objects l_ a1 c1 a2 c2 hq h1 h2) ?_)
 intro v105 a nk ne hE hp hS
 replace hO:=hO.m2 hE
 replace h1:=h1.m1 hE
 replace h2:=h2.m1 hE
 replace h3:=h3.m1 hE
 obtain ⟨ci,ce,d6,d5,hp,h111,h114⟩:=hp
 obtain ⟨a8,hr⟩:∃ r,cX objects l_=r:=⟨_,rfl⟩
 replace hm:=hm a8 hr
 rw [hr] at hp h111 h114
 clear hr
 subst hp
 replace hm:=hm (h111.sm kr)
 replace hm:=hm (h114.sm kr)
 refine ePe T hS [27,28,29] [(9,Sl ci a8.1 ce),(10,Sl d6 a8.2 d5)] fun a hS=>?_
 refine b5 (fun a w=>∃ Z X,VC13_J1 objects ac Q a8/\St Tryz.f13.ntmps ⟨[(0,Sl a1 objects c1),(2,Sl a3 ac c3),(9,Sl ci a8.1 ce),(10,Sl d6 a8.2 d5)],[]⟩ Z a w X/\Old w0 X0 w X/\RS az w X a1 objects c1/\RS ar w X a3 ac c3/\RS ao w X ci a8.1 ce/\RS tI w X d6 a8.2 d5) ?_ ?_
 ·refine rPe T hS [] [(11,I 0)] fun a hS=>?_
  refine aN ?_
  obtain ⟨I3,μ3,cy,hm⟩:=hm
  refine cw (σ:=Int) (fun s a w=>∃ Z X,I3 s/\St Tryz.f13.ntmps ⟨[(0,Sl a1 objects c1),(2,Sl a3 ac c3),(9,Sl ci a8.1 ce),(10,Sl d6 a8.2 d5),(11,I s)],[]⟩ Z a w X/\Old w0 X0 w X/\RS az w X a1 objects c1/\RS ar w X a3 ac c3/\RS ao w X ci a8.1 ce/\RS tI w X d6 a8.2 d5) (fun s=>μ3 s) (0) ?_ ?_
  ·exact ⟨Z,_,cy,hS.sl _,hO,h1,h3,h111,h114⟩
  rintro jo a Nq ⟨Z,Lz,hI,hS,hO,h209,h210,h211,h212⟩
  replace hm:=hm jo hI
  clear hI cy
  refine bd ?_
  refine rPe T hS [] [(35,B (decide (jo < (lN ac))))] fun a hS=>?_
  refine aF hS (b:=decide (jo < (lN ac))) kr (fun hb=>?_) fun hb=>?_
  ·replace hm:=hm.1 hb
   refine aL (bd ?_)
   refine aN ?_
   refine b5 (fun a w=>∃ (Z:Nat->Nat) (X:Nat->Nat) (Cj:Bool),VC13_J5 Q I3 μ3 jo Cj/\St Tryz.f13.ntmps ⟨[(0,Sl a1 objects c1),(2,Sl a3 ac c3),(9,Sl ci a8.1 ce),(10,Sl d6 a8.2 d5),(11,I jo),(53,B Cj)],[]⟩ Z a w X/\Old w0 X0 w X/\RS az w X a1 objects c1/\RS ar w X a3 ac c3/\RS ao w X ci a8.1 ce/\RS tI w X d6 a8.2 d5) ?_ ?_
   ·refine region ?_
    refine oPe T hS 2 [35] [(38,Sl a3 ac c3),(39,I jo)] fun a hS=>?_
    obtain ⟨hq,hm⟩:=hm
    refine op1 (index (e:=56) (k:=.i64) T hS kr kr kr kr h210 kr kr hq.1 hq.2 ?_)
    intro LX a h220 hS
    refine op1 (fc (off:=0) (fsz:=1) (ft:=3) (TF:=tI) (y:=(gi ac jo).Oper) T hS kr kr kr h220 kr kr kr (fun cs h=>fw h) ?_)
    intro Qd a h222 hS
    refine op1 (eC T hS kr kr kr h222 rfl kr ?_)
    intro v223 a hv hS
    cases hv
    refine oPe T hS 2 [38,39,40,41,42] [(44,B (decide (((gi ac jo).Oper) < 0)))] fun a hS=>?_
    rcases bft (decide (((gi ac jo).Oper) < 0)) with hb | hb
    ·replace hS:=hS.lit (t:=44) kr hb
     replace hm:=hm.1 hb
     refine ePe T hS [44] [(53,B true)] fun a hS=>?_
     exact ⟨Z,_,true,hm,hS.sl _,hO,h209,h210,h211,h212⟩
    replace hS:=hS.lit (t:=44) kr hb
    replace hm:=hm.2 hb
    refine oPe T hS 2 [] [(45,Sl a3 ac c3),(46,I jo)] fun a hS=>?_
    obtain ⟨hq,hm⟩:=hm
    refine op1 (index (e:=56) (k:=.i64) T hS kr kr kr kr h210 kr kr hq.1 hq.2 ?_)
    intro Qb a h225 hS
    refine op1 (fc (off:=0) (fsz:=1) (ft:=3) (TF:=tI) (y:=(gi ac jo).Oper) T hS kr kr kr h225 kr kr kr (fun cs h=>fw h) ?_)
    intro P9 a h227 hS
    refine op1 (eC T hS kr kr kr h227 rfl kr ?_)
    intro v228 a hv hS
    cases hv
    refine ePe T hS [44,45,46,47,48,49] [(53,B (decide (((gi ac jo).Oper)≥(lN a8.1))))] fun a hS=>?_
    exact ⟨Z,_,decide (((gi ac jo).Oper)≥(lN a8.1)),hm,hS.sl _,hO,h209,h210,h211,h212⟩
   rintro a Ja ⟨Z,PI,Cj,hm,hS,hO,h214,h215,h216,h217⟩
   unfold VC13_J5 at hm
   refine aF hS (b:=Cj) kr (fun hb=>?_) fun hb=>?_
   ·replace hm:=hm.1 hb
    refine rPe T hS [0,2,9,10,11,53] [(6,B false)] fun a hS=>?_
    refine aZ ?_
    exact fin T hS hO (fun c=>c) rfl (r:=[.bool false]) kr (fun X' hM hC=>⟨false,hm,rfl⟩)
   replace hm:=hm.2 hb
   refine aL ?_
   refine region (ePe T hS [53] [(11,I (wR (jo+1)))] fun a hS=>?_)
   exact ⟨wR (jo+1),⟨Z,_,hm.1,hS.sl _,hO,h214,h215,h216,h217⟩,hm.2⟩
  replace hm:=hm.2 hb
  refine cl (by rfl) ?_
  exact ⟨Z,_,hm,hS.sl _,hO,h209,h210,h211,h212⟩
 rintro a Np ⟨Z,PG,hm,hS,hO,h115,h116,h117,h118⟩
 unfold VC13_J1 at hm
 refine b5 (fun a w=>∃ Z X,VC13_J2 ac Q a8/\St Tryz.f13.ntmps ⟨[(2,Sl a3 ac c3),(9,Sl ci a8.1 ce)],[]⟩ Z a w X/\Old w0 X0 w X/\RS ar w X a3 ac c3/\RS ao w X ci a8.1 ce) ?_ ?_
 ·refine rPe T hS [] [(12,I 0)] fun a hS=>?_
  refine aN ?_
  obtain ⟨I1,μ1,cy,hm⟩:=hm
  refine cw (σ:=Int) (fun s a w=>∃ Z X,I1 s/\St Tryz.f13.ntmps ⟨[(0,Sl a1 objects c1),(2,Sl a3 ac c3),(9,Sl ci a8.1 ce),(10,Sl d6 a8.2 d5),(12,I s)],[]⟩ Z a w X/\Old w0 X0 w X/\RS az w X a1 objects c1/\RS ar w X a3 ac c3/\RS ao w X ci a8.1 ce/\RS tI w X d6 a8.2 d5) (fun s=>μ1 s) (0) ?_ ?_
  ·exact ⟨Z,_,cy,hS.sl _,hO,h115,h116,h117,h118⟩
  rintro jq a Jc ⟨Z,LD,hI,hS,hO,h132,h133,h134,h135⟩
  replace hm:=hm jq hI
  clear hI cy
  refine bd ?_
  refine rPe T hS [] [(57,B (decide (jq < (lN objects))))] fun a hS=>?_
  refine aF hS (b:=decide (jq < (lN objects))) kr (fun hb=>?_) fun hb=>?_
  ·replace hm:=hm.1 hb
   refine aL (bd ?_)
   refine aN ?_
   refine rPe T hS [57] [(13,V (.slice none 0 0))] fun a hS=>?_
   refine b5 (fun a w=>∃ (Z:Nat->Nat) (X:Nat->Nat) (iV:List aa) (jO:Option Addr) (jK:Nat),VC13_J3 objects Q a8 I1 μ1 jq iV/\St Tryz.f13.ntmps ⟨[(0,Sl a1 objects c1),(2,Sl a3 ac c3),(9,Sl ci a8.1 ce),(10,Sl d6 a8.2 d5),(12,I jq),(13,Sl jO iV jK)],[]⟩ Z a w X/\Old w0 X0 w X/\RS az w X a1 objects c1/\RS ar w X a3 ac c3/\RS ao w X ci a8.1 ce/\RS tI w X d6 a8.2 d5/\OS ar 56 w X 1014 jO iV jK) ?_ ?_
   ·refine rPe T hS [] [(14,I 0)] fun a hS=>?_
    refine aN ?_
    obtain ⟨I2,μ2,cy,hm⟩:=hm
    refine cw (σ:=(List aa) × Int) (fun s a w=>∃ Z X vu vi,I2 s.1 s.2/\St Tryz.f13.ntmps ⟨[(0,Sl a1 objects c1),(2,Sl a3 ac c3),(9,Sl ci a8.1 ce),(10,Sl d6 a8.2 d5),(12,I jq),(13,Sl vu s.1 vi),(14,I s.2)],[]⟩ Z a w X/\Old w0 X0 w X/\RS az w X a1 objects c1/\RS ar w X a3 ac c3/\RS ao w X ci a8.1 ce/\RS tI w X d6 a8.2 d5/\OS ar 56 w X 1014 vu s.1 vi) (fun s=>μ2 s.1 s.2) (⟨[],0⟩) ?_ ?_
    ·exact ⟨Z,_,none,0,cy,hS.sl _,hO,h132,h133,h134,h135,(OS.nil _ _ _ _ _)⟩
    rintro ⟨tM,iU⟩ a Je ⟨Z,LH,vu,vi,hI,hS,hO,h162,h163,h164,h165,h169⟩
    replace hm:=hm tM iU hI
    clear hI cy
    refine bd ?_
    refine rPe T hS [] [(63,B (decide (iU < (lN ac))))] fun a hS=>?_
    refine aF hS (b:=decide (iU < (lN ac))) kr (fun hb=>?_) fun hb=>?_
    ·replace hm:=hm.1 hb
     refine aL ?_
     refine b5 (fun a w=>∃ (Z:Nat->Nat) (X:Nat->Nat) (kV:List aa) (nb:Option Addr) (m7:Nat),VC13_J4 I2 μ2 tM iU kV/\St Tryz.f13.ntmps ⟨[(0,Sl a1 objects c1),(2,Sl a3 ac c3),(9,Sl ci a8.1 ce),(10,Sl d6 a8.2 d5),(12,I jq),(13,Sl nb kV m7),(14,I iU)],[]⟩ Z a w X/\Old w0 X0 w X/\RS az w X a1 objects c1/\RS ar w X a3 ac c3/\RS ao w X ci a8.1 ce/\RS tI w X d6 a8.2 d5/\OS ar 56 w X 1014 nb kV m7) ?_ ?_
     ·refine aN ?_
      refine bn ?_
      refine oPe T hS 3 [63] [(66,Sl d6 a8.2 d5),(67,Sl a3 ac c3),(68,I iU)] fun a hS=>?_
      obtain ⟨hq,hm⟩:=hm
      refine op1 (index (e:=56) (k:=.i64) T hS kr kr kr kr h163 kr kr hq.1 hq.2 ?_)
      intro Qx a h180 hS
      refine op1 (fc (off:=0) (fsz:=1) (ft:=3) (TF:=tI) (y:=(gi ac iU).Oper) T hS kr kr kr h180 kr kr kr (fun cs h=>fw h) ?_)
      intro LY a h182 hS
      refine op1 (eC T hS kr kr kr h182 rfl kr ?_)
      intro v183 a hv hS
      cases hv
      obtain ⟨hq,hm⟩:=hm
      refine op1 (index (e:=3) (k:=.i64) T hS kr kr kr kr h165 kr kr hq.1 hq.2 ?_)
      intro Qv a h185 hS
      refine op1 (eC T hS kr kr kr h185 rfl kr ?_)
      intro v186 a hv hS
      cases hv
      refine ePe T hS [66,67,68,69,70,71,72,73] [(75,B ((gi a8.2 ((gi ac iU).Oper)) == jq))] fun a hS=>?_
      refine aF hS (b:=((gi a8.2 ((gi ac iU).Oper)) == jq)) kr (fun hb=>?_) fun hb=>?_
      ·replace hm:=hm.1 hb
       refine region ?_
       refine oPe T hS 3 [75] [(76,Sl vu tM vi),(77,Sl a3 ac c3),(78,I iU)] fun a hS=>?_
       obtain ⟨hq,hm⟩:=hm
       refine op1 (index (e:=56) (k:=.i64) T hS kr kr kr kr h163 kr kr hq.1 hq.2 ?_)
       intro Qs a h188 hS
       refine op1 (eB T hS kr kr kr h188 kr kr ?_)
       intro v189 a hv hS
       subst hv
       refine op1 (lit (E:=56) (col:=0) (T:=ar) (vals:=[.agg #[.int .i64 ((gi ac iU).Oper),.int .i64 ((gi ac iU).Result)]]) (ys:=[gi ac iU]) T hS kr kr kr kr (by exact ⟨rfl,trivial⟩) rfl kr kr kr kr ?_)
       intro b190 a GA It hE h193 hN hS
       clear hN
       replace hO:=hO.m2 hE
       replace h162:=h162.m1 hE
       replace h163:=h163.m1 hE
       replace h164:=h164.m1 hE
       replace h165:=h165.m1 hE
       replace h169:=h169.m2 hE
       replace h188:=h188.m1 hE
       replace h193:=h193.rs0
       obtain ⟨hq,hm⟩:=hm
       obtain ⟨news,hN⟩:=h193.src
       refine op1 (append (E:=56) (T:=ar) (col:=1014) (xs:=tM) T hS kr kr kr kr h169 hN kr kr kr kr hq ?_)
       intro na m6 a Jg LI hE h196 hS
       clear hq hN
       clear h169
       replace hO:=hO.m2 hE
       replace h162:=h162.m1 hE
       replace h163:=h163.m1 hE
       replace h164:=h164.m1 hE
       replace h165:=h165.m1 hE
       replace h188:=h188.m1 hE
       replace h193:=h193.m1 hE
       refine ePe T hS [77,78,79,80,81,82] [(13,Sl na (tM++[gi ac iU]) m6)] fun a hS=>?_
       exact ⟨Z,_,tM++[gi ac iU],na,m6,hm,hS.sl _,hO,h162,h163,h164,h165,h196⟩
      replace hm:=hm.2 hb
      refine aL ?_
      exact ⟨Z,_,tM,vu,vi,hm,hS.sl _,hO,h162,h163,h164,h165,h169⟩
     rintro a Jf ⟨Z,Is,kV,nb,m7,hm,hS,hO,h171,h172,h173,h174,h178⟩
     unfold VC13_J4 at hm
     refine region (ePe T hS [] [(14,I (wR (iU+1)))] fun a hS=>?_)
     exact ⟨⟨kV,wR (iU+1)⟩,⟨Z,_,nb,m7,hm.1,hS.sl _,hO,h171,h172,h173,h174,h178⟩,hm.2⟩
    replace hm:=hm.2 hb
    refine cl (by rfl) ?_
    exact ⟨Z,_,tM,vu,vi,hm,hS.sl _,hO,h162,h163,h164,h165,h169⟩
   rintro a Jd ⟨Z,LF,iV,jO,jK,hm,hS,hO,h137,h138,h139,h140,h144⟩
   unfold VC13_J3 at hm
   refine dq [] mixed hS ?_
   intro Cw zV hS hE hD hH
   replace hO:=hO.m2 hE
   replace h137:=h137.m1 hE
   replace h138:=h138.m1 hE
   replace h139:=h139.m1 hE
   replace h140:=h140.m1 hE
   replace h144:=h144.m2 hE
   refine tke T [0,1,4,5,6,10] [] hS hH #[true,true,false,false,true,true,true,false,false,false,true,false,false,false,false,false,false,false,false] 13 [13] [(84,Sl a1 objects c1),(85,I jq),(88,Sl ci a8.1 ce),(89,Sl a1 objects c1),(90,I jq),(94,Sl jO iV jK)] fun a hS=>?_
   obtain ⟨hq,hm⟩:=hm
   refine c6 (e:=48) (k:=.i64) T 2 hS kr kr kr (by rfl) kr hH kr kr h137 kr kr hq.1 hq.2 ?_
   intro QF a h148 hS
   have HE:=h148.here
   refine ku T 3 hS kr kr kr (by rfl) kr hH kr h148 HE kr kr ?_
   intro v149 a hv hS
   obtain ⟨tC,tu,hv,h152⟩:=hv
   subst hv
   replace hm:=hm (h152.sm kr)
   obtain ⟨hq,hm⟩:=hm
   refine c6 (e:=48) (k:=.i64) T 7 hS kr kr kr (by rfl) kr hH kr kr h137 kr kr hq.1 hq.2 ?_
   intro IJ a h154 hS
   have Bn:=h154.here
   refine dh (off:=2) (fsz:=1) (ft:=3) (TF:=tI) (y:=(gi objects jq).aE) 8 T hS kr kr kr (by rfl) kr hH kr h154 kr kr kr (fun cs h=>re h) ?_
   intro II a h156 fv hS
   have uN:=Bn
   rw [← fv] at uN
   clear fv
   refine dF T 9 hS kr kr kr (by rfl) kr hH kr h156 uN rfl kr ?_
   intro v157 a hv hS
   cases hv
   refine only 11 kr (by rfl) (call hS kr kr hb36 kr (fun _ _=>rfl) (Ret.mI (Km _ (eu 1014 _) (gi objects jq) a8.1 ((gi objects jq).aE) iV tC tu ci ce jO jK (h152.m0 (M0.eu 1014)) (h139.m0 (M0.eu 1014)) h144.eu)) ?_)
   intro v158 a yz Dw hE hp hS
   replace hO:=hO.m2 hE
   replace hD:=hD.ev hE rfl
   replace h137:=h137.m1 hE
   replace h138:=h138.m1 hE
   replace h139:=h139.m1 hE
   replace h140:=h140.m1 hE
   replace h144:=h144.m2 hE
   replace h148:=h148.m1 hE
   replace h152:=h152.m1 hE
   replace h154:=h154.m1 hE
   replace h156:=h156.m1 hE
   obtain ⟨_,hp⟩:=hp
   obtain ⟨uk,hr⟩:∃ r,cH (gi objects jq) a8.1 ((gi objects jq).aE) iV=r:=⟨_,rfl⟩
   replace hm:=hm uk hr
   rw [hr] at hp
   clear hr
   subst hp
   refine cV (bI.of hS (bks:=[]) kr hD) ?_
   intro hH
   refine tke T [12,13,14,15,16,17,18] [] hS hH (tts 19) 0 [84,85,88,89,90,94,86,87,91,92,93,95] [(17,I uk.2.2)] fun a hS=>?_
   refine aV kr ?_
   replace hS:=hS.sle [] []
   refine rPe T hS [17] [(100,B (uk.2.2 != 0))] fun a hS=>?_
   refine aF hS (b:=(uk.2.2 != 0)) kr (fun hb=>?_) fun hb=>?_
   ·replace hm:=hm.1 hb
    refine rPe T hS [0,2,9,10,12,100] [(6,B false)] fun a hS=>?_
    refine aZ ?_
    exact fin T hS hO (fun c=>c) rfl (r:=[.bool false]) kr (fun X' hM hC=>⟨false,hm,rfl⟩)
   replace hm:=hm.2 hb
   refine aL ?_
   refine region (ePe T hS [100] [(12,I (wR (jq+1)))] fun a hS=>?_)
   exact ⟨wR (jq+1),⟨Z,_,hm.1,hS.sl _,hO,h137,h138,h139,h140⟩,hm.2⟩
  replace hm:=hm.2 hb
  refine cl (by rfl) ?_
  exact ⟨Z,_,hm,hS.sl _,hO,h133,h134⟩
 rintro a NB ⟨Z,LB,hm,hS,hO,h119,h120⟩
 unfold VC13_J2 at hm
 refine bn ?_
 refine oPe T hS 2 [] [(101,Sl ci a8.1 ce),(102,Sl a3 ac c3)] fun a hS=>?_
 refine op1 (call hS kr kr hb37 kr (fun _ _=>rfl) (Kl _ _ a8.1 ac ci ce a3 c3 h120 h119) ?_)
 intro v121 a tR tE hE hp hS
 replace hO:=hO.m2 hE
 replace h119:=h119.m1 hE
 replace h120:=h120.m1 hE
 obtain ⟨dv,hr⟩:∃ r,ea a8.1 ac=r:=⟨_,rfl⟩
 replace hm:=hm dv hr
 rw [hr] at hp
 clear hr
 subst hp
 refine oPe T hS 2 [101,102,103] [(105,B (decide (dv < 0)))] fun a hS=>?_
 rcases bft (decide (dv < 0)) with hb | hb
 ·replace hS:=hS.lit (t:=105) kr hb
  replace hm:=hm.1 hb
  refine oPe T hS 2 [2,9] [(106,Sl ci a8.1 ce),(107,Sl a3 ac c3)] fun a hS=>?_
  obtain ⟨hq,hm⟩:=hm
  refine op1 (call hS kr kr hb38 kr (fun _ _=>rfl) (Kk _ _ a8.1 ac false ci ce a3 c3 hq h120 h119) ?_)
  intro v125 a tQ qR hE hp hS
  replace hO:=hO.m2 hE
  replace h119:=h119.m1 hE
  replace h120:=h120.m1 hE
  obtain ⟨lj,li,hp,h131⟩:=hp
  obtain ⟨bO,hr⟩:∃ r,eF a8.1 ac false=r:=⟨_,rfl⟩
  replace hm:=hm bO hr
  rw [hr] at hp h131
  clear hr
  subst hp
  replace hm:=hm (h131.sm kr)
  refine ePe T hS [105,106,107,108] [(6,B ((lN bO) == 0))] fun a hS=>?_
  refine aZ ?_
  exact fin T hS hO (fun c=>c) rfl (r:=[.bool ((lN bO) == 0)]) kr (fun X' hM hC=>⟨((lN bO) == 0),hm,rfl⟩)
 replace hS:=hS.lit (t:=105) kr hb
 replace hm:=hm.2 hb
 refine ePe T hS [2,9,105] [(6,B false)] fun a hS=>?_
 refine aZ ?_
 exact fin T hS hO (fun c=>c) rfl (r:=[.bool false]) kr (fun X' hM hC=>⟨false,hm,rfl⟩)
theorem C13 (G8:S16) (Fh:S28) (Km:S36) (Kl:S37) (Kk:S38) (v:∀ (objects:List al) (l_:List aH) (ac:List aa),xt objects l_ ac->VC13 objects l_ ac (fun r=>r=fq objects l_ ac)):S13:=by
 intro w X objects l_ ac a1 c1 a2 c2 a3 c3   hp h1 h2 h3
 refine (W13 G8 Fh Km Kl Kk w X objects l_ ac a1 c1 a2 c2 a3 c3   _ (v objects l_ ac hp) h1 h2 h3).mono ?_
 rintro _ _ _ _ ⟨r,rfl,h⟩
 exact h
theorem W27 (w0) (X0) (Q:al->Prop) (hm:VC27 Q) :
  Ret Tryz.prog 27 #[] aJ w0 X0 (fun w X' v=>∃ r,Q r/\∃ cB cA,v=.agg #[.int .i64 r.aq,.int .i64 r.ax,.int .i64 r.aE,.slice cB r.Rows.length cA]/\RS ay w X' cB r.Rows cA):=by
 unfold VC27 at hm
 refine enter Tryz.func27 rfl (vals:=[]) kr ?_
 intro Z a hS hO hM
 refine rM T hS ⟨[(0,Pt 1 0)],[(1,(48,[I 0,I 0,I 0,V (.slice none 0 0)]))]⟩ fun Z a pu oG hS hE hr=>?_
 replace hO:=hO.m2 hE
 clear hE hr
 refine bn ?_
 refine oPe T hS 4 [] [(1,V (.agg #[.int .i64 0,.int .i64 0,.int .i64 1,.int .i64 0])),(2,V (.agg #[.int .i64 0,.int .i64 1,.int .i64 0,.int .i64 0])),(3,V (.agg #[.int .i64 1,.int .i64 0,.int .i64 1,.int .i64 0])),(4,V (.agg #[.int .i64 1,.int .i64 1,.int .i64 1,.int .i64 1]))] fun a hS=>?_
 refine op1 (lit (E:=107) (col:=0) (T:=ay) (vals:=[.agg #[.int .i64 0,.int .i64 0,.int .i64 1,.int .i64 0],.agg #[.int .i64 0,.int .i64 1,.int .i64 0,.int .i64 0],.agg #[.int .i64 1,.int .i64 0,.int .i64 1,.int .i64 0],.agg #[.int .i64 1,.int .i64 1,.int .i64 1,.int .i64 1]]) (ys:=[(⟨0,0,1,0⟩:a9),(⟨0,1,0,0⟩:a9),(⟨1,0,1,0⟩:a9),(⟨1,1,1,1⟩:a9)]) T hS kr kr kr kr (by exact ⟨rfl,rfl,rfl,rfl,trivial⟩) rfl kr kr kr kr ?_)
 intro b101 a fh fo hE h104 hN hS
 clear hN
 replace hO:=hO.m2 hE
 replace h104:=h104.rs0
 refine eM T hS ⟨[(0,Pt 1 0)],[(1,(48,[I 2,I 2,I 0,Sl (some ⟨b101,0,none⟩) [(⟨0,0,1,0⟩:a9),(⟨0,1,0,0⟩:a9),(⟨1,0,1,0⟩:a9),(⟨1,1,1,1⟩:a9)] 4]))]⟩ fun Z a mH lB hS hE hr=>?_
 replace hO:=hO.m2 hE
 replace h104:=h104.m1 hE
 clear hE hr
 refine aZ ?_
 exact fin T hS hO (fun c=>c) rfl (r:=[.agg #[.int .i64 2,.int .i64 2,.int .i64 0,.slice (some ⟨b101,0,none⟩) [(⟨0,0,1,0⟩:a9),(⟨0,1,0,0⟩:a9),(⟨1,0,1,0⟩:a9),(⟨1,1,1,1⟩:a9)].length 4]]) kr (fun X' hM hC=>⟨(⟨2,2,0,[(⟨0,0,1,0⟩:a9),(⟨0,1,0,0⟩:a9),(⟨1,0,1,0⟩:a9),(⟨1,1,1,1⟩:a9)]⟩:al),hm,(some ⟨b101,0,none⟩),4,rfl,h104.m0 hM⟩)
theorem C27 (v:∀ (_:Unit),VC27 (fun r=>r=dm)):S27:=by
 intro w X     
 refine (W27 w X     _ (v ())).mono ?_
 rintro _ _ _ _ ⟨r,rfl,h⟩
 exact h
theorem W22 (DL:S27) (w0) (X0) (object:Int) (cz) (Q:aj->Prop) (hm:VC22 object Q) :
  Ret Tryz.prog 22 #[.int .i64 object] aJ w0 X0 (fun w X' v=>∃ r,Q r/\∃ cB cA iE iD,v=.agg #[.slice cB r.ae.length cA,.slice iE r.ak.length iD]/\RS az w X' cB r.ae cA/\OS aI 63 w X' cz iE r.ak iD):=by
 unfold VC22 at hm
 refine enter Tryz.func22 rfl (vals:=[.int .i64 object]) kr ?_
 intro Z a hS hO hM
 refine rM T hS ⟨[(0,I object),(2,Pt 3 0)],[(3,(25,[V (.slice none 0 0),V (.slice none 0 0)]))]⟩ fun Z a yE wX hS hE hr=>?_
 replace hO:=hO.m2 hE
 clear hE hr
 refine bn ?_
 refine op1 (call hS kr kr hb27 kr (fun _ _=>rfl) (DL _ _) ?_)
 intro v101 a fh fo hE hp hS
 replace hO:=hO.m2 hE
 obtain ⟨dQ,dP,hp,h107⟩:=hp
 obtain ⟨av,hr⟩:∃ r,dm=r:=⟨_,rfl⟩
 replace hm:=hm av hr
 rw [hr] at hp h107
 clear hr
 subst hp
 replace hm:=hm (h107.sm kr)
 refine op1 (call hS kr kr hb27 kr (fun _ _=>rfl) (DL _ _) ?_)
 intro v108 a pm rc hE hp hS
 replace hO:=hO.m2 hE
 replace h107:=h107.m1 hE
 obtain ⟨d6,d5,hp,h114⟩:=hp
 obtain ⟨bA,hr⟩:∃ r,dm=r:=⟨_,rfl⟩
 replace hm:=hm bA hr
 rw [hr] at hp h114
 clear hr
 subst hp
 replace hm:=hm (h114.sm kr)
 refine op1 (lit (E:=48) (col:=0) (T:=az) (vals:=[.agg #[.int .i64 av.aq,.int .i64 av.ax,.int .i64 av.aE,.slice dQ av.Rows.length dP],.agg #[.int .i64 bA.aq,.int .i64 bA.ax,.int .i64 bA.aE,.slice d6 bA.Rows.length d5]]) (ys:=[av,bA]) T hS kr kr kr kr (by exact ⟨⟨dQ,dP,rfl,h107⟩,⟨d6,d5,rfl,h114⟩,trivial⟩) rfl kr kr kr kr ?_)
 intro b115 a tS wZ hE h118 hN hS
 clear hN
 replace hO:=hO.m2 hE
 replace h107:=h107.m1 hE
 replace h114:=h114.m1 hE
 replace h118:=h118.rs0
 refine oPe T hS 10 [0,3,4] [(7,V (.agg #[.int .i64 0,.int .i64 1,.int .i64 1,.int .i64 0])),(10,V (.agg #[.int .i64 object,.int .i64 1,.int .i64 2,.int .i64 1])),(12,V (.agg #[.int .i64 0,.int .i64 2,.int .i64 1,.int .i64 0])),(15,V (.agg #[.int .i64 object,.int .i64 2,.int .i64 2,.int .i64 1]))] fun a hS=>?_
 refine op1 (lit (E:=63) (col:=1017) (T:=aI) (vals:=[.agg #[.int .i64 0,.int .i64 1,.int .i64 1,.int .i64 0],.agg #[.int .i64 object,.int .i64 1,.int .i64 2,.int .i64 1],.agg #[.int .i64 0,.int .i64 2,.int .i64 1,.int .i64 0],.agg #[.int .i64 object,.int .i64 2,.int .i64 2,.int .i64 1]]) (ys:=[(⟨0,(⟨1,1,0⟩:au)⟩:aR),(⟨object,(⟨1,2,1⟩:au)⟩:aR),(⟨0,(⟨2,1,0⟩:au)⟩:aR),(⟨object,(⟨2,2,1⟩:au)⟩:aR)]) T hS kr kr kr kr (by exact ⟨rfl,rfl,rfl,rfl,trivial⟩) rfl kr kr kr kr ?_)
 intro b119 a Ae Dz hE h122 hN hS
 clear hN
 replace hO:=hO.m2 hE
 replace h118:=h118.m1 hE
 refine eM T hS ⟨[(2,Pt 3 0)],[(3,(25,[Sl (some ⟨b115,0,none⟩) [av,bA] 2,Sl (some ⟨b119,0,none⟩) [(⟨0,(⟨1,1,0⟩:au)⟩:aR),(⟨object,(⟨1,2,1⟩:au)⟩:aR),(⟨0,(⟨2,1,0⟩:au)⟩:aR),(⟨object,(⟨2,2,1⟩:au)⟩:aR)] 4]))]⟩ fun Z a EI wY hS hE hr=>?_
 replace hO:=hO.m2 hE
 replace h118:=h118.m1 hE
 replace h122:=h122.m2 hE
 clear hE hr
 refine aZ ?_
 exact fin T hS hO (zAg0 cz) rfl (r:=[.agg #[.slice (some ⟨b115,0,none⟩) [av,bA].length 2,.slice (some ⟨b119,0,none⟩) [(⟨0,(⟨1,1,0⟩:au)⟩:aR),(⟨object,(⟨1,2,1⟩:au)⟩:aR),(⟨0,(⟨2,1,0⟩:au)⟩:aR),(⟨object,(⟨2,2,1⟩:au)⟩:aR)].length 4]]) kr (fun X' hM hC=>⟨(⟨[av,bA],[(⟨0,(⟨1,1,0⟩:au)⟩:aR),(⟨object,(⟨1,2,1⟩:au)⟩:aR),(⟨0,(⟨2,1,0⟩:au)⟩:aR),(⟨object,(⟨2,2,1⟩:au)⟩:aR)]⟩:aj),hm,(some ⟨b115,0,none⟩),2,(some ⟨b119,0,none⟩),4,rfl,h118.m0 hM,(OS.out (f:=(zAg0 cz)) h122 hM hC kr)⟩)
theorem C22 (DL:S27) (v:∀ (object:Int),VC22 object (fun r=>r=cr object)):S22:=by
 intro w X object  cz  
 refine (W22 DL w X object  cz  _ (v object)).mono ?_
 rintro _ _ _ _ ⟨r,rfl,h⟩
 exact h
theorem W11 (w0) (X0) (h_:aj) (a1) (c1) (a2) (c2) (Q:(List aH)->Prop) (hm:VC11 h_ Q) (h1:RS az w0 X0 a1 h_.ae c1) (h2:RS aI w0 X0 a2 h_.ak c2) :
  Ret Tryz.prog 11 #[.agg #[.slice a1 h_.ae.length c1,.slice a2 h_.ak.length c2]] aJ w0 X0 (fun w X' v=>∃ r,Q r/\∃ cB cA,v=.slice cB r.length cA/\RS bJ w X' cB r cA):=by
 unfold VC11 at hm
 replace hm:=hm (h1.sm kr)
 replace hm:=hm (h2.sm kr)
 refine enter Tryz.func11 rfl (vals:=[.agg #[.slice a1 h_.ae.length c1,.slice a2 h_.ak.length c2]]) kr ?_
 intro Z a hS hO hM
 replace h1:=h1.m0 hM
 replace h2:=h2.m0 hM
 refine rM T hS ⟨[(1,Pt 2 0)],[(2,(25,[Sl a1 h_.ae c1,Sl a2 h_.ak c2]))]⟩ fun Z a sg vy hS hE hr=>?_
 replace hO:=hO.m2 hE
 replace h1:=h1.m1 hE
 replace h2:=h2.m1 hE
 clear hE hr
 refine rPe T hS [] [(3,V (.slice none 0 0))] fun a hS=>?_
 refine b5 (fun a w=>∃ (Z:Nat->Nat) (X:Nat->Nat) (bv:List aH) (dk:Option Addr) (dj:Nat),VC11_J1 Q bv/\St Tryz.f11.ntmps ⟨[(3,Sl dk bv dj)],[]⟩ Z a w X/\Old w0 X0 w X/\OS bJ 77 w X 1003 dk bv dj) ?_ ?_
 ·refine rPe T hS [] [(4,I 0)] fun a hS=>?_
  refine aN ?_
  obtain ⟨I1,μ1,cy,hm⟩:=hm
  refine cw (σ:=(List aH) × Int) (fun s a w=>∃ Z X iC iB,I1 s.1 s.2/\St Tryz.f11.ntmps ⟨[(1,Pt 2 0),(3,Sl iC s.1 iB),(4,I s.2)],[(2,(25,[Sl a1 h_.ae c1,Sl a2 h_.ak c2]))]⟩ Z a w X/\Old w0 X0 w X/\OS bJ 77 w X 1003 iC s.1 iB/\RS az w X a1 h_.ae c1/\RS aI w X a2 h_.ak c2) (fun s=>μ1 s.1 s.2) (⟨[],0⟩) ?_ ?_
  ·exact ⟨Z,_,none,0,cy,hS.sl _,hO,(OS.nil _ _ _ _ _),h1,h2⟩
  rintro ⟨gB,dl⟩ a sh ⟨Z,wW,iC,iB,hI,hS,hO,h110,h112,h113⟩
  replace hm:=hm gB dl hI
  clear hI cy
  refine bd ?_
  refine rPe T hS [] [(9,B (decide (dl < (lN h_.ak))))] fun a hS=>?_
  refine aF hS (b:=decide (dl < (lN h_.ak))) kr (fun hb=>?_) fun hb=>?_
  ·replace hm:=hm.1 hb
   refine aL (bd ?_)
   refine aN ?_
   refine gH [2] mixed hS ?_
   intro GL DB hS hE hD hH
   replace hO:=hO.m2 hE
   replace h110:=h110.m2 hE
   replace h112:=h112.m1 hE
   replace h113:=h113.m1 hE
   refine tke T [0,1,3,7,9,2,8] [2] hS hH #[true,true,true,true,false,false,false,true,true,true,false,false,false,false,false,false,false] 10 [] [(12,Sl iC gB iB),(14,Sl a2 h_.ak c2),(15,I dl),(20,Sl a2 h_.ak c2),(21,I dl)] fun a hS=>?_
   obtain ⟨hq,hm⟩:=hm
   refine c6 (e:=63) (k:=.i64) T 4 hS kr kr kr (by rfl) kr hH kr kr h113 kr kr hq.1 hq.2 ?_
   intro Ge a h117 hS
   have nJ:=h117.here
   refine dh (off:=0) (fsz:=1) (ft:=3) (TF:=tI) (y:=(gi h_.ak dl).aw) 5 T hS kr kr kr (by rfl) kr hH kr h117 kr kr kr (fun cs h=>jR h) ?_
   intro Gd a h119 fv hS
   have uP:=nJ
   rw [← fv] at uP
   clear fv
   refine dF T 6 hS kr kr kr (by rfl) kr hH kr h119 uP rfl kr ?_
   intro v120 a hv hS
   cases hv
   obtain ⟨hq,hm⟩:=hm
   refine c6 (e:=63) (k:=.i64) T 10 hS kr kr kr (by rfl) kr hH kr kr h113 kr kr hq.1 hq.2 ?_
   intro Gc a h122 hS
   have Bp:=h122.here
   refine dh (off:=1) (fsz:=3) (ft:=61) (TF:=aO) (y:=(gi h_.ak dl).aK) 11 T hS kr kr kr (by rfl) kr hH kr h122 kr kr kr (fun cs h=>lX h) ?_
   intro DC a h124 fv hS
   have qu:=Bp
   rw [← fv] at qu
   clear fv
   refine ku T 12 hS kr kr kr (by rfl) kr hH kr h124 qu kr kr ?_
   intro v125 a hv hS
   subst hv
   refine tke T [13] [2] hS hH #[true,true,true,true,true,true,true,true,true,true,true,true,true,true,false,false,false] 3 [14,15,20,21,16,17,18,22,23,24] [(25,V (.agg #[.int .i64 ((gi h_.ak dl).aw),.int .i64 (((gi h_.ak dl).aK).bh),.int .i64 (((gi h_.ak dl).aK).ah),.int .i64 (((gi h_.ak dl).aK).N)]))] fun a hS=>?_
   refine only 14 kr (by rfl) (lit (E:=77) (col:=0) (T:=bJ) (vals:=[.agg #[.int .i64 ((gi h_.ak dl).aw),.int .i64 (((gi h_.ak dl).aK).bh),.int .i64 (((gi h_.ak dl).aK).ah),.int .i64 (((gi h_.ak dl).aK).N)]]) (ys:=[(⟨(gi h_.ak dl).aw,((gi h_.ak dl).aK)⟩:aH)]) T hS kr kr kr kr (by exact ⟨rfl,trivial⟩) rfl kr kr kr kr ?_)
   intro b126 a si zY hE h129 hN hS
   clear hN
   replace hO:=hO.m2 hE
   replace hD:=hD.ev hE rfl
   replace h110:=h110.m2 hE
   replace h112:=h112.m1 hE
   replace h113:=h113.m1 hE
   replace h117:=h117.m1 hE
   replace h119:=h119.m1 hE
   replace h122:=h122.m1 hE
   replace h124:=h124.m1 hE
   replace h129:=h129.rs0
   refine cV (bI.of hS (bks:=[2]) kr hD) ?_
   intro hH
   obtain ⟨hq,hm⟩:=hm
   obtain ⟨news,hN⟩:=h129.src
   refine only 15 kr (by rfl) (append (E:=77) (T:=bJ) (col:=1003) (xs:=gB) T hS kr kr kr kr h110 hN kr kr kr kr hq ?_)
   intro oE oA a tP BZ hE h132 hS
   clear hq hN
   clear h110
   replace hO:=hO.m2 hE
   replace hD:=hD.ev hE rfl
   replace h112:=h112.m1 hE
   replace h113:=h113.m1 hE
   replace h117:=h117.m1 hE
   replace h119:=h119.m1 hE
   replace h122:=h122.m1 hE
   replace h124:=h124.m1 hE
   replace h129:=h129.m1 hE
   replace hS:=hS.sle [3,12] [(27,Sl oE (gB++[(⟨(gi h_.ak dl).aw,((gi h_.ak dl).aK)⟩:aH)]) oA)]
   refine cV (bI.of hS (bks:=[2]) kr hD) ?_
   intro hH
   refine tke T [16] [2] hS hH (tts 17) 0 [25,26,27] [(3,Sl oE (gB++[(⟨(gi h_.ak dl).aw,((gi h_.ak dl).aK)⟩:aH)]) oA)] fun a hS=>?_
   refine aV kr ?_
   replace hS:=hS.sle [] []
   refine region (ePe T hS [] [(4,I (wR (dl+1)))] fun a hS=>?_)
   exact ⟨⟨gB++[(⟨(gi h_.ak dl).aw,((gi h_.ak dl).aK)⟩:aH)],wR (dl+1)⟩,⟨Z,_,oE,oA,hm.1,hS.sl _,hO,h132,h112,h113⟩,hm.2⟩
  replace hm:=hm.2 hb
  refine cl (by rfl) ?_
  exact ⟨Z,_,gB,iC,iB,hm,hS.sl _,hO,h110⟩
 rintro a Cy ⟨Z,vz,bv,dk,dj,hm,hS,hO,h104⟩
 unfold VC11_J1 at hm
 refine rPe T hS [3] [(2,Sl dk bv dj)] fun a hS=>?_
 refine aZ ?_
 obtain ⟨oH,hE,hF⟩:=h104.freeze (by decide)
 replace hS:=hS.ev hE (cN kr)
 replace hO:=hO.m2 hE
 have h106:=hF; clear hE hF
 exact fin T hS hO (fun c=>c) rfl (r:=[.slice dk bv.length dj]) kr (fun X' hM hC=>⟨bv,hm,dk,dj,rfl,h106.m0 hM⟩)
theorem C11 (v:∀ (h_:aj),kD h_->VC11 h_ (fun r=>r=eV h_)):S11:=by
 intro w X h_ a1 c1 a2 c2   hp h1 h2
 refine (W11 w X h_ a1 c1 a2 c2   _ (v h_ hp) h1 h2).mono ?_
 rintro _ _ _ _ ⟨r,rfl,h⟩
 exact h
theorem W7 (w0) (X0) (h_:aj) (a1) (c1) (a2) (c2) (Q:Int->Prop) (hm:VC7 h_ Q) (h1:RS az w0 X0 a1 h_.ae c1) (h2:RS aI w0 X0 a2 h_.ak c2) :
  Ret Tryz.prog 7 #[.agg #[.slice a1 h_.ae.length c1,.slice a2 h_.ak.length c2]] aJ w0 X0 (fun w X' v=>∃ r,Q r/\v=.int .i64 r):=by
 unfold VC7 at hm
 replace hm:=hm (h1.sm kr)
 replace hm:=hm (h2.sm kr)
 refine enter Tryz.func7 rfl (vals:=[.agg #[.slice a1 h_.ae.length c1,.slice a2 h_.ak.length c2]]) kr ?_
 intro Z a hS hO hM
 replace h1:=h1.m0 hM
 replace h2:=h2.m0 hM
 refine rM T hS ⟨[(1,Pt 2 0)],[(2,(25,[Sl a1 h_.ae c1,Sl a2 h_.ak c2]))]⟩ fun Z a tR tE hS hE hr=>?_
 replace hO:=hO.m2 hE
 replace h1:=h1.m1 hE
 replace h2:=h2.m1 hE
 clear hE hr
 refine rPe T hS [] [(3,I 0)] fun a hS=>?_
 refine b5 (fun a w=>∃ (Z:Nat->Nat) (X:Nat->Nat) (bv:Int),VC7_J1 Q bv/\St Tryz.f7.ntmps ⟨[(3,I bv)],[]⟩ Z a w X/\Old w0 X0 w X) ?_ ?_
 ·refine rPe T hS [] [(4,I 0)] fun a hS=>?_
  refine aN ?_
  obtain ⟨I1,μ1,cy,hm⟩:=hm
  refine cw (σ:=Int × Int) (fun s a w=>∃ Z X,I1 s.1 s.2/\St Tryz.f7.ntmps ⟨[(1,Pt 2 0),(3,I s.1),(4,I s.2)],[(2,(25,[Sl a1 h_.ae c1,Sl a2 h_.ak c2]))]⟩ Z a w X/\Old w0 X0 w X/\RS az w X a1 h_.ae c1/\RS aI w X a2 h_.ak c2) (fun s=>μ1 s.1 s.2) (⟨0,0⟩) ?_ ?_
  ·exact ⟨Z,_,cy,hS.sl _,hO,h1,h2⟩
  rintro ⟨br,be⟩ a vR ⟨Z,DA,hI,hS,hO,h104,h105⟩
  replace hm:=hm br be hI
  clear hI cy
  refine bd ?_
  refine rPe T hS [] [(9,B (decide (be < (lN h_.ak))))] fun a hS=>?_
  refine aF hS (b:=decide (be < (lN h_.ak))) kr (fun hb=>?_) fun hb=>?_
  ·replace hm:=hm.1 hb
   refine aL ?_
   refine b5 (fun a w=>∃ (Z:Nat->Nat) (X:Nat->Nat) (d9:Int),VC7_J2 I1 μ1 br be d9/\St Tryz.f7.ntmps ⟨[(1,Pt 2 0),(3,I d9),(4,I be)],[(2,(25,[Sl a1 h_.ae c1,Sl a2 h_.ak c2]))]⟩ Z a w X/\Old w0 X0 w X/\RS az w X a1 h_.ae c1/\RS aI w X a2 h_.ak c2) ?_ ?_
   ·refine aN ?_
    refine bn ?_
    refine oPe T hS 3 [9] [(13,Sl a2 h_.ak c2),(14,I be)] fun a hS=>?_
    obtain ⟨hq,hm⟩:=hm
    refine op1 (index (e:=63) (k:=.i64) T hS kr kr kr kr h105 kr kr hq.1 hq.2 ?_)
    intro w8 a h110 hS
    refine op1 (fc (off:=1) (fsz:=3) (ft:=61) (TF:=aO) (y:=(gi h_.ak be).aK) T hS kr kr kr h110 kr kr kr (fun cs h=>lX h) ?_)
    intro B7 a h112 hS
    refine op1 (fc (off:=0) (fsz:=1) (ft:=3) (TF:=tI) (y:=((gi h_.ak be).aK).bh) T hS kr kr kr h112 kr kr kr (fun cs h=>lk h) ?_)
    intro Gf a h114 hS
    refine op1 (eC T hS kr kr kr h114 rfl kr ?_)
    intro v115 a hv hS
    cases hv
    refine ePe T hS [13,14,15,16,17,18] [(19,B ((((gi h_.ak be).aK).bh) == 1))] fun a hS=>?_
    refine aF hS (b:=((((gi h_.ak be).aK).bh) == 1)) kr (fun hb=>?_) fun hb=>?_
    ·replace hm:=hm.1 hb
     refine region (ePe T hS [19] [(3,I (wR (br+1)))] fun a hS=>?_)
     exact ⟨Z,_,wR (br+1),hm,hS.sl _,hO,h104,h105⟩
    replace hm:=hm.2 hb
    refine aL ?_
    exact ⟨Z,_,br,hm,hS.sl _,hO,h104,h105⟩
   rintro a Af ⟨Z,tF,d9,hm,hS,hO,h107,h108⟩
   unfold VC7_J2 at hm
   refine region (ePe T hS [] [(4,I (wR (be+1)))] fun a hS=>?_)
   exact ⟨⟨d9,wR (be+1)⟩,⟨Z,_,hm.1,hS.sl _,hO,h107,h108⟩,hm.2⟩
  replace hm:=hm.2 hb
  refine cl (by rfl) ?_
  exact ⟨Z,_,br,hm,hS.sl _,hO⟩
 rintro a vQ ⟨Z,B1,bv,hm,hS,hO⟩
 unfold VC7_J1 at hm
 refine rPe T hS [3] [(2,I bv)] fun a hS=>?_
 refine aZ ?_
 exact fin T hS hO (fun c=>c) rfl (r:=[.int .i64 bv]) kr (fun X' hM hC=>⟨bv,hm,rfl⟩)
theorem C7 (v:∀ (h_:aj),VC7 h_ (fun r=>r=eY h_)):S7:=by
 intro w X h_ a1 c1 a2 c2   h1 h2
 refine (W7 w X h_ a1 c1 a2 c2   _ (v h_) h1 h2).mono ?_
 rintro _ _ _ _ ⟨r,rfl,h⟩
 exact h
theorem W6 (Kq:S21) (w0) (X0) (h_:aj) (a1) (c1) (a2) (c2) (Q:Bool->Prop) (hm:VC6 h_ Q) (h1:RS az w0 X0 a1 h_.ae c1) (h2:RS aI w0 X0 a2 h_.ak c2) :
  Ret Tryz.prog 6 #[.agg #[.slice a1 h_.ae.length c1,.slice a2 h_.ak.length c2]] aJ w0 X0 (fun w X' v=>∃ r,Q r/\v=.bool r):=by
 unfold VC6 at hm
 replace hm:=hm (h1.sm kr)
 replace hm:=hm (h2.sm kr)
 refine enter Tryz.func6 rfl (vals:=[.agg #[.slice a1 h_.ae.length c1,.slice a2 h_.ak.length c2]]) kr ?_
 intro Z a hS hO hM
 replace h1:=h1.m0 hM
 replace h2:=h2.m0 hM
 refine rM T hS ⟨[(1,Pt 2 0)],[(2,(25,[Sl a1 h_.ae c1,Sl a2 h_.ak c2]))]⟩ fun Z a yF zZ hS hE hr=>?_
 replace hO:=hO.m2 hE
 replace h1:=h1.m1 hE
 replace h2:=h2.m1 hE
 clear hE hr
 refine bd ?_
 refine rPe T hS [] [(13,B ((decide ((lN h_.ae) > 10)) || (decide ((lN h_.ak) > 20))))] (sp:=[8]) fun a hS=>?_
 refine aF hS (b:=((decide ((lN h_.ae) > 10)) || (decide ((lN h_.ak) > 20)))) kr (fun hb=>?_) fun hb=>?_
 ·replace hm:=hm.1 hb
  refine rP T hS ⟨[(2,B false)],[]⟩ fun a hS=>?_
  refine aZ ?_
  exact fin T hS hO (fun c=>c) rfl (r:=[.bool false]) kr (fun X' hM hC=>⟨false,hm,rfl⟩)
 replace hm:=hm.2 hb
 refine aL ?_
 refine b5 (fun a w=>∃ Z X,VC6_J1 Q/\St Tryz.f6.ntmps ⟨[],[]⟩ Z a w X/\Old w0 X0 w X) ?_ ?_
 ·refine rPe T hS [13] [(3,I 0)] fun a hS=>?_
  refine aN ?_
  obtain ⟨I1,μ1,cy,hm⟩:=hm
  refine cw (σ:=Int) (fun s a w=>∃ Z X,I1 s/\St Tryz.f6.ntmps ⟨[(1,Pt 2 0),(3,I s)],[(2,(25,[Sl a1 h_.ae c1,Sl a2 h_.ak c2]))]⟩ Z a w X/\Old w0 X0 w X/\RS az w X a1 h_.ae c1/\RS aI w X a2 h_.ak c2) (fun s=>μ1 s) (0) ?_ ?_
  ·exact ⟨Z,_,cy,hS.sl _,hO,h1,h2⟩
  rintro bv a o5 ⟨Z,w6,hI,hS,hO,h102,h103⟩
  replace hm:=hm bv hI
  clear hI cy
  refine bd ?_
  refine rPe T hS [] [(18,B (decide (bv < (lN h_.ae))))] fun a hS=>?_
  refine aF hS (b:=decide (bv < (lN h_.ae))) kr (fun hb=>?_) fun hb=>?_
  ·replace hm:=hm.1 hb
   refine aL (bd ?_)
   refine aN ?_
   refine bn ?_
   refine oPe T hS 3 [18] [(22,Sl a1 h_.ae c1),(23,I bv)] fun a hS=>?_
   obtain ⟨hq,hm⟩:=hm
   refine op1 (index (e:=48) (k:=.i64) T hS kr kr kr kr h102 kr kr hq.1 hq.2 ?_)
   intro IO a h105 hS
   refine op1 (eB T hS kr kr kr h105 kr kr ?_)
   intro v106 a hv hS
   obtain ⟨zS,zJ,hv,h109⟩:=hv
   subst hv
   replace hm:=hm (h109.sm kr)
   refine op1 (call hS kr kr hb21 kr (fun _ _=>rfl) (Kq _ _ (gi h_.ae bv) zS zJ h109) ?_)
   intro v110 a CA tG hE hp hS
   replace hO:=hO.m2 hE
   replace h102:=h102.m1 hE
   replace h103:=h103.m1 hE
   replace h105:=h105.m1 hE
   replace h109:=h109.m1 hE
   obtain ⟨fF,hr⟩:∃ r,gR (gi h_.ae bv)=r:=⟨_,rfl⟩
   replace hm:=hm fF hr
   rw [hr] at hp
   clear hr
   subst hp
   refine ePe T hS [22,23,24,25,26] [(27,B (!fF))] fun a hS=>?_
   refine aF hS (b:=(!fF)) kr (fun hb=>?_) fun hb=>?_
   ·replace hm:=hm.1 hb
    refine rP T hS ⟨[(2,B false)],[]⟩ fun a hS=>?_
    refine aZ ?_
    exact fin T hS hO (fun c=>c) rfl (r:=[.bool false]) kr (fun X' hM hC=>⟨false,hm,rfl⟩)
   replace hm:=hm.2 hb
   refine aL ?_
   refine region (ePe T hS [27] [(3,I (wR (bv+1)))] fun a hS=>?_)
   exact ⟨wR (bv+1),⟨Z,_,hm.1,hS.sl _,hO,h102,h103⟩,hm.2⟩
  replace hm:=hm.2 hb
  refine cl (by rfl) ?_
  exact ⟨Z,_,hm,hS.sl _,hO⟩
 rintro a Af ⟨Z,tF,hm,hS,hO⟩
 unfold VC6_J1 at hm
 refine rPe T hS [] [(2,B true)] fun a hS=>?_
 refine aZ ?_
 exact fin T hS hO (fun c=>c) rfl (r:=[.bool true]) kr (fun X' hM hC=>⟨true,hm,rfl⟩)
theorem C6 (Kq:S21) (v:∀ (h_:aj),VC6 h_ (fun r=>r=gQ h_)):S6:=by
 intro w X h_ a1 c1 a2 c2   h1 h2
 refine (W6 Kq w X h_ a1 c1 a2 c2   _ (v h_) h1 h2).mono ?_
 rintro _ _ _ _ ⟨r,rfl,h⟩
 exact h
end Go.Proofs.YteahldlmkheleaaGreat
