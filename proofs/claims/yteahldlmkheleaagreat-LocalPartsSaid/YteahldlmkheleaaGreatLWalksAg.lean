/- Walks of the functions: each returns what its condition asks. -/
import Derived.Test.YteahldlmkheleaaGreatLWalksS
set_option linter.all false
namespace Go.Proofs.YteahldlmkheleaaGreat
open Go Go.Sv
abbrev zAg0 (cU:Nat):Nat->Nat:=fun c=>(bif Nat.beq c 1017 then cU else c)
abbrev zAg1 (i1 i2 i3 i4:Nat):List (Nat × Nat):=[(i1,901),(i2,902),(i3,903),(i4,904)]
set_option maxHeartbeats 1000000
theorem W43 (xy:S63) (LN:S73) (w0) (X0) (l_:List ab) (rows:List (List aa)) (a1) (c1) (a2) (c2) (Q:(List aa) × (List (Int × Int))->Prop) (hm:VC43 l_ rows Q) (h1:RS ar w0 X0 a1 l_ c1) (h2:RS (cd av) w0 X0 a2 rows c2) :
  Ret Tryz.prog 43 #[.slice a1 l_.length c1,.slice a2 rows.length c2] aL w0 X0 (fun w X' v=>∃ r,Q r/\∃ cz cy jd jc,v=.tuple #[.slice cz r.1.length cy,.slice jd r.2.length jc]/\RS av w X' cz r.1 cy/\RS tP2 w X' jd r.2 jc):=by
 unfold VC43 at hm
 replace hm:=hm (h1.sm kr)
 replace hm:=hm (h2.sm kr)
 refine enter Tryz.func43 rfl (vals:=[.slice a1 l_.length c1,.slice a2 rows.length c2]) kr ?_
 intro Z a hS hO hM
 replace h1:=h1.m0 hM
 replace h2:=h2.m0 hM
 refine rPe T hS [] [] fun a hS=>?_
 refine bq ?_
 refine oPe T hS 1 [] [(16,Sl a2 rows c2)] fun a hS=>?_
 obtain ⟨hq,hm⟩:=hm
 refine op1 (call hS kr kr hb73 kr (fun _ _=>rfl) (LN _ _ rows a2 c2 hq h2) ?_)
 intro v101 a fp fx hE hp hS
 replace hO:=hO.m2 hE
 replace h1:=h1.m1 hE
 replace h2:=h2.m1 hE
 obtain ⟨dS,dR,hp,h107⟩:=hp
 obtain ⟨ax,hr⟩:∃ r,cg rows=r:=⟨_,rfl⟩
 replace hm:=hm ax hr
 rw [hr] at hp h107
 clear hr
 subst hp
 replace hm:=hm (h107.sm kr)
 refine ePe T hS [16,17] [(6,Sl dS ax dR)] fun a hS=>?_
 refine rPe T hS [] [(7,V (.slice none 0 0))] fun a hS=>?_
 refine rPe T hS [] [(8,I 0)] fun a hS=>?_
 refine cb (fun a w=>∃ (Z:Nat->Nat) (X:Nat->Nat) (bL:List (Int × Int)) (jb:Option Addr) (iZ:Nat),VC43_J1 l_ Q ax bL/\St Tryz.f43.ntmps ⟨[(0,Sl a1 l_ c1),(6,Sl dS ax dR),(7,Sl jb bL iZ)],[]⟩ Z a w X/\Old w0 X0 w X/\RS ar w X a1 l_ c1/\RS av w X dS ax dR/\OS tP2 131 w X 1006 jb bL iZ) ?_ ?_
 ·refine rPe T hS [1] [(18,Sl a2 rows c2),(19,I (lN rows)),(20,I 0)] fun a hS=>?_
  refine aN ?_
  obtain ⟨I3,μ3,cx,hm⟩:=hm
  refine ct (σ:=(List (Int × Int)) × Int × Int) (fun s a w=>∃ Z X nR nN,I3 s.1 s.2.1 s.2.2/\St Tryz.f43.ntmps ⟨[(0,Sl a1 l_ c1),(6,Sl dS ax dR),(7,Sl nR s.1 nN),(8,I s.2.1),(18,Sl a2 rows c2),(19,I (lN rows)),(20,I s.2.2)],[]⟩ Z a w X/\Old w0 X0 w X/\RS ar w X a1 l_ c1/\RS av w X dS ax dR/\OS tP2 131 w X 1006 nR s.1 nN/\RS (cd av) w X a2 rows c2) (fun s=>μ3 s.1 s.2.1 s.2.2) (⟨[],0,0⟩) ?_ ?_
  ·exact ⟨Z,_,none,0,cx,hS.sl _,hO,h1,h107,(OS.nil _ _ _ _ _),h2⟩
  rintro ⟨nV,iI,jy⟩ a Po ⟨Z,RE,nR,nN,hI,hS,hO,h194,h195,h199,h201⟩
  replace hm:=hm nV iI jy hI
  clear hI cx
  refine rPe T hS [] [(21,B (decide (jy < (lN rows))))] fun a hS=>?_
  refine bg ?_
  refine aJ hS (b:=decide (jy < (lN rows))) kr (fun hb=>?_) fun hb=>?_
  ·replace hm:=hm.1 hb
   refine aM (bg ?_)
   refine aN ?_
   refine bq ?_
   obtain ⟨hq,hm⟩:=hm
   refine op1 (index (e:=26) (k:=.i64) T hS kr kr kr kr h201 kr kr hq.1 hq.2 ?_)
   intro Se a h204 hS
   refine op1 (dW T hS kr kr kr h204 rfl kr ?_)
   intro v205 a hv hS
   obtain ⟨oJ,oE,hv,h208⟩:=hv
   cases hv
   replace hm:=hm (h208.sm kr)
   refine ePe T hS [21,22,23] [(10,Sl oJ (gi rows jy) oE)] fun a hS=>?_
   refine cb (fun a w=>∃ (Z:Nat->Nat) (X:Nat->Nat) (Be:List (Int × Int)) (AR:Option Addr) (AH:Nat),VC43_J5 rows I3 μ3 nV iI jy Be/\St Tryz.f43.ntmps ⟨[(0,Sl a1 l_ c1),(6,Sl dS ax dR),(7,Sl AR Be AH),(8,I iI),(10,Sl oJ (gi rows jy) oE),(18,Sl a2 rows c2),(19,I (lN rows)),(20,I jy)],[]⟩ Z a w X/\Old w0 X0 w X/\RS ar w X a1 l_ c1/\RS av w X dS ax dR/\OS tP2 131 w X 1006 AR Be AH/\RS av w X oJ (gi rows jy) oE/\RS (cd av) w X a2 rows c2) ?_ ?_
   ·refine rPe T hS [] [(11,I 1)] fun a hS=>?_
    refine aN ?_
    obtain ⟨I4,μ4,cx,hm⟩:=hm
    refine ct (σ:=(List (Int × Int)) × Int) (fun s a w=>∃ Z X Da CS,I4 s.1 s.2/\St Tryz.f43.ntmps ⟨[(0,Sl a1 l_ c1),(6,Sl dS ax dR),(7,Sl Da s.1 CS),(8,I iI),(10,Sl oJ (gi rows jy) oE),(11,I s.2),(18,Sl a2 rows c2),(19,I (lN rows)),(20,I jy)],[]⟩ Z a w X/\Old w0 X0 w X/\RS ar w X a1 l_ c1/\RS av w X dS ax dR/\OS tP2 131 w X 1006 Da s.1 CS/\RS av w X oJ (gi rows jy) oE/\RS (cd av) w X a2 rows c2) (fun s=>μ4 s.1 s.2) (⟨nV,1⟩) ?_ ?_
    ·exact ⟨Z,_,nR,nN,cx,hS.sl _,hO,h194,h195,h199,h208,h201⟩
    rintro ⟨zB,nu⟩ a KV ⟨Z,RG,Da,CS,hI,hS,hO,h217,h218,h222,h223,h225⟩
    replace hm:=hm zB nu hI
    clear hI cx
    refine bg ?_
    refine rPe T hS [] [(27,B (decide (nu < (lN (gi rows jy)))))] fun a hS=>?_
    refine aJ hS (b:=decide (nu < (lN (gi rows jy)))) kr (fun hb=>?_) fun hb=>?_
    ·replace hm:=hm.1 hb
     refine aM (bg ?_)
     refine aN ?_
     refine region ?_
     refine oPe T hS 9 [27] [(30,Sl Da zB CS),(38,V (.agg #[.int .i64 (wR ((wR (iI+nu)) - 1)),.int .i64 (wR (iI+nu))]))] fun a hS=>?_
     refine op1 (lit (E:=131) (col:=0) (T:=tP2) (vals:=[.agg #[.int .i64 (wR ((wR (iI+nu)) - 1)),.int .i64 (wR (iI+nu))]]) (ys:=[(wR ((wR (iI+nu)) - 1),wR (iI+nu))]) T hS kr kr kr kr (by exact ⟨rfl,trivial⟩) rfl kr kr kr kr ?_)
     intro b226 a Ps RJ hE h229 hN hS
     clear hN
     replace hO:=hO.m2 hE
     replace h217:=h217.m1 hE
     replace h218:=h218.m1 hE
     replace h222:=h222.m2 hE
     replace h223:=h223.m1 hE
     replace h225:=h225.m1 hE
     replace h229:=h229.rs0
     obtain ⟨hq,hm⟩:=hm
     obtain ⟨news,hN⟩:=h229.src
     refine op1 (append (E:=131) (T:=tP2) (col:=1006) (xs:=zB) T hS kr kr kr kr h222 hN kr kr kr kr hq ?_)
     intro JX JI a KW NC hE h232 hS
     clear hq hN
     clear h222
     replace hO:=hO.m2 hE
     replace h217:=h217.m1 hE
     replace h218:=h218.m1 hE
     replace h223:=h223.m1 hE
     replace h225:=h225.m1 hE
     replace h229:=h229.m1 hE
     refine ePe T hS [38,39,40] [(7,Sl JX (zB++[(wR ((wR (iI+nu)) - 1),wR (iI+nu))]) JI)] fun a hS=>?_
     refine region (ePe T hS [] [(11,I (wR (nu+1)))] fun a hS=>?_)
     exact ⟨⟨zB++[(wR ((wR (iI+nu)) - 1),wR (iI+nu))],wR (nu+1)⟩,⟨Z,_,JX,JI,hm.1,hS.sl _,hO,h217,h218,h232,h223,h225⟩,hm.2⟩
    replace hm:=hm.2 hb
    refine cm (by rfl) ?_
    exact ⟨Z,_,zB,Da,CS,hm,hS.sl _,hO,h217,h218,h222,h223,h225⟩
   rintro a Pp ⟨Z,NB,Be,AR,AH,hm,hS,hO,h209,h210,h214,h215,h216⟩
   unfold VC43_J5 at hm
   refine region (ePe T hS [10] [(8,I (wR (iI+(lN (gi rows jy)))))] fun a hS=>?_)
   refine region (ePe T hS [] [(20,I (wR (jy+1)))] fun a hS=>?_)
   exact ⟨⟨Be,wR (iI+(lN (gi rows jy))),wR (jy+1)⟩,⟨Z,_,AR,AH,hm.1,hS.sl _,hO,h209,h210,h214,h216⟩,hm.2⟩
  replace hm:=hm.2 hb
  refine cm (by rfl) ?_
  exact ⟨Z,_,nV,nR,nN,hm,hS.sl _,hO,h194,h195,h199⟩
 rintro a Pn ⟨Z,RD,bL,jb,iZ,hm,hS,hO,h108,h109,h113⟩
 unfold VC43_J1 at hm
 refine cb (fun a w=>∃ (Z:Nat->Nat) (X:Nat->Nat) (bw:List (Int × Int)) (dY:Option Addr) (dX:Nat),VC43_J2 Q ax bw/\St Tryz.f43.ntmps ⟨[(6,Sl dS ax dR),(7,Sl dY bw dX)],[]⟩ Z a w X/\Old w0 X0 w X/\RS av w X dS ax dR/\OS tP2 131 w X 1006 dY bw dX) ?_ ?_
 ·refine rPe T hS [] [(46,Sl dS ax dR),(47,I (lN ax)),(48,I 0)] fun a hS=>?_
  refine aN ?_
  obtain ⟨I1,μ1,cx,hm⟩:=hm
  refine ct (σ:=(List (Int × Int)) × Int) (fun s a w=>∃ Z X ia hY,I1 s.1 s.2/\St Tryz.f43.ntmps ⟨[(0,Sl a1 l_ c1),(6,Sl dS ax dR),(7,Sl ia s.1 hY),(46,Sl dS ax dR),(47,I (lN ax)),(48,I s.2)],[]⟩ Z a w X/\Old w0 X0 w X/\RS ar w X a1 l_ c1/\RS av w X dS ax dR/\OS tP2 131 w X 1006 ia s.1 hY/\RS av w X dS ax dR) (fun s=>μ1 s.1 s.2) (⟨bL,0⟩) ?_ ?_
  ·exact ⟨Z,_,jb,iZ,cx,hS.sl _,hO,h108,h109,h113,h109⟩
  rintro ⟨eL,fX⟩ a Ie ⟨Z,NO,ia,hY,hI,hS,hO,h121,h122,h126,h127⟩
  replace hm:=hm eL fX hI
  clear hI cx
  refine rPe T hS [] [(49,B (decide (fX < (lN ax))))] fun a hS=>?_
  refine bg ?_
  refine aJ hS (b:=decide (fX < (lN ax))) kr (fun hb=>?_) fun hb=>?_
  ·replace hm:=hm.1 hb
   refine aM ?_
   refine cb (fun a w=>∃ (Z:Nat->Nat) (X:Nat->Nat) (fW:List (Int × Int)) (g8:Option Addr) (gZ:Nat),VC43_J3 I1 μ1 eL fX fW/\St Tryz.f43.ntmps ⟨[(0,Sl a1 l_ c1),(6,Sl dS ax dR),(7,Sl g8 fW gZ),(46,Sl dS ax dR),(47,I (lN ax)),(48,I fX)],[]⟩ Z a w X/\Old w0 X0 w X/\RS ar w X a1 l_ c1/\RS av w X dS ax dR/\OS tP2 131 w X 1006 g8 fW gZ/\RS av w X dS ax dR) ?_ ?_
   ·refine aN ?_
    refine bq ?_
    refine oPe T hS 1 [49] [(50,I fX)] fun a hS=>?_
    obtain ⟨hq,hm⟩:=hm
    refine op1 (index (e:=56) (k:=.i64) T hS kr kr kr kr h127 kr kr hq.1 hq.2 ?_)
    intro E6 a h137 hS
    refine op1 (eU T hS kr kr kr h137 kr kr ?_)
    intro v138 a hv hS
    subst hv
    refine eM T hS ⟨[(0,Sl a1 l_ c1),(6,Sl dS ax dR),(7,Sl ia eL hY),(12,I fX),(13,Pt 14 0),(46,Sl dS ax dR),(47,I (lN ax)),(48,I fX)],[(14,(56,(cK (gi ax fX))))]⟩ fun Z a F9 Kb hS hE hr=>?_
    replace hO:=hO.m2 hE
    replace h121:=h121.m1 hE
    replace h122:=h122.m1 hE
    replace h126:=h126.m2 hE
    replace h127:=h127.m1 hE
    clear hE hr
    refine rPe T hS [] [(53,Sl dS ax dR),(54,I (lN ax)),(55,I 0)] fun a hS=>?_
    refine aN ?_
    obtain ⟨I2,μ2,cx,hm⟩:=hm
    refine ct (σ:=(List (Int × Int)) × Int) (fun s a w=>∃ Z X kE kA,I2 s.1 s.2/\St Tryz.f43.ntmps ⟨[(0,Sl a1 l_ c1),(6,Sl dS ax dR),(7,Sl kE s.1 kA),(12,I fX),(13,Pt 14 0),(46,Sl dS ax dR),(47,I (lN ax)),(48,I fX),(53,Sl dS ax dR),(54,I (lN ax)),(55,I s.2)],[(14,(56,(cK (gi ax fX))))]⟩ Z a w X/\Old w0 X0 w X/\RS ar w X a1 l_ c1/\RS av w X dS ax dR/\OS tP2 131 w X 1006 kE s.1 kA/\RS av w X dS ax dR/\RS av w X dS ax dR) (fun s=>μ2 s.1 s.2) (⟨eL,0⟩) ?_ ?_
    ·exact ⟨Z,_,ia,hY,cx,hS.sl _,hO,h121,h122,h126,h127,h122⟩
    rintro ⟨jB,ep⟩ a K5 ⟨Z,NP,kE,kA,hI,hS,hO,h139,h140,h144,h145,h146⟩
    replace hm:=hm jB ep hI
    clear hI cx
    refine rPe T hS [] [(56,B (decide (ep < (lN ax))))] fun a hS=>?_
    refine bg ?_
    refine aJ hS (b:=decide (ep < (lN ax))) kr (fun hb=>?_) fun hb=>?_
    ·replace hm:=hm.1 hb
     refine aM ?_
     refine cb (fun a w=>∃ (Z:Nat->Nat) (X:Nat->Nat) (nX:List (Int × Int)) (EX:Option Addr) (EK:Nat),VC43_J4 I2 μ2 jB ep nX/\St Tryz.f43.ntmps ⟨[(0,Sl a1 l_ c1),(6,Sl dS ax dR),(7,Sl EX nX EK),(12,I fX),(13,Pt 14 0),(46,Sl dS ax dR),(47,I (lN ax)),(48,I fX),(53,Sl dS ax dR),(54,I (lN ax)),(55,I ep)],[(14,(56,(cK (gi ax fX))))]⟩ Z a w X/\Old w0 X0 w X/\RS ar w X a1 l_ c1/\RS av w X dS ax dR/\OS tP2 131 w X 1006 EX nX EK/\RS av w X dS ax dR/\RS av w X dS ax dR) ?_ ?_
     ·refine aN ?_
      refine bq ?_
      refine oPe T hS 1 [56] [(57,I ep)] fun a hS=>?_
      obtain ⟨hq,hm⟩:=hm
      refine op1 (index (e:=56) (k:=.i64) T hS kr kr kr kr h146 kr kr hq.1 hq.2 ?_)
      intro N3 a h157 hS
      refine op1 (eU T hS kr kr kr h157 kr kr ?_)
      intro v158 a hv hS
      subst hv
      refine eM T hS ⟨[(0,Sl a1 l_ c1),(6,Sl dS ax dR),(7,Sl kE jB kA),(12,I fX),(13,Pt 14 0),(14,I ep),(15,Pt 16 0),(46,Sl dS ax dR),(47,I (lN ax)),(48,I fX),(53,Sl dS ax dR),(54,I (lN ax)),(55,I ep)],[(14,(56,(cK (gi ax fX)))),(16,(56,(cK (gi ax ep))))]⟩ fun Z a Ga Kd hS hE hr=>?_
      replace hO:=hO.m2 hE
      replace h139:=h139.m1 hE
      replace h140:=h140.m1 hE
      replace h144:=h144.m2 hE
      replace h145:=h145.m1 hE
      replace h146:=h146.m1 hE
      clear hE hr
      refine dG [14,16] mixed hS ?_
      intro zF EZ hS hE hD hH
      replace hO:=hO.m2 hE
      replace h139:=h139.m1 hE
      replace h140:=h140.m1 hE
      replace h144:=h144.m2 hE
      replace h145:=h145.m1 hE
      replace h146:=h146.m1 hE
      refine tke T [0,1,5,6,2,7] [14,16] hS hH #[true,true,true,false,false,true,true,true,false,false,false] 5 [15] [(60,Sl a1 l_ c1),(62,I ((gi ax fX).Oper)),(65,Sl a1 l_ c1),(67,I ((gi ax ep).Oper))] fun a hS=>?_
      obtain ⟨hq,hm⟩:=hm
      refine dm (e:=102) (k:=.i64) T 3 hS kr kr kr (by rfl) kr hH kr kr h139 kr kr hq.1 hq.2 ?_
      intro SD a h162 hS
      have Ji:=h162.here
      refine ku T 4 hS kr kr kr (by rfl) kr hH kr h162 Ji kr kr ?_
      intro v163 a hv hS
      subst hv
      obtain ⟨hq,hm⟩:=hm
      refine dm (e:=102) (k:=.i64) T 8 hS kr kr kr (by rfl) kr hH kr kr h139 kr kr hq.1 hq.2 ?_
      intro N2 a h165 hS
      have Jh:=h165.here
      refine ku T 9 hS kr kr kr (by rfl) kr hH kr h165 Jh kr kr ?_
      intro v166 a hv hS
      subst hv
      refine only 10 kr (by rfl) (call hS kr kr hb63 kr (fun _ _=>rfl) (xy _ _ (gi l_ ((gi ax fX).Oper)) (gi l_ ((gi ax ep).Oper))) ?_)
      intro v167 a DN HA hE hp hS
      replace hO:=hO.m2 hE
      replace hD:=hD.ev hE rfl
      replace h139:=h139.m1 hE
      replace h140:=h140.m1 hE
      replace h144:=h144.m2 hE
      replace h145:=h145.m1 hE
      replace h146:=h146.m1 hE
      replace h162:=h162.m1 hE
      replace h165:=h165.m1 hE
      obtain ⟨vb,hr⟩:∃ r,bl (gi l_ ((gi ax fX).Oper)) (gi l_ ((gi ax ep).Oper))=r:=⟨_,rfl⟩
      replace hm:=hm vb hr
      rw [hr] at hp
      clear hr
      subst hp
      replace hS:=hS.sle [] [(70,B vb)]
      refine di (bP.of hS (bks:=[14,16]) kr hD) ?_
      intro hH
      refine aX kr ?_
      replace hS:=hS.sl ⟨[(0,Sl a1 l_ c1),(6,Sl dS ax dR),(7,Sl kE jB kA),(12,I fX),(13,Pt 14 0),(14,I ep),(46,Sl dS ax dR),(47,I (lN ax)),(48,I fX),(53,Sl dS ax dR),(54,I (lN ax)),(55,I ep),(70,B vb)],[(14,(56,(cK (gi ax fX))))]⟩
      refine aJ hS (b:=vb) kr (fun hb=>?_) fun hb=>?_
      ·replace hm:=hm.1 hb
       refine region ?_
       refine oPe T hS 4 [14,70] [(71,Sl kE jB kA),(74,V (.agg #[.int .i64 fX,.int .i64 ep]))] fun a hS=>?_
       refine op1 (lit (E:=131) (col:=0) (T:=tP2) (vals:=[.agg #[.int .i64 fX,.int .i64 ep]]) (ys:=[(fX,ep)]) T hS kr kr kr kr (by exact ⟨rfl,trivial⟩) rfl kr kr kr kr ?_)
       intro b171 a Gb Hz hE h174 hN hS
       clear hN
       replace hO:=hO.m2 hE
       replace h139:=h139.m1 hE
       replace h140:=h140.m1 hE
       replace h144:=h144.m2 hE
       replace h145:=h145.m1 hE
       replace h146:=h146.m1 hE
       replace h174:=h174.rs0
       obtain ⟨hq,hm⟩:=hm
       obtain ⟨news,hN⟩:=h174.src
       refine op1 (append (E:=131) (T:=tP2) (col:=1006) (xs:=jB) T hS kr kr kr kr h144 hN kr kr kr kr hq ?_)
       intro J2 JN a Ig Hy hE h177 hS
       clear hq hN
       clear h144
       replace hO:=hO.m2 hE
       replace h139:=h139.m1 hE
       replace h140:=h140.m1 hE
       replace h145:=h145.m1 hE
       replace h146:=h146.m1 hE
       replace h174:=h174.m1 hE
       refine ePe T hS [74,75,76] [(7,Sl J2 (jB++[(fX,ep)]) JN)] fun a hS=>?_
       exact ⟨Z,_,jB++[(fX,ep)],J2,JN,hm,hS.sl _,hO,h139,h140,h177,h145,h146⟩
      replace hm:=hm.2 hb
      refine aM ?_
      exact ⟨Z,_,jB,kE,kA,hm,hS.sl _,hO,h139,h140,h144,h145,h146⟩
     rintro a K6 ⟨Z,Kc,nX,EX,EK,hm,hS,hO,h148,h149,h153,h154,h155⟩
     unfold VC43_J4 at hm
     refine region (ePe T hS [] [(55,I (wR (ep+1)))] fun a hS=>?_)
     exact ⟨⟨nX,wR (ep+1)⟩,⟨Z,_,EX,EK,hm.1,hS.sl _,hO,h148,h149,h153,h154,h155⟩,hm.2⟩
    replace hm:=hm.2 hb
    refine cm (by rfl) ?_
    exact ⟨Z,_,jB,kE,kA,hm,hS.sl _,hO,h139,h140,h144,h145⟩
   rintro a K4 ⟨Z,Ka,fW,g8,gZ,hm,hS,hO,h129,h130,h134,h135⟩
   unfold VC43_J3 at hm
   refine region (ePe T hS [] [(48,I (wR (fX+1)))] fun a hS=>?_)
   exact ⟨⟨fW,wR (fX+1)⟩,⟨Z,_,g8,gZ,hm.1,hS.sl _,hO,h129,h130,h134,h135⟩,hm.2⟩
  replace hm:=hm.2 hb
  refine cm (by rfl) ?_
  exact ⟨Z,_,eL,ia,hY,hm,hS.sl _,hO,h122,h126⟩
 rintro a K3 ⟨Z,J9,bw,dY,dX,hm,hS,hO,h114,h118⟩
 unfold VC43_J2 at hm
 refine rPe T hS [6,7] [(4,Sl dS ax dR),(5,Sl dY bw dX)] fun a hS=>?_
 refine aY ?_
 obtain ⟨Dp,hE,hF⟩:=h118.freeze (by decide)
 replace hS:=hS.ev hE (cA kr)
 replace hO:=hO.m2 hE
 replace h114:=h114.m1 hE
 have h120:=hF; clear hE hF
 exact fin T hS hO (fun c=>c) rfl (r:=[.slice dS ax.length dR,.slice dY bw.length dX]) kr (fun X' hM hC=>⟨(ax,bw),hm,dS,dR,dY,dX,rfl,h114.m0 hM,h120.m0 hM⟩)
theorem C43 (xy:S63) (LN:S73) (v:∀ (l_:List ab) (rows:List (List aa)),vk l_ rows->VC43 l_ rows (fun r=>r=cj l_ rows)):S43:=by
 intro w X l_ rows a1 c1 a2 c2   hp h1 h2
 refine (W43 xy LN w X l_ rows a1 c1 a2 c2   _ (v l_ rows hp) h1 h2).mono ?_
 rintro _ _ _ _ ⟨r,rfl,h⟩
 exact h
theorem W15 (L8:S41) (L7:S42) (L6:S43) (L5:S44) (w0) (X0) (h_:al) (a1) (c1) (a2) (c2) (Q:(List aa) × Int->Prop) (hm:VC15 h_ Q) (h1:RS aB w0 X0 a1 h_.ae c1) (h2:RS aP w0 X0 a2 h_.aq c2) :
  Ret Tryz.prog 15 #[.agg #[.slice a1 h_.ae.length c1,.slice a2 h_.aq.length c2]] aL w0 X0 (fun w X' v=>∃ r,Q r/\∃ cz cy,v=.tuple #[.slice cz r.1.length cy,.int .i64 r.2]/\RS av w X' cz r.1 cy):=by
 unfold VC15 at hm
 replace hm:=hm (h1.sm kr)
 replace hm:=hm (h2.sm kr)
 refine enter Tryz.func15 rfl (vals:=[.agg #[.slice a1 h_.ae.length c1,.slice a2 h_.aq.length c2]]) kr ?_
 intro Z a hS hO hM
 replace h1:=h1.m0 hM
 replace h2:=h2.m0 hM
 refine rM T hS ⟨[(1,Pt 2 0)],[(2,(25,[Sl a1 h_.ae c1,Sl a2 h_.aq c2]))]⟩ fun Z a PH Ke hS hE hr=>?_
 replace hO:=hO.m2 hE
 replace h1:=h1.m1 hE
 replace h2:=h2.m1 hE
 clear hE hr
 refine bq ?_
 refine oPe T hS 1 [] [(16,V (.agg #[.slice a1 h_.ae.length c1,.slice a2 h_.aq.length c2]))] fun a hS=>?_
 obtain ⟨hq,hm⟩:=hm
 refine op1 (call hS kr kr hb41 kr (fun _ _=>rfl) (L8 _ _ h_ a1 c1 a2 c2 hq h1 h2) ?_)
 intro v101 a fp fx hE hp hS
 replace hO:=hO.m2 hE
 replace h1:=h1.m1 hE
 replace h2:=h2.m1 hE
 obtain ⟨dS,dR,gQ,gP,hp,h107,h110⟩:=hp
 obtain ⟨ax,hr⟩:∃ r,cq h_=r:=⟨_,rfl⟩
 replace hm:=hm ax hr
 rw [hr] at hp h107 h110
 clear hr
 subst hp
 replace hm:=hm (h107.sm kr)
 replace hm:=hm (h110.sm kr)
 refine ePe T hS [16,17] [(4,Sl dS ax.1 dR),(5,Sl gQ ax.2.1 gP),(6,I ax.2.2)] fun a hS=>?_
 refine bg ?_
 refine rPe T hS [] [(22,B (ax.2.2 != 0))] fun a hS=>?_
 refine aJ hS (b:=(ax.2.2 != 0)) kr (fun hb=>?_) fun hb=>?_
 ·replace hm:=hm.1 hb
  refine rP T hS ⟨[(2,V (.slice none 0 0)),(3,I ax.2.2)],[]⟩ fun a hS=>?_
  refine aY ?_
  exact fin T hS hO (fun c=>c) rfl (r:=[.slice none 0 0,.int .i64 ax.2.2]) kr (fun X' hM hC=>⟨([],ax.2.2),hm,none,0,rfl,RS.empty _ _ _⟩)
 replace hm:=hm.2 hb
 refine aM ?_
 refine bq ?_
 refine oP T hS 3 ⟨[(4,Sl dS ax.1 dR),(6,I ax.2.2),(25,V (.agg #[.slice a1 h_.ae.length c1,.slice a2 h_.aq.length c2])),(26,Sl dS ax.1 dR),(27,Sl gQ ax.2.1 gP)],[]⟩ fun a hS=>?_
 obtain ⟨hq,hm⟩:=hm
 refine op1 (call hS kr kr hb42 kr (fun _ _=>rfl) (L7 _ _ h_ ax.1 ax.2.1 a1 c1 a2 c2 dS dR gQ gP hq h1 h2 h107 h110) ?_)
 intro v111 a zK rN hE hp hS
 replace hO:=hO.m2 hE
 replace h1:=h1.m1 hE
 replace h2:=h2.m1 hE
 replace h107:=h107.m1 hE
 replace h110:=h110.m1 hE
 obtain ⟨r9,r7,hp,h117⟩:=hp
 obtain ⟨da,hr⟩:∃ r,cM h_ ax.1 ax.2.1=r:=⟨_,rfl⟩
 replace hm:=hm da hr
 rw [hr] at hp h117
 clear hr
 subst hp
 replace hm:=hm (h117.sm kr)
 refine ePe T hS [25,26,27,28] [(6,I da.2),(7,Sl r9 da.1 r7)] fun a hS=>?_
 refine bg ?_
 refine rPe T hS [] [(32,B (da.2 != 0))] fun a hS=>?_
 refine aJ hS (b:=(da.2 != 0)) kr (fun hb=>?_) fun hb=>?_
 ·replace hm:=hm.1 hb
  refine rPe T hS [4,6,7,32] [(2,V (.slice none 0 0)),(3,I da.2)] fun a hS=>?_
  refine aY ?_
  exact fin T hS hO (fun c=>c) rfl (r:=[.slice none 0 0,.int .i64 da.2]) kr (fun X' hM hC=>⟨([],da.2),hm,none,0,rfl,RS.empty _ _ _⟩)
 replace hm:=hm.2 hb
 refine aM ?_
 refine bq ?_
 refine oPe T hS 2 [4,6,7,32] [(35,Sl dS ax.1 dR),(36,Sl r9 da.1 r7)] fun a hS=>?_
 obtain ⟨hq,hm⟩:=hm
 refine op1 (call hS kr kr hb43 kr (fun _ _=>rfl) (L6 _ _ ax.1 da.1 dS dR r9 r7 hq h107 h117) ?_)
 intro v118 a uL A0 hE hp hS
 replace hO:=hO.m2 hE
 replace h107:=h107.m1 hE
 replace h117:=h117.m1 hE
 obtain ⟨kF,kB,ja,iY,hp,h124,h127⟩:=hp
 obtain ⟨e8,hr⟩:∃ r,cj ax.1 da.1=r:=⟨_,rfl⟩
 replace hm:=hm e8 hr
 rw [hr] at hp h124 h127
 clear hr
 subst hp
 replace hm:=hm (h124.sm kr)
 replace hm:=hm (h127.sm kr)
 refine ePe T hS [35,36,37] [(8,Sl kF e8.1 kB),(9,Sl ja e8.2 iY)] fun a hS=>?_
 refine bq ?_
 refine oPe T hS 3 [9] [(42,I (lN e8.1)),(43,Sl ja e8.2 iY)] fun a hS=>?_
 refine op1 (call hS kr kr hb44 kr (fun _ _=>rfl) (L5 _ _ (lN e8.1) e8.2 ja iY h127) ?_)
 intro v128 a Ld E4 hE hp hS
 replace hO:=hO.m2 hE
 replace h124:=h124.m1 hE
 replace h127:=h127.m1 hE
 obtain ⟨g8,gZ,hp,h134⟩:=hp
 obtain ⟨gg,hr⟩:∃ r,dp (lN e8.1) e8.2=r:=⟨_,rfl⟩
 replace hm:=hm gg hr
 rw [hr] at hp h134
 clear hr
 subst hp
 replace hm:=hm (h134.sm kr)
 refine ePe T hS [42,43,44] [(10,Sl g8 gg.1 gZ),(11,B gg.2)] fun a hS=>?_
 refine bg ?_
 refine rPe T hS [11] [(48,B (!gg.2))] fun a hS=>?_
 refine aJ hS (b:=(!gg.2)) kr (fun hb=>?_) fun hb=>?_
 ·replace hm:=hm.1 hb
  refine rPe T hS [8,10,48] [(2,V (.slice none 0 0)),(3,I 41)] fun a hS=>?_
  refine aY ?_
  exact fin T hS hO (fun c=>c) rfl (r:=[.slice none 0 0,.int .i64 41]) kr (fun X' hM hC=>⟨([],41),hm,none,0,rfl,RS.empty _ _ _⟩)
 replace hm:=hm.2 hb
 refine aM ?_
 refine bq ?_
 refine op1 (lit (E:=56) (col:=1003) (T:=av) (vals:=[]) (ys:=([]:List aa)) T hS kr kr kr kr trivial rfl kr kr kr kr ?_)
 intro b135 a tl wB hE h138 hN hS
 clear hN
 replace hO:=hO.m2 hE
 replace h124:=h124.m1 hE
 replace h134:=h134.m1 hE
 refine ePe T hS [48,49] [(12,Sl (some ⟨b135,0,none⟩) ([]:List aa) 0)] fun a hS=>?_
 refine cb (fun a w=>∃ (Z:Nat->Nat) (X:Nat->Nat) (jN:List aa) (nS:Option Addr) (nO:Nat),VC15_J1 Q jN/\St Tryz.f15.ntmps ⟨[(12,Sl nS jN nO)],[]⟩ Z a w X/\Old w0 X0 w X/\OS av 56 w X 1003 nS jN nO) ?_ ?_
 ·refine rPe T hS [10] [(50,Sl g8 gg.1 gZ),(51,I (lN gg.1)),(52,I 0)] fun a hS=>?_
  refine aN ?_
  obtain ⟨I1,μ1,cx,hm⟩:=hm
  refine ct (σ:=(List aa) × Int) (fun s a w=>∃ Z X rK rD,I1 s.1 s.2/\St Tryz.f15.ntmps ⟨[(8,Sl kF e8.1 kB),(12,Sl rK s.1 rD),(50,Sl g8 gg.1 gZ),(51,I (lN gg.1)),(52,I s.2)],[]⟩ Z a w X/\Old w0 X0 w X/\RS av w X kF e8.1 kB/\OS av 56 w X 1003 rK s.1 rD/\RS tI w X g8 gg.1 gZ) (fun s=>μ1 s.1 s.2) (⟨([]:List aa),0⟩) ?_ ?_
  ·exact ⟨Z,_,(some ⟨b135,0,none⟩),0,cx,hS.sl _,hO,h124,h138,h134⟩
  rintro ⟨mT,gF⟩ a DN ⟨Z,Kf,rK,rD,hI,hS,hO,h145,h149,h150⟩
  replace hm:=hm mT gF hI
  clear hI cx
  refine rPe T hS [] [(53,B (decide (gF < (lN gg.1))))] fun a hS=>?_
  refine bg ?_
  refine aJ hS (b:=decide (gF < (lN gg.1))) kr (fun hb=>?_) fun hb=>?_
  ·replace hm:=hm.1 hb
   refine aM (bg ?_)
   refine aN ?_
   refine bq ?_
   obtain ⟨hq,hm⟩:=hm
   refine op1 (index (e:=3) (k:=.i64) T hS kr kr kr kr h150 kr kr hq.1 hq.2 ?_)
   intro N4 a h153 hS
   refine op1 (dW T hS kr kr kr h153 rfl kr ?_)
   intro v154 a hv hS
   cases hv
   refine ePe T hS [53,54,55] [(14,I (gi gg.1 gF))] fun a hS=>?_
   refine region ?_
   refine oPe T hS 3 [14] [(56,Sl rK mT rD),(57,Sl kF e8.1 kB),(58,I (gi gg.1 gF))] fun a hS=>?_
   obtain ⟨hq,hm⟩:=hm
   refine op1 (index (e:=56) (k:=.i64) T hS kr kr kr kr h145 kr kr hq.1 hq.2 ?_)
   intro Kp a h156 hS
   refine op1 (eU T hS kr kr kr h156 kr kr ?_)
   intro v157 a hv hS
   subst hv
   refine op1 (lit (E:=56) (col:=0) (T:=av) (vals:=[.agg #[.int .i64 ((gi e8.1 (gi gg.1 gF)).Oper),.int .i64 ((gi e8.1 (gi gg.1 gF)).Result)]]) (ys:=[gi e8.1 (gi gg.1 gF)]) T hS kr kr kr kr (by exact ⟨rfl,trivial⟩) rfl kr kr kr kr ?_)
   intro b158 a zF EZ hE h161 hN hS
   clear hN
   replace hO:=hO.m2 hE
   replace h145:=h145.m1 hE
   replace h149:=h149.m2 hE
   replace h150:=h150.m1 hE
   replace h156:=h156.m1 hE
   replace h161:=h161.rs0
   obtain ⟨hq,hm⟩:=hm
   obtain ⟨news,hN⟩:=h161.src
   refine op1 (append (E:=56) (T:=av) (col:=1003) (xs:=mT) T hS kr kr kr kr h149 hN kr kr kr kr hq ?_)
   intro rJ rC a DQ EY hE h164 hS
   clear hq hN
   clear h149
   replace hO:=hO.m2 hE
   replace h145:=h145.m1 hE
   replace h150:=h150.m1 hE
   replace h156:=h156.m1 hE
   replace h161:=h161.m1 hE
   refine ePe T hS [57,58,59,60,61,62] [(12,Sl rJ (mT++[gi e8.1 (gi gg.1 gF)]) rC)] fun a hS=>?_
   refine region (ePe T hS [] [(52,I (wR (gF+1)))] fun a hS=>?_)
   exact ⟨⟨mT++[gi e8.1 (gi gg.1 gF)],wR (gF+1)⟩,⟨Z,_,rJ,rC,hm.1,hS.sl _,hO,h145,h164,h150⟩,hm.2⟩
  replace hm:=hm.2 hb
  refine cm (by rfl) ?_
  exact ⟨Z,_,mT,rK,rD,hm,hS.sl _,hO,h149⟩
 rintro a Lb ⟨Z,HA,jN,nS,nO,hm,hS,hO,h142⟩
 unfold VC15_J1 at hm
 refine rPe T hS [12] [(2,Sl nS jN nO),(3,I 0)] fun a hS=>?_
 refine aY ?_
 obtain ⟨sa,hE,hF⟩:=h142.freeze (by decide)
 replace hS:=hS.ev hE (cA kr)
 replace hO:=hO.m2 hE
 have h144:=hF; clear hE hF
 exact fin T hS hO (fun c=>c) rfl (r:=[.slice nS jN.length nO,.int .i64 0]) kr (fun X' hM hC=>⟨(jN,0),hm,nS,nO,rfl,h144.m0 hM⟩)
theorem C15 (L8:S41) (L7:S42) (L6:S43) (L5:S44) (v:∀ (h_:al),gl h_->VC15 h_ (fun r=>r=cV h_)):S15:=by
 intro w X h_ a1 c1 a2 c2   hp h1 h2
 refine (W15 L8 L7 L6 L5 w X h_ a1 c1 a2 c2   _ (v h_ hp) h1 h2).mono ?_
 rintro _ _ _ _ ⟨r,rfl,h⟩
 exact h
theorem W9 (Fi:S15) (w0) (X0) (h_:al) (a1) (c1) (a2) (c2) (Q:Bool × Int->Prop) (hm:VC9 h_ Q) (h1:RS aB w0 X0 a1 h_.ae c1) (h2:RS aP w0 X0 a2 h_.aq c2) :
  Ret Tryz.prog 9 #[.agg #[.slice a1 h_.ae.length c1,.slice a2 h_.aq.length c2]] aL w0 X0 (fun w X' v=>∃ r,Q r/\v=.tuple #[.bool r.1,.int .i64 r.2]):=by
 unfold VC9 at hm
 replace hm:=hm (h1.sm kr)
 replace hm:=hm (h2.sm kr)
 refine enter Tryz.func9 rfl (vals:=[.agg #[.slice a1 h_.ae.length c1,.slice a2 h_.aq.length c2]]) kr ?_
 intro Z a hS hO hM
 replace h1:=h1.m0 hM
 replace h2:=h2.m0 hM
 refine rM T hS ⟨[(1,Pt 2 0)],[(2,(25,[Sl a1 h_.ae c1,Sl a2 h_.aq c2]))]⟩ fun Z a Gl Dq hS hE hr=>?_
 replace hO:=hO.m2 hE
 replace h1:=h1.m1 hE
 replace h2:=h2.m1 hE
 clear hE hr
 refine bq ?_
 refine oP T hS 1 ⟨[(7,V (.agg #[.slice a1 h_.ae.length c1,.slice a2 h_.aq.length c2]))],[]⟩ fun a hS=>?_
 obtain ⟨hq,hm⟩:=hm
 refine op1 (call hS kr kr hb15 kr (fun _ _=>rfl) (Fi _ _ h_ a1 c1 a2 c2 hq h1 h2) ?_)
 intro v101 a fp fx hE hp hS
 replace hO:=hO.m2 hE
 replace h1:=h1.m1 hE
 replace h2:=h2.m1 hE
 obtain ⟨dS,dR,hp,h107⟩:=hp
 obtain ⟨ax,hr⟩:∃ r,cV h_=r:=⟨_,rfl⟩
 replace hm:=hm ax hr
 rw [hr] at hp h107
 clear hr
 subst hp
 replace hm:=hm (h107.sm kr)
 refine ePe T hS [7,8] [(5,I ax.2)] fun a hS=>?_
 refine bg ?_
 refine rPe T hS [] [(12,B (ax.2 == 41))] fun a hS=>?_
 refine aJ hS (b:=(ax.2 == 41)) kr (fun hb=>?_) fun hb=>?_
 ·replace hm:=hm.1 hb
  refine rPe T hS [5,12] [(2,B false),(3,I 0)] fun a hS=>?_
  refine aY ?_
  exact fin T hS hO (fun c=>c) rfl (r:=[.bool false,.int .i64 0]) kr (fun X' hM hC=>⟨(false,0),hm,rfl⟩)
 replace hm:=hm.2 hb
 refine aM ?_
 refine rPe T hS [5,12] [(2,B (ax.2 == 0)),(3,I ax.2)] fun a hS=>?_
 refine aY ?_
 exact fin T hS hO (fun c=>c) rfl (r:=[.bool (ax.2 == 0),.int .i64 ax.2]) kr (fun X' hM hC=>⟨((ax.2 == 0),ax.2),hm,rfl⟩)
theorem C9 (Fi:S15) (v:∀ (h_:al),gl h_->VC9 h_ (fun r=>r=dF h_)):S9:=by
 intro w X h_ a1 c1 a2 c2   hp h1 h2
 refine (W9 Fi w X h_ a1 c1 a2 c2   _ (v h_ hp) h1 h2).mono ?_
 rintro _ _ _ _ ⟨r,rfl,h⟩
 exact h
theorem W32 (w0) (X0) (i_:Int) (ao:List aa) (ay:List ab) (aO:List Int) (bF:Int) (a1) (c1) (a2) (c2) (a3) (c3) (b1) (i1) (b2) (i2) (b3) (i3) (b4) (i4) (Q:Bool->Prop) (hm:VC32 i_ ao ay aO bF Q) (h1:RS av w0 X0 a1 ao c1) (h2:RS ar w0 X0 a2 ay c2) (h3:RS tI w0 X0 a3 aO c3) (fB:Cell w0 X0 b1 i1 26 [.slice a1 ao.length c1]) (gO:Cell w0 X0 b2 i2 42 [.slice a2 ay.length c2]) (lR:Cell w0 X0 b3 i3 43 [.slice a3 aO.length c3]) (ue:Cell w0 X0 b4 i4 3 [.int .i64 bF]) (hA:dZ [i1,i2,i3,i4]) :
  Ret Tryz.prog 32 #[.int .i64 i_,.pointer (some ⟨b1,0,none⟩),.pointer (some ⟨b2,0,none⟩),.pointer (some ⟨b3,0,none⟩),.pointer (some ⟨b4,0,none⟩)] (pR [i1,i2,i3,i4]) w0 X0 (fun w X' v=>∃ r,Q r/\v=.bool r/\Cell w X' b1 i1 26 [.slice a1 ao.length c1]/\Cell w X' b2 i2 42 [.slice a2 ay.length c2]/\Cell w X' b3 i3 43 [.slice a3 aO.length c3]/\Cell w X' b4 i4 3 [.int .i64 bF]):=by
 unfold VC32 at hm
 replace hm:=hm (h1.sm kr)
 replace hm:=hm (h2.sm kr)
 replace hm:=hm (h3.sm kr)
 refine fO Tryz.func32 rfl (dL (zAg1 i1 i2 i3 i4)) (fun id=>(bif Nat.beq id 901 then b1 else (bif Nat.beq id 902 then b2 else (bif Nat.beq id 903 then b3 else (bif Nat.beq id 904 then b4 else 0))))) (args:=[I i_,Pt 901 0,Pt 902 0,Pt 903 0,Pt 904 0]) (bxs:=[(901,(26,[Sl a1 ao c1])),(902,(42,[Sl a2 ay c2])),(903,(43,[Sl a3 aO c3])),(904,(3,[I bF]))]) kr rfl (bu.cons kr (fB.map (bQ 0 hA.1 rfl)) (bu.cons kr (gO.map (bQ 1 hA.1 rfl)) (bu.cons kr (lR.map (bQ 2 hA.1 rfl)) (bu.cons kr (ue.map (bQ 3 hA.1 rfl)) bu.nil)))) (fD (fun q hq=>(hA.2 q.1 (List.mem_map.2 ⟨q,hq,rfl⟩)).1)) ?_
 intro a hS hO hM
 have hP:Pin [(901,b1),(902,b2),(903,b3),(904,b4)] (fun id=>(bif Nat.beq id 901 then b1 else (bif Nat.beq id 902 then b2 else (bif Nat.beq id 903 then b3 else (bif Nat.beq id 904 then b4 else 0))))):=by intro q hq; simp at hq; rcases hq with rfl | rfl | rfl | rfl <;> rfl
 generalize (fun id=>(bif Nat.beq id 901 then b1 else (bif Nat.beq id 902 then b2 else (bif Nat.beq id 903 then b3 else (bif Nat.beq id 904 then b4 else 0)))))=Z at hS hP
 clear fB gO lR ue
 replace h1:=h1.m0 hM
 replace h2:=h2.m0 hM
 replace h3:=h3.m0 hM
 refine rPe T hS [] [] fun a hS=>?_
 refine bq ?_
 refine oPe T hS 2 [0,1] [(8,Sl a1 ao c1),(9,I i_)] fun a hS=>?_
 obtain ⟨hq,hm⟩:=hm
 refine op1 (index (e:=56) (k:=.i64) T hS kr kr kr kr h1 kr kr hq.1 hq.2 ?_)
 intro Kx a h102 hS
 refine op1 (fw (off:=0) (fsz:=1) (ft:=3) (TF:=tI) (y:=(gi ao i_).Oper) T hS kr kr kr h102 kr kr kr (fun cs h=>hG h) ?_)
 intro uE a h104 hS
 refine op1 (dW T hS kr kr kr h104 rfl kr ?_)
 intro v105 a hv hS
 cases hv
 refine ePe T hS [8,9,10,11,12] [(7,I ((gi ao i_).Oper))] fun a hS=>?_
 refine dG [901,902,903,904] mixed hS ?_
 intro ny m9 hS hE hD hH
 replace hO:=hO.m2 hE
 replace h1:=h1.m1 hE
 replace h2:=h2.m1 hE
 replace h3:=h3.m1 hE
 refine tke T [0,1,2] [901,902,903,904] hS hH #[true,true,true,false,false,false,false,false,false,false,false,false,false,false,false,false,false] 14 [] [(15,B (decide (((gi ao i_).Oper) < 0)))] fun a hS=>?_
 refine j7 (tc:=15) (b:=decide (((gi ao i_).Oper) < 0)) (f:=fun c=>⟨[(3,Pt 903 0),(4,Pt 904 0),(7,I ((gi ao i_).Oper)),(20,B (c || (decide (((gi ao i_).Oper)≥(lN ay)))))],[(901,(26,[Sl a1 ao c1])),(902,(42,[Sl a2 ay c2])),(903,(43,[Sl a3 aO c3])),(904,(3,[I bF]))]⟩) T [3,4,5,6,7] [901,902,903,904] [3,4,7,20] hS kr kr kr kr hH (listed':=#[true,true,true,true,true,true,true,true,false,false,false,false,false,false,false,false,false]) (fuel:=9) kr kr (by rfl) ?_
 intro a hS
 refine tke T [8] [901,902,903,904] hS hH #[true,true,true,true,true,true,true,true,true,false,false,false,false,false,false,false,false] 8 [20] [(21,B ((decide (((gi ao i_).Oper) < 0)) || (decide (((gi ao i_).Oper)≥(lN ay)))))] fun a hS=>?_
 rcases bft ((decide (((gi ao i_).Oper) < 0)) || (decide (((gi ao i_).Oper)≥(lN ay)))) with hb | hb
 ·replace hS:=hS.lit (t:=21) kr hb
  replace hm:=hm.1 hb
  refine tke T [9,10,13,11,12,14,15,16] [901,902,903,904] hS hH (tts 17) 0 [3,4,7,21] [(6,B true)] fun a hS=>?_
  refine aX kr ?_
  replace hS:=hS.sle [] []
  refine aY ?_
  exact gW T hS hO (fun c h=>b0 kr h) (fun c h=>b5 (l:=(zAg1 i1 i2 i3 i4)) h) (bU (zAg1 i1 i2 i3 i4)) rfl (r:=[.bool true]) kr (fun X' hM hC=>⟨true,hm,rfl,((hS.cell (id:=901) (t:=26) (cs:=[Sl a1 ao c1]) kr).out (f:=(bU (zAg1 i1 i2 i3 i4))) hC kr kr (hP.at 0 rfl)),((hS.cell (id:=902) (t:=42) (cs:=[Sl a2 ay c2]) kr).out (f:=(bU (zAg1 i1 i2 i3 i4))) hC kr kr (hP.at 1 rfl)),((hS.cell (id:=903) (t:=43) (cs:=[Sl a3 aO c3]) kr).out (f:=(bU (zAg1 i1 i2 i3 i4))) hC kr kr (hP.at 2 rfl)),((hS.cell (id:=904) (t:=3) (cs:=[I bF]) kr).out (f:=(bU (zAg1 i1 i2 i3 i4))) hC kr kr (hP.at 3 rfl))⟩)
 replace hS:=hS.lit (t:=21) kr hb
 replace hm:=hm.2 hb
 refine tke T [9,10,13] [901,902,903,904] hS hH #[true,true,true,true,true,true,true,true,true,true,true,false,false,true,false,false,false] 5 [3,4,7] [(22,Sl a3 aO c3),(23,I ((gi ao i_).Oper)),(26,I bF)] fun a hS=>?_
 obtain ⟨hq,hm⟩:=hm
 refine dm (e:=3) (k:=.i64) T 11 hS kr kr kr (by rfl) kr hH kr kr h3 kr kr hq.1 hq.2 ?_
 intro Od a h109 hS
 have Js:=h109.here
 refine eu T 12 hS kr kr kr (by rfl) kr hH kr h109 Js rfl kr ?_
 intro v110 a hv hS
 cases hv
 refine tke T [14,15,16] [901,902,903,904] hS hH (tts 17) 0 [21,22,23,26,24,25] [(6,B ((gi aO ((gi ao i_).Oper)) == bF))] fun a hS=>?_
 refine aX kr ?_
 replace hS:=hS.sle [] []
 refine aY ?_
 exact gW T hS hO (fun c h=>b0 kr h) (fun c h=>b5 (l:=(zAg1 i1 i2 i3 i4)) h) (bU (zAg1 i1 i2 i3 i4)) rfl (r:=[.bool ((gi aO ((gi ao i_).Oper)) == bF)]) kr (fun X' hM hC=>⟨((gi aO ((gi ao i_).Oper)) == bF),hm,rfl,((hS.cell (id:=901) (t:=26) (cs:=[Sl a1 ao c1]) kr).out (f:=(bU (zAg1 i1 i2 i3 i4))) hC kr kr (hP.at 0 rfl)),((hS.cell (id:=902) (t:=42) (cs:=[Sl a2 ay c2]) kr).out (f:=(bU (zAg1 i1 i2 i3 i4))) hC kr kr (hP.at 1 rfl)),((hS.cell (id:=903) (t:=43) (cs:=[Sl a3 aO c3]) kr).out (f:=(bU (zAg1 i1 i2 i3 i4))) hC kr kr (hP.at 2 rfl)),((hS.cell (id:=904) (t:=3) (cs:=[I bF]) kr).out (f:=(bU (zAg1 i1 i2 i3 i4))) hC kr kr (hP.at 3 rfl))⟩)
theorem C32 (v:∀ (i_:Int) (ao:List aa) (ay:List ab) (aO:List Int) (bF:Int),yz i_ ao ay aO bF->VC32 i_ ao ay aO bF (fun r=>r=dN i_ ao ay aO bF)):S32:=by
 intro w X i_ ao ay aO bF a1 c1 a2 c2 a3 c3  b1 i1 b2 i2 b3 i3 b4 i4 hp h1 h2 h3 fB gO lR ue hA
 refine (W32 w X i_ ao ay aO bF a1 c1 a2 c2 a3 c3  b1 i1 b2 i2 b3 i3 b4 i4 _ (v i_ ao ay aO bF hp) h1 h2 h3 fB gO lR ue hA).mono ?_
 rintro _ _ _ _ ⟨r,rfl,h⟩
 exact h
theorem W31_32 (Me:S32) (w0) (X0) (l_:List aa) (ao:List aa) (ay:List ab) (aO:List Int) (bF:Int) (a1) (c1) (a2) (c2) (a3) (c3) (a4) (c4) (b1) (i1) (b2) (i2) (b3) (i3) (b4) (i4) (Q:(List aa)->Prop) (hm:VC31_32 l_ ao ay aO bF Q) (h1:RS av w0 X0 a1 l_ c1) (h2:RS av w0 X0 a2 ao c2) (h3:RS ar w0 X0 a3 ay c3) (h4:RS tI w0 X0 a4 aO c4) (fB:Cell w0 X0 b1 i1 26 [.slice a2 ao.length c2]) (gO:Cell w0 X0 b2 i2 42 [.slice a3 ay.length c3]) (lR:Cell w0 X0 b3 i3 43 [.slice a4 aO.length c4]) (ue:Cell w0 X0 b4 i4 3 [.int .i64 bF]) (hA:dZ [i1,i2,i3,i4]) :
  Ret Tryz.prog 31 #[.slice a1 l_.length c1,.func (.func 32) #[] #[.pointer (some ⟨b1,0,none⟩),.pointer (some ⟨b2,0,none⟩),.pointer (some ⟨b3,0,none⟩),.pointer (some ⟨b4,0,none⟩)]] (pR [i1,i2,i3,i4]) w0 X0 (fun w X' v=>∃ r,Q r/\∃ cz cy,v=.slice cz r.length cy/\RS av w X' cz r cy/\Cell w X' b1 i1 26 [.slice a2 ao.length c2]/\Cell w X' b2 i2 42 [.slice a3 ay.length c3]/\Cell w X' b3 i3 43 [.slice a4 aO.length c4]/\Cell w X' b4 i4 3 [.int .i64 bF]):=by
 unfold VC31_32 at hm
 replace hm:=hm (h1.sm kr)
 replace hm:=hm (h2.sm kr)
 replace hm:=hm (h3.sm kr)
 replace hm:=hm (h4.sm kr)
 refine fO Tryz.func31 rfl (dL (zAg1 i1 i2 i3 i4)) (fun id=>(bif Nat.beq id 901 then b1 else (bif Nat.beq id 902 then b2 else (bif Nat.beq id 903 then b3 else (bif Nat.beq id 904 then b4 else 0))))) (args:=[Sl a1 l_ c1,.f (.func 32) [] [.p 901 0,.p 902 0,.p 903 0,.p 904 0]]) (bxs:=[(901,(26,[Sl a2 ao c2])),(902,(42,[Sl a3 ay c3])),(903,(43,[Sl a4 aO c4])),(904,(3,[I bF]))]) kr rfl (bu.cons kr (fB.map (bQ 0 hA.1 rfl)) (bu.cons kr (gO.map (bQ 1 hA.1 rfl)) (bu.cons kr (lR.map (bQ 2 hA.1 rfl)) (bu.cons kr (ue.map (bQ 3 hA.1 rfl)) bu.nil)))) (fD (fun q hq=>(hA.2 q.1 (List.mem_map.2 ⟨q,hq,rfl⟩)).1)) ?_
 intro a hS hO hM
 have hP:Pin [(901,b1),(902,b2),(903,b3),(904,b4)] (fun id=>(bif Nat.beq id 901 then b1 else (bif Nat.beq id 902 then b2 else (bif Nat.beq id 903 then b3 else (bif Nat.beq id 904 then b4 else 0))))):=by intro q hq; simp at hq; rcases hq with rfl | rfl | rfl | rfl <;> rfl
 generalize (fun id=>(bif Nat.beq id 901 then b1 else (bif Nat.beq id 902 then b2 else (bif Nat.beq id 903 then b3 else (bif Nat.beq id 904 then b4 else 0)))))=Z at hS hP
 clear fB gO lR ue
 replace h1:=h1.m0 hM
 replace h2:=h2.m0 hM
 replace h3:=h3.m0 hM
 replace h4:=h4.m0 hM
 refine rPe T hS [] [] fun a hS=>?_
 refine rPe T hS [] [(5,V (.slice none 0 0))] fun a hS=>?_
 refine cb (fun a w=>∃ (Z:Nat->Nat) (X:Nat->Nat) (bE:List aa) (dy:Option Addr) (dx:Nat),VC31_32_J1 Q bE/\St Tryz.f31.ntmps ⟨[(5,Sl dy bE dx)],[(901,(26,[Sl a2 ao c2])),(902,(42,[Sl a3 ay c3])),(903,(43,[Sl a4 aO c4])),(904,(3,[I bF]))]⟩ Z a w X/\gj (dL (zAg1 i1 i2 i3 i4)) w0 X0 w X/\Pin [(901,b1),(902,b2),(903,b3),(904,b4)] Z/\OS av 56 w X 1005 dy bE dx/\RS av w X a2 ao c2/\RS ar w X a3 ay c3/\RS tI w X a4 aO c4) ?_ ?_
 ·refine rPe T hS [0] [(8,Sl a1 l_ c1),(9,I (lN l_)),(10,I 0)] fun a hS=>?_
  refine aN ?_
  obtain ⟨I1,μ1,cx,hm⟩:=hm
  refine ct (σ:=(List aa) × Int) (fun s a w=>∃ Z X jb iZ,I1 s.1 s.2/\St Tryz.f31.ntmps ⟨[(1,.f (.func 32) [] [.p 901 0,.p 902 0,.p 903 0,.p 904 0]),(5,Sl jb s.1 iZ),(8,Sl a1 l_ c1),(9,I (lN l_)),(10,I s.2)],[(901,(26,[Sl a2 ao c2])),(902,(42,[Sl a3 ay c3])),(903,(43,[Sl a4 aO c4])),(904,(3,[I bF]))]⟩ Z a w X/\gj (dL (zAg1 i1 i2 i3 i4)) w0 X0 w X/\Pin [(901,b1),(902,b2),(903,b3),(904,b4)] Z/\OS av 56 w X 1005 jb s.1 iZ/\RS av w X a1 l_ c1/\RS av w X a2 ao c2/\RS ar w X a3 ay c3/\RS tI w X a4 aO c4) (fun s=>μ1 s.1 s.2) (⟨[],0⟩) ?_ ?_
  ·exact ⟨Z,_,none,0,cx,hS.sl _,hO,hP,(OS.nil _ _ _ _ _),h1,h2,h3,h4⟩
  rintro ⟨bL,bw⟩ a Ge ⟨Z,HD,jb,iZ,hI,hS,hO,hP,h113,h114,h116,h117,h118⟩
  replace hm:=hm bL bw hI
  clear hI cx
  refine rPe T hS [] [(11,B (decide (bw < (lN l_))))] fun a hS=>?_
  refine bg ?_
  refine aJ hS (b:=decide (bw < (lN l_))) kr (fun hb=>?_) fun hb=>?_
  ·replace hm:=hm.1 hb
   refine aM ?_
   refine cb (fun a w=>∃ (Z:Nat->Nat) (X:Nat->Nat) (bp:List aa) (ib:Option Addr) (hZ:Nat),VC31_32_J2 I1 μ1 bL bw bp/\St Tryz.f31.ntmps ⟨[(1,.f (.func 32) [] [.p 901 0,.p 902 0,.p 903 0,.p 904 0]),(5,Sl ib bp hZ),(8,Sl a1 l_ c1),(9,I (lN l_)),(10,I bw)],[(901,(26,[Sl a2 ao c2])),(902,(42,[Sl a3 ay c3])),(903,(43,[Sl a4 aO c4])),(904,(3,[I bF]))]⟩ Z a w X/\gj (dL (zAg1 i1 i2 i3 i4)) w0 X0 w X/\Pin [(901,b1),(902,b2),(903,b3),(904,b4)] Z/\OS av 56 w X 1005 ib bp hZ/\RS av w X a1 l_ c1/\RS av w X a2 ao c2/\RS ar w X a3 ay c3/\RS tI w X a4 aO c4) ?_ ?_
   ·refine aN ?_
    refine bq ?_
    refine oPe T hS 1 [11] [(12,I bw)] fun a hS=>?_
    obtain ⟨hq,hm⟩:=hm
    refine op1 (index (e:=56) (k:=.i64) T hS kr kr kr kr h114 kr kr hq.1 hq.2 ?_)
    intro N8 a h128 hS
    refine op1 (eU T hS kr kr kr h128 kr kr ?_)
    intro v129 a hv hS
    subst hv
    refine eM T hS ⟨[(1,.f (.func 32) [] [.p 901 0,.p 902 0,.p 903 0,.p 904 0]),(5,Sl jb bL iZ),(6,I bw),(7,Pt 8 0),(8,Sl a1 l_ c1),(9,I (lN l_)),(10,I bw)],[(8,(56,(cK (gi l_ bw)))),(901,(26,[Sl a2 ao c2])),(902,(42,[Sl a3 ay c3])),(903,(43,[Sl a4 aO c4])),(904,(3,[I bF]))]⟩ fun Z a wQ AY hS hE hr=>?_
    replace hO:=hO.m2 hE
    replace h113:=h113.m2 hE
    replace h114:=h114.m1 hE
    replace h116:=h116.m1 hE
    replace h117:=h117.m1 hE
    replace h118:=h118.m1 hE
    replace hP:=hP.mv hr kr
    clear hE hr
    refine bq ?_
    refine oPe T hS 2 [6] [(15,.f (.func 32) [] [.p 901 0,.p 902 0,.p 903 0,.p 904 0]),(16,I bw)] fun a hS=>?_
    obtain ⟨hq,hm⟩:=hm
    refine op1 (kx (fi:=[]) (cp:=[.p 901 0,.p 902 0,.p 903 0,.p 904 0]) hS kr kr hb32 kr kr (Me _ _ bw ao ay aO bF a2 c2 a3 c3 a4 c4 (Z 901) 901 (Z 902) 902 (Z 903) 903 (Z 904) 904 hq h116 h117 h118 (hS.cell (id:=901) (t:=26) (cs:=[Sl a2 ao c2]) kr) (hS.cell (id:=902) (t:=42) (cs:=[Sl a3 ay c3]) kr) (hS.cell (id:=903) (t:=43) (cs:=[Sl a4 aO c4]) kr) (hS.cell (id:=904) (t:=3) (cs:=[I bF]) kr) ⟨by decide,by decide⟩) ?_)
    intro v130 a pU pq hE hp hS
    replace hO:=hO.m2 hE
    replace h113:=h113.m2 hE
    replace h114:=h114.m1 hE
    replace h116:=h116.m1 hE
    replace h117:=h117.m1 hE
    replace h118:=h118.m1 hE
    obtain ⟨hp,FI,FH,FG,vz⟩:=hp
    obtain ⟨gk,hr⟩:∃ r,dN bw ao ay aO bF=r:=⟨_,rfl⟩
    replace hm:=hm gk hr
    rw [hr] at hp
    clear hr
    subst hp
    replace hS:=hS.cQ (id:=901) (t:=26) (cs:=[Sl a2 ao c2]) kr FI
    replace hS:=hS.cQ (id:=902) (t:=42) (cs:=[Sl a3 ay c3]) kr FH
    replace hS:=hS.cQ (id:=903) (t:=43) (cs:=[Sl a4 aO c4]) kr FG
    replace hS:=hS.cQ (id:=904) (t:=3) (cs:=[I bF]) kr vz
    clear FI FH FG vz
    refine gY ?_
    refine aJ hS (b:=gk) kr (fun hb=>?_) fun hb=>?_
    ·replace hm:=hm.1 hb
     refine region ?_
     refine oP T hS 2 ⟨[(1,.f (.func 32) [] [.p 901 0,.p 902 0,.p 903 0,.p 904 0]),(5,Sl jb bL iZ),(8,Sl a1 l_ c1),(9,I (lN l_)),(10,I bw),(18,Sl jb bL iZ),(19,V (.agg #[.int .i64 ((gi l_ bw).Oper),.int .i64 ((gi l_ bw).Result)]))],[(901,(26,[Sl a2 ao c2])),(902,(42,[Sl a3 ay c3])),(903,(43,[Sl a4 aO c4])),(904,(3,[I bF]))]⟩ fun a hS=>?_
     refine op1 (lit (E:=56) (col:=0) (T:=av) (vals:=[.agg #[.int .i64 ((gi l_ bw).Oper),.int .i64 ((gi l_ bw).Result)]]) (ys:=[(gi l_ bw)]) T hS kr kr kr kr (by exact ⟨rfl,trivial⟩) rfl kr kr kr kr ?_)
     intro b138 a tj wA hE h141 hN hS
     clear hN
     replace hO:=hO.m2 hE
     replace h113:=h113.m2 hE
     replace h114:=h114.m1 hE
     replace h116:=h116.m1 hE
     replace h117:=h117.m1 hE
     replace h118:=h118.m1 hE
     replace h141:=h141.rs0
     obtain ⟨hq,hm⟩:=hm
     obtain ⟨news,hN⟩:=h141.src
     refine op1 (append (E:=56) (T:=av) (col:=1005) (xs:=bL) T hS kr kr kr kr h113 hN kr kr kr kr hq ?_)
     intro wy wh a qn sa hE h144 hS
     clear hq hN
     clear h113
     replace hO:=hO.m2 hE
     replace h114:=h114.m1 hE
     replace h116:=h116.m1 hE
     replace h117:=h117.m1 hE
     replace h118:=h118.m1 hE
     replace h141:=h141.m1 hE
     refine ePe T hS [19,20,21] [(5,Sl wy (bL++[(gi l_ bw)]) wh)] fun a hS=>?_
     exact ⟨Z,_,bL++[(gi l_ bw)],wy,wh,hm,hS.sl _,hO,hP,h144,h114,h116,h117,h118⟩
    replace hm:=hm.2 hb
    refine aM ?_
    exact ⟨Z,_,bL,jb,iZ,hm,hS.sl _,hO,hP,h113,h114,h116,h117,h118⟩
   rintro a Bn ⟨Z,xY,bp,ib,hZ,hm,hS,hO,hP,h122,h123,h124,h125,h126⟩
   unfold VC31_32_J2 at hm
   refine region (ePe T hS [] [(10,I (wR (bw+1)))] fun a hS=>?_)
   exact ⟨⟨bp,wR (bw+1)⟩,⟨Z,_,ib,hZ,hm.1,hS.sl _,hO,hP,h122,h123,h124,h125,h126⟩,hm.2⟩
  replace hm:=hm.2 hb
  refine cm (by rfl) ?_
  exact ⟨Z,_,bL,jb,iZ,hm,hS.sl _,hO,hP,h113,h116,h117,h118⟩
 rintro a ti ⟨Z,Ki,bE,dy,dx,hm,hS,hO,hP,h104,h105,h106,h107⟩
 unfold VC31_32_J1 at hm
 refine rPe T hS [5] [(4,Sl dy bE dx)] fun a hS=>?_
 refine aY ?_
 obtain ⟨qa,hE,hF⟩:=h104.freeze (by decide)
 replace hS:=hS.ev hE (cA kr)
 replace hO:=hO.m2 hE
 replace h105:=h105.m1 hE
 replace h106:=h106.m1 hE
 replace h107:=h107.m1 hE
 have h109:=hF; clear hE hF
 exact gW T hS hO (fun c h=>b0 kr h) (fun c h=>b5 (l:=(zAg1 i1 i2 i3 i4)) h) (bU (zAg1 i1 i2 i3 i4)) rfl (r:=[.slice dy bE.length dx]) kr (fun X' hM hC=>⟨bE,hm,dy,dx,rfl,h109.m0 hM,((hS.cell (id:=901) (t:=26) (cs:=[Sl a2 ao c2]) kr).out (f:=(bU (zAg1 i1 i2 i3 i4))) hC kr kr (hP.at 0 rfl)),((hS.cell (id:=902) (t:=42) (cs:=[Sl a3 ay c3]) kr).out (f:=(bU (zAg1 i1 i2 i3 i4))) hC kr kr (hP.at 1 rfl)),((hS.cell (id:=903) (t:=43) (cs:=[Sl a4 aO c4]) kr).out (f:=(bU (zAg1 i1 i2 i3 i4))) hC kr kr (hP.at 2 rfl)),((hS.cell (id:=904) (t:=3) (cs:=[I bF]) kr).out (f:=(bU (zAg1 i1 i2 i3 i4))) hC kr kr (hP.at 3 rfl))⟩)
theorem C31_32 (Me:S32) (v:∀ (l_:List aa) (ao:List aa) (ay:List ab) (aO:List Int) (bF:Int),yy l_ ao ay aO bF->VC31_32 l_ ao ay aO bF (fun r=>r=bR l_ ao ay aO bF)):S31_32:=by
 intro w X l_ ao ay aO bF a1 c1 a2 c2 a3 c3 a4 c4  b1 i1 b2 i2 b3 i3 b4 i4 hp h1 h2 h3 h4 fB gO lR ue hA
 refine (W31_32 Me w X l_ ao ay aO bF a1 c1 a2 c2 a3 c3 a4 c4  b1 i1 b2 i2 b3 i3 b4 i4 _ (v l_ ao ay aO bF hp) h1 h2 h3 h4 fB gO lR ue hA).mono ?_
 rintro _ _ _ _ ⟨r,rfl,h⟩
 exact h
theorem W12 (rY:S23) (Cd:S24) (xB:S31_32) (GR:S33) (GQ:S34) (GP:S35) (w0) (X0) (h_:al) (ah:List aa) (a1) (c1) (a2) (c2) (a3) (c3) (Q:Bool->Prop) (hm:VC12 h_ ah Q) (h1:RS aB w0 X0 a1 h_.ae c1) (h2:RS aP w0 X0 a2 h_.aq c2) (h3:RS av w0 X0 a3 ah c3) :
  Ret Tryz.prog 12 #[.agg #[.slice a1 h_.ae.length c1,.slice a2 h_.aq.length c2],.slice a3 ah.length c3] aL w0 X0 (fun w X' v=>∃ r,Q r/\v=.bool r):=by
 unfold VC12 at hm
 replace hm:=hm (h1.sm kr)
 replace hm:=hm (h2.sm kr)
 replace hm:=hm (h3.sm kr)
 refine enter Tryz.func12 rfl (vals:=[.agg #[.slice a1 h_.ae.length c1,.slice a2 h_.aq.length c2],.slice a3 ah.length c3]) kr ?_
 intro Z a hS hO hM
 replace h1:=h1.m0 hM
 replace h2:=h2.m0 hM
 replace h3:=h3.m0 hM
 refine rM T hS ⟨[(2,Pt 3 0),(3,Pt 4 0)],[(3,(25,[Sl a1 h_.ae c1,Sl a2 h_.aq c2])),(4,(26,[Sl a3 ah c3]))]⟩ fun Z a DQ EY hS hE hr=>?_
 replace hO:=hO.m2 hE
 replace h1:=h1.m1 hE
 replace h2:=h2.m1 hE
 replace h3:=h3.m1 hE
 clear hE hr
 refine bg ?_
 refine bq ?_
 refine oPe T hS 1 [] [(16,V (.agg #[.slice a1 h_.ae.length c1,.slice a2 h_.aq.length c2]))] fun a hS=>?_
 obtain ⟨hq,hm⟩:=hm
 refine op1 (call hS kr kr hb23 kr (fun _ _=>rfl) (rY _ _ h_ a1 c1 a2 c2 hq h1 h2) ?_)
 intro v101 a fp fx hE hp hS
 replace hO:=hO.m2 hE
 replace h1:=h1.m1 hE
 replace h2:=h2.m1 hE
 replace h3:=h3.m1 hE
 obtain ⟨ax,hr⟩:∃ r,aE h_=r:=⟨_,rfl⟩
 replace hm:=hm ax hr
 rw [hr] at hp
 clear hr
 subst hp
 refine ePe T hS [16,17] [(6,I ax.2)] fun a hS=>?_
 refine rPe T hS [6] [(21,B (ax.2 != 0))] fun a hS=>?_
 refine aJ hS (b:=(ax.2 != 0)) kr (fun hb=>?_) fun hb=>?_
 ·replace hm:=hm.1 hb
  refine rP T hS ⟨[(4,B false)],[]⟩ fun a hS=>?_
  refine aY ?_
  exact fin T hS hO (fun c=>c) rfl (r:=[.bool false]) kr (fun X' hM hC=>⟨false,hm,rfl⟩)
 replace hm:=hm.2 hb
 refine aM ?_
 refine bq ?_
 refine oPe T hS 1 [21] [(23,V (.agg #[.slice a1 h_.ae.length c1,.slice a2 h_.aq.length c2]))] fun a hS=>?_
 obtain ⟨hq,hm⟩:=hm
 refine op1 (call hS kr kr hb24 kr (fun _ _=>rfl) (Cd _ _ h_ a1 c1 a2 c2 hq h1 h2) ?_)
 intro v105 a ny m9 hE hp hS
 replace hO:=hO.m2 hE
 replace h1:=h1.m1 hE
 replace h2:=h2.m1 hE
 replace h3:=h3.m1 hE
 obtain ⟨cI,cH,g9,g7,hp,h111,h114⟩:=hp
 obtain ⟨ba,hr⟩:∃ r,cN h_=r:=⟨_,rfl⟩
 replace hm:=hm ba hr
 rw [hr] at hp h111 h114
 clear hr
 subst hp
 replace hm:=hm (h111.sm kr)
 replace hm:=hm (h114.sm kr)
 refine eM T hS ⟨[(2,Pt 3 0),(3,Pt 4 0),(7,Pt 8 0),(8,Pt 9 0)],[(3,(25,[Sl a1 h_.ae c1,Sl a2 h_.aq c2])),(4,(26,[Sl a3 ah c3])),(8,(42,[Sl cI ba.1 cH])),(9,(43,[Sl g9 ba.2 g7]))]⟩ fun Z a Bl Di hS hE hr=>?_
 replace hO:=hO.m2 hE
 replace h1:=h1.m1 hE
 replace h2:=h2.m1 hE
 replace h3:=h3.m1 hE
 replace h111:=h111.m1 hE
 replace h114:=h114.m1 hE
 clear hE hr
 refine cb (fun a w=>∃ Z X,VC12_J1 ah Q ba/\St Tryz.f12.ntmps ⟨[(3,Pt 4 0),(7,Pt 8 0)],[(4,(26,[Sl a3 ah c3])),(8,(42,[Sl cI ba.1 cH]))]⟩ Z a w X/\Old w0 X0 w X/\RS av w X a3 ah c3/\RS ar w X cI ba.1 cH) ?_ ?_
 ·refine rP T hS ⟨[(3,Pt 4 0),(7,Pt 8 0),(8,Pt 9 0),(28,Sl a1 h_.ae c1),(29,I (lN h_.ae)),(30,I 0)],[(4,(26,[Sl a3 ah c3])),(8,(42,[Sl cI ba.1 cH])),(9,(43,[Sl g9 ba.2 g7]))]⟩ fun a hS=>?_
  refine aN ?_
  obtain ⟨I1,μ1,cx,hm⟩:=hm
  refine ct (σ:=Int) (fun s a w=>∃ Z X,I1 s/\St Tryz.f12.ntmps ⟨[(3,Pt 4 0),(7,Pt 8 0),(8,Pt 9 0),(28,Sl a1 h_.ae c1),(29,I (lN h_.ae)),(30,I s)],[(4,(26,[Sl a3 ah c3])),(8,(42,[Sl cI ba.1 cH])),(9,(43,[Sl g9 ba.2 g7]))]⟩ Z a w X/\Old w0 X0 w X/\RS aB w X a1 h_.ae c1/\RS av w X a3 ah c3/\RS ar w X cI ba.1 cH/\RS tI w X g9 ba.2 g7) (fun s=>μ1 s) (0) ?_ ?_
  ·exact ⟨Z,_,cx,hS.sl _,hO,h1,h3,h111,h114⟩
  rintro kK a zG ⟨Z,Dj,hI,hS,hO,h128,h130,h131,h132⟩
  replace hm:=hm kK hI
  clear hI cx
  refine rPe T hS [] [(31,B (decide (kK < (lN h_.ae))))] fun a hS=>?_
  refine bg ?_
  refine aJ hS (b:=decide (kK < (lN h_.ae))) kr (fun hb=>?_) fun hb=>?_
  ·replace hm:=hm.1 hb
   refine aM (bg ?_)
   refine aN ?_
   refine bq ?_
   refine oPe T hS 1 [31] [(32,I kK)] fun a hS=>?_
   obtain ⟨hq,hm⟩:=hm
   refine op1 (index (e:=48) (k:=.i64) T hS kr kr kr kr h128 kr kr hq.1 hq.2 ?_)
   intro N6 a h134 hS
   refine op1 (eU T hS kr kr kr h134 kr kr ?_)
   intro v135 a hv hS
   obtain ⟨nT,nP,hv,h138⟩:=hv
   subst hv
   replace hm:=hm (h138.sm kr)
   refine eM T hS ⟨[(3,Pt 4 0),(7,Pt 8 0),(8,Pt 9 0),(9,Pt 10 0),(10,Pt 11 0),(28,Sl a1 h_.ae c1),(29,I (lN h_.ae)),(30,I kK)],[(4,(26,[Sl a3 ah c3])),(8,(42,[Sl cI ba.1 cH])),(9,(43,[Sl g9 ba.2 g7])),(10,(3,[I kK])),(11,(48,(cO (gi h_.ae kK) nT nP)))]⟩ fun Z a ti xW hS hE hr=>?_
   replace hO:=hO.m2 hE
   replace h128:=h128.m1 hE
   replace h130:=h130.m1 hE
   replace h131:=h131.m1 hE
   replace h132:=h132.m1 hE
   replace h138:=h138.m1 hE
   clear hE hr
   refine bq ?_
   refine oPe T hS 2 [9] [(35,Sl a3 ah c3),(36,.f (.func 32) [] [.p 4 0,.p 8 0,.p 9 0,.p 10 0])] fun a hS=>?_
   obtain ⟨hq,hm⟩:=hm
   refine op1 (ma hS kr kr hb31 kr (xB _ _ ah ah ba.1 ba.2 kK a3 c3 a3 c3 cI cH g9 g7 (Z 4) 4 (Z 8) 8 (Z 9) 9 (Z 10) 10 hq h130 h130 h131 h132 (hS.cell (id:=4) (t:=26) (cs:=[Sl a3 ah c3]) kr) (hS.cell (id:=8) (t:=42) (cs:=[Sl cI ba.1 cH]) kr) (hS.cell (id:=9) (t:=43) (cs:=[Sl g9 ba.2 g7]) kr) (hS.cell (id:=10) (t:=3) (cs:=[I kK]) kr) ⟨by decide,by decide⟩) ?_)
   intro v139 a zH x3 hE hp hS
   replace hO:=hO.m2 hE
   replace h128:=h128.m1 hE
   replace h130:=h130.m1 hE
   replace h131:=h131.m1 hE
   replace h132:=h132.m1 hE
   replace h138:=h138.m1 hE
   obtain ⟨kQ,kO,hp,h145,vy,sS,FC,FB⟩:=hp
   obtain ⟨cc,hr⟩:∃ r,bR ah ah ba.1 ba.2 kK=r:=⟨_,rfl⟩
   replace hm:=hm cc hr
   rw [hr] at hp h145
   clear hr
   subst hp
   replace hm:=hm (h145.sm kr)
   replace hS:=hS.cQ (id:=4) (t:=26) (cs:=[Sl a3 ah c3]) kr vy
   replace hS:=hS.cQ (id:=8) (t:=42) (cs:=[Sl cI ba.1 cH]) kr sS
   replace hS:=hS.cQ (id:=9) (t:=43) (cs:=[Sl g9 ba.2 g7]) kr FC
   replace hS:=hS.cQ (id:=10) (t:=3) (cs:=[I kK]) kr FB
   clear vy sS FC FB
   refine eP T hS ⟨[(3,Pt 4 0),(7,Pt 8 0),(8,Pt 9 0),(10,Pt 11 0),(11,Sl kQ cc kO),(28,Sl a1 h_.ae c1),(29,I (lN h_.ae)),(30,I kK)],[(4,(26,[Sl a3 ah c3])),(8,(42,[Sl cI ba.1 cH])),(9,(43,[Sl g9 ba.2 g7])),(11,(48,(cO (gi h_.ae kK) nT nP)))]⟩ fun a hS=>?_
   refine bq ?_
   refine oP T hS 3 ⟨[(3,Pt 4 0),(7,Pt 8 0),(8,Pt 9 0),(28,Sl a1 h_.ae c1),(29,I (lN h_.ae)),(30,I kK),(39,V (.agg #[.int .i64 ((gi h_.ae kK).au),.int .i64 ((gi h_.ae kK).az),.int .i64 ((gi h_.ae kK).aH),.slice nT ((gi h_.ae kK).Rows).length nP])),(40,Sl cI ba.1 cH),(41,Sl kQ cc kO)],[(4,(26,[Sl a3 ah c3])),(8,(42,[Sl cI ba.1 cH])),(9,(43,[Sl g9 ba.2 g7]))]⟩ fun a hS=>?_
   obtain ⟨hq,hm⟩:=hm
   refine op1 (call hS kr kr hb33 kr (fun _ _=>rfl) (GR _ _ (gi h_.ae kK) ba.1 cc nT nP cI cH kQ kO hq h138 h131 h145) ?_)
   intro v150 a Gf xX hE hp hS
   replace hO:=hO.m2 hE
   replace h128:=h128.m1 hE
   replace h130:=h130.m1 hE
   replace h131:=h131.m1 hE
   replace h132:=h132.m1 hE
   replace h138:=h138.m1 hE
   replace h145:=h145.m1 hE
   obtain ⟨ve,hr⟩:∃ r,cS (gi h_.ae kK) ba.1 cc=r:=⟨_,rfl⟩
   replace hm:=hm ve hr
   rw [hr] at hp
   clear hr
   subst hp
   refine ePe T hS [39,40,41,42] [(14,I ve.2.2)] fun a hS=>?_
   refine rPe T hS [14] [(47,B (ve.2.2 != 0))] fun a hS=>?_
   refine aJ hS (b:=(ve.2.2 != 0)) kr (fun hb=>?_) fun hb=>?_
   ·replace hm:=hm.1 hb
    refine rP T hS ⟨[(4,B false)],[]⟩ fun a hS=>?_
    refine aY ?_
    exact fin T hS hO (fun c=>c) rfl (r:=[.bool false]) kr (fun X' hM hC=>⟨false,hm,rfl⟩)
   replace hm:=hm.2 hb
   refine aM ?_
   refine region (ePe T hS [47] [(30,I (wR (kK+1)))] fun a hS=>?_)
   exact ⟨wR (kK+1),⟨Z,_,hm.1,hS.sl _,hO,h128,h130,h131,h132⟩,hm.2⟩
  replace hm:=hm.2 hb
  refine cm (by rfl) ?_
  exact ⟨Z,_,hm,hS.sl _,hO,h130,h131⟩
 rintro a zF ⟨Z,AX,hm,hS,hO,h115,h116⟩
 unfold VC12_J1 at hm
 refine bq ?_
 refine oPe T hS 2 [] [(49,Sl cI ba.1 cH),(50,Sl a3 ah c3)] fun a hS=>?_
 refine op1 (call hS kr kr hb34 kr (fun _ _=>rfl) (GQ _ _ ba.1 ah cI cH a3 c3 h116 h115) ?_)
 intro v117 a Br Dp hE hp hS
 replace hO:=hO.m2 hE
 replace h115:=h115.m1 hE
 replace h116:=h116.m1 hE
 obtain ⟨ka,hr⟩:∃ r,cW ba.1 ah=r:=⟨_,rfl⟩
 replace hm:=hm ka hr
 rw [hr] at hp
 clear hr
 subst hp
 refine oPe T hS 2 [49,50,51] [(53,B (decide (ka < 0)))] fun a hS=>?_
 rcases bft (decide (ka < 0)) with hb | hb
 ·replace hS:=hS.lit (t:=53) kr hb
  replace hm:=hm.1 hb
  refine oP T hS 2 ⟨[(53,B true),(54,Sl cI ba.1 cH),(55,Sl a3 ah c3)],[]⟩ fun a hS=>?_
  obtain ⟨hq,hm⟩:=hm
  refine op1 (call hS kr kr hb35 kr (fun _ _=>rfl) (GP _ _ ba.1 ah cI cH a3 c3 hq h116 h115) ?_)
  intro v121 a uK uA hE hp hS
  replace hO:=hO.m2 hE
  replace h115:=h115.m1 hE
  replace h116:=h116.m1 hE
  obtain ⟨ja,iY,hp,h127⟩:=hp
  obtain ⟨dK,hr⟩:∃ r,b9 ba.1 ah=r:=⟨_,rfl⟩
  replace hm:=hm dK hr
  rw [hr] at hp h127
  clear hr
  subst hp
  replace hm:=hm (h127.sm kr)
  refine ePe T hS [53,54,55,56] [(4,B ((lN dK) == 0))] fun a hS=>?_
  refine aY ?_
  exact fin T hS hO (fun c=>c) rfl (r:=[.bool ((lN dK) == 0)]) kr (fun X' hM hC=>⟨((lN dK) == 0),hm,rfl⟩)
 replace hS:=hS.lit (t:=53) kr hb
 replace hm:=hm.2 hb
 refine eP T hS ⟨[(4,B false)],[]⟩ fun a hS=>?_
 refine aY ?_
 exact fin T hS hO (fun c=>c) rfl (r:=[.bool false]) kr (fun X' hM hC=>⟨false,hm,rfl⟩)
theorem C12 (rY:S23) (Cd:S24) (xB:S31_32) (GR:S33) (GQ:S34) (GP:S35) (v:∀ (h_:al) (ah:List aa),vh h_ ah->VC12 h_ ah (fun r=>r=gn h_ ah)):S12:=by
 intro w X h_ ah a1 c1 a2 c2 a3 c3   hp h1 h2 h3
 refine (W12 rY Cd xB GR GQ GP w X h_ ah a1 c1 a2 c2 a3 c3   _ (v h_ ah hp) h1 h2 h3).mono ?_
 rintro _ _ _ _ ⟨r,rfl,h⟩
 exact h
theorem W13 (GU:S16) (GS:S28) (Md:S36) (Mc:S37) (Mb:S38) (w0) (X0) (objects:List aj) (l_:List aG) (ah:List aa) (a1) (c1) (a2) (c2) (a3) (c3) (Q:Bool->Prop) (hm:VC13 objects l_ ah Q) (h1:RS aB w0 X0 a1 objects c1) (h2:RS bG w0 X0 a2 l_ c2) (h3:RS av w0 X0 a3 ah c3) :
  Ret Tryz.prog 13 #[.slice a1 objects.length c1,.slice a2 l_.length c2,.slice a3 ah.length c3] aL w0 X0 (fun w X' v=>∃ r,Q r/\v=.bool r):=by
 unfold VC13 at hm
 replace hm:=hm (h1.sm kr)
 replace hm:=hm (h2.sm kr)
 replace hm:=hm (h3.sm kr)
 refine enter Tryz.func13 rfl (vals:=[.slice a1 objects.length c1,.slice a2 l_.length c2,.slice a3 ah.length c3]) kr ?_
 intro Z a hS hO hM
 replace h1:=h1.m0 hM
 replace h2:=h2.m0 hM
 replace h3:=h3.m0 hM
 refine rPe T hS [] [] fun a hS=>?_
 refine bq ?_
 refine oPe T hS 2 [] [(19,Sl a1 objects c1),(20,Sl a2 l_ c2)] fun a hS=>?_
 obtain ⟨hq,hm⟩:=hm
 refine op1 (call hS kr kr hb28 kr (fun _ _=>rfl) (GS _ _ objects l_ a1 c1 a2 c2 hq h1 h2) ?_)
 intro v101 a fp fx hE hp hS
 replace hO:=hO.m2 hE
 replace h1:=h1.m1 hE
 replace h2:=h2.m1 hE
 replace h3:=h3.m1 hE
 obtain ⟨ax,hr⟩:∃ r,dJ objects l_=r:=⟨_,rfl⟩
 replace hm:=hm ax hr
 rw [hr] at hp
 clear hr
 subst hp
 refine ePe T hS [19,20,21] [(8,I ax.2)] fun a hS=>?_
 refine bg ?_
 refine rPe T hS [8] [(25,B (ax.2 != 0))] fun a hS=>?_
 refine aJ hS (b:=(ax.2 != 0)) kr (fun hb=>?_) fun hb=>?_
 ·replace hm:=hm.1 hb
  refine rPe T hS [0,1,2,25] [(6,B false)] fun a hS=>?_
  refine aY ?_
  exact fin T hS hO (fun c=>c) rfl (r:=[.bool false]) kr (fun X' hM hC=>⟨false,hm,rfl⟩)
 replace hm:=hm.2 hb
 refine aM ?_
 refine bq ?_
 refine oPe T hS 2 [1,25] [(27,Sl a1 objects c1),(28,Sl a2 l_ c2)] fun a hS=>?_
 obtain ⟨hq,hm⟩:=hm
 refine op1 (call hS kr kr hb16 kr (fun _ _=>rfl) (GU _ _ objects l_ a1 c1 a2 c2 hq h1 h2) ?_)
 intro v105 a ny m9 hE hp hS
 replace hO:=hO.m2 hE
 replace h1:=h1.m1 hE
 replace h2:=h2.m1 hE
 replace h3:=h3.m1 hE
 obtain ⟨cI,cH,g9,g7,hp,h111,h114⟩:=hp
 obtain ⟨ba,hr⟩:∃ r,bf objects l_=r:=⟨_,rfl⟩
 replace hm:=hm ba hr
 rw [hr] at hp h111 h114
 clear hr
 subst hp
 replace hm:=hm (h111.sm kr)
 replace hm:=hm (h114.sm kr)
 refine ePe T hS [27,28,29] [(9,Sl cI ba.1 cH),(10,Sl g9 ba.2 g7)] fun a hS=>?_
 refine cb (fun a w=>∃ Z X,VC13_J1 objects ah Q ba/\St Tryz.f13.ntmps ⟨[(0,Sl a1 objects c1),(2,Sl a3 ah c3),(9,Sl cI ba.1 cH),(10,Sl g9 ba.2 g7)],[]⟩ Z a w X/\Old w0 X0 w X/\RS aB w X a1 objects c1/\RS av w X a3 ah c3/\RS ar w X cI ba.1 cH/\RS tI w X g9 ba.2 g7) ?_ ?_
 ·refine rPe T hS [] [(11,I 0)] fun a hS=>?_
  refine aN ?_
  obtain ⟨I3,μ3,cx,hm⟩:=hm
  refine ct (σ:=Int) (fun s a w=>∃ Z X,I3 s/\St Tryz.f13.ntmps ⟨[(0,Sl a1 objects c1),(2,Sl a3 ah c3),(9,Sl cI ba.1 cH),(10,Sl g9 ba.2 g7),(11,I s)],[]⟩ Z a w X/\Old w0 X0 w X/\RS aB w X a1 objects c1/\RS av w X a3 ah c3/\RS ar w X cI ba.1 cH/\RS tI w X g9 ba.2 g7) (fun s=>μ3 s) (0) ?_ ?_
  ·exact ⟨Z,_,cx,hS.sl _,hO,h1,h3,h111,h114⟩
  rintro jY a Pr ⟨Z,NC,hI,hS,hO,h209,h210,h211,h212⟩
  replace hm:=hm jY hI
  clear hI cx
  refine bg ?_
  refine rPe T hS [] [(35,B (decide (jY < (lN ah))))] fun a hS=>?_
  refine aJ hS (b:=decide (jY < (lN ah))) kr (fun hb=>?_) fun hb=>?_
  ·replace hm:=hm.1 hb
   refine aM (bg ?_)
   refine aN ?_
   refine cb (fun a w=>∃ (Z:Nat->Nat) (X:Nat->Nat) (DI:Bool),VC13_J5 Q I3 μ3 jY DI/\St Tryz.f13.ntmps ⟨[(0,Sl a1 objects c1),(2,Sl a3 ah c3),(9,Sl cI ba.1 cH),(10,Sl g9 ba.2 g7),(11,I jY),(53,B DI)],[]⟩ Z a w X/\Old w0 X0 w X/\RS aB w X a1 objects c1/\RS av w X a3 ah c3/\RS ar w X cI ba.1 cH/\RS tI w X g9 ba.2 g7) ?_ ?_
   ·refine region ?_
    refine oPe T hS 2 [35] [(38,Sl a3 ah c3),(39,I jY)] fun a hS=>?_
    obtain ⟨hq,hm⟩:=hm
    refine op1 (index (e:=56) (k:=.i64) T hS kr kr kr kr h210 kr kr hq.1 hq.2 ?_)
    intro N0 a h220 hS
    refine op1 (fw (off:=0) (fsz:=1) (ft:=3) (TF:=tI) (y:=(gi ah jY).Oper) T hS kr kr kr h220 kr kr kr (fun cs h=>hG h) ?_)
    intro Sc a h222 hS
    refine op1 (dW T hS kr kr kr h222 rfl kr ?_)
    intro v223 a hv hS
    cases hv
    refine oPe T hS 2 [38,39,40,41,42] [(44,B (decide (((gi ah jY).Oper) < 0)))] fun a hS=>?_
    rcases bft (decide (((gi ah jY).Oper) < 0)) with hb | hb
    ·replace hS:=hS.lit (t:=44) kr hb
     replace hm:=hm.1 hb
     refine ePe T hS [44] [(53,B true)] fun a hS=>?_
     exact ⟨Z,_,true,hm,hS.sl _,hO,h209,h210,h211,h212⟩
    replace hS:=hS.lit (t:=44) kr hb
    replace hm:=hm.2 hb
    refine oPe T hS 2 [] [(45,Sl a3 ah c3),(46,I jY)] fun a hS=>?_
    obtain ⟨hq,hm⟩:=hm
    refine op1 (index (e:=56) (k:=.i64) T hS kr kr kr kr h210 kr kr hq.1 hq.2 ?_)
    intro Sb a h225 hS
    refine op1 (fw (off:=0) (fsz:=1) (ft:=3) (TF:=tI) (y:=(gi ah jY).Oper) T hS kr kr kr h225 kr kr kr (fun cs h=>hG h) ?_)
    intro Sa a h227 hS
    refine op1 (dW T hS kr kr kr h227 rfl kr ?_)
    intro v228 a hv hS
    cases hv
    refine ePe T hS [44,45,46,47,48,49] [(53,B (decide (((gi ah jY).Oper)≥(lN ba.1))))] fun a hS=>?_
    exact ⟨Z,_,decide (((gi ah jY).Oper)≥(lN ba.1)),hm,hS.sl _,hO,h209,h210,h211,h212⟩
   rintro a KW ⟨Z,RI,DI,hm,hS,hO,h214,h215,h216,h217⟩
   unfold VC13_J5 at hm
   refine aJ hS (b:=DI) kr (fun hb=>?_) fun hb=>?_
   ·replace hm:=hm.1 hb
    refine rPe T hS [0,2,9,10,11,53] [(6,B false)] fun a hS=>?_
    refine aY ?_
    exact fin T hS hO (fun c=>c) rfl (r:=[.bool false]) kr (fun X' hM hC=>⟨false,hm,rfl⟩)
   replace hm:=hm.2 hb
   refine aM ?_
   refine region (ePe T hS [53] [(11,I (wR (jY+1)))] fun a hS=>?_)
   exact ⟨wR (jY+1),⟨Z,_,hm.1,hS.sl _,hO,h214,h215,h216,h217⟩,hm.2⟩
  replace hm:=hm.2 hb
  refine cm (by rfl) ?_
  exact ⟨Z,_,hm,hS.sl _,hO,h209,h210,h211,h212⟩
 rintro a Pq ⟨Z,RH,hm,hS,hO,h115,h116,h117,h118⟩
 unfold VC13_J1 at hm
 refine cb (fun a w=>∃ Z X,VC13_J2 ah Q ba/\St Tryz.f13.ntmps ⟨[(2,Sl a3 ah c3),(9,Sl cI ba.1 cH)],[]⟩ Z a w X/\Old w0 X0 w X/\RS av w X a3 ah c3/\RS ar w X cI ba.1 cH) ?_ ?_
 ·refine rPe T hS [] [(12,I 0)] fun a hS=>?_
  refine aN ?_
  obtain ⟨I1,μ1,cx,hm⟩:=hm
  refine ct (σ:=Int) (fun s a w=>∃ Z X,I1 s/\St Tryz.f13.ntmps ⟨[(0,Sl a1 objects c1),(2,Sl a3 ah c3),(9,Sl cI ba.1 cH),(10,Sl g9 ba.2 g7),(12,I s)],[]⟩ Z a w X/\Old w0 X0 w X/\RS aB w X a1 objects c1/\RS av w X a3 ah c3/\RS ar w X cI ba.1 cH/\RS tI w X g9 ba.2 g7) (fun s=>μ1 s) (0) ?_ ?_
  ·exact ⟨Z,_,cx,hS.sl _,hO,h115,h116,h117,h118⟩
  rintro jZ a KZ ⟨Z,NI,hI,hS,hO,h132,h133,h134,h135⟩
  replace hm:=hm jZ hI
  clear hI cx
  refine bg ?_
  refine rPe T hS [] [(57,B (decide (jZ < (lN objects))))] fun a hS=>?_
  refine aJ hS (b:=decide (jZ < (lN objects))) kr (fun hb=>?_) fun hb=>?_
  ·replace hm:=hm.1 hb
   refine aM (bg ?_)
   refine aN ?_
   refine rPe T hS [57] [(13,V (.slice none 0 0))] fun a hS=>?_
   refine cb (fun a w=>∃ (Z:Nat->Nat) (X:Nat->Nat) (jB:List aa) (kE:Option Addr) (kA:Nat),VC13_J3 objects Q ba I1 μ1 jZ jB/\St Tryz.f13.ntmps ⟨[(0,Sl a1 objects c1),(2,Sl a3 ah c3),(9,Sl cI ba.1 cH),(10,Sl g9 ba.2 g7),(12,I jZ),(13,Sl kE jB kA)],[]⟩ Z a w X/\Old w0 X0 w X/\RS aB w X a1 objects c1/\RS av w X a3 ah c3/\RS ar w X cI ba.1 cH/\RS tI w X g9 ba.2 g7/\OS av 56 w X 1014 kE jB kA) ?_ ?_
   ·refine rPe T hS [] [(14,I 0)] fun a hS=>?_
    refine aN ?_
    obtain ⟨I2,μ2,cx,hm⟩:=hm
    refine ct (σ:=(List aa) × Int) (fun s a w=>∃ Z X wx wg,I2 s.1 s.2/\St Tryz.f13.ntmps ⟨[(0,Sl a1 objects c1),(2,Sl a3 ah c3),(9,Sl cI ba.1 cH),(10,Sl g9 ba.2 g7),(12,I jZ),(13,Sl wx s.1 wg),(14,I s.2)],[]⟩ Z a w X/\Old w0 X0 w X/\RS aB w X a1 objects c1/\RS av w X a3 ah c3/\RS ar w X cI ba.1 cH/\RS tI w X g9 ba.2 g7/\OS av 56 w X 1014 wx s.1 wg) (fun s=>μ2 s.1 s.2) (⟨[],0⟩) ?_ ?_
    ·exact ⟨Z,_,none,0,cx,hS.sl _,hO,h132,h133,h134,h135,(OS.nil _ _ _ _ _)⟩
    rintro ⟨iJ,jz⟩ a Ia ⟨Z,NK,wx,wg,hI,hS,hO,h162,h163,h164,h165,h169⟩
    replace hm:=hm iJ jz hI
    clear hI cx
    refine bg ?_
    refine rPe T hS [] [(63,B (decide (jz < (lN ah))))] fun a hS=>?_
    refine aJ hS (b:=decide (jz < (lN ah))) kr (fun hb=>?_) fun hb=>?_
    ·replace hm:=hm.1 hb
     refine aM ?_
     refine cb (fun a w=>∃ (Z:Nat->Nat) (X:Nat->Nat) (ql:List aa) (uw:Option Addr) (uo:Nat),VC13_J4 I2 μ2 iJ jz ql/\St Tryz.f13.ntmps ⟨[(0,Sl a1 objects c1),(2,Sl a3 ah c3),(9,Sl cI ba.1 cH),(10,Sl g9 ba.2 g7),(12,I jZ),(13,Sl uw ql uo),(14,I jz)],[]⟩ Z a w X/\Old w0 X0 w X/\RS aB w X a1 objects c1/\RS av w X a3 ah c3/\RS ar w X cI ba.1 cH/\RS tI w X g9 ba.2 g7/\OS av 56 w X 1014 uw ql uo) ?_ ?_
     ·refine aN ?_
      refine bq ?_
      refine oPe T hS 3 [63] [(66,Sl g9 ba.2 g7),(67,Sl a3 ah c3),(68,I jz)] fun a hS=>?_
      obtain ⟨hq,hm⟩:=hm
      refine op1 (index (e:=56) (k:=.i64) T hS kr kr kr kr h163 kr kr hq.1 hq.2 ?_)
      intro Sw a h180 hS
      refine op1 (fw (off:=0) (fsz:=1) (ft:=3) (TF:=tI) (y:=(gi ah jz).Oper) T hS kr kr kr h180 kr kr kr (fun cs h=>hG h) ?_)
      intro N1 a h182 hS
      refine op1 (dW T hS kr kr kr h182 rfl kr ?_)
      intro v183 a hv hS
      cases hv
      obtain ⟨hq,hm⟩:=hm
      refine op1 (index (e:=3) (k:=.i64) T hS kr kr kr kr h165 kr kr hq.1 hq.2 ?_)
      intro Ss a h185 hS
      refine op1 (dW T hS kr kr kr h185 rfl kr ?_)
      intro v186 a hv hS
      cases hv
      refine ePe T hS [66,67,68,69,70,71,72,73] [(75,B ((gi ba.2 ((gi ah jz).Oper)) == jZ))] fun a hS=>?_
      refine aJ hS (b:=((gi ba.2 ((gi ah jz).Oper)) == jZ)) kr (fun hb=>?_) fun hb=>?_
      ·replace hm:=hm.1 hb
       refine region ?_
       refine oPe T hS 3 [75] [(76,Sl wx iJ wg),(77,Sl a3 ah c3),(78,I jz)] fun a hS=>?_
       obtain ⟨hq,hm⟩:=hm
       refine op1 (index (e:=56) (k:=.i64) T hS kr kr kr kr h163 kr kr hq.1 hq.2 ?_)
       intro Sp a h188 hS
       refine op1 (eU T hS kr kr kr h188 kr kr ?_)
       intro v189 a hv hS
       subst hv
       refine op1 (lit (E:=56) (col:=0) (T:=av) (vals:=[.agg #[.int .i64 ((gi ah jz).Oper),.int .i64 ((gi ah jz).Result)]]) (ys:=[gi ah jz]) T hS kr kr kr kr (by exact ⟨rfl,trivial⟩) rfl kr kr kr kr ?_)
       intro b190 a Ie J9 hE h193 hN hS
       clear hN
       replace hO:=hO.m2 hE
       replace h162:=h162.m1 hE
       replace h163:=h163.m1 hE
       replace h164:=h164.m1 hE
       replace h165:=h165.m1 hE
       replace h169:=h169.m2 hE
       replace h188:=h188.m1 hE
       replace h193:=h193.rs0
       obtain ⟨hq,hm⟩:=hm
       obtain ⟨news,hN⟩:=h193.src
       refine op1 (append (E:=56) (T:=av) (col:=1014) (xs:=iJ) T hS kr kr kr kr h169 hN kr kr kr kr hq ?_)
       intro nR nN a K2 NN hE h196 hS
       clear hq hN
       clear h169
       replace hO:=hO.m2 hE
       replace h162:=h162.m1 hE
       replace h163:=h163.m1 hE
       replace h164:=h164.m1 hE
       replace h165:=h165.m1 hE
       replace h188:=h188.m1 hE
       replace h193:=h193.m1 hE
       refine ePe T hS [77,78,79,80,81,82] [(13,Sl nR (iJ++[gi ah jz]) nN)] fun a hS=>?_
       exact ⟨Z,_,iJ++[gi ah jz],nR,nN,hm,hS.sl _,hO,h162,h163,h164,h165,h196⟩
      replace hm:=hm.2 hb
      refine aM ?_
      exact ⟨Z,_,iJ,wx,wg,hm,hS.sl _,hO,h162,h163,h164,h165,h169⟩
     rintro a K1 ⟨Z,J8,ql,uw,uo,hm,hS,hO,h171,h172,h173,h174,h178⟩
     unfold VC13_J4 at hm
     refine region (ePe T hS [] [(14,I (wR (jz+1)))] fun a hS=>?_)
     exact ⟨⟨ql,wR (jz+1)⟩,⟨Z,_,uw,uo,hm.1,hS.sl _,hO,h171,h172,h173,h174,h178⟩,hm.2⟩
    replace hm:=hm.2 hb
    refine cm (by rfl) ?_
    exact ⟨Z,_,iJ,wx,wg,hm,hS.sl _,hO,h162,h163,h164,h165,h169⟩
   rintro a K0 ⟨Z,J7,jB,kE,kA,hm,hS,hO,h137,h138,h139,h140,h144⟩
   unfold VC13_J3 at hm
   refine dG [] mixed hS ?_
   intro DT AZ hS hE hD hH
   replace hO:=hO.m2 hE
   replace h137:=h137.m1 hE
   replace h138:=h138.m1 hE
   replace h139:=h139.m1 hE
   replace h140:=h140.m1 hE
   replace h144:=h144.m2 hE
   refine tke T [0,1,4,5,6,10] [] hS hH #[true,true,false,false,true,true,true,false,false,false,true,false,false,false,false,false,false,false,false] 13 [13] [(84,Sl a1 objects c1),(85,I jZ),(88,Sl cI ba.1 cH),(89,Sl a1 objects c1),(90,I jZ),(94,Sl kE jB kA)] fun a hS=>?_
   obtain ⟨hq,hm⟩:=hm
   refine dm (e:=48) (k:=.i64) T 2 hS kr kr kr (by rfl) kr hH kr kr h137 kr kr hq.1 hq.2 ?_
   intro N5 a h148 hS
   have zi:=h148.here
   refine ku T 3 hS kr kr kr (by rfl) kr hH kr h148 zi kr kr ?_
   intro v149 a hv hS
   obtain ⟨ux,uq,hv,h152⟩:=hv
   subst hv
   replace hm:=hm (h152.sm kr)
   obtain ⟨hq,hm⟩:=hm
   refine dm (e:=48) (k:=.i64) T 7 hS kr kr kr (by rfl) kr hH kr kr h137 kr kr hq.1 hq.2 ?_
   intro Kq a h154 hS
   have Cw:=h154.here
   refine dE (off:=2) (fsz:=1) (ft:=3) (TF:=tI) (y:=(gi objects jZ).aH) 8 T hS kr kr kr (by rfl) kr hH kr h154 kr kr kr (fun cs h=>ns h) ?_
   intro Kp a h156 fR hS
   have vH:=Cw
   rw [← fR] at vH
   clear fR
   refine eu T 9 hS kr kr kr (by rfl) kr hH kr h156 vH rfl kr ?_
   intro v157 a hv hS
   cases hv
   refine only 11 kr (by rfl) (call hS kr kr hb36 kr (fun _ _=>rfl) (Ret.oQ (Md _ (fb 1014 _) (gi objects jZ) ba.1 ((gi objects jZ).aH) jB ux uq cI cH kE kA (h152.m0 (M0.fb 1014)) (h139.m0 (M0.fb 1014)) h144.fb)) ?_)
   intro v158 a zF EZ hE hp hS
   replace hO:=hO.m2 hE
   replace hD:=hD.ev hE rfl
   replace h137:=h137.m1 hE
   replace h138:=h138.m1 hE
   replace h139:=h139.m1 hE
   replace h140:=h140.m1 hE
   replace h144:=h144.m2 hE
   replace h148:=h148.m1 hE
   replace h152:=h152.m1 hE
   replace h154:=h154.m1 hE
   replace h156:=h156.m1 hE
   obtain ⟨_,hp⟩:=hp
   obtain ⟨vd,hr⟩:∃ r,c6 (gi objects jZ) ba.1 ((gi objects jZ).aH) jB=r:=⟨_,rfl⟩
   replace hm:=hm vd hr
   rw [hr] at hp
   clear hr
   subst hp
   refine di (bP.of hS (bks:=[]) kr hD) ?_
   intro hH
   refine tke T [12,13,14,15,16,17,18] [] hS hH (tts 19) 0 [84,85,88,89,90,94,86,87,91,92,93,95] [(17,I vd.2.2)] fun a hS=>?_
   refine aX kr ?_
   replace hS:=hS.sle [] []
   refine rPe T hS [17] [(100,B (vd.2.2 != 0))] fun a hS=>?_
   refine aJ hS (b:=(vd.2.2 != 0)) kr (fun hb=>?_) fun hb=>?_
   ·replace hm:=hm.1 hb
    refine rPe T hS [0,2,9,10,12,100] [(6,B false)] fun a hS=>?_
    refine aY ?_
    exact fin T hS hO (fun c=>c) rfl (r:=[.bool false]) kr (fun X' hM hC=>⟨false,hm,rfl⟩)
   replace hm:=hm.2 hb
   refine aM ?_
   refine region (ePe T hS [100] [(12,I (wR (jZ+1)))] fun a hS=>?_)
   exact ⟨wR (jZ+1),⟨Z,_,hm.1,hS.sl _,hO,h137,h138,h139,h140⟩,hm.2⟩
  replace hm:=hm.2 hb
  refine cm (by rfl) ?_
  exact ⟨Z,_,hm,hS.sl _,hO,h133,h134⟩
 rintro a PA ⟨Z,NH,hm,hS,hO,h119,h120⟩
 unfold VC13_J2 at hm
 refine bq ?_
 refine oPe T hS 2 [] [(101,Sl cI ba.1 cH),(102,Sl a3 ah c3)] fun a hS=>?_
 refine op1 (call hS kr kr hb37 kr (fun _ _=>rfl) (Mc _ _ ba.1 ah cI cH a3 c3 h120 h119) ?_)
 intro v121 a uK uA hE hp hS
 replace hO:=hO.m2 hE
 replace h119:=h119.m1 hE
 replace h120:=h120.m1 hE
 obtain ⟨dK,hr⟩:∃ r,eK ba.1 ah=r:=⟨_,rfl⟩
 replace hm:=hm dK hr
 rw [hr] at hp
 clear hr
 subst hp
 refine oPe T hS 2 [101,102,103] [(105,B (decide (dK < 0)))] fun a hS=>?_
 rcases bft (decide (dK < 0)) with hb | hb
 ·replace hS:=hS.lit (t:=105) kr hb
  replace hm:=hm.1 hb
  refine oPe T hS 2 [2,9] [(106,Sl cI ba.1 cH),(107,Sl a3 ah c3)] fun a hS=>?_
  obtain ⟨hq,hm⟩:=hm
  refine op1 (call hS kr kr hb38 kr (fun _ _=>rfl) (Mb _ _ ba.1 ah false cI cH a3 c3 hq h120 h119) ?_)
  intro v125 a tm p9 hE hp hS
  replace hO:=hO.m2 hE
  replace h119:=h119.m1 hE
  replace h120:=h120.m1 hE
  obtain ⟨lX,lW,hp,h131⟩:=hp
  obtain ⟨bO,hr⟩:∃ r,eW ba.1 ah false=r:=⟨_,rfl⟩
  replace hm:=hm bO hr
  rw [hr] at hp h131
  clear hr
  subst hp
  replace hm:=hm (h131.sm kr)
  refine ePe T hS [105,106,107,108] [(6,B ((lN bO) == 0))] fun a hS=>?_
  refine aY ?_
  exact fin T hS hO (fun c=>c) rfl (r:=[.bool ((lN bO) == 0)]) kr (fun X' hM hC=>⟨((lN bO) == 0),hm,rfl⟩)
 replace hS:=hS.lit (t:=105) kr hb
 replace hm:=hm.2 hb
 refine ePe T hS [2,9,105] [(6,B false)] fun a hS=>?_
 refine aY ?_
 exact fin T hS hO (fun c=>c) rfl (r:=[.bool false]) kr (fun X' hM hC=>⟨false,hm,rfl⟩)
theorem C13 (GU:S16) (GS:S28) (Md:S36) (Mc:S37) (Mb:S38) (v:∀ (objects:List aj) (l_:List aG) (ah:List aa),yn objects l_ ah->VC13 objects l_ ah (fun r=>r=eA objects l_ ah)):S13:=by
 intro w X objects l_ ah a1 c1 a2 c2 a3 c3   hp h1 h2 h3
 refine (W13 GU GS Md Mc Mb w X objects l_ ah a1 c1 a2 c2 a3 c3   _ (v objects l_ ah hp) h1 h2 h3).mono ?_
 rintro _ _ _ _ ⟨r,rfl,h⟩
 exact h
theorem W27 (w0) (X0) (Q:aj->Prop) (hm:VC27 Q) :
  Ret Tryz.prog 27 #[] aL w0 X0 (fun w X' v=>∃ r,Q r/\∃ cz cy,v=.agg #[.int .i64 r.au,.int .i64 r.az,.int .i64 r.aH,.slice cz r.Rows.length cy]/\RS aC w X' cz r.Rows cy):=by
 unfold VC27 at hm
 refine enter Tryz.func27 rfl (vals:=[]) kr ?_
 intro Z a hS hO hM
 refine rM T hS ⟨[(0,Pt 1 0)],[(1,(48,[I 0,I 0,I 0,V (.slice none 0 0)]))]⟩ fun Z a rW qa hS hE hr=>?_
 replace hO:=hO.m2 hE
 clear hE hr
 refine bq ?_
 refine oPe T hS 4 [] [(1,V (.agg #[.int .i64 0,.int .i64 0,.int .i64 1,.int .i64 0])),(2,V (.agg #[.int .i64 0,.int .i64 1,.int .i64 0,.int .i64 0])),(3,V (.agg #[.int .i64 1,.int .i64 0,.int .i64 1,.int .i64 0])),(4,V (.agg #[.int .i64 1,.int .i64 1,.int .i64 1,.int .i64 1]))] fun a hS=>?_
 refine op1 (lit (E:=107) (col:=0) (T:=aC) (vals:=[.agg #[.int .i64 0,.int .i64 0,.int .i64 1,.int .i64 0],.agg #[.int .i64 0,.int .i64 1,.int .i64 0,.int .i64 0],.agg #[.int .i64 1,.int .i64 0,.int .i64 1,.int .i64 0],.agg #[.int .i64 1,.int .i64 1,.int .i64 1,.int .i64 1]]) (ys:=[(⟨0,0,1,0⟩:bb),(⟨0,1,0,0⟩:bb),(⟨1,0,1,0⟩:bb),(⟨1,1,1,1⟩:bb)]) T hS kr kr kr kr (by exact ⟨rfl,rfl,rfl,rfl,trivial⟩) rfl kr kr kr kr ?_)
 intro b101 a fp fx hE h104 hN hS
 clear hN
 replace hO:=hO.m2 hE
 replace h104:=h104.rs0
 refine eM T hS ⟨[(0,Pt 1 0)],[(1,(48,[I 2,I 2,I 0,Sl (some ⟨b101,0,none⟩) [(⟨0,0,1,0⟩:bb),(⟨0,1,0,0⟩:bb),(⟨1,0,1,0⟩:bb),(⟨1,1,1,1⟩:bb)] 4]))]⟩ fun Z a nz mi hS hE hr=>?_
 replace hO:=hO.m2 hE
 replace h104:=h104.m1 hE
 clear hE hr
 refine aY ?_
 exact fin T hS hO (fun c=>c) rfl (r:=[.agg #[.int .i64 2,.int .i64 2,.int .i64 0,.slice (some ⟨b101,0,none⟩) [(⟨0,0,1,0⟩:bb),(⟨0,1,0,0⟩:bb),(⟨1,0,1,0⟩:bb),(⟨1,1,1,1⟩:bb)].length 4]]) kr (fun X' hM hC=>⟨(⟨2,2,0,[(⟨0,0,1,0⟩:bb),(⟨0,1,0,0⟩:bb),(⟨1,0,1,0⟩:bb),(⟨1,1,1,1⟩:bb)]⟩:aj),hm,(some ⟨b101,0,none⟩),4,rfl,h104.m0 hM⟩)
theorem C27 (v:∀ (_:Unit),VC27 (fun r=>r=dC)):S27:=by
 intro w X     
 refine (W27 w X     _ (v ())).mono ?_
 rintro _ _ _ _ ⟨r,rfl,h⟩
 exact h
theorem W22 (Fh:S27) (w0) (X0) (object:Int) (cU) (Q:al->Prop) (hm:VC22 object Q) :
  Ret Tryz.prog 22 #[.int .i64 object] aL w0 X0 (fun w X' v=>∃ r,Q r/\∃ cz cy jd jc,v=.agg #[.slice cz r.ae.length cy,.slice jd r.aq.length jc]/\RS aB w X' cz r.ae cy/\OS aP 63 w X' cU jd r.aq jc):=by
 unfold VC22 at hm
 refine enter Tryz.func22 rfl (vals:=[.int .i64 object]) kr ?_
 intro Z a hS hO hM
 refine rM T hS ⟨[(0,I object),(2,Pt 3 0)],[(3,(25,[V (.slice none 0 0),V (.slice none 0 0)]))]⟩ fun Z a zJ x4 hS hE hr=>?_
 replace hO:=hO.m2 hE
 clear hE hr
 refine bq ?_
 refine op1 (call hS kr kr hb27 kr (fun _ _=>rfl) (Fh _ _) ?_)
 intro v101 a fp fx hE hp hS
 replace hO:=hO.m2 hE
 obtain ⟨dS,dR,hp,h107⟩:=hp
 obtain ⟨ax,hr⟩:∃ r,dC=r:=⟨_,rfl⟩
 replace hm:=hm ax hr
 rw [hr] at hp h107
 clear hr
 subst hp
 replace hm:=hm (h107.sm kr)
 refine op1 (call hS kr kr hb27 kr (fun _ _=>rfl) (Fh _ _) ?_)
 intro v108 a qo sc hE hp hS
 replace hO:=hO.m2 hE
 replace h107:=h107.m1 hE
 obtain ⟨g9,g7,hp,h114⟩:=hp
 obtain ⟨df,hr⟩:∃ r,dC=r:=⟨_,rfl⟩
 replace hm:=hm df hr
 rw [hr] at hp h114
 clear hr
 subst hp
 replace hm:=hm (h114.sm kr)
 refine op1 (lit (E:=48) (col:=0) (T:=aB) (vals:=[.agg #[.int .i64 ax.au,.int .i64 ax.az,.int .i64 ax.aH,.slice dS ax.Rows.length dR],.agg #[.int .i64 df.au,.int .i64 df.az,.int .i64 df.aH,.slice g9 df.Rows.length g7]]) (ys:=[ax,df]) T hS kr kr kr kr (by exact ⟨⟨dS,dR,rfl,h107⟩,⟨g9,g7,rfl,h114⟩,trivial⟩) rfl kr kr kr kr ?_)
 intro b115 a wT A1 hE h118 hN hS
 clear hN
 replace hO:=hO.m2 hE
 replace h107:=h107.m1 hE
 replace h114:=h114.m1 hE
 replace h118:=h118.rs0
 refine oPe T hS 10 [0,3,4] [(7,V (.agg #[.int .i64 0,.int .i64 1,.int .i64 1,.int .i64 0])),(10,V (.agg #[.int .i64 object,.int .i64 1,.int .i64 2,.int .i64 1])),(12,V (.agg #[.int .i64 0,.int .i64 2,.int .i64 1,.int .i64 0])),(15,V (.agg #[.int .i64 object,.int .i64 2,.int .i64 2,.int .i64 1]))] fun a hS=>?_
 refine op1 (lit (E:=63) (col:=1017) (T:=aP) (vals:=[.agg #[.int .i64 0,.int .i64 1,.int .i64 1,.int .i64 0],.agg #[.int .i64 object,.int .i64 1,.int .i64 2,.int .i64 1],.agg #[.int .i64 0,.int .i64 2,.int .i64 1,.int .i64 0],.agg #[.int .i64 object,.int .i64 2,.int .i64 2,.int .i64 1]]) (ys:=[(⟨0,(⟨1,1,0⟩:aw)⟩:bd),(⟨object,(⟨1,2,1⟩:aw)⟩:bd),(⟨0,(⟨2,1,0⟩:aw)⟩:bd),(⟨object,(⟨2,2,1⟩:aw)⟩:bd)]) T hS kr kr kr kr (by exact ⟨rfl,rfl,rfl,rfl,trivial⟩) rfl kr kr kr kr ?_)
 intro b119 a Gj HG hE h122 hN hS
 clear hN
 replace hO:=hO.m2 hE
 replace h118:=h118.m1 hE
 refine eM T hS ⟨[(2,Pt 3 0)],[(3,(25,[Sl (some ⟨b115,0,none⟩) [ax,df] 2,Sl (some ⟨b119,0,none⟩) [(⟨0,(⟨1,1,0⟩:aw)⟩:bd),(⟨object,(⟨1,2,1⟩:aw)⟩:bd),(⟨0,(⟨2,1,0⟩:aw)⟩:bd),(⟨object,(⟨2,2,1⟩:aw)⟩:bd)] 4]))]⟩ fun Z a Gi x5 hS hE hr=>?_
 replace hO:=hO.m2 hE
 replace h118:=h118.m1 hE
 replace h122:=h122.m2 hE
 clear hE hr
 refine aY ?_
 exact fin T hS hO (zAg0 cU) rfl (r:=[.agg #[.slice (some ⟨b115,0,none⟩) [ax,df].length 2,.slice (some ⟨b119,0,none⟩) [(⟨0,(⟨1,1,0⟩:aw)⟩:bd),(⟨object,(⟨1,2,1⟩:aw)⟩:bd),(⟨0,(⟨2,1,0⟩:aw)⟩:bd),(⟨object,(⟨2,2,1⟩:aw)⟩:bd)].length 4]]) kr (fun X' hM hC=>⟨(⟨[ax,df],[(⟨0,(⟨1,1,0⟩:aw)⟩:bd),(⟨object,(⟨1,2,1⟩:aw)⟩:bd),(⟨0,(⟨2,1,0⟩:aw)⟩:bd),(⟨object,(⟨2,2,1⟩:aw)⟩:bd)]⟩:al),hm,(some ⟨b115,0,none⟩),2,(some ⟨b119,0,none⟩),4,rfl,h118.m0 hM,(OS.out (f:=(zAg0 cU)) h122 hM hC kr)⟩)
theorem C22 (Fh:S27) (v:∀ (object:Int),VC22 object (fun r=>r=cG object)):S22:=by
 intro w X object  cU  
 refine (W22 Fh w X object  cU  _ (v object)).mono ?_
 rintro _ _ _ _ ⟨r,rfl,h⟩
 exact h
theorem W11 (w0) (X0) (h_:al) (a1) (c1) (a2) (c2) (Q:(List aG)->Prop) (hm:VC11 h_ Q) (h1:RS aB w0 X0 a1 h_.ae c1) (h2:RS aP w0 X0 a2 h_.aq c2) :
  Ret Tryz.prog 11 #[.agg #[.slice a1 h_.ae.length c1,.slice a2 h_.aq.length c2]] aL w0 X0 (fun w X' v=>∃ r,Q r/\∃ cz cy,v=.slice cz r.length cy/\RS bG w X' cz r cy):=by
 unfold VC11 at hm
 replace hm:=hm (h1.sm kr)
 replace hm:=hm (h2.sm kr)
 refine enter Tryz.func11 rfl (vals:=[.agg #[.slice a1 h_.ae.length c1,.slice a2 h_.aq.length c2]]) kr ?_
 intro Z a hS hO hM
 replace h1:=h1.m0 hM
 replace h2:=h2.m0 hM
 refine rM T hS ⟨[(1,Pt 2 0)],[(2,(25,[Sl a1 h_.ae c1,Sl a2 h_.aq c2]))]⟩ fun Z a tj wA hS hE hr=>?_
 replace hO:=hO.m2 hE
 replace h1:=h1.m1 hE
 replace h2:=h2.m1 hE
 clear hE hr
 refine rPe T hS [] [(3,V (.slice none 0 0))] fun a hS=>?_
 refine cb (fun a w=>∃ (Z:Nat->Nat) (X:Nat->Nat) (bE:List aG) (dy:Option Addr) (dx:Nat),VC11_J1 Q bE/\St Tryz.f11.ntmps ⟨[(3,Sl dy bE dx)],[]⟩ Z a w X/\Old w0 X0 w X/\OS bG 77 w X 1003 dy bE dx) ?_ ?_
 ·refine rPe T hS [] [(4,I 0)] fun a hS=>?_
  refine aN ?_
  obtain ⟨I1,μ1,cx,hm⟩:=hm
  refine ct (σ:=(List aG) × Int) (fun s a w=>∃ Z X gQ gP,I1 s.1 s.2/\St Tryz.f11.ntmps ⟨[(1,Pt 2 0),(3,Sl gQ s.1 gP),(4,I s.2)],[(2,(25,[Sl a1 h_.ae c1,Sl a2 h_.aq c2]))]⟩ Z a w X/\Old w0 X0 w X/\OS bG 77 w X 1003 gQ s.1 gP/\RS aB w X a1 h_.ae c1/\RS aP w X a2 h_.aq c2) (fun s=>μ1 s.1 s.2) (⟨[],0⟩) ?_ ?_
  ·exact ⟨Z,_,none,0,cx,hS.sl _,hO,(OS.nil _ _ _ _ _),h1,h2⟩
  rintro ⟨gS,dz⟩ a tl ⟨Z,uz,gQ,gP,hI,hS,hO,h110,h112,h113⟩
  replace hm:=hm gS dz hI
  clear hI cx
  refine bg ?_
  refine rPe T hS [] [(9,B (decide (dz < (lN h_.aq))))] fun a hS=>?_
  refine aJ hS (b:=decide (dz < (lN h_.aq))) kr (fun hb=>?_) fun hb=>?_
  ·replace hm:=hm.1 hb
   refine aM (bg ?_)
   refine aN ?_
   refine iB [2] mixed hS ?_
   intro Ip HH hS hE hD hH
   replace hO:=hO.m2 hE
   replace h110:=h110.m2 hE
   replace h112:=h112.m1 hE
   replace h113:=h113.m1 hE
   refine tke T [0,1,3,7,9,2,8] [2] hS hH #[true,true,true,true,false,false,false,true,true,true,false,false,false,false,false,false,false] 10 [] [(12,Sl gQ gS gP),(14,Sl a2 h_.aq c2),(15,I dz),(20,Sl a2 h_.aq c2),(21,I dz)] fun a hS=>?_
   obtain ⟨hq,hm⟩:=hm
   refine dm (e:=63) (k:=.i64) T 4 hS kr kr kr (by rfl) kr hH kr kr h113 kr kr hq.1 hq.2 ?_
   intro HO a h117 hS
   have ov:=h117.here
   refine dE (off:=0) (fsz:=1) (ft:=3) (TF:=tI) (y:=(gi h_.aq dz).aA) 5 T hS kr kr kr (by rfl) kr hH kr h117 kr kr kr (fun cs h=>kH h) ?_
   intro HN a h119 fR hS
   have vJ:=ov
   rw [← fR] at vJ
   clear fR
   refine eu T 6 hS kr kr kr (by rfl) kr hH kr h119 vJ rfl kr ?_
   intro v120 a hv hS
   cases hv
   obtain ⟨hq,hm⟩:=hm
   refine dm (e:=63) (k:=.i64) T 10 hS kr kr kr (by rfl) kr hH kr kr h113 kr kr hq.1 hq.2 ?_
   intro HM a h122 hS
   have Cy:=h122.here
   refine dE (off:=1) (fsz:=3) (ft:=61) (TF:=aR) (y:=(gi h_.aq dz).aW) 11 T hS kr kr kr (by rfl) kr hH kr h122 kr kr kr (fun cs h=>mG h) ?_
   intro E8 a h124 fR hS
   have rn:=Cy
   rw [← fR] at rn
   clear fR
   refine ku T 12 hS kr kr kr (by rfl) kr hH kr h124 rn kr kr ?_
   intro v125 a hv hS
   subst hv
   refine tke T [13] [2] hS hH #[true,true,true,true,true,true,true,true,true,true,true,true,true,true,false,false,false] 3 [14,15,20,21,16,17,18,22,23,24] [(25,V (.agg #[.int .i64 ((gi h_.aq dz).aA),.int .i64 (((gi h_.aq dz).aW).bo),.int .i64 (((gi h_.aq dz).aW).ak),.int .i64 (((gi h_.aq dz).aW).N)]))] fun a hS=>?_
   refine only 14 kr (by rfl) (lit (E:=77) (col:=0) (T:=bG) (vals:=[.agg #[.int .i64 ((gi h_.aq dz).aA),.int .i64 (((gi h_.aq dz).aW).bo),.int .i64 (((gi h_.aq dz).aW).ak),.int .i64 (((gi h_.aq dz).aW).N)]]) (ys:=[(⟨(gi h_.aq dz).aA,((gi h_.aq dz).aW)⟩:aG)]) T hS kr kr kr kr (by exact ⟨rfl,trivial⟩) rfl kr kr kr kr ?_)
   intro b126 a uJ Dm hE h129 hN hS
   clear hN
   replace hO:=hO.m2 hE
   replace hD:=hD.ev hE rfl
   replace h110:=h110.m2 hE
   replace h112:=h112.m1 hE
   replace h113:=h113.m1 hE
   replace h117:=h117.m1 hE
   replace h119:=h119.m1 hE
   replace h122:=h122.m1 hE
   replace h124:=h124.m1 hE
   replace h129:=h129.rs0
   refine di (bP.of hS (bks:=[2]) kr hD) ?_
   intro hH
   obtain ⟨hq,hm⟩:=hm
   obtain ⟨news,hN⟩:=h129.src
   refine only 15 kr (by rfl) (append (E:=77) (T:=bG) (col:=1003) (xs:=gS) T hS kr kr kr kr h110 hN kr kr kr kr hq ?_)
   intro r8 r6 a uI Dl hE h132 hS
   clear hq hN
   clear h110
   replace hO:=hO.m2 hE
   replace hD:=hD.ev hE rfl
   replace h112:=h112.m1 hE
   replace h113:=h113.m1 hE
   replace h117:=h117.m1 hE
   replace h119:=h119.m1 hE
   replace h122:=h122.m1 hE
   replace h124:=h124.m1 hE
   replace h129:=h129.m1 hE
   replace hS:=hS.sle [3,12] [(27,Sl r8 (gS++[(⟨(gi h_.aq dz).aA,((gi h_.aq dz).aW)⟩:aG)]) r6)]
   refine di (bP.of hS (bks:=[2]) kr hD) ?_
   intro hH
   refine tke T [16] [2] hS hH (tts 17) 0 [25,26,27] [(3,Sl r8 (gS++[(⟨(gi h_.aq dz).aA,((gi h_.aq dz).aW)⟩:aG)]) r6)] fun a hS=>?_
   refine aX kr ?_
   replace hS:=hS.sle [] []
   refine region (ePe T hS [] [(4,I (wR (dz+1)))] fun a hS=>?_)
   exact ⟨⟨gS++[(⟨(gi h_.aq dz).aA,((gi h_.aq dz).aW)⟩:aG)],wR (dz+1)⟩,⟨Z,_,r8,r6,hm.1,hS.sl _,hO,h132,h112,h113⟩,hm.2⟩
  replace hm:=hm.2 hb
  refine cm (by rfl) ?_
  exact ⟨Z,_,gS,gQ,gP,hm,hS.sl _,hO,h110⟩
 rintro a Bq ⟨Z,wB,bE,dy,dx,hm,hS,hO,h104⟩
 unfold VC11_J1 at hm
 refine rPe T hS [3] [(2,Sl dy bE dx)] fun a hS=>?_
 refine aY ?_
 obtain ⟨pt,hE,hF⟩:=h104.freeze (by decide)
 replace hS:=hS.ev hE (cA kr)
 replace hO:=hO.m2 hE
 have h106:=hF; clear hE hF
 exact fin T hS hO (fun c=>c) rfl (r:=[.slice dy bE.length dx]) kr (fun X' hM hC=>⟨bE,hm,dy,dx,rfl,h106.m0 hM⟩)
theorem C11 (v:∀ (h_:al),l5 h_->VC11 h_ (fun r=>r=eO h_)):S11:=by
 intro w X h_ a1 c1 a2 c2   hp h1 h2
 refine (W11 w X h_ a1 c1 a2 c2   _ (v h_ hp) h1 h2).mono ?_
 rintro _ _ _ _ ⟨r,rfl,h⟩
 exact h
theorem W7 (w0) (X0) (h_:al) (a1) (c1) (a2) (c2) (Q:Int->Prop) (hm:VC7 h_ Q) (h1:RS aB w0 X0 a1 h_.ae c1) (h2:RS aP w0 X0 a2 h_.aq c2) :
  Ret Tryz.prog 7 #[.agg #[.slice a1 h_.ae.length c1,.slice a2 h_.aq.length c2]] aL w0 X0 (fun w X' v=>∃ r,Q r/\v=.int .i64 r):=by
 unfold VC7 at hm
 replace hm:=hm (h1.sm kr)
 replace hm:=hm (h2.sm kr)
 refine enter Tryz.func7 rfl (vals:=[.agg #[.slice a1 h_.ae.length c1,.slice a2 h_.aq.length c2]]) kr ?_
 intro Z a hS hO hM
 replace h1:=h1.m0 hM
 replace h2:=h2.m0 hM
 refine rM T hS ⟨[(1,Pt 2 0)],[(2,(25,[Sl a1 h_.ae c1,Sl a2 h_.aq c2]))]⟩ fun Z a uK uA hS hE hr=>?_
 replace hO:=hO.m2 hE
 replace h1:=h1.m1 hE
 replace h2:=h2.m1 hE
 clear hE hr
 refine rPe T hS [] [(3,I 0)] fun a hS=>?_
 refine cb (fun a w=>∃ (Z:Nat->Nat) (X:Nat->Nat) (bE:Int),VC7_J1 Q bE/\St Tryz.f7.ntmps ⟨[(3,I bE)],[]⟩ Z a w X/\Old w0 X0 w X) ?_ ?_
 ·refine rPe T hS [] [(4,I 0)] fun a hS=>?_
  refine aN ?_
  obtain ⟨I1,μ1,cx,hm⟩:=hm
  refine ct (σ:=Int × Int) (fun s a w=>∃ Z X,I1 s.1 s.2/\St Tryz.f7.ntmps ⟨[(1,Pt 2 0),(3,I s.1),(4,I s.2)],[(2,(25,[Sl a1 h_.ae c1,Sl a2 h_.aq c2]))]⟩ Z a w X/\Old w0 X0 w X/\RS aB w X a1 h_.ae c1/\RS aP w X a2 h_.aq c2) (fun s=>μ1 s.1 s.2) (⟨0,0⟩) ?_ ?_
  ·exact ⟨Z,_,cx,hS.sl _,hO,h1,h2⟩
  rintro ⟨bC,bm⟩ a uL ⟨Z,E5,hI,hS,hO,h104,h105⟩
  replace hm:=hm bC bm hI
  clear hI cx
  refine bg ?_
  refine rPe T hS [] [(9,B (decide (bm < (lN h_.aq))))] fun a hS=>?_
  refine aJ hS (b:=decide (bm < (lN h_.aq))) kr (fun hb=>?_) fun hb=>?_
  ·replace hm:=hm.1 hb
   refine aM ?_
   refine cb (fun a w=>∃ (Z:Nat->Nat) (X:Nat->Nat) (fE:Int),VC7_J2 I1 μ1 bC bm fE/\St Tryz.f7.ntmps ⟨[(1,Pt 2 0),(3,I fE),(4,I bm)],[(2,(25,[Sl a1 h_.ae c1,Sl a2 h_.aq c2]))]⟩ Z a w X/\Old w0 X0 w X/\RS aB w X a1 h_.ae c1/\RS aP w X a2 h_.aq c2) ?_ ?_
   ·refine aN ?_
    refine bq ?_
    refine oPe T hS 3 [9] [(13,Sl a2 h_.aq c2),(14,I bm)] fun a hS=>?_
    obtain ⟨hq,hm⟩:=hm
    refine op1 (index (e:=63) (k:=.i64) T hS kr kr kr kr h105 kr kr hq.1 hq.2 ?_)
    intro A4 a h110 hS
    refine op1 (fw (off:=1) (fsz:=3) (ft:=61) (TF:=aR) (y:=(gi h_.aq bm).aW) T hS kr kr kr h110 kr kr kr (fun cs h=>mG h) ?_)
    intro Dv a h112 hS
    refine op1 (fw (off:=0) (fsz:=1) (ft:=3) (TF:=tI) (y:=((gi h_.aq bm).aW).bo) T hS kr kr kr h112 kr kr kr (fun cs h=>lY h) ?_)
    intro HP a h114 hS
    refine op1 (dW T hS kr kr kr h114 rfl kr ?_)
    intro v115 a hv hS
    cases hv
    refine ePe T hS [13,14,15,16,17,18] [(19,B ((((gi h_.aq bm).aW).bo) == 1))] fun a hS=>?_
    refine aJ hS (b:=((((gi h_.aq bm).aW).bo) == 1)) kr (fun hb=>?_) fun hb=>?_
    ·replace hm:=hm.1 hb
     refine region (ePe T hS [19] [(3,I (wR (bC+1)))] fun a hS=>?_)
     exact ⟨Z,_,wR (bC+1),hm,hS.sl _,hO,h104,h105⟩
    replace hm:=hm.2 hb
    refine aM ?_
    exact ⟨Z,_,bC,hm,hS.sl _,hO,h104,h105⟩
   rintro a Bs ⟨Z,uB,fE,hm,hS,hO,h107,h108⟩
   unfold VC7_J2 at hm
   refine region (ePe T hS [] [(4,I (wR (bm+1)))] fun a hS=>?_)
   exact ⟨⟨fE,wR (bm+1)⟩,⟨Z,_,hm.1,hS.sl _,hO,h107,h108⟩,hm.2⟩
  replace hm:=hm.2 hb
  refine cm (by rfl) ?_
  exact ⟨Z,_,bC,hm,hS.sl _,hO⟩
 rintro a wS ⟨Z,A0,bE,hm,hS,hO⟩
 unfold VC7_J1 at hm
 refine rPe T hS [3] [(2,I bE)] fun a hS=>?_
 refine aY ?_
 exact fin T hS hO (fun c=>c) rfl (r:=[.int .i64 bE]) kr (fun X' hM hC=>⟨bE,hm,rfl⟩)
theorem C7 (v:∀ (h_:al),VC7 h_ (fun r=>r=fj h_)):S7:=by
 intro w X h_ a1 c1 a2 c2   h1 h2
 refine (W7 w X h_ a1 c1 a2 c2   _ (v h_) h1 h2).mono ?_
 rintro _ _ _ _ ⟨r,rfl,h⟩
 exact h
theorem W6 (Mh:S21) (w0) (X0) (h_:al) (a1) (c1) (a2) (c2) (Q:Bool->Prop) (hm:VC6 h_ Q) (h1:RS aB w0 X0 a1 h_.ae c1) (h2:RS aP w0 X0 a2 h_.aq c2) :
  Ret Tryz.prog 6 #[.agg #[.slice a1 h_.ae.length c1,.slice a2 h_.aq.length c2]] aL w0 X0 (fun w X' v=>∃ r,Q r/\v=.bool r):=by
 unfold VC6 at hm
 replace hm:=hm (h1.sm kr)
 replace hm:=hm (h2.sm kr)
 refine enter Tryz.func6 rfl (vals:=[.agg #[.slice a1 h_.ae.length c1,.slice a2 h_.aq.length c2]]) kr ?_
 intro Z a hS hO hM
 replace h1:=h1.m0 hM
 replace h2:=h2.m0 hM
 refine rM T hS ⟨[(1,Pt 2 0)],[(2,(25,[Sl a1 h_.ae c1,Sl a2 h_.aq c2]))]⟩ fun Z a Br Dp hS hE hr=>?_
 replace hO:=hO.m2 hE
 replace h1:=h1.m1 hE
 replace h2:=h2.m1 hE
 clear hE hr
 refine bg ?_
 refine rPe T hS [] [(13,B ((decide ((lN h_.ae) > 10)) || (decide ((lN h_.aq) > 20))))] (sp:=[8]) fun a hS=>?_
 refine aJ hS (b:=((decide ((lN h_.ae) > 10)) || (decide ((lN h_.aq) > 20)))) kr (fun hb=>?_) fun hb=>?_
 ·replace hm:=hm.1 hb
  refine rP T hS ⟨[(2,B false)],[]⟩ fun a hS=>?_
  refine aY ?_
  exact fin T hS hO (fun c=>c) rfl (r:=[.bool false]) kr (fun X' hM hC=>⟨false,hm,rfl⟩)
 replace hm:=hm.2 hb
 refine aM ?_
 refine cb (fun a w=>∃ Z X,VC6_J1 Q/\St Tryz.f6.ntmps ⟨[],[]⟩ Z a w X/\Old w0 X0 w X) ?_ ?_
 ·refine rPe T hS [13] [(3,I 0)] fun a hS=>?_
  refine aN ?_
  obtain ⟨I1,μ1,cx,hm⟩:=hm
  refine ct (σ:=Int) (fun s a w=>∃ Z X,I1 s/\St Tryz.f6.ntmps ⟨[(1,Pt 2 0),(3,I s)],[(2,(25,[Sl a1 h_.ae c1,Sl a2 h_.aq c2]))]⟩ Z a w X/\Old w0 X0 w X/\RS aB w X a1 h_.ae c1/\RS aP w X a2 h_.aq c2) (fun s=>μ1 s) (0) ?_ ?_
  ·exact ⟨Z,_,cx,hS.sl _,hO,h1,h2⟩
  rintro bE a pV ⟨Z,wC,hI,hS,hO,h102,h103⟩
  replace hm:=hm bE hI
  clear hI cx
  refine bg ?_
  refine rPe T hS [] [(18,B (decide (bE < (lN h_.ae))))] fun a hS=>?_
  refine aJ hS (b:=decide (bE < (lN h_.ae))) kr (fun hb=>?_) fun hb=>?_
  ·replace hm:=hm.1 hb
   refine aM (bg ?_)
   refine aN ?_
   refine bq ?_
   refine oPe T hS 3 [18] [(22,Sl a1 h_.ae c1),(23,I bE)] fun a hS=>?_
   obtain ⟨hq,hm⟩:=hm
   refine op1 (index (e:=48) (k:=.i64) T hS kr kr kr kr h102 kr kr hq.1 hq.2 ?_)
   intro Kw a h105 hS
   refine op1 (eU T hS kr kr kr h105 kr kr ?_)
   intro v106 a hv hS
   obtain ⟨AW,AL,hv,h109⟩:=hv
   subst hv
   replace hm:=hm (h109.sm kr)
   refine op1 (call hS kr kr hb21 kr (fun _ _=>rfl) (Mh _ _ (gi h_.ae bE) AW AL h109) ?_)
   intro v110 a DV uC hE hp hS
   replace hO:=hO.m2 hE
   replace h102:=h102.m1 hE
   replace h103:=h103.m1 hE
   replace h105:=h105.m1 hE
   replace h109:=h109.m1 hE
   obtain ⟨fT,hr⟩:∃ r,hU (gi h_.ae bE)=r:=⟨_,rfl⟩
   replace hm:=hm fT hr
   rw [hr] at hp
   clear hr
   subst hp
   refine ePe T hS [22,23,24,25,26] [(27,B (!fT))] fun a hS=>?_
   refine aJ hS (b:=(!fT)) kr (fun hb=>?_) fun hb=>?_
   ·replace hm:=hm.1 hb
    refine rP T hS ⟨[(2,B false)],[]⟩ fun a hS=>?_
    refine aY ?_
    exact fin T hS hO (fun c=>c) rfl (r:=[.bool false]) kr (fun X' hM hC=>⟨false,hm,rfl⟩)
   replace hm:=hm.2 hb
   refine aM ?_
   refine region (ePe T hS [27] [(3,I (wR (bE+1)))] fun a hS=>?_)
   exact ⟨wR (bE+1),⟨Z,_,hm.1,hS.sl _,hO,h102,h103⟩,hm.2⟩
  replace hm:=hm.2 hb
  refine cm (by rfl) ?_
  exact ⟨Z,_,hm,hS.sl _,hO⟩
 rintro a Bs ⟨Z,uB,hm,hS,hO⟩
 unfold VC6_J1 at hm
 refine rPe T hS [] [(2,B true)] fun a hS=>?_
 refine aY ?_
 exact fin T hS hO (fun c=>c) rfl (r:=[.bool true]) kr (fun X' hM hC=>⟨true,hm,rfl⟩)
theorem C6 (Mh:S21) (v:∀ (h_:al),VC6 h_ (fun r=>r=hK h_)):S6:=by
 intro w X h_ a1 c1 a2 c2   h1 h2
 refine (W6 Mh w X h_ a1 c1 a2 c2   _ (v h_) h1 h2).mono ?_
 rintro _ _ _ _ ⟨r,rfl,h⟩
 exact h
end Go.Proofs.YteahldlmkheleaaGreat
