/- Walks. -/
import Derived.Test.YteahldlmkheleaaGreatLWalksS
set_option linter.all false
namespace Go.Proofs.YteahldlmkheleaaGreat
open Go Go.Sv
abbrev zAg0 (cG:Nat):Nat->Nat:=fun c=>(bif Nat.beq c 1017 then cG else c)
abbrev zAg1 (i1 i2 i3 i4:Nat):List (Nat × Nat):=[(i1,901),(i2,902),(i3,903),(i4,904)]
set_option maxHeartbeats 1000000
theorem W43 (xf:S63) (LA:S73) (w0) (X0) (l_:List ab) (rows:List (List aa)) (a1) (c1) (a2) (c2) (Q:(List aa) × (List (Int × Int))->Prop) (hm:VC43 l_ rows Q) (h1:RS ao w0 X0 a1 l_ c1) (h2:RS (bP aq) w0 X0 a2 rows c2) :
  Ret Tryz.prog 43 #[.slice a1 l_.length c1,.slice a2 rows.length c2] aJ w0 X0 (fun w X' v=>∃ r,Q r/\∃ cn cm iO iM,v=.tuple #[.slice cn r.1.length cm,.slice iO r.2.length iM]/\RS aq w X' cn r.1 cm/\RS tP2 w X' iO r.2 iM):=by
 unfold VC43 at hm
 replace hm:=hm (h1.sm kr)
 replace hm:=hm (h2.sm kr)
 refine enter Tryz.func43 rfl (vals:=[.slice a1 l_.length c1,.slice a2 rows.length c2]) kr ?_
 intro Z a hS hO hM
 replace h1:=h1.m0 hM
 replace h2:=h2.m0 hM
 refine rPe T hS [] [] fun a hS=>?_
 refine bj ?_
 refine oPe T hS 1 [] [(16,Sl a2 rows c2)] fun a hS=>?_
 obtain ⟨hq,hm⟩:=hm
 refine op1 (call hS kr kr hb73 kr (fun _ _=>rfl) (LA _ _ rows a2 c2 hq h2) ?_)
 intro v101 a eZ fa hE hp hS
 replace hO:=hO.m2 hE
 replace h1:=h1.m1 hE
 replace h2:=h2.m1 hE
 obtain ⟨dK,dJ,hp,h107⟩:=hp
 obtain ⟨ap,hr⟩:∃ r,cd rows=r:=⟨_,rfl⟩
 replace hm:=hm ap hr
 rw [hr] at hp h107
 clear hr
 subst hp
 replace hm:=hm (h107.sm kr)
 refine ePe T hS [16,17] [(6,Sl dK ap dJ)] fun a hS=>?_
 refine rPe T hS [] [(7,V (.slice none 0 0))] fun a hS=>?_
 refine rPe T hS [] [(8,I 0)] fun a hS=>?_
 refine bT (fun a w=>∃ (Z:Nat->Nat) (X:Nat->Nat) (bJ:List (Int × Int)) (iG:Option Addr) (iD:Nat),VC43_J1 l_ Q ap bJ/\St Tryz.f43.ntmps ⟨[(0,Sl a1 l_ c1),(6,Sl dK ap dJ),(7,Sl iG bJ iD)],[]⟩ Z a w X/\Old w0 X0 w X/\RS ao w X a1 l_ c1/\RS aq w X dK ap dJ/\OS tP2 131 w X 1006 iG bJ iD) ?_ ?_
 ·refine rPe T hS [1] [(18,Sl a2 rows c2),(19,I (lN rows)),(20,I 0)] fun a hS=>?_
  refine aL ?_
  obtain ⟨I3,μ3,co,hm⟩:=hm
  refine cl (σ:=(List (Int × Int)) × Int × Int) (fun s a w=>∃ Z X nA nl,I3 s.1 s.2.1 s.2.2/\St Tryz.f43.ntmps ⟨[(0,Sl a1 l_ c1),(6,Sl dK ap dJ),(7,Sl nA s.1 nl),(8,I s.2.1),(18,Sl a2 rows c2),(19,I (lN rows)),(20,I s.2.2)],[]⟩ Z a w X/\Old w0 X0 w X/\RS ao w X a1 l_ c1/\RS aq w X dK ap dJ/\OS tP2 131 w X 1006 nA s.1 nl/\RS (bP aq) w X a2 rows c2) (fun s=>μ3 s.1 s.2.1 s.2.2) (⟨[],0,0⟩) ?_ ?_
  ·exact ⟨Z,_,none,0,co,hS.sl _,hO,h1,h107,(OS.nil _ _ _ _ _),h2⟩
  rintro ⟨nE,ii,jf⟩ a OY ⟨Z,QZ,nA,nl,hI,hS,hO,h194,h195,h199,h201⟩
  replace hm:=hm nE ii jf hI
  clear hI co
  refine rPe T hS [] [(21,B (decide (jf < (lN rows))))] fun a hS=>?_
  refine bc ?_
  refine aG hS (b:=decide (jf < (lN rows))) kr (fun hb=>?_) fun hb=>?_
  ·replace hm:=hm.1 hb
   refine aH (bc ?_)
   refine aL ?_
   refine bj ?_
   obtain ⟨hq,hm⟩:=hm
   refine op1 (index (e:=26) (k:=.i64) T hS kr kr kr kr h201 kr kr hq.1 hq.2 ?_)
   intro Ru a h204 hS
   refine op1 (dU T hS kr kr kr h204 rfl kr ?_)
   intro v205 a hv hS
   obtain ⟨ow,oh,hv,h208⟩:=hv
   cases hv
   replace hm:=hm (h208.sm kr)
   refine ePe T hS [21,22,23] [(10,Sl ow (gi rows jf) oh)] fun a hS=>?_
   refine bT (fun a w=>∃ (Z:Nat->Nat) (X:Nat->Nat) (A2:List (Int × Int)) (AA:Option Addr) (Ap:Nat),VC43_J5 rows I3 μ3 nE ii jf A2/\St Tryz.f43.ntmps ⟨[(0,Sl a1 l_ c1),(6,Sl dK ap dJ),(7,Sl AA A2 Ap),(8,I ii),(10,Sl ow (gi rows jf) oh),(18,Sl a2 rows c2),(19,I (lN rows)),(20,I jf)],[]⟩ Z a w X/\Old w0 X0 w X/\RS ao w X a1 l_ c1/\RS aq w X dK ap dJ/\OS tP2 131 w X 1006 AA A2 Ap/\RS aq w X ow (gi rows jf) oh/\RS (bP aq) w X a2 rows c2) ?_ ?_
   ·refine rPe T hS [] [(11,I 1)] fun a hS=>?_
    refine aL ?_
    obtain ⟨I4,μ4,co,hm⟩:=hm
    refine cl (σ:=(List (Int × Int)) × Int) (fun s a w=>∃ Z X C2 CO,I4 s.1 s.2/\St Tryz.f43.ntmps ⟨[(0,Sl a1 l_ c1),(6,Sl dK ap dJ),(7,Sl C2 s.1 CO),(8,I ii),(10,Sl ow (gi rows jf) oh),(11,I s.2),(18,Sl a2 rows c2),(19,I (lN rows)),(20,I jf)],[]⟩ Z a w X/\Old w0 X0 w X/\RS ao w X a1 l_ c1/\RS aq w X dK ap dJ/\OS tP2 131 w X 1006 C2 s.1 CO/\RS aq w X ow (gi rows jf) oh/\RS (bP aq) w X a2 rows c2) (fun s=>μ4 s.1 s.2) (⟨nE,1⟩) ?_ ?_
    ·exact ⟨Z,_,nA,nl,co,hS.sl _,hO,h194,h195,h199,h208,h201⟩
    rintro ⟨zf,m7⟩ a KK ⟨Z,Q0,C2,CO,hI,hS,hO,h217,h218,h222,h223,h225⟩
    replace hm:=hm zf m7 hI
    clear hI co
    refine bc ?_
    refine rPe T hS [] [(27,B (decide (m7 < (lN (gi rows jf)))))] fun a hS=>?_
    refine aG hS (b:=decide (m7 < (lN (gi rows jf)))) kr (fun hb=>?_) fun hb=>?_
    ·replace hm:=hm.1 hb
     refine aH (bc ?_)
     refine aL ?_
     refine region ?_
     refine oPe T hS 9 [27] [(30,Sl C2 zf CO),(38,V (.agg #[.int .i64 (wR ((wR (ii+m7)) - 1)),.int .i64 (wR (ii+m7))]))] fun a hS=>?_
     refine op1 (lit (E:=131) (col:=0) (T:=tP2) (vals:=[.agg #[.int .i64 (wR ((wR (ii+m7)) - 1)),.int .i64 (wR (ii+m7))]]) (ys:=[(wR ((wR (ii+m7)) - 1),wR (ii+m7))]) T hS kr kr kr kr (by exact ⟨rfl,trivial⟩) rfl kr kr kr kr ?_)
     intro b226 a O2 Q3 hE h229 hN hS
     clear hN
     replace hO:=hO.m2 hE
     replace h217:=h217.m1 hE
     replace h218:=h218.m1 hE
     replace h222:=h222.m2 hE
     replace h223:=h223.m1 hE
     replace h225:=h225.m1 hE
     replace h229:=h229.rs0
     obtain ⟨hq,hm⟩:=hm
     obtain ⟨news,hN⟩:=h229.src
     refine op1 (append (E:=131) (T:=tP2) (col:=1006) (xs:=zf) T hS kr kr kr kr h222 hN kr kr kr kr hq ?_)
     intro JN Jz a KL Ne hE h232 hS
     clear hq hN
     clear h222
     replace hO:=hO.m2 hE
     replace h217:=h217.m1 hE
     replace h218:=h218.m1 hE
     replace h223:=h223.m1 hE
     replace h225:=h225.m1 hE
     replace h229:=h229.m1 hE
     refine ePe T hS [38,39,40] [(7,Sl JN (zf++[(wR ((wR (ii+m7)) - 1),wR (ii+m7))]) Jz)] fun a hS=>?_
     refine region (ePe T hS [] [(11,I (wR (m7+1)))] fun a hS=>?_)
     exact ⟨⟨zf++[(wR ((wR (ii+m7)) - 1),wR (ii+m7))],wR (m7+1)⟩,⟨Z,_,JN,Jz,hm.1,hS.sl _,hO,h217,h218,h232,h223,h225⟩,hm.2⟩
    replace hm:=hm.2 hb
    refine cb (by rfl) ?_
    exact ⟨Z,_,zf,C2,CO,hm,hS.sl _,hO,h217,h218,h222,h223,h225⟩
   rintro a OZ ⟨Z,Nd,A2,AA,Ap,hm,hS,hO,h209,h210,h214,h215,h216⟩
   unfold VC43_J5 at hm
   refine region (ePe T hS [10] [(8,I (wR (ii+(lN (gi rows jf)))))] fun a hS=>?_)
   refine region (ePe T hS [] [(20,I (wR (jf+1)))] fun a hS=>?_)
   exact ⟨⟨A2,wR (ii+(lN (gi rows jf))),wR (jf+1)⟩,⟨Z,_,AA,Ap,hm.1,hS.sl _,hO,h209,h210,h214,h216⟩,hm.2⟩
  replace hm:=hm.2 hb
  refine cb (by rfl) ?_
  exact ⟨Z,_,nE,nA,nl,hm,hS.sl _,hO,h194,h195,h199⟩
 rintro a OX ⟨Z,QY,bJ,iG,iD,hm,hS,hO,h108,h109,h113⟩
 unfold VC43_J1 at hm
 refine bT (fun a w=>∃ (Z:Nat->Nat) (X:Nat->Nat) (be:List (Int × Int)) (dA:Option Addr) (dz:Nat),VC43_J2 Q ap be/\St Tryz.f43.ntmps ⟨[(6,Sl dK ap dJ),(7,Sl dA be dz)],[]⟩ Z a w X/\Old w0 X0 w X/\RS aq w X dK ap dJ/\OS tP2 131 w X 1006 dA be dz) ?_ ?_
 ·refine rPe T hS [] [(46,Sl dK ap dJ),(47,I (lN ap)),(48,I 0)] fun a hS=>?_
  refine aL ?_
  obtain ⟨I1,μ1,co,hm⟩:=hm
  refine cl (σ:=(List (Int × Int)) × Int) (fun s a w=>∃ Z X gZ gY,I1 s.1 s.2/\St Tryz.f43.ntmps ⟨[(0,Sl a1 l_ c1),(6,Sl dK ap dJ),(7,Sl gZ s.1 gY),(46,Sl dK ap dJ),(47,I (lN ap)),(48,I s.2)],[]⟩ Z a w X/\Old w0 X0 w X/\RS ao w X a1 l_ c1/\RS aq w X dK ap dJ/\OS tP2 131 w X 1006 gZ s.1 gY/\RS aq w X dK ap dJ) (fun s=>μ1 s.1 s.2) (⟨bJ,0⟩) ?_ ?_
  ·exact ⟨Z,_,iG,iD,co,hS.sl _,hO,h108,h109,h113,h109⟩
  rintro ⟨fx,fX⟩ a HV ⟨Z,Np,gZ,gY,hI,hS,hO,h121,h122,h126,h127⟩
  replace hm:=hm fx fX hI
  clear hI co
  refine rPe T hS [] [(49,B (decide (fX < (lN ap))))] fun a hS=>?_
  refine bc ?_
  refine aG hS (b:=decide (fX < (lN ap))) kr (fun hb=>?_) fun hb=>?_
  ·replace hm:=hm.1 hb
   refine aH ?_
   refine bT (fun a w=>∃ (Z:Nat->Nat) (X:Nat->Nat) (fW:List (Int × Int)) (gK:Option Addr) (gJ:Nat),VC43_J3 I1 μ1 fx fX fW/\St Tryz.f43.ntmps ⟨[(0,Sl a1 l_ c1),(6,Sl dK ap dJ),(7,Sl gK fW gJ),(46,Sl dK ap dJ),(47,I (lN ap)),(48,I fX)],[]⟩ Z a w X/\Old w0 X0 w X/\RS ao w X a1 l_ c1/\RS aq w X dK ap dJ/\OS tP2 131 w X 1006 gK fW gJ/\RS aq w X dK ap dJ) ?_ ?_
   ·refine aL ?_
    refine bj ?_
    refine oPe T hS 1 [49] [(50,I fX)] fun a hS=>?_
    obtain ⟨hq,hm⟩:=hm
    refine op1 (index (e:=56) (k:=.i64) T hS kr kr kr kr h127 kr kr hq.1 hq.2 ?_)
    intro Hv a h137 hS
    refine op1 (eC T hS kr kr kr h137 kr kr ?_)
    intro v138 a hv hS
    subst hv
    refine eM T hS ⟨[(0,Sl a1 l_ c1),(6,Sl dK ap dJ),(7,Sl gZ fx gY),(12,I fX),(13,Pt 14 0),(46,Sl dK ap dJ),(47,I (lN ap)),(48,I fX)],[(14,(56,(cK (gi ap fX))))]⟩ fun Z a F2 J0 hS hE hr=>?_
    replace hO:=hO.m2 hE
    replace h121:=h121.m1 hE
    replace h122:=h122.m1 hE
    replace h126:=h126.m2 hE
    replace h127:=h127.m1 hE
    clear hE hr
    refine rPe T hS [] [(53,Sl dK ap dJ),(54,I (lN ap)),(55,I 0)] fun a hS=>?_
    refine aL ?_
    obtain ⟨I2,μ2,co,hm⟩:=hm
    refine cl (σ:=(List (Int × Int)) × Int) (fun s a w=>∃ Z X jI jF,I2 s.1 s.2/\St Tryz.f43.ntmps ⟨[(0,Sl a1 l_ c1),(6,Sl dK ap dJ),(7,Sl jI s.1 jF),(12,I fX),(13,Pt 14 0),(46,Sl dK ap dJ),(47,I (lN ap)),(48,I fX),(53,Sl dK ap dJ),(54,I (lN ap)),(55,I s.2)],[(14,(56,(cK (gi ap fX))))]⟩ Z a w X/\Old w0 X0 w X/\RS ao w X a1 l_ c1/\RS aq w X dK ap dJ/\OS tP2 131 w X 1006 jI s.1 jF/\RS aq w X dK ap dJ/\RS aq w X dK ap dJ) (fun s=>μ2 s.1 s.2) (⟨fx,0⟩) ?_ ?_
    ·exact ⟨Z,_,gZ,gY,co,hS.sl _,hO,h121,h122,h126,h127,h122⟩
    rintro ⟨ji,dZ⟩ a KX ⟨Z,Nr,jI,jF,hI,hS,hO,h139,h140,h144,h145,h146⟩
    replace hm:=hm ji dZ hI
    clear hI co
    refine rPe T hS [] [(56,B (decide (dZ < (lN ap))))] fun a hS=>?_
    refine bc ?_
    refine aG hS (b:=decide (dZ < (lN ap))) kr (fun hb=>?_) fun hb=>?_
    ·replace hm:=hm.1 hb
     refine aH ?_
     refine bT (fun a w=>∃ (Z:Nat->Nat) (X:Nat->Nat) (lC:List (Int × Int)) (EQ:Option Addr) (EE:Nat),VC43_J4 I2 μ2 ji dZ lC/\St Tryz.f43.ntmps ⟨[(0,Sl a1 l_ c1),(6,Sl dK ap dJ),(7,Sl EQ lC EE),(12,I fX),(13,Pt 14 0),(46,Sl dK ap dJ),(47,I (lN ap)),(48,I fX),(53,Sl dK ap dJ),(54,I (lN ap)),(55,I dZ)],[(14,(56,(cK (gi ap fX))))]⟩ Z a w X/\Old w0 X0 w X/\RS ao w X a1 l_ c1/\RS aq w X dK ap dJ/\OS tP2 131 w X 1006 EQ lC EE/\RS aq w X dK ap dJ/\RS aq w X dK ap dJ) ?_ ?_
     ·refine aL ?_
      refine bj ?_
      refine oPe T hS 1 [56] [(57,I dZ)] fun a hS=>?_
      obtain ⟨hq,hm⟩:=hm
      refine op1 (index (e:=56) (k:=.i64) T hS kr kr kr kr h146 kr kr hq.1 hq.2 ?_)
      intro NE a h157 hS
      refine op1 (eC T hS kr kr kr h157 kr kr ?_)
      intro v158 a hv hS
      subst hv
      refine eM T hS ⟨[(0,Sl a1 l_ c1),(6,Sl dK ap dJ),(7,Sl jI ji jF),(12,I fX),(13,Pt 14 0),(14,I dZ),(15,Pt 16 0),(46,Sl dK ap dJ),(47,I (lN ap)),(48,I fX),(53,Sl dK ap dJ),(54,I (lN ap)),(55,I dZ)],[(14,(56,(cK (gi ap fX)))),(16,(56,(cK (gi ap dZ))))]⟩ fun Z a HY J1 hS hE hr=>?_
      replace hO:=hO.m2 hE
      replace h139:=h139.m1 hE
      replace h140:=h140.m1 hE
      replace h144:=h144.m2 hE
      replace h145:=h145.m1 hE
      replace h146:=h146.m1 hE
      clear hE hr
      refine dv [14,16] mixed hS ?_
      intro wo ET hS hE hD hH
      replace hO:=hO.m2 hE
      replace h139:=h139.m1 hE
      replace h140:=h140.m1 hE
      replace h144:=h144.m2 hE
      replace h145:=h145.m1 hE
      replace h146:=h146.m1 hE
      refine tke T [0,1,5,6,2,7] [14,16] hS hH #[true,true,true,false,false,true,true,true,false,false,false] 5 [15] [(60,Sl a1 l_ c1),(62,I ((gi ap fX).Oper)),(65,Sl a1 l_ c1),(67,I ((gi ap dZ).Oper))] fun a hS=>?_
      obtain ⟨hq,hm⟩:=hm
      refine c7 (e:=102) (k:=.i64) T 3 hS kr kr kr (by rfl) kr hH kr kr h139 kr kr hq.1 hq.2 ?_
      intro RQ a h162 hS
      have I6:=h162.here
      refine jr T 4 hS kr kr kr (by rfl) kr hH kr h162 I6 kr kr ?_
      intro v163 a hv hS
      subst hv
      obtain ⟨hq,hm⟩:=hm
      refine c7 (e:=102) (k:=.i64) T 8 hS kr kr kr (by rfl) kr hH kr kr h139 kr kr hq.1 hq.2 ?_
      intro ND a h165 hS
      have I5:=h165.here
      refine jr T 9 hS kr kr kr (by rfl) kr hH kr h165 I5 kr kr ?_
      intro v166 a hv hS
      subst hv
      refine only 10 kr (by rfl) (call hS kr kr hb63 kr (fun _ _=>rfl) (xf _ _ (gi l_ ((gi ap fX).Oper)) (gi l_ ((gi ap dZ).Oper))) ?_)
      intro v167 a DA Hk hE hp hS
      replace hO:=hO.m2 hE
      replace hD:=hD.ev hE rfl
      replace h139:=h139.m1 hE
      replace h140:=h140.m1 hE
      replace h144:=h144.m2 hE
      replace h145:=h145.m1 hE
      replace h146:=h146.m1 hE
      replace h162:=h162.m1 hE
      replace h165:=h165.m1 hE
      obtain ⟨uL,hr⟩:∃ r,aZ (gi l_ ((gi ap fX).Oper)) (gi l_ ((gi ap dZ).Oper))=r:=⟨_,rfl⟩
      replace hm:=hm uL hr
      rw [hr] at hp
      clear hr
      subst hp
      replace hS:=hS.sle [] [(70,B uL)]
      refine cW (bH.of hS (bks:=[14,16]) kr hD) ?_
      intro hH
      refine aS kr ?_
      replace hS:=hS.sl ⟨[(0,Sl a1 l_ c1),(6,Sl dK ap dJ),(7,Sl jI ji jF),(12,I fX),(13,Pt 14 0),(14,I dZ),(46,Sl dK ap dJ),(47,I (lN ap)),(48,I fX),(53,Sl dK ap dJ),(54,I (lN ap)),(55,I dZ),(70,B uL)],[(14,(56,(cK (gi ap fX))))]⟩
      refine aG hS (b:=uL) kr (fun hb=>?_) fun hb=>?_
      ·replace hm:=hm.1 hb
       refine region ?_
       refine oPe T hS 4 [14,70] [(71,Sl jI ji jF),(74,V (.agg #[.int .i64 fX,.int .i64 dZ]))] fun a hS=>?_
       refine op1 (lit (E:=131) (col:=0) (T:=tP2) (vals:=[.agg #[.int .i64 fX,.int .i64 dZ]]) (ys:=[(fX,dZ)]) T hS kr kr kr kr (by exact ⟨rfl,trivial⟩) rfl kr kr kr kr ?_)
       intro b171 a H3 J3 hE h174 hN hS
       clear hN
       replace hO:=hO.m2 hE
       replace h139:=h139.m1 hE
       replace h140:=h140.m1 hE
       replace h144:=h144.m2 hE
       replace h145:=h145.m1 hE
       replace h146:=h146.m1 hE
       replace h174:=h174.rs0
       obtain ⟨hq,hm⟩:=hm
       obtain ⟨news,hN⟩:=h174.src
       refine op1 (append (E:=131) (T:=tP2) (col:=1006) (xs:=ji) T hS kr kr kr kr h144 hN kr kr kr kr hq ?_)
       intro JR JD a F3 ER hE h177 hS
       clear hq hN
       clear h144
       replace hO:=hO.m2 hE
       replace h139:=h139.m1 hE
       replace h140:=h140.m1 hE
       replace h145:=h145.m1 hE
       replace h146:=h146.m1 hE
       replace h174:=h174.m1 hE
       refine ePe T hS [74,75,76] [(7,Sl JR (ji++[(fX,dZ)]) JD)] fun a hS=>?_
       exact ⟨Z,_,ji++[(fX,dZ)],JR,JD,hm,hS.sl _,hO,h139,h140,h177,h145,h146⟩
      replace hm:=hm.2 hb
      refine aH ?_
      exact ⟨Z,_,ji,jI,jF,hm,hS.sl _,hO,h139,h140,h144,h145,h146⟩
     rintro a HW ⟨Z,Hi,lC,EQ,EE,hm,hS,hO,h148,h149,h153,h154,h155⟩
     unfold VC43_J4 at hm
     refine region (ePe T hS [] [(55,I (wR (dZ+1)))] fun a hS=>?_)
     exact ⟨⟨lC,wR (dZ+1)⟩,⟨Z,_,EQ,EE,hm.1,hS.sl _,hO,h148,h149,h153,h154,h155⟩,hm.2⟩
    replace hm:=hm.2 hb
    refine cb (by rfl) ?_
    exact ⟨Z,_,ji,jI,jF,hm,hS.sl _,hO,h139,h140,h144,h145⟩
   rintro a KW ⟨Z,JZ,fW,gK,gJ,hm,hS,hO,h129,h130,h134,h135⟩
   unfold VC43_J3 at hm
   refine region (ePe T hS [] [(48,I (wR (fX+1)))] fun a hS=>?_)
   exact ⟨⟨fW,wR (fX+1)⟩,⟨Z,_,gK,gJ,hm.1,hS.sl _,hO,h129,h130,h134,h135⟩,hm.2⟩
  replace hm:=hm.2 hb
  refine cb (by rfl) ?_
  exact ⟨Z,_,fx,gZ,gY,hm,hS.sl _,hO,h122,h126⟩
 rintro a KV ⟨Z,JY,be,dA,dz,hm,hS,hO,h114,h118⟩
 unfold VC43_J2 at hm
 refine rPe T hS [6,7] [(4,Sl dK ap dJ),(5,Sl dA be dz)] fun a hS=>?_
 refine aY ?_
 obtain ⟨Dg,hE,hF⟩:=h118.freeze (by decide)
 replace hS:=hS.ev hE (cr kr)
 replace hO:=hO.m2 hE
 replace h114:=h114.m1 hE
 have h120:=hF; clear hE hF
 exact fin T hS hO (fun c=>c) rfl (r:=[.slice dK ap.length dJ,.slice dA be.length dz]) kr (fun X' hM hC=>⟨(ap,be),hm,dK,dJ,dA,dz,rfl,h114.m0 hM,h120.m0 hM⟩)
theorem C43 (xf:S63) (LA:S73) (v:∀ (l_:List ab) (rows:List (List aa)),uR l_ rows->VC43 l_ rows (fun r=>r=cS l_ rows)):S43:=by
 intro w X l_ rows a1 c1 a2 c2   hp h1 h2
 refine (W43 xf LA w X l_ rows a1 c1 a2 c2   _ (v l_ rows hp) h1 h2).mono ?_
 rintro _ _ _ _ ⟨r,rfl,h⟩
 exact h
theorem W15 (LU:S41) (LT:S42) (LS:S43) (LR:S44) (w0) (X0) (h_:ak) (a1) (c1) (a2) (c2) (Q:(List aa) × Int->Prop) (hm:VC15 h_ Q) (h1:RS aA w0 X0 a1 h_.ah c1) (h2:RS aP w0 X0 a2 h_.al c2) :
  Ret Tryz.prog 15 #[.agg #[.slice a1 h_.ah.length c1,.slice a2 h_.al.length c2]] aJ w0 X0 (fun w X' v=>∃ r,Q r/\∃ cn cm,v=.tuple #[.slice cn r.1.length cm,.int .i64 r.2]/\RS aq w X' cn r.1 cm):=by
 unfold VC15 at hm
 replace hm:=hm (h1.sm kr)
 replace hm:=hm (h2.sm kr)
 refine enter Tryz.func15 rfl (vals:=[.agg #[.slice a1 h_.ah.length c1,.slice a2 h_.al.length c2]]) kr ?_
 intro Z a hS hO hM
 replace h1:=h1.m0 hM
 replace h2:=h2.m0 hM
 refine rM T hS ⟨[(1,Pt 2 0)],[(2,(25,[Sl a1 h_.ah c1,Sl a2 h_.al c2]))]⟩ fun Z a KZ Hj hS hE hr=>?_
 replace hO:=hO.m2 hE
 replace h1:=h1.m1 hE
 replace h2:=h2.m1 hE
 clear hE hr
 refine bj ?_
 refine oPe T hS 1 [] [(16,V (.agg #[.slice a1 h_.ah.length c1,.slice a2 h_.al.length c2]))] fun a hS=>?_
 obtain ⟨hq,hm⟩:=hm
 refine op1 (call hS kr kr hb41 kr (fun _ _=>rfl) (LU _ _ h_ a1 c1 a2 c2 hq h1 h2) ?_)
 intro v101 a eZ fa hE hp hS
 replace hO:=hO.m2 hE
 replace h1:=h1.m1 hE
 replace h2:=h2.m1 hE
 obtain ⟨dK,dJ,iK,iJ,hp,h107,h110⟩:=hp
 obtain ⟨ap,hr⟩:∃ r,cq h_=r:=⟨_,rfl⟩
 replace hm:=hm ap hr
 rw [hr] at hp h107 h110
 clear hr
 subst hp
 replace hm:=hm (h107.sm kr)
 replace hm:=hm (h110.sm kr)
 refine ePe T hS [16,17] [(4,Sl dK ap.1 dJ),(5,Sl iK ap.2.1 iJ),(6,I ap.2.2)] fun a hS=>?_
 refine bc ?_
 refine rPe T hS [] [(22,B (ap.2.2 != 0))] fun a hS=>?_
 refine aG hS (b:=(ap.2.2 != 0)) kr (fun hb=>?_) fun hb=>?_
 ·replace hm:=hm.1 hb
  refine rP T hS ⟨[(2,V (.slice none 0 0)),(3,I ap.2.2)],[]⟩ fun a hS=>?_
  refine aY ?_
  exact fin T hS hO (fun c=>c) rfl (r:=[.slice none 0 0,.int .i64 ap.2.2]) kr (fun X' hM hC=>⟨([],ap.2.2),hm,none,0,rfl,RS.empty _ _ _⟩)
 replace hm:=hm.2 hb
 refine aH ?_
 refine bj ?_
 refine oP T hS 3 ⟨[(4,Sl dK ap.1 dJ),(6,I ap.2.2),(25,V (.agg #[.slice a1 h_.ah.length c1,.slice a2 h_.al.length c2])),(26,Sl dK ap.1 dJ),(27,Sl iK ap.2.1 iJ)],[]⟩ fun a hS=>?_
 obtain ⟨hq,hm⟩:=hm
 refine op1 (call hS kr kr hb42 kr (fun _ _=>rfl) (LT _ _ h_ ap.1 ap.2.1 a1 c1 a2 c2 dK dJ iK iJ hq h1 h2 h107 h110) ?_)
 intro v111 a Bc uf hE hp hS
 replace hO:=hO.m2 hE
 replace h1:=h1.m1 hE
 replace h2:=h2.m1 hE
 replace h107:=h107.m1 hE
 replace h110:=h110.m1 hE
 obtain ⟨Hh,Hd,hp,h117⟩:=hp
 obtain ⟨dy,hr⟩:∃ r,cC h_ ap.1 ap.2.1=r:=⟨_,rfl⟩
 replace hm:=hm dy hr
 rw [hr] at hp h117
 clear hr
 subst hp
 replace hm:=hm (h117.sm kr)
 refine ePe T hS [25,26,27,28] [(6,I dy.2),(7,Sl Hh dy.1 Hd)] fun a hS=>?_
 refine bc ?_
 refine rPe T hS [] [(32,B (dy.2 != 0))] fun a hS=>?_
 refine aG hS (b:=(dy.2 != 0)) kr (fun hb=>?_) fun hb=>?_
 ·replace hm:=hm.1 hb
  refine rPe T hS [4,6,7,32] [(2,V (.slice none 0 0)),(3,I dy.2)] fun a hS=>?_
  refine aY ?_
  exact fin T hS hO (fun c=>c) rfl (r:=[.slice none 0 0,.int .i64 dy.2]) kr (fun X' hM hC=>⟨([],dy.2),hm,none,0,rfl,RS.empty _ _ _⟩)
 replace hm:=hm.2 hb
 refine aH ?_
 refine bj ?_
 refine oPe T hS 2 [4,6,7,32] [(35,Sl dK ap.1 dJ),(36,Sl Hh dy.1 Hd)] fun a hS=>?_
 obtain ⟨hq,hm⟩:=hm
 refine op1 (call hS kr kr hb43 kr (fun _ _=>rfl) (LS _ _ ap.1 dy.1 dK dJ Hh Hd hq h107 h117) ?_)
 intro v118 a uq AL hE hp hS
 replace hO:=hO.m2 hE
 replace h107:=h107.m1 hE
 replace h117:=h117.m1 hE
 obtain ⟨jJ,jG,iE,iC,hp,h124,h127⟩:=hp
 obtain ⟨d8,hr⟩:∃ r,cS ap.1 dy.1=r:=⟨_,rfl⟩
 replace hm:=hm d8 hr
 rw [hr] at hp h124 h127
 clear hr
 subst hp
 replace hm:=hm (h124.sm kr)
 replace hm:=hm (h127.sm kr)
 refine ePe T hS [35,36,37] [(8,Sl jJ d8.1 jG),(9,Sl iE d8.2 iC)] fun a hS=>?_
 refine bj ?_
 refine oPe T hS 3 [9] [(42,I (lN d8.1)),(43,Sl iE d8.2 iC)] fun a hS=>?_
 refine op1 (call hS kr kr hb44 kr (fun _ _=>rfl) (LR _ _ (lN d8.1) d8.2 iE iC h127) ?_)
 intro v128 a F9 AI hE hp hS
 replace hO:=hO.m2 hE
 replace h124:=h124.m1 hE
 replace h127:=h127.m1 hE
 obtain ⟨gK,gJ,hp,h134⟩:=hp
 obtain ⟨fb,hr⟩:∃ r,dc (lN d8.1) d8.2=r:=⟨_,rfl⟩
 replace hm:=hm fb hr
 rw [hr] at hp h134
 clear hr
 subst hp
 replace hm:=hm (h134.sm kr)
 refine ePe T hS [42,43,44] [(10,Sl gK fb.1 gJ),(11,B fb.2)] fun a hS=>?_
 refine bc ?_
 refine rPe T hS [11] [(48,B (!fb.2))] fun a hS=>?_
 refine aG hS (b:=(!fb.2)) kr (fun hb=>?_) fun hb=>?_
 ·replace hm:=hm.1 hb
  refine rPe T hS [8,10,48] [(2,V (.slice none 0 0)),(3,I 41)] fun a hS=>?_
  refine aY ?_
  exact fin T hS hO (fun c=>c) rfl (r:=[.slice none 0 0,.int .i64 41]) kr (fun X' hM hC=>⟨([],41),hm,none,0,rfl,RS.empty _ _ _⟩)
 replace hm:=hm.2 hb
 refine aH ?_
 refine bj ?_
 refine op1 (lit (E:=56) (col:=1003) (T:=aq) (vals:=[]) (ys:=([]:List aa)) T hS kr kr kr kr trivial rfl kr kr kr kr ?_)
 intro b135 a p3 rH hE h138 hN hS
 clear hN
 replace hO:=hO.m2 hE
 replace h124:=h124.m1 hE
 replace h134:=h134.m1 hE
 refine ePe T hS [48,49] [(12,Sl (some ⟨b135,0,none⟩) ([]:List aa) 0)] fun a hS=>?_
 refine bT (fun a w=>∃ (Z:Nat->Nat) (X:Nat->Nat) (jw:List aa) (nC:Option Addr) (ny:Nat),VC15_J1 Q jw/\St Tryz.f15.ntmps ⟨[(12,Sl nC jw ny)],[]⟩ Z a w X/\Old w0 X0 w X/\OS aq 56 w X 1003 nC jw ny) ?_ ?_
 ·refine rPe T hS [10] [(50,Sl gK fb.1 gJ),(51,I (lN fb.1)),(52,I 0)] fun a hS=>?_
  refine aL ?_
  obtain ⟨I1,μ1,co,hm⟩:=hm
  refine cl (σ:=(List aa) × Int) (fun s a w=>∃ Z X ls li,I1 s.1 s.2/\St Tryz.f15.ntmps ⟨[(8,Sl jJ d8.1 jG),(12,Sl ls s.1 li),(50,Sl gK fb.1 gJ),(51,I (lN fb.1)),(52,I s.2)],[]⟩ Z a w X/\Old w0 X0 w X/\RS aq w X jJ d8.1 jG/\OS aq 56 w X 1003 ls s.1 li/\RS tI w X gK fb.1 gJ) (fun s=>μ1 s.1 s.2) (⟨([]:List aa),0⟩) ?_ ?_
  ·exact ⟨Z,_,(some ⟨b135,0,none⟩),0,co,hS.sl _,hO,h124,h138,h134⟩
  rintro ⟨i5,fQ⟩ a DA ⟨Z,Hl,ls,li,hI,hS,hO,h145,h149,h150⟩
  replace hm:=hm i5 fQ hI
  clear hI co
  refine rPe T hS [] [(53,B (decide (fQ < (lN fb.1))))] fun a hS=>?_
  refine bc ?_
  refine aG hS (b:=decide (fQ < (lN fb.1))) kr (fun hb=>?_) fun hb=>?_
  ·replace hm:=hm.1 hb
   refine aH (bc ?_)
   refine aL ?_
   refine bj ?_
   obtain ⟨hq,hm⟩:=hm
   refine op1 (index (e:=3) (k:=.i64) T hS kr kr kr kr h150 kr kr hq.1 hq.2 ?_)
   intro NF a h153 hS
   refine op1 (dU T hS kr kr kr h153 rfl kr ?_)
   intro v154 a hv hS
   cases hv
   refine ePe T hS [53,54,55] [(14,I (gi fb.1 fQ))] fun a hS=>?_
   refine region ?_
   refine oPe T hS 3 [14] [(56,Sl ls i5 li),(57,Sl jJ d8.1 jG),(58,I (gi fb.1 fQ))] fun a hS=>?_
   obtain ⟨hq,hm⟩:=hm
   refine op1 (index (e:=56) (k:=.i64) T hS kr kr kr kr h145 kr kr hq.1 hq.2 ?_)
   intro Kd a h156 hS
   refine op1 (eC T hS kr kr kr h156 kr kr ?_)
   intro v157 a hv hS
   subst hv
   refine op1 (lit (E:=56) (col:=0) (T:=aq) (vals:=[.agg #[.int .i64 ((gi d8.1 (gi fb.1 fQ)).Oper),.int .i64 ((gi d8.1 (gi fb.1 fQ)).Result)]]) (ys:=[gi d8.1 (gi fb.1 fQ)]) T hS kr kr kr kr (by exact ⟨rfl,trivial⟩) rfl kr kr kr kr ?_)
   intro b158 a wo ET hE h161 hN hS
   clear hN
   replace hO:=hO.m2 hE
   replace h145:=h145.m1 hE
   replace h149:=h149.m2 hE
   replace h150:=h150.m1 hE
   replace h156:=h156.m1 hE
   replace h161:=h161.rs0
   obtain ⟨hq,hm⟩:=hm
   obtain ⟨news,hN⟩:=h161.src
   refine op1 (append (E:=56) (T:=aq) (col:=1003) (xs:=i5) T hS kr kr kr kr h149 hN kr kr kr kr hq ?_)
   intro rc ra a DC ES hE h164 hS
   clear hq hN
   clear h149
   replace hO:=hO.m2 hE
   replace h145:=h145.m1 hE
   replace h150:=h150.m1 hE
   replace h156:=h156.m1 hE
   replace h161:=h161.m1 hE
   refine ePe T hS [57,58,59,60,61,62] [(12,Sl rc (i5++[gi d8.1 (gi fb.1 fQ)]) ra)] fun a hS=>?_
   refine region (ePe T hS [] [(52,I (wR (fQ+1)))] fun a hS=>?_)
   exact ⟨⟨i5++[gi d8.1 (gi fb.1 fQ)],wR (fQ+1)⟩,⟨Z,_,rc,ra,hm.1,hS.sl _,hO,h145,h164,h150⟩,hm.2⟩
  replace hm:=hm.2 hb
  refine cb (by rfl) ?_
  exact ⟨Z,_,i5,ls,li,hm,hS.sl _,hO,h149⟩
 rintro a K0 ⟨Z,Hk,jw,nC,ny,hm,hS,hO,h142⟩
 unfold VC15_J1 at hm
 refine rPe T hS [12] [(2,Sl nC jw ny),(3,I 0)] fun a hS=>?_
 refine aY ?_
 obtain ⟨rk,hE,hF⟩:=h142.freeze (by decide)
 replace hS:=hS.ev hE (cr kr)
 replace hO:=hO.m2 hE
 have h144:=hF; clear hE hF
 exact fin T hS hO (fun c=>c) rfl (r:=[.slice nC jw.length ny,.int .i64 0]) kr (fun X' hM hC=>⟨(jw,0),hm,nC,ny,rfl,h144.m0 hM⟩)
theorem C15 (LU:S41) (LT:S42) (LS:S43) (LR:S44) (v:∀ (h_:ak),gg h_->VC15 h_ (fun r=>r=cI h_)):S15:=by
 intro w X h_ a1 c1 a2 c2   hp h1 h2
 refine (W15 LU LT LS LR w X h_ a1 c1 a2 c2   _ (v h_ hp) h1 h2).mono ?_
 rintro _ _ _ _ ⟨r,rfl,h⟩
 exact h
theorem W9 (Fb:S15) (w0) (X0) (h_:ak) (a1) (c1) (a2) (c2) (Q:Bool × Int->Prop) (hm:VC9 h_ Q) (h1:RS aA w0 X0 a1 h_.ah c1) (h2:RS aP w0 X0 a2 h_.al c2) :
  Ret Tryz.prog 9 #[.agg #[.slice a1 h_.ah.length c1,.slice a2 h_.al.length c2]] aJ w0 X0 (fun w X' v=>∃ r,Q r/\v=.tuple #[.bool r.1,.int .i64 r.2]):=by
 unfold VC9 at hm
 replace hm:=hm (h1.sm kr)
 replace hm:=hm (h2.sm kr)
 refine enter Tryz.func9 rfl (vals:=[.agg #[.slice a1 h_.ah.length c1,.slice a2 h_.al.length c2]]) kr ?_
 intro Z a hS hO hM
 replace h1:=h1.m0 hM
 replace h2:=h2.m0 hM
 refine rM T hS ⟨[(1,Pt 2 0)],[(2,(25,[Sl a1 h_.ah c1,Sl a2 h_.al c2]))]⟩ fun Z a Gb xG hS hE hr=>?_
 replace hO:=hO.m2 hE
 replace h1:=h1.m1 hE
 replace h2:=h2.m1 hE
 clear hE hr
 refine bj ?_
 refine oP T hS 1 ⟨[(7,V (.agg #[.slice a1 h_.ah.length c1,.slice a2 h_.al.length c2]))],[]⟩ fun a hS=>?_
 obtain ⟨hq,hm⟩:=hm
 refine op1 (call hS kr kr hb15 kr (fun _ _=>rfl) (Fb _ _ h_ a1 c1 a2 c2 hq h1 h2) ?_)
 intro v101 a eZ fa hE hp hS
 replace hO:=hO.m2 hE
 replace h1:=h1.m1 hE
 replace h2:=h2.m1 hE
 obtain ⟨dK,dJ,hp,h107⟩:=hp
 obtain ⟨ap,hr⟩:∃ r,cI h_=r:=⟨_,rfl⟩
 replace hm:=hm ap hr
 rw [hr] at hp h107
 clear hr
 subst hp
 replace hm:=hm (h107.sm kr)
 refine ePe T hS [7,8] [(5,I ap.2)] fun a hS=>?_
 refine bc ?_
 refine rPe T hS [] [(12,B (ap.2 == 41))] fun a hS=>?_
 refine aG hS (b:=(ap.2 == 41)) kr (fun hb=>?_) fun hb=>?_
 ·replace hm:=hm.1 hb
  refine rPe T hS [5,12] [(2,B false),(3,I 0)] fun a hS=>?_
  refine aY ?_
  exact fin T hS hO (fun c=>c) rfl (r:=[.bool false,.int .i64 0]) kr (fun X' hM hC=>⟨(false,0),hm,rfl⟩)
 replace hm:=hm.2 hb
 refine aH ?_
 refine rPe T hS [5,12] [(2,B (ap.2 == 0)),(3,I ap.2)] fun a hS=>?_
 refine aY ?_
 exact fin T hS hO (fun c=>c) rfl (r:=[.bool (ap.2 == 0),.int .i64 ap.2]) kr (fun X' hM hC=>⟨((ap.2 == 0),ap.2),hm,rfl⟩)
theorem C9 (Fb:S15) (v:∀ (h_:ak),gg h_->VC9 h_ (fun r=>r=dx h_)):S9:=by
 intro w X h_ a1 c1 a2 c2   hp h1 h2
 refine (W9 Fb w X h_ a1 c1 a2 c2   _ (v h_ hp) h1 h2).mono ?_
 rintro _ _ _ _ ⟨r,rfl,h⟩
 exact h
theorem W32 (w0) (X0) (i_:Int) (am:List aa) (av:List ab) (aN:List Int) (bC:Int) (a1) (c1) (a2) (c2) (a3) (c3) (b1) (i1) (b2) (i2) (b3) (i3) (b4) (i4) (Q:Bool->Prop) (hm:VC32 i_ am av aN bC Q) (h1:RS aq w0 X0 a1 am c1) (h2:RS ao w0 X0 a2 av c2) (h3:RS tI w0 X0 a3 aN c3) (fw:Cell w0 X0 b1 i1 26 [.slice a1 am.length c1]) (gF:Cell w0 X0 b2 i2 42 [.slice a2 av.length c2]) (lO:Cell w0 X0 b3 i3 43 [.slice a3 aN.length c3]) (tO:Cell w0 X0 b4 i4 3 [.int .i64 bC]) (hA:dW [i1,i2,i3,i4]) :
  Ret Tryz.prog 32 #[.int .i64 i_,.pointer (some ⟨b1,0,none⟩),.pointer (some ⟨b2,0,none⟩),.pointer (some ⟨b3,0,none⟩),.pointer (some ⟨b4,0,none⟩)] (pR [i1,i2,i3,i4]) w0 X0 (fun w X' v=>∃ r,Q r/\v=.bool r/\Cell w X' b1 i1 26 [.slice a1 am.length c1]/\Cell w X' b2 i2 42 [.slice a2 av.length c2]/\Cell w X' b3 i3 43 [.slice a3 aN.length c3]/\Cell w X' b4 i4 3 [.int .i64 bC]):=by
 unfold VC32 at hm
 replace hm:=hm (h1.sm kr)
 replace hm:=hm (h2.sm kr)
 replace hm:=hm (h3.sm kr)
 refine fM Tryz.func32 rfl (dH (zAg1 i1 i2 i3 i4)) (fun id=>(bif Nat.beq id 901 then b1 else (bif Nat.beq id 902 then b2 else (bif Nat.beq id 903 then b3 else (bif Nat.beq id 904 then b4 else 0))))) (args:=[I i_,Pt 901 0,Pt 902 0,Pt 903 0,Pt 904 0]) (bxs:=[(901,(26,[Sl a1 am c1])),(902,(42,[Sl a2 av c2])),(903,(43,[Sl a3 aN c3])),(904,(3,[I bC]))]) kr rfl (bn.cons kr (fw.map (bM 0 hA.1 rfl)) (bn.cons kr (gF.map (bM 1 hA.1 rfl)) (bn.cons kr (lO.map (bM 2 hA.1 rfl)) (bn.cons kr (tO.map (bM 3 hA.1 rfl)) bn.nil)))) (fA (fun q hq=>(hA.2 q.1 (List.mem_map.2 ⟨q,hq,rfl⟩)).1)) ?_
 intro a hS hO hM
 have hP:Pin [(901,b1),(902,b2),(903,b3),(904,b4)] (fun id=>(bif Nat.beq id 901 then b1 else (bif Nat.beq id 902 then b2 else (bif Nat.beq id 903 then b3 else (bif Nat.beq id 904 then b4 else 0))))):=by intro q hq; simp at hq; rcases hq with rfl | rfl | rfl | rfl <;> rfl
 generalize (fun id=>(bif Nat.beq id 901 then b1 else (bif Nat.beq id 902 then b2 else (bif Nat.beq id 903 then b3 else (bif Nat.beq id 904 then b4 else 0)))))=Z at hS hP
 clear fw gF lO tO
 replace h1:=h1.m0 hM
 replace h2:=h2.m0 hM
 replace h3:=h3.m0 hM
 refine rPe T hS [] [] fun a hS=>?_
 refine bj ?_
 refine oPe T hS 2 [0,1] [(8,Sl a1 am c1),(9,I i_)] fun a hS=>?_
 obtain ⟨hq,hm⟩:=hm
 refine op1 (index (e:=56) (k:=.i64) T hS kr kr kr kr h1 kr kr hq.1 hq.2 ?_)
 intro Kl a h102 hS
 refine op1 (e9 (off:=0) (fsz:=1) (ft:=3) (TF:=tI) (y:=(gi am i_).Oper) T hS kr kr kr h102 kr kr kr (fun cs h=>gL h) ?_)
 intro ui a h104 hS
 refine op1 (dU T hS kr kr kr h104 rfl kr ?_)
 intro v105 a hv hS
 cases hv
 refine ePe T hS [8,9,10,11,12] [(7,I ((gi am i_).Oper))] fun a hS=>?_
 refine dv [901,902,903,904] mixed hS ?_
 intro mg mc hS hE hD hH
 replace hO:=hO.m2 hE
 replace h1:=h1.m1 hE
 replace h2:=h2.m1 hE
 replace h3:=h3.m1 hE
 refine tke T [0,1,2] [901,902,903,904] hS hH #[true,true,true,false,false,false,false,false,false,false,false,false,false,false,false,false,false] 14 [] [(15,B (decide (((gi am i_).Oper) < 0)))] fun a hS=>?_
 refine iL (tc:=15) (b:=decide (((gi am i_).Oper) < 0)) (f:=fun c=>⟨[(3,Pt 903 0),(4,Pt 904 0),(7,I ((gi am i_).Oper)),(20,B (c || (decide (((gi am i_).Oper)≥(lN av)))))],[(901,(26,[Sl a1 am c1])),(902,(42,[Sl a2 av c2])),(903,(43,[Sl a3 aN c3])),(904,(3,[I bC]))]⟩) T [3,4,5,6,7] [901,902,903,904] [3,4,7,20] hS kr kr kr kr hH (listed':=#[true,true,true,true,true,true,true,true,false,false,false,false,false,false,false,false,false]) (fuel:=9) kr kr (by rfl) ?_
 intro a hS
 refine tke T [8] [901,902,903,904] hS hH #[true,true,true,true,true,true,true,true,true,false,false,false,false,false,false,false,false] 8 [20] [(21,B ((decide (((gi am i_).Oper) < 0)) || (decide (((gi am i_).Oper)≥(lN av)))))] fun a hS=>?_
 rcases bft ((decide (((gi am i_).Oper) < 0)) || (decide (((gi am i_).Oper)≥(lN av)))) with hb | hb
 ·replace hS:=hS.lit (t:=21) kr hb
  replace hm:=hm.1 hb
  refine tke T [9,10,13,11,12,14,15,16] [901,902,903,904] hS hH (tts 17) 0 [3,4,7,21] [(6,B true)] fun a hS=>?_
  refine aS kr ?_
  replace hS:=hS.sle [] []
  refine aY ?_
  exact gG T hS hO (fun c h=>bW kr h) (fun c h=>bX (l:=(zAg1 i1 i2 i3 i4)) h) (bR (zAg1 i1 i2 i3 i4)) rfl (r:=[.bool true]) kr (fun X' hM hC=>⟨true,hm,rfl,((hS.cell (id:=901) (t:=26) (cs:=[Sl a1 am c1]) kr).out (f:=(bR (zAg1 i1 i2 i3 i4))) hC kr kr (hP.at 0 rfl)),((hS.cell (id:=902) (t:=42) (cs:=[Sl a2 av c2]) kr).out (f:=(bR (zAg1 i1 i2 i3 i4))) hC kr kr (hP.at 1 rfl)),((hS.cell (id:=903) (t:=43) (cs:=[Sl a3 aN c3]) kr).out (f:=(bR (zAg1 i1 i2 i3 i4))) hC kr kr (hP.at 2 rfl)),((hS.cell (id:=904) (t:=3) (cs:=[I bC]) kr).out (f:=(bR (zAg1 i1 i2 i3 i4))) hC kr kr (hP.at 3 rfl))⟩)
 replace hS:=hS.lit (t:=21) kr hb
 replace hm:=hm.2 hb
 refine tke T [9,10,13] [901,902,903,904] hS hH #[true,true,true,true,true,true,true,true,true,true,true,false,false,true,false,false,false] 5 [3,4,7] [(22,Sl a3 aN c3),(23,I ((gi am i_).Oper)),(26,I bC)] fun a hS=>?_
 obtain ⟨hq,hm⟩:=hm
 refine c7 (e:=3) (k:=.i64) T 11 hS kr kr kr (by rfl) kr hH kr kr h3 kr kr hq.1 hq.2 ?_
 intro NN a h109 hS
 have Jj:=h109.here
 refine dV T 12 hS kr kr kr (by rfl) kr hH kr h109 Jj rfl kr ?_
 intro v110 a hv hS
 cases hv
 refine tke T [14,15,16] [901,902,903,904] hS hH (tts 17) 0 [21,22,23,26,24,25] [(6,B ((gi aN ((gi am i_).Oper)) == bC))] fun a hS=>?_
 refine aS kr ?_
 replace hS:=hS.sle [] []
 refine aY ?_
 exact gG T hS hO (fun c h=>bW kr h) (fun c h=>bX (l:=(zAg1 i1 i2 i3 i4)) h) (bR (zAg1 i1 i2 i3 i4)) rfl (r:=[.bool ((gi aN ((gi am i_).Oper)) == bC)]) kr (fun X' hM hC=>⟨((gi aN ((gi am i_).Oper)) == bC),hm,rfl,((hS.cell (id:=901) (t:=26) (cs:=[Sl a1 am c1]) kr).out (f:=(bR (zAg1 i1 i2 i3 i4))) hC kr kr (hP.at 0 rfl)),((hS.cell (id:=902) (t:=42) (cs:=[Sl a2 av c2]) kr).out (f:=(bR (zAg1 i1 i2 i3 i4))) hC kr kr (hP.at 1 rfl)),((hS.cell (id:=903) (t:=43) (cs:=[Sl a3 aN c3]) kr).out (f:=(bR (zAg1 i1 i2 i3 i4))) hC kr kr (hP.at 2 rfl)),((hS.cell (id:=904) (t:=3) (cs:=[I bC]) kr).out (f:=(bR (zAg1 i1 i2 i3 i4))) hC kr kr (hP.at 3 rfl))⟩)
theorem C32 (v:∀ (i_:Int) (am:List aa) (av:List ab) (aN:List Int) (bC:Int),yf i_ am av aN bC->VC32 i_ am av aN bC (fun r=>r=dI i_ am av aN bC)):S32:=by
 intro w X i_ am av aN bC a1 c1 a2 c2 a3 c3  b1 i1 b2 i2 b3 i3 b4 i4 hp h1 h2 h3 fw gF lO tO hA
 refine (W32 w X i_ am av aN bC a1 c1 a2 c2 a3 c3  b1 i1 b2 i2 b3 i3 b4 i4 _ (v i_ am av aN bC hp) h1 h2 h3 fw gF lO tO hA).mono ?_
 rintro _ _ _ _ ⟨r,rfl,h⟩
 exact h
theorem W31_32 (LY:S32) (w0) (X0) (l_:List aa) (am:List aa) (av:List ab) (aN:List Int) (bC:Int) (a1) (c1) (a2) (c2) (a3) (c3) (a4) (c4) (b1) (i1) (b2) (i2) (b3) (i3) (b4) (i4) (Q:(List aa)->Prop) (hm:VC31_32 l_ am av aN bC Q) (h1:RS aq w0 X0 a1 l_ c1) (h2:RS aq w0 X0 a2 am c2) (h3:RS ao w0 X0 a3 av c3) (h4:RS tI w0 X0 a4 aN c4) (fw:Cell w0 X0 b1 i1 26 [.slice a2 am.length c2]) (gF:Cell w0 X0 b2 i2 42 [.slice a3 av.length c3]) (lO:Cell w0 X0 b3 i3 43 [.slice a4 aN.length c4]) (tO:Cell w0 X0 b4 i4 3 [.int .i64 bC]) (hA:dW [i1,i2,i3,i4]) :
  Ret Tryz.prog 31 #[.slice a1 l_.length c1,.func (.func 32) #[] #[.pointer (some ⟨b1,0,none⟩),.pointer (some ⟨b2,0,none⟩),.pointer (some ⟨b3,0,none⟩),.pointer (some ⟨b4,0,none⟩)]] (pR [i1,i2,i3,i4]) w0 X0 (fun w X' v=>∃ r,Q r/\∃ cn cm,v=.slice cn r.length cm/\RS aq w X' cn r cm/\Cell w X' b1 i1 26 [.slice a2 am.length c2]/\Cell w X' b2 i2 42 [.slice a3 av.length c3]/\Cell w X' b3 i3 43 [.slice a4 aN.length c4]/\Cell w X' b4 i4 3 [.int .i64 bC]):=by
 unfold VC31_32 at hm
 replace hm:=hm (h1.sm kr)
 replace hm:=hm (h2.sm kr)
 replace hm:=hm (h3.sm kr)
 replace hm:=hm (h4.sm kr)
 refine fM Tryz.func31 rfl (dH (zAg1 i1 i2 i3 i4)) (fun id=>(bif Nat.beq id 901 then b1 else (bif Nat.beq id 902 then b2 else (bif Nat.beq id 903 then b3 else (bif Nat.beq id 904 then b4 else 0))))) (args:=[Sl a1 l_ c1,.f (.func 32) [] [.p 901 0,.p 902 0,.p 903 0,.p 904 0]]) (bxs:=[(901,(26,[Sl a2 am c2])),(902,(42,[Sl a3 av c3])),(903,(43,[Sl a4 aN c4])),(904,(3,[I bC]))]) kr rfl (bn.cons kr (fw.map (bM 0 hA.1 rfl)) (bn.cons kr (gF.map (bM 1 hA.1 rfl)) (bn.cons kr (lO.map (bM 2 hA.1 rfl)) (bn.cons kr (tO.map (bM 3 hA.1 rfl)) bn.nil)))) (fA (fun q hq=>(hA.2 q.1 (List.mem_map.2 ⟨q,hq,rfl⟩)).1)) ?_
 intro a hS hO hM
 have hP:Pin [(901,b1),(902,b2),(903,b3),(904,b4)] (fun id=>(bif Nat.beq id 901 then b1 else (bif Nat.beq id 902 then b2 else (bif Nat.beq id 903 then b3 else (bif Nat.beq id 904 then b4 else 0))))):=by intro q hq; simp at hq; rcases hq with rfl | rfl | rfl | rfl <;> rfl
 generalize (fun id=>(bif Nat.beq id 901 then b1 else (bif Nat.beq id 902 then b2 else (bif Nat.beq id 903 then b3 else (bif Nat.beq id 904 then b4 else 0)))))=Z at hS hP
 clear fw gF lO tO
 replace h1:=h1.m0 hM
 replace h2:=h2.m0 hM
 replace h3:=h3.m0 hM
 replace h4:=h4.m0 hM
 refine rPe T hS [] [] fun a hS=>?_
 refine rPe T hS [] [(5,V (.slice none 0 0))] fun a hS=>?_
 refine bT (fun a w=>∃ (Z:Nat->Nat) (X:Nat->Nat) (bD:List aa) (dq:Option Addr) (dl:Nat),VC31_32_J1 Q bD/\St Tryz.f31.ntmps ⟨[(5,Sl dq bD dl)],[(901,(26,[Sl a2 am c2])),(902,(42,[Sl a3 av c3])),(903,(43,[Sl a4 aN c4])),(904,(3,[I bC]))]⟩ Z a w X/\gf (dH (zAg1 i1 i2 i3 i4)) w0 X0 w X/\Pin [(901,b1),(902,b2),(903,b3),(904,b4)] Z/\OS aq 56 w X 1005 dq bD dl/\RS aq w X a2 am c2/\RS ao w X a3 av c3/\RS tI w X a4 aN c4) ?_ ?_
 ·refine rPe T hS [0] [(8,Sl a1 l_ c1),(9,I (lN l_)),(10,I 0)] fun a hS=>?_
  refine aL ?_
  obtain ⟨I1,μ1,co,hm⟩:=hm
  refine cl (σ:=(List aa) × Int) (fun s a w=>∃ Z X iG iD,I1 s.1 s.2/\St Tryz.f31.ntmps ⟨[(1,.f (.func 32) [] [.p 901 0,.p 902 0,.p 903 0,.p 904 0]),(5,Sl iG s.1 iD),(8,Sl a1 l_ c1),(9,I (lN l_)),(10,I s.2)],[(901,(26,[Sl a2 am c2])),(902,(42,[Sl a3 av c3])),(903,(43,[Sl a4 aN c4])),(904,(3,[I bC]))]⟩ Z a w X/\gf (dH (zAg1 i1 i2 i3 i4)) w0 X0 w X/\Pin [(901,b1),(902,b2),(903,b3),(904,b4)] Z/\OS aq 56 w X 1005 iG s.1 iD/\RS aq w X a1 l_ c1/\RS aq w X a2 am c2/\RS ao w X a3 av c3/\RS tI w X a4 aN c4) (fun s=>μ1 s.1 s.2) (⟨[],0⟩) ?_ ?_
  ·exact ⟨Z,_,none,0,co,hS.sl _,hO,hP,(OS.nil _ _ _ _ _),h1,h2,h3,h4⟩
  rintro ⟨bJ,be⟩ a DF ⟨Z,J6,iG,iD,hI,hS,hO,hP,h113,h114,h116,h117,h118⟩
  replace hm:=hm bJ be hI
  clear hI co
  refine rPe T hS [] [(11,B (decide (be < (lN l_))))] fun a hS=>?_
  refine bc ?_
  refine aG hS (b:=decide (be < (lN l_))) kr (fun hb=>?_) fun hb=>?_
  ·replace hm:=hm.1 hb
   refine aH ?_
   refine bT (fun a w=>∃ (Z:Nat->Nat) (X:Nat->Nat) (bq:List aa) (ju:Option Addr) (js:Nat),VC31_32_J2 I1 μ1 bJ be bq/\St Tryz.f31.ntmps ⟨[(1,.f (.func 32) [] [.p 901 0,.p 902 0,.p 903 0,.p 904 0]),(5,Sl ju bq js),(8,Sl a1 l_ c1),(9,I (lN l_)),(10,I be)],[(901,(26,[Sl a2 am c2])),(902,(42,[Sl a3 av c3])),(903,(43,[Sl a4 aN c4])),(904,(3,[I bC]))]⟩ Z a w X/\gf (dH (zAg1 i1 i2 i3 i4)) w0 X0 w X/\Pin [(901,b1),(902,b2),(903,b3),(904,b4)] Z/\OS aq 56 w X 1005 ju bq js/\RS aq w X a1 l_ c1/\RS aq w X a2 am c2/\RS ao w X a3 av c3/\RS tI w X a4 aN c4) ?_ ?_
   ·refine aL ?_
    refine bj ?_
    refine oPe T hS 1 [11] [(12,I be)] fun a hS=>?_
    obtain ⟨hq,hm⟩:=hm
    refine op1 (index (e:=56) (k:=.i64) T hS kr kr kr kr h114 kr kr hq.1 hq.2 ?_)
    intro Kg a h128 hS
    refine op1 (eC T hS kr kr kr h128 kr kr ?_)
    intro v129 a hv hS
    subst hv
    refine eM T hS ⟨[(1,.f (.func 32) [] [.p 901 0,.p 902 0,.p 903 0,.p 904 0]),(5,Sl iG bJ iD),(6,I be),(7,Pt 8 0),(8,Sl a1 l_ c1),(9,I (lN l_)),(10,I be)],[(8,(56,(cK (gi l_ be)))),(901,(26,[Sl a2 am c2])),(902,(42,[Sl a3 av c3])),(903,(43,[Sl a4 aN c4])),(904,(3,[I bC]))]⟩ fun Z a wq AG hS hE hr=>?_
    replace hO:=hO.m2 hE
    replace h113:=h113.m2 hE
    replace h114:=h114.m1 hE
    replace h116:=h116.m1 hE
    replace h117:=h117.m1 hE
    replace h118:=h118.m1 hE
    replace hP:=hP.mv hr kr
    clear hE hr
    refine bj ?_
    refine oPe T hS 2 [6] [(15,.f (.func 32) [] [.p 901 0,.p 902 0,.p 903 0,.p 904 0]),(16,I be)] fun a hS=>?_
    obtain ⟨hq,hm⟩:=hm
    refine op1 (kd (fi:=[]) (cp:=[.p 901 0,.p 902 0,.p 903 0,.p 904 0]) hS kr kr hb32 kr kr (LY _ _ be am av aN bC a2 c2 a3 c3 a4 c4 (Z 901) 901 (Z 902) 902 (Z 903) 903 (Z 904) 904 hq h116 h117 h118 (hS.cell (id:=901) (t:=26) (cs:=[Sl a2 am c2]) kr) (hS.cell (id:=902) (t:=42) (cs:=[Sl a3 av c3]) kr) (hS.cell (id:=903) (t:=43) (cs:=[Sl a4 aN c4]) kr) (hS.cell (id:=904) (t:=3) (cs:=[I bC]) kr) ⟨by decide,by decide⟩) ?_)
    intro v130 a p4 pH hE hp hS
    replace hO:=hO.m2 hE
    replace h113:=h113.m2 hE
    replace h114:=h114.m1 hE
    replace h116:=h116.m1 hE
    replace h117:=h117.m1 hE
    replace h118:=h118.m1 hE
    obtain ⟨hp,FA,Fz,Fy,vd⟩:=hp
    obtain ⟨jB,hr⟩:∃ r,dI be am av aN bC=r:=⟨_,rfl⟩
    replace hm:=hm jB hr
    rw [hr] at hp
    clear hr
    subst hp
    replace hS:=hS.cD (id:=901) (t:=26) (cs:=[Sl a2 am c2]) kr FA
    replace hS:=hS.cD (id:=902) (t:=42) (cs:=[Sl a3 av c3]) kr Fz
    replace hS:=hS.cD (id:=903) (t:=43) (cs:=[Sl a4 aN c4]) kr Fy
    replace hS:=hS.cD (id:=904) (t:=3) (cs:=[I bC]) kr vd
    clear FA Fz Fy vd
    refine gX ?_
    refine aG hS (b:=jB) kr (fun hb=>?_) fun hb=>?_
    ·replace hm:=hm.1 hb
     refine region ?_
     refine oP T hS 2 ⟨[(1,.f (.func 32) [] [.p 901 0,.p 902 0,.p 903 0,.p 904 0]),(5,Sl iG bJ iD),(8,Sl a1 l_ c1),(9,I (lN l_)),(10,I be),(18,Sl iG bJ iD),(19,V (.agg #[.int .i64 ((gi l_ be).Oper),.int .i64 ((gi l_ be).Result)]))],[(901,(26,[Sl a2 am c2])),(902,(42,[Sl a3 av c3])),(903,(43,[Sl a4 aN c4])),(904,(3,[I bC]))]⟩ fun a hS=>?_
     refine op1 (lit (E:=56) (col:=0) (T:=aq) (vals:=[.agg #[.int .i64 ((gi l_ be).Oper),.int .i64 ((gi l_ be).Result)]]) (ys:=[(gi l_ be)]) T hS kr kr kr kr (by exact ⟨rfl,trivial⟩) rfl kr kr kr kr ?_)
     intro b138 a rt uc hE h141 hN hS
     clear hN
     replace hO:=hO.m2 hE
     replace h113:=h113.m2 hE
     replace h114:=h114.m1 hE
     replace h116:=h116.m1 hE
     replace h117:=h117.m1 hE
     replace h118:=h118.m1 hE
     replace h141:=h141.rs0
     obtain ⟨hq,hm⟩:=hm
     obtain ⟨news,hN⟩:=h141.src
     refine op1 (append (E:=56) (T:=aq) (col:=1005) (xs:=bJ) T hS kr kr kr kr h113 hN kr kr kr kr hq ?_)
     intro v2 vP a pm rk hE h144 hS
     clear hq hN
     clear h113
     replace hO:=hO.m2 hE
     replace h114:=h114.m1 hE
     replace h116:=h116.m1 hE
     replace h117:=h117.m1 hE
     replace h118:=h118.m1 hE
     replace h141:=h141.m1 hE
     refine ePe T hS [19,20,21] [(5,Sl v2 (bJ++[(gi l_ be)]) vP)] fun a hS=>?_
     exact ⟨Z,_,bJ++[(gi l_ be)],v2,vP,hm,hS.sl _,hO,hP,h144,h114,h116,h117,h118⟩
    replace hm:=hm.2 hb
    refine aH ?_
    exact ⟨Z,_,bJ,iG,iD,hm,hS.sl _,hO,hP,h113,h114,h116,h117,h118⟩
   rintro a DG ⟨Z,xC,bq,ju,js,hm,hS,hO,hP,h122,h123,h124,h125,h126⟩
   unfold VC31_32_J2 at hm
   refine region (ePe T hS [] [(10,I (wR (be+1)))] fun a hS=>?_)
   exact ⟨⟨bq,wR (be+1)⟩,⟨Z,_,ju,js,hm.1,hS.sl _,hO,hP,h122,h123,h124,h125,h126⟩,hm.2⟩
  replace hm:=hm.2 hb
  refine cb (by rfl) ?_
  exact ⟨Z,_,bJ,iG,iD,hm,hS.sl _,hO,hP,h113,h116,h117,h118⟩
 rintro a rr ⟨Z,EU,bD,dq,dl,hm,hS,hO,hP,h104,h105,h106,h107⟩
 unfold VC31_32_J1 at hm
 refine rPe T hS [5] [(4,Sl dq bD dl)] fun a hS=>?_
 refine aY ?_
 obtain ⟨pI,hE,hF⟩:=h104.freeze (by decide)
 replace hS:=hS.ev hE (cr kr)
 replace hO:=hO.m2 hE
 replace h105:=h105.m1 hE
 replace h106:=h106.m1 hE
 replace h107:=h107.m1 hE
 have h109:=hF; clear hE hF
 exact gG T hS hO (fun c h=>bW kr h) (fun c h=>bX (l:=(zAg1 i1 i2 i3 i4)) h) (bR (zAg1 i1 i2 i3 i4)) rfl (r:=[.slice dq bD.length dl]) kr (fun X' hM hC=>⟨bD,hm,dq,dl,rfl,h109.m0 hM,((hS.cell (id:=901) (t:=26) (cs:=[Sl a2 am c2]) kr).out (f:=(bR (zAg1 i1 i2 i3 i4))) hC kr kr (hP.at 0 rfl)),((hS.cell (id:=902) (t:=42) (cs:=[Sl a3 av c3]) kr).out (f:=(bR (zAg1 i1 i2 i3 i4))) hC kr kr (hP.at 1 rfl)),((hS.cell (id:=903) (t:=43) (cs:=[Sl a4 aN c4]) kr).out (f:=(bR (zAg1 i1 i2 i3 i4))) hC kr kr (hP.at 2 rfl)),((hS.cell (id:=904) (t:=3) (cs:=[I bC]) kr).out (f:=(bR (zAg1 i1 i2 i3 i4))) hC kr kr (hP.at 3 rfl))⟩)
theorem C31_32 (LY:S32) (v:∀ (l_:List aa) (am:List aa) (av:List ab) (aN:List Int) (bC:Int),ye l_ am av aN bC->VC31_32 l_ am av aN bC (fun r=>r=bN l_ am av aN bC)):S31_32:=by
 intro w X l_ am av aN bC a1 c1 a2 c2 a3 c3 a4 c4  b1 i1 b2 i2 b3 i3 b4 i4 hp h1 h2 h3 h4 fw gF lO tO hA
 refine (W31_32 LY w X l_ am av aN bC a1 c1 a2 c2 a3 c3 a4 c4  b1 i1 b2 i2 b3 i3 b4 i4 _ (v l_ am av aN bC hp) h1 h2 h3 h4 fw gF lO tO hA).mono ?_
 rintro _ _ _ _ ⟨r,rfl,h⟩
 exact h
theorem W12 (rD:S23) (B3:S24) (xi:S31_32) (GE:S33) (GD:S34) (GC:S35) (w0) (X0) (h_:ak) (ac:List aa) (a1) (c1) (a2) (c2) (a3) (c3) (Q:Bool->Prop) (hm:VC12 h_ ac Q) (h1:RS aA w0 X0 a1 h_.ah c1) (h2:RS aP w0 X0 a2 h_.al c2) (h3:RS aq w0 X0 a3 ac c3) :
  Ret Tryz.prog 12 #[.agg #[.slice a1 h_.ah.length c1,.slice a2 h_.al.length c2],.slice a3 ac.length c3] aJ w0 X0 (fun w X' v=>∃ r,Q r/\v=.bool r):=by
 unfold VC12 at hm
 replace hm:=hm (h1.sm kr)
 replace hm:=hm (h2.sm kr)
 replace hm:=hm (h3.sm kr)
 refine enter Tryz.func12 rfl (vals:=[.agg #[.slice a1 h_.ah.length c1,.slice a2 h_.al.length c2],.slice a3 ac.length c3]) kr ?_
 intro Z a hS hO hM
 replace h1:=h1.m0 hM
 replace h2:=h2.m0 hM
 replace h3:=h3.m0 hM
 refine rM T hS ⟨[(2,Pt 3 0),(3,Pt 4 0)],[(3,(25,[Sl a1 h_.ah c1,Sl a2 h_.al c2])),(4,(26,[Sl a3 ac c3]))]⟩ fun Z a DC ES hS hE hr=>?_
 replace hO:=hO.m2 hE
 replace h1:=h1.m1 hE
 replace h2:=h2.m1 hE
 replace h3:=h3.m1 hE
 clear hE hr
 refine bc ?_
 refine bj ?_
 refine oPe T hS 1 [] [(16,V (.agg #[.slice a1 h_.ah.length c1,.slice a2 h_.al.length c2]))] fun a hS=>?_
 obtain ⟨hq,hm⟩:=hm
 refine op1 (call hS kr kr hb23 kr (fun _ _=>rfl) (rD _ _ h_ a1 c1 a2 c2 hq h1 h2) ?_)
 intro v101 a eZ fa hE hp hS
 replace hO:=hO.m2 hE
 replace h1:=h1.m1 hE
 replace h2:=h2.m1 hE
 replace h3:=h3.m1 hE
 obtain ⟨ap,hr⟩:∃ r,aB h_=r:=⟨_,rfl⟩
 replace hm:=hm ap hr
 rw [hr] at hp
 clear hr
 subst hp
 refine ePe T hS [16,17] [(6,I ap.2)] fun a hS=>?_
 refine rPe T hS [6] [(21,B (ap.2 != 0))] fun a hS=>?_
 refine aG hS (b:=(ap.2 != 0)) kr (fun hb=>?_) fun hb=>?_
 ·replace hm:=hm.1 hb
  refine rP T hS ⟨[(4,B false)],[]⟩ fun a hS=>?_
  refine aY ?_
  exact fin T hS hO (fun c=>c) rfl (r:=[.bool false]) kr (fun X' hM hC=>⟨false,hm,rfl⟩)
 replace hm:=hm.2 hb
 refine aH ?_
 refine bj ?_
 refine oPe T hS 1 [21] [(23,V (.agg #[.slice a1 h_.ah.length c1,.slice a2 h_.al.length c2]))] fun a hS=>?_
 obtain ⟨hq,hm⟩:=hm
 refine op1 (call hS kr kr hb24 kr (fun _ _=>rfl) (B3 _ _ h_ a1 c1 a2 c2 hq h1 h2) ?_)
 intro v105 a mg mc hE hp hS
 replace hO:=hO.m2 hE
 replace h1:=h1.m1 hE
 replace h2:=h2.m1 hE
 replace h3:=h3.m1 hE
 obtain ⟨ci,ce,gz,gx,hp,h111,h114⟩:=hp
 obtain ⟨aV,hr⟩:∃ r,cV h_=r:=⟨_,rfl⟩
 replace hm:=hm aV hr
 rw [hr] at hp h111 h114
 clear hr
 subst hp
 replace hm:=hm (h111.sm kr)
 replace hm:=hm (h114.sm kr)
 refine eM T hS ⟨[(2,Pt 3 0),(3,Pt 4 0),(7,Pt 8 0),(8,Pt 9 0)],[(3,(25,[Sl a1 h_.ah c1,Sl a2 h_.al c2])),(4,(26,[Sl a3 ac c3])),(8,(42,[Sl ci aV.1 ce])),(9,(43,[Sl gz aV.2 gx]))]⟩ fun Z a zi AE hS hE hr=>?_
 replace hO:=hO.m2 hE
 replace h1:=h1.m1 hE
 replace h2:=h2.m1 hE
 replace h3:=h3.m1 hE
 replace h111:=h111.m1 hE
 replace h114:=h114.m1 hE
 clear hE hr
 refine bT (fun a w=>∃ Z X,VC12_J1 ac Q aV/\St Tryz.f12.ntmps ⟨[(3,Pt 4 0),(7,Pt 8 0)],[(4,(26,[Sl a3 ac c3])),(8,(42,[Sl ci aV.1 ce]))]⟩ Z a w X/\Old w0 X0 w X/\RS aq w X a3 ac c3/\RS ao w X ci aV.1 ce) ?_ ?_
 ·refine rP T hS ⟨[(3,Pt 4 0),(7,Pt 8 0),(8,Pt 9 0),(28,Sl a1 h_.ah c1),(29,I (lN h_.ah)),(30,I 0)],[(4,(26,[Sl a3 ac c3])),(8,(42,[Sl ci aV.1 ce])),(9,(43,[Sl gz aV.2 gx]))]⟩ fun a hS=>?_
  refine aL ?_
  obtain ⟨I1,μ1,co,hm⟩:=hm
  refine cl (σ:=Int) (fun s a w=>∃ Z X,I1 s/\St Tryz.f12.ntmps ⟨[(3,Pt 4 0),(7,Pt 8 0),(8,Pt 9 0),(28,Sl a1 h_.ah c1),(29,I (lN h_.ah)),(30,I s)],[(4,(26,[Sl a3 ac c3])),(8,(42,[Sl ci aV.1 ce])),(9,(43,[Sl gz aV.2 gx]))]⟩ Z a w X/\Old w0 X0 w X/\RS aA w X a1 h_.ah c1/\RS aq w X a3 ac c3/\RS ao w X ci aV.1 ce/\RS tI w X gz aV.2 gx) (fun s=>μ1 s) (0) ?_ ?_
  ·exact ⟨Z,_,co,hS.sl _,hO,h1,h3,h111,h114⟩
  rintro kw a sR ⟨Z,AF,hI,hS,hO,h128,h130,h131,h132⟩
  replace hm:=hm kw hI
  clear hI co
  refine rPe T hS [] [(31,B (decide (kw < (lN h_.ah))))] fun a hS=>?_
  refine bc ?_
  refine aG hS (b:=decide (kw < (lN h_.ah))) kr (fun hb=>?_) fun hb=>?_
  ·replace hm:=hm.1 hb
   refine aH (bc ?_)
   refine aL ?_
   refine bj ?_
   refine oPe T hS 1 [31] [(32,I kw)] fun a hS=>?_
   obtain ⟨hq,hm⟩:=hm
   refine op1 (index (e:=48) (k:=.i64) T hS kr kr kr kr h128 kr kr hq.1 hq.2 ?_)
   intro NH a h134 hS
   refine op1 (eC T hS kr kr kr h134 kr kr ?_)
   intro v135 a hv hS
   obtain ⟨mb,ma,hv,h138⟩:=hv
   subst hv
   replace hm:=hm (h138.sm kr)
   refine eM T hS ⟨[(3,Pt 4 0),(7,Pt 8 0),(8,Pt 9 0),(9,Pt 10 0),(10,Pt 11 0),(28,Sl a1 h_.ah c1),(29,I (lN h_.ah)),(30,I kw)],[(4,(26,[Sl a3 ac c3])),(8,(42,[Sl ci aV.1 ce])),(9,(43,[Sl gz aV.2 gx])),(10,(3,[I kw])),(11,(48,(cO (gi h_.ah kw) mb ma)))]⟩ fun Z a rr t9 hS hE hr=>?_
   replace hO:=hO.m2 hE
   replace h128:=h128.m1 hE
   replace h130:=h130.m1 hE
   replace h131:=h131.m1 hE
   replace h132:=h132.m1 hE
   replace h138:=h138.m1 hE
   clear hE hr
   refine bj ?_
   refine oPe T hS 2 [9] [(35,Sl a3 ac c3),(36,.f (.func 32) [] [.p 4 0,.p 8 0,.p 9 0,.p 10 0])] fun a hS=>?_
   obtain ⟨hq,hm⟩:=hm
   refine op1 (l5 hS kr kr hb31 kr (xi _ _ ac ac aV.1 aV.2 kw a3 c3 a3 c3 ci ce gz gx (Z 4) 4 (Z 8) 8 (Z 9) 9 (Z 10) 10 hq h130 h130 h131 h132 (hS.cell (id:=4) (t:=26) (cs:=[Sl a3 ac c3]) kr) (hS.cell (id:=8) (t:=42) (cs:=[Sl ci aV.1 ce]) kr) (hS.cell (id:=9) (t:=43) (cs:=[Sl gz aV.2 gx]) kr) (hS.cell (id:=10) (t:=3) (cs:=[I kw]) kr) ⟨by decide,by decide⟩) ?_)
   intro v139 a ul ub hE hp hS
   replace hO:=hO.m2 hE
   replace h128:=h128.m1 hE
   replace h130:=h130.m1 hE
   replace h131:=h131.m1 hE
   replace h132:=h132.m1 hE
   replace h138:=h138.m1 hE
   obtain ⟨kD,kB,hp,h145,vc,su,Fu,Ft⟩:=hp
   obtain ⟨bV,hr⟩:∃ r,bN ac ac aV.1 aV.2 kw=r:=⟨_,rfl⟩
   replace hm:=hm bV hr
   rw [hr] at hp h145
   clear hr
   subst hp
   replace hm:=hm (h145.sm kr)
   replace hS:=hS.cD (id:=4) (t:=26) (cs:=[Sl a3 ac c3]) kr vc
   replace hS:=hS.cD (id:=8) (t:=42) (cs:=[Sl ci aV.1 ce]) kr su
   replace hS:=hS.cD (id:=9) (t:=43) (cs:=[Sl gz aV.2 gx]) kr Fu
   replace hS:=hS.cD (id:=10) (t:=3) (cs:=[I kw]) kr Ft
   clear vc su Fu Ft
   refine eP T hS ⟨[(3,Pt 4 0),(7,Pt 8 0),(8,Pt 9 0),(10,Pt 11 0),(11,Sl kD bV kB),(28,Sl a1 h_.ah c1),(29,I (lN h_.ah)),(30,I kw)],[(4,(26,[Sl a3 ac c3])),(8,(42,[Sl ci aV.1 ce])),(9,(43,[Sl gz aV.2 gx])),(11,(48,(cO (gi h_.ah kw) mb ma)))]⟩ fun a hS=>?_
   refine bj ?_
   refine oP T hS 3 ⟨[(3,Pt 4 0),(7,Pt 8 0),(8,Pt 9 0),(28,Sl a1 h_.ah c1),(29,I (lN h_.ah)),(30,I kw),(39,V (.agg #[.int .i64 ((gi h_.ah kw).ar),.int .i64 ((gi h_.ah kw).aw),.int .i64 ((gi h_.ah kw).aC),.slice mb ((gi h_.ah kw).Rows).length ma])),(40,Sl ci aV.1 ce),(41,Sl kD bV kB)],[(4,(26,[Sl a3 ac c3])),(8,(42,[Sl ci aV.1 ce])),(9,(43,[Sl gz aV.2 gx]))]⟩ fun a hS=>?_
   obtain ⟨hq,hm⟩:=hm
   refine op1 (call hS kr kr hb33 kr (fun _ _=>rfl) (GE _ _ (gi h_.ah kw) aV.1 bV mb ma ci ce kD kB hq h138 h131 h145) ?_)
   intro v150 a F8 wa hE hp hS
   replace hO:=hO.m2 hE
   replace h128:=h128.m1 hE
   replace h130:=h130.m1 hE
   replace h131:=h131.m1 hE
   replace h132:=h132.m1 hE
   replace h138:=h138.m1 hE
   replace h145:=h145.m1 hE
   obtain ⟨uO,hr⟩:∃ r,cg (gi h_.ah kw) aV.1 bV=r:=⟨_,rfl⟩
   replace hm:=hm uO hr
   rw [hr] at hp
   clear hr
   subst hp
   refine ePe T hS [39,40,41,42] [(14,I uO.2.2)] fun a hS=>?_
   refine rPe T hS [14] [(47,B (uO.2.2 != 0))] fun a hS=>?_
   refine aG hS (b:=(uO.2.2 != 0)) kr (fun hb=>?_) fun hb=>?_
   ·replace hm:=hm.1 hb
    refine rP T hS ⟨[(4,B false)],[]⟩ fun a hS=>?_
    refine aY ?_
    exact fin T hS hO (fun c=>c) rfl (r:=[.bool false]) kr (fun X' hM hC=>⟨false,hm,rfl⟩)
   replace hm:=hm.2 hb
   refine aH ?_
   refine region (ePe T hS [47] [(30,I (wR (kw+1)))] fun a hS=>?_)
   exact ⟨wR (kw+1),⟨Z,_,hm.1,hS.sl _,hO,h128,h130,h131,h132⟩,hm.2⟩
  replace hm:=hm.2 hb
  refine cb (by rfl) ?_
  exact ⟨Z,_,hm,hS.sl _,hO,h130,h131⟩
 rintro a wo ⟨Z,t8,hm,hS,hO,h115,h116⟩
 unfold VC12_J1 at hm
 refine bj ?_
 refine oPe T hS 2 [] [(49,Sl ci aV.1 ce),(50,Sl a3 ac c3)] fun a hS=>?_
 refine op1 (call hS kr kr hb34 kr (fun _ _=>rfl) (GD _ _ aV.1 ac ci ce a3 c3 h116 h115) ?_)
 intro v117 a Bb Dg hE hp hS
 replace hO:=hO.m2 hE
 replace h115:=h115.m1 hE
 replace h116:=h116.m1 hE
 obtain ⟨jT,hr⟩:∃ r,cA aV.1 ac=r:=⟨_,rfl⟩
 replace hm:=hm jT hr
 rw [hr] at hp
 clear hr
 subst hp
 refine oPe T hS 2 [49,50,51] [(53,B (decide (jT < 0)))] fun a hS=>?_
 rcases bft (decide (jT < 0)) with hb | hb
 ·replace hS:=hS.lit (t:=53) kr hb
  replace hm:=hm.1 hb
  refine oP T hS 2 ⟨[(53,B true),(54,Sl ci aV.1 ce),(55,Sl a3 ac c3)],[]⟩ fun a hS=>?_
  obtain ⟨hq,hm⟩:=hm
  refine op1 (call hS kr kr hb35 kr (fun _ _=>rfl) (GC _ _ aV.1 ac ci ce a3 c3 hq h116 h115) ?_)
  intro v121 a uo ud hE hp hS
  replace hO:=hO.m2 hE
  replace h115:=h115.m1 hE
  replace h116:=h116.m1 hE
  obtain ⟨iE,iC,hp,h127⟩:=hp
  obtain ⟨dF,hr⟩:∃ r,b7 aV.1 ac=r:=⟨_,rfl⟩
  replace hm:=hm dF hr
  rw [hr] at hp h127
  clear hr
  subst hp
  replace hm:=hm (h127.sm kr)
  refine ePe T hS [53,54,55,56] [(4,B ((lN dF) == 0))] fun a hS=>?_
  refine aY ?_
  exact fin T hS hO (fun c=>c) rfl (r:=[.bool ((lN dF) == 0)]) kr (fun X' hM hC=>⟨((lN dF) == 0),hm,rfl⟩)
 replace hS:=hS.lit (t:=53) kr hb
 replace hm:=hm.2 hb
 refine eP T hS ⟨[(4,B false)],[]⟩ fun a hS=>?_
 refine aY ?_
 exact fin T hS hO (fun c=>c) rfl (r:=[.bool false]) kr (fun X' hM hC=>⟨false,hm,rfl⟩)
theorem C12 (rD:S23) (B3:S24) (xi:S31_32) (GE:S33) (GD:S34) (GC:S35) (v:∀ (h_:ak) (ac:List aa),r7 h_ ac->VC12 h_ ac (fun r=>r=dT h_ ac)):S12:=by
 intro w X h_ ac a1 c1 a2 c2 a3 c3   hp h1 h2 h3
 refine (W12 rD B3 xi GE GD GC w X h_ ac a1 c1 a2 c2 a3 c3   _ (v h_ ac hp) h1 h2 h3).mono ?_
 rintro _ _ _ _ ⟨r,rfl,h⟩
 exact h
theorem W13 (GG:S16) (xj:S28) (AS:S36) (LX:S37) (LW:S38) (w0) (X0) (objects:List ae) (l_:List az) (ac:List aa) (a1) (c1) (a2) (c2) (a3) (c3) (Q:Bool->Prop) (hm:VC13 objects l_ ac Q) (h1:RS aA w0 X0 a1 objects c1) (h2:RS br w0 X0 a2 l_ c2) (h3:RS aq w0 X0 a3 ac c3) :
  Ret Tryz.prog 13 #[.slice a1 objects.length c1,.slice a2 l_.length c2,.slice a3 ac.length c3] aJ w0 X0 (fun w X' v=>∃ r,Q r/\v=.bool r):=by
 unfold VC13 at hm
 replace hm:=hm (h1.sm kr)
 replace hm:=hm (h2.sm kr)
 replace hm:=hm (h3.sm kr)
 refine enter Tryz.func13 rfl (vals:=[.slice a1 objects.length c1,.slice a2 l_.length c2,.slice a3 ac.length c3]) kr ?_
 intro Z a hS hO hM
 replace h1:=h1.m0 hM
 replace h2:=h2.m0 hM
 replace h3:=h3.m0 hM
 refine rPe T hS [] [] fun a hS=>?_
 refine bj ?_
 refine oPe T hS 2 [] [(19,Sl a1 objects c1),(20,Sl a2 l_ c2)] fun a hS=>?_
 obtain ⟨hq,hm⟩:=hm
 refine op1 (call hS kr kr hb28 kr (fun _ _=>rfl) (xj _ _ objects l_ a1 c1 a2 c2 hq h1 h2) ?_)
 intro v101 a eZ fa hE hp hS
 replace hO:=hO.m2 hE
 replace h1:=h1.m1 hE
 replace h2:=h2.m1 hE
 replace h3:=h3.m1 hE
 obtain ⟨ap,hr⟩:∃ r,cc objects l_=r:=⟨_,rfl⟩
 replace hm:=hm ap hr
 rw [hr] at hp
 clear hr
 subst hp
 refine ePe T hS [19,20,21] [(8,I ap.2)] fun a hS=>?_
 refine bc ?_
 refine rPe T hS [8] [(25,B (ap.2 != 0))] fun a hS=>?_
 refine aG hS (b:=(ap.2 != 0)) kr (fun hb=>?_) fun hb=>?_
 ·replace hm:=hm.1 hb
  refine rPe T hS [0,1,2,25] [(6,B false)] fun a hS=>?_
  refine aY ?_
  exact fin T hS hO (fun c=>c) rfl (r:=[.bool false]) kr (fun X' hM hC=>⟨false,hm,rfl⟩)
 replace hm:=hm.2 hb
 refine aH ?_
 refine bj ?_
 refine oPe T hS 2 [1,25] [(27,Sl a1 objects c1),(28,Sl a2 l_ c2)] fun a hS=>?_
 obtain ⟨hq,hm⟩:=hm
 refine op1 (call hS kr kr hb16 kr (fun _ _=>rfl) (GG _ _ objects l_ a1 c1 a2 c2 hq h1 h2) ?_)
 intro v105 a mg mc hE hp hS
 replace hO:=hO.m2 hE
 replace h1:=h1.m1 hE
 replace h2:=h2.m1 hE
 replace h3:=h3.m1 hE
 obtain ⟨ci,ce,gz,gx,hp,h111,h114⟩:=hp
 obtain ⟨aV,hr⟩:∃ r,cU objects l_=r:=⟨_,rfl⟩
 replace hm:=hm aV hr
 rw [hr] at hp h111 h114
 clear hr
 subst hp
 replace hm:=hm (h111.sm kr)
 replace hm:=hm (h114.sm kr)
 refine ePe T hS [27,28,29] [(9,Sl ci aV.1 ce),(10,Sl gz aV.2 gx)] fun a hS=>?_
 refine bT (fun a w=>∃ Z X,VC13_J1 objects ac Q aV/\St Tryz.f13.ntmps ⟨[(0,Sl a1 objects c1),(2,Sl a3 ac c3),(9,Sl ci aV.1 ce),(10,Sl gz aV.2 gx)],[]⟩ Z a w X/\Old w0 X0 w X/\RS aA w X a1 objects c1/\RS aq w X a3 ac c3/\RS ao w X ci aV.1 ce/\RS tI w X gz aV.2 gx) ?_ ?_
 ·refine rPe T hS [] [(11,I 0)] fun a hS=>?_
  refine aL ?_
  obtain ⟨I3,μ3,co,hm⟩:=hm
  refine cl (σ:=Int) (fun s a w=>∃ Z X,I3 s/\St Tryz.f13.ntmps ⟨[(0,Sl a1 objects c1),(2,Sl a3 ac c3),(9,Sl ci aV.1 ce),(10,Sl gz aV.2 gx),(11,I s)],[]⟩ Z a w X/\Old w0 X0 w X/\RS aA w X a1 objects c1/\RS aq w X a3 ac c3/\RS ao w X ci aV.1 ce/\RS tI w X gz aV.2 gx) (fun s=>μ3 s) (0) ?_ ?_
  ·exact ⟨Z,_,co,hS.sl _,hO,h1,h3,h111,h114⟩
  rintro jN a O1 ⟨Z,Ne,hI,hS,hO,h209,h210,h211,h212⟩
  replace hm:=hm jN hI
  clear hI co
  refine bc ?_
  refine rPe T hS [] [(35,B (decide (jN < (lN ac))))] fun a hS=>?_
  refine aG hS (b:=decide (jN < (lN ac))) kr (fun hb=>?_) fun hb=>?_
  ·replace hm:=hm.1 hb
   refine aH (bc ?_)
   refine aL ?_
   refine bT (fun a w=>∃ (Z:Nat->Nat) (X:Nat->Nat) (Dw:Bool),VC13_J5 Q I3 μ3 jN Dw/\St Tryz.f13.ntmps ⟨[(0,Sl a1 objects c1),(2,Sl a3 ac c3),(9,Sl ci aV.1 ce),(10,Sl gz aV.2 gx),(11,I jN),(53,B Dw)],[]⟩ Z a w X/\Old w0 X0 w X/\RS aA w X a1 objects c1/\RS aq w X a3 ac c3/\RS ao w X ci aV.1 ce/\RS tI w X gz aV.2 gx) ?_ ?_
   ·refine region ?_
    refine oPe T hS 2 [35] [(38,Sl a3 ac c3),(39,I jN)] fun a hS=>?_
    obtain ⟨hq,hm⟩:=hm
    refine op1 (index (e:=56) (k:=.i64) T hS kr kr kr kr h210 kr kr hq.1 hq.2 ?_)
    intro NA a h220 hS
    refine op1 (e9 (off:=0) (fsz:=1) (ft:=3) (TF:=tI) (y:=(gi ac jN).Oper) T hS kr kr kr h220 kr kr kr (fun cs h=>gL h) ?_)
    intro Rs a h222 hS
    refine op1 (dU T hS kr kr kr h222 rfl kr ?_)
    intro v223 a hv hS
    cases hv
    refine oPe T hS 2 [38,39,40,41,42] [(44,B (decide (((gi ac jN).Oper) < 0)))] fun a hS=>?_
    rcases bft (decide (((gi ac jN).Oper) < 0)) with hb | hb
    ·replace hS:=hS.lit (t:=44) kr hb
     replace hm:=hm.1 hb
     refine ePe T hS [44] [(53,B true)] fun a hS=>?_
     exact ⟨Z,_,true,hm,hS.sl _,hO,h209,h210,h211,h212⟩
    replace hS:=hS.lit (t:=44) kr hb
    replace hm:=hm.2 hb
    refine oPe T hS 2 [] [(45,Sl a3 ac c3),(46,I jN)] fun a hS=>?_
    obtain ⟨hq,hm⟩:=hm
    refine op1 (index (e:=56) (k:=.i64) T hS kr kr kr kr h210 kr kr hq.1 hq.2 ?_)
    intro Rr a h225 hS
    refine op1 (e9 (off:=0) (fsz:=1) (ft:=3) (TF:=tI) (y:=(gi ac jN).Oper) T hS kr kr kr h225 kr kr kr (fun cs h=>gL h) ?_)
    intro Rq a h227 hS
    refine op1 (dU T hS kr kr kr h227 rfl kr ?_)
    intro v228 a hv hS
    cases hv
    refine ePe T hS [44,45,46,47,48,49] [(53,B (decide (((gi ac jN).Oper)≥(lN aV.1))))] fun a hS=>?_
    exact ⟨Z,_,decide (((gi ac jN).Oper)≥(lN aV.1)),hm,hS.sl _,hO,h209,h210,h211,h212⟩
   rintro a KL ⟨Z,Q2,Dw,hm,hS,hO,h214,h215,h216,h217⟩
   unfold VC13_J5 at hm
   refine aG hS (b:=Dw) kr (fun hb=>?_) fun hb=>?_
   ·replace hm:=hm.1 hb
    refine rPe T hS [0,2,9,10,11,53] [(6,B false)] fun a hS=>?_
    refine aY ?_
    exact fin T hS hO (fun c=>c) rfl (r:=[.bool false]) kr (fun X' hM hC=>⟨false,hm,rfl⟩)
   replace hm:=hm.2 hb
   refine aH ?_
   refine region (ePe T hS [53] [(11,I (wR (jN+1)))] fun a hS=>?_)
   exact ⟨wR (jN+1),⟨Z,_,hm.1,hS.sl _,hO,h214,h215,h216,h217⟩,hm.2⟩
  replace hm:=hm.2 hb
  refine cb (by rfl) ?_
  exact ⟨Z,_,hm,hS.sl _,hO,h209,h210,h211,h212⟩
 rintro a O0 ⟨Z,Q1,hm,hS,hO,h115,h116,h117,h118⟩
 unfold VC13_J1 at hm
 refine bT (fun a w=>∃ Z X,VC13_J2 ac Q aV/\St Tryz.f13.ntmps ⟨[(2,Sl a3 ac c3),(9,Sl ci aV.1 ce)],[]⟩ Z a w X/\Old w0 X0 w X/\RS aq w X a3 ac c3/\RS ao w X ci aV.1 ce) ?_ ?_
 ·refine rPe T hS [] [(12,I 0)] fun a hS=>?_
  refine aL ?_
  obtain ⟨I1,μ1,co,hm⟩:=hm
  refine cl (σ:=Int) (fun s a w=>∃ Z X,I1 s/\St Tryz.f13.ntmps ⟨[(0,Sl a1 objects c1),(2,Sl a3 ac c3),(9,Sl ci aV.1 ce),(10,Sl gz aV.2 gx),(12,I s)],[]⟩ Z a w X/\Old w0 X0 w X/\RS aA w X a1 objects c1/\RS aq w X a3 ac c3/\RS ao w X ci aV.1 ce/\RS tI w X gz aV.2 gx) (fun s=>μ1 s) (0) ?_ ?_
  ·exact ⟨Z,_,co,hS.sl _,hO,h115,h116,h117,h118⟩
  rintro jO a KP ⟨Z,Nj,hI,hS,hO,h132,h133,h134,h135⟩
  replace hm:=hm jO hI
  clear hI co
  refine bc ?_
  refine rPe T hS [] [(57,B (decide (jO < (lN objects))))] fun a hS=>?_
  refine aG hS (b:=decide (jO < (lN objects))) kr (fun hb=>?_) fun hb=>?_
  ·replace hm:=hm.1 hb
   refine aH (bc ?_)
   refine aL ?_
   refine rPe T hS [57] [(13,V (.slice none 0 0))] fun a hS=>?_
   refine bT (fun a w=>∃ (Z:Nat->Nat) (X:Nat->Nat) (ji:List aa) (jI:Option Addr) (jF:Nat),VC13_J3 objects Q aV I1 μ1 jO ji/\St Tryz.f13.ntmps ⟨[(0,Sl a1 objects c1),(2,Sl a3 ac c3),(9,Sl ci aV.1 ce),(10,Sl gz aV.2 gx),(12,I jO),(13,Sl jI ji jF)],[]⟩ Z a w X/\Old w0 X0 w X/\RS aA w X a1 objects c1/\RS aq w X a3 ac c3/\RS ao w X ci aV.1 ce/\RS tI w X gz aV.2 gx/\OS aq 56 w X 1014 jI ji jF) ?_ ?_
   ·refine rPe T hS [] [(14,I 0)] fun a hS=>?_
    refine aL ?_
    obtain ⟨I2,μ2,co,hm⟩:=hm
    refine cl (σ:=(List aa) × Int) (fun s a w=>∃ Z X vZ vO,I2 s.1 s.2/\St Tryz.f13.ntmps ⟨[(0,Sl a1 objects c1),(2,Sl a3 ac c3),(9,Sl ci aV.1 ce),(10,Sl gz aV.2 gx),(12,I jO),(13,Sl vZ s.1 vO),(14,I s.2)],[]⟩ Z a w X/\Old w0 X0 w X/\RS aA w X a1 objects c1/\RS aq w X a3 ac c3/\RS ao w X ci aV.1 ce/\RS tI w X gz aV.2 gx/\OS aq 56 w X 1014 vZ s.1 vO) (fun s=>μ2 s.1 s.2) (⟨[],0⟩) ?_ ?_
    ·exact ⟨Z,_,none,0,co,hS.sl _,hO,h132,h133,h134,h135,(OS.nil _ _ _ _ _)⟩
    rintro ⟨ik,jg⟩ a HT ⟨Z,Nm,vZ,vO,hI,hS,hO,h162,h163,h164,h165,h169⟩
    replace hm:=hm ik jg hI
    clear hI co
    refine bc ?_
    refine rPe T hS [] [(63,B (decide (jg < (lN ac))))] fun a hS=>?_
    refine aG hS (b:=decide (jg < (lN ac))) kr (fun hb=>?_) fun hb=>?_
    ·replace hm:=hm.1 hb
     refine aH ?_
     refine bT (fun a w=>∃ (Z:Nat->Nat) (X:Nat->Nat) (pY:List aa) (tZ:Option Addr) (tU:Nat),VC13_J4 I2 μ2 ik jg pY/\St Tryz.f13.ntmps ⟨[(0,Sl a1 objects c1),(2,Sl a3 ac c3),(9,Sl ci aV.1 ce),(10,Sl gz aV.2 gx),(12,I jO),(13,Sl tZ pY tU),(14,I jg)],[]⟩ Z a w X/\Old w0 X0 w X/\RS aA w X a1 objects c1/\RS aq w X a3 ac c3/\RS ao w X ci aV.1 ce/\RS tI w X gz aV.2 gx/\OS aq 56 w X 1014 tZ pY tU) ?_ ?_
     ·refine aL ?_
      refine bj ?_
      refine oPe T hS 3 [63] [(66,Sl gz aV.2 gx),(67,Sl a3 ac c3),(68,I jg)] fun a hS=>?_
      obtain ⟨hq,hm⟩:=hm
      refine op1 (index (e:=56) (k:=.i64) T hS kr kr kr kr h163 kr kr hq.1 hq.2 ?_)
      intro RI a h180 hS
      refine op1 (e9 (off:=0) (fsz:=1) (ft:=3) (TF:=tI) (y:=(gi ac jg).Oper) T hS kr kr kr h180 kr kr kr (fun cs h=>gL h) ?_)
      intro NC a h182 hS
      refine op1 (dU T hS kr kr kr h182 rfl kr ?_)
      intro v183 a hv hS
      cases hv
      obtain ⟨hq,hm⟩:=hm
      refine op1 (index (e:=3) (k:=.i64) T hS kr kr kr kr h165 kr kr hq.1 hq.2 ?_)
      intro RG a h185 hS
      refine op1 (dU T hS kr kr kr h185 rfl kr ?_)
      intro v186 a hv hS
      cases hv
      refine ePe T hS [66,67,68,69,70,71,72,73] [(75,B ((gi aV.2 ((gi ac jg).Oper)) == jO))] fun a hS=>?_
      refine aG hS (b:=((gi aV.2 ((gi ac jg).Oper)) == jO)) kr (fun hb=>?_) fun hb=>?_
      ·replace hm:=hm.1 hb
       refine region ?_
       refine oPe T hS 3 [75] [(76,Sl vZ ik vO),(77,Sl a3 ac c3),(78,I jg)] fun a hS=>?_
       obtain ⟨hq,hm⟩:=hm
       refine op1 (index (e:=56) (k:=.i64) T hS kr kr kr kr h163 kr kr hq.1 hq.2 ?_)
       intro RC a h188 hS
       refine op1 (eC T hS kr kr kr h188 kr kr ?_)
       intro v189 a hv hS
       subst hv
       refine op1 (lit (E:=56) (col:=0) (T:=aq) (vals:=[.agg #[.int .i64 ((gi ac jg).Oper),.int .i64 ((gi ac jg).Result)]]) (ys:=[gi ac jg]) T hS kr kr kr kr (by exact ⟨rfl,trivial⟩) rfl kr kr kr kr ?_)
       intro b190 a HV JY hE h193 hN hS
       clear hN
       replace hO:=hO.m2 hE
       replace h162:=h162.m1 hE
       replace h163:=h163.m1 hE
       replace h164:=h164.m1 hE
       replace h165:=h165.m1 hE
       replace h169:=h169.m2 hE
       replace h188:=h188.m1 hE
       replace h193:=h193.rs0
       obtain ⟨hq,hm⟩:=hm
       obtain ⟨news,hN⟩:=h193.src
       refine op1 (append (E:=56) (T:=aq) (col:=1014) (xs:=ik) T hS kr kr kr kr h169 hN kr kr kr kr hq ?_)
       intro nA nl a KU Nn hE h196 hS
       clear hq hN
       clear h169
       replace hO:=hO.m2 hE
       replace h162:=h162.m1 hE
       replace h163:=h163.m1 hE
       replace h164:=h164.m1 hE
       replace h165:=h165.m1 hE
       replace h188:=h188.m1 hE
       replace h193:=h193.m1 hE
       refine ePe T hS [77,78,79,80,81,82] [(13,Sl nA (ik++[gi ac jg]) nl)] fun a hS=>?_
       exact ⟨Z,_,ik++[gi ac jg],nA,nl,hm,hS.sl _,hO,h162,h163,h164,h165,h196⟩
      replace hm:=hm.2 hb
      refine aH ?_
      exact ⟨Z,_,ik,vZ,vO,hm,hS.sl _,hO,h162,h163,h164,h165,h169⟩
     rintro a KS ⟨Z,JX,pY,tZ,tU,hm,hS,hO,h171,h172,h173,h174,h178⟩
     unfold VC13_J4 at hm
     refine region (ePe T hS [] [(14,I (wR (jg+1)))] fun a hS=>?_)
     exact ⟨⟨pY,wR (jg+1)⟩,⟨Z,_,tZ,tU,hm.1,hS.sl _,hO,h171,h172,h173,h174,h178⟩,hm.2⟩
    replace hm:=hm.2 hb
    refine cb (by rfl) ?_
    exact ⟨Z,_,ik,vZ,vO,hm,hS.sl _,hO,h162,h163,h164,h165,h169⟩
   rintro a KR ⟨Z,JW,ji,jI,jF,hm,hS,hO,h137,h138,h139,h140,h144⟩
   unfold VC13_J3 at hm
   refine dv [] mixed hS ?_
   intro DI AH hS hE hD hH
   replace hO:=hO.m2 hE
   replace h137:=h137.m1 hE
   replace h138:=h138.m1 hE
   replace h139:=h139.m1 hE
   replace h140:=h140.m1 hE
   replace h144:=h144.m2 hE
   refine tke T [0,1,4,5,6,10] [] hS hH #[true,true,false,false,true,true,true,false,false,false,true,false,false,false,false,false,false,false,false] 13 [13] [(84,Sl a1 objects c1),(85,I jO),(88,Sl ci aV.1 ce),(89,Sl a1 objects c1),(90,I jO),(94,Sl jI ji jF)] fun a hS=>?_
   obtain ⟨hq,hm⟩:=hm
   refine c7 (e:=48) (k:=.i64) T 2 hS kr kr kr (by rfl) kr hH kr kr h137 kr kr hq.1 hq.2 ?_
   intro RY a h148 hS
   have Ja:=h148.here
   refine jr T 3 hS kr kr kr (by rfl) kr hH kr h148 Ja kr kr ?_
   intro v149 a hv hS
   obtain ⟨t6,tW,hv,h152⟩:=hv
   subst hv
   replace hm:=hm (h152.sm kr)
   obtain ⟨hq,hm⟩:=hm
   refine c7 (e:=48) (k:=.i64) T 7 hS kr kr kr (by rfl) kr hH kr kr h137 kr kr hq.1 hq.2 ?_
   intro Ke a h154 hS
   have Cs:=h154.here
   refine dw (off:=2) (fsz:=1) (ft:=3) (TF:=tI) (y:=(gi objects jO).aC) 8 T hS kr kr kr (by rfl) kr hH kr h154 kr kr kr (fun cs h=>rK h) ?_
   intro Kd a h156 fP hS
   have vk:=Cs
   rw [← fP] at vk
   clear fP
   refine dV T 9 hS kr kr kr (by rfl) kr hH kr h156 vk rfl kr ?_
   intro v157 a hv hS
   cases hv
   refine only 11 kr (by rfl) (call hS kr kr hb36 kr (fun _ _=>rfl) (Ret.m8 (AS _ (eD 1014 _) (gi objects jO) aV.1 ((gi objects jO).aC) ji t6 tW ci ce jI jF (h152.m0 (M0.eD 1014)) (h139.m0 (M0.eD 1014)) h144.eD)) ?_)
   intro v158 a wo ET hE hp hS
   replace hO:=hO.m2 hE
   replace hD:=hD.ev hE rfl
   replace h137:=h137.m1 hE
   replace h138:=h138.m1 hE
   replace h139:=h139.m1 hE
   replace h140:=h140.m1 hE
   replace h144:=h144.m2 hE
   replace h148:=h148.m1 hE
   replace h152:=h152.m1 hE
   replace h154:=h154.m1 hE
   replace h156:=h156.m1 hE
   obtain ⟨_,hp⟩:=hp
   obtain ⟨uN,hr⟩:∃ r,bL (gi objects jO) aV.1 ((gi objects jO).aC) ji=r:=⟨_,rfl⟩
   replace hm:=hm uN hr
   rw [hr] at hp
   clear hr
   subst hp
   refine cW (bH.of hS (bks:=[]) kr hD) ?_
   intro hH
   refine tke T [12,13,14,15,16,17,18] [] hS hH (tts 19) 0 [84,85,88,89,90,94,86,87,91,92,93,95] [(17,I uN.2.2)] fun a hS=>?_
   refine aS kr ?_
   replace hS:=hS.sle [] []
   refine rPe T hS [17] [(100,B (uN.2.2 != 0))] fun a hS=>?_
   refine aG hS (b:=(uN.2.2 != 0)) kr (fun hb=>?_) fun hb=>?_
   ·replace hm:=hm.1 hb
    refine rPe T hS [0,2,9,10,12,100] [(6,B false)] fun a hS=>?_
    refine aY ?_
    exact fin T hS hO (fun c=>c) rfl (r:=[.bool false]) kr (fun X' hM hC=>⟨false,hm,rfl⟩)
   replace hm:=hm.2 hb
   refine aH ?_
   refine region (ePe T hS [100] [(12,I (wR (jO+1)))] fun a hS=>?_)
   exact ⟨wR (jO+1),⟨Z,_,hm.1,hS.sl _,hO,h137,h138,h139,h140⟩,hm.2⟩
  replace hm:=hm.2 hb
  refine cb (by rfl) ?_
  exact ⟨Z,_,hm,hS.sl _,hO,h133,h134⟩
 rintro a O8 ⟨Z,Ni,hm,hS,hO,h119,h120⟩
 unfold VC13_J2 at hm
 refine bj ?_
 refine oPe T hS 2 [] [(101,Sl ci aV.1 ce),(102,Sl a3 ac c3)] fun a hS=>?_
 refine op1 (call hS kr kr hb37 kr (fun _ _=>rfl) (LX _ _ aV.1 ac ci ce a3 c3 h120 h119) ?_)
 intro v121 a uo ud hE hp hS
 replace hO:=hO.m2 hE
 replace h119:=h119.m1 hE
 replace h120:=h120.m1 hE
 obtain ⟨dF,hr⟩:∃ r,eB aV.1 ac=r:=⟨_,rfl⟩
 replace hm:=hm dF hr
 rw [hr] at hp
 clear hr
 subst hp
 refine oPe T hS 2 [101,102,103] [(105,B (decide (dF < 0)))] fun a hS=>?_
 rcases bft (decide (dF < 0)) with hb | hb
 ·replace hS:=hS.lit (t:=105) kr hb
  replace hm:=hm.1 hb
  refine oPe T hS 2 [2,9] [(106,Sl ci aV.1 ce),(107,Sl a3 ac c3)] fun a hS=>?_
  obtain ⟨hq,hm⟩:=hm
  refine op1 (call hS kr kr hb38 kr (fun _ _=>rfl) (LW _ _ aV.1 ac false ci ce a3 c3 hq h120 h119) ?_)
  intro v125 a rx oZ hE hp hS
  replace hO:=hO.m2 hE
  replace h119:=h119.m1 hE
  replace h120:=h120.m1 hE
  obtain ⟨ko,kg,hp,h131⟩:=hp
  obtain ⟨bI,hr⟩:∃ r,eL aV.1 ac false=r:=⟨_,rfl⟩
  replace hm:=hm bI hr
  rw [hr] at hp h131
  clear hr
  subst hp
  replace hm:=hm (h131.sm kr)
  refine ePe T hS [105,106,107,108] [(6,B ((lN bI) == 0))] fun a hS=>?_
  refine aY ?_
  exact fin T hS hO (fun c=>c) rfl (r:=[.bool ((lN bI) == 0)]) kr (fun X' hM hC=>⟨((lN bI) == 0),hm,rfl⟩)
 replace hS:=hS.lit (t:=105) kr hb
 replace hm:=hm.2 hb
 refine ePe T hS [2,9,105] [(6,B false)] fun a hS=>?_
 refine aY ?_
 exact fin T hS hO (fun c=>c) rfl (r:=[.bool false]) kr (fun X' hM hC=>⟨false,hm,rfl⟩)
theorem C13 (GG:S16) (xj:S28) (AS:S36) (LX:S37) (LW:S38) (v:∀ (objects:List ae) (l_:List az) (ac:List aa),xY objects l_ ac->VC13 objects l_ ac (fun r=>r=fc objects l_ ac)):S13:=by
 intro w X objects l_ ac a1 c1 a2 c2 a3 c3   hp h1 h2 h3
 refine (W13 GG xj AS LX LW w X objects l_ ac a1 c1 a2 c2 a3 c3   _ (v objects l_ ac hp) h1 h2 h3).mono ?_
 rintro _ _ _ _ ⟨r,rfl,h⟩
 exact h
theorem W27 (w0) (X0) (Q:ae->Prop) (hm:VC27 Q) :
  Ret Tryz.prog 27 #[] aJ w0 X0 (fun w X' v=>∃ r,Q r/\∃ cn cm,v=.agg #[.int .i64 r.ar,.int .i64 r.aw,.int .i64 r.aC,.slice cn r.Rows.length cm]/\RS ay w X' cn r.Rows cm):=by
 unfold VC27 at hm
 refine enter Tryz.func27 rfl (vals:=[]) kr ?_
 intro Z a hS hO hM
 refine rM T hS ⟨[(0,Pt 1 0)],[(1,(48,[I 0,I 0,I 0,V (.slice none 0 0)]))]⟩ fun Z a rz pI hS hE hr=>?_
 replace hO:=hO.m2 hE
 clear hE hr
 refine bj ?_
 refine oPe T hS 4 [] [(1,V (.agg #[.int .i64 0,.int .i64 0,.int .i64 1,.int .i64 0])),(2,V (.agg #[.int .i64 0,.int .i64 1,.int .i64 0,.int .i64 0])),(3,V (.agg #[.int .i64 1,.int .i64 0,.int .i64 1,.int .i64 0])),(4,V (.agg #[.int .i64 1,.int .i64 1,.int .i64 1,.int .i64 1]))] fun a hS=>?_
 refine op1 (lit (E:=107) (col:=0) (T:=ay) (vals:=[.agg #[.int .i64 0,.int .i64 0,.int .i64 1,.int .i64 0],.agg #[.int .i64 0,.int .i64 1,.int .i64 0,.int .i64 0],.agg #[.int .i64 1,.int .i64 0,.int .i64 1,.int .i64 0],.agg #[.int .i64 1,.int .i64 1,.int .i64 1,.int .i64 1]]) (ys:=[(⟨0,0,1,0⟩:ba),(⟨0,1,0,0⟩:ba),(⟨1,0,1,0⟩:ba),(⟨1,1,1,1⟩:ba)]) T hS kr kr kr kr (by exact ⟨rfl,rfl,rfl,rfl,trivial⟩) rfl kr kr kr kr ?_)
 intro b101 a eZ fa hE h104 hN hS
 clear hN
 replace hO:=hO.m2 hE
 replace h104:=h104.rs0
 refine eM T hS ⟨[(0,Pt 1 0)],[(1,(48,[I 2,I 2,I 0,Sl (some ⟨b101,0,none⟩) [(⟨0,0,1,0⟩:ba),(⟨0,1,0,0⟩:ba),(⟨1,0,1,0⟩:ba),(⟨1,1,1,1⟩:ba)] 4]))]⟩ fun Z a nG ms hS hE hr=>?_
 replace hO:=hO.m2 hE
 replace h104:=h104.m1 hE
 clear hE hr
 refine aY ?_
 exact fin T hS hO (fun c=>c) rfl (r:=[.agg #[.int .i64 2,.int .i64 2,.int .i64 0,.slice (some ⟨b101,0,none⟩) [(⟨0,0,1,0⟩:ba),(⟨0,1,0,0⟩:ba),(⟨1,0,1,0⟩:ba),(⟨1,1,1,1⟩:ba)].length 4]]) kr (fun X' hM hC=>⟨(⟨2,2,0,[(⟨0,0,1,0⟩:ba),(⟨0,1,0,0⟩:ba),(⟨1,0,1,0⟩:ba),(⟨1,1,1,1⟩:ba)]⟩:ae),hm,(some ⟨b101,0,none⟩),4,rfl,h104.m0 hM⟩)
theorem C27 (v:∀ (_:Unit),VC27 (fun r=>r=du)):S27:=by
 intro w X     
 refine (W27 w X     _ (v ())).mono ?_
 rintro _ _ _ _ ⟨r,rfl,h⟩
 exact h
theorem W22 (Fa:S27) (w0) (X0) (object:Int) (cG) (Q:ak->Prop) (hm:VC22 object Q) :
  Ret Tryz.prog 22 #[.int .i64 object] aJ w0 X0 (fun w X' v=>∃ r,Q r/\∃ cn cm iO iM,v=.agg #[.slice cn r.ah.length cm,.slice iO r.al.length iM]/\RS aA w X' cn r.ah cm/\OS aP 63 w X' cG iO r.al iM):=by
 unfold VC22 at hm
 refine enter Tryz.func22 rfl (vals:=[.int .i64 object]) kr ?_
 intro Z a hS hO hM
 refine rM T hS ⟨[(0,I object),(2,Pt 3 0)],[(3,(25,[V (.slice none 0 0),V (.slice none 0 0)]))]⟩ fun Z a zp xF hS hE hr=>?_
 replace hO:=hO.m2 hE
 clear hE hr
 refine bj ?_
 refine op1 (call hS kr kr hb27 kr (fun _ _=>rfl) (Fa _ _) ?_)
 intro v101 a eZ fa hE hp hS
 replace hO:=hO.m2 hE
 obtain ⟨dK,dJ,hp,h107⟩:=hp
 obtain ⟨ap,hr⟩:∃ r,du=r:=⟨_,rfl⟩
 replace hm:=hm ap hr
 rw [hr] at hp h107
 clear hr
 subst hp
 replace hm:=hm (h107.sm kr)
 refine op1 (call hS kr kr hb27 kr (fun _ _=>rfl) (Fa _ _) ?_)
 intro v108 a ry ug hE hp hS
 replace hO:=hO.m2 hE
 replace h107:=h107.m1 hE
 obtain ⟨gz,gx,hp,h114⟩:=hp
 obtain ⟨dG,hr⟩:∃ r,du=r:=⟨_,rfl⟩
 replace hm:=hm dG hr
 rw [hr] at hp h114
 clear hr
 subst hp
 replace hm:=hm (h114.sm kr)
 refine op1 (lit (E:=48) (col:=0) (T:=aA) (vals:=[.agg #[.int .i64 ap.ar,.int .i64 ap.aw,.int .i64 ap.aC,.slice dK ap.Rows.length dJ],.agg #[.int .i64 dG.ar,.int .i64 dG.aw,.int .i64 dG.aC,.slice gz dG.Rows.length gx]]) (ys:=[ap,dG]) T hS kr kr kr kr (by exact ⟨⟨dK,dJ,rfl,h107⟩,⟨gz,gx,rfl,h114⟩,trivial⟩) rfl kr kr kr kr ?_)
 intro b115 a wt AM hE h118 hN hS
 clear hN
 replace hO:=hO.m2 hE
 replace h107:=h107.m1 hE
 replace h114:=h114.m1 hE
 replace h118:=h118.rs0
 refine oPe T hS 10 [0,3,4] [(7,V (.agg #[.int .i64 0,.int .i64 1,.int .i64 1,.int .i64 0])),(10,V (.agg #[.int .i64 object,.int .i64 1,.int .i64 2,.int .i64 1])),(12,V (.agg #[.int .i64 0,.int .i64 2,.int .i64 1,.int .i64 0])),(15,V (.agg #[.int .i64 object,.int .i64 2,.int .i64 2,.int .i64 1]))] fun a hS=>?_
 refine op1 (lit (E:=63) (col:=1017) (T:=aP) (vals:=[.agg #[.int .i64 0,.int .i64 1,.int .i64 1,.int .i64 0],.agg #[.int .i64 object,.int .i64 1,.int .i64 2,.int .i64 1],.agg #[.int .i64 0,.int .i64 2,.int .i64 1,.int .i64 0],.agg #[.int .i64 object,.int .i64 2,.int .i64 2,.int .i64 1]]) (ys:=[(⟨0,(⟨1,1,0⟩:au)⟩:aR),(⟨object,(⟨1,2,1⟩:au)⟩:aR),(⟨0,(⟨2,1,0⟩:au)⟩:aR),(⟨object,(⟨2,2,1⟩:au)⟩:aR)]) T hS kr kr kr kr (by exact ⟨rfl,rfl,rfl,rfl,trivial⟩) rfl kr kr kr kr ?_)
 intro b119 a Ga Hr hE h122 hN hS
 clear hN
 replace hO:=hO.m2 hE
 replace h118:=h118.m1 hE
 refine eM T hS ⟨[(2,Pt 3 0)],[(3,(25,[Sl (some ⟨b115,0,none⟩) [ap,dG] 2,Sl (some ⟨b119,0,none⟩) [(⟨0,(⟨1,1,0⟩:au)⟩:aR),(⟨object,(⟨1,2,1⟩:au)⟩:aR),(⟨0,(⟨2,1,0⟩:au)⟩:aR),(⟨object,(⟨2,2,1⟩:au)⟩:aR)] 4]))]⟩ fun Z a DJ wb hS hE hr=>?_
 replace hO:=hO.m2 hE
 replace h118:=h118.m1 hE
 replace h122:=h122.m2 hE
 clear hE hr
 refine aY ?_
 exact fin T hS hO (zAg0 cG) rfl (r:=[.agg #[.slice (some ⟨b115,0,none⟩) [ap,dG].length 2,.slice (some ⟨b119,0,none⟩) [(⟨0,(⟨1,1,0⟩:au)⟩:aR),(⟨object,(⟨1,2,1⟩:au)⟩:aR),(⟨0,(⟨2,1,0⟩:au)⟩:aR),(⟨object,(⟨2,2,1⟩:au)⟩:aR)].length 4]]) kr (fun X' hM hC=>⟨(⟨[ap,dG],[(⟨0,(⟨1,1,0⟩:au)⟩:aR),(⟨object,(⟨1,2,1⟩:au)⟩:aR),(⟨0,(⟨2,1,0⟩:au)⟩:aR),(⟨object,(⟨2,2,1⟩:au)⟩:aR)]⟩:ak),hm,(some ⟨b115,0,none⟩),2,(some ⟨b119,0,none⟩),4,rfl,h118.m0 hM,(OS.out (f:=(zAg0 cG)) h122 hM hC kr)⟩)
theorem C22 (Fa:S27) (v:∀ (object:Int),VC22 object (fun r=>r=cz object)):S22:=by
 intro w X object  cG  
 refine (W22 Fa w X object  cG  _ (v object)).mono ?_
 rintro _ _ _ _ ⟨r,rfl,h⟩
 exact h
theorem W11 (w0) (X0) (h_:ak) (a1) (c1) (a2) (c2) (Q:(List az)->Prop) (hm:VC11 h_ Q) (h1:RS aA w0 X0 a1 h_.ah c1) (h2:RS aP w0 X0 a2 h_.al c2) :
  Ret Tryz.prog 11 #[.agg #[.slice a1 h_.ah.length c1,.slice a2 h_.al.length c2]] aJ w0 X0 (fun w X' v=>∃ r,Q r/\∃ cn cm,v=.slice cn r.length cm/\RS br w X' cn r cm):=by
 unfold VC11 at hm
 replace hm:=hm (h1.sm kr)
 replace hm:=hm (h2.sm kr)
 refine enter Tryz.func11 rfl (vals:=[.agg #[.slice a1 h_.ah.length c1,.slice a2 h_.al.length c2]]) kr ?_
 intro Z a hS hO hM
 replace h1:=h1.m0 hM
 replace h2:=h2.m0 hM
 refine rM T hS ⟨[(1,Pt 2 0)],[(2,(25,[Sl a1 h_.ah c1,Sl a2 h_.al c2]))]⟩ fun Z a rt uc hS hE hr=>?_
 replace hO:=hO.m2 hE
 replace h1:=h1.m1 hE
 replace h2:=h2.m1 hE
 clear hE hr
 refine rPe T hS [] [(3,V (.slice none 0 0))] fun a hS=>?_
 refine bT (fun a w=>∃ (Z:Nat->Nat) (X:Nat->Nat) (bD:List az) (dq:Option Addr) (dl:Nat),VC11_J1 Q bD/\St Tryz.f11.ntmps ⟨[(3,Sl dq bD dl)],[]⟩ Z a w X/\Old w0 X0 w X/\OS br 77 w X 1003 dq bD dl) ?_ ?_
 ·refine rPe T hS [] [(4,I 0)] fun a hS=>?_
  refine aL ?_
  obtain ⟨I1,μ1,co,hm⟩:=hm
  refine cl (σ:=(List az) × Int) (fun s a w=>∃ Z X iK iJ,I1 s.1 s.2/\St Tryz.f11.ntmps ⟨[(1,Pt 2 0),(3,Sl iK s.1 iJ),(4,I s.2)],[(2,(25,[Sl a1 h_.ah c1,Sl a2 h_.al c2]))]⟩ Z a w X/\Old w0 X0 w X/\OS br 77 w X 1003 iK s.1 iJ/\RS aA w X a1 h_.ah c1/\RS aP w X a2 h_.al c2) (fun s=>μ1 s.1 s.2) (⟨[],0⟩) ?_ ?_
  ·exact ⟨Z,_,none,0,co,hS.sl _,hO,(OS.nil _ _ _ _ _),h1,h2⟩
  rintro ⟨d3,dr⟩ a p3 ⟨Z,xD,iK,iJ,hI,hS,hO,h110,h112,h113⟩
  replace hm:=hm d3 dr hI
  clear hI co
  refine bc ?_
  refine rPe T hS [] [(9,B (decide (dr < (lN h_.al))))] fun a hS=>?_
  refine aG hS (b:=decide (dr < (lN h_.al))) kr (fun hb=>?_) fun hb=>?_
  ·replace hm:=hm.1 hb
   refine aH (bc ?_)
   refine aL ?_
   refine gI [2] mixed hS ?_
   intro Ia Hs hS hE hD hH
   replace hO:=hO.m2 hE
   replace h110:=h110.m2 hE
   replace h112:=h112.m1 hE
   replace h113:=h113.m1 hE
   refine tke T [0,1,3,7,9,2,8] [2] hS hH #[true,true,true,true,false,false,false,true,true,true,false,false,false,false,false,false,false] 10 [] [(12,Sl iK d3 iJ),(14,Sl a2 h_.al c2),(15,I dr),(20,Sl a2 h_.al c2),(21,I dr)] fun a hS=>?_
   obtain ⟨hq,hm⟩:=hm
   refine c7 (e:=63) (k:=.i64) T 4 hS kr kr kr (by rfl) kr hH kr kr h113 kr kr hq.1 hq.2 ?_
   intro HA a h117 hS
   have n4:=h117.here
   refine dw (off:=0) (fsz:=1) (ft:=3) (TF:=tI) (y:=(gi h_.al dr).ax) 5 T hS kr kr kr (by rfl) kr hH kr h117 kr kr kr (fun cs h=>ku h) ?_
   intro Hz a h119 fP hS
   have vm:=n4
   rw [← fP] at vm
   clear fP
   refine dV T 6 hS kr kr kr (by rfl) kr hH kr h119 vm rfl kr ?_
   intro v120 a hv hS
   cases hv
   obtain ⟨hq,hm⟩:=hm
   refine c7 (e:=63) (k:=.i64) T 10 hS kr kr kr (by rfl) kr hH kr kr h113 kr kr hq.1 hq.2 ?_
   intro Hy a h122 hS
   have Ct:=h122.here
   refine dw (off:=1) (fsz:=3) (ft:=61) (TF:=aM) (y:=(gi h_.al dr).aI) 11 T hS kr kr kr (by rfl) kr hH kr h122 kr kr kr (fun cs h=>mw h) ?_
   intro EZ a h124 fP hS
   have qU:=Ct
   rw [← fP] at qU
   clear fP
   refine jr T 12 hS kr kr kr (by rfl) kr hH kr h124 qU kr kr ?_
   intro v125 a hv hS
   subst hv
   refine tke T [13] [2] hS hH #[true,true,true,true,true,true,true,true,true,true,true,true,true,true,false,false,false] 3 [14,15,20,21,16,17,18,22,23,24] [(25,V (.agg #[.int .i64 ((gi h_.al dr).ax),.int .i64 (((gi h_.al dr).aI).bh),.int .i64 (((gi h_.al dr).aI).aj),.int .i64 (((gi h_.al dr).aI).N)]))] fun a hS=>?_
   refine only 14 kr (by rfl) (lit (E:=77) (col:=0) (T:=br) (vals:=[.agg #[.int .i64 ((gi h_.al dr).ax),.int .i64 (((gi h_.al dr).aI).bh),.int .i64 (((gi h_.al dr).aI).aj),.int .i64 (((gi h_.al dr).aI).N)]]) (ys:=[(⟨(gi h_.al dr).ax,((gi h_.al dr).aI)⟩:az)]) T hS kr kr kr kr (by exact ⟨rfl,trivial⟩) rfl kr kr kr kr ?_)
   intro b126 a sS AJ hE h129 hN hS
   clear hN
   replace hO:=hO.m2 hE
   replace hD:=hD.ev hE rfl
   replace h110:=h110.m2 hE
   replace h112:=h112.m1 hE
   replace h113:=h113.m1 hE
   replace h117:=h117.m1 hE
   replace h119:=h119.m1 hE
   replace h122:=h122.m1 hE
   replace h124:=h124.m1 hE
   replace h129:=h129.rs0
   refine cW (bH.of hS (bks:=[2]) kr hD) ?_
   intro hH
   obtain ⟨hq,hm⟩:=hm
   obtain ⟨news,hN⟩:=h129.src
   refine only 15 kr (by rfl) (append (E:=77) (T:=br) (col:=1003) (xs:=d3) T hS kr kr kr kr h110 hN kr kr kr kr hq ?_)
   intro rG rF a ws EW hE h132 hS
   clear hq hN
   clear h110
   replace hO:=hO.m2 hE
   replace hD:=hD.ev hE rfl
   replace h112:=h112.m1 hE
   replace h113:=h113.m1 hE
   replace h117:=h117.m1 hE
   replace h119:=h119.m1 hE
   replace h122:=h122.m1 hE
   replace h124:=h124.m1 hE
   replace h129:=h129.m1 hE
   replace hS:=hS.sle [3,12] [(27,Sl rG (d3++[(⟨(gi h_.al dr).ax,((gi h_.al dr).aI)⟩:az)]) rF)]
   refine cW (bH.of hS (bks:=[2]) kr hD) ?_
   intro hH
   refine tke T [16] [2] hS hH (tts 17) 0 [25,26,27] [(3,Sl rG (d3++[(⟨(gi h_.al dr).ax,((gi h_.al dr).aI)⟩:az)]) rF)] fun a hS=>?_
   refine aS kr ?_
   replace hS:=hS.sle [] []
   refine region (ePe T hS [] [(4,I (wR (dr+1)))] fun a hS=>?_)
   exact ⟨⟨d3++[(⟨(gi h_.al dr).ax,((gi h_.al dr).aI)⟩:az)],wR (dr+1)⟩,⟨Z,_,rG,rF,hm.1,hS.sl _,hO,h132,h112,h113⟩,hm.2⟩
  replace hm:=hm.2 hb
  refine cb (by rfl) ?_
  exact ⟨Z,_,d3,iK,iJ,hm,hS.sl _,hO,h110⟩
 rintro a A9 ⟨Z,rH,bD,dq,dl,hm,hS,hO,h104⟩
 unfold VC11_J1 at hm
 refine rPe T hS [3] [(2,Sl dq bD dl)] fun a hS=>?_
 refine aY ?_
 obtain ⟨o1,hE,hF⟩:=h104.freeze (by decide)
 replace hS:=hS.ev hE (cr kr)
 replace hO:=hO.m2 hE
 have h106:=hF; clear hE hF
 exact fin T hS hO (fun c=>c) rfl (r:=[.slice dq bD.length dl]) kr (fun X' hM hC=>⟨bD,hm,dq,dl,rfl,h106.m0 hM⟩)
theorem C11 (v:∀ (h_:ak),lh h_->VC11 h_ (fun r=>r=dg h_)):S11:=by
 intro w X h_ a1 c1 a2 c2   hp h1 h2
 refine (W11 w X h_ a1 c1 a2 c2   _ (v h_ hp) h1 h2).mono ?_
 rintro _ _ _ _ ⟨r,rfl,h⟩
 exact h
theorem W7 (w0) (X0) (h_:ak) (a1) (c1) (a2) (c2) (Q:Int->Prop) (hm:VC7 h_ Q) (h1:RS aA w0 X0 a1 h_.ah c1) (h2:RS aP w0 X0 a2 h_.al c2) :
  Ret Tryz.prog 7 #[.agg #[.slice a1 h_.ah.length c1,.slice a2 h_.al.length c2]] aJ w0 X0 (fun w X' v=>∃ r,Q r/\v=.int .i64 r):=by
 unfold VC7 at hm
 replace hm:=hm (h1.sm kr)
 replace hm:=hm (h2.sm kr)
 refine enter Tryz.func7 rfl (vals:=[.agg #[.slice a1 h_.ah.length c1,.slice a2 h_.al.length c2]]) kr ?_
 intro Z a hS hO hM
 replace h1:=h1.m0 hM
 replace h2:=h2.m0 hM
 refine rM T hS ⟨[(1,Pt 2 0)],[(2,(25,[Sl a1 h_.ah c1,Sl a2 h_.al c2]))]⟩ fun Z a uo ud hS hE hr=>?_
 replace hO:=hO.m2 hE
 replace h1:=h1.m1 hE
 replace h2:=h2.m1 hE
 clear hE hr
 refine rPe T hS [] [(3,I 0)] fun a hS=>?_
 refine bT (fun a w=>∃ (Z:Nat->Nat) (X:Nat->Nat) (bD:Int),VC7_J1 Q bD/\St Tryz.f7.ntmps ⟨[(3,I bD)],[]⟩ Z a w X/\Old w0 X0 w X) ?_ ?_
 ·refine rPe T hS [] [(4,I 0)] fun a hS=>?_
  refine aL ?_
  obtain ⟨I1,μ1,co,hm⟩:=hm
  refine cl (σ:=Int × Int) (fun s a w=>∃ Z X,I1 s.1 s.2/\St Tryz.f7.ntmps ⟨[(1,Pt 2 0),(3,I s.1),(4,I s.2)],[(2,(25,[Sl a1 h_.ah c1,Sl a2 h_.al c2]))]⟩ Z a w X/\Old w0 X0 w X/\RS aA w X a1 h_.ah c1/\RS aP w X a2 h_.al c2) (fun s=>μ1 s.1 s.2) (⟨0,0⟩) ?_ ?_
  ·exact ⟨Z,_,co,hS.sl _,hO,h1,h2⟩
  rintro ⟨bu,bi⟩ a uq ⟨Z,Dh,hI,hS,hO,h104,h105⟩
  replace hm:=hm bu bi hI
  clear hI co
  refine bc ?_
  refine rPe T hS [] [(9,B (decide (bi < (lN h_.al))))] fun a hS=>?_
  refine aG hS (b:=decide (bi < (lN h_.al))) kr (fun hb=>?_) fun hb=>?_
  ·replace hm:=hm.1 hb
   refine aH ?_
   refine bT (fun a w=>∃ (Z:Nat->Nat) (X:Nat->Nat) (fB:Int),VC7_J2 I1 μ1 bu bi fB/\St Tryz.f7.ntmps ⟨[(1,Pt 2 0),(3,I fB),(4,I bi)],[(2,(25,[Sl a1 h_.ah c1,Sl a2 h_.al c2]))]⟩ Z a w X/\Old w0 X0 w X/\RS aA w X a1 h_.ah c1/\RS aP w X a2 h_.al c2) ?_ ?_
   ·refine aL ?_
    refine bj ?_
    refine oPe T hS 3 [9] [(13,Sl a2 h_.al c2),(14,I bi)] fun a hS=>?_
    obtain ⟨hq,hm⟩:=hm
    refine op1 (index (e:=63) (k:=.i64) T hS kr kr kr kr h105 kr kr hq.1 hq.2 ?_)
    intro AQ a h110 hS
    refine op1 (e9 (off:=1) (fsz:=3) (ft:=61) (TF:=aM) (y:=(gi h_.al bi).aI) T hS kr kr kr h110 kr kr kr (fun cs h=>mw h) ?_)
    intro Dk a h112 hS
    refine op1 (e9 (off:=0) (fsz:=1) (ft:=3) (TF:=tI) (y:=((gi h_.al bi).aI).bh) T hS kr kr kr h112 kr kr kr (fun cs h=>lU h) ?_)
    intro HB a h114 hS
    refine op1 (dU T hS kr kr kr h114 rfl kr ?_)
    intro v115 a hv hS
    cases hv
    refine ePe T hS [13,14,15,16,17,18] [(19,B ((((gi h_.al bi).aI).bh) == 1))] fun a hS=>?_
    refine aG hS (b:=((((gi h_.al bi).aI).bh) == 1)) kr (fun hb=>?_) fun hb=>?_
    ·replace hm:=hm.1 hb
     refine region (ePe T hS [19] [(3,I (wR (bu+1)))] fun a hS=>?_)
     exact ⟨Z,_,wR (bu+1),hm,hS.sl _,hO,h104,h105⟩
    replace hm:=hm.2 hb
    refine aH ?_
    exact ⟨Z,_,bu,hm,hS.sl _,hO,h104,h105⟩
   rintro a zq ⟨Z,ue,fB,hm,hS,hO,h107,h108⟩
   unfold VC7_J2 at hm
   refine region (ePe T hS [] [(4,I (wR (bi+1)))] fun a hS=>?_)
   exact ⟨⟨fB,wR (bi+1)⟩,⟨Z,_,hm.1,hS.sl _,hO,h107,h108⟩,hm.2⟩
  replace hm:=hm.2 hb
  refine cb (by rfl) ?_
  exact ⟨Z,_,bu,hm,hS.sl _,hO⟩
 rintro a up ⟨Z,AL,bD,hm,hS,hO⟩
 unfold VC7_J1 at hm
 refine rPe T hS [3] [(2,I bD)] fun a hS=>?_
 refine aY ?_
 exact fin T hS hO (fun c=>c) rfl (r:=[.int .i64 bD]) kr (fun X' hM hC=>⟨bD,hm,rfl⟩)
theorem C7 (v:∀ (h_:ak),VC7 h_ (fun r=>r=ff h_)):S7:=by
 intro w X h_ a1 c1 a2 c2   h1 h2
 refine (W7 w X h_ a1 c1 a2 c2   _ (v h_) h1 h2).mono ?_
 rintro _ _ _ _ ⟨r,rfl,h⟩
 exact h
theorem W6 (L5:S21) (w0) (X0) (h_:ak) (a1) (c1) (a2) (c2) (Q:Bool->Prop) (hm:VC6 h_ Q) (h1:RS aA w0 X0 a1 h_.ah c1) (h2:RS aP w0 X0 a2 h_.al c2) :
  Ret Tryz.prog 6 #[.agg #[.slice a1 h_.ah.length c1,.slice a2 h_.al.length c2]] aJ w0 X0 (fun w X' v=>∃ r,Q r/\v=.bool r):=by
 unfold VC6 at hm
 replace hm:=hm (h1.sm kr)
 replace hm:=hm (h2.sm kr)
 refine enter Tryz.func6 rfl (vals:=[.agg #[.slice a1 h_.ah.length c1,.slice a2 h_.al.length c2]]) kr ?_
 intro Z a hS hO hM
 replace h1:=h1.m0 hM
 replace h2:=h2.m0 hM
 refine rM T hS ⟨[(1,Pt 2 0)],[(2,(25,[Sl a1 h_.ah c1,Sl a2 h_.al c2]))]⟩ fun Z a Bb Dg hS hE hr=>?_
 replace hO:=hO.m2 hE
 replace h1:=h1.m1 hE
 replace h2:=h2.m1 hE
 clear hE hr
 refine bc ?_
 refine rPe T hS [] [(13,B ((decide ((lN h_.ah) > 10)) || (decide ((lN h_.al) > 20))))] (sp:=[8]) fun a hS=>?_
 refine aG hS (b:=((decide ((lN h_.ah) > 10)) || (decide ((lN h_.al) > 20)))) kr (fun hb=>?_) fun hb=>?_
 ·replace hm:=hm.1 hb
  refine rP T hS ⟨[(2,B false)],[]⟩ fun a hS=>?_
  refine aY ?_
  exact fin T hS hO (fun c=>c) rfl (r:=[.bool false]) kr (fun X' hM hC=>⟨false,hm,rfl⟩)
 replace hm:=hm.2 hb
 refine aH ?_
 refine bT (fun a w=>∃ Z X,VC6_J1 Q/\St Tryz.f6.ntmps ⟨[],[]⟩ Z a w X/\Old w0 X0 w X) ?_ ?_
 ·refine rPe T hS [13] [(3,I 0)] fun a hS=>?_
  refine aL ?_
  obtain ⟨I1,μ1,co,hm⟩:=hm
  refine cl (σ:=Int) (fun s a w=>∃ Z X,I1 s/\St Tryz.f6.ntmps ⟨[(1,Pt 2 0),(3,I s)],[(2,(25,[Sl a1 h_.ah c1,Sl a2 h_.al c2]))]⟩ Z a w X/\Old w0 X0 w X/\RS aA w X a1 h_.ah c1/\RS aP w X a2 h_.al c2) (fun s=>μ1 s) (0) ?_ ?_
  ·exact ⟨Z,_,co,hS.sl _,hO,h1,h2⟩
  rintro bD a pt ⟨Z,wc,hI,hS,hO,h102,h103⟩
  replace hm:=hm bD hI
  clear hI co
  refine bc ?_
  refine rPe T hS [] [(18,B (decide (bD < (lN h_.ah))))] fun a hS=>?_
  refine aG hS (b:=decide (bD < (lN h_.ah))) kr (fun hb=>?_) fun hb=>?_
  ·replace hm:=hm.1 hb
   refine aH (bc ?_)
   refine aL ?_
   refine bj ?_
   refine oPe T hS 3 [18] [(22,Sl a1 h_.ah c1),(23,I bD)] fun a hS=>?_
   obtain ⟨hq,hm⟩:=hm
   refine op1 (index (e:=48) (k:=.i64) T hS kr kr kr kr h102 kr kr hq.1 hq.2 ?_)
   intro Kk a h105 hS
   refine op1 (eC T hS kr kr kr h105 kr kr ?_)
   intro v106 a hv hS
   obtain ⟨AD,As,hv,h109⟩:=hv
   subst hv
   replace hm:=hm (h109.sm kr)
   refine op1 (call hS kr kr hb21 kr (fun _ _=>rfl) (L5 _ _ (gi h_.ah bD) AD As h109) ?_)
   intro v110 a DK rJ hE hp hS
   replace hO:=hO.m2 hE
   replace h102:=h102.m1 hE
   replace h103:=h103.m1 hE
   replace h105:=h105.m1 hE
   replace h109:=h109.m1 hE
   obtain ⟨fS,hr⟩:∃ r,gR (gi h_.ah bD)=r:=⟨_,rfl⟩
   replace hm:=hm fS hr
   rw [hr] at hp
   clear hr
   subst hp
   refine ePe T hS [22,23,24,25,26] [(27,B (!fS))] fun a hS=>?_
   refine aG hS (b:=(!fS)) kr (fun hb=>?_) fun hb=>?_
   ·replace hm:=hm.1 hb
    refine rP T hS ⟨[(2,B false)],[]⟩ fun a hS=>?_
    refine aY ?_
    exact fin T hS hO (fun c=>c) rfl (r:=[.bool false]) kr (fun X' hM hC=>⟨false,hm,rfl⟩)
   replace hm:=hm.2 hb
   refine aH ?_
   refine region (ePe T hS [27] [(3,I (wR (bD+1)))] fun a hS=>?_)
   exact ⟨wR (bD+1),⟨Z,_,hm.1,hS.sl _,hO,h102,h103⟩,hm.2⟩
  replace hm:=hm.2 hb
  refine cb (by rfl) ?_
  exact ⟨Z,_,hm,hS.sl _,hO⟩
 rintro a zq ⟨Z,ue,hm,hS,hO⟩
 unfold VC6_J1 at hm
 refine rPe T hS [] [(2,B true)] fun a hS=>?_
 refine aY ?_
 exact fin T hS hO (fun c=>c) rfl (r:=[.bool true]) kr (fun X' hM hC=>⟨true,hm,rfl⟩)
theorem C6 (L5:S21) (v:∀ (h_:ak),VC6 h_ (fun r=>r=gQ h_)):S6:=by
 intro w X h_ a1 c1 a2 c2   h1 h2
 refine (W6 L5 w X h_ a1 c1 a2 c2   _ (v h_) h1 h2).mono ?_
 rintro _ _ _ _ ⟨r,rfl,h⟩
 exact h
end Go.Proofs.YteahldlmkheleaaGreat
