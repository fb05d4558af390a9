/- Walks of the functions: each returns what its condition asks. -/
import Derived.Test.YteahldlmkheleaaGreatLWalksS
set_option linter.all false
namespace Go.Proofs.YteahldlmkheleaaGreat
open Go Go.Sv
abbrev zAg0 (cM:Nat):Nat->Nat:=fun c=>(bif Nat.beq c 1017 then cM else c)
abbrev zAg1 (i1 i2 i3 i4:Nat):List (Nat × Nat):=[(i1,901),(i2,902),(i3,903),(i4,904)]
set_option maxHeartbeats 1000000
theorem W43 (xV:S63) (Lk:S73) (w0) (X0) (l_:List ab) (rows:List (List aa)) (a1) (c1) (a2) (c2) (Q:(List aa) × (List (Int × Int))->Prop) (hm:VC43 l_ rows Q) (h1:RS ar w0 X0 a1 l_ c1) (h2:RS (fp av) w0 X0 a2 rows c2) :
  Ret Tryz.prog 43 #[.slice a1 l_.length c1,.slice a2 rows.length c2] aM w0 X0 (fun w X' v=>∃ r,Q r/\∃ cQ cN jg jf,v=.tuple #[.slice cQ r.1.length cN,.slice jg r.2.length jf]/\RS av w X' cQ r.1 cN/\RS tP2 w X' jg r.2 jf):=by
 unfold VC43 at hm
 replace hm:=hm (h1.sm kr)
 replace hm:=hm (h2.sm kr)
 refine enter Tryz.func43 rfl (vals:=[.slice a1 l_.length c1,.slice a2 rows.length c2]) kr ?_
 intro Z a hS hO hM
 replace h1:=h1.m0 hM
 replace h2:=h2.m0 hM
 refine rPe T hS [] [] fun a hS=>?_
 refine br ?_
 refine oPe T hS 1 [] [(16,Sl a2 rows c2)] fun a hS=>?_
 obtain ⟨hq,hm⟩:=hm
 refine op1 (call hS kr kr hb73 kr (fun _ _=>rfl) (Lk _ _ rows a2 c2 hq h2) ?_)
 intro v101 a fH fK hE hp hS
 replace hO:=hO.m2 hE
 replace h1:=h1.m1 hE
 replace h2:=h2.m1 hE
 obtain ⟨ea,dZ,hp,h107⟩:=hp
 obtain ⟨ay,hr⟩:∃ r,cc rows=r:=⟨_,rfl⟩
 replace hm:=hm ay hr
 rw [hr] at hp h107
 clear hr
 subst hp
 replace hm:=hm (h107.sm kr)
 refine ePe T hS [16,17] [(6,Sl ea ay dZ)] fun a hS=>?_
 refine rPe T hS [] [(7,V (.slice none 0 0))] fun a hS=>?_
 refine rPe T hS [] [(8,I 0)] fun a hS=>?_
 refine cb (fun a w=>∃ (Z:Nat->Nat) (X:Nat->Nat) (bK:List (Int × Int)) (jb:Option Addr) (iZ:Nat),VC43_J1 l_ Q ay bK/\St Tryz.f43.ntmps ⟨[(0,Sl a1 l_ c1),(6,Sl ea ay dZ),(7,Sl jb bK iZ)],[]⟩ Z a w X/\Old w0 X0 w X/\RS ar w X a1 l_ c1/\RS av w X ea ay dZ/\OS tP2 131 w X 1006 jb bK iZ) ?_ ?_
 ·refine rPe T hS [1] [(18,Sl a2 rows c2),(19,I (lN rows)),(20,I 0)] fun a hS=>?_
  refine aQ ?_
  obtain ⟨I3,μ3,cJ,hm⟩:=hm
  refine cH (σ:=(List (Int × Int)) × Int × Int) (fun s a w=>∃ Z X nX nT,I3 s.1 s.2.1 s.2.2/\St Tryz.f43.ntmps ⟨[(0,Sl a1 l_ c1),(6,Sl ea ay dZ),(7,Sl nX s.1 nT),(8,I s.2.1),(18,Sl a2 rows c2),(19,I (lN rows)),(20,I s.2.2)],[]⟩ Z a w X/\Old w0 X0 w X/\RS ar w X a1 l_ c1/\RS av w X ea ay dZ/\OS tP2 131 w X 1006 nX s.1 nT/\RS (fp av) w X a2 rows c2) (fun s=>μ3 s.1 s.2.1 s.2.2) (⟨[],0,0⟩) ?_ ?_
  ·exact ⟨Z,_,none,0,cJ,hS.sl _,hO,h1,h107,(OS.nil _ _ _ _ _),h2⟩
  rintro ⟨n4,iL,iz⟩ a OQ ⟨Z,MU,nX,nT,hI,hS,hO,h194,h195,h199,h201⟩
  replace hm:=hm n4 iL iz hI
  clear hI cJ
  refine rPe T hS [] [(21,B (decide (iz < (lN rows))))] fun a hS=>?_
  refine bh ?_
  refine aI hS (b:=decide (iz < (lN rows))) kr (fun hb=>?_) fun hb=>?_
  ·replace hm:=hm.1 hb
   refine aO (bh ?_)
   refine aQ ?_
   refine br ?_
   obtain ⟨hq,hm⟩:=hm
   refine op1 (index (e:=26) (k:=.i64) T hS kr kr kr kr h201 kr kr hq.1 hq.2 ?_)
   intro RM a h204 hS
   refine op1 (eT T hS kr kr kr h204 rfl kr ?_)
   intro v205 a hv hS
   obtain ⟨oT,oM,hv,h208⟩:=hv
   cases hv
   replace hm:=hm (h208.sm kr)
   refine ePe T hS [21,22,23] [(10,Sl oT (gi rows iz) oM)] fun a hS=>?_
   refine cb (fun a w=>∃ (Z:Nat->Nat) (X:Nat->Nat) (Bl:List (Int × Int)) (A2:Option Addr) (AS:Nat),VC43_J5 rows I3 μ3 n4 iL iz Bl/\St Tryz.f43.ntmps ⟨[(0,Sl a1 l_ c1),(6,Sl ea ay dZ),(7,Sl A2 Bl AS),(8,I iL),(10,Sl oT (gi rows iz) oM),(18,Sl a2 rows c2),(19,I (lN rows)),(20,I iz)],[]⟩ Z a w X/\Old w0 X0 w X/\RS ar w X a1 l_ c1/\RS av w X ea ay dZ/\OS tP2 131 w X 1006 A2 Bl AS/\RS av w X oT (gi rows iz) oM/\RS (fp av) w X a2 rows c2) ?_ ?_
   ·refine rPe T hS [] [(11,I 1)] fun a hS=>?_
    refine aQ ?_
    obtain ⟨I4,μ4,cJ,hm⟩:=hm
    refine cH (σ:=(List (Int × Int)) × Int) (fun s a w=>∃ Z X C5 CW,I4 s.1 s.2/\St Tryz.f43.ntmps ⟨[(0,Sl a1 l_ c1),(6,Sl ea ay dZ),(7,Sl C5 s.1 CW),(8,I iL),(10,Sl oT (gi rows iz) oM),(11,I s.2),(18,Sl a2 rows c2),(19,I (lN rows)),(20,I iz)],[]⟩ Z a w X/\Old w0 X0 w X/\RS ar w X a1 l_ c1/\RS av w X ea ay dZ/\OS tP2 131 w X 1006 C5 s.1 CW/\RS av w X oT (gi rows iz) oM/\RS (fp av) w X a2 rows c2) (fun s=>μ4 s.1 s.2) (⟨n4,1⟩) ?_ ?_
    ·exact ⟨Z,_,nX,nT,cJ,hS.sl _,hO,h194,h195,h199,h208,h201⟩
    rintro ⟨zS,ny⟩ a Kt ⟨Z,Q7,C5,CW,hI,hS,hO,h217,h218,h222,h223,h225⟩
    replace hm:=hm zS ny hI
    clear hI cJ
    refine bh ?_
    refine rPe T hS [] [(27,B (decide (ny < (lN (gi rows iz)))))] fun a hS=>?_
    refine aI hS (b:=decide (ny < (lN (gi rows iz)))) kr (fun hb=>?_) fun hb=>?_
    ·replace hm:=hm.1 hb
     refine aO (bh ?_)
     refine aQ ?_
     refine region ?_
     refine oPe T hS 9 [27] [(30,Sl C5 zS CW),(38,V (.agg #[.int .i64 (wR ((wR (iL+ny)) - 1)),.int .i64 (wR (iL+ny))]))] fun a hS=>?_
     refine op1 (lit (E:=131) (col:=0) (T:=tP2) (vals:=[.agg #[.int .i64 (wR ((wR (iL+ny)) - 1)),.int .i64 (wR (iL+ny))]]) (ys:=[(wR ((wR (iL+ny)) - 1),wR (iL+ny))]) T hS kr kr kr kr (by exact ⟨rfl,trivial⟩) rfl kr kr kr kr ?_)
     intro b226 a OW Rb hE h229 hN hS
     clear hN
     replace hO:=hO.m2 hE
     replace h217:=h217.m1 hE
     replace h218:=h218.m1 hE
     replace h222:=h222.m2 hE
     replace h223:=h223.m1 hE
     replace h225:=h225.m1 hE
     replace h229:=h229.rs0
     obtain ⟨hq,hm⟩:=hm
     obtain ⟨news,hN⟩:=h229.src
     refine op1 (append (E:=131) (T:=tP2) (col:=1006) (xs:=zS) T hS kr kr kr kr h222 hN kr kr kr kr hq ?_)
     intro JM Jy a Ku MW hE h232 hS
     clear hq hN
     clear h222
     replace hO:=hO.m2 hE
     replace h217:=h217.m1 hE
     replace h218:=h218.m1 hE
     replace h223:=h223.m1 hE
     replace h225:=h225.m1 hE
     replace h229:=h229.m1 hE
     refine ePe T hS [38,39,40] [(7,Sl JM (zS++[(wR ((wR (iL+ny)) - 1),wR (iL+ny))]) Jy)] fun a hS=>?_
     refine region (ePe T hS [] [(11,I (wR (ny+1)))] fun a hS=>?_)
     exact ⟨⟨zS++[(wR ((wR (iL+ny)) - 1),wR (iL+ny))],wR (ny+1)⟩,⟨Z,_,JM,Jy,hm.1,hS.sl _,hO,h217,h218,h232,h223,h225⟩,hm.2⟩
    replace hm:=hm.2 hb
    refine cu (by rfl) ?_
    exact ⟨Z,_,zS,C5,CW,hm,hS.sl _,hO,h217,h218,h222,h223,h225⟩
   rintro a Ks ⟨Z,MV,Bl,A2,AS,hm,hS,hO,h209,h210,h214,h215,h216⟩
   unfold VC43_J5 at hm
   refine region (ePe T hS [10] [(8,I (wR (iL+(lN (gi rows iz)))))] fun a hS=>?_)
   refine region (ePe T hS [] [(20,I (wR (iz+1)))] fun a hS=>?_)
   exact ⟨⟨Bl,wR (iL+(lN (gi rows iz))),wR (iz+1)⟩,⟨Z,_,A2,AS,hm.1,hS.sl _,hO,h209,h210,h214,h216⟩,hm.2⟩
  replace hm:=hm.2 hb
  refine cu (by rfl) ?_
  exact ⟨Z,_,n4,nX,nT,hm,hS.sl _,hO,h194,h195,h199⟩
 rintro a OP ⟨Z,Q5,bK,jb,iZ,hm,hS,hO,h108,h109,h113⟩
 unfold VC43_J1 at hm
 refine cb (fun a w=>∃ (Z:Nat->Nat) (X:Nat->Nat) (bu:List (Int × Int)) (eD:Option Addr) (eC:Nat),VC43_J2 Q ay bu/\St Tryz.f43.ntmps ⟨[(6,Sl ea ay dZ),(7,Sl eD bu eC)],[]⟩ Z a w X/\Old w0 X0 w X/\RS av w X ea ay dZ/\OS tP2 131 w X 1006 eD bu eC) ?_ ?_
 ·refine rPe T hS [] [(46,Sl ea ay dZ),(47,I (lN ay)),(48,I 0)] fun a hS=>?_
  refine aQ ?_
  obtain ⟨I1,μ1,cJ,hm⟩:=hm
  refine cH (σ:=(List (Int × Int)) × Int) (fun s a w=>∃ Z X kC kx,I1 s.1 s.2/\St Tryz.f43.ntmps ⟨[(0,Sl a1 l_ c1),(6,Sl ea ay dZ),(7,Sl kC s.1 kx),(46,Sl ea ay dZ),(47,I (lN ay)),(48,I s.2)],[]⟩ Z a w X/\Old w0 X0 w X/\RS ar w X a1 l_ c1/\RS av w X ea ay dZ/\OS tP2 131 w X 1006 kC s.1 kx/\RS av w X ea ay dZ) (fun s=>μ1 s.1 s.2) (⟨bK,0⟩) ?_ ?_
  ·exact ⟨Z,_,jb,iZ,cJ,hS.sl _,hO,h108,h109,h113,h109⟩
  rintro ⟨iJ,gf⟩ a HR ⟨Z,M8,kC,kx,hI,hS,hO,h121,h122,h126,h127⟩
  replace hm:=hm iJ gf hI
  clear hI cJ
  refine rPe T hS [] [(49,B (decide (gf < (lN ay))))] fun a hS=>?_
  refine bh ?_
  refine aI hS (b:=decide (gf < (lN ay))) kr (fun hb=>?_) fun hb=>?_
  ·replace hm:=hm.1 hb
   refine aO ?_
   refine cb (fun a w=>∃ (Z:Nat->Nat) (X:Nat->Nat) (gd:List (Int × Int)) (hU:Option Addr) (hK:Nat),VC43_J3 I1 μ1 iJ gf gd/\St Tryz.f43.ntmps ⟨[(0,Sl a1 l_ c1),(6,Sl ea ay dZ),(7,Sl hU gd hK),(46,Sl ea ay dZ),(47,I (lN ay)),(48,I gf)],[]⟩ Z a w X/\Old w0 X0 w X/\RS ar w X a1 l_ c1/\RS av w X ea ay dZ/\OS tP2 131 w X 1006 hU gd hK/\RS av w X ea ay dZ) ?_ ?_
   ·refine aQ ?_
    refine br ?_
    refine oPe T hS 1 [49] [(50,I gf)] fun a hS=>?_
    obtain ⟨hq,hm⟩:=hm
    refine op1 (index (e:=56) (k:=.i64) T hS kr kr kr kr h127 kr kr hq.1 hq.2 ?_)
    intro Hs a h137 hS
    refine op1 (eS T hS kr kr kr h137 kr kr ?_)
    intro v138 a hv hS
    subst hv
    refine eM T hS ⟨[(0,Sl a1 l_ c1),(6,Sl ea ay dZ),(7,Sl kC iJ kx),(12,I gf),(13,Pt 14 0),(46,Sl ea ay dZ),(47,I (lN ay)),(48,I gf)],[(14,(56,(cK (gi ay gf))))]⟩ fun Z a FW JU hS hE hr=>?_
    replace hO:=hO.m2 hE
    replace h121:=h121.m1 hE
    replace h122:=h122.m1 hE
    replace h126:=h126.m2 hE
    replace h127:=h127.m1 hE
    clear hE hr
    refine rPe T hS [] [(53,Sl ea ay dZ),(54,I (lN ay)),(55,I 0)] fun a hS=>?_
    refine aQ ?_
    obtain ⟨I2,μ2,cJ,hm⟩:=hm
    refine cH (σ:=(List (Int × Int)) × Int) (fun s a w=>∃ Z X kB ku,I2 s.1 s.2/\St Tryz.f43.ntmps ⟨[(0,Sl a1 l_ c1),(6,Sl ea ay dZ),(7,Sl kB s.1 ku),(12,I gf),(13,Pt 14 0),(46,Sl ea ay dZ),(47,I (lN ay)),(48,I gf),(53,Sl ea ay dZ),(54,I (lN ay)),(55,I s.2)],[(14,(56,(cK (gi ay gf))))]⟩ Z a w X/\Old w0 X0 w X/\RS ar w X a1 l_ c1/\RS av w X ea ay dZ/\OS tP2 131 w X 1006 kB s.1 ku/\RS av w X ea ay dZ/\RS av w X ea ay dZ) (fun s=>μ2 s.1 s.2) (⟨iJ,0⟩) ?_ ?_
    ·exact ⟨Z,_,kC,kx,cJ,hS.sl _,hO,h121,h122,h126,h127,h122⟩
    rintro ⟨jw,gL⟩ a KD ⟨Z,Nb,kB,ku,hI,hS,hO,h139,h140,h144,h145,h146⟩
    replace hm:=hm jw gL hI
    clear hI cJ
    refine rPe T hS [] [(56,B (decide (gL < (lN ay))))] fun a hS=>?_
    refine bh ?_
    refine aI hS (b:=decide (gL < (lN ay))) kr (fun hb=>?_) fun hb=>?_
    ·replace hm:=hm.1 hb
     refine aO ?_
     refine cb (fun a w=>∃ (Z:Nat->Nat) (X:Nat->Nat) (n5:List (Int × Int)) (EG:Option Addr) (Ey:Nat),VC43_J4 I2 μ2 jw gL n5/\St Tryz.f43.ntmps ⟨[(0,Sl a1 l_ c1),(6,Sl ea ay dZ),(7,Sl EG n5 Ey),(12,I gf),(13,Pt 14 0),(46,Sl ea ay dZ),(47,I (lN ay)),(48,I gf),(53,Sl ea ay dZ),(54,I (lN ay)),(55,I gL)],[(14,(56,(cK (gi ay gf))))]⟩ Z a w X/\Old w0 X0 w X/\RS ar w X a1 l_ c1/\RS av w X ea ay dZ/\OS tP2 131 w X 1006 EG n5 Ey/\RS av w X ea ay dZ/\RS av w X ea ay dZ) ?_ ?_
     ·refine aQ ?_
      refine br ?_
      refine oPe T hS 1 [56] [(57,I gL)] fun a hS=>?_
      obtain ⟨hq,hm⟩:=hm
      refine op1 (index (e:=56) (k:=.i64) T hS kr kr kr kr h146 kr kr hq.1 hq.2 ?_)
      intro Nq a h157 hS
      refine op1 (eS T hS kr kr kr h157 kr kr ?_)
      intro v158 a hv hS
      subst hv
      refine eM T hS ⟨[(0,Sl a1 l_ c1),(6,Sl ea ay dZ),(7,Sl kB jw ku),(12,I gf),(13,Pt 14 0),(14,I gL),(15,Pt 16 0),(46,Sl ea ay dZ),(47,I (lN ay)),(48,I gf),(53,Sl ea ay dZ),(54,I (lN ay)),(55,I gL)],[(14,(56,(cK (gi ay gf)))),(16,(56,(cK (gi ay gL))))]⟩ fun Z a HS JW hS hE hr=>?_
      replace hO:=hO.m2 hE
      replace h139:=h139.m1 hE
      replace h140:=h140.m1 hE
      replace h144:=h144.m2 hE
      replace h145:=h145.m1 hE
      replace h146:=h146.m1 hE
      clear hE hr
      refine dB [14,16] mixed hS ?_
      intro zX EK hS hE hD hH
      replace hO:=hO.m2 hE
      replace h139:=h139.m1 hE
      replace h140:=h140.m1 hE
      replace h144:=h144.m2 hE
      replace h145:=h145.m1 hE
      replace h146:=h146.m1 hE
      refine tke T [0,1,5,6,2,7] [14,16] hS hH #[true,true,true,false,false,true,true,true,false,false,false] 5 [15] [(60,Sl a1 l_ c1),(62,I ((gi ay gf).Oper)),(65,Sl a1 l_ c1),(67,I ((gi ay gL).Oper))] fun a hS=>?_
      obtain ⟨hq,hm⟩:=hm
      refine dg (e:=102) (k:=.i64) T 3 hS kr kr kr (by rfl) kr hH kr kr h139 kr kr hq.1 hq.2 ?_
      intro R7 a h162 hS
      have I6:=h162.here
      refine ld T 4 hS kr kr kr (by rfl) kr hH kr h162 I6 kr kr ?_
      intro v163 a hv hS
      subst hv
      obtain ⟨hq,hm⟩:=hm
      refine dg (e:=102) (k:=.i64) T 8 hS kr kr kr (by rfl) kr hH kr kr h139 kr kr hq.1 hq.2 ?_
      intro Np a h165 hS
      have I5:=h165.here
      refine ld T 9 hS kr kr kr (by rfl) kr hH kr h165 I5 kr kr ?_
      intro v166 a hv hS
      subst hv
      refine only 10 kr (by rfl) (call hS kr kr hb63 kr (fun _ _=>rfl) (xV _ _ (gi l_ ((gi ay gf).Oper)) (gi l_ ((gi ay gL).Oper))) ?_)
      intro v167 a DG Hi hE hp hS
      replace hO:=hO.m2 hE
      replace hD:=hD.ev hE rfl
      replace h139:=h139.m1 hE
      replace h140:=h140.m1 hE
      replace h144:=h144.m2 hE
      replace h145:=h145.m1 hE
      replace h146:=h146.m1 hE
      replace h162:=h162.m1 hE
      replace h165:=h165.m1 hE
      obtain ⟨vo,hr⟩:∃ r,bf (gi l_ ((gi ay gf).Oper)) (gi l_ ((gi ay gL).Oper))=r:=⟨_,rfl⟩
      replace hm:=hm vo hr
      rw [hr] at hp
      clear hr
      subst hp
      replace hS:=hS.sle [] [(70,B vo)]
      refine da (bO.of hS (bks:=[14,16]) kr hD) ?_
      intro hH
      refine aY kr ?_
      replace hS:=hS.sl ⟨[(0,Sl a1 l_ c1),(6,Sl ea ay dZ),(7,Sl kB jw ku),(12,I gf),(13,Pt 14 0),(14,I gL),(46,Sl ea ay dZ),(47,I (lN ay)),(48,I gf),(53,Sl ea ay dZ),(54,I (lN ay)),(55,I gL),(70,B vo)],[(14,(56,(cK (gi ay gf))))]⟩
      refine aI hS (b:=vo) kr (fun hb=>?_) fun hb=>?_
      ·replace hm:=hm.1 hb
       refine region ?_
       refine oPe T hS 4 [14,70] [(71,Sl kB jw ku),(74,V (.agg #[.int .i64 gf,.int .i64 gL]))] fun a hS=>?_
       refine op1 (lit (E:=131) (col:=0) (T:=tP2) (vals:=[.agg #[.int .i64 gf,.int .i64 gL]]) (ys:=[(gf,gL)]) T hS kr kr kr kr (by exact ⟨rfl,trivial⟩) rfl kr kr kr kr ?_)
       intro b171 a HV JX hE h174 hN hS
       clear hN
       replace hO:=hO.m2 hE
       replace h139:=h139.m1 hE
       replace h140:=h140.m1 hE
       replace h144:=h144.m2 hE
       replace h145:=h145.m1 hE
       replace h146:=h146.m1 hE
       replace h174:=h174.rs0
       obtain ⟨hq,hm⟩:=hm
       obtain ⟨news,hN⟩:=h174.src
       refine op1 (append (E:=131) (T:=tP2) (col:=1006) (xs:=jw) T hS kr kr kr kr h144 hN kr kr kr kr hq ?_)
       intro JO JA a HT Hh hE h177 hS
       clear hq hN
       clear h144
       replace hO:=hO.m2 hE
       replace h139:=h139.m1 hE
       replace h140:=h140.m1 hE
       replace h145:=h145.m1 hE
       replace h146:=h146.m1 hE
       replace h174:=h174.m1 hE
       refine ePe T hS [74,75,76] [(7,Sl JO (jw++[(gf,gL)]) JA)] fun a hS=>?_
       exact ⟨Z,_,jw++[(gf,gL)],JO,JA,hm,hS.sl _,hO,h139,h140,h177,h145,h146⟩
      replace hm:=hm.2 hb
      refine aO ?_
      exact ⟨Z,_,jw,kB,ku,hm,hS.sl _,hO,h139,h140,h144,h145,h146⟩
     rintro a KE ⟨Z,JV,n5,EG,Ey,hm,hS,hO,h148,h149,h153,h154,h155⟩
     unfold VC43_J4 at hm
     refine region (ePe T hS [] [(55,I (wR (gL+1)))] fun a hS=>?_)
     exact ⟨⟨n5,wR (gL+1)⟩,⟨Z,_,EG,Ey,hm.1,hS.sl _,hO,h148,h149,h153,h154,h155⟩,hm.2⟩
    replace hm:=hm.2 hb
    refine cu (by rfl) ?_
    exact ⟨Z,_,jw,kB,ku,hm,hS.sl _,hO,h139,h140,h144,h145⟩
   rintro a KC ⟨Z,M9,gd,hU,hK,hm,hS,hO,h129,h130,h134,h135⟩
   unfold VC43_J3 at hm
   refine region (ePe T hS [] [(48,I (wR (gf+1)))] fun a hS=>?_)
   exact ⟨⟨gd,wR (gf+1)⟩,⟨Z,_,hU,hK,hm.1,hS.sl _,hO,h129,h130,h134,h135⟩,hm.2⟩
  replace hm:=hm.2 hb
  refine cu (by rfl) ?_
  exact ⟨Z,_,iJ,kC,kx,hm,hS.sl _,hO,h122,h126⟩
 rintro a KB ⟨Z,JT,bu,eD,eC,hm,hS,hO,h114,h118⟩
 unfold VC43_J2 at hm
 refine rPe T hS [6,7] [(4,Sl ea ay dZ),(5,Sl eD bu eC)] fun a hS=>?_
 refine ba ?_
 obtain ⟨Be,hE,hF⟩:=h118.freeze (by decide)
 replace hS:=hS.ev hE (c6 kr)
 replace hO:=hO.m2 hE
 replace h114:=h114.m1 hE
 have h120:=hF; clear hE hF
 exact fin T hS hO (fun c=>c) rfl (r:=[.slice ea ay.length dZ,.slice eD bu.length eC]) kr (fun X' hM hC=>⟨(ay,bu),hm,ea,dZ,eD,eC,rfl,h114.m0 hM,h120.m0 hM⟩)
theorem C43 (xV:S63) (Lk:S73) (v:∀ (l_:List ab) (rows:List (List aa)),vx l_ rows->VC43 l_ rows (fun r=>r=cg l_ rows)):S43:=by
 intro w X l_ rows a1 c1 a2 c2   hp h1 h2
 refine (W43 xV Lk w X l_ rows a1 c1 a2 c2   _ (v l_ rows hp) h1 h2).mono ?_
 rintro _ _ _ _ ⟨r,rfl,h⟩
 exact h
theorem W15 (LD:S41) (LC:S42) (LB:S43) (LA:S44) (w0) (X0) (h_:ak) (a1) (c1) (a2) (c2) (Q:(List aa) × Int->Prop) (hm:VC15 h_ Q) (h1:RS aC w0 X0 a1 h_.ae c1) (h2:RS aL w0 X0 a2 h_.al c2) :
  Ret Tryz.prog 15 #[.agg #[.slice a1 h_.ae.length c1,.slice a2 h_.al.length c2]] aM w0 X0 (fun w X' v=>∃ r,Q r/\∃ cQ cN,v=.tuple #[.slice cQ r.1.length cN,.int .i64 r.2]/\RS av w X' cQ r.1 cN):=by
 unfold VC15 at hm
 replace hm:=hm (h1.sm kr)
 replace hm:=hm (h2.sm kr)
 refine enter Tryz.func15 rfl (vals:=[.agg #[.slice a1 h_.ae.length c1,.slice a2 h_.al.length c2]]) kr ?_
 intro Z a hS hO hM
 replace h1:=h1.m0 hM
 replace h2:=h2.m0 hM
 refine rM T hS ⟨[(1,Pt 2 0)],[(2,(25,[Sl a1 h_.ae c1,Sl a2 h_.al c2]))]⟩ fun Z a Pd JY hS hE hr=>?_
 replace hO:=hO.m2 hE
 replace h1:=h1.m1 hE
 replace h2:=h2.m1 hE
 clear hE hr
 refine br ?_
 refine oPe T hS 1 [] [(16,V (.agg #[.slice a1 h_.ae.length c1,.slice a2 h_.al.length c2]))] fun a hS=>?_
 obtain ⟨hq,hm⟩:=hm
 refine op1 (call hS kr kr hb41 kr (fun _ _=>rfl) (LD _ _ h_ a1 c1 a2 c2 hq h1 h2) ?_)
 intro v101 a fH fK hE hp hS
 replace hO:=hO.m2 hE
 replace h1:=h1.m1 hE
 replace h2:=h2.m1 hE
 obtain ⟨ea,dZ,je,jd,hp,h107,h110⟩:=hp
 obtain ⟨ay,hr⟩:∃ r,cm h_=r:=⟨_,rfl⟩
 replace hm:=hm ay hr
 rw [hr] at hp h107 h110
 clear hr
 subst hp
 replace hm:=hm (h107.sm kr)
 replace hm:=hm (h110.sm kr)
 refine ePe T hS [16,17] [(4,Sl ea ay.1 dZ),(5,Sl je ay.2.1 jd),(6,I ay.2.2)] fun a hS=>?_
 refine bh ?_
 refine rPe T hS [] [(22,B (ay.2.2 != 0))] fun a hS=>?_
 refine aI hS (b:=(ay.2.2 != 0)) kr (fun hb=>?_) fun hb=>?_
 ·replace hm:=hm.1 hb
  refine rP T hS ⟨[(2,V (.slice none 0 0)),(3,I ay.2.2)],[]⟩ fun a hS=>?_
  refine ba ?_
  exact fin T hS hO (fun c=>c) rfl (r:=[.slice none 0 0,.int .i64 ay.2.2]) kr (fun X' hM hC=>⟨([],ay.2.2),hm,none,0,rfl,RS.empty _ _ _⟩)
 replace hm:=hm.2 hb
 refine aO ?_
 refine br ?_
 refine oP T hS 3 ⟨[(4,Sl ea ay.1 dZ),(6,I ay.2.2),(25,V (.agg #[.slice a1 h_.ae.length c1,.slice a2 h_.al.length c2])),(26,Sl ea ay.1 dZ),(27,Sl je ay.2.1 jd)],[]⟩ fun a hS=>?_
 obtain ⟨hq,hm⟩:=hm
 refine op1 (call hS kr kr hb42 kr (fun _ _=>rfl) (LC _ _ h_ ay.1 ay.2.1 a1 c1 a2 c2 ea dZ je jd hq h1 h2 h107 h110) ?_)
 intro v111 a Bt wT hE hp hS
 replace hO:=hO.m2 hE
 replace h1:=h1.m1 hE
 replace h2:=h2.m1 hE
 replace h107:=h107.m1 hE
 replace h110:=h110.m1 hE
 obtain ⟨Hg,Ha,hp,h117⟩:=hp
 obtain ⟨dA,hr⟩:∃ r,cG h_ ay.1 ay.2.1=r:=⟨_,rfl⟩
 replace hm:=hm dA hr
 rw [hr] at hp h117
 clear hr
 subst hp
 replace hm:=hm (h117.sm kr)
 refine ePe T hS [25,26,27,28] [(6,I dA.2),(7,Sl Hg dA.1 Ha)] fun a hS=>?_
 refine bh ?_
 refine rPe T hS [] [(32,B (dA.2 != 0))] fun a hS=>?_
 refine aI hS (b:=(dA.2 != 0)) kr (fun hb=>?_) fun hb=>?_
 ·replace hm:=hm.1 hb
  refine rPe T hS [4,6,7,32] [(2,V (.slice none 0 0)),(3,I dA.2)] fun a hS=>?_
  refine ba ?_
  exact fin T hS hO (fun c=>c) rfl (r:=[.slice none 0 0,.int .i64 dA.2]) kr (fun X' hM hC=>⟨([],dA.2),hm,none,0,rfl,RS.empty _ _ _⟩)
 replace hm:=hm.2 hb
 refine aO ?_
 refine br ?_
 refine oPe T hS 2 [4,6,7,32] [(35,Sl ea ay.1 dZ),(36,Sl Hg dA.1 Ha)] fun a hS=>?_
 obtain ⟨hq,hm⟩:=hm
 refine op1 (call hS kr kr hb43 kr (fun _ _=>rfl) (LB _ _ ay.1 dA.1 ea dZ Hg Ha hq h107 h117) ?_)
 intro v118 a xh Dg hE hp hS
 replace hO:=hO.m2 hE
 replace h107:=h107.m1 hE
 replace h117:=h117.m1 hE
 obtain ⟨lG,lD,ja,iY,hp,h124,h127⟩:=hp
 obtain ⟨fR,hr⟩:∃ r,cg ay.1 dA.1=r:=⟨_,rfl⟩
 replace hm:=hm fR hr
 rw [hr] at hp h124 h127
 clear hr
 subst hp
 replace hm:=hm (h124.sm kr)
 replace hm:=hm (h127.sm kr)
 refine ePe T hS [35,36,37] [(8,Sl lG fR.1 lD),(9,Sl ja fR.2 iY)] fun a hS=>?_
 refine br ?_
 refine oPe T hS 3 [9] [(42,I (lN fR.1)),(43,Sl ja fR.2 iY)] fun a hS=>?_
 refine op1 (call hS kr kr hb44 kr (fun _ _=>rfl) (LA _ _ (lN fR.1) fR.2 ja iY h127) ?_)
 intro v128 a KM EN hE hp hS
 replace hO:=hO.m2 hE
 replace h124:=h124.m1 hE
 replace h127:=h127.m1 hE
 obtain ⟨hU,hK,hp,h134⟩:=hp
 obtain ⟨gm,hr⟩:∃ r,di (lN fR.1) fR.2=r:=⟨_,rfl⟩
 replace hm:=hm gm hr
 rw [hr] at hp h134
 clear hr
 subst hp
 replace hm:=hm (h134.sm kr)
 refine ePe T hS [42,43,44] [(10,Sl hU gm.1 hK),(11,B gm.2)] fun a hS=>?_
 refine bh ?_
 refine rPe T hS [11] [(48,B (!gm.2))] fun a hS=>?_
 refine aI hS (b:=(!gm.2)) kr (fun hb=>?_) fun hb=>?_
 ·replace hm:=hm.1 hb
  refine rPe T hS [8,10,48] [(2,V (.slice none 0 0)),(3,I 41)] fun a hS=>?_
  refine ba ?_
  exact fin T hS hO (fun c=>c) rfl (r:=[.slice none 0 0,.int .i64 41]) kr (fun X' hM hC=>⟨([],41),hm,none,0,rfl,RS.empty _ _ _⟩)
 replace hm:=hm.2 hb
 refine aO ?_
 refine br ?_
 refine op1 (lit (E:=56) (col:=1003) (T:=av) (vals:=[]) (ys:=([]:List aa)) T hS kr kr kr kr trivial rfl kr kr kr kr ?_)
 intro b135 a tv wS hE h138 hN hS
 clear hN
 replace hO:=hO.m2 hE
 replace h124:=h124.m1 hE
 replace h134:=h134.m1 hE
 refine ePe T hS [48,49] [(12,Sl (some ⟨b135,0,none⟩) ([]:List aa) 0)] fun a hS=>?_
 refine cb (fun a w=>∃ (Z:Nat->Nat) (X:Nat->Nat) (jI:List aa) (mG:Option Addr) (mE:Nat),VC15_J1 Q jI/\St Tryz.f15.ntmps ⟨[(12,Sl mG jI mE)],[]⟩ Z a w X/\Old w0 X0 w X/\OS av 56 w X 1003 mG jI mE) ?_ ?_
 ·refine rPe T hS [10] [(50,Sl hU gm.1 hK),(51,I (lN gm.1)),(52,I 0)] fun a hS=>?_
  refine aQ ?_
  obtain ⟨I1,μ1,cJ,hm⟩:=hm
  refine cH (σ:=(List aa) × Int) (fun s a w=>∃ Z X rQ rG,I1 s.1 s.2/\St Tryz.f15.ntmps ⟨[(8,Sl lG fR.1 lD),(12,Sl rQ s.1 rG),(50,Sl hU gm.1 hK),(51,I (lN gm.1)),(52,I s.2)],[]⟩ Z a w X/\Old w0 X0 w X/\RS av w X lG fR.1 lD/\OS av 56 w X 1003 rQ s.1 rG/\RS tI w X hU gm.1 hK) (fun s=>μ1 s.1 s.2) (⟨([]:List aa),0⟩) ?_ ?_
  ·exact ⟨Z,_,(some ⟨b135,0,none⟩),0,cJ,hS.sl _,hO,h124,h138,h134⟩
  rintro ⟨mU,gK⟩ a DG ⟨Z,Hj,rQ,rG,hI,hS,hO,h145,h149,h150⟩
  replace hm:=hm mU gK hI
  clear hI cJ
  refine rPe T hS [] [(53,B (decide (gK < (lN gm.1))))] fun a hS=>?_
  refine bh ?_
  refine aI hS (b:=decide (gK < (lN gm.1))) kr (fun hb=>?_) fun hb=>?_
  ·replace hm:=hm.1 hb
   refine aO (bh ?_)
   refine aQ ?_
   refine br ?_
   obtain ⟨hq,hm⟩:=hm
   refine op1 (index (e:=3) (k:=.i64) T hS kr kr kr kr h150 kr kr hq.1 hq.2 ?_)
   intro Nr a h153 hS
   refine op1 (eT T hS kr kr kr h153 rfl kr ?_)
   intro v154 a hv hS
   cases hv
   refine ePe T hS [53,54,55] [(14,I (gi gm.1 gK))] fun a hS=>?_
   refine region ?_
   refine oPe T hS 3 [14] [(56,Sl rQ mU rG),(57,Sl lG fR.1 lD),(58,I (gi gm.1 gK))] fun a hS=>?_
   obtain ⟨hq,hm⟩:=hm
   refine op1 (index (e:=56) (k:=.i64) T hS kr kr kr kr h145 kr kr hq.1 hq.2 ?_)
   intro J7 a h156 hS
   refine op1 (eS T hS kr kr kr h156 kr kr ?_)
   intro v157 a hv hS
   subst hv
   refine op1 (lit (E:=56) (col:=0) (T:=av) (vals:=[.agg #[.int .i64 ((gi fR.1 (gi gm.1 gK)).Oper),.int .i64 ((gi fR.1 (gi gm.1 gK)).Result)]]) (ys:=[gi fR.1 (gi gm.1 gK)]) T hS kr kr kr kr (by exact ⟨rfl,trivial⟩) rfl kr kr kr kr ?_)
   intro b158 a zX EK hE h161 hN hS
   clear hN
   replace hO:=hO.m2 hE
   replace h145:=h145.m1 hE
   replace h149:=h149.m2 hE
   replace h150:=h150.m1 hE
   replace h156:=h156.m1 hE
   replace h161:=h161.rs0
   obtain ⟨hq,hm⟩:=hm
   obtain ⟨news,hN⟩:=h161.src
   refine op1 (append (E:=56) (T:=av) (col:=1003) (xs:=mU) T hS kr kr kr kr h149 hN kr kr kr kr hq ?_)
   intro rO rF a DI EJ hE h164 hS
   clear hq hN
   clear h149
   replace hO:=hO.m2 hE
   replace h145:=h145.m1 hE
   replace h150:=h150.m1 hE
   replace h156:=h156.m1 hE
   replace h161:=h161.m1 hE
   refine ePe T hS [57,58,59,60,61,62] [(12,Sl rO (mU++[gi fR.1 (gi gm.1 gK)]) rF)] fun a hS=>?_
   refine region (ePe T hS [] [(52,I (wR (gK+1)))] fun a hS=>?_)
   exact ⟨⟨mU++[gi fR.1 (gi gm.1 gK)],wR (gK+1)⟩,⟨Z,_,rO,rF,hm.1,hS.sl _,hO,h145,h164,h150⟩,hm.2⟩
  replace hm:=hm.2 hb
  refine cu (by rfl) ?_
  exact ⟨Z,_,mU,rQ,rG,hm,hS.sl _,hO,h149⟩
 rintro a KJ ⟨Z,Hi,jI,mG,mE,hm,hS,hO,h142⟩
 unfold VC15_J1 at hm
 refine rPe T hS [12] [(2,Sl mG jI mE),(3,I 0)] fun a hS=>?_
 refine ba ?_
 obtain ⟨sd,hE,hF⟩:=h142.freeze (by decide)
 replace hS:=hS.ev hE (c6 kr)
 replace hO:=hO.m2 hE
 have h144:=hF; clear hE hF
 exact fin T hS hO (fun c=>c) rfl (r:=[.slice mG jI.length mE,.int .i64 0]) kr (fun X' hM hC=>⟨(jI,0),hm,mG,mE,rfl,h144.m0 hM⟩)
theorem C15 (LD:S41) (LC:S42) (LB:S43) (LA:S44) (v:∀ (h_:ak),gr h_->VC15 h_ (fun r=>r=bV h_)):S15:=by
 intro w X h_ a1 c1 a2 c2   hp h1 h2
 refine (W15 LD LC LB LA w X h_ a1 c1 a2 c2   _ (v h_ hp) h1 h2).mono ?_
 rintro _ _ _ _ ⟨r,rfl,h⟩
 exact h
theorem W9 (Ds:S15) (w0) (X0) (h_:ak) (a1) (c1) (a2) (c2) (Q:Bool × Int->Prop) (hm:VC9 h_ Q) (h1:RS aC w0 X0 a1 h_.ae c1) (h2:RS aL w0 X0 a2 h_.al c2) :
  Ret Tryz.prog 9 #[.agg #[.slice a1 h_.ae.length c1,.slice a2 h_.al.length c2]] aM w0 X0 (fun w X' v=>∃ r,Q r/\v=.tuple #[.bool r.1,.int .i64 r.2]):=by
 unfold VC9 at hm
 replace hm:=hm (h1.sm kr)
 replace hm:=hm (h2.sm kr)
 refine enter Tryz.func9 rfl (vals:=[.agg #[.slice a1 h_.ae.length c1,.slice a2 h_.al.length c2]]) kr ?_
 intro Z a hS hO hM
 replace h1:=h1.m0 hM
 replace h2:=h2.m0 hM
 refine rM T hS ⟨[(1,Pt 2 0)],[(2,(25,[Sl a1 h_.ae c1,Sl a2 h_.al c2]))]⟩ fun Z a F4 Dh hS hE hr=>?_
 replace hO:=hO.m2 hE
 replace h1:=h1.m1 hE
 replace h2:=h2.m1 hE
 clear hE hr
 refine br ?_
 refine oP T hS 1 ⟨[(7,V (.agg #[.slice a1 h_.ae.length c1,.slice a2 h_.al.length c2]))],[]⟩ fun a hS=>?_
 obtain ⟨hq,hm⟩:=hm
 refine op1 (call hS kr kr hb15 kr (fun _ _=>rfl) (Ds _ _ h_ a1 c1 a2 c2 hq h1 h2) ?_)
 intro v101 a fH fK hE hp hS
 replace hO:=hO.m2 hE
 replace h1:=h1.m1 hE
 replace h2:=h2.m1 hE
 obtain ⟨ea,dZ,hp,h107⟩:=hp
 obtain ⟨ay,hr⟩:∃ r,bV h_=r:=⟨_,rfl⟩
 replace hm:=hm ay hr
 rw [hr] at hp h107
 clear hr
 subst hp
 replace hm:=hm (h107.sm kr)
 refine ePe T hS [7,8] [(5,I ay.2)] fun a hS=>?_
 refine bh ?_
 refine rPe T hS [] [(12,B (ay.2 == 41))] fun a hS=>?_
 refine aI hS (b:=(ay.2 == 41)) kr (fun hb=>?_) fun hb=>?_
 ·replace hm:=hm.1 hb
  refine rPe T hS [5,12] [(2,B false),(3,I 0)] fun a hS=>?_
  refine ba ?_
  exact fin T hS hO (fun c=>c) rfl (r:=[.bool false,.int .i64 0]) kr (fun X' hM hC=>⟨(false,0),hm,rfl⟩)
 replace hm:=hm.2 hb
 refine aO ?_
 refine rPe T hS [5,12] [(2,B (ay.2 == 0)),(3,I ay.2)] fun a hS=>?_
 refine ba ?_
 exact fin T hS hO (fun c=>c) rfl (r:=[.bool (ay.2 == 0),.int .i64 ay.2]) kr (fun X' hM hC=>⟨((ay.2 == 0),ay.2),hm,rfl⟩)
theorem C9 (Ds:S15) (v:∀ (h_:ak),gr h_->VC9 h_ (fun r=>r=fe h_)):S9:=by
 intro w X h_ a1 c1 a2 c2   hp h1 h2
 refine (W9 Ds w X h_ a1 c1 a2 c2   _ (v h_ hp) h1 h2).mono ?_
 rintro _ _ _ _ ⟨r,rfl,h⟩
 exact h
theorem W32 (w0) (X0) (i_:Int) (aq:List aa) (ax:List ab) (aP:List Int) (bF:Int) (a1) (c1) (a2) (c2) (a3) (c3) (b1) (i1) (b2) (i2) (b3) (i3) (b4) (i4) (Q:Bool->Prop) (hm:VC32 i_ aq ax aP bF Q) (h1:RS av w0 X0 a1 aq c1) (h2:RS ar w0 X0 a2 ax c2) (h3:RS tI w0 X0 a3 aP c3) (fF:Cell w0 X0 b1 i1 26 [.slice a1 aq.length c1]) (g8:Cell w0 X0 b2 i2 42 [.slice a2 ax.length c2]) (lT:Cell w0 X0 b3 i3 43 [.slice a3 aP.length c3]) (ur:Cell w0 X0 b4 i4 3 [.int .i64 bF]) (hA:dS [i1,i2,i3,i4]) :
  Ret Tryz.prog 32 #[.int .i64 i_,.pointer (some ⟨b1,0,none⟩),.pointer (some ⟨b2,0,none⟩),.pointer (some ⟨b3,0,none⟩),.pointer (some ⟨b4,0,none⟩)] (pR [i1,i2,i3,i4]) w0 X0 (fun w X' v=>∃ r,Q r/\v=.bool r/\Cell w X' b1 i1 26 [.slice a1 aq.length c1]/\Cell w X' b2 i2 42 [.slice a2 ax.length c2]/\Cell w X' b3 i3 43 [.slice a3 aP.length c3]/\Cell w X' b4 i4 3 [.int .i64 bF]):=by
 unfold VC32 at hm
 replace hm:=hm (h1.sm kr)
 replace hm:=hm (h2.sm kr)
 replace hm:=hm (h3.sm kr)
 refine fT Tryz.func32 rfl (dH (zAg1 i1 i2 i3 i4)) (fun id=>(bif Nat.beq id 901 then b1 else (bif Nat.beq id 902 then b2 else (bif Nat.beq id 903 then b3 else (bif Nat.beq id 904 then b4 else 0))))) (args:=[I i_,Pt 901 0,Pt 902 0,Pt 903 0,Pt 904 0]) (bxs:=[(901,(26,[Sl a1 aq c1])),(902,(42,[Sl a2 ax c2])),(903,(43,[Sl a3 aP c3])),(904,(3,[I bF]))]) kr rfl (bq.cons kr (fF.map (bQ 0 hA.1 rfl)) (bq.cons kr (g8.map (bQ 1 hA.1 rfl)) (bq.cons kr (lT.map (bQ 2 hA.1 rfl)) (bq.cons kr (ur.map (bQ 3 hA.1 rfl)) bq.nil)))) (fJ (fun q hq=>(hA.2 q.1 (List.mem_map.2 ⟨q,hq,rfl⟩)).1)) ?_
 intro a hS hO hM
 have hP:Pin [(901,b1),(902,b2),(903,b3),(904,b4)] (fun id=>(bif Nat.beq id 901 then b1 else (bif Nat.beq id 902 then b2 else (bif Nat.beq id 903 then b3 else (bif Nat.beq id 904 then b4 else 0))))):=by intro q hq; simp at hq; rcases hq with rfl | rfl | rfl | rfl <;> rfl
 generalize (fun id=>(bif Nat.beq id 901 then b1 else (bif Nat.beq id 902 then b2 else (bif Nat.beq id 903 then b3 else (bif Nat.beq id 904 then b4 else 0)))))=Z at hS hP
 clear fF g8 lT ur
 replace h1:=h1.m0 hM
 replace h2:=h2.m0 hM
 replace h3:=h3.m0 hM
 refine rPe T hS [] [] fun a hS=>?_
 refine br ?_
 refine oPe T hS 2 [0,1] [(8,Sl a1 aq c1),(9,I i_)] fun a hS=>?_
 obtain ⟨hq,hm⟩:=hm
 refine op1 (index (e:=56) (k:=.i64) T hS kr kr kr kr h1 kr kr hq.1 hq.2 ?_)
 intro Kd a h102 hS
 refine op1 (fD (off:=0) (fsz:=1) (ft:=3) (TF:=tI) (y:=(gi aq i_).Oper) T hS kr kr kr h102 kr kr kr (fun cs h=>fP h) ?_)
 intro uP a h104 hS
 refine op1 (eT T hS kr kr kr h104 rfl kr ?_)
 intro v105 a hv hS
 cases hv
 refine ePe T hS [8,9,10,11,12] [(7,I ((gi aq i_).Oper))] fun a hS=>?_
 refine dB [901,902,903,904] mixed hS ?_
 intro n6 n2 hS hE hD hH
 replace hO:=hO.m2 hE
 replace h1:=h1.m1 hE
 replace h2:=h2.m1 hE
 replace h3:=h3.m1 hE
 refine tke T [0,1,2] [901,902,903,904] hS hH #[true,true,true,false,false,false,false,false,false,false,false,false,false,false,false,false,false] 14 [] [(15,B (decide (((gi aq i_).Oper) < 0)))] fun a hS=>?_
 refine jX (tc:=15) (b:=decide (((gi aq i_).Oper) < 0)) (f:=fun c=>⟨[(3,Pt 903 0),(4,Pt 904 0),(7,I ((gi aq i_).Oper)),(20,B (c || (decide (((gi aq i_).Oper)≥(lN ax)))))],[(901,(26,[Sl a1 aq c1])),(902,(42,[Sl a2 ax c2])),(903,(43,[Sl a3 aP c3])),(904,(3,[I bF]))]⟩) T [3,4,5,6,7] [901,902,903,904] [3,4,7,20] hS kr kr kr kr hH (listed':=#[true,true,true,true,true,true,true,true,false,false,false,false,false,false,false,false,false]) (fuel:=9) kr kr (by rfl) ?_
 intro a hS
 refine tke T [8] [901,902,903,904] hS hH #[true,true,true,true,true,true,true,true,true,false,false,false,false,false,false,false,false] 8 [20] [(21,B ((decide (((gi aq i_).Oper) < 0)) || (decide (((gi aq i_).Oper)≥(lN ax)))))] fun a hS=>?_
 rcases bft ((decide (((gi aq i_).Oper) < 0)) || (decide (((gi aq i_).Oper)≥(lN ax)))) with hb | hb
 ·replace hS:=hS.lit (t:=21) kr hb
  replace hm:=hm.1 hb
  refine tke T [9,10,13,11,12,14,15,16] [901,902,903,904] hS hH (tts 17) 0 [3,4,7,21] [(6,B true)] fun a hS=>?_
  refine aY kr ?_
  replace hS:=hS.sle [] []
  refine ba ?_
  exact g9 T hS hO (fun c h=>bZ kr h) (fun c h=>b0 (l:=(zAg1 i1 i2 i3 i4)) h) (bT (zAg1 i1 i2 i3 i4)) rfl (r:=[.bool true]) kr (fun X' hM hC=>⟨true,hm,rfl,((hS.cell (id:=901) (t:=26) (cs:=[Sl a1 aq c1]) kr).out (f:=(bT (zAg1 i1 i2 i3 i4))) hC kr kr (hP.at 0 rfl)),((hS.cell (id:=902) (t:=42) (cs:=[Sl a2 ax c2]) kr).out (f:=(bT (zAg1 i1 i2 i3 i4))) hC kr kr (hP.at 1 rfl)),((hS.cell (id:=903) (t:=43) (cs:=[Sl a3 aP c3]) kr).out (f:=(bT (zAg1 i1 i2 i3 i4))) hC kr kr (hP.at 2 rfl)),((hS.cell (id:=904) (t:=3) (cs:=[I bF]) kr).out (f:=(bT (zAg1 i1 i2 i3 i4))) hC kr kr (hP.at 3 rfl))⟩)
 replace hS:=hS.lit (t:=21) kr hb
 replace hm:=hm.2 hb
 refine tke T [9,10,13] [901,902,903,904] hS hH #[true,true,true,true,true,true,true,true,true,true,true,false,false,true,false,false,false] 5 [3,4,7] [(22,Sl a3 aP c3),(23,I ((gi aq i_).Oper)),(26,I bF)] fun a hS=>?_
 obtain ⟨hq,hm⟩:=hm
 refine dg (e:=3) (k:=.i64) T 11 hS kr kr kr (by rfl) kr hH kr kr h3 kr kr hq.1 hq.2 ?_
 intro NB a h109 hS
 have Jg:=h109.here
 refine dQ T 12 hS kr kr kr (by rfl) kr hH kr h109 Jg rfl kr ?_
 intro v110 a hv hS
 cases hv
 refine tke T [14,15,16] [901,902,903,904] hS hH (tts 17) 0 [21,22,23,26,24,25] [(6,B ((gi aP ((gi aq i_).Oper)) == bF))] fun a hS=>?_
 refine aY kr ?_
 replace hS:=hS.sle [] []
 refine ba ?_
 exact g9 T hS hO (fun c h=>bZ kr h) (fun c h=>b0 (l:=(zAg1 i1 i2 i3 i4)) h) (bT (zAg1 i1 i2 i3 i4)) rfl (r:=[.bool ((gi aP ((gi aq i_).Oper)) == bF)]) kr (fun X' hM hC=>⟨((gi aP ((gi aq i_).Oper)) == bF),hm,rfl,((hS.cell (id:=901) (t:=26) (cs:=[Sl a1 aq c1]) kr).out (f:=(bT (zAg1 i1 i2 i3 i4))) hC kr kr (hP.at 0 rfl)),((hS.cell (id:=902) (t:=42) (cs:=[Sl a2 ax c2]) kr).out (f:=(bT (zAg1 i1 i2 i3 i4))) hC kr kr (hP.at 1 rfl)),((hS.cell (id:=903) (t:=43) (cs:=[Sl a3 aP c3]) kr).out (f:=(bT (zAg1 i1 i2 i3 i4))) hC kr kr (hP.at 2 rfl)),((hS.cell (id:=904) (t:=3) (cs:=[I bF]) kr).out (f:=(bT (zAg1 i1 i2 i3 i4))) hC kr kr (hP.at 3 rfl))⟩)
theorem C32 (v:∀ (i_:Int) (aq:List aa) (ax:List ab) (aP:List Int) (bF:Int),yW i_ aq ax aP bF->VC32 i_ aq ax aP bF (fun r=>r=dI i_ aq ax aP bF)):S32:=by
 intro w X i_ aq ax aP bF a1 c1 a2 c2 a3 c3  b1 i1 b2 i2 b3 i3 b4 i4 hp h1 h2 h3 fF g8 lT ur hA
 refine (W32 w X i_ aq ax aP bF a1 c1 a2 c2 a3 c3  b1 i1 b2 i2 b3 i3 b4 i4 _ (v i_ aq ax aP bF hp) h1 h2 h3 fF g8 lT ur hA).mono ?_
 rintro _ _ _ _ ⟨r,rfl,h⟩
 exact h
theorem W31_32 (LI:S32) (w0) (X0) (l_:List aa) (aq:List aa) (ax:List ab) (aP:List Int) (bF:Int) (a1) (c1) (a2) (c2) (a3) (c3) (a4) (c4) (b1) (i1) (b2) (i2) (b3) (i3) (b4) (i4) (Q:(List aa)->Prop) (hm:VC31_32 l_ aq ax aP bF Q) (h1:RS av w0 X0 a1 l_ c1) (h2:RS av w0 X0 a2 aq c2) (h3:RS ar w0 X0 a3 ax c3) (h4:RS tI w0 X0 a4 aP c4) (fF:Cell w0 X0 b1 i1 26 [.slice a2 aq.length c2]) (g8:Cell w0 X0 b2 i2 42 [.slice a3 ax.length c3]) (lT:Cell w0 X0 b3 i3 43 [.slice a4 aP.length c4]) (ur:Cell w0 X0 b4 i4 3 [.int .i64 bF]) (hA:dS [i1,i2,i3,i4]) :
  Ret Tryz.prog 31 #[.slice a1 l_.length c1,.func (.func 32) #[] #[.pointer (some ⟨b1,0,none⟩),.pointer (some ⟨b2,0,none⟩),.pointer (some ⟨b3,0,none⟩),.pointer (some ⟨b4,0,none⟩)]] (pR [i1,i2,i3,i4]) w0 X0 (fun w X' v=>∃ r,Q r/\∃ cQ cN,v=.slice cQ r.length cN/\RS av w X' cQ r cN/\Cell w X' b1 i1 26 [.slice a2 aq.length c2]/\Cell w X' b2 i2 42 [.slice a3 ax.length c3]/\Cell w X' b3 i3 43 [.slice a4 aP.length c4]/\Cell w X' b4 i4 3 [.int .i64 bF]):=by
 unfold VC31_32 at hm
 replace hm:=hm (h1.sm kr)
 replace hm:=hm (h2.sm kr)
 replace hm:=hm (h3.sm kr)
 replace hm:=hm (h4.sm kr)
 refine fT Tryz.func31 rfl (dH (zAg1 i1 i2 i3 i4)) (fun id=>(bif Nat.beq id 901 then b1 else (bif Nat.beq id 902 then b2 else (bif Nat.beq id 903 then b3 else (bif Nat.beq id 904 then b4 else 0))))) (args:=[Sl a1 l_ c1,.f (.func 32) [] [.p 901 0,.p 902 0,.p 903 0,.p 904 0]]) (bxs:=[(901,(26,[Sl a2 aq c2])),(902,(42,[Sl a3 ax c3])),(903,(43,[Sl a4 aP c4])),(904,(3,[I bF]))]) kr rfl (bq.cons kr (fF.map (bQ 0 hA.1 rfl)) (bq.cons kr (g8.map (bQ 1 hA.1 rfl)) (bq.cons kr (lT.map (bQ 2 hA.1 rfl)) (bq.cons kr (ur.map (bQ 3 hA.1 rfl)) bq.nil)))) (fJ (fun q hq=>(hA.2 q.1 (List.mem_map.2 ⟨q,hq,rfl⟩)).1)) ?_
 intro a hS hO hM
 have hP:Pin [(901,b1),(902,b2),(903,b3),(904,b4)] (fun id=>(bif Nat.beq id 901 then b1 else (bif Nat.beq id 902 then b2 else (bif Nat.beq id 903 then b3 else (bif Nat.beq id 904 then b4 else 0))))):=by intro q hq; simp at hq; rcases hq with rfl | rfl | rfl | rfl <;> rfl
 generalize (fun id=>(bif Nat.beq id 901 then b1 else (bif Nat.beq id 902 then b2 else (bif Nat.beq id 903 then b3 else (bif Nat.beq id 904 then b4 else 0)))))=Z at hS hP
 clear fF g8 lT ur
 replace h1:=h1.m0 hM
 replace h2:=h2.m0 hM
 replace h3:=h3.m0 hM
 replace h4:=h4.m0 hM
 refine rPe T hS [] [] fun a hS=>?_
 refine rPe T hS [] [(5,V (.slice none 0 0))] fun a hS=>?_
 refine cb (fun a w=>∃ (Z:Nat->Nat) (X:Nat->Nat) (bD:List aa) (dw:Option Addr) (dv:Nat),VC31_32_J1 Q bD/\St Tryz.f31.ntmps ⟨[(5,Sl dw bD dv)],[(901,(26,[Sl a2 aq c2])),(902,(42,[Sl a3 ax c3])),(903,(43,[Sl a4 aP c4])),(904,(3,[I bF]))]⟩ Z a w X/\gq (dH (zAg1 i1 i2 i3 i4)) w0 X0 w X/\Pin [(901,b1),(902,b2),(903,b3),(904,b4)] Z/\OS av 56 w X 1005 dw bD dv/\RS av w X a2 aq c2/\RS ar w X a3 ax c3/\RS tI w X a4 aP c4) ?_ ?_
 ·refine rPe T hS [0] [(8,Sl a1 l_ c1),(9,I (lN l_)),(10,I 0)] fun a hS=>?_
  refine aQ ?_
  obtain ⟨I1,μ1,cJ,hm⟩:=hm
  refine cH (σ:=(List aa) × Int) (fun s a w=>∃ Z X jb iZ,I1 s.1 s.2/\St Tryz.f31.ntmps ⟨[(1,.f (.func 32) [] [.p 901 0,.p 902 0,.p 903 0,.p 904 0]),(5,Sl jb s.1 iZ),(8,Sl a1 l_ c1),(9,I (lN l_)),(10,I s.2)],[(901,(26,[Sl a2 aq c2])),(902,(42,[Sl a3 ax c3])),(903,(43,[Sl a4 aP c4])),(904,(3,[I bF]))]⟩ Z a w X/\gq (dH (zAg1 i1 i2 i3 i4)) w0 X0 w X/\Pin [(901,b1),(902,b2),(903,b3),(904,b4)] Z/\OS av 56 w X 1005 jb s.1 iZ/\RS av w X a1 l_ c1/\RS av w X a2 aq c2/\RS ar w X a3 ax c3/\RS tI w X a4 aP c4) (fun s=>μ1 s.1 s.2) (⟨[],0⟩) ?_ ?_
  ·exact ⟨Z,_,none,0,cJ,hS.sl _,hO,hP,(OS.nil _ _ _ _ _),h1,h2,h3,h4⟩
  rintro ⟨bK,bu⟩ a H0 ⟨Z,J2,jb,iZ,hI,hS,hO,hP,h113,h114,h116,h117,h118⟩
  replace hm:=hm bK bu hI
  clear hI cJ
  refine rPe T hS [] [(11,B (decide (bu < (lN l_))))] fun a hS=>?_
  refine bh ?_
  refine aI hS (b:=decide (bu < (lN l_))) kr (fun hb=>?_) fun hb=>?_
  ·replace hm:=hm.1 hb
   refine aO ?_
   refine cb (fun a w=>∃ (Z:Nat->Nat) (X:Nat->Nat) (bN:List aa) (EH:Option Addr) (Ez:Nat),VC31_32_J2 I1 μ1 bK bu bN/\St Tryz.f31.ntmps ⟨[(1,.f (.func 32) [] [.p 901 0,.p 902 0,.p 903 0,.p 904 0]),(5,Sl EH bN Ez),(8,Sl a1 l_ c1),(9,I (lN l_)),(10,I bu)],[(901,(26,[Sl a2 aq c2])),(902,(42,[Sl a3 ax c3])),(903,(43,[Sl a4 aP c4])),(904,(3,[I bF]))]⟩ Z a w X/\gq (dH (zAg1 i1 i2 i3 i4)) w0 X0 w X/\Pin [(901,b1),(902,b2),(903,b3),(904,b4)] Z/\OS av 56 w X 1005 EH bN Ez/\RS av w X a1 l_ c1/\RS av w X a2 aq c2/\RS ar w X a3 ax c3/\RS tI w X a4 aP c4) ?_ ?_
   ·refine aQ ?_
    refine br ?_
    refine oPe T hS 1 [11] [(12,I bu)] fun a hS=>?_
    obtain ⟨hq,hm⟩:=hm
    refine op1 (index (e:=56) (k:=.i64) T hS kr kr kr kr h114 kr kr hq.1 hq.2 ?_)
    intro Nw a h128 hS
    refine op1 (eS T hS kr kr kr h128 kr kr ?_)
    intro v129 a hv hS
    subst hv
    refine eM T hS ⟨[(1,.f (.func 32) [] [.p 901 0,.p 902 0,.p 903 0,.p 904 0]),(5,Sl jb bK iZ),(6,I bu),(7,Pt 8 0),(8,Sl a1 l_ c1),(9,I (lN l_)),(10,I bu)],[(8,(56,(cK (gi l_ bu)))),(901,(26,[Sl a2 aq c2])),(902,(42,[Sl a3 ax c3])),(903,(43,[Sl a4 aP c4])),(904,(3,[I bF]))]⟩ fun Z a uU yl hS hE hr=>?_
    replace hO:=hO.m2 hE
    replace h113:=h113.m2 hE
    replace h114:=h114.m1 hE
    replace h116:=h116.m1 hE
    replace h117:=h117.m1 hE
    replace h118:=h118.m1 hE
    replace hP:=hP.mv hr kr
    clear hE hr
    refine br ?_
    refine oPe T hS 2 [6] [(15,.f (.func 32) [] [.p 901 0,.p 902 0,.p 903 0,.p 904 0]),(16,I bu)] fun a hS=>?_
    obtain ⟨hq,hm⟩:=hm
    refine op1 (ko (fi:=[]) (cp:=[.p 901 0,.p 902 0,.p 903 0,.p 904 0]) hS kr kr hb32 kr kr (LI _ _ bu aq ax aP bF a2 c2 a3 c3 a4 c4 (Z 901) 901 (Z 902) 902 (Z 903) 903 (Z 904) 904 hq h116 h117 h118 (hS.cell (id:=901) (t:=26) (cs:=[Sl a2 aq c2]) kr) (hS.cell (id:=902) (t:=42) (cs:=[Sl a3 ax c3]) kr) (hS.cell (id:=903) (t:=43) (cs:=[Sl a4 aP c4]) kr) (hS.cell (id:=904) (t:=3) (cs:=[I bF]) kr) ⟨by decide,by decide⟩) ?_)
    intro v130 a r7 rS hE hp hS
    replace hO:=hO.m2 hE
    replace h113:=h113.m2 hE
    replace h114:=h114.m1 hE
    replace h116:=h116.m1 hE
    replace h117:=h117.m1 hE
    replace h118:=h118.m1 hE
    obtain ⟨hp,Fs,Fq,Fp,vM⟩:=hp
    obtain ⟨jN,hr⟩:∃ r,dI bu aq ax aP bF=r:=⟨_,rfl⟩
    replace hm:=hm jN hr
    rw [hr] at hp
    clear hr
    subst hp
    replace hS:=hS.cI (id:=901) (t:=26) (cs:=[Sl a2 aq c2]) kr Fs
    replace hS:=hS.cI (id:=902) (t:=42) (cs:=[Sl a3 ax c3]) kr Fq
    replace hS:=hS.cI (id:=903) (t:=43) (cs:=[Sl a4 aP c4]) kr Fp
    replace hS:=hS.cI (id:=904) (t:=3) (cs:=[I bF]) kr vM
    clear Fs Fq Fp vM
    refine iy ?_
    refine aI hS (b:=jN) kr (fun hb=>?_) fun hb=>?_
    ·replace hm:=hm.1 hb
     refine region ?_
     refine oP T hS 2 ⟨[(1,.f (.func 32) [] [.p 901 0,.p 902 0,.p 903 0,.p 904 0]),(5,Sl jb bK iZ),(8,Sl a1 l_ c1),(9,I (lN l_)),(10,I bu),(18,Sl jb bK iZ),(19,V (.agg #[.int .i64 ((gi l_ bu).Oper),.int .i64 ((gi l_ bu).Result)]))],[(901,(26,[Sl a2 aq c2])),(902,(42,[Sl a3 ax c3])),(903,(43,[Sl a4 aP c4])),(904,(3,[I bF]))]⟩ fun a hS=>?_
     refine op1 (lit (E:=56) (col:=0) (T:=av) (vals:=[.agg #[.int .i64 ((gi l_ bu).Oper),.int .i64 ((gi l_ bu).Result)]]) (ys:=[(gi l_ bu)]) T hS kr kr kr kr (by exact ⟨rfl,trivial⟩) rfl kr kr kr kr ?_)
     intro b138 a tu wQ hE h141 hN hS
     clear hN
     replace hO:=hO.m2 hE
     replace h113:=h113.m2 hE
     replace h114:=h114.m1 hE
     replace h116:=h116.m1 hE
     replace h117:=h117.m1 hE
     replace h118:=h118.m1 hE
     replace h141:=h141.rs0
     obtain ⟨hq,hm⟩:=hm
     obtain ⟨news,hN⟩:=h141.src
     refine op1 (append (E:=56) (T:=av) (col:=1005) (xs:=bK) T hS kr kr kr kr h113 hN kr kr kr kr hq ?_)
     intro wN wC a r6 sd hE h144 hS
     clear hq hN
     clear h113
     replace hO:=hO.m2 hE
     replace h114:=h114.m1 hE
     replace h116:=h116.m1 hE
     replace h117:=h117.m1 hE
     replace h118:=h118.m1 hE
     replace h141:=h141.m1 hE
     refine ePe T hS [19,20,21] [(5,Sl wN (bK++[(gi l_ bu)]) wC)] fun a hS=>?_
     exact ⟨Z,_,bK++[(gi l_ bu)],wN,wC,hm,hS.sl _,hO,hP,h144,h114,h116,h117,h118⟩
    replace hm:=hm.2 hb
    refine aO ?_
    exact ⟨Z,_,bK,jb,iZ,hm,hS.sl _,hO,hP,h113,h114,h116,h117,h118⟩
   rintro a DK ⟨Z,A9,bN,EH,Ez,hm,hS,hO,hP,h122,h123,h124,h125,h126⟩
   unfold VC31_32_J2 at hm
   refine region (ePe T hS [] [(10,I (wR (bu+1)))] fun a hS=>?_)
   exact ⟨⟨bN,wR (bu+1)⟩,⟨Z,_,EH,Ez,hm.1,hS.sl _,hO,hP,h122,h123,h124,h125,h126⟩,hm.2⟩
  replace hm:=hm.2 hb
  refine cu (by rfl) ?_
  exact ⟨Z,_,bK,jb,iZ,hm,hS.sl _,hO,hP,h113,h116,h117,h118⟩
 rintro a tt ⟨Z,J1,bD,dw,dv,hm,hS,hO,hP,h104,h105,h106,h107⟩
 unfold VC31_32_J1 at hm
 refine rPe T hS [5] [(4,Sl dw bD dv)] fun a hS=>?_
 refine ba ?_
 obtain ⟨pC,hE,hF⟩:=h104.freeze (by decide)
 replace hS:=hS.ev hE (c6 kr)
 replace hO:=hO.m2 hE
 replace h105:=h105.m1 hE
 replace h106:=h106.m1 hE
 replace h107:=h107.m1 hE
 have h109:=hF; clear hE hF
 exact g9 T hS hO (fun c h=>bZ kr h) (fun c h=>b0 (l:=(zAg1 i1 i2 i3 i4)) h) (bT (zAg1 i1 i2 i3 i4)) rfl (r:=[.slice dw bD.length dv]) kr (fun X' hM hC=>⟨bD,hm,dw,dv,rfl,h109.m0 hM,((hS.cell (id:=901) (t:=26) (cs:=[Sl a2 aq c2]) kr).out (f:=(bT (zAg1 i1 i2 i3 i4))) hC kr kr (hP.at 0 rfl)),((hS.cell (id:=902) (t:=42) (cs:=[Sl a3 ax c3]) kr).out (f:=(bT (zAg1 i1 i2 i3 i4))) hC kr kr (hP.at 1 rfl)),((hS.cell (id:=903) (t:=43) (cs:=[Sl a4 aP c4]) kr).out (f:=(bT (zAg1 i1 i2 i3 i4))) hC kr kr (hP.at 2 rfl)),((hS.cell (id:=904) (t:=3) (cs:=[I bF]) kr).out (f:=(bT (zAg1 i1 i2 i3 i4))) hC kr kr (hP.at 3 rfl))⟩)
theorem C31_32 (LI:S32) (v:∀ (l_:List aa) (aq:List aa) (ax:List ab) (aP:List Int) (bF:Int),yV l_ aq ax aP bF->VC31_32 l_ aq ax aP bF (fun r=>r=bR l_ aq ax aP bF)):S31_32:=by
 intro w X l_ aq ax aP bF a1 c1 a2 c2 a3 c3 a4 c4  b1 i1 b2 i2 b3 i3 b4 i4 hp h1 h2 h3 h4 fF g8 lT ur hA
 refine (W31_32 LI w X l_ aq ax aP bF a1 c1 a2 c2 a3 c3 a4 c4  b1 i1 b2 i2 b3 i3 b4 i4 _ (v l_ aq ax aP bF hp) h1 h2 h3 h4 fF g8 lT ur hA).mono ?_
 rintro _ _ _ _ ⟨r,rfl,h⟩
 exact h
theorem W12 (sb:S23) (Cg:S24) (xY:S31_32) (Gy:S33) (Gx:S34) (Gw:S35) (w0) (X0) (h_:ak) (aj:List aa) (a1) (c1) (a2) (c2) (a3) (c3) (Q:Bool->Prop) (hm:VC12 h_ aj Q) (h1:RS aC w0 X0 a1 h_.ae c1) (h2:RS aL w0 X0 a2 h_.al c2) (h3:RS av w0 X0 a3 aj c3) :
  Ret Tryz.prog 12 #[.agg #[.slice a1 h_.ae.length c1,.slice a2 h_.al.length c2],.slice a3 aj.length c3] aM w0 X0 (fun w X' v=>∃ r,Q r/\v=.bool r):=by
 unfold VC12 at hm
 replace hm:=hm (h1.sm kr)
 replace hm:=hm (h2.sm kr)
 replace hm:=hm (h3.sm kr)
 refine enter Tryz.func12 rfl (vals:=[.agg #[.slice a1 h_.ae.length c1,.slice a2 h_.al.length c2],.slice a3 aj.length c3]) kr ?_
 intro Z a hS hO hM
 replace h1:=h1.m0 hM
 replace h2:=h2.m0 hM
 replace h3:=h3.m0 hM
 refine rM T hS ⟨[(2,Pt 3 0),(3,Pt 4 0)],[(3,(25,[Sl a1 h_.ae c1,Sl a2 h_.al c2])),(4,(26,[Sl a3 aj c3]))]⟩ fun Z a DI EJ hS hE hr=>?_
 replace hO:=hO.m2 hE
 replace h1:=h1.m1 hE
 replace h2:=h2.m1 hE
 replace h3:=h3.m1 hE
 clear hE hr
 refine bh ?_
 refine br ?_
 refine oPe T hS 1 [] [(16,V (.agg #[.slice a1 h_.ae.length c1,.slice a2 h_.al.length c2]))] fun a hS=>?_
 obtain ⟨hq,hm⟩:=hm
 refine op1 (call hS kr kr hb23 kr (fun _ _=>rfl) (sb _ _ h_ a1 c1 a2 c2 hq h1 h2) ?_)
 intro v101 a fH fK hE hp hS
 replace hO:=hO.m2 hE
 replace h1:=h1.m1 hE
 replace h2:=h2.m1 hE
 replace h3:=h3.m1 hE
 obtain ⟨ay,hr⟩:∃ r,aD h_=r:=⟨_,rfl⟩
 replace hm:=hm ay hr
 rw [hr] at hp
 clear hr
 subst hp
 refine ePe T hS [16,17] [(6,I ay.2)] fun a hS=>?_
 refine rPe T hS [6] [(21,B (ay.2 != 0))] fun a hS=>?_
 refine aI hS (b:=(ay.2 != 0)) kr (fun hb=>?_) fun hb=>?_
 ·replace hm:=hm.1 hb
  refine rP T hS ⟨[(4,B false)],[]⟩ fun a hS=>?_
  refine ba ?_
  exact fin T hS hO (fun c=>c) rfl (r:=[.bool false]) kr (fun X' hM hC=>⟨false,hm,rfl⟩)
 replace hm:=hm.2 hb
 refine aO ?_
 refine br ?_
 refine oPe T hS 1 [21] [(23,V (.agg #[.slice a1 h_.ae.length c1,.slice a2 h_.al.length c2]))] fun a hS=>?_
 obtain ⟨hq,hm⟩:=hm
 refine op1 (call hS kr kr hb24 kr (fun _ _=>rfl) (Cg _ _ h_ a1 c1 a2 c2 hq h1 h2) ?_)
 intro v105 a n6 n2 hE hp hS
 replace hO:=hO.m2 hE
 replace h1:=h1.m1 hE
 replace h2:=h2.m1 hE
 replace h3:=h3.m1 hE
 obtain ⟨cA,cz,eO,eN,hp,h111,h114⟩:=hp
 obtain ⟨bb,hr⟩:∃ r,cY h_=r:=⟨_,rfl⟩
 replace hm:=hm bb hr
 rw [hr] at hp h111 h114
 clear hr
 subst hp
 replace hm:=hm (h111.sm kr)
 replace hm:=hm (h114.sm kr)
 refine eM T hS ⟨[(2,Pt 3 0),(3,Pt 4 0),(7,Pt 8 0),(8,Pt 9 0)],[(3,(25,[Sl a1 h_.ae c1,Sl a2 h_.al c2])),(4,(26,[Sl a3 aj c3])),(8,(42,[Sl cA bb.1 cz])),(9,(43,[Sl eO bb.2 eN]))]⟩ fun Z a Bp Db hS hE hr=>?_
 replace hO:=hO.m2 hE
 replace h1:=h1.m1 hE
 replace h2:=h2.m1 hE
 replace h3:=h3.m1 hE
 replace h111:=h111.m1 hE
 replace h114:=h114.m1 hE
 clear hE hr
 refine cb (fun a w=>∃ Z X,VC12_J1 aj Q bb/\St Tryz.f12.ntmps ⟨[(3,Pt 4 0),(7,Pt 8 0)],[(4,(26,[Sl a3 aj c3])),(8,(42,[Sl cA bb.1 cz]))]⟩ Z a w X/\Old w0 X0 w X/\RS av w X a3 aj c3/\RS ar w X cA bb.1 cz) ?_ ?_
 ·refine rP T hS ⟨[(3,Pt 4 0),(7,Pt 8 0),(8,Pt 9 0),(28,Sl a1 h_.ae c1),(29,I (lN h_.ae)),(30,I 0)],[(4,(26,[Sl a3 aj c3])),(8,(42,[Sl cA bb.1 cz])),(9,(43,[Sl eO bb.2 eN]))]⟩ fun a hS=>?_
  refine aQ ?_
  obtain ⟨I1,μ1,cJ,hm⟩:=hm
  refine cH (σ:=Int) (fun s a w=>∃ Z X,I1 s/\St Tryz.f12.ntmps ⟨[(3,Pt 4 0),(7,Pt 8 0),(8,Pt 9 0),(28,Sl a1 h_.ae c1),(29,I (lN h_.ae)),(30,I s)],[(4,(26,[Sl a3 aj c3])),(8,(42,[Sl cA bb.1 cz])),(9,(43,[Sl eO bb.2 eN]))]⟩ Z a w X/\Old w0 X0 w X/\RS aC w X a1 h_.ae c1/\RS av w X a3 aj c3/\RS ar w X cA bb.1 cz/\RS tI w X eO bb.2 eN) (fun s=>μ1 s) (0) ?_ ?_
  ·exact ⟨Z,_,cJ,hS.sl _,hO,h1,h3,h111,h114⟩
  rintro kG a zY ⟨Z,Dc,hI,hS,hO,h128,h130,h131,h132⟩
  replace hm:=hm kG hI
  clear hI cJ
  refine rPe T hS [] [(31,B (decide (kG < (lN h_.ae))))] fun a hS=>?_
  refine bh ?_
  refine aI hS (b:=decide (kG < (lN h_.ae))) kr (fun hb=>?_) fun hb=>?_
  ·replace hm:=hm.1 hb
   refine aO (bh ?_)
   refine aQ ?_
   refine br ?_
   refine oPe T hS 1 [31] [(32,I kG)] fun a hS=>?_
   obtain ⟨hq,hm⟩:=hm
   refine op1 (index (e:=48) (k:=.i64) T hS kr kr kr kr h128 kr kr hq.1 hq.2 ?_)
   intro Nt a h134 hS
   refine op1 (eS T hS kr kr kr h134 kr kr ?_)
   intro v135 a hv hS
   obtain ⟨nZ,nV,hv,h138⟩:=hv
   subst hv
   replace hm:=hm (h138.sm kr)
   refine eM T hS ⟨[(3,Pt 4 0),(7,Pt 8 0),(8,Pt 9 0),(9,Pt 10 0),(10,Pt 11 0),(28,Sl a1 h_.ae c1),(29,I (lN h_.ae)),(30,I kG)],[(4,(26,[Sl a3 aj c3])),(8,(42,[Sl cA bb.1 cz])),(9,(43,[Sl eO bb.2 eN])),(10,(3,[I kG])),(11,(48,(cO (gi h_.ae kG) nZ nV)))]⟩ fun Z a tt yj hS hE hr=>?_
   replace hO:=hO.m2 hE
   replace h128:=h128.m1 hE
   replace h130:=h130.m1 hE
   replace h131:=h131.m1 hE
   replace h132:=h132.m1 hE
   replace h138:=h138.m1 hE
   clear hE hr
   refine br ?_
   refine oPe T hS 2 [9] [(35,Sl a3 aj c3),(36,.f (.func 32) [] [.p 4 0,.p 8 0,.p 9 0,.p 10 0])] fun a hS=>?_
   obtain ⟨hq,hm⟩:=hm
   refine op1 (l9 hS kr kr hb31 kr (xY _ _ aj aj bb.1 bb.2 kG a3 c3 a3 c3 cA cz eO eN (Z 4) 4 (Z 8) 8 (Z 9) 9 (Z 10) 10 hq h130 h130 h131 h132 (hS.cell (id:=4) (t:=26) (cs:=[Sl a3 aj c3]) kr) (hS.cell (id:=8) (t:=42) (cs:=[Sl cA bb.1 cz]) kr) (hS.cell (id:=9) (t:=43) (cs:=[Sl eO bb.2 eN]) kr) (hS.cell (id:=10) (t:=3) (cs:=[I kG]) kr) ⟨by decide,by decide⟩) ?_)
   intro v139 a zZ Bc hE hp hS
   replace hO:=hO.m2 hE
   replace h128:=h128.m1 hE
   replace h130:=h130.m1 hE
   replace h131:=h131.m1 hE
   replace h132:=h132.m1 hE
   replace h138:=h138.m1 hE
   obtain ⟨gG,gF,hp,h145,vL,s5,Fj,Fi⟩:=hp
   obtain ⟨b9,hr⟩:∃ r,bR aj aj bb.1 bb.2 kG=r:=⟨_,rfl⟩
   replace hm:=hm b9 hr
   rw [hr] at hp h145
   clear hr
   subst hp
   replace hm:=hm (h145.sm kr)
   replace hS:=hS.cI (id:=4) (t:=26) (cs:=[Sl a3 aj c3]) kr vL
   replace hS:=hS.cI (id:=8) (t:=42) (cs:=[Sl cA bb.1 cz]) kr s5
   replace hS:=hS.cI (id:=9) (t:=43) (cs:=[Sl eO bb.2 eN]) kr Fj
   replace hS:=hS.cI (id:=10) (t:=3) (cs:=[I kG]) kr Fi
   clear vL s5 Fj Fi
   refine eP T hS ⟨[(3,Pt 4 0),(7,Pt 8 0),(8,Pt 9 0),(10,Pt 11 0),(11,Sl gG b9 gF),(28,Sl a1 h_.ae c1),(29,I (lN h_.ae)),(30,I kG)],[(4,(26,[Sl a3 aj c3])),(8,(42,[Sl cA bb.1 cz])),(9,(43,[Sl eO bb.2 eN])),(11,(48,(cO (gi h_.ae kG) nZ nV)))]⟩ fun a hS=>?_
   refine br ?_
   refine oP T hS 3 ⟨[(3,Pt 4 0),(7,Pt 8 0),(8,Pt 9 0),(28,Sl a1 h_.ae c1),(29,I (lN h_.ae)),(30,I kG),(39,V (.agg #[.int .i64 ((gi h_.ae kG).au),.int .i64 ((gi h_.ae kG).aA),.int .i64 ((gi h_.ae kG).aH),.slice nZ ((gi h_.ae kG).Rows).length nV])),(40,Sl cA bb.1 cz),(41,Sl gG b9 gF)],[(4,(26,[Sl a3 aj c3])),(8,(42,[Sl cA bb.1 cz])),(9,(43,[Sl eO bb.2 eN]))]⟩ fun a hS=>?_
   obtain ⟨hq,hm⟩:=hm
   refine op1 (call hS kr kr hb33 kr (fun _ _=>rfl) (Gy _ _ (gi h_.ae kG) bb.1 b9 nZ nV cA cz gG gF hq h138 h131 h145) ?_)
   intro v150 a FZ yk hE hp hS
   replace hO:=hO.m2 hE
   replace h128:=h128.m1 hE
   replace h130:=h130.m1 hE
   replace h131:=h131.m1 hE
   replace h132:=h132.m1 hE
   replace h138:=h138.m1 hE
   replace h145:=h145.m1 hE
   obtain ⟨vr,hr⟩:∃ r,cd (gi h_.ae kG) bb.1 b9=r:=⟨_,rfl⟩
   replace hm:=hm vr hr
   rw [hr] at hp
   clear hr
   subst hp
   refine ePe T hS [39,40,41,42] [(14,I vr.2.2)] fun a hS=>?_
   refine rPe T hS [14] [(47,B (vr.2.2 != 0))] fun a hS=>?_
   refine aI hS (b:=(vr.2.2 != 0)) kr (fun hb=>?_) fun hb=>?_
   ·replace hm:=hm.1 hb
    refine rP T hS ⟨[(4,B false)],[]⟩ fun a hS=>?_
    refine ba ?_
    exact fin T hS hO (fun c=>c) rfl (r:=[.bool false]) kr (fun X' hM hC=>⟨false,hm,rfl⟩)
   replace hm:=hm.2 hb
   refine aO ?_
   refine region (ePe T hS [47] [(30,I (wR (kG+1)))] fun a hS=>?_)
   exact ⟨wR (kG+1),⟨Z,_,hm.1,hS.sl _,hO,h128,h130,h131,h132⟩,hm.2⟩
  replace hm:=hm.2 hb
  refine cu (by rfl) ?_
  exact ⟨Z,_,hm,hS.sl _,hO,h130,h131⟩
 rintro a zX ⟨Z,A8,hm,hS,hO,h115,h116⟩
 unfold VC12_J1 at hm
 refine br ?_
 refine oPe T hS 2 [] [(49,Sl cA bb.1 cz),(50,Sl a3 aj c3)] fun a hS=>?_
 refine op1 (call hS kr kr hb34 kr (fun _ _=>rfl) (Gx _ _ bb.1 aj cA cz a3 c3 h116 h115) ?_)
 intro v117 a z5 Be hE hp hS
 replace hO:=hO.m2 hE
 replace h115:=h115.m1 hE
 replace h116:=h116.m1 hE
 obtain ⟨j7,hr⟩:∃ r,cB bb.1 aj=r:=⟨_,rfl⟩
 replace hm:=hm j7 hr
 rw [hr] at hp
 clear hr
 subst hp
 refine oPe T hS 2 [49,50,51] [(53,B (decide (j7 < 0)))] fun a hS=>?_
 rcases bft (decide (j7 < 0)) with hb | hb
 ·replace hS:=hS.lit (t:=53) kr hb
  replace hm:=hm.1 hb
  refine oP T hS 2 ⟨[(53,B true),(54,Sl cA bb.1 cz),(55,Sl a3 aj c3)],[]⟩ fun a hS=>?_
  obtain ⟨hq,hm⟩:=hm
  refine op1 (call hS kr kr hb35 kr (fun _ _=>rfl) (Gw _ _ bb.1 aj cA cz a3 c3 hq h116 h115) ?_)
  intro v121 a uX uL hE hp hS
  replace hO:=hO.m2 hE
  replace h115:=h115.m1 hE
  replace h116:=h116.m1 hE
  obtain ⟨ja,iY,hp,h127⟩:=hp
  obtain ⟨dF,hr⟩:∃ r,b8 bb.1 aj=r:=⟨_,rfl⟩
  replace hm:=hm dF hr
  rw [hr] at hp h127
  clear hr
  subst hp
  replace hm:=hm (h127.sm kr)
  refine ePe T hS [53,54,55,56] [(4,B ((lN dF) == 0))] fun a hS=>?_
  refine ba ?_
  exact fin T hS hO (fun c=>c) rfl (r:=[.bool ((lN dF) == 0)]) kr (fun X' hM hC=>⟨((lN dF) == 0),hm,rfl⟩)
 replace hS:=hS.lit (t:=53) kr hb
 replace hm:=hm.2 hb
 refine eP T hS ⟨[(4,B false)],[]⟩ fun a hS=>?_
 refine ba ?_
 exact fin T hS hO (fun c=>c) rfl (r:=[.bool false]) kr (fun X' hM hC=>⟨false,hm,rfl⟩)
theorem C12 (sb:S23) (Cg:S24) (xY:S31_32) (Gy:S33) (Gx:S34) (Gw:S35) (v:∀ (h_:ak) (aj:List aa),sE h_ aj->VC12 h_ aj (fun r=>r=eH h_ aj)):S12:=by
 intro w X h_ aj a1 c1 a2 c2 a3 c3   hp h1 h2 h3
 refine (W12 sb Cg xY Gy Gx Gw w X h_ aj a1 c1 a2 c2 a3 c3   _ (v h_ aj hp) h1 h2 h3).mono ?_
 rintro _ _ _ _ ⟨r,rfl,h⟩
 exact h
theorem W13 (Iu:S16) (Gz:S28) (LH:S36) (LG:S37) (LF:S38) (w0) (X0) (objects:List ao) (l_:List aK) (aj:List aa) (a1) (c1) (a2) (c2) (a3) (c3) (Q:Bool->Prop) (hm:VC13 objects l_ aj Q) (h1:RS aC w0 X0 a1 objects c1) (h2:RS bP w0 X0 a2 l_ c2) (h3:RS av w0 X0 a3 aj c3) :
  Ret Tryz.prog 13 #[.slice a1 objects.length c1,.slice a2 l_.length c2,.slice a3 aj.length c3] aM w0 X0 (fun w X' v=>∃ r,Q r/\v=.bool r):=by
 unfold VC13 at hm
 replace hm:=hm (h1.sm kr)
 replace hm:=hm (h2.sm kr)
 replace hm:=hm (h3.sm kr)
 refine enter Tryz.func13 rfl (vals:=[.slice a1 objects.length c1,.slice a2 l_.length c2,.slice a3 aj.length c3]) kr ?_
 intro Z a hS hO hM
 replace h1:=h1.m0 hM
 replace h2:=h2.m0 hM
 replace h3:=h3.m0 hM
 refine rPe T hS [] [] fun a hS=>?_
 refine br ?_
 refine oPe T hS 2 [] [(19,Sl a1 objects c1),(20,Sl a2 l_ c2)] fun a hS=>?_
 obtain ⟨hq,hm⟩:=hm
 refine op1 (call hS kr kr hb28 kr (fun _ _=>rfl) (Gz _ _ objects l_ a1 c1 a2 c2 hq h1 h2) ?_)
 intro v101 a fH fK hE hp hS
 replace hO:=hO.m2 hE
 replace h1:=h1.m1 hE
 replace h2:=h2.m1 hE
 replace h3:=h3.m1 hE
 obtain ⟨ay,hr⟩:∃ r,dE objects l_=r:=⟨_,rfl⟩
 replace hm:=hm ay hr
 rw [hr] at hp
 clear hr
 subst hp
 refine ePe T hS [19,20,21] [(8,I ay.2)] fun a hS=>?_
 refine bh ?_
 refine rPe T hS [8] [(25,B (ay.2 != 0))] fun a hS=>?_
 refine aI hS (b:=(ay.2 != 0)) kr (fun hb=>?_) fun hb=>?_
 ·replace hm:=hm.1 hb
  refine rPe T hS [0,1,2,25] [(6,B false)] fun a hS=>?_
  refine ba ?_
  exact fin T hS hO (fun c=>c) rfl (r:=[.bool false]) kr (fun X' hM hC=>⟨false,hm,rfl⟩)
 replace hm:=hm.2 hb
 refine aO ?_
 refine br ?_
 refine oPe T hS 2 [1,25] [(27,Sl a1 objects c1),(28,Sl a2 l_ c2)] fun a hS=>?_
 obtain ⟨hq,hm⟩:=hm
 refine op1 (call hS kr kr hb16 kr (fun _ _=>rfl) (Iu _ _ objects l_ a1 c1 a2 c2 hq h1 h2) ?_)
 intro v105 a n6 n2 hE hp hS
 replace hO:=hO.m2 hE
 replace h1:=h1.m1 hE
 replace h2:=h2.m1 hE
 replace h3:=h3.m1 hE
 obtain ⟨cA,cz,eO,eN,hp,h111,h114⟩:=hp
 obtain ⟨bb,hr⟩:∃ r,dc objects l_=r:=⟨_,rfl⟩
 replace hm:=hm bb hr
 rw [hr] at hp h111 h114
 clear hr
 subst hp
 replace hm:=hm (h111.sm kr)
 replace hm:=hm (h114.sm kr)
 refine ePe T hS [27,28,29] [(9,Sl cA bb.1 cz),(10,Sl eO bb.2 eN)] fun a hS=>?_
 refine cb (fun a w=>∃ Z X,VC13_J1 objects aj Q bb/\St Tryz.f13.ntmps ⟨[(0,Sl a1 objects c1),(2,Sl a3 aj c3),(9,Sl cA bb.1 cz),(10,Sl eO bb.2 eN)],[]⟩ Z a w X/\Old w0 X0 w X/\RS aC w X a1 objects c1/\RS av w X a3 aj c3/\RS ar w X cA bb.1 cz/\RS tI w X eO bb.2 eN) ?_ ?_
 ·refine rPe T hS [] [(11,I 0)] fun a hS=>?_
  refine aQ ?_
  obtain ⟨I3,μ3,cJ,hm⟩:=hm
  refine cH (σ:=Int) (fun s a w=>∃ Z X,I3 s/\St Tryz.f13.ntmps ⟨[(0,Sl a1 objects c1),(2,Sl a3 aj c3),(9,Sl cA bb.1 cz),(10,Sl eO bb.2 eN),(11,I s)],[]⟩ Z a w X/\Old w0 X0 w X/\RS aC w X a1 objects c1/\RS av w X a3 aj c3/\RS ar w X cA bb.1 cz/\RS tI w X eO bb.2 eN) (fun s=>μ3 s) (0) ?_ ?_
  ·exact ⟨Z,_,cJ,hS.sl _,hO,h1,h3,h111,h114⟩
  rintro jT a OU ⟨Z,MW,hI,hS,hO,h209,h210,h211,h212⟩
  replace hm:=hm jT hI
  clear hI cJ
  refine bh ?_
  refine rPe T hS [] [(35,B (decide (jT < (lN aj))))] fun a hS=>?_
  refine aI hS (b:=decide (jT < (lN aj))) kr (fun hb=>?_) fun hb=>?_
  ·replace hm:=hm.1 hb
   refine aO (bh ?_)
   refine aQ ?_
   refine cb (fun a w=>∃ (Z:Nat->Nat) (X:Nat->Nat) (DA:Bool),VC13_J5 Q I3 μ3 jT DA/\St Tryz.f13.ntmps ⟨[(0,Sl a1 objects c1),(2,Sl a3 aj c3),(9,Sl cA bb.1 cz),(10,Sl eO bb.2 eN),(11,I jT),(53,B DA)],[]⟩ Z a w X/\Old w0 X0 w X/\RS aC w X a1 objects c1/\RS av w X a3 aj c3/\RS ar w X cA bb.1 cz/\RS tI w X eO bb.2 eN) ?_ ?_
   ·refine region ?_
    refine oPe T hS 2 [35] [(38,Sl a3 aj c3),(39,I jT)] fun a hS=>?_
    obtain ⟨hq,hm⟩:=hm
    refine op1 (index (e:=56) (k:=.i64) T hS kr kr kr kr h210 kr kr hq.1 hq.2 ?_)
    intro Nm a h220 hS
    refine op1 (fD (off:=0) (fsz:=1) (ft:=3) (TF:=tI) (y:=(gi aj jT).Oper) T hS kr kr kr h220 kr kr kr (fun cs h=>fP h) ?_)
    intro RE a h222 hS
    refine op1 (eT T hS kr kr kr h222 rfl kr ?_)
    intro v223 a hv hS
    cases hv
    refine oPe T hS 2 [38,39,40,41,42] [(44,B (decide (((gi aj jT).Oper) < 0)))] fun a hS=>?_
    rcases bft (decide (((gi aj jT).Oper) < 0)) with hb | hb
    ·replace hS:=hS.lit (t:=44) kr hb
     replace hm:=hm.1 hb
     refine ePe T hS [44] [(53,B true)] fun a hS=>?_
     exact ⟨Z,_,true,hm,hS.sl _,hO,h209,h210,h211,h212⟩
    replace hS:=hS.lit (t:=44) kr hb
    replace hm:=hm.2 hb
    refine oPe T hS 2 [] [(45,Sl a3 aj c3),(46,I jT)] fun a hS=>?_
    obtain ⟨hq,hm⟩:=hm
    refine op1 (index (e:=56) (k:=.i64) T hS kr kr kr kr h210 kr kr hq.1 hq.2 ?_)
    intro RC a h225 hS
    refine op1 (fD (off:=0) (fsz:=1) (ft:=3) (TF:=tI) (y:=(gi aj jT).Oper) T hS kr kr kr h225 kr kr kr (fun cs h=>fP h) ?_)
    intro RA a h227 hS
    refine op1 (eT T hS kr kr kr h227 rfl kr ?_)
    intro v228 a hv hS
    cases hv
    refine ePe T hS [44,45,46,47,48,49] [(53,B (decide (((gi aj jT).Oper)≥(lN bb.1))))] fun a hS=>?_
    exact ⟨Z,_,decide (((gi aj jT).Oper)≥(lN bb.1)),hm,hS.sl _,hO,h209,h210,h211,h212⟩
   rintro a Ku ⟨Z,Ra,DA,hm,hS,hO,h214,h215,h216,h217⟩
   unfold VC13_J5 at hm
   refine aI hS (b:=DA) kr (fun hb=>?_) fun hb=>?_
   ·replace hm:=hm.1 hb
    refine rPe T hS [0,2,9,10,11,53] [(6,B false)] fun a hS=>?_
    refine ba ?_
    exact fin T hS hO (fun c=>c) rfl (r:=[.bool false]) kr (fun X' hM hC=>⟨false,hm,rfl⟩)
   replace hm:=hm.2 hb
   refine aO ?_
   refine region (ePe T hS [53] [(11,I (wR (jT+1)))] fun a hS=>?_)
   exact ⟨wR (jT+1),⟨Z,_,hm.1,hS.sl _,hO,h214,h215,h216,h217⟩,hm.2⟩
  replace hm:=hm.2 hb
  refine cu (by rfl) ?_
  exact ⟨Z,_,hm,hS.sl _,hO,h209,h210,h211,h212⟩
 rintro a OT ⟨Z,Q8,hm,hS,hO,h115,h116,h117,h118⟩
 unfold VC13_J1 at hm
 refine cb (fun a w=>∃ Z X,VC13_J2 aj Q bb/\St Tryz.f13.ntmps ⟨[(2,Sl a3 aj c3),(9,Sl cA bb.1 cz)],[]⟩ Z a w X/\Old w0 X0 w X/\RS av w X a3 aj c3/\RS ar w X cA bb.1 cz) ?_ ?_
 ·refine rPe T hS [] [(12,I 0)] fun a hS=>?_
  refine aQ ?_
  obtain ⟨I1,μ1,cJ,hm⟩:=hm
  refine cH (σ:=Int) (fun s a w=>∃ Z X,I1 s/\St Tryz.f13.ntmps ⟨[(0,Sl a1 objects c1),(2,Sl a3 aj c3),(9,Sl cA bb.1 cz),(10,Sl eO bb.2 eN),(12,I s)],[]⟩ Z a w X/\Old w0 X0 w X/\RS aC w X a1 objects c1/\RS av w X a3 aj c3/\RS ar w X cA bb.1 cz/\RS tI w X eO bb.2 eN) (fun s=>μ1 s) (0) ?_ ?_
  ·exact ⟨Z,_,cJ,hS.sl _,hO,h115,h116,h117,h118⟩
  rintro jV a Kw ⟨Z,M1,hI,hS,hO,h132,h133,h134,h135⟩
  replace hm:=hm jV hI
  clear hI cJ
  refine bh ?_
  refine rPe T hS [] [(57,B (decide (jV < (lN objects))))] fun a hS=>?_
  refine aI hS (b:=decide (jV < (lN objects))) kr (fun hb=>?_) fun hb=>?_
  ·replace hm:=hm.1 hb
   refine aO (bh ?_)
   refine aQ ?_
   refine rPe T hS [57] [(13,V (.slice none 0 0))] fun a hS=>?_
   refine cb (fun a w=>∃ (Z:Nat->Nat) (X:Nat->Nat) (jw:List aa) (kB:Option Addr) (ku:Nat),VC13_J3 objects Q bb I1 μ1 jV jw/\St Tryz.f13.ntmps ⟨[(0,Sl a1 objects c1),(2,Sl a3 aj c3),(9,Sl cA bb.1 cz),(10,Sl eO bb.2 eN),(12,I jV),(13,Sl kB jw ku)],[]⟩ Z a w X/\Old w0 X0 w X/\RS aC w X a1 objects c1/\RS av w X a3 aj c3/\RS ar w X cA bb.1 cz/\RS tI w X eO bb.2 eN/\OS av 56 w X 1014 kB jw ku) ?_ ?_
   ·refine rPe T hS [] [(14,I 0)] fun a hS=>?_
    refine aQ ?_
    obtain ⟨I2,μ2,cJ,hm⟩:=hm
    refine cH (σ:=(List aa) × Int) (fun s a w=>∃ Z X wM wB,I2 s.1 s.2/\St Tryz.f13.ntmps ⟨[(0,Sl a1 objects c1),(2,Sl a3 aj c3),(9,Sl cA bb.1 cz),(10,Sl eO bb.2 eN),(12,I jV),(13,Sl wM s.1 wB),(14,I s.2)],[]⟩ Z a w X/\Old w0 X0 w X/\RS aC w X a1 objects c1/\RS av w X a3 aj c3/\RS ar w X cA bb.1 cz/\RS tI w X eO bb.2 eN/\OS av 56 w X 1014 wM s.1 wB) (fun s=>μ2 s.1 s.2) (⟨[],0⟩) ?_ ?_
    ·exact ⟨Z,_,none,0,cJ,hS.sl _,hO,h132,h133,h134,h135,(OS.nil _ _ _ _ _)⟩
    rintro ⟨uS,jv⟩ a Ky ⟨Z,M6,wM,wB,hI,hS,hO,h162,h163,h164,h165,h169⟩
    replace hm:=hm uS jv hI
    clear hI cJ
    refine bh ?_
    refine rPe T hS [] [(63,B (decide (jv < (lN aj))))] fun a hS=>?_
    refine aI hS (b:=decide (jv < (lN aj))) kr (fun hb=>?_) fun hb=>?_
    ·replace hm:=hm.1 hb
     refine aO ?_
     refine cb (fun a w=>∃ (Z:Nat->Nat) (X:Nat->Nat) (lI:List aa) (nY:Option Addr) (nU:Nat),VC13_J4 I2 μ2 uS jv lI/\St Tryz.f13.ntmps ⟨[(0,Sl a1 objects c1),(2,Sl a3 aj c3),(9,Sl cA bb.1 cz),(10,Sl eO bb.2 eN),(12,I jV),(13,Sl nY lI nU),(14,I jv)],[]⟩ Z a w X/\Old w0 X0 w X/\RS aC w X a1 objects c1/\RS av w X a3 aj c3/\RS ar w X cA bb.1 cz/\RS tI w X eO bb.2 eN/\OS av 56 w X 1014 nY lI nU) ?_ ?_
     ·refine aQ ?_
      refine br ?_
      refine oPe T hS 3 [63] [(66,Sl eO bb.2 eN),(67,Sl a3 aj c3),(68,I jv)] fun a hS=>?_
      obtain ⟨hq,hm⟩:=hm
      refine op1 (index (e:=56) (k:=.i64) T hS kr kr kr kr h163 kr kr hq.1 hq.2 ?_)
      intro R2 a h180 hS
      refine op1 (fD (off:=0) (fsz:=1) (ft:=3) (TF:=tI) (y:=(gi aj jv).Oper) T hS kr kr kr h180 kr kr kr (fun cs h=>fP h) ?_)
      intro Nn a h182 hS
      refine op1 (eT T hS kr kr kr h182 rfl kr ?_)
      intro v183 a hv hS
      cases hv
      obtain ⟨hq,hm⟩:=hm
      refine op1 (index (e:=3) (k:=.i64) T hS kr kr kr kr h165 kr kr hq.1 hq.2 ?_)
      intro R0 a h185 hS
      refine op1 (eT T hS kr kr kr h185 rfl kr ?_)
      intro v186 a hv hS
      cases hv
      refine ePe T hS [66,67,68,69,70,71,72,73] [(75,B ((gi bb.2 ((gi aj jv).Oper)) == jV))] fun a hS=>?_
      refine aI hS (b:=((gi bb.2 ((gi aj jv).Oper)) == jV)) kr (fun hb=>?_) fun hb=>?_
      ·replace hm:=hm.1 hb
       refine region ?_
       refine oPe T hS 3 [75] [(76,Sl wM uS wB),(77,Sl a3 aj c3),(78,I jv)] fun a hS=>?_
       obtain ⟨hq,hm⟩:=hm
       refine op1 (index (e:=56) (k:=.i64) T hS kr kr kr kr h163 kr kr hq.1 hq.2 ?_)
       intro RX a h188 hS
       refine op1 (eS T hS kr kr kr h188 kr kr ?_)
       intro v189 a hv hS
       subst hv
       refine op1 (lit (E:=56) (col:=0) (T:=av) (vals:=[.agg #[.int .i64 ((gi aj jv).Oper),.int .i64 ((gi aj jv).Result)]]) (ys:=[gi aj jv]) T hS kr kr kr kr (by exact ⟨rfl,trivial⟩) rfl kr kr kr kr ?_)
       intro b190 a HR JT hE h193 hN hS
       clear hN
       replace hO:=hO.m2 hE
       replace h162:=h162.m1 hE
       replace h163:=h163.m1 hE
       replace h164:=h164.m1 hE
       replace h165:=h165.m1 hE
       replace h169:=h169.m2 hE
       replace h188:=h188.m1 hE
       replace h193:=h193.rs0
       obtain ⟨hq,hm⟩:=hm
       obtain ⟨news,hN⟩:=h193.src
       refine op1 (append (E:=56) (T:=av) (col:=1014) (xs:=uS) T hS kr kr kr kr h169 hN kr kr kr kr hq ?_)
       intro nX nT a KA M7 hE h196 hS
       clear hq hN
       clear h169
       replace hO:=hO.m2 hE
       replace h162:=h162.m1 hE
       replace h163:=h163.m1 hE
       replace h164:=h164.m1 hE
       replace h165:=h165.m1 hE
       replace h188:=h188.m1 hE
       replace h193:=h193.m1 hE
       refine ePe T hS [77,78,79,80,81,82] [(13,Sl nX (uS++[gi aj jv]) nT)] fun a hS=>?_
       exact ⟨Z,_,uS++[gi aj jv],nX,nT,hm,hS.sl _,hO,h162,h163,h164,h165,h196⟩
      replace hm:=hm.2 hb
      refine aO ?_
      exact ⟨Z,_,uS,wM,wB,hm,hS.sl _,hO,h162,h163,h164,h165,h169⟩
     rintro a Kz ⟨Z,JS,lI,nY,nU,hm,hS,hO,h171,h172,h173,h174,h178⟩
     unfold VC13_J4 at hm
     refine region (ePe T hS [] [(14,I (wR (jv+1)))] fun a hS=>?_)
     exact ⟨⟨lI,wR (jv+1)⟩,⟨Z,_,nY,nU,hm.1,hS.sl _,hO,h171,h172,h173,h174,h178⟩,hm.2⟩
    replace hm:=hm.2 hb
    refine cu (by rfl) ?_
    exact ⟨Z,_,uS,wM,wB,hm,hS.sl _,hO,h162,h163,h164,h165,h169⟩
   rintro a Kx ⟨Z,M4,jw,kB,ku,hm,hS,hO,h137,h138,h139,h140,h144⟩
   unfold VC13_J3 at hm
   refine dB [] mixed hS ?_
   intro DN Ba hS hE hD hH
   replace hO:=hO.m2 hE
   replace h137:=h137.m1 hE
   replace h138:=h138.m1 hE
   replace h139:=h139.m1 hE
   replace h140:=h140.m1 hE
   replace h144:=h144.m2 hE
   refine tke T [0,1,4,5,6,10] [] hS hH #[true,true,false,false,true,true,true,false,false,false,true,false,false,false,false,false,false,false,false] 13 [13] [(84,Sl a1 objects c1),(85,I jV),(88,Sl cA bb.1 cz),(89,Sl a1 objects c1),(90,I jV),(94,Sl kB jw ku)] fun a hS=>?_
   obtain ⟨hq,hm⟩:=hm
   refine dg (e:=48) (k:=.i64) T 2 hS kr kr kr (by rfl) kr hH kr kr h137 kr kr hq.1 hq.2 ?_
   intro Sa a h148 hS
   have I8:=h148.here
   refine ld T 3 hS kr kr kr (by rfl) kr hH kr h148 I8 kr kr ?_
   intro v149 a hv hS
   obtain ⟨uJ,uC,hv,h152⟩:=hv
   subst hv
   replace hm:=hm (h152.sm kr)
   obtain ⟨hq,hm⟩:=hm
   refine dg (e:=48) (k:=.i64) T 7 hS kr kr kr (by rfl) kr hH kr kr h137 kr kr hq.1 hq.2 ?_
   intro J8 a h154 hS
   have CC:=h154.here
   refine dt (off:=2) (fsz:=1) (ft:=3) (TF:=tI) (y:=(gi objects jV).aH) 8 T hS kr kr kr (by rfl) kr hH kr h154 kr kr kr (fun cs h=>sg h) ?_
   intro J7 a h156 fO hS
   have vT:=CC
   rw [← fO] at vT
   clear fO
   refine dQ T 9 hS kr kr kr (by rfl) kr hH kr h156 vT rfl kr ?_
   intro v157 a hv hS
   cases hv
   refine only 11 kr (by rfl) (call hS kr kr hb36 kr (fun _ _=>rfl) (Ret.nB (LH _ (eL 1014 _) (gi objects jV) bb.1 ((gi objects jV).aH) jw uJ uC cA cz kB ku (h152.m0 (M0.eL 1014)) (h139.m0 (M0.eL 1014)) h144.eL)) ?_)
   intro v158 a zX EK hE hp hS
   replace hO:=hO.m2 hE
   replace hD:=hD.ev hE rfl
   replace h137:=h137.m1 hE
   replace h138:=h138.m1 hE
   replace h139:=h139.m1 hE
   replace h140:=h140.m1 hE
   replace h144:=h144.m2 hE
   replace h148:=h148.m1 hE
   replace h152:=h152.m1 hE
   replace h154:=h154.m1 hE
   replace h156:=h156.m1 hE
   obtain ⟨_,hp⟩:=hp
   obtain ⟨vq,hr⟩:∃ r,cW (gi objects jV) bb.1 ((gi objects jV).aH) jw=r:=⟨_,rfl⟩
   replace hm:=hm vq hr
   rw [hr] at hp
   clear hr
   subst hp
   refine da (bO.of hS (bks:=[]) kr hD) ?_
   intro hH
   refine tke T [12,13,14,15,16,17,18] [] hS hH (tts 19) 0 [84,85,88,89,90,94,86,87,91,92,93,95] [(17,I vq.2.2)] fun a hS=>?_
   refine aY kr ?_
   replace hS:=hS.sle [] []
   refine rPe T hS [17] [(100,B (vq.2.2 != 0))] fun a hS=>?_
   refine aI hS (b:=(vq.2.2 != 0)) kr (fun hb=>?_) fun hb=>?_
   ·replace hm:=hm.1 hb
    refine rPe T hS [0,2,9,10,12,100] [(6,B false)] fun a hS=>?_
    refine ba ?_
    exact fin T hS hO (fun c=>c) rfl (r:=[.bool false]) kr (fun X' hM hC=>⟨false,hm,rfl⟩)
   replace hm:=hm.2 hb
   refine aO ?_
   refine region (ePe T hS [100] [(12,I (wR (jV+1)))] fun a hS=>?_)
   exact ⟨wR (jV+1),⟨Z,_,hm.1,hS.sl _,hO,h137,h138,h139,h140⟩,hm.2⟩
  replace hm:=hm.2 hb
  refine cu (by rfl) ?_
  exact ⟨Z,_,hm,hS.sl _,hO,h133,h134⟩
 rintro a O5 ⟨Z,MY,hm,hS,hO,h119,h120⟩
 unfold VC13_J2 at hm
 refine br ?_
 refine oPe T hS 2 [] [(101,Sl cA bb.1 cz),(102,Sl a3 aj c3)] fun a hS=>?_
 refine op1 (call hS kr kr hb37 kr (fun _ _=>rfl) (LG _ _ bb.1 aj cA cz a3 c3 h120 h119) ?_)
 intro v121 a uX uL hE hp hS
 replace hO:=hO.m2 hE
 replace h119:=h119.m1 hE
 replace h120:=h120.m1 hE
 obtain ⟨dF,hr⟩:∃ r,eG bb.1 aj=r:=⟨_,rfl⟩
 replace hm:=hm dF hr
 rw [hr] at hp
 clear hr
 subst hp
 refine oPe T hS 2 [101,102,103] [(105,B (decide (dF < 0)))] fun a hS=>?_
 rcases bft (decide (dF < 0)) with hb | hb
 ·replace hS:=hS.lit (t:=105) kr hb
  replace hm:=hm.1 hb
  refine oPe T hS 2 [2,9] [(106,Sl cA bb.1 cz),(107,Sl a3 aj c3)] fun a hS=>?_
  obtain ⟨hq,hm⟩:=hm
  refine op1 (call hS kr kr hb38 kr (fun _ _=>rfl) (LF _ _ bb.1 aj false cA cz a3 c3 hq h120 h119) ?_)
  intro v125 a uW rT hE hp hS
  replace hO:=hO.m2 hE
  replace h119:=h119.m1 hE
  replace h120:=h120.m1 hE
  obtain ⟨lY,lX,hp,h131⟩:=hp
  obtain ⟨bU,hr⟩:∃ r,eW bb.1 aj false=r:=⟨_,rfl⟩
  replace hm:=hm bU hr
  rw [hr] at hp h131
  clear hr
  subst hp
  replace hm:=hm (h131.sm kr)
  refine ePe T hS [105,106,107,108] [(6,B ((lN bU) == 0))] fun a hS=>?_
  refine ba ?_
  exact fin T hS hO (fun c=>c) rfl (r:=[.bool ((lN bU) == 0)]) kr (fun X' hM hC=>⟨((lN bU) == 0),hm,rfl⟩)
 replace hS:=hS.lit (t:=105) kr hb
 replace hm:=hm.2 hb
 refine ePe T hS [2,9,105] [(6,B false)] fun a hS=>?_
 refine ba ?_
 exact fin T hS hO (fun c=>c) rfl (r:=[.bool false]) kr (fun X' hM hC=>⟨false,hm,rfl⟩)
theorem C13 (Iu:S16) (Gz:S28) (LH:S36) (LG:S37) (LF:S38) (v:∀ (objects:List ao) (l_:List aK) (aj:List aa),yN objects l_ aj->VC13 objects l_ aj (fun r=>r=fM objects l_ aj)):S13:=by
 intro w X objects l_ aj a1 c1 a2 c2 a3 c3   hp h1 h2 h3
 refine (W13 Iu Gz LH LG LF w X objects l_ aj a1 c1 a2 c2 a3 c3   _ (v objects l_ aj hp) h1 h2 h3).mono ?_
 rintro _ _ _ _ ⟨r,rfl,h⟩
 exact h
theorem W27 (w0) (X0) (Q:ao->Prop) (hm:VC27 Q) :
  Ret Tryz.prog 27 #[] aM w0 X0 (fun w X' v=>∃ r,Q r/\∃ cQ cN,v=.agg #[.int .i64 r.au,.int .i64 r.aA,.int .i64 r.aH,.slice cQ r.Rows.length cN]/\RS aB w X' cQ r.Rows cN):=by
 unfold VC27 at hm
 refine enter Tryz.func27 rfl (vals:=[]) kr ?_
 intro Z a hS hO hM
 refine rM T hS ⟨[(0,Pt 1 0)],[(1,(48,[I 0,I 0,I 0,V (.slice none 0 0)]))]⟩ fun Z a qn pC hS hE hr=>?_
 replace hO:=hO.m2 hE
 clear hE hr
 refine br ?_
 refine oPe T hS 4 [] [(1,V (.agg #[.int .i64 0,.int .i64 0,.int .i64 1,.int .i64 0])),(2,V (.agg #[.int .i64 0,.int .i64 1,.int .i64 0,.int .i64 0])),(3,V (.agg #[.int .i64 1,.int .i64 0,.int .i64 1,.int .i64 0])),(4,V (.agg #[.int .i64 1,.int .i64 1,.int .i64 1,.int .i64 1]))] fun a hS=>?_
 refine op1 (lit (E:=107) (col:=0) (T:=aB) (vals:=[.agg #[.int .i64 0,.int .i64 0,.int .i64 1,.int .i64 0],.agg #[.int .i64 0,.int .i64 1,.int .i64 0,.int .i64 0],.agg #[.int .i64 1,.int .i64 0,.int .i64 1,.int .i64 0],.agg #[.int .i64 1,.int .i64 1,.int .i64 1,.int .i64 1]]) (ys:=[(⟨0,0,1,0⟩:bc),(⟨0,1,0,0⟩:bc),(⟨1,0,1,0⟩:bc),(⟨1,1,1,1⟩:bc)]) T hS kr kr kr kr (by exact ⟨rfl,rfl,rfl,rfl,trivial⟩) rfl kr kr kr kr ?_)
 intro b101 a fH fK hE h104 hN hS
 clear hN
 replace hO:=hO.m2 hE
 replace h104:=h104.rs0
 refine eM T hS ⟨[(0,Pt 1 0)],[(1,(48,[I 2,I 2,I 0,Sl (some ⟨b101,0,none⟩) [(⟨0,0,1,0⟩:bc),(⟨0,1,0,0⟩:bc),(⟨1,0,1,0⟩:bc),(⟨1,1,1,1⟩:bc)] 4]))]⟩ fun Z a nA mh hS hE hr=>?_
 replace hO:=hO.m2 hE
 replace h104:=h104.m1 hE
 clear hE hr
 refine ba ?_
 exact fin T hS hO (fun c=>c) rfl (r:=[.agg #[.int .i64 2,.int .i64 2,.int .i64 0,.slice (some ⟨b101,0,none⟩) [(⟨0,0,1,0⟩:bc),(⟨0,1,0,0⟩:bc),(⟨1,0,1,0⟩:bc),(⟨1,1,1,1⟩:bc)].length 4]]) kr (fun X' hM hC=>⟨(⟨2,2,0,[(⟨0,0,1,0⟩:bc),(⟨0,1,0,0⟩:bc),(⟨1,0,1,0⟩:bc),(⟨1,1,1,1⟩:bc)]⟩:ao),hm,(some ⟨b101,0,none⟩),4,rfl,h104.m0 hM⟩)
theorem C27 (v:∀ (_:Unit),VC27 (fun r=>r=dy)):S27:=by
 intro w X     
 refine (W27 w X     _ (v ())).mono ?_
 rintro _ _ _ _ ⟨r,rfl,h⟩
 exact h
theorem W22 (E3:S27) (w0) (X0) (object:Int) (cM) (Q:ak->Prop) (hm:VC22 object Q) :
  Ret Tryz.prog 22 #[.int .i64 object] aM w0 X0 (fun w X' v=>∃ r,Q r/\∃ cQ cN jg jf,v=.agg #[.slice cQ r.ae.length cN,.slice jg r.al.length jf]/\RS aC w X' cQ r.ae cN/\OS aL 63 w X' cM jg r.al jf):=by
 unfold VC22 at hm
 refine enter Tryz.func22 rfl (vals:=[.int .i64 object]) kr ?_
 intro Z a hS hO hM
 refine rM T hS ⟨[(0,I object),(2,Pt 3 0)],[(3,(25,[V (.slice none 0 0),V (.slice none 0 0)]))]⟩ fun Z a z4 yn hS hE hr=>?_
 replace hO:=hO.m2 hE
 clear hE hr
 refine br ?_
 refine op1 (call hS kr kr hb27 kr (fun _ _=>rfl) (E3 _ _) ?_)
 intro v101 a fH fK hE hp hS
 replace hO:=hO.m2 hE
 obtain ⟨ea,dZ,hp,h107⟩:=hp
 obtain ⟨ay,hr⟩:∃ r,dy=r:=⟨_,rfl⟩
 replace hm:=hm ay hr
 rw [hr] at hp h107
 clear hr
 subst hp
 replace hm:=hm (h107.sm kr)
 refine op1 (call hS kr kr hb27 kr (fun _ _=>rfl) (E3 _ _) ?_)
 intro v108 a qm sf hE hp hS
 replace hO:=hO.m2 hE
 replace h107:=h107.m1 hE
 obtain ⟨eO,eN,hp,h114⟩:=hp
 obtain ⟨bG,hr⟩:∃ r,dy=r:=⟨_,rfl⟩
 replace hm:=hm bG hr
 rw [hr] at hp h114
 clear hr
 subst hp
 replace hm:=hm (h114.sm kr)
 refine op1 (lit (E:=48) (col:=0) (T:=aC) (vals:=[.agg #[.int .i64 ay.au,.int .i64 ay.aA,.int .i64 ay.aH,.slice ea ay.Rows.length dZ],.agg #[.int .i64 bG.au,.int .i64 bG.aA,.int .i64 bG.aH,.slice eO bG.Rows.length eN]]) (ys:=[ay,bG]) T hS kr kr kr kr (by exact ⟨⟨ea,dZ,rfl,h107⟩,⟨eO,eN,rfl,h114⟩,trivial⟩) rfl kr kr kr kr ?_)
 intro b115 a uY yq hE h118 hN hS
 clear hN
 replace hO:=hO.m2 hE
 replace h107:=h107.m1 hE
 replace h114:=h114.m1 hE
 replace h118:=h118.rs0
 refine oPe T hS 10 [0,3,4] [(7,V (.agg #[.int .i64 0,.int .i64 1,.int .i64 1,.int .i64 0])),(10,V (.agg #[.int .i64 object,.int .i64 1,.int .i64 2,.int .i64 1])),(12,V (.agg #[.int .i64 0,.int .i64 2,.int .i64 1,.int .i64 0])),(15,V (.agg #[.int .i64 object,.int .i64 2,.int .i64 2,.int .i64 1]))] fun a hS=>?_
 refine op1 (lit (E:=63) (col:=1017) (T:=aL) (vals:=[.agg #[.int .i64 0,.int .i64 1,.int .i64 1,.int .i64 0],.agg #[.int .i64 object,.int .i64 1,.int .i64 2,.int .i64 1],.agg #[.int .i64 0,.int .i64 2,.int .i64 1,.int .i64 0],.agg #[.int .i64 object,.int .i64 2,.int .i64 2,.int .i64 1]]) (ys:=[(⟨0,(⟨1,1,0⟩:aw)⟩:aV),(⟨object,(⟨1,2,1⟩:aw)⟩:aV),(⟨0,(⟨2,1,0⟩:aw)⟩:aV),(⟨object,(⟨2,2,1⟩:aw)⟩:aV)]) T hS kr kr kr kr (by exact ⟨rfl,rfl,rfl,rfl,trivial⟩) rfl kr kr kr kr ?_)
 intro b119 a Br EO hE h122 hN hS
 clear hN
 replace hO:=hO.m2 hE
 replace h118:=h118.m1 hE
 refine eM T hS ⟨[(2,Pt 3 0)],[(3,(25,[Sl (some ⟨b115,0,none⟩) [ay,bG] 2,Sl (some ⟨b119,0,none⟩) [(⟨0,(⟨1,1,0⟩:aw)⟩:aV),(⟨object,(⟨1,2,1⟩:aw)⟩:aV),(⟨0,(⟨2,1,0⟩:aw)⟩:aV),(⟨object,(⟨2,2,1⟩:aw)⟩:aV)] 4]))]⟩ fun Z a F2 yp hS hE hr=>?_
 replace hO:=hO.m2 hE
 replace h118:=h118.m1 hE
 replace h122:=h122.m2 hE
 clear hE hr
 refine ba ?_
 exact fin T hS hO (zAg0 cM) rfl (r:=[.agg #[.slice (some ⟨b115,0,none⟩) [ay,bG].length 2,.slice (some ⟨b119,0,none⟩) [(⟨0,(⟨1,1,0⟩:aw)⟩:aV),(⟨object,(⟨1,2,1⟩:aw)⟩:aV),(⟨0,(⟨2,1,0⟩:aw)⟩:aV),(⟨object,(⟨2,2,1⟩:aw)⟩:aV)].length 4]]) kr (fun X' hM hC=>⟨(⟨[ay,bG],[(⟨0,(⟨1,1,0⟩:aw)⟩:aV),(⟨object,(⟨1,2,1⟩:aw)⟩:aV),(⟨0,(⟨2,1,0⟩:aw)⟩:aV),(⟨object,(⟨2,2,1⟩:aw)⟩:aV)]⟩:ak),hm,(some ⟨b115,0,none⟩),2,(some ⟨b119,0,none⟩),4,rfl,h118.m0 hM,(OS.out (f:=(zAg0 cM)) h122 hM hC kr)⟩)
theorem C22 (E3:S27) (v:∀ (object:Int),VC22 object (fun r=>r=cy object)):S22:=by
 intro w X object  cM  
 refine (W22 E3 w X object  cM  _ (v object)).mono ?_
 rintro _ _ _ _ ⟨r,rfl,h⟩
 exact h
theorem W11 (w0) (X0) (h_:ak) (a1) (c1) (a2) (c2) (Q:(List aK)->Prop) (hm:VC11 h_ Q) (h1:RS aC w0 X0 a1 h_.ae c1) (h2:RS aL w0 X0 a2 h_.al c2) :
  Ret Tryz.prog 11 #[.agg #[.slice a1 h_.ae.length c1,.slice a2 h_.al.length c2]] aM w0 X0 (fun w X' v=>∃ r,Q r/\∃ cQ cN,v=.slice cQ r.length cN/\RS bP w X' cQ r cN):=by
 unfold VC11 at hm
 replace hm:=hm (h1.sm kr)
 replace hm:=hm (h2.sm kr)
 refine enter Tryz.func11 rfl (vals:=[.agg #[.slice a1 h_.ae.length c1,.slice a2 h_.al.length c2]]) kr ?_
 intro Z a hS hO hM
 replace h1:=h1.m0 hM
 replace h2:=h2.m0 hM
 refine rM T hS ⟨[(1,Pt 2 0)],[(2,(25,[Sl a1 h_.ae c1,Sl a2 h_.al c2]))]⟩ fun Z a tu wQ hS hE hr=>?_
 replace hO:=hO.m2 hE
 replace h1:=h1.m1 hE
 replace h2:=h2.m1 hE
 clear hE hr
 refine rPe T hS [] [(3,V (.slice none 0 0))] fun a hS=>?_
 refine cb (fun a w=>∃ (Z:Nat->Nat) (X:Nat->Nat) (bD:List aK) (dw:Option Addr) (dv:Nat),VC11_J1 Q bD/\St Tryz.f11.ntmps ⟨[(3,Sl dw bD dv)],[]⟩ Z a w X/\Old w0 X0 w X/\OS bP 77 w X 1003 dw bD dv) ?_ ?_
 ·refine rPe T hS [] [(4,I 0)] fun a hS=>?_
  refine aQ ?_
  obtain ⟨I1,μ1,cJ,hm⟩:=hm
  refine cH (σ:=(List aK) × Int) (fun s a w=>∃ Z X je jd,I1 s.1 s.2/\St Tryz.f11.ntmps ⟨[(1,Pt 2 0),(3,Sl je s.1 jd),(4,I s.2)],[(2,(25,[Sl a1 h_.ae c1,Sl a2 h_.al c2]))]⟩ Z a w X/\Old w0 X0 w X/\OS bP 77 w X 1003 je s.1 jd/\RS aC w X a1 h_.ae c1/\RS aL w X a2 h_.al c2) (fun s=>μ1 s.1 s.2) (⟨[],0⟩) ?_ ?_
  ·exact ⟨Z,_,none,0,cJ,hS.sl _,hO,(OS.nil _ _ _ _ _),h1,h2⟩
  rintro ⟨gY,dx⟩ a tv ⟨Z,ym,je,jd,hI,hS,hO,h110,h112,h113⟩
  replace hm:=hm gY dx hI
  clear hI cJ
  refine bh ?_
  refine rPe T hS [] [(9,B (decide (dx < (lN h_.al))))] fun a hS=>?_
  refine aI hS (b:=decide (dx < (lN h_.al))) kr (fun hb=>?_) fun hb=>?_
  ·replace hm:=hm.1 hb
   refine aO (bh ?_)
   refine aQ ?_
   refine hJ [2] mixed hS ?_
   intro H4 ER hS hE hD hH
   replace hO:=hO.m2 hE
   replace h110:=h110.m2 hE
   replace h112:=h112.m1 hE
   replace h113:=h113.m1 hE
   refine tke T [0,1,3,7,9,2,8] [2] hS hH #[true,true,true,true,false,false,false,true,true,true,false,false,false,false,false,false,false] 10 [] [(12,Sl je gY jd),(14,Sl a2 h_.al c2),(15,I dx),(20,Sl a2 h_.al c2),(21,I dx)] fun a hS=>?_
   obtain ⟨hq,hm⟩:=hm
   refine dg (e:=63) (k:=.i64) T 4 hS kr kr kr (by rfl) kr hH kr kr h113 kr kr hq.1 hq.2 ?_
   intro Hw a h117 hS
   have oC:=h117.here
   refine dt (off:=0) (fsz:=1) (ft:=3) (TF:=tI) (y:=(gi h_.al dx).az) 5 T hS kr kr kr (by rfl) kr hH kr h117 kr kr kr (fun cs h=>kE h) ?_
   intro Hv a h119 fO hS
   have vV:=oC
   rw [← fO] at vV
   clear fO
   refine dQ T 6 hS kr kr kr (by rfl) kr hH kr h119 vV rfl kr ?_
   intro v120 a hv hS
   cases hv
   obtain ⟨hq,hm⟩:=hm
   refine dg (e:=63) (k:=.i64) T 10 hS kr kr kr (by rfl) kr hH kr kr h113 kr kr hq.1 hq.2 ?_
   intro Hu a h122 hS
   have CE:=h122.here
   refine dt (off:=1) (fsz:=3) (ft:=61) (TF:=aR) (y:=(gi h_.al dx).aN) 11 T hS kr kr kr (by rfl) kr hH kr h122 kr kr kr (fun cs h=>mI h) ?_
   intro ES a h124 fO hS
   have rp:=CE
   rw [← fO] at rp
   clear fO
   refine ld T 12 hS kr kr kr (by rfl) kr hH kr h124 rp kr kr ?_
   intro v125 a hv hS
   subst hv
   refine tke T [13] [2] hS hH #[true,true,true,true,true,true,true,true,true,true,true,true,true,true,false,false,false] 3 [14,15,20,21,16,17,18,22,23,24] [(25,V (.agg #[.int .i64 ((gi h_.al dx).az),.int .i64 (((gi h_.al dx).aN).bm),.int .i64 (((gi h_.al dx).aN).ah),.int .i64 (((gi h_.al dx).aN).N)]))] fun a hS=>?_
   refine only 14 kr (by rfl) (lit (E:=77) (col:=0) (T:=bP) (vals:=[.agg #[.int .i64 ((gi h_.al dx).az),.int .i64 (((gi h_.al dx).aN).bm),.int .i64 (((gi h_.al dx).aN).ah),.int .i64 (((gi h_.al dx).aN).N)]]) (ys:=[(⟨(gi h_.al dx).az,((gi h_.al dx).aN)⟩:aK)]) T hS kr kr kr kr (by exact ⟨rfl,trivial⟩) rfl kr kr kr kr ?_)
   intro b126 a tw Bd hE h129 hN hS
   clear hN
   replace hO:=hO.m2 hE
   replace hD:=hD.ev hE rfl
   replace h110:=h110.m2 hE
   replace h112:=h112.m1 hE
   replace h113:=h113.m1 hE
   replace h117:=h117.m1 hE
   replace h119:=h119.m1 hE
   replace h122:=h122.m1 hE
   replace h124:=h124.m1 hE
   replace h129:=h129.rs0
   refine da (bO.of hS (bks:=[2]) kr hD) ?_
   intro hH
   obtain ⟨hq,hm⟩:=hm
   obtain ⟨news,hN⟩:=h129.src
   refine only 15 kr (by rfl) (append (E:=77) (T:=bP) (col:=1003) (xs:=gY) T hS kr kr kr kr h110 hN kr kr kr kr hq ?_)
   intro pA pw a uV De hE h132 hS
   clear hq hN
   clear h110
   replace hO:=hO.m2 hE
   replace hD:=hD.ev hE rfl
   replace h112:=h112.m1 hE
   replace h113:=h113.m1 hE
   replace h117:=h117.m1 hE
   replace h119:=h119.m1 hE
   replace h122:=h122.m1 hE
   replace h124:=h124.m1 hE
   replace h129:=h129.m1 hE
   replace hS:=hS.sle [3,12] [(27,Sl pA (gY++[(⟨(gi h_.al dx).az,((gi h_.al dx).aN)⟩:aK)]) pw)]
   refine da (bO.of hS (bks:=[2]) kr hD) ?_
   intro hH
   refine tke T [16] [2] hS hH (tts 17) 0 [25,26,27] [(3,Sl pA (gY++[(⟨(gi h_.al dx).az,((gi h_.al dx).aN)⟩:aK)]) pw)] fun a hS=>?_
   refine aY kr ?_
   replace hS:=hS.sle [] []
   refine region (ePe T hS [] [(4,I (wR (dx+1)))] fun a hS=>?_)
   exact ⟨⟨gY++[(⟨(gi h_.al dx).az,((gi h_.al dx).aN)⟩:aK)],wR (dx+1)⟩,⟨Z,_,pA,pw,hm.1,hS.sl _,hO,h132,h112,h113⟩,hm.2⟩
  replace hm:=hm.2 hb
  refine cu (by rfl) ?_
  exact ⟨Z,_,gY,je,jd,hm,hS.sl _,hO,h110⟩
 rintro a DQ ⟨Z,wS,bD,dw,dv,hm,hS,hO,h104⟩
 unfold VC11_J1 at hm
 refine rPe T hS [3] [(2,Sl dw bD dv)] fun a hS=>?_
 refine ba ?_
 obtain ⟨pD,hE,hF⟩:=h104.freeze (by decide)
 replace hS:=hS.ev hE (c6 kr)
 replace hO:=hO.m2 hE
 have h106:=hF; clear hE hF
 exact fin T hS hO (fun c=>c) rfl (r:=[.slice dw bD.length dv]) kr (fun X' hM hC=>⟨bD,hm,dw,dv,rfl,h106.m0 hM⟩)
theorem C11 (v:∀ (h_:ak),ln h_->VC11 h_ (fun r=>r=fm h_)):S11:=by
 intro w X h_ a1 c1 a2 c2   hp h1 h2
 refine (W11 w X h_ a1 c1 a2 c2   _ (v h_ hp) h1 h2).mono ?_
 rintro _ _ _ _ ⟨r,rfl,h⟩
 exact h
theorem W7 (w0) (X0) (h_:ak) (a1) (c1) (a2) (c2) (Q:Int->Prop) (hm:VC7 h_ Q) (h1:RS aC w0 X0 a1 h_.ae c1) (h2:RS aL w0 X0 a2 h_.al c2) :
  Ret Tryz.prog 7 #[.agg #[.slice a1 h_.ae.length c1,.slice a2 h_.al.length c2]] aM w0 X0 (fun w X' v=>∃ r,Q r/\v=.int .i64 r):=by
 unfold VC7 at hm
 replace hm:=hm (h1.sm kr)
 replace hm:=hm (h2.sm kr)
 refine enter Tryz.func7 rfl (vals:=[.agg #[.slice a1 h_.ae.length c1,.slice a2 h_.al.length c2]]) kr ?_
 intro Z a hS hO hM
 replace h1:=h1.m0 hM
 replace h2:=h2.m0 hM
 refine rM T hS ⟨[(1,Pt 2 0)],[(2,(25,[Sl a1 h_.ae c1,Sl a2 h_.al c2]))]⟩ fun Z a uX uL hS hE hr=>?_
 replace hO:=hO.m2 hE
 replace h1:=h1.m1 hE
 replace h2:=h2.m1 hE
 clear hE hr
 refine rPe T hS [] [(3,I 0)] fun a hS=>?_
 refine cb (fun a w=>∃ (Z:Nat->Nat) (X:Nat->Nat) (bD:Int),VC7_J1 Q bD/\St Tryz.f7.ntmps ⟨[(3,I bD)],[]⟩ Z a w X/\Old w0 X0 w X) ?_ ?_
 ·refine rPe T hS [] [(4,I 0)] fun a hS=>?_
  refine aQ ?_
  obtain ⟨I1,μ1,cJ,hm⟩:=hm
  refine cH (σ:=Int × Int) (fun s a w=>∃ Z X,I1 s.1 s.2/\St Tryz.f7.ntmps ⟨[(1,Pt 2 0),(3,I s.1),(4,I s.2)],[(2,(25,[Sl a1 h_.ae c1,Sl a2 h_.al c2]))]⟩ Z a w X/\Old w0 X0 w X/\RS aC w X a1 h_.ae c1/\RS aL w X a2 h_.al c2) (fun s=>μ1 s.1 s.2) (⟨0,0⟩) ?_ ?_
  ·exact ⟨Z,_,cJ,hS.sl _,hO,h1,h2⟩
  rintro ⟨bB,bj⟩ a xh ⟨Z,EP,hI,hS,hO,h104,h105⟩
  replace hm:=hm bB bj hI
  clear hI cJ
  refine bh ?_
  refine rPe T hS [] [(9,B (decide (bj < (lN h_.al))))] fun a hS=>?_
  refine aI hS (b:=decide (bj < (lN h_.al))) kr (fun hb=>?_) fun hb=>?_
  ·replace hm:=hm.1 hb
   refine aO ?_
   refine cb (fun a w=>∃ (Z:Nat->Nat) (X:Nat->Nat) (fo:Int),VC7_J2 I1 μ1 bB bj fo/\St Tryz.f7.ntmps ⟨[(1,Pt 2 0),(3,I fo),(4,I bj)],[(2,(25,[Sl a1 h_.ae c1,Sl a2 h_.al c2]))]⟩ Z a w X/\Old w0 X0 w X/\RS aC w X a1 h_.ae c1/\RS aL w X a2 h_.al c2) ?_ ?_
   ·refine aQ ?_
    refine br ?_
    refine oPe T hS 3 [9] [(13,Sl a2 h_.al c2),(14,I bj)] fun a hS=>?_
    obtain ⟨hq,hm⟩:=hm
    refine op1 (index (e:=63) (k:=.i64) T hS kr kr kr kr h105 kr kr hq.1 hq.2 ?_)
    intro yw a h110 hS
    refine op1 (fD (off:=1) (fsz:=3) (ft:=61) (TF:=aR) (y:=(gi h_.al bj).aN) T hS kr kr kr h110 kr kr kr (fun cs h=>mI h) ?_)
    intro Dm a h112 hS
    refine op1 (fD (off:=0) (fsz:=1) (ft:=3) (TF:=tI) (y:=((gi h_.al bj).aN).bm) T hS kr kr kr h112 kr kr kr (fun cs h=>lZ h) ?_)
    intro Hx a h114 hS
    refine op1 (eT T hS kr kr kr h114 rfl kr ?_)
    intro v115 a hv hS
    cases hv
    refine ePe T hS [13,14,15,16,17,18] [(19,B ((((gi h_.al bj).aN).bm) == 1))] fun a hS=>?_
    refine aI hS (b:=((((gi h_.al bj).aN).bm) == 1)) kr (fun hb=>?_) fun hb=>?_
    ·replace hm:=hm.1 hb
     refine region (ePe T hS [19] [(3,I (wR (bB+1)))] fun a hS=>?_)
     exact ⟨Z,_,wR (bB+1),hm,hS.sl _,hO,h104,h105⟩
    replace hm:=hm.2 hb
    refine aO ?_
    exact ⟨Z,_,bB,hm,hS.sl _,hO,h104,h105⟩
   rintro a Bs ⟨Z,uM,fo,hm,hS,hO,h107,h108⟩
   unfold VC7_J2 at hm
   refine region (ePe T hS [] [(4,I (wR (bj+1)))] fun a hS=>?_)
   exact ⟨⟨fo,wR (bj+1)⟩,⟨Z,_,hm.1,hS.sl _,hO,h107,h108⟩,hm.2⟩
  replace hm:=hm.2 hb
  refine cu (by rfl) ?_
  exact ⟨Z,_,bB,hm,hS.sl _,hO⟩
 rintro a xg ⟨Z,Dg,bD,hm,hS,hO⟩
 unfold VC7_J1 at hm
 refine rPe T hS [3] [(2,I bD)] fun a hS=>?_
 refine ba ?_
 exact fin T hS hO (fun c=>c) rfl (r:=[.int .i64 bD]) kr (fun X' hM hC=>⟨bD,hm,rfl⟩)
theorem C7 (v:∀ (h_:ak),VC7 h_ (fun r=>r=fu h_)):S7:=by
 intro w X h_ a1 c1 a2 c2   h1 h2
 refine (W7 w X h_ a1 c1 a2 c2   _ (v h_) h1 h2).mono ?_
 rintro _ _ _ _ ⟨r,rfl,h⟩
 exact h
theorem W6 (LM:S21) (w0) (X0) (h_:ak) (a1) (c1) (a2) (c2) (Q:Bool->Prop) (hm:VC6 h_ Q) (h1:RS aC w0 X0 a1 h_.ae c1) (h2:RS aL w0 X0 a2 h_.al c2) :
  Ret Tryz.prog 6 #[.agg #[.slice a1 h_.ae.length c1,.slice a2 h_.al.length c2]] aM w0 X0 (fun w X' v=>∃ r,Q r/\v=.bool r):=by
 unfold VC6 at hm
 replace hm:=hm (h1.sm kr)
 replace hm:=hm (h2.sm kr)
 refine enter Tryz.func6 rfl (vals:=[.agg #[.slice a1 h_.ae.length c1,.slice a2 h_.al.length c2]]) kr ?_
 intro Z a hS hO hM
 replace h1:=h1.m0 hM
 replace h2:=h2.m0 hM
 refine rM T hS ⟨[(1,Pt 2 0)],[(2,(25,[Sl a1 h_.ae c1,Sl a2 h_.al c2]))]⟩ fun Z a z5 Be hS hE hr=>?_
 replace hO:=hO.m2 hE
 replace h1:=h1.m1 hE
 replace h2:=h2.m1 hE
 clear hE hr
 refine bh ?_
 refine rPe T hS [] [(13,B ((decide ((lN h_.ae) > 10)) || (decide ((lN h_.al) > 20))))] (sp:=[8]) fun a hS=>?_
 refine aI hS (b:=((decide ((lN h_.ae) > 10)) || (decide ((lN h_.al) > 20)))) kr (fun hb=>?_) fun hb=>?_
 ·replace hm:=hm.1 hb
  refine rP T hS ⟨[(2,B false)],[]⟩ fun a hS=>?_
  refine ba ?_
  exact fin T hS hO (fun c=>c) rfl (r:=[.bool false]) kr (fun X' hM hC=>⟨false,hm,rfl⟩)
 replace hm:=hm.2 hb
 refine aO ?_
 refine cb (fun a w=>∃ Z X,VC6_J1 Q/\St Tryz.f6.ntmps ⟨[],[]⟩ Z a w X/\Old w0 X0 w X) ?_ ?_
 ·refine rPe T hS [13] [(3,I 0)] fun a hS=>?_
  refine aQ ?_
  obtain ⟨I1,μ1,cJ,hm⟩:=hm
  refine cH (σ:=Int) (fun s a w=>∃ Z X,I1 s/\St Tryz.f6.ntmps ⟨[(1,Pt 2 0),(3,I s)],[(2,(25,[Sl a1 h_.ae c1,Sl a2 h_.al c2]))]⟩ Z a w X/\Old w0 X0 w X/\RS aC w X a1 h_.ae c1/\RS aL w X a2 h_.al c2) (fun s=>μ1 s) (0) ?_ ?_
  ·exact ⟨Z,_,cJ,hS.sl _,hO,h1,h2⟩
  rintro bD a pY ⟨Z,yu,hI,hS,hO,h102,h103⟩
  replace hm:=hm bD hI
  clear hI cJ
  refine bh ?_
  refine rPe T hS [] [(18,B (decide (bD < (lN h_.ae))))] fun a hS=>?_
  refine aI hS (b:=decide (bD < (lN h_.ae))) kr (fun hb=>?_) fun hb=>?_
  ·replace hm:=hm.1 hb
   refine aO (bh ?_)
   refine aQ ?_
   refine br ?_
   refine oPe T hS 3 [18] [(22,Sl a1 h_.ae c1),(23,I bD)] fun a hS=>?_
   obtain ⟨hq,hm⟩:=hm
   refine op1 (index (e:=48) (k:=.i64) T hS kr kr kr kr h102 kr kr hq.1 hq.2 ?_)
   intro Kc a h105 hS
   refine op1 (eS T hS kr kr kr h105 kr kr ?_)
   intro v106 a hv hS
   obtain ⟨A7,AY,hv,h109⟩:=hv
   subst hv
   replace hm:=hm (h109.sm kr)
   refine op1 (call hS kr kr hb21 kr (fun _ _=>rfl) (LM _ _ (gi h_.ae bD) A7 AY h109) ?_)
   intro v110 a DS uN hE hp hS
   replace hO:=hO.m2 hE
   replace h102:=h102.m1 hE
   replace h103:=h103.m1 hE
   replace h105:=h105.m1 hE
   replace h109:=h109.m1 hE
   obtain ⟨fX,hr⟩:∃ r,ig (gi h_.ae bD)=r:=⟨_,rfl⟩
   replace hm:=hm fX hr
   rw [hr] at hp
   clear hr
   subst hp
   refine ePe T hS [22,23,24,25,26] [(27,B (!fX))] fun a hS=>?_
   refine aI hS (b:=(!fX)) kr (fun hb=>?_) fun hb=>?_
   ·replace hm:=hm.1 hb
    refine rP T hS ⟨[(2,B false)],[]⟩ fun a hS=>?_
    refine ba ?_
    exact fin T hS hO (fun c=>c) rfl (r:=[.bool false]) kr (fun X' hM hC=>⟨false,hm,rfl⟩)
   replace hm:=hm.2 hb
   refine aO ?_
   refine region (ePe T hS [27] [(3,I (wR (bD+1)))] fun a hS=>?_)
   exact ⟨wR (bD+1),⟨Z,_,hm.1,hS.sl _,hO,h102,h103⟩,hm.2⟩
  replace hm:=hm.2 hb
  refine cu (by rfl) ?_
  exact ⟨Z,_,hm,hS.sl _,hO⟩
 rintro a Bs ⟨Z,uM,hm,hS,hO⟩
 unfold VC6_J1 at hm
 refine rPe T hS [] [(2,B true)] fun a hS=>?_
 refine ba ?_
 exact fin T hS hO (fun c=>c) rfl (r:=[.bool true]) kr (fun X' hM hC=>⟨true,hm,rfl⟩)
theorem C6 (LM:S21) (v:∀ (h_:ak),VC6 h_ (fun r=>r=ie h_)):S6:=by
 intro w X h_ a1 c1 a2 c2   h1 h2
 refine (W6 LM w X h_ a1 c1 a2 c2   _ (v h_) h1 h2).mono ?_
 rintro _ _ _ _ ⟨r,rfl,h⟩
 exact h
end Go.Proofs.YteahldlmkheleaaGreat
