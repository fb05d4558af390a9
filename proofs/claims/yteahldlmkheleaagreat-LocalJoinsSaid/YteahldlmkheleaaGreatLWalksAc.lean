/- Walks of the functions: each returns what its condition asks. -/
import Derived.Test.YteahldlmkheleaaGreatLWalksS
set_option linter.all false
namespace Go.Proofs.YteahldlmkheleaaGreat
open Go Go.Sv
abbrev zAc0 (cM:Nat):Nat->Nat:=fun c=>(bif Nat.beq c 1009 then cM else c)
abbrev zAc1 (cM:Nat):Nat->Nat:=fun c=>(bif Nat.beq c 1003 then cM else c)
abbrev zAc2 (i1 i2 i3 i4 m3 m4:Nat):List (Nat × Nat):=[(i1,901),(i2,902),(i3,903),(i4,904),(m3,2003),(m4,2004)]
set_option maxHeartbeats 1000000
theorem W38 (Gr:S66) (w0) (X0) (l_:List ab) (aj:List aa) (pending:Bool) (a1) (c1) (a2) (c2) (Q:(List Int)->Prop) (hm:VC38 l_ aj pending Q) (h1:RS ar w0 X0 a1 l_ c1) (h2:RS av w0 X0 a2 aj c2) :
  Ret Tryz.prog 38 #[.slice a1 l_.length c1,.slice a2 aj.length c2,.bool pending] aM w0 X0 (fun w X' v=>∃ r,Q r/\∃ cQ cN,v=.slice cQ r.length cN/\RS tI w X' cQ r cN):=by
 unfold VC38 at hm
 replace hm:=hm (h1.sm kr)
 replace hm:=hm (h2.sm kr)
 refine enter Tryz.func38 rfl (vals:=[.slice a1 l_.length c1,.slice a2 aj.length c2,.bool pending]) kr ?_
 intro Z a hS hO hM
 replace h1:=h1.m0 hM
 replace h2:=h2.m0 hM
 refine rPe T hS [] [] fun a hS=>?_
 refine rPe T hS [] [(7,V (.slice none 0 0))] fun a hS=>?_
 refine cb (fun a w=>∃ (Z:Nat->Nat) (X:Nat->Nat) (bD:List Int) (dw:Option Addr) (dv:Nat),VC38_J1 Q bD/\St Tryz.f38.ntmps ⟨[(7,Sl dw bD dv)],[]⟩ Z a w X/\Old w0 X0 w X/\OS tI 3 w X 1007 dw bD dv) ?_ ?_
 ·refine rPe T hS [] [(8,I 0)] fun a hS=>?_
  refine aQ ?_
  obtain ⟨I1,μ1,cJ,hm⟩:=hm
  refine cH (σ:=(List Int) × Int) (fun s a w=>∃ Z X gR gQ,I1 s.1 s.2/\St Tryz.f38.ntmps ⟨[(0,Sl a1 l_ c1),(1,Sl a2 aj c2),(2,B pending),(7,Sl gR s.1 gQ),(8,I s.2)],[]⟩ Z a w X/\Old w0 X0 w X/\RS ar w X a1 l_ c1/\RS av w X a2 aj c2/\OS tI 3 w X 1007 gR s.1 gQ) (fun s=>μ1 s.1 s.2) (⟨[],0⟩) ?_ ?_
  ·exact ⟨Z,_,none,0,cJ,hS.sl _,hO,h1,h2,(OS.nil _ _ _ _ _)⟩
  rintro ⟨c7,bg⟩ a DK ⟨Z,A9,gR,gQ,hI,hS,hO,h107,h108,h112⟩
  replace hm:=hm c7 bg hI
  clear hI cJ
  refine bh ?_
  refine rPe T hS [] [(12,B (decide (bg < (lN l_))))] fun a hS=>?_
  refine aI hS (b:=decide (bg < (lN l_))) kr (fun hb=>?_) fun hb=>?_
  ·replace hm:=hm.1 hb
   refine aO ?_
   refine cb (fun a w=>∃ (Z:Nat->Nat) (X:Nat->Nat) (a9:List Int) (lH:Option Addr) (lE:Nat),VC38_J2 I1 μ1 c7 bg a9/\St Tryz.f38.ntmps ⟨[(0,Sl a1 l_ c1),(1,Sl a2 aj c2),(2,B pending),(7,Sl lH a9 lE),(8,I bg)],[]⟩ Z a w X/\Old w0 X0 w X/\RS ar w X a1 l_ c1/\RS av w X a2 aj c2/\OS tI 3 w X 1007 lH a9 lE) ?_ ?_
   ·refine aQ ?_
    refine cb (fun a w=>∃ (Z:Nat->Nat) (X:Nat->Nat) (aX:List Int) (nz:Bool) (pB:Option Addr) (px:Nat),VC38_J3 I1 μ1 c7 bg aX nz/\St Tryz.f38.ntmps ⟨[(0,Sl a1 l_ c1),(1,Sl a2 aj c2),(2,B pending),(7,Sl pB aX px),(8,I bg),(28,B nz)],[]⟩ Z a w X/\Old w0 X0 w X/\RS ar w X a1 l_ c1/\RS av w X a2 aj c2/\OS tI 3 w X 1007 pB aX px) ?_ ?_
    ·refine region ?_
     refine oPe T hS 2 [12] [(15,Sl a2 aj c2),(16,I bg)] fun a hS=>?_
     refine op1 (call hS kr kr hb66 kr (fun _ _=>rfl) (Gr _ _ aj bg a2 c2 h108) ?_)
     intro v136 a F1 Ho hE hp hS
     replace hO:=hO.m2 hE
     replace h107:=h107.m1 hE
     replace h108:=h108.m1 hE
     replace h112:=h112.m2 hE
     obtain ⟨gO,hr⟩:∃ r,cl aj bg=r:=⟨_,rfl⟩
     replace hm:=hm gO hr
     rw [hr] at hp
     clear hr
     subst hp
     refine oPe T hS 2 [15,16,17] [(19,B (decide (gO < 0)))] fun a hS=>?_
     rcases bft (decide (gO < 0)) with hb | hb
     ·replace hS:=hS.lit (t:=19) kr hb
      replace hm:=hm.1 hb
      refine oPe T hS 2 [] [(20,Sl a1 l_ c1),(21,I bg)] fun a hS=>?_
      obtain ⟨hq,hm⟩:=hm
      refine op1 (index (e:=102) (k:=.i64) T hS kr kr kr kr h107 kr kr hq.1 hq.2 ?_)
      intro Hq a h141 hS
      refine op1 (fD (off:=3) (fsz:=1) (ft:=3) (TF:=tI) (y:=(gi l_ bg).End) T hS kr kr kr h141 kr kr kr (fun cs h=>mJ h) ?_)
      intro Ns a h143 hS
      refine op1 (eT T hS kr kr kr h143 rfl kr ?_)
      intro v144 a hv hS
      cases hv
      refine ePe T hS [19,20,21,22,23,24] [(28,B ((((gi l_ bg).End) == (-1)) == pending))] fun a hS=>?_
      exact ⟨Z,_,c7,((((gi l_ bg).End) == (-1)) == pending),gR,gQ,hm,hS.sl _,hO,h107,h108,h112⟩
     replace hS:=hS.lit (t:=19) kr hb
     replace hm:=hm.2 hb
     refine ePe T hS [19] [(28,B false)] fun a hS=>?_
     exact ⟨Z,_,c7,false,gR,gQ,hm,hS.sl _,hO,h107,h108,h112⟩
    rintro a DM ⟨Z,Bb,aX,nz,pB,px,hm,hS,hO,h120,h121,h125⟩
    unfold VC38_J3 at hm
    refine aI hS (b:=nz) kr (fun hb=>?_) fun hb=>?_
    ·replace hm:=hm.1 hb
     refine region ?_
     refine oPe T hS 2 [28] [(29,Sl pB aX px),(30,I bg)] fun a hS=>?_
     refine op1 (lit (E:=3) (col:=0) (T:=tI) (vals:=[.int .i64 bg]) (ys:=[bg]) T hS kr kr kr kr (by exact ⟨rfl,trivial⟩) rfl kr kr kr kr ?_)
     intro b127 a r8 se hE h130 hN hS
     clear hN
     replace hO:=hO.m2 hE
     replace h120:=h120.m1 hE
     replace h121:=h121.m1 hE
     replace h125:=h125.m2 hE
     replace h130:=h130.rs0
     obtain ⟨hq,hm⟩:=hm
     obtain ⟨news,hN⟩:=h130.src
     refine op1 (append (E:=3) (T:=tI) (col:=1007) (xs:=aX) T hS kr kr kr kr h125 hN kr kr kr kr hq ?_)
     intro A6 AX a r7 rS hE h133 hS
     clear hq hN
     clear h125
     replace hO:=hO.m2 hE
     replace h120:=h120.m1 hE
     replace h121:=h121.m1 hE
     replace h130:=h130.m1 hE
     refine ePe T hS [30,31,32] [(7,Sl A6 (aX++[bg]) AX)] fun a hS=>?_
     exact ⟨Z,_,aX++[bg],A6,AX,hm,hS.sl _,hO,h120,h121,h133⟩
    replace hm:=hm.2 hb
    refine aO ?_
    exact ⟨Z,_,aX,pB,px,hm,hS.sl _,hO,h120,h121,h125⟩
   rintro a DL ⟨Z,J3,a9,lH,lE,hm,hS,hO,h114,h115,h119⟩
   unfold VC38_J2 at hm
   refine region (ePe T hS [] [(8,I (wR (bg+1)))] fun a hS=>?_)
   exact ⟨⟨a9,wR (bg+1)⟩,⟨Z,_,lH,lE,hm.1,hS.sl _,hO,h114,h115,h119⟩,hm.2⟩
  replace hm:=hm.2 hb
  refine cu (by rfl) ?_
  exact ⟨Z,_,c7,gR,gQ,hm,hS.sl _,hO,h112⟩
 rintro a H0 ⟨Z,J2,bD,dw,dv,hm,hS,hO,h104⟩
 unfold VC38_J1 at hm
 refine rPe T hS [7] [(6,Sl dw bD dv)] fun a hS=>?_
 refine ba ?_
 obtain ⟨pD,hE,hF⟩:=h104.freeze (by decide)
 replace hS:=hS.ev hE (c6 kr)
 replace hO:=hO.m2 hE
 have h106:=hF; clear hE hF
 exact fin T hS hO (fun c=>c) rfl (r:=[.slice dw bD.length dv]) kr (fun X' hM hC=>⟨bD,hm,dw,dv,rfl,h106.m0 hM⟩)
theorem C38 (Gr:S66) (v:∀ (l_:List ab) (aj:List aa) (pending:Bool),sC l_ aj pending->VC38 l_ aj pending (fun r=>r=eW l_ aj pending)):S38:=by
 intro w X l_ aj pending a1 c1 a2 c2   hp h1 h2
 refine (W38 Gr w X l_ aj pending a1 c1 a2 c2   _ (v l_ aj pending hp) h1 h2).mono ?_
 rintro _ _ _ _ ⟨r,rfl,h⟩
 exact h
theorem W114 (w0) (X0) (i_:Int) (aq:List Bool) (a1) (c1) (b1) (i1) (Q:Bool->Prop) (hm:VC114 i_ aq Q) (h1:RS dJ w0 X0 a1 aq c1) (fF:Cell w0 X0 b1 i1 158 [.slice a1 aq.length c1]) (hA:dS [i1]) :
  Ret Tryz.prog 114 #[.int .i64 i_,.pointer (some ⟨b1,0,none⟩)] (pR [i1]) w0 X0 (fun w X' v=>∃ r,Q r/\v=.bool r/\Cell w X' b1 i1 158 [.slice a1 aq.length c1]):=by
 unfold VC114 at hm
 replace hm:=hm (h1.sm kr)
 refine fT Tryz.func114 rfl (dH [(i1,901)]) (fun id=>(bif Nat.beq id 901 then b1 else 0)) (args:=[I i_,Pt 901 0]) (bxs:=[(901,(158,[Sl a1 aq c1]))]) kr rfl (bq.cons kr (fF.map (bQ 0 hA.1 rfl)) bq.nil) (fJ (fun q hq=>(hA.2 q.1 (List.mem_map.2 ⟨q,hq,rfl⟩)).1)) ?_
 intro a hS hO hM
 have hP:Pin [(901,b1)] (fun id=>(bif Nat.beq id 901 then b1 else 0)):=by intro q hq; simp at hq; rcases hq with rfl <;> rfl
 generalize (fun id=>(bif Nat.beq id 901 then b1 else 0))=Z at hS hP
 clear fF
 replace h1:=h1.m0 hM
 refine rPe T hS [] [] fun a hS=>?_
 refine br ?_
 refine oPe T hS 5 [] [(8,B (decide (i_ < (lN aq))))] fun a hS=>?_
 rcases bft (decide (i_ < (lN aq))) with hb | hb
 ·replace hS:=hS.lit (t:=8) kr hb
  replace hm:=hm.1 hb
  refine oPe T hS 2 [0,1] [(9,Sl a1 aq c1),(10,I i_)] fun a hS=>?_
  obtain ⟨hq,hm⟩:=hm
  refine op1 (index (e:=4) (k:=.i64) T hS kr kr kr kr h1 kr kr hq.1 hq.2 ?_)
  intro Kd a h102 hS
  refine op1 (eT T hS kr kr kr h102 rfl kr ?_)
  intro v103 a hv hS
  cases hv
  refine ePe T hS [8,9,10,11,12] [(3,B (gi aq i_))] fun a hS=>?_
  refine ba ?_
  exact g9 T hS hO (fun c h=>bZ kr h) (fun c h=>b0 (l:=[(i1,901)]) h) (bT [(i1,901)]) rfl (r:=[.bool (gi aq i_)]) kr (fun X' hM hC=>⟨(gi aq i_),hm,rfl,((hS.cell (id:=901) (t:=158) (cs:=[Sl a1 aq c1]) kr).out (f:=(bT [(i1,901)])) hC kr kr (hP.at 0 rfl))⟩)
 replace hS:=hS.lit (t:=8) kr hb
 replace hm:=hm.2 hb
 refine ePe T hS [0,1,8] [(3,B false)] fun a hS=>?_
 refine ba ?_
 exact g9 T hS hO (fun c h=>bZ kr h) (fun c h=>b0 (l:=[(i1,901)]) h) (bT [(i1,901)]) rfl (r:=[.bool false]) kr (fun X' hM hC=>⟨false,hm,rfl,((hS.cell (id:=901) (t:=158) (cs:=[Sl a1 aq c1]) kr).out (f:=(bT [(i1,901)])) hC kr kr (hP.at 0 rfl))⟩)
theorem C114 (v:∀ (i_:Int) (aq:List Bool),vw i_ aq->VC114 i_ aq (fun r=>r=fq i_ aq)):S114:=by
 intro w X i_ aq a1 c1  b1 i1 hp h1 fF hA
 refine (W114 w X i_ aq a1 c1  b1 i1 _ (v i_ aq hp) h1 fF hA).mono ?_
 rintro _ _ _ _ ⟨r,rfl,h⟩
 exact h
theorem W112 (Eb:S114) (xV:S63) (w0) (X0) (l_:List ab) (done:List Bool) (a1) (c1) (a2) (c2) (Q:(List Int)->Prop) (hm:VC112 l_ done Q) (h1:RS ar w0 X0 a1 l_ c1) (h2:RS dJ w0 X0 a2 done c2) :
  Ret Tryz.prog 112 #[.slice a1 l_.length c1,.slice a2 done.length c2] aM w0 X0 (fun w X' v=>∃ r,Q r/\∃ cQ cN,v=.slice cQ r.length cN/\RS tI w X' cQ r cN):=by
 unfold VC112 at hm
 replace hm:=hm (h1.sm kr)
 replace hm:=hm (h2.sm kr)
 refine enter Tryz.func112 rfl (vals:=[.slice a1 l_.length c1,.slice a2 done.length c2]) kr ?_
 intro Z a hS hO hM
 replace h1:=h1.m0 hM
 replace h2:=h2.m0 hM
 refine rM T hS ⟨[(0,Sl a1 l_ c1),(3,Pt 4 0)],[(4,(158,[Sl a2 done c2]))]⟩ fun Z a KA M7 hS hE hr=>?_
 replace hO:=hO.m2 hE
 replace h1:=h1.m1 hE
 replace h2:=h2.m1 hE
 clear hE hr
 refine rPe T hS [3] [(5,.f (.func 114) [] [.p 4 0])] fun a hS=>?_
 refine rPe T hS [] [(6,V (.slice none 0 0))] fun a hS=>?_
 refine cb (fun a w=>∃ (Z:Nat->Nat) (X:Nat->Nat) (bD:List Int) (dw:Option Addr) (dv:Nat),VC112_J1 Q bD/\St Tryz.f112.ntmps ⟨[(6,Sl dw bD dv)],[]⟩ Z a w X/\Old w0 X0 w X/\OS tI 3 w X 1005 dw bD dv) ?_ ?_
 ·refine rPe T hS [] [(13,Sl a1 l_ c1),(14,I (lN l_)),(15,I 0)] fun a hS=>?_
  refine aQ ?_
  obtain ⟨I1,μ1,cJ,hm⟩:=hm
  refine cH (σ:=(List Int) × Int) (fun s a w=>∃ Z X cA cz,I1 s.1 s.2/\St Tryz.f112.ntmps ⟨[(0,Sl a1 l_ c1),(5,.f (.func 114) [] [.p 4 0]),(6,Sl cA s.1 cz),(13,Sl a1 l_ c1),(14,I (lN l_)),(15,I s.2)],[(4,(158,[Sl a2 done c2]))]⟩ Z a w X/\Old w0 X0 w X/\RS ar w X a1 l_ c1/\OS tI 3 w X 1005 cA s.1 cz/\RS ar w X a1 l_ c1/\RS dJ w X a2 done c2) (fun s=>μ1 s.1 s.2) (⟨[],0⟩) ?_ ?_
  ·exact ⟨Z,_,none,0,cJ,hS.sl _,hO,h1,(OS.nil _ _ _ _ _),h1,h2⟩
  rintro ⟨dz,bg⟩ a HR ⟨Z,M8,cA,cz,hI,hS,hO,h107,h111,h112,h114⟩
  replace hm:=hm dz bg hI
  clear hI cJ
  refine rPe T hS [] [(16,B (decide (bg < (lN l_))))] fun a hS=>?_
  refine bh ?_
  refine aI hS (b:=decide (bg < (lN l_))) kr (fun hb=>?_) fun hb=>?_
  ·replace hm:=hm.1 hb
   refine aO ?_
   refine cb (fun a w=>∃ (Z:Nat->Nat) (X:Nat->Nat) (a9:List Int) (lH:Option Addr) (lE:Nat),VC112_J2 I1 μ1 dz bg a9/\St Tryz.f112.ntmps ⟨[(0,Sl a1 l_ c1),(5,.f (.func 114) [] [.p 4 0]),(6,Sl lH a9 lE),(13,Sl a1 l_ c1),(14,I (lN l_)),(15,I bg)],[(4,(158,[Sl a2 done c2]))]⟩ Z a w X/\Old w0 X0 w X/\RS ar w X a1 l_ c1/\OS tI 3 w X 1005 lH a9 lE/\RS ar w X a1 l_ c1/\RS dJ w X a2 done c2) ?_ ?_
   ·refine aQ ?_
    refine br ?_
    refine oPe T hS 1 [16] [(17,I bg)] fun a hS=>?_
    obtain ⟨hq,hm⟩:=hm
    refine op1 (index (e:=102) (k:=.i64) T hS kr kr kr kr h112 kr kr hq.1 hq.2 ?_)
    intro Dl a h123 hS
    refine op1 (eS T hS kr kr kr h123 kr kr ?_)
    intro v124 a hv hS
    subst hv
    refine eM T hS ⟨[(0,Sl a1 l_ c1),(5,.f (.func 114) [] [.p 4 0]),(6,Sl cA dz cz),(7,I bg),(8,Pt 9 0),(13,Sl a1 l_ c1),(14,I (lN l_)),(15,I bg)],[(4,(158,[Sl a2 done c2])),(9,(102,(cP (gi l_ bg))))]⟩ fun Z a FW JU hS hE hr=>?_
    replace hO:=hO.m2 hE
    replace h107:=h107.m1 hE
    replace h111:=h111.m2 hE
    replace h112:=h112.m1 hE
    replace h114:=h114.m1 hE
    clear hE hr
    refine br ?_
    refine oPe T hS 2 [] [(20,.f (.func 114) [] [.p 4 0]),(21,I bg)] fun a hS=>?_
    obtain ⟨hq,hm⟩:=hm
    refine op1 (ko (fi:=[]) (cp:=[.p 4 0]) hS kr kr hb114 kr kr (Eb _ _ bg done a2 c2 (Z 4) 4 hq h114 (hS.cell (id:=4) (t:=158) (cs:=[Sl a2 done c2]) kr) ⟨by decide,by decide⟩) ?_)
    intro v125 a uW rT hE hp hS
    replace hO:=hO.m2 hE
    replace h107:=h107.m1 hE
    replace h111:=h111.m2 hE
    replace h112:=h112.m1 hE
    replace h114:=h114.m1 hE
    obtain ⟨hp,vN⟩:=hp
    obtain ⟨bU,hr⟩:∃ r,fq bg done=r:=⟨_,rfl⟩
    replace hm:=hm bU hr
    rw [hr] at hp
    clear hr
    subst hp
    replace hS:=hS.cI (id:=4) (t:=158) (cs:=[Sl a2 done c2]) kr vN
    clear vN
    refine ePe T hS [20,21,22] [(9,B (!bU))] fun a hS=>?_
    refine cb (fun a w=>∃ (Z:Nat->Nat) (X:Nat->Nat) (gd:List Int) (gv:Bool) (hU:Option Addr) (hK:Nat),VC112_J3 I1 μ1 dz bg gd gv/\St Tryz.f112.ntmps ⟨[(0,Sl a1 l_ c1),(5,.f (.func 114) [] [.p 4 0]),(6,Sl hU gd hK),(7,I bg),(9,B gv),(13,Sl a1 l_ c1),(14,I (lN l_)),(15,I bg)],[(4,(158,[Sl a2 done c2]))]⟩ Z a w X/\Old w0 X0 w X/\RS ar w X a1 l_ c1/\OS tI 3 w X 1005 hU gd hK/\RS ar w X a1 l_ c1/\RS dJ w X a2 done c2) ?_ ?_
    ·refine rPe T hS [] [(24,Sl a1 l_ c1),(25,I (lN l_)),(26,I 0)] fun a hS=>?_
     refine aQ ?_
     obtain ⟨I2,μ2,cJ,hm⟩:=hm
     refine cH (σ:=(List Int) × Bool × Int) (fun s a w=>∃ Z X mF mD,I2 s.1 s.2.1 s.2.2/\St Tryz.f112.ntmps ⟨[(0,Sl a1 l_ c1),(5,.f (.func 114) [] [.p 4 0]),(6,Sl mF s.1 mD),(7,I bg),(8,Pt 9 0),(9,B s.2.1),(13,Sl a1 l_ c1),(14,I (lN l_)),(15,I bg),(24,Sl a1 l_ c1),(25,I (lN l_)),(26,I s.2.2)],[(4,(158,[Sl a2 done c2])),(9,(102,(cP (gi l_ bg))))]⟩ Z a w X/\Old w0 X0 w X/\RS ar w X a1 l_ c1/\OS tI 3 w X 1005 mF s.1 mD/\RS ar w X a1 l_ c1/\RS ar w X a1 l_ c1/\RS dJ w X a2 done c2) (fun s=>μ2 s.1 s.2.1 s.2.2) (⟨dz,(!bU),0⟩) ?_ ?_
     ·exact ⟨Z,_,cA,cz,cJ,hS.sl _,hO,h107,h111,h112,h107,h114⟩
     rintro ⟨rY,fU,jH⟩ a KE ⟨Z,JV,mF,mD,hI,hS,hO,h147,h151,h153,h154,h156⟩
     replace hm:=hm rY fU jH hI
     clear hI cJ
     refine rPe T hS [] [(27,B (decide (jH < (lN l_))))] fun a hS=>?_
     refine bh ?_
     refine aI hS (b:=decide (jH < (lN l_))) kr (fun hb=>?_) fun hb=>?_
     ·replace hm:=hm.1 hb
      refine aO ?_
      refine cb (fun a w=>∃ (Z:Nat->Nat) (X:Nat->Nat) (Bn:List Int) (DD:Bool) (oV:Option Addr) (oO:Nat),VC112_J4 I2 μ2 rY fU jH Bn DD/\St Tryz.f112.ntmps ⟨[(0,Sl a1 l_ c1),(5,.f (.func 114) [] [.p 4 0]),(6,Sl oV Bn oO),(7,I bg),(8,Pt 9 0),(9,B DD),(13,Sl a1 l_ c1),(14,I (lN l_)),(15,I bg),(24,Sl a1 l_ c1),(25,I (lN l_)),(26,I jH)],[(4,(158,[Sl a2 done c2])),(9,(102,(cP (gi l_ bg))))]⟩ Z a w X/\Old w0 X0 w X/\RS ar w X a1 l_ c1/\OS tI 3 w X 1005 oV Bn oO/\RS ar w X a1 l_ c1/\RS ar w X a1 l_ c1/\RS dJ w X a2 done c2) ?_ ?_
      ·refine aQ ?_
       refine br ?_
       refine oPe T hS 1 [27] [(28,I jH)] fun a hS=>?_
       obtain ⟨hq,hm⟩:=hm
       refine op1 (index (e:=102) (k:=.i64) T hS kr kr kr kr h154 kr kr hq.1 hq.2 ?_)
       intro R5 a h167 hS
       refine op1 (eS T hS kr kr kr h167 kr kr ?_)
       intro v168 a hv hS
       subst hv
       refine eM T hS ⟨[(0,Sl a1 l_ c1),(5,.f (.func 114) [] [.p 4 0]),(6,Sl mF rY mD),(7,I bg),(8,Pt 9 0),(9,B fU),(10,I jH),(11,Pt 12 0),(13,Sl a1 l_ c1),(14,I (lN l_)),(15,I bg),(24,Sl a1 l_ c1),(25,I (lN l_)),(26,I jH)],[(4,(158,[Sl a2 done c2])),(9,(102,(cP (gi l_ bg)))),(12,(102,(cP (gi l_ jH))))]⟩ fun Z a DF EI hS hE hr=>?_
       replace hO:=hO.m2 hE
       replace h147:=h147.m1 hE
       replace h151:=h151.m2 hE
       replace h153:=h153.m1 hE
       replace h154:=h154.m1 hE
       replace h156:=h156.m1 hE
       clear hE hr
       refine region ?_
       refine oPe T hS 2 [] [(32,B fU)] fun a hS=>?_
       rcases bft fU with hb | hb
       ·replace hS:=hS.lit (t:=32) kr hb
        replace hm:=hm.1 hb
        refine oPe T hS 2 [10] [(33,.f (.func 114) [] [.p 4 0]),(34,I jH)] fun a hS=>?_
        obtain ⟨hq,hm⟩:=hm
        refine op1 (ko (fi:=[]) (cp:=[.p 4 0]) hS kr kr hb114 kr kr (Eb _ _ jH done a2 c2 (Z 4) 4 hq h156 (hS.cell (id:=4) (t:=158) (cs:=[Sl a2 done c2]) kr) ⟨by decide,by decide⟩) ?_)
        intro v169 a KJ Nf hE hp hS
        replace hO:=hO.m2 hE
        replace h147:=h147.m1 hE
        replace h151:=h151.m2 hE
        replace h153:=h153.m1 hE
        replace h154:=h154.m1 hE
        replace h156:=h156.m1 hE
        obtain ⟨hp,Fg⟩:=hp
        obtain ⟨xE,hr⟩:∃ r,fq jH done=r:=⟨_,rfl⟩
        replace hm:=hm xE hr
        rw [hr] at hp
        clear hr
        subst hp
        replace hS:=hS.cI (id:=4) (t:=158) (cs:=[Sl a2 done c2]) kr Fg
        clear Fg
        refine oPe T hS 1 [33,34,35] [(36,B xE)] fun a hS=>?_
        rcases bft xE with hb | hb
        ·replace hS:=hS.lit (t:=36) kr hb
         replace hm:=hm.1 hb
         refine eP T hS ⟨[(0,Sl a1 l_ c1),(5,.f (.func 114) [] [.p 4 0]),(6,Sl mF rY mD),(7,I bg),(8,Pt 9 0),(9,B true),(13,Sl a1 l_ c1),(14,I (lN l_)),(15,I bg),(24,Sl a1 l_ c1),(25,I (lN l_)),(26,I jH)],[(4,(158,[Sl a2 done c2])),(9,(102,(cP (gi l_ bg))))]⟩ fun a hS=>?_
         exact ⟨Z,_,rY,true,mF,mD,hm,hS.sl _,hO,h147,h151,h153,h154,h156⟩
        replace hS:=hS.lit (t:=36) kr hb
        replace hm:=hm.2 hb
        refine oP T hS 2 ⟨[(0,Sl a1 l_ c1),(5,.f (.func 114) [] [.p 4 0]),(6,Sl mF rY mD),(7,I bg),(8,Pt 9 0),(9,B fU),(13,Sl a1 l_ c1),(14,I (lN l_)),(15,I bg),(24,Sl a1 l_ c1),(25,I (lN l_)),(26,I jH),(32,B true),(36,B false),(37,V (.agg #[.int .i64 ((gi l_ jH).ah),.int .i64 ((gi l_ jH).Kind),.int .i64 ((gi l_ jH).aG),.int .i64 ((gi l_ jH).End),.int .i64 ((gi l_ jH).Result)])),(38,V (.agg #[.int .i64 ((gi l_ bg).ah),.int .i64 ((gi l_ bg).Kind),.int .i64 ((gi l_ bg).aG),.int .i64 ((gi l_ bg).End),.int .i64 ((gi l_ bg).Result)]))],[(4,(158,[Sl a2 done c2])),(9,(102,(cP (gi l_ bg))))]⟩ fun a hS=>?_
        refine op1 (call hS kr kr hb63 kr (fun _ _=>rfl) (xV _ _ (gi l_ jH) (gi l_ bg)) ?_)
        intro v174 a HT Hh hE hp hS
        replace hO:=hO.m2 hE
        replace h147:=h147.m1 hE
        replace h151:=h151.m2 hE
        replace h153:=h153.m1 hE
        replace h154:=h154.m1 hE
        replace h156:=h156.m1 hE
        obtain ⟨Ai,hr⟩:∃ r,bf (gi l_ jH) (gi l_ bg)=r:=⟨_,rfl⟩
        replace hm:=hm Ai hr
        rw [hr] at hp
        clear hr
        subst hp
        refine ePe T hS [32,36,37,38,39] [(9,B (!Ai))] fun a hS=>?_
        exact ⟨Z,_,rY,(!Ai),mF,mD,hm,hS.sl _,hO,h147,h151,h153,h154,h156⟩
       replace hS:=hS.lit (t:=32) kr hb
       replace hm:=hm.2 hb
       refine eP T hS ⟨[(0,Sl a1 l_ c1),(5,.f (.func 114) [] [.p 4 0]),(6,Sl mF rY mD),(7,I bg),(8,Pt 9 0),(9,B false),(13,Sl a1 l_ c1),(14,I (lN l_)),(15,I bg),(24,Sl a1 l_ c1),(25,I (lN l_)),(26,I jH)],[(4,(158,[Sl a2 done c2])),(9,(102,(cP (gi l_ bg))))]⟩ fun a hS=>?_
       exact ⟨Z,_,rY,false,mF,mD,hm,hS.sl _,hO,h147,h151,h153,h154,h156⟩
      rintro a KF ⟨Z,Ro,Bn,DD,oV,oO,hm,hS,hO,h157,h161,h163,h164,h165⟩
      unfold VC112_J4 at hm
      refine region (ePe T hS [] [(26,I (wR (jH+1)))] fun a hS=>?_)
      exact ⟨⟨Bn,DD,wR (jH+1)⟩,⟨Z,_,oV,oO,hm.1,hS.sl _,hO,h157,h161,h163,h164,h165⟩,hm.2⟩
     replace hm:=hm.2 hb
     refine cu (by rfl) ?_
     exact ⟨Z,_,rY,fU,mF,mD,hm,hS.sl _,hO,h147,h151,h153,h156⟩
    rintro a KD ⟨Z,Nb,gd,gv,hU,hK,hm,hS,hO,h130,h134,h136,h137⟩
    unfold VC112_J3 at hm
    refine rPe T hS [9] [(44,B gv)] fun a hS=>?_
    refine aI hS (b:=gv) kr (fun hb=>?_) fun hb=>?_
    ·replace hm:=hm.1 hb
     refine region ?_
     refine oPe T hS 2 [7,44] [(45,Sl hU gd hK),(46,I bg)] fun a hS=>?_
     refine op1 (lit (E:=3) (col:=0) (T:=tI) (vals:=[.int .i64 bg]) (ys:=[bg]) T hS kr kr kr kr (by exact ⟨rfl,trivial⟩) rfl kr kr kr kr ?_)
     intro b138 a tu wQ hE h141 hN hS
     clear hN
     replace hO:=hO.m2 hE
     replace h130:=h130.m1 hE
     replace h134:=h134.m2 hE
     replace h136:=h136.m1 hE
     replace h137:=h137.m1 hE
     replace h141:=h141.rs0
     obtain ⟨hq,hm⟩:=hm
     obtain ⟨news,hN⟩:=h141.src
     refine op1 (append (E:=3) (T:=tI) (col:=1005) (xs:=gd) T hS kr kr kr kr h134 hN kr kr kr kr hq ?_)
     intro wN wC a r6 sd hE h144 hS
     clear hq hN
     clear h134
     replace hO:=hO.m2 hE
     replace h130:=h130.m1 hE
     replace h136:=h136.m1 hE
     replace h137:=h137.m1 hE
     replace h141:=h141.m1 hE
     refine ePe T hS [46,47,48] [(6,Sl wN (gd++[bg]) wC)] fun a hS=>?_
     exact ⟨Z,_,gd++[bg],wN,wC,hm,hS.sl _,hO,h130,h144,h136,h137⟩
    replace hm:=hm.2 hb
    refine aO ?_
    exact ⟨Z,_,gd,hU,hK,hm,hS.sl _,hO,h130,h134,h136,h137⟩
   rintro a KC ⟨Z,M9,a9,lH,lE,hm,hS,hO,h115,h119,h120,h121⟩
   unfold VC112_J2 at hm
   refine region (ePe T hS [] [(15,I (wR (bg+1)))] fun a hS=>?_)
   exact ⟨⟨a9,wR (bg+1)⟩,⟨Z,_,lH,lE,hm.1,hS.sl _,hO,h115,h119,h120,h121⟩,hm.2⟩
  replace hm:=hm.2 hb
  refine cu (by rfl) ?_
  exact ⟨Z,_,dz,cA,cz,hm,hS.sl _,hO,h111⟩
 rintro a KB ⟨Z,JT,bD,dw,dv,hm,hS,hO,h104⟩
 unfold VC112_J1 at hm
 refine rPe T hS [6] [(4,Sl dw bD dv)] fun a hS=>?_
 refine ba ?_
 obtain ⟨pD,hE,hF⟩:=h104.freeze (by decide)
 replace hS:=hS.ev hE (c6 kr)
 replace hO:=hO.m2 hE
 have h106:=hF; clear hE hF
 exact fin T hS hO (fun c=>c) rfl (r:=[.slice dw bD.length dv]) kr (fun X' hM hC=>⟨bD,hm,dw,dv,rfl,h106.m0 hM⟩)
theorem C112 (Eb:S114) (xV:S63) (v:∀ (l_:List ab) (done:List Bool),yY l_ done->VC112 l_ done (fun r=>r=fb l_ done)):S112:=by
 intro w X l_ done a1 c1 a2 c2   hp h1 h2
 refine (W112 Eb xV w X l_ done a1 c1 a2 c2   _ (v l_ done hp) h1 h2).mono ?_
 rintro _ _ _ _ ⟨r,rfl,h⟩
 exact h
theorem W105 (rh:S103) (GA:S112) (ui:S53) (w0) (X0) (o_:ao) (l_:List ab) (state:Int) (done:List Bool) (a1) (c1) (a2) (c2) (a3) (c3) (cM) (Q:(List aa)->Prop) (hm:VC105 o_ l_ state done Q) (h1:RS aB w0 X0 a1 o_.Rows c1) (h2:RS ar w0 X0 a2 l_ c2) (h3:RS dJ w0 X0 a3 done c3) :
  Ret Tryz.prog 105 #[.agg #[.int .i64 o_.au,.int .i64 o_.aA,.int .i64 o_.aH,.slice a1 o_.Rows.length c1],.slice a2 l_.length c2,.int .i64 state,.slice a3 done.length c3] aM w0 X0 (fun w X' v=>∃ r,Q r/\∃ cQ cN,v=.slice cQ r.length cN/\OS av 56 w X' cM cQ r cN):=by
 unfold VC105 at hm
 replace hm:=hm (h1.sm kr)
 replace hm:=hm (h2.sm kr)
 replace hm:=hm (h3.sm kr)
 refine enter Tryz.func105 rfl (vals:=[.agg #[.int .i64 o_.au,.int .i64 o_.aA,.int .i64 o_.aH,.slice a1 o_.Rows.length c1],.slice a2 l_.length c2,.int .i64 state,.slice a3 done.length c3]) kr ?_
 intro Z a hS hO hM
 replace h1:=h1.m0 hM
 replace h2:=h2.m0 hM
 replace h3:=h3.m0 hM
 refine rM T hS ⟨[(1,Sl a2 l_ c2),(2,I state),(3,Sl a3 done c3),(4,Pt 5 0)],[(5,(48,(cO o_ a1 c1)))]⟩ fun Z a HS JW hS hE hr=>?_
 replace hO:=hO.m2 hE
 replace h1:=h1.m1 hE
 replace h2:=h2.m1 hE
 replace h3:=h3.m1 hE
 clear hE hr
 refine bh ?_
 refine br ?_
 refine oPe T hS 1 [] [(18,V (.agg #[.int .i64 o_.au,.int .i64 o_.aA,.int .i64 o_.aH,.slice a1 o_.Rows.length c1]))] fun a hS=>?_
 obtain ⟨hq,hm⟩:=hm
 refine op1 (call hS kr kr hb53 kr (fun _ _=>rfl) (ui _ _ o_ a1 c1 hq h1) ?_)
 intro v101 a fH fK hE hp hS
 replace hO:=hO.m2 hE
 replace h1:=h1.m1 hE
 replace h2:=h2.m1 hE
 replace h3:=h3.m1 hE
 obtain ⟨ay,hr⟩:∃ r,bA o_=r:=⟨_,rfl⟩
 replace hm:=hm ay hr
 rw [hr] at hp
 clear hr
 subst hp
 refine ePe T hS [18,19] [(10,I ay.2)] fun a hS=>?_
 refine rPe T hS [10] [(23,B (ay.2 != 0))] fun a hS=>?_
 refine aI hS (b:=(ay.2 != 0)) kr (fun hb=>?_) fun hb=>?_
 ·replace hm:=hm.1 hb
  refine rP T hS ⟨[(8,V (.slice none 0 0))],[]⟩ fun a hS=>?_
  refine ba ?_
  exact fin T hS hO (fun c=>c) rfl (r:=[.slice none 0 0]) kr (fun X' hM hC=>⟨[],hm,none,0,rfl,OS.nil _ _ _ _ _⟩)
 replace hm:=hm.2 hb
 refine aO ?_
 refine rPe T hS [23] [(11,V (.slice none 0 0))] fun a hS=>?_
 refine cb (fun a w=>∃ (Z:Nat->Nat) (X:Nat->Nat) (gZ:List aa) (kP:Option Addr) (kN:Nat),VC105_J1 Q gZ/\St Tryz.f105.ntmps ⟨[(11,Sl kP gZ kN)],[]⟩ Z a w X/\Old w0 X0 w X/\OS av 56 w X 1009 kP gZ kN) ?_ ?_
 ·refine br ?_
  refine oPe T hS 2 [3] [(24,Sl a2 l_ c2),(25,Sl a3 done c3)] fun a hS=>?_
  obtain ⟨hq,hm⟩:=hm
  refine op1 (call hS kr kr hb112 kr (fun _ _=>rfl) (GA _ _ l_ done a2 c2 a3 c3 hq h2 h3) ?_)
  intro v109 a F3 Hp hE hp hS
  replace hO:=hO.m2 hE
  replace h1:=h1.m1 hE
  replace h2:=h2.m1 hE
  replace h3:=h3.m1 hE
  obtain ⟨jG,jE,hp,h115⟩:=hp
  obtain ⟨bM,hr⟩:∃ r,fb l_ done=r:=⟨_,rfl⟩
  replace hm:=hm bM hr
  rw [hr] at hp h115
  clear hr
  subst hp
  replace hm:=hm (h115.sm kr)
  refine ePe T hS [24,25] [(27,I (lN bM)),(28,I 0)] fun a hS=>?_
  refine aQ ?_
  obtain ⟨I1,μ1,cJ,hm⟩:=hm
  refine cH (σ:=(List aa) × Int) (fun s a w=>∃ Z X il ik,I1 s.1 s.2/\St Tryz.f105.ntmps ⟨[(1,Sl a2 l_ c2),(2,I state),(4,Pt 5 0),(11,Sl il s.1 ik),(26,Sl jG bM jE),(27,I (lN bM)),(28,I s.2)],[(5,(48,(cO o_ a1 c1)))]⟩ Z a w X/\Old w0 X0 w X/\RS ar w X a2 l_ c2/\OS av 56 w X 1009 il s.1 ik/\RS tI w X jG bM jE/\RS aB w X a1 o_.Rows c1) (fun s=>μ1 s.1 s.2) (⟨[],0⟩) ?_ ?_
  ·exact ⟨Z,_,none,0,cJ,hS.sl _,hO,h2,(OS.nil _ _ _ _ _),h115,h1⟩
  rintro ⟨dN,aX⟩ a KH ⟨Z,Hh,il,ik,hI,hS,hO,h116,h120,h121,h123⟩
  replace hm:=hm dN aX hI
  clear hI cJ
  refine rPe T hS [] [(29,B (decide (aX < (lN bM))))] fun a hS=>?_
  refine bh ?_
  refine aI hS (b:=decide (aX < (lN bM))) kr (fun hb=>?_) fun hb=>?_
  ·replace hm:=hm.1 hb
   refine aO ?_
   refine cb (fun a w=>∃ (Z:Nat->Nat) (X:Nat->Nat) (Bo:List aa) (wP:Option Addr) (wE:Nat),VC105_J2 I1 μ1 dN aX Bo/\St Tryz.f105.ntmps ⟨[(1,Sl a2 l_ c2),(2,I state),(4,Pt 5 0),(11,Sl wP Bo wE),(26,Sl jG bM jE),(27,I (lN bM)),(28,I aX)],[(5,(48,(cO o_ a1 c1)))]⟩ Z a w X/\Old w0 X0 w X/\RS ar w X a2 l_ c2/\OS av 56 w X 1009 wP Bo wE/\RS tI w X jG bM jE/\RS aB w X a1 o_.Rows c1) ?_ ?_
   ·refine aQ ?_
    refine br ?_
    obtain ⟨hq,hm⟩:=hm
    refine op1 (index (e:=3) (k:=.i64) T hS kr kr kr kr h121 kr kr hq.1 hq.2 ?_)
    intro Ka a h132 hS
    refine op1 (eT T hS kr kr kr h132 rfl kr ?_)
    intro v133 a hv hS
    cases hv
    refine ePe T hS [29,30,31] [(13,I (gi bM aX))] fun a hS=>?_
    refine dB [5] mixed hS ?_
    intro z1 ym hS hE hD hH
    replace hO:=hO.m2 hE
    replace h116:=h116.m1 hE
    replace h120:=h120.m2 hE
    replace h121:=h121.m1 hE
    replace h123:=h123.m1 hE
    refine tke T [0,1,2,3] [5] hS hH #[true,true,true,true,false,false,false,false,false,false,false,false,false,false,false] 11 [] [(33,V (.agg #[.int .i64 o_.au,.int .i64 o_.aA,.int .i64 o_.aH,.slice a1 o_.Rows.length c1])),(34,I state),(35,Sl a2 l_ c2),(36,I (gi bM aX))] fun a hS=>?_
    obtain ⟨hq,hm⟩:=hm
    refine dg (e:=102) (k:=.i64) T 4 hS kr kr kr (by rfl) kr hH kr kr h116 kr kr hq.1 hq.2 ?_
    intro Hs a h137 hS
    have zE:=h137.here
    refine dt (off:=1) (fsz:=1) (ft:=3) (TF:=tI) (y:=(gi l_ (gi bM aX)).Kind) 5 T hS kr kr kr (by rfl) kr hH kr h137 kr kr kr (fun cs h=>mK h) ?_
    intro Hr a h139 fO hS
    have zD:=zE
    rw [← fO] at zD
    clear fO
    refine dQ T 6 hS kr kr kr (by rfl) kr hH kr h139 zD rfl kr ?_
    intro v140 a hv hS
    cases hv
    refine only 7 kr (by rfl) (call hS kr kr hb103 kr (fun _ _=>rfl) (rh _ _ o_ state ((gi l_ (gi bM aX)).Kind) a1 c1 h123) ?_)
    intro v141 a r6 sd hE hp hS
    replace hO:=hO.m2 hE
    replace hD:=hD.ev hE rfl
    replace h116:=h116.m1 hE
    replace h120:=h120.m2 hE
    replace h121:=h121.m1 hE
    replace h123:=h123.m1 hE
    replace h137:=h137.m1 hE
    replace h139:=h139.m1 hE
    obtain ⟨gN,hr⟩:∃ r,ct o_ state ((gi l_ (gi bM aX)).Kind)=r:=⟨_,rfl⟩
    replace hm:=hm gN hr
    rw [hr] at hp
    clear hr
    subst hp
    replace hS:=hS.sle [] [(40,V (.tuple #[.int .i64 gN.1,.int .i64 gN.2.1,.bool gN.2.2]))]
    refine da (bO.of hS (bks:=[5]) kr hD) ?_
    intro hH
    refine tke T [8,9,10,11,12,13,14] [5] hS hH (tts 15) 0 [33,34,35,36,37,38,39,40] [(15,I gN.2.1),(16,B gN.2.2)] fun a hS=>?_
    refine aY kr ?_
    replace hS:=hS.sle [] []
    refine cb (fun a w=>∃ (Z:Nat->Nat) (X:Nat->Nat) (mU:List aa) (gK:Bool) (rQ:Option Addr) (rG:Nat),VC105_J3 bM I1 μ1 dN aX gN mU gK/\St Tryz.f105.ntmps ⟨[(1,Sl a2 l_ c2),(2,I state),(4,Pt 5 0),(11,Sl rQ mU rG),(13,I (gi bM aX)),(15,I gN.2.1),(26,Sl jG bM jE),(27,I (lN bM)),(28,I aX),(61,B gK)],[(5,(48,(cO o_ a1 c1)))]⟩ Z a w X/\Old w0 X0 w X/\RS ar w X a2 l_ c2/\OS av 56 w X 1009 rQ mU rG/\RS tI w X jG bM jE/\RS aB w X a1 o_.Rows c1) ?_ ?_
    ·refine region ?_
     refine oPe T hS 2 [16] [(45,B gN.2.2)] fun a hS=>?_
     rcases bft gN.2.2 with hb | hb
     ·replace hS:=hS.lit (t:=45) kr hb
      replace hm:=hm.1 hb
      refine oPe T hS 2 [] [(46,Sl a2 l_ c2),(47,I (gi bM aX))] fun a hS=>?_
      obtain ⟨hq,hm⟩:=hm
      refine op1 (index (e:=102) (k:=.i64) T hS kr kr kr kr h116 kr kr hq.1 hq.2 ?_)
      intro R6 a h163 hS
      refine op1 (fD (off:=3) (fsz:=1) (ft:=3) (TF:=tI) (y:=(gi l_ (gi bM aX)).End) T hS kr kr kr h163 kr kr kr (fun cs h=>mJ h) ?_)
      intro Np a h165 hS
      refine op1 (eT T hS kr kr kr h165 rfl kr ?_)
      intro v166 a hv hS
      cases hv
      refine oPe T hS 2 [46,47,48,49,50] [(52,B (((gi l_ (gi bM aX)).End) == (-1)))] fun a hS=>?_
      rcases bft (((gi l_ (gi bM aX)).End) == (-1)) with hb | hb
      ·replace hS:=hS.lit (t:=52) kr hb
       replace hm:=hm.1 hb
       refine ePe T hS [45,52] [(61,B true)] fun a hS=>?_
       exact ⟨Z,_,dN,true,il,ik,hm,hS.sl _,hO,h116,h120,h121,h123⟩
      replace hS:=hS.lit (t:=52) kr hb
      replace hm:=hm.2 hb
      refine oPe T hS 2 [] [(53,Sl a2 l_ c2),(54,I (gi bM aX))] fun a hS=>?_
      obtain ⟨hq,hm⟩:=hm
      refine op1 (index (e:=102) (k:=.i64) T hS kr kr kr kr h116 kr kr hq.1 hq.2 ?_)
      intro R4 a h168 hS
      refine op1 (fD (off:=4) (fsz:=1) (ft:=3) (TF:=tI) (y:=(gi l_ (gi bM aX)).Result) T hS kr kr kr h168 kr kr kr (fun cs h=>pV h) ?_)
      intro R3 a h170 hS
      refine op1 (eT T hS kr kr kr h170 rfl kr ?_)
      intro v171 a hv hS
      cases hv
      refine ePe T hS [45,52,53,54,55,56,57] [(61,B (((gi l_ (gi bM aX)).Result) == gN.2.1))] fun a hS=>?_
      exact ⟨Z,_,dN,(((gi l_ (gi bM aX)).Result) == gN.2.1),il,ik,hm,hS.sl _,hO,h116,h120,h121,h123⟩
     replace hS:=hS.lit (t:=45) kr hb
     replace hm:=hm.2 hb
     refine ePe T hS [45] [(61,B false)] fun a hS=>?_
     exact ⟨Z,_,dN,false,il,ik,hm,hS.sl _,hO,h116,h120,h121,h123⟩
    rintro a KI ⟨Z,JY,mU,gK,rQ,rG,hm,hS,hO,h145,h149,h150,h152⟩
    unfold VC105_J3 at hm
    refine aI hS (b:=gK) kr (fun hb=>?_) fun hb=>?_
    ·replace hm:=hm.1 hb
     refine region ?_
     refine oPe T hS 4 [13,15,61] [(62,Sl rQ mU rG),(65,V (.agg #[.int .i64 (gi bM aX),.int .i64 gN.2.1]))] fun a hS=>?_
     refine op1 (lit (E:=56) (col:=0) (T:=av) (vals:=[.agg #[.int .i64 (gi bM aX),.int .i64 gN.2.1]]) (ys:=[(⟨gi bM aX,gN.2.1⟩:aa)]) T hS kr kr kr kr (by exact ⟨rfl,trivial⟩) rfl kr kr kr kr ?_)
     intro b153 a tt yj hE h156 hN hS
     clear hN
     replace hO:=hO.m2 hE
     replace h145:=h145.m1 hE
     replace h149:=h149.m2 hE
     replace h150:=h150.m1 hE
     replace h152:=h152.m1 hE
     replace h156:=h156.rs0
     obtain ⟨hq,hm⟩:=hm
     obtain ⟨news,hN⟩:=h156.src
     refine op1 (append (E:=56) (T:=av) (col:=1009) (xs:=mU) T hS kr kr kr kr h149 hN kr kr kr kr hq ?_)
     intro A4 AV a zY A8 hE h159 hS
     clear hq hN
     clear h149
     replace hO:=hO.m2 hE
     replace h145:=h145.m1 hE
     replace h150:=h150.m1 hE
     replace h152:=h152.m1 hE
     replace h156:=h156.m1 hE
     refine ePe T hS [65,66,67] [(11,Sl A4 (mU++[(⟨gi bM aX,gN.2.1⟩:aa)]) AV)] fun a hS=>?_
     exact ⟨Z,_,mU++[(⟨gi bM aX,gN.2.1⟩:aa)],A4,AV,hm,hS.sl _,hO,h145,h159,h150,h152⟩
    replace hm:=hm.2 hb
    refine aO ?_
    exact ⟨Z,_,mU,rQ,rG,hm,hS.sl _,hO,h145,h149,h150,h152⟩
   rintro a HT ⟨Z,Rp,Bo,wP,wE,hm,hS,hO,h124,h128,h129,h130⟩
   unfold VC105_J2 at hm
   refine region (ePe T hS [] [(28,I (wR (aX+1)))] fun a hS=>?_)
   exact ⟨⟨Bo,wR (aX+1)⟩,⟨Z,_,wP,wE,hm.1,hS.sl _,hO,h124,h128,h129,h130⟩,hm.2⟩
  replace hm:=hm.2 hb
  refine cu (by rfl) ?_
  exact ⟨Z,_,dN,il,ik,hm,hS.sl _,hO,h120⟩
 rintro a KG ⟨Z,Nc,gZ,kP,kN,hm,hS,hO,h108⟩
 unfold VC105_J1 at hm
 refine rPe T hS [11] [(8,Sl kP gZ kN)] fun a hS=>?_
 refine ba ?_
 exact fin T hS hO (zAc0 cM) rfl (r:=[.slice kP gZ.length kN]) kr (fun X' hM hC=>⟨gZ,hm,kP,kN,rfl,(OS.out (f:=(zAc0 cM)) h108 hM hC kr)⟩)
theorem C105 (rh:S103) (GA:S112) (ui:S53) (v:∀ (o_:ao) (l_:List ab) (state:Int) (done:List Bool),yU o_ l_ state done->VC105 o_ l_ state done (fun r=>r=bL o_ l_ state done)):S105:=by
 intro w X o_ l_ state done a1 c1 a2 c2 a3 c3 cM  hp h1 h2 h3
 refine (W105 rh GA ui w X o_ l_ state done a1 c1 a2 c2 a3 c3 cM  _ (v o_ l_ state done hp) h1 h2 h3).mono ?_
 rintro _ _ _ _ ⟨r,rfl,h⟩
 exact h
theorem W88 (ui:S53) (Gp:S80) (w0) (X0) (o_:ao) (l_:List ab) (jO:Int) (a1) (c1) (a2) (c2) (Q:Int->Prop) (hm:VC88 o_ l_ jO Q) (h1:RS aB w0 X0 a1 o_.Rows c1) (h2:RS ar w0 X0 a2 l_ c2) :
  Ret Tryz.prog 88 #[.agg #[.int .i64 o_.au,.int .i64 o_.aA,.int .i64 o_.aH,.slice a1 o_.Rows.length c1],.slice a2 l_.length c2,.int .i64 jO] aM w0 X0 (fun w X' v=>∃ r,Q r/\v=.int .i64 r):=by
 unfold VC88 at hm
 replace hm:=hm (h1.sm kr)
 replace hm:=hm (h2.sm kr)
 refine enter Tryz.func88 rfl (vals:=[.agg #[.int .i64 o_.au,.int .i64 o_.aA,.int .i64 o_.aH,.slice a1 o_.Rows.length c1],.slice a2 l_.length c2,.int .i64 jO]) kr ?_
 intro Z a hS hO hM
 replace h1:=h1.m0 hM
 replace h2:=h2.m0 hM
 refine rM T hS ⟨[(1,Sl a2 l_ c2),(2,I jO),(3,Pt 4 0)],[(4,(48,(cO o_ a1 c1)))]⟩ fun Z a qm sf hS hE hr=>?_
 replace hO:=hO.m2 hE
 replace h1:=h1.m1 hE
 replace h2:=h2.m1 hE
 clear hE hr
 refine br ?_
 refine oP T hS 1 ⟨[(1,Sl a2 l_ c2),(2,I jO),(12,V (.agg #[.int .i64 o_.au,.int .i64 o_.aA,.int .i64 o_.aH,.slice a1 o_.Rows.length c1]))],[]⟩ fun a hS=>?_
 obtain ⟨hq,hm⟩:=hm
 refine op1 (call hS kr kr hb53 kr (fun _ _=>rfl) (ui _ _ o_ a1 c1 hq h1) ?_)
 intro v101 a fH fK hE hp hS
 replace hO:=hO.m2 hE
 replace h1:=h1.m1 hE
 replace h2:=h2.m1 hE
 obtain ⟨ay,hr⟩:∃ r,bA o_=r:=⟨_,rfl⟩
 replace hm:=hm ay hr
 rw [hr] at hp
 clear hr
 subst hp
 refine ePe T hS [12,13] [(8,I ay.2)] fun a hS=>?_
 refine br ?_
 refine oPe T hS 1 [] [(17,Sl a2 l_ c2)] fun a hS=>?_
 refine op1 (call hS kr kr hb80 kr (fun _ _=>rfl) (Gp _ _ l_ a2 c2 h2) ?_)
 intro v105 a n6 n2 hE hp hS
 replace hO:=hO.m2 hE
 replace h2:=h2.m1 hE
 obtain ⟨bb,hr⟩:∃ r,cn l_=r:=⟨_,rfl⟩
 replace hm:=hm bb hr
 rw [hr] at hp
 clear hr
 subst hp
 refine ePe T hS [17,18] [(10,I bb.2)] fun a hS=>?_
 refine bh ?_
 refine aQ ?_
 refine rPe T hS [8,10] [(21,B ((ay.2 != 0) || (bb.2 != 0)))] (sp:=[24]) fun a hS=>?_
 refine aI hS (b:=((ay.2 != 0) || (bb.2 != 0))) kr (fun hb=>?_) fun hb=>?_
 ·replace hm:=hm.1 hb
  refine rPe T hS [1,2,21] [(6,I 2)] fun a hS=>?_
  refine ba ?_
  exact fin T hS hO (fun c=>c) rfl (r:=[.int .i64 2]) kr (fun X' hM hC=>⟨2,hm,rfl⟩)
 replace hm:=hm.2 hb
 refine rPe T hS [1,2,21] [(28,B (decide ((lN l_) > jO)))] fun a hS=>?_
 refine aI hS (b:=decide ((lN l_) > jO)) kr (fun hb=>?_) fun hb=>?_
 ·replace hm:=hm.1 hb
  refine rPe T hS [28] [(6,I 3)] fun a hS=>?_
  refine ba ?_
  exact fin T hS hO (fun c=>c) rfl (r:=[.int .i64 3]) kr (fun X' hM hC=>⟨3,hm,rfl⟩)
 replace hm:=hm.2 hb
 refine aO ?_
 refine rPe T hS [28] [(6,I 0)] fun a hS=>?_
 refine ba ?_
 exact fin T hS hO (fun c=>c) rfl (r:=[.int .i64 0]) kr (fun X' hM hC=>⟨0,hm,rfl⟩)
theorem C88 (ui:S53) (Gp:S80) (v:∀ (o_:ao) (l_:List ab) (jO:Int),za o_ l_ jO->VC88 o_ l_ jO (fun r=>r=cx o_ l_ jO)):S88:=by
 intro w X o_ l_ jO a1 c1 a2 c2   hp h1 h2
 refine (W88 ui Gp w X o_ l_ jO a1 c1 a2 c2   _ (v o_ l_ jO hp) h1 h2).mono ?_
 rintro _ _ _ _ ⟨r,rfl,h⟩
 exact h
theorem W104 (w0) (X0) (s_:List aa) (a1) (c1) (cM) (Q:(List aa)->Prop) (hm:VC104 s_ Q) (h1:RS av w0 X0 a1 s_ c1) :
  Ret Tryz.prog 104 #[.slice a1 s_.length c1] aM w0 X0 (fun w X' v=>∃ r,Q r/\∃ cQ cN,v=.slice cQ r.length cN/\OS av 56 w X' cM cQ r cN):=by
 unfold VC104 at hm
 replace hm:=hm (h1.sm kr)
 refine enter Tryz.func104 rfl (vals:=[.slice a1 s_.length c1]) kr ?_
 intro Z a hS hO hM
 replace h1:=h1.m0 hM
 refine rPe T hS [] [] fun a hS=>?_
 refine bh ?_
 refine br ?_
 refine oPe T hS 1 [] [(3,Sl a1 s_ c1)] fun a hS=>?_
 obtain ⟨b101,hb102⟩:∃ q:Bool,a1.isNone=q:=⟨_,rfl⟩
 replace hm:=hm b101 (h1.Io hb102)
 refine op1 (FN (e:=56) (m:=s_.length) (c:=c1) hS kr kr kr kr Tryz.underlying26 hb102 ?_)
 intro a hS
 clear hb102
 refine iy ?_
 refine aI hS (b:=b101) kr (fun hb=>?_) fun hb=>?_
 ·replace hm:=hm.1 hb
  refine rPe T hS [0,4] [(2,V (.slice none 0 0))] fun a hS=>?_
  refine ba ?_
  exact fin T hS hO (fun c=>c) rfl (r:=[.slice none 0 0]) kr (fun X' hM hC=>⟨[],hm,none,0,rfl,OS.nil _ _ _ _ _⟩)
 replace hm:=hm.2 hb
 refine aO ?_
 refine br ?_
 refine op1 (lit (E:=56) (col:=1003) (T:=av) (vals:=[]) (ys:=([]:List aa)) T hS kr kr kr kr trivial rfl kr kr kr kr ?_)
 intro b103 a z6 pD hE h106 hN hS
 clear hN
 replace hO:=hO.m2 hE
 replace h1:=h1.m1 hE
 refine oPe T hS 1 [0,4] [(6,Sl a1 s_ c1)] fun a hS=>?_
 obtain ⟨hq,hm⟩:=hm
 obtain ⟨news,hN⟩:=h1.src
 refine op1 (append (E:=56) (T:=av) (col:=1003) (xs:=([]:List aa)) T hS kr kr kr kr h106 hN kr kr kr kr hq ?_)
 intro gR gQ a qn pC hE h109 hS
 clear hq hN
 clear h106
 replace hO:=hO.m2 hE
 replace h1:=h1.m1 hE
 refine ePe T hS [6,7] [(2,Sl gR (([]:List aa)++s_) gQ)] fun a hS=>?_
 refine ba ?_
 exact fin T hS hO (zAc1 cM) rfl (r:=[.slice gR (([]:List aa)++s_).length gQ]) kr (fun X' hM hC=>⟨(([]:List aa)++s_),hm,gR,gQ,rfl,(OS.out (f:=(zAc1 cM)) h109 hM hC kr)⟩)
theorem C104 (v:∀ (s_:List aa),yZ s_->VC104 s_ (fun r=>r=b6 s_)):S104:=by
 intro w X s_ a1 c1 cM  hp h1
 refine (W104 w X s_ a1 c1 cM  _ (v s_ hp) h1).mono ?_
 rintro _ _ _ _ ⟨r,rfl,h⟩
 exact h
theorem W101 (w0) (X0) (state:Int) (aq:a8) (a1) (c1) (a2) (c2) (a3) (c3) (r4) (m4) (b1) (i1) (Q:b7->Prop) (hm:VC101 state aq Q) (h1:RS aB w0 X0 a1 aq.o.Rows c1) (h2:RS ar w0 X0 a2 aq.l c2) (h3:RS dJ w0 X0 a3 aq.done c3) (h4:OMS aU tI false w0 X0 m4 r4 aq.failed) (fF:Cell w0 X0 b1 i1 161 [.int .i64 aq.o.au,.int .i64 aq.o.aA,.int .i64 aq.o.aH,.slice a1 aq.o.Rows.length c1,.slice a2 aq.l.length c2,.slice a3 aq.done.length c3,.map (some r4)]) (hA:dS [i1,m4]) :
  Ret Tryz.prog 101 #[.pointer (some ⟨b1,0,none⟩),.int .i64 state] (pR [i1,m4]) w0 X0 (fun w X' v=>∃ r,Q r/\v=.agg #[.int .u32 r.done,.int .i64 r.state]/\Cell w X' b1 i1 161 [.int .i64 aq.o.au,.int .i64 aq.o.aA,.int .i64 aq.o.aH,.slice a1 aq.o.Rows.length c1,.slice a2 aq.l.length c2,.slice a3 aq.done.length c3,.map (some r4)]/\OMS aU tI false w X' m4 r4 aq.failed):=by
 unfold VC101 at hm
 replace hm:=hm (h1.sm kr)
 replace hm:=hm (h2.sm kr)
 replace hm:=hm (h3.sm kr)
 refine fT Tryz.func101 rfl (dH [(i1,901),(m4,2004)]) (fun id=>(bif Nat.beq id 901 then b1 else 0)) (args:=[Pt 901 0,I state]) (bxs:=[(901,(161,[I aq.o.au,I aq.o.aA,I aq.o.aH,Sl a1 aq.o.Rows c1,Sl a2 aq.l c2,Sl a3 aq.done c3,V (.map (some r4))]))]) kr rfl (bq.cons kr (fF.map (bQ 0 hA.1 rfl)) bq.nil) (fJ (fun q hq=>(hA.2 q.1 (List.mem_map.2 ⟨q,hq,rfl⟩)).1)) ?_
 intro a hS hO hM
 have hP:Pin [(901,b1)] (fun id=>(bif Nat.beq id 901 then b1 else 0)):=by intro q hq; simp at hq; rcases hq with rfl <;> rfl
 generalize (fun id=>(bif Nat.beq id 901 then b1 else 0))=Z at hS hP
 clear fF
 replace h1:=h1.m0 hM
 replace h2:=h2.m0 hM
 replace h3:=h3.m0 hM
 replace h4:=h4.map (f:=dH [(i1,901),(m4,2004)]) (bQ 1 hA.1 rfl) hM
 refine rM T hS ⟨[(0,Pt 901 0),(1,I state),(4,Pt 5 0)],[(5,(164,[V (.int .u32 0),I 0])),(901,(161,[I aq.o.au,I aq.o.aA,I aq.o.aH,Sl a1 aq.o.Rows c1,Sl a2 aq.l c2,Sl a3 aq.done c3,V (.map (some r4))]))]⟩ fun Z a DQ Hn hS hE hr=>?_
 replace hO:=hO.m2 hE
 replace h1:=h1.m1 hE
 replace h2:=h2.m1 hE
 replace h3:=h3.m1 hE
 replace h4:=h4.m2 hE
 replace hP:=hP.mv hr kr
 clear hE hr
 refine rM T hS ⟨[(0,Pt 901 0),(4,Pt 5 0),(5,Pt 6 0)],[(5,(164,[V (.int .u32 0),I 0])),(6,(164,[V (.int .u32 0),I state])),(901,(161,[I aq.o.au,I aq.o.aA,I aq.o.aH,Sl a1 aq.o.Rows c1,Sl a2 aq.l c2,Sl a3 aq.done c3,V (.map (some r4))]))]⟩ fun Z a tv wS hS hE hr=>?_
 replace hO:=hO.m2 hE
 replace h1:=h1.m1 hE
 replace h2:=h2.m1 hE
 replace h3:=h3.m1 hE
 replace h4:=h4.m2 hE
 replace hP:=hP.mv hr kr
 clear hE hr
 refine cb (fun a w=>∃ (Z:Nat->Nat) (X:Nat->Nat) (bD:Int) (bB:Int),VC101_J1 Q bD bB/\St Tryz.f101.ntmps ⟨[(4,Pt 5 0),(5,Pt 6 0)],[(5,(164,[V (.int .u32 0),I 0])),(6,(164,[V (.int .u32 bD),I bB])),(901,(161,[I aq.o.au,I aq.o.aA,I aq.o.aH,Sl a1 aq.o.Rows c1,Sl a2 aq.l c2,Sl a3 aq.done c3,V (.map (some r4))]))]⟩ Z a w X/\gq (dH [(i1,901),(m4,2004)]) w0 X0 w X/\Pin [(901,b1)] Z/\RS aB w X a1 aq.o.Rows c1/\RS ar w X a2 aq.l c2/\RS dJ w X a3 aq.done c3/\OMS aU tI false w X 2004 r4 aq.failed) ?_ ?_
 ·refine rPe T hS [0] [(13,Sl a3 aq.done c3),(14,I (lN aq.done)),(15,I 0)] fun a hS=>?_
  refine aQ ?_
  obtain ⟨I1,μ1,cJ,hm⟩:=hm
  refine cH (σ:=Int × Int × Int) (fun s a w=>∃ Z X,I1 s.1 s.2.1 s.2.2/\St Tryz.f101.ntmps ⟨[(4,Pt 5 0),(5,Pt 6 0),(13,Sl a3 aq.done c3),(14,I (lN aq.done)),(15,I s.1)],[(5,(164,[V (.int .u32 0),I 0])),(6,(164,[V (.int .u32 s.2.1),I s.2.2])),(901,(161,[I aq.o.au,I aq.o.aA,I aq.o.aH,Sl a1 aq.o.Rows c1,Sl a2 aq.l c2,Sl a3 aq.done c3,V (.map (some r4))]))]⟩ Z a w X/\gq (dH [(i1,901),(m4,2004)]) w0 X0 w X/\Pin [(901,b1)] Z/\RS dJ w X a3 aq.done c3/\RS aB w X a1 aq.o.Rows c1/\RS ar w X a2 aq.l c2/\RS dJ w X a3 aq.done c3/\OMS aU tI false w X 2004 r4 aq.failed) (fun s=>μ1 s.1 s.2.1 s.2.2) (⟨0,0,state⟩) ?_ ?_
  ·exact ⟨Z,_,cJ,hS.sl _,hO,hP,h3,h1,h2,h3,h4⟩
  rintro ⟨bK,dx,cZ⟩ a z3 ⟨Z,rS,hI,hS,hO,hP,h109,h113,h114,h115,h116⟩
  replace hm:=hm bK dx cZ hI
  clear hI cJ
  refine rPe T hS [] [(16,B (decide (bK < (lN aq.done))))] fun a hS=>?_
  refine bh ?_
  refine aI hS (b:=decide (bK < (lN aq.done))) kr (fun hb=>?_) fun hb=>?_
  ·replace hm:=hm.1 hb
   refine aO ?_
   refine cb (fun a w=>∃ (Z:Nat->Nat) (X:Nat->Nat) (jJ:Int),VC101_J2 I1 μ1 bK dx cZ jJ/\St Tryz.f101.ntmps ⟨[(4,Pt 5 0),(5,Pt 6 0),(13,Sl a3 aq.done c3),(14,I (lN aq.done)),(15,I bK)],[(5,(164,[V (.int .u32 0),I 0])),(6,(164,[V (.int .u32 jJ),I cZ])),(901,(161,[I aq.o.au,I aq.o.aA,I aq.o.aH,Sl a1 aq.o.Rows c1,Sl a2 aq.l c2,Sl a3 aq.done c3,V (.map (some r4))]))]⟩ Z a w X/\gq (dH [(i1,901),(m4,2004)]) w0 X0 w X/\Pin [(901,b1)] Z/\RS dJ w X a3 aq.done c3/\RS aB w X a1 aq.o.Rows c1/\RS ar w X a2 aq.l c2/\RS dJ w X a3 aq.done c3/\OMS aU tI false w X 2004 r4 aq.failed) ?_ ?_
   ·refine aQ ?_
    refine br ?_
    refine oPe T hS 1 [16] [(17,I bK)] fun a hS=>?_
    obtain ⟨hq,hm⟩:=hm
    refine op1 (index (e:=4) (k:=.i64) T hS kr kr kr kr h109 kr kr hq.1 hq.2 ?_)
    intro ES a h124 hS
    refine op1 (eT T hS kr kr kr h124 rfl kr ?_)
    intro v125 a hv hS
    cases hv
    refine ePe T hS [17,18,19] [(6,I bK),(7,B (gi aq.done bK))] fun a hS=>?_
    refine rPe T hS [7] [(20,B (gi aq.done bK))] fun a hS=>?_
    refine aI hS (b:=gi aq.done bK) kr (fun hb=>?_) fun hb=>?_
    ·replace hm:=hm.1 hb
     refine hJ [5,901] mixed hS ?_
     intro uW rT hS hE hD hH
     replace hO:=hO.m2 hE
     replace h109:=h109.m1 hE
     replace h113:=h113.m1 hE
     replace h114:=h114.m1 hE
     replace h115:=h115.m1 hE
     replace h116:=h116.m2 hE
     refine tke T [0,2] [5,901] hS hH #[true,false,true,false,false,false,false] 5 [6] [(21,Pt 6 0),(23,I bK)] fun a hS=>?_
     obtain ⟨hq,hm⟩:=hm
     refine Jm (k:=.u32) (k2:=.i64) (p:=1) (q:=bK) 3 hS kr kr kr (by rfl) kr hH kr kr hq ?_
     intro a hS
     refine only 1 kr (by rfl) (iu T hS kr kr kr (sv:=V (.int .u32 dx)) kr ?_)
     intro a hS
     refine da (bO.of hS (bks:=[5,901]) kr hD) ?_
     intro hH
     refine tke T [4,5] [5,901] hS hH #[true,true,true,true,true,true,false] 1 [21,23,24,22] [(25,V (.int .u32 (IntKind.u32.wrap ((BitVec.ofInt IntKind.u32.bits dx ||| BitVec.ofInt IntKind.u32.bits (IntKind.u32.wrap (1 * 2 ^ (min bK.toNat IntKind.u32.bits)))).toNat:Int)))),(26,Pt 6 0)] fun a hS=>?_
     replace hS:=hS.sl ⟨[(4,Pt 5 0),(5,Pt 6 0),(13,Sl a3 aq.done c3),(14,I (lN aq.done)),(15,I bK),(25,V (.int .u32 (IntKind.u32.wrap ((BitVec.ofInt IntKind.u32.bits dx ||| BitVec.ofInt IntKind.u32.bits (IntKind.u32.wrap (1 * 2 ^ (min bK.toNat IntKind.u32.bits)))).toNat:Int)))),(26,Pt 6 0)],[(5,(164,[V (.int .u32 0),I 0])),(6,(164,[V (.int .u32 dx),I cZ])),(901,(161,[I aq.o.au,I aq.o.aA,I aq.o.aH,Sl a1 aq.o.Rows c1,Sl a2 aq.l c2,Sl a3 aq.done c3,V (.map (some r4))]))]⟩
     refine only 6 kr (by rfl) (BB T hS kr kr (sy':=⟨[(4,Pt 5 0),(5,Pt 6 0),(13,Sl a3 aq.done c3),(14,I (lN aq.done)),(15,I bK),(25,V (.int .u32 (IntKind.u32.wrap ((BitVec.ofInt IntKind.u32.bits dx ||| BitVec.ofInt IntKind.u32.bits (IntKind.u32.wrap (1 * 2 ^ (min bK.toNat IntKind.u32.bits)))).toNat:Int)))),(26,Pt 6 0)],[(6,(164,[V (.int .u32 (IntKind.u32.wrap ((BitVec.ofInt IntKind.u32.bits dx ||| BitVec.ofInt IntKind.u32.bits (IntKind.u32.wrap (1 * 2 ^ (min bK.toNat IntKind.u32.bits)))).toNat:Int))),I cZ])),(5,(164,[V (.int .u32 0),I 0])),(6,(164,[V (.int .u32 dx),I cZ])),(901,(161,[I aq.o.au,I aq.o.aA,I aq.o.aH,Sl a1 aq.o.Rows c1,Sl a2 aq.l c2,Sl a3 aq.done c3,V (.map (some r4))]))]⟩) kr ?_)
     intro a r8 se hS hE
     replace hO:=hO.m2 hE
     replace hD:=hD.ev hE rfl
     replace h109:=h109.m1 hE
     replace h113:=h113.m1 hE
     replace h114:=h114.m1 hE
     replace h115:=h115.m1 hE
     replace h116:=h116.m2 hE
     replace hS:=hS.sl ⟨[(4,Pt 5 0),(5,Pt 6 0),(13,Sl a3 aq.done c3),(14,I (lN aq.done)),(15,I bK),(25,V (.int .u32 (IntKind.u32.wrap ((BitVec.ofInt IntKind.u32.bits dx ||| BitVec.ofInt IntKind.u32.bits (IntKind.u32.wrap (1 * 2 ^ (min bK.toNat IntKind.u32.bits)))).toNat:Int)))),(26,Pt 6 0)],[(5,(164,[V (.int .u32 0),I 0])),(6,(164,[V (.int .u32 (IntKind.u32.wrap ((BitVec.ofInt IntKind.u32.bits dx ||| BitVec.ofInt IntKind.u32.bits (IntKind.u32.wrap (1 * 2 ^ (min bK.toNat IntKind.u32.bits)))).toNat:Int))),I cZ])),(901,(161,[I aq.o.au,I aq.o.aA,I aq.o.aH,Sl a1 aq.o.Rows c1,Sl a2 aq.l c2,Sl a3 aq.done c3,V (.map (some r4))]))]⟩
     refine da (bO.of hS (bks:=[5,901]) kr hD) ?_
     intro hH
     refine aY kr ?_
     replace hS:=hS.sle [25,26] []
     exact ⟨Z,_,IntKind.u32.wrap ((BitVec.ofInt IntKind.u32.bits dx ||| BitVec.ofInt IntKind.u32.bits (IntKind.u32.wrap (1 * 2 ^ (min bK.toNat IntKind.u32.bits)))).toNat:Int),hm,hS.sl _,hO,hP,h109,h113,h114,h115,h116⟩
    replace hm:=hm.2 hb
    refine aO ?_
    exact ⟨Z,_,dx,hm,hS.sl _,hO,hP,h109,h113,h114,h115,h116⟩
   rintro a r7 ⟨Z,EN,jJ,hm,hS,hO,hP,h117,h119,h120,h121,h122⟩
   unfold VC101_J2 at hm
   refine region (ePe T hS [] [(15,I (wR (bK+1)))] fun a hS=>?_)
   exact ⟨⟨wR (bK+1),jJ,cZ⟩,⟨Z,_,hm.1,hS.sl _,hO,hP,h117,h119,h120,h121,h122⟩,hm.2⟩
  replace hm:=hm.2 hb
  refine cu (by rfl) ?_
  exact ⟨Z,_,dx,cZ,hm,hS.sl _,hO,hP,h113,h114,h115,h116⟩
 rintro a DR ⟨Z,Dd,bD,bB,hm,hS,hO,hP,h103,h104,h105,h106⟩
 unfold VC101_J1 at hm
 refine rM T hS ⟨[(4,Pt 5 0)],[(5,(164,[V (.int .u32 bD),I bB])),(901,(161,[I aq.o.au,I aq.o.aA,I aq.o.aH,Sl a1 aq.o.Rows c1,Sl a2 aq.l c2,Sl a3 aq.done c3,V (.map (some r4))]))]⟩ fun Z a qn pC hS hE hr=>?_
 replace hO:=hO.m2 hE
 replace h103:=h103.m1 hE
 replace h104:=h104.m1 hE
 replace h105:=h105.m1 hE
 replace h106:=h106.m2 hE
 replace hP:=hP.mv hr kr
 clear hE hr
 refine ba ?_
 exact g9 T hS hO (fun c h=>bZ kr h) (fun c h=>b0 (l:=[(i1,901),(m4,2004)]) h) (bT [(i1,901),(m4,2004)]) rfl (r:=[.agg #[.int .u32 bD,.int .i64 bB]]) kr (fun X' hM hC=>⟨(⟨bD,bB⟩:b7),hm,rfl,((hS.cell (id:=901) (t:=161) (cs:=[I aq.o.au,I aq.o.aA,I aq.o.aH,Sl a1 aq.o.Rows c1,Sl a2 aq.l c2,Sl a3 aq.done c3,V (.map (some r4))]) kr).out (f:=(bT [(i1,901),(m4,2004)])) hC kr kr (hP.at 0 rfl)),(h106.out (f:=(bT [(i1,901),(m4,2004)])) hM hC kr kr)⟩)
theorem C101 (v:∀ (state:Int) (aq:a8),VC101 state aq (fun r=>r=dD state aq)):S101:=by
 intro w X state aq a1 c1 a2 c2 a3 c3 r4 m4  b1 i1 h1 h2 h3 h4 fF hA
 refine (W101 w X state aq a1 c1 a2 c2 a3 c3 r4 m4  b1 i1 _ (v state aq) h1 h2 h3 h4 fF hA).mono ?_
 rintro _ _ _ _ ⟨r,rfl,h⟩
 exact h
theorem W100 (w0) (X0) (aq:a8) (a1) (c1) (a2) (c2) (a3) (c3) (r4) (m4) (b1) (i1) (Q:Bool->Prop) (hm:VC100 aq Q) (h1:RS aB w0 X0 a1 aq.o.Rows c1) (h2:RS ar w0 X0 a2 aq.l c2) (h3:RS dJ w0 X0 a3 aq.done c3) (h4:OMS aU tI false w0 X0 m4 r4 aq.failed) (fF:Cell w0 X0 b1 i1 161 [.int .i64 aq.o.au,.int .i64 aq.o.aA,.int .i64 aq.o.aH,.slice a1 aq.o.Rows.length c1,.slice a2 aq.l.length c2,.slice a3 aq.done.length c3,.map (some r4)]) (hA:dS [i1,m4]) :
  Ret Tryz.prog 100 #[.pointer (some ⟨b1,0,none⟩)] (pR [i1,m4]) w0 X0 (fun w X' v=>∃ r,Q r/\v=.bool r/\Cell w X' b1 i1 161 [.int .i64 aq.o.au,.int .i64 aq.o.aA,.int .i64 aq.o.aH,.slice a1 aq.o.Rows.length c1,.slice a2 aq.l.length c2,.slice a3 aq.done.length c3,.map (some r4)]/\OMS aU tI false w X' m4 r4 aq.failed):=by
 unfold VC100 at hm
 replace hm:=hm (h1.sm kr)
 replace hm:=hm (h2.sm kr)
 replace hm:=hm (h3.sm kr)
 refine fT Tryz.func100 rfl (dH [(i1,901),(m4,2004)]) (fun id=>(bif Nat.beq id 901 then b1 else 0)) (args:=[Pt 901 0]) (bxs:=[(901,(161,[I aq.o.au,I aq.o.aA,I aq.o.aH,Sl a1 aq.o.Rows c1,Sl a2 aq.l c2,Sl a3 aq.done c3,V (.map (some r4))]))]) kr rfl (bq.cons kr (fF.map (bQ 0 hA.1 rfl)) bq.nil) (fJ (fun q hq=>(hA.2 q.1 (List.mem_map.2 ⟨q,hq,rfl⟩)).1)) ?_
 intro a hS hO hM
 have hP:Pin [(901,b1)] (fun id=>(bif Nat.beq id 901 then b1 else 0)):=by intro q hq; simp at hq; rcases hq with rfl <;> rfl
 generalize (fun id=>(bif Nat.beq id 901 then b1 else 0))=Z at hS hP
 clear fF
 replace h1:=h1.m0 hM
 replace h2:=h2.m0 hM
 replace h3:=h3.m0 hM
 replace h4:=h4.map (f:=dH [(i1,901),(m4,2004)]) (bQ 1 hA.1 rfl) hM
 refine rPe T hS [] [] fun a hS=>?_
 refine cb (fun a w=>∃ Z X,VC100_J1 Q/\St Tryz.f100.ntmps ⟨[],[(901,(161,[I aq.o.au,I aq.o.aA,I aq.o.aH,Sl a1 aq.o.Rows c1,Sl a2 aq.l c2,Sl a3 aq.done c3,V (.map (some r4))]))]⟩ Z a w X/\gq (dH [(i1,901),(m4,2004)]) w0 X0 w X/\Pin [(901,b1)] Z/\RS aB w X a1 aq.o.Rows c1/\RS ar w X a2 aq.l c2/\RS dJ w X a3 aq.done c3/\OMS aU tI false w X 2004 r4 aq.failed) ?_ ?_
 ·refine rPe T hS [] [(8,Sl a2 aq.l c2),(9,I (lN aq.l)),(10,I 0)] fun a hS=>?_
  refine aQ ?_
  obtain ⟨I1,μ1,cJ,hm⟩:=hm
  refine cH (σ:=Int) (fun s a w=>∃ Z X,I1 s/\St Tryz.f100.ntmps ⟨[(0,Pt 901 0),(8,Sl a2 aq.l c2),(9,I (lN aq.l)),(10,I s)],[(901,(161,[I aq.o.au,I aq.o.aA,I aq.o.aH,Sl a1 aq.o.Rows c1,Sl a2 aq.l c2,Sl a3 aq.done c3,V (.map (some r4))]))]⟩ Z a w X/\gq (dH [(i1,901),(m4,2004)]) w0 X0 w X/\Pin [(901,b1)] Z/\RS ar w X a2 aq.l c2/\RS aB w X a1 aq.o.Rows c1/\RS ar w X a2 aq.l c2/\RS dJ w X a3 aq.done c3/\OMS aU tI false w X 2004 r4 aq.failed) (fun s=>μ1 s) (0) ?_ ?_
  ·exact ⟨Z,_,cJ,hS.sl _,hO,hP,h2,h1,h2,h3,h4⟩
  rintro fo a r8 ⟨Z,rT,hI,hS,hO,hP,h105,h107,h108,h109,h110⟩
  replace hm:=hm fo hI
  clear hI cJ
  refine rPe T hS [] [(11,B (decide (fo < (lN aq.l))))] fun a hS=>?_
  refine bh ?_
  refine aI hS (b:=decide (fo < (lN aq.l))) kr (fun hb=>?_) fun hb=>?_
  ·replace hm:=hm.1 hb
   refine aO (bh ?_)
   refine aQ ?_
   refine br ?_
   refine oPe T hS 1 [11] [(12,I fo)] fun a hS=>?_
   obtain ⟨hq,hm⟩:=hm
   refine op1 (index (e:=102) (k:=.i64) T hS kr kr kr kr h105 kr kr hq.1 hq.2 ?_)
   intro Dm a h112 hS
   refine op1 (eS T hS kr kr kr h112 kr kr ?_)
   intro v113 a hv hS
   subst hv
   refine eM T hS ⟨[(0,Pt 901 0),(3,I fo),(4,Pt 5 0),(8,Sl a2 aq.l c2),(9,I (lN aq.l)),(10,I fo)],[(5,(102,(cP (gi aq.l fo)))),(901,(161,[I aq.o.au,I aq.o.aA,I aq.o.aH,Sl a1 aq.o.Rows c1,Sl a2 aq.l c2,Sl a3 aq.done c3,V (.map (some r4))]))]⟩ fun Z a z4 yn hS hE hr=>?_
   replace hO:=hO.m2 hE
   replace h105:=h105.m1 hE
   replace h107:=h107.m1 hE
   replace h108:=h108.m1 hE
   replace h109:=h109.m1 hE
   replace h110:=h110.m2 hE
   replace hP:=hP.mv hr kr
   clear hE hr
   refine cb (fun a w=>∃ (Z:Nat->Nat) (X:Nat->Nat) (bu:Bool),VC100_J2 Q I1 μ1 fo bu/\St Tryz.f100.ntmps ⟨[(0,Pt 901 0),(8,Sl a2 aq.l c2),(9,I (lN aq.l)),(10,I fo),(27,B bu)],[(901,(161,[I aq.o.au,I aq.o.aA,I aq.o.aH,Sl a1 aq.o.Rows c1,Sl a2 aq.l c2,Sl a3 aq.done c3,V (.map (some r4))]))]⟩ Z a w X/\gq (dH [(i1,901),(m4,2004)]) w0 X0 w X/\Pin [(901,b1)] Z/\RS ar w X a2 aq.l c2/\RS aB w X a1 aq.o.Rows c1/\RS ar w X a2 aq.l c2/\RS dJ w X a3 aq.done c3/\OMS aU tI false w X 2004 r4 aq.failed) ?_ ?_
   ·refine region ?_
    refine oP T hS 4 ⟨[(0,Pt 901 0),(3,I fo),(8,Sl a2 aq.l c2),(9,I (lN aq.l)),(10,I fo),(18,B (((gi aq.l fo).End) != (-1)))],[(901,(161,[I aq.o.au,I aq.o.aA,I aq.o.aH,Sl a1 aq.o.Rows c1,Sl a2 aq.l c2,Sl a3 aq.done c3,V (.map (some r4))]))]⟩ fun a hS=>?_
    rcases bft (((gi aq.l fo).End) != (-1)) with hb | hb
    ·replace hS:=hS.lit (t:=18) kr hb
     replace hm:=hm.1 hb
     refine oPe T hS 5 [3] [(22,Sl a3 aq.done c3),(23,I fo)] fun a hS=>?_
     obtain ⟨hq,hm⟩:=hm
     refine op1 (index (e:=4) (k:=.i64) T hS kr kr kr kr h109 kr kr hq.1 hq.2 ?_)
     intro Nx a h121 hS
     refine op1 (eT T hS kr kr kr h121 rfl kr ?_)
     intro v122 a hv hS
     cases hv
     refine ePe T hS [18,22,23,24,25] [(27,B (!(gi aq.done fo)))] fun a hS=>?_
     exact ⟨Z,_,(!(gi aq.done fo)),hm,hS.sl _,hO,hP,h105,h107,h108,h109,h110⟩
    replace hS:=hS.lit (t:=18) kr hb
    replace hm:=hm.2 hb
    refine ePe T hS [3,18] [(27,B false)] fun a hS=>?_
    exact ⟨Z,_,false,hm,hS.sl _,hO,hP,h105,h107,h108,h109,h110⟩
   rintro a KN ⟨Z,uL,bu,hm,hS,hO,hP,h114,h116,h117,h118,h119⟩
   unfold VC100_J2 at hm
   refine aI hS (b:=bu) kr (fun hb=>?_) fun hb=>?_
   ·replace hm:=hm.1 hb
    refine rPe T hS [0,8,9,10,27] [(2,B false)] fun a hS=>?_
    refine ba ?_
    exact g9 T hS hO (fun c h=>bZ kr h) (fun c h=>b0 (l:=[(i1,901),(m4,2004)]) h) (bT [(i1,901),(m4,2004)]) rfl (r:=[.bool false]) kr (fun X' hM hC=>⟨false,hm,rfl,((hS.cell (id:=901) (t:=161) (cs:=[I aq.o.au,I aq.o.aA,I aq.o.aH,Sl a1 aq.o.Rows c1,Sl a2 aq.l c2,Sl a3 aq.done c3,V (.map (some r4))]) kr).out (f:=(bT [(i1,901),(m4,2004)])) hC kr kr (hP.at 0 rfl)),(h119.out (f:=(bT [(i1,901),(m4,2004)])) hM hC kr kr)⟩)
   replace hm:=hm.2 hb
   refine aO ?_
   refine region (ePe T hS [27] [(10,I (wR (fo+1)))] fun a hS=>?_)
   exact ⟨wR (fo+1),⟨Z,_,hm.1,hS.sl _,hO,hP,h114,h116,h117,h118,h119⟩,hm.2⟩
  replace hm:=hm.2 hb
  refine cu (by rfl) ?_
  exact ⟨Z,_,hm,hS.sl _,hO,hP,h107,h108,h109,h110⟩
 rintro a uV ⟨Z,se,hm,hS,hO,hP,h101,h102,h103,h104⟩
 unfold VC100_J1 at hm
 refine rPe T hS [] [(2,B true)] fun a hS=>?_
 refine ba ?_
 exact g9 T hS hO (fun c h=>bZ kr h) (fun c h=>b0 (l:=[(i1,901),(m4,2004)]) h) (bT [(i1,901),(m4,2004)]) rfl (r:=[.bool true]) kr (fun X' hM hC=>⟨true,hm,rfl,((hS.cell (id:=901) (t:=161) (cs:=[I aq.o.au,I aq.o.aA,I aq.o.aH,Sl a1 aq.o.Rows c1,Sl a2 aq.l c2,Sl a3 aq.done c3,V (.map (some r4))]) kr).out (f:=(bT [(i1,901),(m4,2004)])) hC kr kr (hP.at 0 rfl)),(h104.out (f:=(bT [(i1,901),(m4,2004)])) hM hC kr kr)⟩)
theorem C100 (v:∀ (aq:a8),yJ aq->VC100 aq (fun r=>r=dP aq)):S100:=by
 intro w X aq a1 c1 a2 c2 a3 c3 r4 m4  b1 i1 hp h1 h2 h3 h4 fF hA
 refine (W100 w X aq a1 c1 a2 c2 a3 c3 r4 m4  b1 i1 _ (v aq hp) h1 h2 h3 h4 fF hA).mono ?_
 rintro _ _ _ _ ⟨r,rfl,h⟩
 exact h
theorem W102 (N) (rh:S103) (Ee:S104) (Gn:S90N N) (w0) (X0) (p_:aa) (ax:a8) (aP:Int) (bF:List aa) (a1) (c1) (a2) (c2) (a3) (c3) (m3) (r4) (m4) (a5) (c5) (cM) (b1) (i1) (b2) (i2) (b3) (i3) (b4) (i4) (Q:(List aa) × Bool × a8->Prop) (hm:VC102 N p_ ax aP bF Q) (h1:RS aB w0 X0 a1 ax.o.Rows c1) (h2:RS ar w0 X0 a2 ax.l c2) (h3:OS dJ 4 w0 X0 m3 a3 ax.done c3) (h4:OMS aU tI false w0 X0 m4 r4 ax.failed) (h5:RS av w0 X0 a5 bF c5) (fF:Cell w0 X0 b1 i1 147 [.pointer (some ⟨b2,0,none⟩)]) (g8:Cell w0 X0 b2 i2 161 [.int .i64 ax.o.au,.int .i64 ax.o.aA,.int .i64 ax.o.aH,.slice a1 ax.o.Rows.length c1,.slice a2 ax.l.length c2,.slice a3 ax.done.length c3,.map (some r4)]) (lT:Cell w0 X0 b3 i3 3 [.int .i64 aP]) (ur:Cell w0 X0 b4 i4 26 [.slice a5 bF.length c5]) (hA:dS [i1,i2,i3,i4,m3,m4]) :
  Ret Tryz.prog 102 #[.agg #[.int .i64 p_.Oper,.int .i64 p_.Result],.pointer (some ⟨b1,0,none⟩),.pointer (some ⟨b3,0,none⟩),.pointer (some ⟨b4,0,none⟩)] (pR [i1,i2,i3,i4,m3,m4]) w0 X0 (fun w X' v=>∃ r,Q r/\∃ cQ cN jg jf pK pJ yH yG,v=.tuple #[.slice cQ r.1.length cN,.bool r.2.1]/\OS av 56 w X' cM cQ r.1 cN/\RS aB w X' jg r.2.2.o.Rows jf/\RS ar w X' pK r.2.2.l pJ/\OS dJ 4 w X' m3 yH r.2.2.done yG/\Cell w X' b1 i1 147 [.pointer (some ⟨b2,0,none⟩)]/\Cell w X' b2 i2 161 [.int .i64 r.2.2.o.au,.int .i64 r.2.2.o.aA,.int .i64 r.2.2.o.aH,.slice jg r.2.2.o.Rows.length jf,.slice pK r.2.2.l.length pJ,.slice yH r.2.2.done.length yG,.map (some r4)]/\OMS aU tI false w X' m4 r4 r.2.2.failed/\Cell w X' b3 i3 3 [.int .i64 aP]/\Cell w X' b4 i4 26 [.slice a5 bF.length c5]):=by
 unfold VC102 at hm
 replace hm:=hm (h1.sm kr)
 replace hm:=hm (h2.sm kr)
 replace hm:=hm (h3.sm kr)
 replace hm:=hm (h5.sm kr)
 refine fT Tryz.func102 rfl (dH (zAc2 i1 i2 i3 i4 m3 m4)) (fun id=>(bif Nat.beq id 901 then b1 else (bif Nat.beq id 902 then b2 else (bif Nat.beq id 903 then b3 else (bif Nat.beq id 904 then b4 else 0))))) (args:=[V (.agg #[.int .i64 p_.Oper,.int .i64 p_.Result]),Pt 901 0,Pt 903 0,Pt 904 0]) (bxs:=[(901,(147,[Pt 902 0])),(902,(161,[I ax.o.au,I ax.o.aA,I ax.o.aH,Sl a1 ax.o.Rows c1,Sl a2 ax.l c2,Sl a3 ax.done c3,V (.map (some r4))])),(903,(3,[I aP])),(904,(26,[Sl a5 bF c5]))]) kr rfl (bq.cons kr (fF.map (bQ 0 hA.1 rfl)) (bq.cons kr (g8.map (bQ 1 hA.1 rfl)) (bq.cons kr (lT.map (bQ 2 hA.1 rfl)) (bq.cons kr (ur.map (bQ 3 hA.1 rfl)) bq.nil)))) (fJ (fun q hq=>(hA.2 q.1 (List.mem_map.2 ⟨q,hq,rfl⟩)).1)) ?_
 intro a hS hO hM
 have hP:Pin [(901,b1),(902,b2),(903,b3),(904,b4)] (fun id=>(bif Nat.beq id 901 then b1 else (bif Nat.beq id 902 then b2 else (bif Nat.beq id 903 then b3 else (bif Nat.beq id 904 then b4 else 0))))):=by intro q hq; simp at hq; rcases hq with rfl | rfl | rfl | rfl <;> rfl
 generalize (fun id=>(bif Nat.beq id 901 then b1 else (bif Nat.beq id 902 then b2 else (bif Nat.beq id 903 then b3 else (bif Nat.beq id 904 then b4 else 0)))))=Z at hS hP
 clear fF g8 lT ur
 replace h1:=h1.m0 hM
 replace h2:=h2.m0 hM
 replace h3:=h3.map (f:=dH (zAc2 i1 i2 i3 i4 m3 m4)) (bQ 4 hA.1 rfl) hM
 replace h4:=h4.map (f:=dH (zAc2 i1 i2 i3 i4 m3 m4)) (bQ 5 hA.1 rfl) hM
 replace h5:=h5.m0 hM
 refine rM T hS ⟨[(1,Pt 901 0),(2,Pt 903 0),(3,Pt 904 0),(4,Pt 5 0)],[(5,(56,(cK p_))),(901,(147,[Pt 902 0])),(902,(161,[I ax.o.au,I ax.o.aA,I ax.o.aH,Sl a1 ax.o.Rows c1,Sl a2 ax.l c2,Sl a3 ax.done c3,V (.map (some r4))])),(903,(3,[I aP])),(904,(26,[Sl a5 bF c5]))]⟩ fun Z a O2 Rg hS hE hr=>?_
 replace hO:=hO.m2 hE
 replace h1:=h1.m1 hE
 replace h2:=h2.m1 hE
 replace h3:=h3.m2 hE
 replace h4:=h4.m2 hE
 replace h5:=h5.m1 hE
 replace hP:=hP.mv hr kr
 clear hE hr
 refine dB [5,901,902,903,904] mixed hS ?_
 intro oX pE hS hE hD hH
 replace hO:=hO.m2 hE
 replace h1:=h1.m1 hE
 replace h2:=h2.m1 hE
 replace h3:=h3.m2 hE
 replace h4:=h4.m2 hE
 replace h5:=h5.m1 hE
 refine tk T [0,4,5,9,1,6,10,2,7,3,8] [5,901,902,903,904] hS hH #[true,true,true,true,true,true,true,true,true,true,true,false,false,false,false,false,false,false,false,false,false,false] 11 ⟨[(1,Pt 901 0),(3,Pt 904 0),(4,Pt 5 0),(16,V (.agg #[.int .i64 ax.o.au,.int .i64 ax.o.aA,.int .i64 ax.o.aH,.slice a1 ax.o.Rows.length c1])),(17,I aP),(21,Sl a2 ax.l c2),(23,I p_.Oper)],[(5,(56,(cK p_))),(901,(147,[Pt 902 0])),(902,(161,[I ax.o.au,I ax.o.aA,I ax.o.aH,Sl a1 ax.o.Rows c1,Sl a2 ax.l c2,Sl a3 ax.done c3,V (.map (some r4))])),(903,(3,[I aP])),(904,(26,[Sl a5 bF c5]))]⟩ fun a hS=>?_
 obtain ⟨hq,hm⟩:=hm
 refine dg (e:=102) (k:=.i64) T 11 hS kr kr kr (by rfl) kr hH kr kr h2 kr kr hq.1 hq.2 ?_
 intro uP a h104 hS
 have vX:=h104.here
 refine dt (off:=1) (fsz:=1) (ft:=3) (TF:=tI) (y:=(gi ax.l p_.Oper).Kind) 12 T hS kr kr kr (by rfl) kr hH kr h104 kr kr kr (fun cs h=>mK h) ?_
 intro yx a h106 fO hS
 have rr:=vX
 rw [← fO] at rr
 clear fO
 refine dQ T 13 hS kr kr kr (by rfl) kr hH kr h106 rr rfl kr ?_
 intro v107 a hv hS
 cases hv
 refine only 14 kr (by rfl) (call hS kr kr hb103 kr (fun _ _=>rfl) (rh _ _ ax.o aP ((gi ax.l p_.Oper).Kind) a1 c1 h1) ?_)
 intro v108 a qm sf hE hp hS
 replace hO:=hO.m2 hE
 replace hD:=hD.ev hE rfl
 replace h1:=h1.m1 hE
 replace h2:=h2.m1 hE
 replace h3:=h3.m2 hE
 replace h4:=h4.m2 hE
 replace h5:=h5.m1 hE
 replace h104:=h104.m1 hE
 replace h106:=h106.m1 hE
 obtain ⟨bG,hr⟩:∃ r,ct ax.o aP ((gi ax.l p_.Oper).Kind)=r:=⟨_,rfl⟩
 replace hm:=hm bG hr
 rw [hr] at hp
 clear hr
 subst hp
 replace hS:=hS.sl ⟨[(1,Pt 901 0),(3,Pt 904 0),(4,Pt 5 0),(16,V (.agg #[.int .i64 ax.o.au,.int .i64 ax.o.aA,.int .i64 ax.o.aH,.slice a1 ax.o.Rows.length c1])),(17,I aP),(21,Sl a2 ax.l c2),(23,I p_.Oper),(24,V (.pointer (some uP))),(25,V (.pointer (some yx))),(26,I ((gi ax.l p_.Oper).Kind)),(27,V (.tuple #[.int .i64 bG.1,.int .i64 bG.2.1,.bool bG.2.2]))],[(5,(56,(cK p_))),(901,(147,[Pt 902 0])),(902,(161,[I ax.o.au,I ax.o.aA,I ax.o.aH,Sl a1 ax.o.Rows c1,Sl a2 ax.l c2,Sl a3 ax.done c3,V (.map (some r4))])),(903,(3,[I aP])),(904,(26,[Sl a5 bF c5]))]⟩
 refine da (bO.of hS (bks:=[5,901,902,903,904]) kr hD) ?_
 intro hH
 refine tk T [15,16,17,18,19,20,21] [5,901,902,903,904] hS hH #[true,true,true,true,true,true,true,true,true,true,true,true,true,true,true,true,true,true,true,true,true,true] 0 ⟨[(1,Pt 901 0),(3,Pt 904 0),(4,Pt 5 0),(7,I bG.1)],[(5,(56,(cK p_))),(901,(147,[Pt 902 0])),(902,(161,[I ax.o.au,I ax.o.aA,I ax.o.aH,Sl a1 ax.o.Rows c1,Sl a2 ax.l c2,Sl a3 ax.done c3,V (.map (some r4))])),(903,(3,[I aP])),(904,(26,[Sl a5 bF c5]))]⟩ fun a hS=>?_
 refine aY kr ?_
 replace hS:=hS.sl ⟨[(1,Pt 901 0),(3,Pt 904 0),(4,Pt 5 0),(7,I bG.1)],[(5,(56,(cK p_))),(901,(147,[Pt 902 0])),(902,(161,[I ax.o.au,I ax.o.aA,I ax.o.aH,Sl a1 ax.o.Rows c1,Sl a2 ax.l c2,Sl a3 ax.done c3,V (.map (some r4))])),(903,(3,[I aP])),(904,(26,[Sl a5 bF c5]))]⟩
 refine dB [5,901,902,903,904] mixed hS ?_
 intro Bt wT hS hE hD hH
 replace hO:=hO.m2 hE
 replace h1:=h1.m1 hE
 replace h2:=h2.m1 hE
 replace h3:=h3.m2 hE
 replace h4:=h4.m2 hE
 replace h5:=h5.m1 hE
 refine tk T [0,4,1,5,2,3] [5,901,902,903,904] hS hH #[true,true,true,true,true,true,false,false] 2 ⟨[(1,Pt 901 0),(3,Pt 904 0),(4,Pt 5 0),(7,I bG.1),(34,Sl a3 ax.done c3),(36,I p_.Oper)],[(5,(56,(cK p_))),(901,(147,[Pt 902 0])),(902,(161,[I ax.o.au,I ax.o.aA,I ax.o.aH,Sl a1 ax.o.Rows c1,Sl a2 ax.l c2,Sl a3 ax.done c3,V (.map (some r4))])),(903,(3,[I aP])),(904,(26,[Sl a5 bF c5]))]⟩ fun a hS=>?_
 obtain ⟨vI,hm⟩:=hm
 refine only 6 kr (by rfl) (nO (E:=4) (k:=.i64) T hS kr kr kr kr h3 kr kr vI.1 vI.2 ?_)
 intro ET a h116 h115 hS
 refine da (bO.of hS (bks:=[5,901,902,903,904]) kr hD) ?_
 intro hH
 refine only 7 kr (by rfl) (BA (x:=true) (v:=B true) (i:=p_.Oper.toNat) (E:=4) (xs:=ax.done) T hS kr kr kr kr h3 h116 (by have:=vI.1; have:=vI.2; omega) kr (fun _ _ _=>rfl) ?_)
 intro a z5 hE h119 hS
 clear h3 h116 h115 vI
 replace hO:=hO.m2 hE
 replace hD:=hD.ev hE rfl
 replace h1:=h1.m1 hE
 replace h2:=h2.m1 hE
 replace h4:=h4.m2 hE
 replace h5:=h5.m1 hE
 replace hS:=hS.conv (t:=34) (y:=.slice a3 (ax.done.set p_.Oper.toNat true).length c3) kr (by rw [List.length_set])
 refine da (bO.of hS (bks:=[5,901,902,903,904]) kr hD) ?_
 intro hH
 have zp:=hS.cell (id:=902) (t:=161) (cs:=[I ax.o.au,I ax.o.aA,I ax.o.aH,Sl a1 ax.o.Rows c1,Sl a2 ax.l c2,Sl a3 ax.done c3,V (.map (some r4))]) kr
 replace zp:=zp.conv (vals':=[.int .i64 ax.o.au,.int .i64 ax.o.aA,.int .i64 ax.o.aH,.slice a1 ax.o.Rows.length c1,.slice a2 ax.l.length c2,.slice a3 (ax.done.set p_.Oper.toNat true).length c3,.map (some r4)]) (by rw [List.length_set]; rfl)
 replace hS:=hS.cI (id:=902) (t:=161) (cs:=[I ax.o.au,I ax.o.aA,I ax.o.aH,Sl a1 ax.o.Rows c1,Sl a2 ax.l c2,Sl a3 (ax.done.set p_.Oper.toNat true) c3,V (.map (some r4))]) kr zp
 clear zp
 refine aY kr ?_
 replace hS:=hS.sl ⟨[(1,Pt 901 0),(3,Pt 904 0),(4,Pt 5 0),(7,I bG.1)],[(5,(56,(cK p_))),(901,(147,[Pt 902 0])),(902,(161,[I ax.o.au,I ax.o.aA,I ax.o.aH,Sl a1 ax.o.Rows c1,Sl a2 ax.l c2,Sl a3 (ax.done.set p_.Oper.toNat true) c3,V (.map (some r4))])),(903,(3,[I aP])),(904,(26,[Sl a5 bF c5]))]⟩
 refine dB [5,901,903,904] mixed hS ?_
 intro xg Df hS hE hD hH
 replace hO:=hO.m2 hE
 replace h1:=h1.m1 hE
 replace h2:=h2.m1 hE
 replace h4:=h4.m2 hE
 replace h5:=h5.m1 hE
 replace h119:=h119.m2 hE
 refine tk T [0,1,2,4] [5,901,903,904] hS hH #[true,true,true,false,true,false,false,false,false,false,false,false,false] 9 ⟨[(1,Pt 901 0),(4,Pt 5 0),(39,Pt 902 0),(40,I bG.1),(41,Sl a5 bF c5),(43,V (.agg #[.int .i64 p_.Oper,.int .i64 p_.Result]))],[(5,(56,(cK p_))),(901,(147,[Pt 902 0])),(902,(161,[I ax.o.au,I ax.o.aA,I ax.o.aH,Sl a1 ax.o.Rows c1,Sl a2 ax.l c2,Sl a3 (ax.done.set p_.Oper.toNat true) c3,V (.map (some r4))])),(903,(3,[I aP])),(904,(26,[Sl a5 bF c5]))]⟩ fun a hS=>?_
 obtain ⟨G0,hm⟩:=hm
 obtain ⟨mX,El⟩:∃ r,b6 bF=r:=⟨_,rfl⟩
 replace hm:=hm mX El
 refine zK (fun a w=>∃ X uK uD mF mD,St Tryz.f102.ntmps ⟨[(1,Pt 901 0),(4,Pt 5 0),(39,Pt 902 0),(40,I bG.1),(42,Sl uK mX uD),(44,Sl mF [p_] mD)],[(5,(56,(cK p_))),(901,(147,[Pt 902 0])),(902,(161,[I ax.o.au,I ax.o.aA,I ax.o.aH,Sl a1 ax.o.Rows c1,Sl a2 ax.l c2,Sl a3 (ax.done.set p_.Oper.toNat true) c3,V (.map (some r4))])),(903,(3,[I aP])),(904,(26,[Sl a5 bF c5]))]⟩ Z a w X/\gq (dH (zAc2 i1 i2 i3 i4 m3 m4)) w0 X0 w X/\M0 xg Df w X/\bO xg Df (mZ [5,901,903,904] ⟨[(1,Pt 901 0),(3,Pt 904 0),(4,Pt 5 0),(7,I bG.1)],[(5,(56,(cK p_))),(901,(147,[Pt 902 0])),(902,(161,[I ax.o.au,I ax.o.aA,I ax.o.aH,Sl a1 ax.o.Rows c1,Sl a2 ax.l c2,Sl a3 (ax.done.set p_.Oper.toNat true) c3,V (.map (some r4))])),(903,(3,[I aP])),(904,(26,[Sl a5 bF c5]))]⟩) Z w/\OS av 56 w X 1006 uK mX uD/\RS av w X mF [p_] mD/\RS aB w X a1 ax.o.Rows c1/\RS ar w X a2 ax.l c2/\OS dJ 4 w X 2003 a3 (ax.done.set p_.Oper.toNat true) c3/\OMS aU tI false w X 2004 r4 ax.failed/\RS av w X a5 bF c5) #[true,true,true,true,true,true,false,false,false,false,false,false,false] 7 ?_ (fun H=>?_)
 ·rintro a KG ⟨Nc,uK,uD,mF,mD,hS,hO,hD,hH,h145,h148,h151,h152,h153,h154,h155⟩
  replace hm:=hm (h145.sm kr)
  clear G0 El
  obtain ⟨hq,hm⟩:=hm
  obtain ⟨news,hN⟩:=h148.src
  refine only 6 kr (by rfl) (append (E:=56) (T:=av) (col:=1006) (xs:=mX) T hS kr kr kr kr h145 hN kr kr kr kr hq ?_)
  intro JN Jz a HS JW hE h182 hS
  clear hq hN
  clear h145
  replace hO:=hO.m2 hE
  replace hD:=hD.ev hE rfl
  replace h148:=h148.m1 hE
  replace h151:=h151.m1 hE
  replace h152:=h152.m1 hE
  replace h153:=h153.m2 hE
  replace h154:=h154.m2 hE
  replace h155:=h155.m1 hE
  replace hS:=hS.sl ⟨[(1,Pt 901 0),(4,Pt 5 0),(39,Pt 902 0),(40,I bG.1),(44,Sl mF [p_] mD),(45,Sl JN (mX++[p_]) Jz)],[(5,(56,(cK p_))),(901,(147,[Pt 902 0])),(902,(161,[I ax.o.au,I ax.o.aA,I ax.o.aH,Sl a1 ax.o.Rows c1,Sl a2 ax.l c2,Sl a3 (ax.done.set p_.Oper.toNat true) c3,V (.map (some r4))])),(903,(3,[I aP])),(904,(26,[Sl a5 bF c5]))]⟩
  refine da (bO.of hS (bks:=[5,901,903,904]) kr hD) ?_
  intro hH
  obtain ⟨hq,hm⟩:=hm
  refine only 7 kr (by rfl) (l9 hS kr kr hb90 kr (Gn _ _ bG.1 (mX++[p_]) (⟨ax.o,ax.l,(ax.done.set p_.Oper.toNat true),ax.failed⟩:a8) JN Jz 1006 a1 c1 a2 c2 a3 c3 2003 r4 2004 (Z 902) 902 hq.1 hq.2 h182 h151 h152 h153 h154 (hS.cell (id:=902) (t:=161) (cs:=[I ax.o.au,I ax.o.aA,I ax.o.aH,Sl a1 ax.o.Rows c1,Sl a2 ax.l c2,Sl a3 (ax.done.set p_.Oper.toNat true) c3,V (.map (some r4))]) kr) ⟨by decide,by decide⟩) ?_)
  intro v185 a FW JU hE hp hS
  clear h154
  clear h182
  clear h153
  replace hO:=hO.m2 hE
  replace hD:=hD.ev hE rfl
  replace h148:=h148.m1 hE
  replace h151:=h151.m1 hE
  replace h152:=h152.m1 hE
  replace h155:=h155.m1 hE
  obtain ⟨wK,wz,qb,p8,qa,p7,oU,oN,hp,h191,h194,h197,h200,Cy,h201⟩:=hp
  obtain ⟨cD,hr⟩:∃ r,aJ bG.1 (mX++[p_]) (⟨ax.o,ax.l,(ax.done.set p_.Oper.toNat true),ax.failed⟩:a8)=r:=⟨_,rfl⟩
  replace hm:=hm cD hr
  rw [hr] at hp h191 h194 h197 h200 Cy h201
  clear hr
  subst hp
  replace hm:=hm (h191.sm kr)
  replace hm:=hm (h194.sm kr)
  replace hm:=hm (h197.sm kr)
  replace hm:=hm (h200.sm kr)
  replace hS:=hS.cI (id:=902) (t:=161) (cs:=[I cD.2.2.o.au,I cD.2.2.o.aA,I cD.2.2.o.aH,Sl qb cD.2.2.o.Rows p8,Sl qa cD.2.2.l p7,Sl oU cD.2.2.done oN,V (.map (some r4))]) kr Cy
  clear Cy
  replace hS:=hS.sl ⟨[(1,Pt 901 0),(4,Pt 5 0),(39,Pt 902 0),(40,I bG.1),(44,Sl mF [p_] mD),(46,V (.tuple #[.slice wK cD.1.length wz,.bool cD.2.1]))],[(5,(56,(cK p_))),(901,(147,[Pt 902 0])),(902,(161,[I cD.2.2.o.au,I cD.2.2.o.aA,I cD.2.2.o.aH,Sl qb cD.2.2.o.Rows p8,Sl qa cD.2.2.l p7,Sl oU cD.2.2.done oN,V (.map (some r4))])),(903,(3,[I aP])),(904,(26,[Sl a5 bF c5]))]⟩
  refine da (bO.of hS (bks:=[5,901,903,904]) kr hD) ?_
  intro hH
  refine tk T [8,9,10,11,12] [5,901,903,904] hS hH #[true,true,true,true,true,true,true,true,true,true,true,true,true] 0 ⟨[(1,Pt 901 0),(4,Pt 5 0),(10,Sl wK cD.1 wz),(11,B cD.2.1)],[(5,(56,(cK p_))),(901,(147,[Pt 902 0])),(902,(161,[I cD.2.2.o.au,I cD.2.2.o.aA,I cD.2.2.o.aH,Sl qb cD.2.2.o.Rows p8,Sl qa cD.2.2.l p7,Sl oU cD.2.2.done oN,V (.map (some r4))])),(903,(3,[I aP])),(904,(26,[Sl a5 bF c5]))]⟩ fun a hS=>?_
  refine aY kr ?_
  replace hS:=hS.sl ⟨[(1,Pt 901 0),(4,Pt 5 0),(10,Sl wK cD.1 wz),(11,B cD.2.1)],[(5,(56,(cK p_))),(901,(147,[Pt 902 0])),(902,(161,[I cD.2.2.o.au,I cD.2.2.o.aA,I cD.2.2.o.aH,Sl qb cD.2.2.o.Rows p8,Sl qa cD.2.2.l p7,Sl oU cD.2.2.done oN,V (.map (some r4))])),(903,(3,[I aP])),(904,(26,[Sl a5 bF c5]))]⟩
  refine dB [5,901,902,903,904] mixed hS ?_
  intro HP M3 hS hE hD hH
  replace hO:=hO.m2 hE
  replace h155:=h155.m1 hE
  replace h201:=h201.m2 hE
  replace h191:=h191.m2 hE
  replace h194:=h194.m1 hE
  replace h197:=h197.m1 hE
  replace h200:=h200.m2 hE
  refine tk T [0,4,1,5,2,3] [5,901,902,903,904] hS hH #[true,true,true,true,true,true,false,false] 2 ⟨[(10,Sl wK cD.1 wz),(11,B cD.2.1),(52,Sl oU cD.2.2.done oN),(54,I p_.Oper)],[(5,(56,(cK p_))),(901,(147,[Pt 902 0])),(902,(161,[I cD.2.2.o.au,I cD.2.2.o.aA,I cD.2.2.o.aH,Sl qb cD.2.2.o.Rows p8,Sl qa cD.2.2.l p7,Sl oU cD.2.2.done oN,V (.map (some r4))])),(903,(3,[I aP])),(904,(26,[Sl a5 bF c5]))]⟩ fun a hS=>?_
  obtain ⟨vH,hm⟩:=hm
  refine only 6 kr (by rfl) (nO (E:=4) (k:=.i64) T hS kr kr kr kr h200 kr kr vH.1 vH.2 ?_)
  intro RK a h207 h206 hS
  refine da (bO.of hS (bks:=[5,901,902,903,904]) kr hD) ?_
  intro hH
  refine only 7 kr (by rfl) (BA (x:=false) (v:=B false) (i:=p_.Oper.toNat) (E:=4) (xs:=cD.2.2.done) T hS kr kr kr kr h200 h207 (by have:=vH.1; have:=vH.2; omega) kr (fun _ _ _=>rfl) ?_)
  intro a HO hE h210 hS
  clear h200 h207 h206 vH
  replace hO:=hO.m2 hE
  replace hD:=hD.ev hE rfl
  replace h155:=h155.m1 hE
  replace h201:=h201.m2 hE
  replace h191:=h191.m2 hE
  replace h194:=h194.m1 hE
  replace h197:=h197.m1 hE
  replace hS:=hS.conv (t:=52) (y:=.slice oU (cD.2.2.done.set p_.Oper.toNat false).length oN) kr (by rw [List.length_set])
  refine da (bO.of hS (bks:=[5,901,902,903,904]) kr hD) ?_
  intro hH
  have zm:=hS.cell (id:=902) (t:=161) (cs:=[I cD.2.2.o.au,I cD.2.2.o.aA,I cD.2.2.o.aH,Sl qb cD.2.2.o.Rows p8,Sl qa cD.2.2.l p7,Sl oU cD.2.2.done oN,V (.map (some r4))]) kr
  replace zm:=zm.conv (vals':=[.int .i64 cD.2.2.o.au,.int .i64 cD.2.2.o.aA,.int .i64 cD.2.2.o.aH,.slice qb cD.2.2.o.Rows.length p8,.slice qa cD.2.2.l.length p7,.slice oU (cD.2.2.done.set p_.Oper.toNat false).length oN,.map (some r4)]) (by rw [List.length_set]; rfl)
  replace hS:=hS.cI (id:=902) (t:=161) (cs:=[I cD.2.2.o.au,I cD.2.2.o.aA,I cD.2.2.o.aH,Sl qb cD.2.2.o.Rows p8,Sl qa cD.2.2.l p7,Sl oU (cD.2.2.done.set p_.Oper.toNat false) oN,V (.map (some r4))]) kr zm
  clear zm
  refine aY kr ?_
  replace hS:=hS.sl ⟨[(10,Sl wK cD.1 wz),(11,B cD.2.1)],[(901,(147,[Pt 902 0])),(902,(161,[I cD.2.2.o.au,I cD.2.2.o.aA,I cD.2.2.o.aH,Sl qb cD.2.2.o.Rows p8,Sl qa cD.2.2.l p7,Sl oU (cD.2.2.done.set p_.Oper.toNat false) oN,V (.map (some r4))])),(903,(3,[I aP])),(904,(26,[Sl a5 bF c5]))]⟩
  refine rP T hS ⟨[(5,Sl wK cD.1 wz),(6,B cD.2.1)],[(901,(147,[Pt 902 0])),(902,(161,[I cD.2.2.o.au,I cD.2.2.o.aA,I cD.2.2.o.aH,Sl qb cD.2.2.o.Rows p8,Sl qa cD.2.2.l p7,Sl oU (cD.2.2.done.set p_.Oper.toNat false) oN,V (.map (some r4))])),(903,(3,[I aP])),(904,(26,[Sl a5 bF c5]))]⟩ fun a hS=>?_
  refine ba ?_
  exact g9 T hS hO (fun c h=>bZ kr h) (fun c h=>b0 (l:=(zAc2 i1 i2 i3 i4 m3 m4)) h) (bT [(i1,901),(i2,902),(i3,903),(i4,904),(m3,2003),(m4,2004),(cM,1006)]) rfl (r:=[.slice wK cD.1.length wz,.bool cD.2.1]) kr (fun X' hM hC=>⟨(cD.1,cD.2.1,(⟨cD.2.2.o,cD.2.2.l,(cD.2.2.done.set p_.Oper.toNat false),cD.2.2.failed⟩:a8)),hm,wK,wz,qb,p8,qa,p7,oU,oN,rfl,(OS.out (f:=(bT [(i1,901),(i2,902),(i3,903),(i4,904),(m3,2003),(m4,2004),(cM,1006)])) h191 hM hC kr),h194.m0 hM,h197.m0 hM,(OS.out (f:=(bT [(i1,901),(i2,902),(i3,903),(i4,904),(m3,2003),(m4,2004),(cM,1006)])) h210 hM hC kr),(Cell.ptr (id:=902) ((hS.cell (id:=901) (t:=147) (cs:=[Pt 902 0]) kr).out (f:=(bT [(i1,901),(i2,902),(i3,903),(i4,904),(m3,2003),(m4,2004),(cM,1006)])) hC kr kr (hP.at 0 rfl)) (hP.at 1 rfl)),((hS.cell (id:=902) (t:=161) (cs:=[I cD.2.2.o.au,I cD.2.2.o.aA,I cD.2.2.o.aH,Sl qb cD.2.2.o.Rows p8,Sl qa cD.2.2.l p7,Sl oU (cD.2.2.done.set p_.Oper.toNat false) oN,V (.map (some r4))]) kr).out (f:=(bT [(i1,901),(i2,902),(i3,903),(i4,904),(m3,2003),(m4,2004),(cM,1006)])) hC kr kr (hP.at 1 rfl)),(h201.out (f:=(bT [(i1,901),(i2,902),(i3,903),(i4,904),(m3,2003),(m4,2004),(cM,1006)])) hM hC kr kr),((hS.cell (id:=903) (t:=3) (cs:=[I aP]) kr).out (f:=(bT [(i1,901),(i2,902),(i3,903),(i4,904),(m3,2003),(m4,2004),(cM,1006)])) hC kr kr (hP.at 2 rfl)),((hS.cell (id:=904) (t:=26) (cs:=[Sl a5 bF c5]) kr).out (f:=(bT [(i1,901),(i2,902),(i3,903),(i4,904),(m3,2003),(m4,2004),(cM,1006)])) hC kr kr (hP.at 3 rfl))⟩)
 clear hm
 refine rJ (is:=[3,5]) kr (by decide) ?_
 intro i hi
 rcases Az hi with rfl | rfl
 ·have hq:=G0
  refine j9 (by rfl) (call hS kr kr hb104 kr (fun _ _=>rfl) (Ee _ _ bF a5 c5 1006 hq h5) ?_)
  intro v156 a zY A8 hE hp hS
  replace hO:=hO.m2 hE
  replace hD:=hD.ev hE rfl
  replace h1:=h1.m1 hE
  replace h2:=h2.m1 hE
  replace h4:=h4.m2 hE
  replace h5:=h5.m1 hE
  replace h119:=h119.m2 hE
  obtain ⟨A4,AV,hp,h162⟩:=hp
  rw [El] at hp h162
  subst hp
  replace hS:=hS.sl ⟨[(1,Pt 901 0),(4,Pt 5 0),(39,Pt 902 0),(40,I bG.1),(41,Sl a5 bF c5),(43,V (.agg #[.int .i64 p_.Oper,.int .i64 p_.Result])),(42,Sl A4 mX AV)],[(5,(56,(cK p_))),(901,(147,[Pt 902 0])),(902,(161,[I ax.o.au,I ax.o.aA,I ax.o.aH,Sl a1 ax.o.Rows c1,Sl a2 ax.l c2,Sl a3 (ax.done.set p_.Oper.toNat true) c3,V (.map (some r4))])),(903,(3,[I aP])),(904,(26,[Sl a5 bF c5]))]⟩
  refine da (bO.of hS (bks:=[5,901,903,904]) kr hD) ?_
  intro hH
  refine only 5 kr (by rfl) (lit (E:=56) (col:=0) (T:=av) (vals:=[.agg #[.int .i64 p_.Oper,.int .i64 p_.Result]]) (ys:=[p_]) T hS kr kr kr kr (by exact ⟨rfl,trivial⟩) rfl kr kr kr kr ?_)
  intro b163 a FX J0 hE h166 hN hS
  clear hN
  replace hO:=hO.m2 hE
  replace hD:=hD.ev hE rfl
  replace h1:=h1.m1 hE
  replace h2:=h2.m1 hE
  replace h4:=h4.m2 hE
  replace h5:=h5.m1 hE
  replace h119:=h119.m2 hE
  replace h162:=h162.m2 hE
  replace h166:=h166.rs0
  refine da (bO.of hS (bks:=[5,901,903,904]) kr hD) ?_
  intro hH
  exact H _ _ ⟨_,A4,AV,(some ⟨b163,0,none⟩),1,hS.sl _,hO,hD,hH,h162,h166,h1,h2,h119,h4,h5⟩
 refine j9 (by rfl) (lit (E:=56) (col:=0) (T:=av) (vals:=[.agg #[.int .i64 p_.Oper,.int .i64 p_.Result]]) (ys:=[p_]) T hS kr kr kr kr (by exact ⟨rfl,trivial⟩) rfl kr kr kr kr ?_)
 intro b167 a DG Hi hE h170 hN hS
 clear hN
 replace hO:=hO.m2 hE
 replace hD:=hD.ev hE rfl
 replace h1:=h1.m1 hE
 replace h2:=h2.m1 hE
 replace h4:=h4.m2 hE
 replace h5:=h5.m1 hE
 replace h119:=h119.m2 hE
 replace h170:=h170.rs0
 refine da (bO.of hS (bks:=[5,901,903,904]) kr hD) ?_
 intro hH
 have hq:=G0
 refine only 3 kr (by rfl) (call hS kr kr hb104 kr (fun _ _=>rfl) (Ee _ _ bF a5 c5 1006 hq h5) ?_)
 intro v171 a HV JX hE hp hS
 replace hO:=hO.m2 hE
 replace hD:=hD.ev hE rfl
 replace h1:=h1.m1 hE
 replace h2:=h2.m1 hE
 replace h4:=h4.m2 hE
 replace h5:=h5.m1 hE
 replace h119:=h119.m2 hE
 replace h170:=h170.m1 hE
 obtain ⟨kA,kp,hp,h177⟩:=hp
 rw [El] at hp h177
 subst hp
 replace hS:=hS.sl ⟨[(1,Pt 901 0),(4,Pt 5 0),(39,Pt 902 0),(40,I bG.1),(41,Sl a5 bF c5),(43,V (.agg #[.int .i64 p_.Oper,.int .i64 p_.Result])),(44,Sl (some ⟨b167,0,none⟩) [p_] 1),(42,Sl kA mX kp)],[(5,(56,(cK p_))),(901,(147,[Pt 902 0])),(902,(161,[I ax.o.au,I ax.o.aA,I ax.o.aH,Sl a1 ax.o.Rows c1,Sl a2 ax.l c2,Sl a3 (ax.done.set p_.Oper.toNat true) c3,V (.map (some r4))])),(903,(3,[I aP])),(904,(26,[Sl a5 bF c5]))]⟩
 refine da (bO.of hS (bks:=[5,901,903,904]) kr hD) ?_
 intro hH
 exact H _ _ ⟨_,kA,kp,(some ⟨b167,0,none⟩),1,hS.sl _,hO,hD,hH,h177,h170,h1,h2,h119,h4,h5⟩
theorem C102 (N:Nat) (rh:S103) (Ee:S104) (Gn:S90N N) (v:∀ (p_:aa) (ax:a8) (aP:Int) (bF:List aa),yK p_ ax aP bF->Cc p_ ax aP bF < N+1->VC102 N p_ ax aP bF (fun r=>r=bk p_ ax aP bF)):S102N (N+1):=by
 intro w X p_ ax aP bF a1 c1 a2 c2 a3 c3 m3 r4 m4 a5 c5 cM b1 i1 b2 i2 b3 i3 b4 i4 hp L3 h1 h2 h3 h4 h5 fF g8 lT ur hA
 refine (W102 N rh Ee Gn w X p_ ax aP bF a1 c1 a2 c2 a3 c3 m3 r4 m4 a5 c5 cM b1 i1 b2 i2 b3 i3 b4 i4 _ (v p_ ax aP bF hp L3) h1 h2 h3 h4 h5 fF g8 lT ur hA).mono ?_
 rintro _ _ _ _ ⟨r,rfl,h⟩
 exact h
end Go.Proofs.YteahldlmkheleaaGreat
