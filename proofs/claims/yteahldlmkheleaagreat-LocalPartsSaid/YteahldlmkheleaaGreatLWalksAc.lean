/- Walks of the functions: each returns what its condition asks. -/
import Derived.Test.YteahldlmkheleaaGreatLWalksS
set_option linter.all false
namespace Go.Proofs.YteahldlmkheleaaGreat
open Go Go.Sv
abbrev zAc0 (cU:Nat):Nat->Nat:=fun c=>(bif Nat.beq c 1009 then cU else c)
abbrev zAc1 (cU:Nat):Nat->Nat:=fun c=>(bif Nat.beq c 1003 then cU else c)
abbrev zAc2 (i1 i2 i3 i4 m3 m4:Nat):List (Nat × Nat):=[(i1,901),(i2,902),(i3,903),(i4,904),(m3,2003),(m4,2004)]
set_option maxHeartbeats 1000000
theorem W38 (GK:S66) (w0) (X0) (l_:List ab) (ah:List aa) (pending:Bool) (a1) (c1) (a2) (c2) (Q:(List Int)->Prop) (hm:VC38 l_ ah pending Q) (h1:RS ar w0 X0 a1 l_ c1) (h2:RS av w0 X0 a2 ah c2) :
  Ret Tryz.prog 38 #[.slice a1 l_.length c1,.slice a2 ah.length c2,.bool pending] aL w0 X0 (fun w X' v=>∃ r,Q r/\∃ cz cy,v=.slice cz r.length cy/\RS tI w X' cz r cy):=by
 unfold VC38 at hm
 replace hm:=hm (h1.sm kr)
 replace hm:=hm (h2.sm kr)
 refine enter Tryz.func38 rfl (vals:=[.slice a1 l_.length c1,.slice a2 ah.length c2,.bool pending]) kr ?_
 intro Z a hS hO hM
 replace h1:=h1.m0 hM
 replace h2:=h2.m0 hM
 refine rPe T hS [] [] fun a hS=>?_
 refine rPe T hS [] [(7,V (.slice none 0 0))] fun a hS=>?_
 refine cb (fun a w=>∃ (Z:Nat->Nat) (X:Nat->Nat) (bE:List Int) (dy:Option Addr) (dx:Nat),VC38_J1 Q bE/\St Tryz.f38.ntmps ⟨[(7,Sl dy bE dx)],[]⟩ Z a w X/\Old w0 X0 w X/\OS tI 3 w X 1007 dy bE dx) ?_ ?_
 ·refine rPe T hS [] [(8,I 0)] fun a hS=>?_
  refine aN ?_
  obtain ⟨I1,μ1,cx,hm⟩:=hm
  refine ct (σ:=(List Int) × Int) (fun s a w=>∃ Z X fg ff,I1 s.1 s.2/\St Tryz.f38.ntmps ⟨[(0,Sl a1 l_ c1),(1,Sl a2 ah c2),(2,B pending),(7,Sl fg s.1 ff),(8,I s.2)],[]⟩ Z a w X/\Old w0 X0 w X/\RS ar w X a1 l_ c1/\RS av w X a2 ah c2/\OS tI 3 w X 1007 fg s.1 ff) (fun s=>μ1 s.1 s.2) (⟨[],0⟩) ?_ ?_
  ·exact ⟨Z,_,none,0,cx,hS.sl _,hO,h1,h2,(OS.nil _ _ _ _ _)⟩
  rintro ⟨cr,bh⟩ a Bn ⟨Z,xY,fg,ff,hI,hS,hO,h107,h108,h112⟩
  replace hm:=hm cr bh hI
  clear hI cx
  refine bg ?_
  refine rPe T hS [] [(12,B (decide (bh < (lN l_))))] fun a hS=>?_
  refine aJ hS (b:=decide (bh < (lN l_))) kr (fun hb=>?_) fun hb=>?_
  ·replace hm:=hm.1 hb
   refine aM ?_
   refine cb (fun a w=>∃ (Z:Nat->Nat) (X:Nat->Nat) (a9:List Int) (lE:Option Addr) (lD:Nat),VC38_J2 I1 μ1 cr bh a9/\St Tryz.f38.ntmps ⟨[(0,Sl a1 l_ c1),(1,Sl a2 ah c2),(2,B pending),(7,Sl lE a9 lD),(8,I bh)],[]⟩ Z a w X/\Old w0 X0 w X/\RS ar w X a1 l_ c1/\RS av w X a2 ah c2/\OS tI 3 w X 1007 lE a9 lD) ?_ ?_
   ·refine aN ?_
    refine cb (fun a w=>∃ (Z:Nat->Nat) (X:Nat->Nat) (aV:List Int) (nv:Bool) (po:Option Addr) (pf:Nat),VC38_J3 I1 μ1 cr bh aV nv/\St Tryz.f38.ntmps ⟨[(0,Sl a1 l_ c1),(1,Sl a2 ah c2),(2,B pending),(7,Sl po aV pf),(8,I bh),(28,B nv)],[]⟩ Z a w X/\Old w0 X0 w X/\RS ar w X a1 l_ c1/\RS av w X a2 ah c2/\OS tI 3 w X 1007 po aV pf) ?_ ?_
    ·refine region ?_
     refine oPe T hS 2 [12] [(15,Sl a2 ah c2),(16,I bh)] fun a hS=>?_
     refine op1 (call hS kr kr hb66 kr (fun _ _=>rfl) (GK _ _ ah bh a2 c2 h108) ?_)
     intro v136 a Io Kj hE hp hS
     replace hO:=hO.m2 hE
     replace h107:=h107.m1 hE
     replace h108:=h108.m1 hE
     replace h112:=h112.m2 hE
     obtain ⟨xi,hr⟩:∃ r,cn ah bh=r:=⟨_,rfl⟩
     replace hm:=hm xi hr
     rw [hr] at hp
     clear hr
     subst hp
     refine oPe T hS 2 [15,16,17] [(19,B (decide (xi < 0)))] fun a hS=>?_
     rcases bft (decide (xi < 0)) with hb | hb
     ·replace hS:=hS.lit (t:=19) kr hb
      replace hm:=hm.1 hb
      refine oPe T hS 2 [] [(20,Sl a1 l_ c1),(21,I bh)] fun a hS=>?_
      obtain ⟨hq,hm⟩:=hm
      refine op1 (index (e:=102) (k:=.i64) T hS kr kr kr kr h107 kr kr hq.1 hq.2 ?_)
      intro HJ a h141 hS
      refine op1 (fw (off:=3) (fsz:=1) (ft:=3) (TF:=tI) (y:=(gi l_ bh).End) T hS kr kr kr h141 kr kr kr (fun cs h=>mH h) ?_)
      intro Kr a h143 hS
      refine op1 (dW T hS kr kr kr h143 rfl kr ?_)
      intro v144 a hv hS
      cases hv
      refine ePe T hS [19,20,21,22,23,24] [(28,B ((((gi l_ bh).End) == (-1)) == pending))] fun a hS=>?_
      exact ⟨Z,_,cr,((((gi l_ bh).End) == (-1)) == pending),fg,ff,hm,hS.sl _,hO,h107,h108,h112⟩
     replace hS:=hS.lit (t:=19) kr hb
     replace hm:=hm.2 hb
     refine ePe T hS [19] [(28,B false)] fun a hS=>?_
     exact ⟨Z,_,cr,false,fg,ff,hm,hS.sl _,hO,h107,h108,h112⟩
    rintro a DS ⟨Z,xZ,aV,nv,po,pf,hm,hS,hO,h120,h121,h125⟩
    unfold VC38_J3 at hm
    refine aJ hS (b:=nv) kr (fun hb=>?_) fun hb=>?_
    ·replace hm:=hm.1 hb
     refine region ?_
     refine oPe T hS 2 [28] [(29,Sl po aV pf),(30,I bh)] fun a hS=>?_
     refine op1 (lit (E:=3) (col:=0) (T:=tI) (vals:=[.int .i64 bh]) (ys:=[bh]) T hS kr kr kr kr (by exact ⟨rfl,trivial⟩) rfl kr kr kr kr ?_)
     intro b127 a rV sb hE h130 hN hS
     clear hN
     replace hO:=hO.m2 hE
     replace h120:=h120.m1 hE
     replace h121:=h121.m1 hE
     replace h125:=h125.m2 hE
     replace h130:=h130.rs0
     obtain ⟨hq,hm⟩:=hm
     obtain ⟨news,hN⟩:=h130.src
     refine op1 (append (E:=3) (T:=tI) (col:=1007) (xs:=aV) T hS kr kr kr kr h125 hN kr kr kr kr hq ?_)
     intro pn pd a pU pq hE h133 hS
     clear hq hN
     clear h125
     replace hO:=hO.m2 hE
     replace h120:=h120.m1 hE
     replace h121:=h121.m1 hE
     replace h130:=h130.m1 hE
     refine ePe T hS [30,31,32] [(7,Sl pn (aV++[bh]) pd)] fun a hS=>?_
     exact ⟨Z,_,aV++[bh],pn,pd,hm,hS.sl _,hO,h120,h121,h133⟩
    replace hm:=hm.2 hb
    refine aM ?_
    exact ⟨Z,_,aV,po,pf,hm,hS.sl _,hO,h120,h121,h125⟩
   rintro a Bo ⟨Z,HF,a9,lE,lD,hm,hS,hO,h114,h115,h119⟩
   unfold VC38_J2 at hm
   refine region (ePe T hS [] [(8,I (wR (bh+1)))] fun a hS=>?_)
   exact ⟨⟨a9,wR (bh+1)⟩,⟨Z,_,lE,lD,hm.1,hS.sl _,hO,h114,h115,h119⟩,hm.2⟩
  replace hm:=hm.2 hb
  refine cm (by rfl) ?_
  exact ⟨Z,_,cr,fg,ff,hm,hS.sl _,hO,h112⟩
 rintro a Ge ⟨Z,HD,bE,dy,dx,hm,hS,hO,h104⟩
 unfold VC38_J1 at hm
 refine rPe T hS [7] [(6,Sl dy bE dx)] fun a hS=>?_
 refine aY ?_
 obtain ⟨pt,hE,hF⟩:=h104.freeze (by decide)
 replace hS:=hS.ev hE (cA kr)
 replace hO:=hO.m2 hE
 have h106:=hF; clear hE hF
 exact fin T hS hO (fun c=>c) rfl (r:=[.slice dy bE.length dx]) kr (fun X' hM hC=>⟨bE,hm,dy,dx,rfl,h106.m0 hM⟩)
theorem C38 (GK:S66) (v:∀ (l_:List ab) (ah:List aa) (pending:Bool),su l_ ah pending->VC38 l_ ah pending (fun r=>r=eW l_ ah pending)):S38:=by
 intro w X l_ ah pending a1 c1 a2 c2   hp h1 h2
 refine (W38 GK w X l_ ah pending a1 c1 a2 c2   _ (v l_ ah pending hp) h1 h2).mono ?_
 rintro _ _ _ _ ⟨r,rfl,h⟩
 exact h
theorem W114 (w0) (X0) (i_:Int) (ao:List Bool) (a1) (c1) (b1) (i1) (Q:Bool->Prop) (hm:VC114 i_ ao Q) (h1:RS dP w0 X0 a1 ao c1) (fB:Cell w0 X0 b1 i1 158 [.slice a1 ao.length c1]) (hA:dZ [i1]) :
  Ret Tryz.prog 114 #[.int .i64 i_,.pointer (some ⟨b1,0,none⟩)] (pR [i1]) w0 X0 (fun w X' v=>∃ r,Q r/\v=.bool r/\Cell w X' b1 i1 158 [.slice a1 ao.length c1]):=by
 unfold VC114 at hm
 replace hm:=hm (h1.sm kr)
 refine fO Tryz.func114 rfl (dL [(i1,901)]) (fun id=>(bif Nat.beq id 901 then b1 else 0)) (args:=[I i_,Pt 901 0]) (bxs:=[(901,(158,[Sl a1 ao c1]))]) kr rfl (bu.cons kr (fB.map (bQ 0 hA.1 rfl)) bu.nil) (fD (fun q hq=>(hA.2 q.1 (List.mem_map.2 ⟨q,hq,rfl⟩)).1)) ?_
 intro a hS hO hM
 have hP:Pin [(901,b1)] (fun id=>(bif Nat.beq id 901 then b1 else 0)):=by intro q hq; simp at hq; rcases hq with rfl <;> rfl
 generalize (fun id=>(bif Nat.beq id 901 then b1 else 0))=Z at hS hP
 clear fB
 replace h1:=h1.m0 hM
 refine rPe T hS [] [] fun a hS=>?_
 refine bq ?_
 refine oPe T hS 5 [] [(8,B (decide (i_ < (lN ao))))] fun a hS=>?_
 rcases bft (decide (i_ < (lN ao))) with hb | hb
 ·replace hS:=hS.lit (t:=8) kr hb
  replace hm:=hm.1 hb
  refine oPe T hS 2 [0,1] [(9,Sl a1 ao c1),(10,I i_)] fun a hS=>?_
  obtain ⟨hq,hm⟩:=hm
  refine op1 (index (e:=4) (k:=.i64) T hS kr kr kr kr h1 kr kr hq.1 hq.2 ?_)
  intro Kx a h102 hS
  refine op1 (dW T hS kr kr kr h102 rfl kr ?_)
  intro v103 a hv hS
  cases hv
  refine ePe T hS [8,9,10,11,12] [(3,B (gi ao i_))] fun a hS=>?_
  refine aY ?_
  exact gW T hS hO (fun c h=>b0 kr h) (fun c h=>b5 (l:=[(i1,901)]) h) (bU [(i1,901)]) rfl (r:=[.bool (gi ao i_)]) kr (fun X' hM hC=>⟨(gi ao i_),hm,rfl,((hS.cell (id:=901) (t:=158) (cs:=[Sl a1 ao c1]) kr).out (f:=(bU [(i1,901)])) hC kr kr (hP.at 0 rfl))⟩)
 replace hS:=hS.lit (t:=8) kr hb
 replace hm:=hm.2 hb
 refine ePe T hS [0,1,8] [(3,B false)] fun a hS=>?_
 refine aY ?_
 exact gW T hS hO (fun c h=>b0 kr h) (fun c h=>b5 (l:=[(i1,901)]) h) (bU [(i1,901)]) rfl (r:=[.bool false]) kr (fun X' hM hC=>⟨false,hm,rfl,((hS.cell (id:=901) (t:=158) (cs:=[Sl a1 ao c1]) kr).out (f:=(bU [(i1,901)])) hC kr kr (hP.at 0 rfl))⟩)
theorem C114 (v:∀ (i_:Int) (ao:List Bool),vj i_ ao->VC114 i_ ao (fun r=>r=fh i_ ao)):S114:=by
 intro w X i_ ao a1 c1  b1 i1 hp h1 fB hA
 refine (W114 w X i_ ao a1 c1  b1 i1 _ (v i_ ao hp) h1 fB hA).mono ?_
 rintro _ _ _ _ ⟨r,rfl,h⟩
 exact h
theorem W112 (Ek:S114) (xy:S63) (w0) (X0) (l_:List ab) (done:List Bool) (a1) (c1) (a2) (c2) (Q:(List Int)->Prop) (hm:VC112 l_ done Q) (h1:RS ar w0 X0 a1 l_ c1) (h2:RS dP w0 X0 a2 done c2) :
  Ret Tryz.prog 112 #[.slice a1 l_.length c1,.slice a2 done.length c2] aL w0 X0 (fun w X' v=>∃ r,Q r/\∃ cz cy,v=.slice cz r.length cy/\RS tI w X' cz r cy):=by
 unfold VC112 at hm
 replace hm:=hm (h1.sm kr)
 replace hm:=hm (h2.sm kr)
 refine enter Tryz.func112 rfl (vals:=[.slice a1 l_.length c1,.slice a2 done.length c2]) kr ?_
 intro Z a hS hO hM
 replace h1:=h1.m0 hM
 replace h2:=h2.m0 hM
 refine rM T hS ⟨[(0,Sl a1 l_ c1),(3,Pt 4 0)],[(4,(158,[Sl a2 done c2]))]⟩ fun Z a K2 NN hS hE hr=>?_
 replace hO:=hO.m2 hE
 replace h1:=h1.m1 hE
 replace h2:=h2.m1 hE
 clear hE hr
 refine rPe T hS [3] [(5,.f (.func 114) [] [.p 4 0])] fun a hS=>?_
 refine rPe T hS [] [(6,V (.slice none 0 0))] fun a hS=>?_
 refine cb (fun a w=>∃ (Z:Nat->Nat) (X:Nat->Nat) (bE:List Int) (dy:Option Addr) (dx:Nat),VC112_J1 Q bE/\St Tryz.f112.ntmps ⟨[(6,Sl dy bE dx)],[]⟩ Z a w X/\Old w0 X0 w X/\OS tI 3 w X 1005 dy bE dx) ?_ ?_
 ·refine rPe T hS [] [(13,Sl a1 l_ c1),(14,I (lN l_)),(15,I 0)] fun a hS=>?_
  refine aN ?_
  obtain ⟨I1,μ1,cx,hm⟩:=hm
  refine ct (σ:=(List Int) × Int) (fun s a w=>∃ Z X cI cH,I1 s.1 s.2/\St Tryz.f112.ntmps ⟨[(0,Sl a1 l_ c1),(5,.f (.func 114) [] [.p 4 0]),(6,Sl cI s.1 cH),(13,Sl a1 l_ c1),(14,I (lN l_)),(15,I s.2)],[(4,(158,[Sl a2 done c2]))]⟩ Z a w X/\Old w0 X0 w X/\RS ar w X a1 l_ c1/\OS tI 3 w X 1005 cI s.1 cH/\RS ar w X a1 l_ c1/\RS dP w X a2 done c2) (fun s=>μ1 s.1 s.2) (⟨[],0⟩) ?_ ?_
  ·exact ⟨Z,_,none,0,cx,hS.sl _,hO,h1,(OS.nil _ _ _ _ _),h1,h2⟩
  rintro ⟨dD,bh⟩ a Ie ⟨Z,NO,cI,cH,hI,hS,hO,h107,h111,h112,h114⟩
  replace hm:=hm dD bh hI
  clear hI cx
  refine rPe T hS [] [(16,B (decide (bh < (lN l_))))] fun a hS=>?_
  refine bg ?_
  refine aJ hS (b:=decide (bh < (lN l_))) kr (fun hb=>?_) fun hb=>?_
  ·replace hm:=hm.1 hb
   refine aM ?_
   refine cb (fun a w=>∃ (Z:Nat->Nat) (X:Nat->Nat) (a9:List Int) (lE:Option Addr) (lD:Nat),VC112_J2 I1 μ1 dD bh a9/\St Tryz.f112.ntmps ⟨[(0,Sl a1 l_ c1),(5,.f (.func 114) [] [.p 4 0]),(6,Sl lE a9 lD),(13,Sl a1 l_ c1),(14,I (lN l_)),(15,I bh)],[(4,(158,[Sl a2 done c2]))]⟩ Z a w X/\Old w0 X0 w X/\RS ar w X a1 l_ c1/\OS tI 3 w X 1005 lE a9 lD/\RS ar w X a1 l_ c1/\RS dP w X a2 done c2) ?_ ?_
   ·refine aN ?_
    refine bq ?_
    refine oPe T hS 1 [16] [(17,I bh)] fun a hS=>?_
    obtain ⟨hq,hm⟩:=hm
    refine op1 (index (e:=102) (k:=.i64) T hS kr kr kr kr h112 kr kr hq.1 hq.2 ?_)
    intro Du a h123 hS
    refine op1 (eU T hS kr kr kr h123 kr kr ?_)
    intro v124 a hv hS
    subst hv
    refine eM T hS ⟨[(0,Sl a1 l_ c1),(5,.f (.func 114) [] [.p 4 0]),(6,Sl cI dD cH),(7,I bh),(8,Pt 9 0),(13,Sl a1 l_ c1),(14,I (lN l_)),(15,I bh)],[(4,(158,[Sl a2 done c2])),(9,(102,(cP (gi l_ bh))))]⟩ fun Z a F9 Kb hS hE hr=>?_
    replace hO:=hO.m2 hE
    replace h107:=h107.m1 hE
    replace h111:=h111.m2 hE
    replace h112:=h112.m1 hE
    replace h114:=h114.m1 hE
    clear hE hr
    refine bq ?_
    refine oPe T hS 2 [] [(20,.f (.func 114) [] [.p 4 0]),(21,I bh)] fun a hS=>?_
    obtain ⟨hq,hm⟩:=hm
    refine op1 (kx (fi:=[]) (cp:=[.p 4 0]) hS kr kr hb114 kr kr (Ek _ _ bh done a2 c2 (Z 4) 4 hq h114 (hS.cell (id:=4) (t:=158) (cs:=[Sl a2 done c2]) kr) ⟨by decide,by decide⟩) ?_)
    intro v125 a tm p9 hE hp hS
    replace hO:=hO.m2 hE
    replace h107:=h107.m1 hE
    replace h111:=h111.m2 hE
    replace h112:=h112.m1 hE
    replace h114:=h114.m1 hE
    obtain ⟨hp,vA⟩:=hp
    obtain ⟨bO,hr⟩:∃ r,fh bh done=r:=⟨_,rfl⟩
    replace hm:=hm bO hr
    rw [hr] at hp
    clear hr
    subst hp
    replace hS:=hS.cQ (id:=4) (t:=158) (cs:=[Sl a2 done c2]) kr vA
    clear vA
    refine ePe T hS [20,21,22] [(9,B (!bO))] fun a hS=>?_
    refine cb (fun a w=>∃ (Z:Nat->Nat) (X:Nat->Nat) (fW:List Int) (gq:Bool) (g8:Option Addr) (gZ:Nat),VC112_J3 I1 μ1 dD bh fW gq/\St Tryz.f112.ntmps ⟨[(0,Sl a1 l_ c1),(5,.f (.func 114) [] [.p 4 0]),(6,Sl g8 fW gZ),(7,I bh),(9,B gq),(13,Sl a1 l_ c1),(14,I (lN l_)),(15,I bh)],[(4,(158,[Sl a2 done c2]))]⟩ Z a w X/\Old w0 X0 w X/\RS ar w X a1 l_ c1/\OS tI 3 w X 1005 g8 fW gZ/\RS ar w X a1 l_ c1/\RS dP w X a2 done c2) ?_ ?_
    ·refine rPe T hS [] [(24,Sl a1 l_ c1),(25,I (lN l_)),(26,I 0)] fun a hS=>?_
     refine aN ?_
     obtain ⟨I2,μ2,cx,hm⟩:=hm
     refine ct (σ:=(List Int) × Bool × Int) (fun s a w=>∃ Z X kP kN,I2 s.1 s.2.1 s.2.2/\St Tryz.f112.ntmps ⟨[(0,Sl a1 l_ c1),(5,.f (.func 114) [] [.p 4 0]),(6,Sl kP s.1 kN),(7,I bh),(8,Pt 9 0),(9,B s.2.1),(13,Sl a1 l_ c1),(14,I (lN l_)),(15,I bh),(24,Sl a1 l_ c1),(25,I (lN l_)),(26,I s.2.2)],[(4,(158,[Sl a2 done c2])),(9,(102,(cP (gi l_ bh))))]⟩ Z a w X/\Old w0 X0 w X/\RS ar w X a1 l_ c1/\OS tI 3 w X 1005 kP s.1 kN/\RS ar w X a1 l_ c1/\RS ar w X a1 l_ c1/\RS dP w X a2 done c2) (fun s=>μ2 s.1 s.2.1 s.2.2) (⟨dD,(!bO),0⟩) ?_ ?_
     ·exact ⟨Z,_,cI,cH,cx,hS.sl _,hO,h107,h111,h112,h107,h114⟩
     rintro ⟨mS,jA,jM⟩ a K6 ⟨Z,Kc,kP,kN,hI,hS,hO,h147,h151,h153,h154,h156⟩
     replace hm:=hm mS jA jM hI
     clear hI cx
     refine rPe T hS [] [(27,B (decide (jM < (lN l_))))] fun a hS=>?_
     refine bg ?_
     refine aJ hS (b:=decide (jM < (lN l_))) kr (fun hb=>?_) fun hb=>?_
     ·replace hm:=hm.1 hb
      refine aM ?_
      refine cb (fun a w=>∃ (Z:Nat->Nat) (X:Nat->Nat) (Bh:List Int) (rT:Bool) (EV:Option Addr) (EI:Nat),VC112_J4 I2 μ2 mS jA jM Bh rT/\St Tryz.f112.ntmps ⟨[(0,Sl a1 l_ c1),(5,.f (.func 114) [] [.p 4 0]),(6,Sl EV Bh EI),(7,I bh),(8,Pt 9 0),(9,B rT),(13,Sl a1 l_ c1),(14,I (lN l_)),(15,I bh),(24,Sl a1 l_ c1),(25,I (lN l_)),(26,I jM)],[(4,(158,[Sl a2 done c2])),(9,(102,(cP (gi l_ bh))))]⟩ Z a w X/\Old w0 X0 w X/\RS ar w X a1 l_ c1/\OS tI 3 w X 1005 EV Bh EI/\RS ar w X a1 l_ c1/\RS ar w X a1 l_ c1/\RS dP w X a2 done c2) ?_ ?_
      ·refine aN ?_
       refine bq ?_
       refine oPe T hS 1 [27] [(28,I jM)] fun a hS=>?_
       obtain ⟨hq,hm⟩:=hm
       refine op1 (index (e:=102) (k:=.i64) T hS kr kr kr kr h154 kr kr hq.1 hq.2 ?_)
       intro SA a h167 hS
       refine op1 (eU T hS kr kr kr h167 kr kr ?_)
       intro v168 a hv hS
       subst hv
       refine eM T hS ⟨[(0,Sl a1 l_ c1),(5,.f (.func 114) [] [.p 4 0]),(6,Sl kP mS kN),(7,I bh),(8,Pt 9 0),(9,B jA),(10,I jM),(11,Pt 12 0),(13,Sl a1 l_ c1),(14,I (lN l_)),(15,I bh),(24,Sl a1 l_ c1),(25,I (lN l_)),(26,I jM)],[(4,(158,[Sl a2 done c2])),(9,(102,(cP (gi l_ bh)))),(12,(102,(cP (gi l_ jM))))]⟩ fun Z a Bk Dh hS hE hr=>?_
       replace hO:=hO.m2 hE
       replace h147:=h147.m1 hE
       replace h151:=h151.m2 hE
       replace h153:=h153.m1 hE
       replace h154:=h154.m1 hE
       replace h156:=h156.m1 hE
       clear hE hr
       refine region ?_
       refine oPe T hS 2 [] [(32,B jA)] fun a hS=>?_
       rcases bft jA with hb | hb
       ·replace hS:=hS.lit (t:=32) kr hb
        replace hm:=hm.1 hb
        refine oPe T hS 2 [10] [(33,.f (.func 114) [] [.p 4 0]),(34,I jM)] fun a hS=>?_
        obtain ⟨hq,hm⟩:=hm
        refine op1 (kx (fi:=[]) (cp:=[.p 4 0]) hS kr kr hb114 kr kr (Ek _ _ jM done a2 c2 (Z 4) 4 hq h156 (hS.cell (id:=4) (t:=158) (cs:=[Sl a2 done c2]) kr) ⟨by decide,by decide⟩) ?_)
        intro v169 a Lb NS hE hp hS
        replace hO:=hO.m2 hE
        replace h147:=h147.m1 hE
        replace h151:=h151.m2 hE
        replace h153:=h153.m1 hE
        replace h154:=h154.m1 hE
        replace h156:=h156.m1 hE
        obtain ⟨hp,Fz⟩:=hp
        obtain ⟨xg,hr⟩:∃ r,fh jM done=r:=⟨_,rfl⟩
        replace hm:=hm xg hr
        rw [hr] at hp
        clear hr
        subst hp
        replace hS:=hS.cQ (id:=4) (t:=158) (cs:=[Sl a2 done c2]) kr Fz
        clear Fz
        refine oPe T hS 1 [33,34,35] [(36,B xg)] fun a hS=>?_
        rcases bft xg with hb | hb
        ·replace hS:=hS.lit (t:=36) kr hb
         replace hm:=hm.1 hb
         refine eP T hS ⟨[(0,Sl a1 l_ c1),(5,.f (.func 114) [] [.p 4 0]),(6,Sl kP mS kN),(7,I bh),(8,Pt 9 0),(9,B true),(13,Sl a1 l_ c1),(14,I (lN l_)),(15,I bh),(24,Sl a1 l_ c1),(25,I (lN l_)),(26,I jM)],[(4,(158,[Sl a2 done c2])),(9,(102,(cP (gi l_ bh))))]⟩ fun a hS=>?_
         exact ⟨Z,_,mS,true,kP,kN,hm,hS.sl _,hO,h147,h151,h153,h154,h156⟩
        replace hS:=hS.lit (t:=36) kr hb
        replace hm:=hm.2 hb
        refine oP T hS 2 ⟨[(0,Sl a1 l_ c1),(5,.f (.func 114) [] [.p 4 0]),(6,Sl kP mS kN),(7,I bh),(8,Pt 9 0),(9,B jA),(13,Sl a1 l_ c1),(14,I (lN l_)),(15,I bh),(24,Sl a1 l_ c1),(25,I (lN l_)),(26,I jM),(32,B true),(36,B false),(37,V (.agg #[.int .i64 ((gi l_ jM).ak),.int .i64 ((gi l_ jM).Kind),.int .i64 ((gi l_ jM).aI),.int .i64 ((gi l_ jM).End),.int .i64 ((gi l_ jM).Result)])),(38,V (.agg #[.int .i64 ((gi l_ bh).ak),.int .i64 ((gi l_ bh).Kind),.int .i64 ((gi l_ bh).aI),.int .i64 ((gi l_ bh).End),.int .i64 ((gi l_ bh).Result)]))],[(4,(158,[Sl a2 done c2])),(9,(102,(cP (gi l_ bh))))]⟩ fun a hS=>?_
        refine op1 (call hS kr kr hb63 kr (fun _ _=>rfl) (xy _ _ (gi l_ jM) (gi l_ bh)) ?_)
        intro v174 a Ig Hy hE hp hS
        replace hO:=hO.m2 hE
        replace h147:=h147.m1 hE
        replace h151:=h151.m2 hE
        replace h153:=h153.m1 hE
        replace h154:=h154.m1 hE
        replace h156:=h156.m1 hE
        obtain ⟨zX,hr⟩:∃ r,bl (gi l_ jM) (gi l_ bh)=r:=⟨_,rfl⟩
        replace hm:=hm zX hr
        rw [hr] at hp
        clear hr
        subst hp
        refine ePe T hS [32,36,37,38,39] [(9,B (!zX))] fun a hS=>?_
        exact ⟨Z,_,mS,(!zX),kP,kN,hm,hS.sl _,hO,h147,h151,h153,h154,h156⟩
       replace hS:=hS.lit (t:=32) kr hb
       replace hm:=hm.2 hb
       refine eP T hS ⟨[(0,Sl a1 l_ c1),(5,.f (.func 114) [] [.p 4 0]),(6,Sl kP mS kN),(7,I bh),(8,Pt 9 0),(9,B false),(13,Sl a1 l_ c1),(14,I (lN l_)),(15,I bh),(24,Sl a1 l_ c1),(25,I (lN l_)),(26,I jM)],[(4,(158,[Sl a2 done c2])),(9,(102,(cP (gi l_ bh))))]⟩ fun a hS=>?_
       exact ⟨Z,_,mS,false,kP,kN,hm,hS.sl _,hO,h147,h151,h153,h154,h156⟩
      rintro a K7 ⟨Z,RX,Bh,rT,EV,EI,hm,hS,hO,h157,h161,h163,h164,h165⟩
      unfold VC112_J4 at hm
      refine region (ePe T hS [] [(26,I (wR (jM+1)))] fun a hS=>?_)
      exact ⟨⟨Bh,rT,wR (jM+1)⟩,⟨Z,_,EV,EI,hm.1,hS.sl _,hO,h157,h161,h163,h164,h165⟩,hm.2⟩
     replace hm:=hm.2 hb
     refine cm (by rfl) ?_
     exact ⟨Z,_,mS,jA,kP,kN,hm,hS.sl _,hO,h147,h151,h153,h156⟩
    rintro a K5 ⟨Z,NP,fW,gq,g8,gZ,hm,hS,hO,h130,h134,h136,h137⟩
    unfold VC112_J3 at hm
    refine rPe T hS [9] [(44,B gq)] fun a hS=>?_
    refine aJ hS (b:=gq) kr (fun hb=>?_) fun hb=>?_
    ·replace hm:=hm.1 hb
     refine region ?_
     refine oPe T hS 2 [7,44] [(45,Sl g8 fW gZ),(46,I bh)] fun a hS=>?_
     refine op1 (lit (E:=3) (col:=0) (T:=tI) (vals:=[.int .i64 bh]) (ys:=[bh]) T hS kr kr kr kr (by exact ⟨rfl,trivial⟩) rfl kr kr kr kr ?_)
     intro b138 a tj wA hE h141 hN hS
     clear hN
     replace hO:=hO.m2 hE
     replace h130:=h130.m1 hE
     replace h134:=h134.m2 hE
     replace h136:=h136.m1 hE
     replace h137:=h137.m1 hE
     replace h141:=h141.rs0
     obtain ⟨hq,hm⟩:=hm
     obtain ⟨news,hN⟩:=h141.src
     refine op1 (append (E:=3) (T:=tI) (col:=1005) (xs:=fW) T hS kr kr kr kr h134 hN kr kr kr kr hq ?_)
     intro wy wh a qn sa hE h144 hS
     clear hq hN
     clear h134
     replace hO:=hO.m2 hE
     replace h130:=h130.m1 hE
     replace h136:=h136.m1 hE
     replace h137:=h137.m1 hE
     replace h141:=h141.m1 hE
     refine ePe T hS [46,47,48] [(6,Sl wy (fW++[bh]) wh)] fun a hS=>?_
     exact ⟨Z,_,fW++[bh],wy,wh,hm,hS.sl _,hO,h130,h144,h136,h137⟩
    replace hm:=hm.2 hb
    refine aM ?_
    exact ⟨Z,_,fW,g8,gZ,hm,hS.sl _,hO,h130,h134,h136,h137⟩
   rintro a K4 ⟨Z,Ka,a9,lE,lD,hm,hS,hO,h115,h119,h120,h121⟩
   unfold VC112_J2 at hm
   refine region (ePe T hS [] [(15,I (wR (bh+1)))] fun a hS=>?_)
   exact ⟨⟨a9,wR (bh+1)⟩,⟨Z,_,lE,lD,hm.1,hS.sl _,hO,h115,h119,h120,h121⟩,hm.2⟩
  replace hm:=hm.2 hb
  refine cm (by rfl) ?_
  exact ⟨Z,_,dD,cI,cH,hm,hS.sl _,hO,h111⟩
 rintro a K3 ⟨Z,J9,bE,dy,dx,hm,hS,hO,h104⟩
 unfold VC112_J1 at hm
 refine rPe T hS [6] [(4,Sl dy bE dx)] fun a hS=>?_
 refine aY ?_
 obtain ⟨pt,hE,hF⟩:=h104.freeze (by decide)
 replace hS:=hS.ev hE (cA kr)
 replace hO:=hO.m2 hE
 have h106:=hF; clear hE hF
 exact fin T hS hO (fun c=>c) rfl (r:=[.slice dy bE.length dx]) kr (fun X' hM hC=>⟨bE,hm,dy,dx,rfl,h106.m0 hM⟩)
theorem C112 (Ek:S114) (xy:S63) (v:∀ (l_:List ab) (done:List Bool),yC l_ done->VC112 l_ done (fun r=>r=fc l_ done)):S112:=by
 intro w X l_ done a1 c1 a2 c2   hp h1 h2
 refine (W112 Ek xy w X l_ done a1 c1 a2 c2   _ (v l_ done hp) h1 h2).mono ?_
 rintro _ _ _ _ ⟨r,rfl,h⟩
 exact h
theorem W105 (rj:S103) (GV:S112) (tY:S53) (w0) (X0) (o_:aj) (l_:List ab) (state:Int) (done:List Bool) (a1) (c1) (a2) (c2) (a3) (c3) (cU) (Q:(List aa)->Prop) (hm:VC105 o_ l_ state done Q) (h1:RS aC w0 X0 a1 o_.Rows c1) (h2:RS ar w0 X0 a2 l_ c2) (h3:RS dP w0 X0 a3 done c3) :
  Ret Tryz.prog 105 #[.agg #[.int .i64 o_.au,.int .i64 o_.az,.int .i64 o_.aH,.slice a1 o_.Rows.length c1],.slice a2 l_.length c2,.int .i64 state,.slice a3 done.length c3] aL w0 X0 (fun w X' v=>∃ r,Q r/\∃ cz cy,v=.slice cz r.length cy/\OS av 56 w X' cU cz r cy):=by
 unfold VC105 at hm
 replace hm:=hm (h1.sm kr)
 replace hm:=hm (h2.sm kr)
 replace hm:=hm (h3.sm kr)
 refine enter Tryz.func105 rfl (vals:=[.agg #[.int .i64 o_.au,.int .i64 o_.az,.int .i64 o_.aH,.slice a1 o_.Rows.length c1],.slice a2 l_.length c2,.int .i64 state,.slice a3 done.length c3]) kr ?_
 intro Z a hS hO hM
 replace h1:=h1.m0 hM
 replace h2:=h2.m0 hM
 replace h3:=h3.m0 hM
 refine rM T hS ⟨[(1,Sl a2 l_ c2),(2,I state),(3,Sl a3 done c3),(4,Pt 5 0)],[(5,(48,(cO o_ a1 c1)))]⟩ fun Z a Ga Kd hS hE hr=>?_
 replace hO:=hO.m2 hE
 replace h1:=h1.m1 hE
 replace h2:=h2.m1 hE
 replace h3:=h3.m1 hE
 clear hE hr
 refine bg ?_
 refine bq ?_
 refine oPe T hS 1 [] [(18,V (.agg #[.int .i64 o_.au,.int .i64 o_.az,.int .i64 o_.aH,.slice a1 o_.Rows.length c1]))] fun a hS=>?_
 obtain ⟨hq,hm⟩:=hm
 refine op1 (call hS kr kr hb53 kr (fun _ _=>rfl) (tY _ _ o_ a1 c1 hq h1) ?_)
 intro v101 a fp fx hE hp hS
 replace hO:=hO.m2 hE
 replace h1:=h1.m1 hE
 replace h2:=h2.m1 hE
 replace h3:=h3.m1 hE
 obtain ⟨ax,hr⟩:∃ r,bB o_=r:=⟨_,rfl⟩
 replace hm:=hm ax hr
 rw [hr] at hp
 clear hr
 subst hp
 refine ePe T hS [18,19] [(10,I ax.2)] fun a hS=>?_
 refine rPe T hS [10] [(23,B (ax.2 != 0))] fun a hS=>?_
 refine aJ hS (b:=(ax.2 != 0)) kr (fun hb=>?_) fun hb=>?_
 ·replace hm:=hm.1 hb
  refine rP T hS ⟨[(8,V (.slice none 0 0))],[]⟩ fun a hS=>?_
  refine aY ?_
  exact fin T hS hO (fun c=>c) rfl (r:=[.slice none 0 0]) kr (fun X' hM hC=>⟨[],hm,none,0,rfl,OS.nil _ _ _ _ _⟩)
 replace hm:=hm.2 hb
 refine aM ?_
 refine rPe T hS [23] [(11,V (.slice none 0 0))] fun a hS=>?_
 refine cb (fun a w=>∃ (Z:Nat->Nat) (X:Nat->Nat) (fY:List aa) (jn:Option Addr) (jl:Nat),VC105_J1 Q fY/\St Tryz.f105.ntmps ⟨[(11,Sl jn fY jl)],[]⟩ Z a w X/\Old w0 X0 w X/\OS av 56 w X 1009 jn fY jl) ?_ ?_
 ·refine bq ?_
  refine oPe T hS 2 [3] [(24,Sl a2 l_ c2),(25,Sl a3 done c3)] fun a hS=>?_
  obtain ⟨hq,hm⟩:=hm
  refine op1 (call hS kr kr hb112 kr (fun _ _=>rfl) (GV _ _ l_ done a2 c2 a3 c3 hq h2 h3) ?_)
  intro v109 a Gk HI hE hp hS
  replace hO:=hO.m2 hE
  replace h1:=h1.m1 hE
  replace h2:=h2.m1 hE
  replace h3:=h3.m1 hE
  obtain ⟨jL,jK,hp,h115⟩:=hp
  obtain ⟨bN,hr⟩:∃ r,fc l_ done=r:=⟨_,rfl⟩
  replace hm:=hm bN hr
  rw [hr] at hp h115
  clear hr
  subst hp
  replace hm:=hm (h115.sm kr)
  refine ePe T hS [24,25] [(27,I (lN bN)),(28,I 0)] fun a hS=>?_
  refine aN ?_
  obtain ⟨I1,μ1,cx,hm⟩:=hm
  refine ct (σ:=(List aa) × Int) (fun s a w=>∃ Z X ic h8,I1 s.1 s.2/\St Tryz.f105.ntmps ⟨[(1,Sl a2 l_ c2),(2,I state),(4,Pt 5 0),(11,Sl ic s.1 h8),(26,Sl jL bN jK),(27,I (lN bN)),(28,I s.2)],[(5,(48,(cO o_ a1 c1)))]⟩ Z a w X/\Old w0 X0 w X/\RS ar w X a2 l_ c2/\OS av 56 w X 1009 ic s.1 h8/\RS tI w X jL bN jK/\RS aC w X a1 o_.Rows c1) (fun s=>μ1 s.1 s.2) (⟨[],0⟩) ?_ ?_
  ·exact ⟨Z,_,none,0,cx,hS.sl _,hO,h2,(OS.nil _ _ _ _ _),h115,h1⟩
  rintro ⟨dT,aV⟩ a K9 ⟨Z,Hy,ic,h8,hI,hS,hO,h116,h120,h121,h123⟩
  replace hm:=hm dT aV hI
  clear hI cx
  refine rPe T hS [] [(29,B (decide (aV < (lN bN))))] fun a hS=>?_
  refine bg ?_
  refine aJ hS (b:=decide (aV < (lN bN))) kr (fun hb=>?_) fun hb=>?_
  ·replace hm:=hm.1 hb
   refine aM ?_
   refine cb (fun a w=>∃ (Z:Nat->Nat) (X:Nat->Nat) (Bj:List aa) (wz:Option Addr) (wi:Nat),VC105_J2 I1 μ1 dT aV Bj/\St Tryz.f105.ntmps ⟨[(1,Sl a2 l_ c2),(2,I state),(4,Pt 5 0),(11,Sl wz Bj wi),(26,Sl jL bN jK),(27,I (lN bN)),(28,I aV)],[(5,(48,(cO o_ a1 c1)))]⟩ Z a w X/\Old w0 X0 w X/\RS ar w X a2 l_ c2/\OS av 56 w X 1009 wz Bj wi/\RS tI w X jL bN jK/\RS aC w X a1 o_.Rows c1) ?_ ?_
   ·refine aN ?_
    refine bq ?_
    obtain ⟨hq,hm⟩:=hm
    refine op1 (index (e:=3) (k:=.i64) T hS kr kr kr kr h121 kr kr hq.1 hq.2 ?_)
    intro HL a h132 hS
    refine op1 (dW T hS kr kr kr h132 rfl kr ?_)
    intro v133 a hv hS
    cases hv
    refine ePe T hS [29,30,31] [(13,I (gi bN aV))] fun a hS=>?_
    refine dG [5] mixed hS ?_
    intro uH uz hS hE hD hH
    replace hO:=hO.m2 hE
    replace h116:=h116.m1 hE
    replace h120:=h120.m2 hE
    replace h121:=h121.m1 hE
    replace h123:=h123.m1 hE
    refine tke T [0,1,2,3] [5] hS hH #[true,true,true,true,false,false,false,false,false,false,false,false,false,false,false] 11 [] [(33,V (.agg #[.int .i64 o_.au,.int .i64 o_.az,.int .i64 o_.aH,.slice a1 o_.Rows.length c1])),(34,I state),(35,Sl a2 l_ c2),(36,I (gi bN aV))] fun a hS=>?_
    obtain ⟨hq,hm⟩:=hm
    refine dm (e:=102) (k:=.i64) T 4 hS kr kr kr (by rfl) kr hH kr kr h116 kr kr hq.1 hq.2 ?_
    intro E6 a h137 hS
    have sW:=h137.here
    refine dE (off:=1) (fsz:=1) (ft:=3) (TF:=tI) (y:=(gi l_ (gi bN aV)).Kind) 5 T hS kr kr kr (by rfl) kr hH kr h137 kr kr kr (fun cs h=>kX h) ?_
    intro HK a h139 fR hS
    have zk:=sW
    rw [← fR] at zk
    clear fR
    refine eu T 6 hS kr kr kr (by rfl) kr hH kr h139 zk rfl kr ?_
    intro v140 a hv hS
    cases hv
    refine only 7 kr (by rfl) (call hS kr kr hb103 kr (fun _ _=>rfl) (rj _ _ o_ state ((gi l_ (gi bN aV)).Kind) a1 c1 h123) ?_)
    intro v141 a qn sa hE hp hS
    replace hO:=hO.m2 hE
    replace hD:=hD.ev hE rfl
    replace h116:=h116.m1 hE
    replace h120:=h120.m2 hE
    replace h121:=h121.m1 hE
    replace h123:=h123.m1 hE
    replace h137:=h137.m1 hE
    replace h139:=h139.m1 hE
    obtain ⟨gH,hr⟩:∃ r,cw o_ state ((gi l_ (gi bN aV)).Kind)=r:=⟨_,rfl⟩
    replace hm:=hm gH hr
    rw [hr] at hp
    clear hr
    subst hp
    replace hS:=hS.sle [] [(40,V (.tuple #[.int .i64 gH.1,.int .i64 gH.2.1,.bool gH.2.2]))]
    refine di (bP.of hS (bks:=[5]) kr hD) ?_
    intro hH
    refine tke T [8,9,10,11,12,13,14] [5] hS hH (tts 15) 0 [33,34,35,36,37,38,39,40] [(15,I gH.2.1),(16,B gH.2.2)] fun a hS=>?_
    refine aX kr ?_
    replace hS:=hS.sle [] []
    refine cb (fun a w=>∃ (Z:Nat->Nat) (X:Nat->Nat) (mT:List aa) (gF:Bool) (rK:Option Addr) (rD:Nat),VC105_J3 bN I1 μ1 dT aV gH mT gF/\St Tryz.f105.ntmps ⟨[(1,Sl a2 l_ c2),(2,I state),(4,Pt 5 0),(11,Sl rK mT rD),(13,I (gi bN aV)),(15,I gH.2.1),(26,Sl jL bN jK),(27,I (lN bN)),(28,I aV),(61,B gF)],[(5,(48,(cO o_ a1 c1)))]⟩ Z a w X/\Old w0 X0 w X/\RS ar w X a2 l_ c2/\OS av 56 w X 1009 rK mT rD/\RS tI w X jL bN jK/\RS aC w X a1 o_.Rows c1) ?_ ?_
    ·refine region ?_
     refine oPe T hS 2 [16] [(45,B gH.2.2)] fun a hS=>?_
     rcases bft gH.2.2 with hb | hb
     ·replace hS:=hS.lit (t:=45) kr hb
      replace hm:=hm.1 hb
      refine oPe T hS 2 [] [(46,Sl a2 l_ c2),(47,I (gi bN aV))] fun a hS=>?_
      obtain ⟨hq,hm⟩:=hm
      refine op1 (index (e:=102) (k:=.i64) T hS kr kr kr kr h116 kr kr hq.1 hq.2 ?_)
      intro SC a h163 hS
      refine op1 (fw (off:=3) (fsz:=1) (ft:=3) (TF:=tI) (y:=(gi l_ (gi bN aV)).End) T hS kr kr kr h163 kr kr kr (fun cs h=>mH h) ?_)
      intro N2 a h165 hS
      refine op1 (dW T hS kr kr kr h165 rfl kr ?_)
      intro v166 a hv hS
      cases hv
      refine oPe T hS 2 [46,47,48,49,50] [(52,B (((gi l_ (gi bN aV)).End) == (-1)))] fun a hS=>?_
      rcases bft (((gi l_ (gi bN aV)).End) == (-1)) with hb | hb
      ·replace hS:=hS.lit (t:=52) kr hb
       replace hm:=hm.1 hb
       refine ePe T hS [45,52] [(61,B true)] fun a hS=>?_
       exact ⟨Z,_,dT,true,ic,h8,hm,hS.sl _,hO,h116,h120,h121,h123⟩
      replace hS:=hS.lit (t:=52) kr hb
      replace hm:=hm.2 hb
      refine oPe T hS 2 [] [(53,Sl a2 l_ c2),(54,I (gi bN aV))] fun a hS=>?_
      obtain ⟨hq,hm⟩:=hm
      refine op1 (index (e:=102) (k:=.i64) T hS kr kr kr kr h116 kr kr hq.1 hq.2 ?_)
      intro Sz a h168 hS
      refine op1 (fw (off:=4) (fsz:=1) (ft:=3) (TF:=tI) (y:=(gi l_ (gi bN aV)).Result) T hS kr kr kr h168 kr kr kr (fun cs h=>pP h) ?_)
      intro Sx a h170 hS
      refine op1 (dW T hS kr kr kr h170 rfl kr ?_)
      intro v171 a hv hS
      cases hv
      refine ePe T hS [45,52,53,54,55,56,57] [(61,B (((gi l_ (gi bN aV)).Result) == gH.2.1))] fun a hS=>?_
      exact ⟨Z,_,dT,(((gi l_ (gi bN aV)).Result) == gH.2.1),ic,h8,hm,hS.sl _,hO,h116,h120,h121,h123⟩
     replace hS:=hS.lit (t:=45) kr hb
     replace hm:=hm.2 hb
     refine ePe T hS [45] [(61,B false)] fun a hS=>?_
     exact ⟨Z,_,dT,false,ic,h8,hm,hS.sl _,hO,h116,h120,h121,h123⟩
    rintro a La ⟨Z,Ke,mT,gF,rK,rD,hm,hS,hO,h145,h149,h150,h152⟩
    unfold VC105_J3 at hm
    refine aJ hS (b:=gF) kr (fun hb=>?_) fun hb=>?_
    ·replace hm:=hm.1 hb
     refine region ?_
     refine oPe T hS 4 [13,15,61] [(62,Sl rK mT rD),(65,V (.agg #[.int .i64 (gi bN aV),.int .i64 gH.2.1]))] fun a hS=>?_
     refine op1 (lit (E:=56) (col:=0) (T:=av) (vals:=[.agg #[.int .i64 (gi bN aV),.int .i64 gH.2.1]]) (ys:=[(⟨gi bN aV,gH.2.1⟩:aa)]) T hS kr kr kr kr (by exact ⟨rfl,trivial⟩) rfl kr kr kr kr ?_)
     intro b153 a ti xW hE h156 hN hS
     clear hN
     replace hO:=hO.m2 hE
     replace h145:=h145.m1 hE
     replace h149:=h149.m2 hE
     replace h150:=h150.m1 hE
     replace h152:=h152.m1 hE
     replace h156:=h156.rs0
     obtain ⟨hq,hm⟩:=hm
     obtain ⟨news,hN⟩:=h156.src
     refine op1 (append (E:=56) (T:=av) (col:=1009) (xs:=mT) T hS kr kr kr kr h149 hN kr kr kr kr hq ?_)
     intro AU AJ a zG AX hE h159 hS
     clear hq hN
     clear h149
     replace hO:=hO.m2 hE
     replace h145:=h145.m1 hE
     replace h150:=h150.m1 hE
     replace h152:=h152.m1 hE
     replace h156:=h156.m1 hE
     refine ePe T hS [65,66,67] [(11,Sl AU (mT++[(⟨gi bN aV,gH.2.1⟩:aa)]) AJ)] fun a hS=>?_
     exact ⟨Z,_,mT++[(⟨gi bN aV,gH.2.1⟩:aa)],AU,AJ,hm,hS.sl _,hO,h145,h159,h150,h152⟩
    replace hm:=hm.2 hb
    refine aM ?_
    exact ⟨Z,_,mT,rK,rD,hm,hS.sl _,hO,h145,h149,h150,h152⟩
   rintro a Ig ⟨Z,RZ,Bj,wz,wi,hm,hS,hO,h124,h128,h129,h130⟩
   unfold VC105_J2 at hm
   refine region (ePe T hS [] [(28,I (wR (aV+1)))] fun a hS=>?_)
   exact ⟨⟨Bj,wR (aV+1)⟩,⟨Z,_,wz,wi,hm.1,hS.sl _,hO,h124,h128,h129,h130⟩,hm.2⟩
  replace hm:=hm.2 hb
  refine cm (by rfl) ?_
  exact ⟨Z,_,dT,ic,h8,hm,hS.sl _,hO,h120⟩
 rintro a K8 ⟨Z,NQ,fY,jn,jl,hm,hS,hO,h108⟩
 unfold VC105_J1 at hm
 refine rPe T hS [11] [(8,Sl jn fY jl)] fun a hS=>?_
 refine aY ?_
 exact fin T hS hO (zAc0 cU) rfl (r:=[.slice jn fY.length jl]) kr (fun X' hM hC=>⟨fY,hm,jn,jl,rfl,(OS.out (f:=(zAc0 cU)) h108 hM hC kr)⟩)
theorem C105 (rj:S103) (GV:S112) (tY:S53) (v:∀ (o_:aj) (l_:List ab) (state:Int) (done:List Bool),yx o_ l_ state done->VC105 o_ l_ state done (fun r=>r=bM o_ l_ state done)):S105:=by
 intro w X o_ l_ state done a1 c1 a2 c2 a3 c3 cU  hp h1 h2 h3
 refine (W105 rj GV tY w X o_ l_ state done a1 c1 a2 c2 a3 c3 cU  _ (v o_ l_ state done hp) h1 h2 h3).mono ?_
 rintro _ _ _ _ ⟨r,rfl,h⟩
 exact h
theorem W88 (tY:S53) (GH:S80) (w0) (X0) (o_:aj) (l_:List ab) (jT:Int) (a1) (c1) (a2) (c2) (Q:Int->Prop) (hm:VC88 o_ l_ jT Q) (h1:RS aC w0 X0 a1 o_.Rows c1) (h2:RS ar w0 X0 a2 l_ c2) :
  Ret Tryz.prog 88 #[.agg #[.int .i64 o_.au,.int .i64 o_.az,.int .i64 o_.aH,.slice a1 o_.Rows.length c1],.slice a2 l_.length c2,.int .i64 jT] aL w0 X0 (fun w X' v=>∃ r,Q r/\v=.int .i64 r):=by
 unfold VC88 at hm
 replace hm:=hm (h1.sm kr)
 replace hm:=hm (h2.sm kr)
 refine enter Tryz.func88 rfl (vals:=[.agg #[.int .i64 o_.au,.int .i64 o_.az,.int .i64 o_.aH,.slice a1 o_.Rows.length c1],.slice a2 l_.length c2,.int .i64 jT]) kr ?_
 intro Z a hS hO hM
 replace h1:=h1.m0 hM
 replace h2:=h2.m0 hM
 refine rM T hS ⟨[(1,Sl a2 l_ c2),(2,I jT),(3,Pt 4 0)],[(4,(48,(cO o_ a1 c1)))]⟩ fun Z a qo sc hS hE hr=>?_
 replace hO:=hO.m2 hE
 replace h1:=h1.m1 hE
 replace h2:=h2.m1 hE
 clear hE hr
 refine bq ?_
 refine oP T hS 1 ⟨[(1,Sl a2 l_ c2),(2,I jT),(12,V (.agg #[.int .i64 o_.au,.int .i64 o_.az,.int .i64 o_.aH,.slice a1 o_.Rows.length c1]))],[]⟩ fun a hS=>?_
 obtain ⟨hq,hm⟩:=hm
 refine op1 (call hS kr kr hb53 kr (fun _ _=>rfl) (tY _ _ o_ a1 c1 hq h1) ?_)
 intro v101 a fp fx hE hp hS
 replace hO:=hO.m2 hE
 replace h1:=h1.m1 hE
 replace h2:=h2.m1 hE
 obtain ⟨ax,hr⟩:∃ r,bB o_=r:=⟨_,rfl⟩
 replace hm:=hm ax hr
 rw [hr] at hp
 clear hr
 subst hp
 refine ePe T hS [12,13] [(8,I ax.2)] fun a hS=>?_
 refine bq ?_
 refine oPe T hS 1 [] [(17,Sl a2 l_ c2)] fun a hS=>?_
 refine op1 (call hS kr kr hb80 kr (fun _ _=>rfl) (GH _ _ l_ a2 c2 h2) ?_)
 intro v105 a ny m9 hE hp hS
 replace hO:=hO.m2 hE
 replace h2:=h2.m1 hE
 obtain ⟨ba,hr⟩:∃ r,c7 l_=r:=⟨_,rfl⟩
 replace hm:=hm ba hr
 rw [hr] at hp
 clear hr
 subst hp
 refine ePe T hS [17,18] [(10,I ba.2)] fun a hS=>?_
 refine bg ?_
 refine aN ?_
 refine rPe T hS [8,10] [(21,B ((ax.2 != 0) || (ba.2 != 0)))] (sp:=[24]) fun a hS=>?_
 refine aJ hS (b:=((ax.2 != 0) || (ba.2 != 0))) kr (fun hb=>?_) fun hb=>?_
 ·replace hm:=hm.1 hb
  refine rPe T hS [1,2,21] [(6,I 2)] fun a hS=>?_
  refine aY ?_
  exact fin T hS hO (fun c=>c) rfl (r:=[.int .i64 2]) kr (fun X' hM hC=>⟨2,hm,rfl⟩)
 replace hm:=hm.2 hb
 refine rPe T hS [1,2,21] [(28,B (decide ((lN l_) > jT)))] fun a hS=>?_
 refine aJ hS (b:=decide ((lN l_) > jT)) kr (fun hb=>?_) fun hb=>?_
 ·replace hm:=hm.1 hb
  refine rPe T hS [28] [(6,I 3)] fun a hS=>?_
  refine aY ?_
  exact fin T hS hO (fun c=>c) rfl (r:=[.int .i64 3]) kr (fun X' hM hC=>⟨3,hm,rfl⟩)
 replace hm:=hm.2 hb
 refine aM ?_
 refine rPe T hS [28] [(6,I 0)] fun a hS=>?_
 refine aY ?_
 exact fin T hS hO (fun c=>c) rfl (r:=[.int .i64 0]) kr (fun X' hM hC=>⟨0,hm,rfl⟩)
theorem C88 (tY:S53) (GH:S80) (v:∀ (o_:aj) (l_:List ab) (jT:Int),yE o_ l_ jT->VC88 o_ l_ jT (fun r=>r=cD o_ l_ jT)):S88:=by
 intro w X o_ l_ jT a1 c1 a2 c2   hp h1 h2
 refine (W88 tY GH w X o_ l_ jT a1 c1 a2 c2   _ (v o_ l_ jT hp) h1 h2).mono ?_
 rintro _ _ _ _ ⟨r,rfl,h⟩
 exact h
theorem W104 (w0) (X0) (s_:List aa) (a1) (c1) (cU) (Q:(List aa)->Prop) (hm:VC104 s_ Q) (h1:RS av w0 X0 a1 s_ c1) :
  Ret Tryz.prog 104 #[.slice a1 s_.length c1] aL w0 X0 (fun w X' v=>∃ r,Q r/\∃ cz cy,v=.slice cz r.length cy/\OS av 56 w X' cU cz r cy):=by
 unfold VC104 at hm
 replace hm:=hm (h1.sm kr)
 refine enter Tryz.func104 rfl (vals:=[.slice a1 s_.length c1]) kr ?_
 intro Z a hS hO hM
 replace h1:=h1.m0 hM
 refine rPe T hS [] [] fun a hS=>?_
 refine bg ?_
 refine bq ?_
 refine oPe T hS 1 [] [(3,Sl a1 s_ c1)] fun a hS=>?_
 obtain ⟨b101,hb102⟩:∃ q:Bool,a1.isNone=q:=⟨_,rfl⟩
 replace hm:=hm b101 (h1.IH hb102)
 refine op1 (F1 (e:=56) (m:=s_.length) (c:=c1) hS kr kr kr kr Tryz.underlying26 hb102 ?_)
 intro a hS
 clear hb102
 refine gY ?_
 refine aJ hS (b:=b101) kr (fun hb=>?_) fun hb=>?_
 ·replace hm:=hm.1 hb
  refine rPe T hS [0,4] [(2,V (.slice none 0 0))] fun a hS=>?_
  refine aY ?_
  exact fin T hS hO (fun c=>c) rfl (r:=[.slice none 0 0]) kr (fun X' hM hC=>⟨[],hm,none,0,rfl,OS.nil _ _ _ _ _⟩)
 replace hm:=hm.2 hb
 refine aM ?_
 refine bq ?_
 refine op1 (lit (E:=56) (col:=1003) (T:=av) (vals:=[]) (ys:=([]:List aa)) T hS kr kr kr kr trivial rfl kr kr kr kr ?_)
 intro b103 a zL pt hE h106 hN hS
 clear hN
 replace hO:=hO.m2 hE
 replace h1:=h1.m1 hE
 refine oPe T hS 1 [0,4] [(6,Sl a1 s_ c1)] fun a hS=>?_
 obtain ⟨hq,hm⟩:=hm
 obtain ⟨news,hN⟩:=h1.src
 refine op1 (append (E:=56) (T:=av) (col:=1003) (xs:=([]:List aa)) T hS kr kr kr kr h106 hN kr kr kr kr hq ?_)
 intro fg ff a rW qa hE h109 hS
 clear hq hN
 clear h106
 replace hO:=hO.m2 hE
 replace h1:=h1.m1 hE
 refine ePe T hS [6,7] [(2,Sl fg (([]:List aa)++s_) ff)] fun a hS=>?_
 refine aY ?_
 exact fin T hS hO (zAc1 cU) rfl (r:=[.slice fg (([]:List aa)++s_).length ff]) kr (fun X' hM hC=>⟨(([]:List aa)++s_),hm,fg,ff,rfl,(OS.out (f:=(zAc1 cU)) h109 hM hC kr)⟩)
theorem C104 (v:∀ (s_:List aa),yD s_->VC104 s_ (fun r=>r=b7 s_)):S104:=by
 intro w X s_ a1 c1 cU  hp h1
 refine (W104 w X s_ a1 c1 cU  _ (v s_ hp) h1).mono ?_
 rintro _ _ _ _ ⟨r,rfl,h⟩
 exact h
theorem W101 (w0) (X0) (state:Int) (ao:a8) (a1) (c1) (a2) (c2) (a3) (c3) (r4) (m4) (b1) (i1) (Q:b8->Prop) (hm:VC101 state ao Q) (h1:RS aC w0 X0 a1 ao.o.Rows c1) (h2:RS ar w0 X0 a2 ao.l c2) (h3:RS dP w0 X0 a3 ao.done c3) (h4:OMS aU tI false w0 X0 m4 r4 ao.failed) (fB:Cell w0 X0 b1 i1 161 [.int .i64 ao.o.au,.int .i64 ao.o.az,.int .i64 ao.o.aH,.slice a1 ao.o.Rows.length c1,.slice a2 ao.l.length c2,.slice a3 ao.done.length c3,.map (some r4)]) (hA:dZ [i1,m4]) :
  Ret Tryz.prog 101 #[.pointer (some ⟨b1,0,none⟩),.int .i64 state] (pR [i1,m4]) w0 X0 (fun w X' v=>∃ r,Q r/\v=.agg #[.int .u32 r.done,.int .i64 r.state]/\Cell w X' b1 i1 161 [.int .i64 ao.o.au,.int .i64 ao.o.az,.int .i64 ao.o.aH,.slice a1 ao.o.Rows.length c1,.slice a2 ao.l.length c2,.slice a3 ao.done.length c3,.map (some r4)]/\OMS aU tI false w X' m4 r4 ao.failed):=by
 unfold VC101 at hm
 replace hm:=hm (h1.sm kr)
 replace hm:=hm (h2.sm kr)
 replace hm:=hm (h3.sm kr)
 refine fO Tryz.func101 rfl (dL [(i1,901),(m4,2004)]) (fun id=>(bif Nat.beq id 901 then b1 else 0)) (args:=[Pt 901 0,I state]) (bxs:=[(901,(161,[I ao.o.au,I ao.o.az,I ao.o.aH,Sl a1 ao.o.Rows c1,Sl a2 ao.l c2,Sl a3 ao.done c3,V (.map (some r4))]))]) kr rfl (bu.cons kr (fB.map (bQ 0 hA.1 rfl)) bu.nil) (fD (fun q hq=>(hA.2 q.1 (List.mem_map.2 ⟨q,hq,rfl⟩)).1)) ?_
 intro a hS hO hM
 have hP:Pin [(901,b1)] (fun id=>(bif Nat.beq id 901 then b1 else 0)):=by intro q hq; simp at hq; rcases hq with rfl <;> rfl
 generalize (fun id=>(bif Nat.beq id 901 then b1 else 0))=Z at hS hP
 clear fB
 replace h1:=h1.m0 hM
 replace h2:=h2.m0 hM
 replace h3:=h3.m0 hM
 replace h4:=h4.map (f:=dL [(i1,901),(m4,2004)]) (bQ 1 hA.1 rfl) hM
 refine rM T hS ⟨[(0,Pt 901 0),(1,I state),(4,Pt 5 0)],[(5,(164,[V (.int .u32 0),I 0])),(901,(161,[I ao.o.au,I ao.o.az,I ao.o.aH,Sl a1 ao.o.Rows c1,Sl a2 ao.l c2,Sl a3 ao.done c3,V (.map (some r4))]))]⟩ fun Z a Bq E3 hS hE hr=>?_
 replace hO:=hO.m2 hE
 replace h1:=h1.m1 hE
 replace h2:=h2.m1 hE
 replace h3:=h3.m1 hE
 replace h4:=h4.m2 hE
 replace hP:=hP.mv hr kr
 clear hE hr
 refine rM T hS ⟨[(0,Pt 901 0),(4,Pt 5 0),(5,Pt 6 0)],[(5,(164,[V (.int .u32 0),I 0])),(6,(164,[V (.int .u32 0),I state])),(901,(161,[I ao.o.au,I ao.o.az,I ao.o.aH,Sl a1 ao.o.Rows c1,Sl a2 ao.l c2,Sl a3 ao.done c3,V (.map (some r4))]))]⟩ fun Z a tl wB hS hE hr=>?_
 replace hO:=hO.m2 hE
 replace h1:=h1.m1 hE
 replace h2:=h2.m1 hE
 replace h3:=h3.m1 hE
 replace h4:=h4.m2 hE
 replace hP:=hP.mv hr kr
 clear hE hr
 refine cb (fun a w=>∃ (Z:Nat->Nat) (X:Nat->Nat) (bE:Int) (bC:Int),VC101_J1 Q bE bC/\St Tryz.f101.ntmps ⟨[(4,Pt 5 0),(5,Pt 6 0)],[(5,(164,[V (.int .u32 0),I 0])),(6,(164,[V (.int .u32 bE),I bC])),(901,(161,[I ao.o.au,I ao.o.az,I ao.o.aH,Sl a1 ao.o.Rows c1,Sl a2 ao.l c2,Sl a3 ao.done c3,V (.map (some r4))]))]⟩ Z a w X/\gj (dL [(i1,901),(m4,2004)]) w0 X0 w X/\Pin [(901,b1)] Z/\RS aC w X a1 ao.o.Rows c1/\RS ar w X a2 ao.l c2/\RS dP w X a3 ao.done c3/\OMS aU tI false w X 2004 r4 ao.failed) ?_ ?_
 ·refine rPe T hS [0] [(13,Sl a3 ao.done c3),(14,I (lN ao.done)),(15,I 0)] fun a hS=>?_
  refine aN ?_
  obtain ⟨I1,μ1,cx,hm⟩:=hm
  refine ct (σ:=Int × Int × Int) (fun s a w=>∃ Z X,I1 s.1 s.2.1 s.2.2/\St Tryz.f101.ntmps ⟨[(4,Pt 5 0),(5,Pt 6 0),(13,Sl a3 ao.done c3),(14,I (lN ao.done)),(15,I s.1)],[(5,(164,[V (.int .u32 0),I 0])),(6,(164,[V (.int .u32 s.2.1),I s.2.2])),(901,(161,[I ao.o.au,I ao.o.az,I ao.o.aH,Sl a1 ao.o.Rows c1,Sl a2 ao.l c2,Sl a3 ao.done c3,V (.map (some r4))]))]⟩ Z a w X/\gj (dL [(i1,901),(m4,2004)]) w0 X0 w X/\Pin [(901,b1)] Z/\RS dP w X a3 ao.done c3/\RS aC w X a1 ao.o.Rows c1/\RS ar w X a2 ao.l c2/\RS dP w X a3 ao.done c3/\OMS aU tI false w X 2004 r4 ao.failed) (fun s=>μ1 s.1 s.2.1 s.2.2) (⟨0,0,state⟩) ?_ ?_
  ·exact ⟨Z,_,cx,hS.sl _,hO,hP,h3,h1,h2,h3,h4⟩
  rintro ⟨bL,dz,db⟩ a zI ⟨Z,pq,hI,hS,hO,hP,h109,h113,h114,h115,h116⟩
  replace hm:=hm bL dz db hI
  clear hI cx
  refine rPe T hS [] [(16,B (decide (bL < (lN ao.done))))] fun a hS=>?_
  refine bg ?_
  refine aJ hS (b:=decide (bL < (lN ao.done))) kr (fun hb=>?_) fun hb=>?_
  ·replace hm:=hm.1 hb
   refine aM ?_
   refine cb (fun a w=>∃ (Z:Nat->Nat) (X:Nat->Nat) (jO:Int),VC101_J2 I1 μ1 bL dz db jO/\St Tryz.f101.ntmps ⟨[(4,Pt 5 0),(5,Pt 6 0),(13,Sl a3 ao.done c3),(14,I (lN ao.done)),(15,I bL)],[(5,(164,[V (.int .u32 0),I 0])),(6,(164,[V (.int .u32 jO),I db])),(901,(161,[I ao.o.au,I ao.o.az,I ao.o.aH,Sl a1 ao.o.Rows c1,Sl a2 ao.l c2,Sl a3 ao.done c3,V (.map (some r4))]))]⟩ Z a w X/\gj (dL [(i1,901),(m4,2004)]) w0 X0 w X/\Pin [(901,b1)] Z/\RS dP w X a3 ao.done c3/\RS aC w X a1 ao.o.Rows c1/\RS ar w X a2 ao.l c2/\RS dP w X a3 ao.done c3/\OMS aU tI false w X 2004 r4 ao.failed) ?_ ?_
   ·refine aN ?_
    refine bq ?_
    refine oPe T hS 1 [16] [(17,I bL)] fun a hS=>?_
    obtain ⟨hq,hm⟩:=hm
    refine op1 (index (e:=4) (k:=.i64) T hS kr kr kr kr h109 kr kr hq.1 hq.2 ?_)
    intro E8 a h124 hS
    refine op1 (dW T hS kr kr kr h124 rfl kr ?_)
    intro v125 a hv hS
    cases hv
    refine ePe T hS [17,18,19] [(6,I bL),(7,B (gi ao.done bL))] fun a hS=>?_
    refine rPe T hS [7] [(20,B (gi ao.done bL))] fun a hS=>?_
    refine aJ hS (b:=gi ao.done bL) kr (fun hb=>?_) fun hb=>?_
    ·replace hm:=hm.1 hb
     refine iB [5,901] mixed hS ?_
     intro tm p9 hS hE hD hH
     replace hO:=hO.m2 hE
     replace h109:=h109.m1 hE
     replace h113:=h113.m1 hE
     replace h114:=h114.m1 hE
     replace h115:=h115.m1 hE
     replace h116:=h116.m2 hE
     refine tke T [0,2] [5,901] hS hH #[true,false,true,false,false,false,false] 5 [6] [(21,Pt 6 0),(23,I bL)] fun a hS=>?_
     obtain ⟨hq,hm⟩:=hm
     refine Jy (k:=.u32) (k2:=.i64) (p:=1) (q:=bL) 3 hS kr kr kr (by rfl) kr hH kr kr hq ?_
     intro a hS
     refine only 1 kr (by rfl) (gU T hS kr kr kr (sv:=V (.int .u32 dz)) kr ?_)
     intro a hS
     refine di (bP.of hS (bks:=[5,901]) kr hD) ?_
     intro hH
     refine tke T [4,5] [5,901] hS hH #[true,true,true,true,true,true,false] 1 [21,23,24,22] [(25,V (.int .u32 (IntKind.u32.wrap ((BitVec.ofInt IntKind.u32.bits dz ||| BitVec.ofInt IntKind.u32.bits (IntKind.u32.wrap (1 * 2 ^ (min bL.toNat IntKind.u32.bits)))).toNat:Int)))),(26,Pt 6 0)] fun a hS=>?_
     replace hS:=hS.sl ⟨[(4,Pt 5 0),(5,Pt 6 0),(13,Sl a3 ao.done c3),(14,I (lN ao.done)),(15,I bL),(25,V (.int .u32 (IntKind.u32.wrap ((BitVec.ofInt IntKind.u32.bits dz ||| BitVec.ofInt IntKind.u32.bits (IntKind.u32.wrap (1 * 2 ^ (min bL.toNat IntKind.u32.bits)))).toNat:Int)))),(26,Pt 6 0)],[(5,(164,[V (.int .u32 0),I 0])),(6,(164,[V (.int .u32 dz),I db])),(901,(161,[I ao.o.au,I ao.o.az,I ao.o.aH,Sl a1 ao.o.Rows c1,Sl a2 ao.l c2,Sl a3 ao.done c3,V (.map (some r4))]))]⟩
     refine only 6 kr (by rfl) (Bz T hS kr kr (sy':=⟨[(4,Pt 5 0),(5,Pt 6 0),(13,Sl a3 ao.done c3),(14,I (lN ao.done)),(15,I bL),(25,V (.int .u32 (IntKind.u32.wrap ((BitVec.ofInt IntKind.u32.bits dz ||| BitVec.ofInt IntKind.u32.bits (IntKind.u32.wrap (1 * 2 ^ (min bL.toNat IntKind.u32.bits)))).toNat:Int)))),(26,Pt 6 0)],[(6,(164,[V (.int .u32 (IntKind.u32.wrap ((BitVec.ofInt IntKind.u32.bits dz ||| BitVec.ofInt IntKind.u32.bits (IntKind.u32.wrap (1 * 2 ^ (min bL.toNat IntKind.u32.bits)))).toNat:Int))),I db])),(5,(164,[V (.int .u32 0),I 0])),(6,(164,[V (.int .u32 dz),I db])),(901,(161,[I ao.o.au,I ao.o.az,I ao.o.aH,Sl a1 ao.o.Rows c1,Sl a2 ao.l c2,Sl a3 ao.done c3,V (.map (some r4))]))]⟩) kr ?_)
     intro a rV sb hS hE
     replace hO:=hO.m2 hE
     replace hD:=hD.ev hE rfl
     replace h109:=h109.m1 hE
     replace h113:=h113.m1 hE
     replace h114:=h114.m1 hE
     replace h115:=h115.m1 hE
     replace h116:=h116.m2 hE
     replace hS:=hS.sl ⟨[(4,Pt 5 0),(5,Pt 6 0),(13,Sl a3 ao.done c3),(14,I (lN ao.done)),(15,I bL),(25,V (.int .u32 (IntKind.u32.wrap ((BitVec.ofInt IntKind.u32.bits dz ||| BitVec.ofInt IntKind.u32.bits (IntKind.u32.wrap (1 * 2 ^ (min bL.toNat IntKind.u32.bits)))).toNat:Int)))),(26,Pt 6 0)],[(5,(164,[V (.int .u32 0),I 0])),(6,(164,[V (.int .u32 (IntKind.u32.wrap ((BitVec.ofInt IntKind.u32.bits dz ||| BitVec.ofInt IntKind.u32.bits (IntKind.u32.wrap (1 * 2 ^ (min bL.toNat IntKind.u32.bits)))).toNat:Int))),I db])),(901,(161,[I ao.o.au,I ao.o.az,I ao.o.aH,Sl a1 ao.o.Rows c1,Sl a2 ao.l c2,Sl a3 ao.done c3,V (.map (some r4))]))]⟩
     refine di (bP.of hS (bks:=[5,901]) kr hD) ?_
     intro hH
     refine aX kr ?_
     replace hS:=hS.sle [25,26] []
     exact ⟨Z,_,IntKind.u32.wrap ((BitVec.ofInt IntKind.u32.bits dz ||| BitVec.ofInt IntKind.u32.bits (IntKind.u32.wrap (1 * 2 ^ (min bL.toNat IntKind.u32.bits)))).toNat:Int),hm,hS.sl _,hO,hP,h109,h113,h114,h115,h116⟩
    replace hm:=hm.2 hb
    refine aM ?_
    exact ⟨Z,_,dz,hm,hS.sl _,hO,hP,h109,h113,h114,h115,h116⟩
   rintro a pU ⟨Z,E4,jO,hm,hS,hO,hP,h117,h119,h120,h121,h122⟩
   unfold VC101_J2 at hm
   refine region (ePe T hS [] [(15,I (wR (bL+1)))] fun a hS=>?_)
   exact ⟨⟨wR (bL+1),jO,db⟩,⟨Z,_,hm.1,hS.sl _,hO,hP,h117,h119,h120,h121,h122⟩,hm.2⟩
  replace hm:=hm.2 hb
  refine cm (by rfl) ?_
  exact ⟨Z,_,dz,db,hm,hS.sl _,hO,hP,h113,h114,h115,h116⟩
 rintro a DU ⟨Z,Dk,bE,bC,hm,hS,hO,hP,h103,h104,h105,h106⟩
 unfold VC101_J1 at hm
 refine rM T hS ⟨[(4,Pt 5 0)],[(5,(164,[V (.int .u32 bE),I bC])),(901,(161,[I ao.o.au,I ao.o.az,I ao.o.aH,Sl a1 ao.o.Rows c1,Sl a2 ao.l c2,Sl a3 ao.done c3,V (.map (some r4))]))]⟩ fun Z a rW qa hS hE hr=>?_
 replace hO:=hO.m2 hE
 replace h103:=h103.m1 hE
 replace h104:=h104.m1 hE
 replace h105:=h105.m1 hE
 replace h106:=h106.m2 hE
 replace hP:=hP.mv hr kr
 clear hE hr
 refine aY ?_
 exact gW T hS hO (fun c h=>b0 kr h) (fun c h=>b5 (l:=[(i1,901),(m4,2004)]) h) (bU [(i1,901),(m4,2004)]) rfl (r:=[.agg #[.int .u32 bE,.int .i64 bC]]) kr (fun X' hM hC=>⟨(⟨bE,bC⟩:b8),hm,rfl,((hS.cell (id:=901) (t:=161) (cs:=[I ao.o.au,I ao.o.az,I ao.o.aH,Sl a1 ao.o.Rows c1,Sl a2 ao.l c2,Sl a3 ao.done c3,V (.map (some r4))]) kr).out (f:=(bU [(i1,901),(m4,2004)])) hC kr kr (hP.at 0 rfl)),(h106.out (f:=(bU [(i1,901),(m4,2004)])) hM hC kr kr)⟩)
theorem C101 (v:∀ (state:Int) (ao:a8),VC101 state ao (fun r=>r=dI state ao)):S101:=by
 intro w X state ao a1 c1 a2 c2 a3 c3 r4 m4  b1 i1 h1 h2 h3 h4 fB hA
 refine (W101 w X state ao a1 c1 a2 c2 a3 c3 r4 m4  b1 i1 _ (v state ao) h1 h2 h3 h4 fB hA).mono ?_
 rintro _ _ _ _ ⟨r,rfl,h⟩
 exact h
theorem W100 (w0) (X0) (ao:a8) (a1) (c1) (a2) (c2) (a3) (c3) (r4) (m4) (b1) (i1) (Q:Bool->Prop) (hm:VC100 ao Q) (h1:RS aC w0 X0 a1 ao.o.Rows c1) (h2:RS ar w0 X0 a2 ao.l c2) (h3:RS dP w0 X0 a3 ao.done c3) (h4:OMS aU tI false w0 X0 m4 r4 ao.failed) (fB:Cell w0 X0 b1 i1 161 [.int .i64 ao.o.au,.int .i64 ao.o.az,.int .i64 ao.o.aH,.slice a1 ao.o.Rows.length c1,.slice a2 ao.l.length c2,.slice a3 ao.done.length c3,.map (some r4)]) (hA:dZ [i1,m4]) :
  Ret Tryz.prog 100 #[.pointer (some ⟨b1,0,none⟩)] (pR [i1,m4]) w0 X0 (fun w X' v=>∃ r,Q r/\v=.bool r/\Cell w X' b1 i1 161 [.int .i64 ao.o.au,.int .i64 ao.o.az,.int .i64 ao.o.aH,.slice a1 ao.o.Rows.length c1,.slice a2 ao.l.length c2,.slice a3 ao.done.length c3,.map (some r4)]/\OMS aU tI false w X' m4 r4 ao.failed):=by
 unfold VC100 at hm
 replace hm:=hm (h1.sm kr)
 replace hm:=hm (h2.sm kr)
 replace hm:=hm (h3.sm kr)
 refine fO Tryz.func100 rfl (dL [(i1,901),(m4,2004)]) (fun id=>(bif Nat.beq id 901 then b1 else 0)) (args:=[Pt 901 0]) (bxs:=[(901,(161,[I ao.o.au,I ao.o.az,I ao.o.aH,Sl a1 ao.o.Rows c1,Sl a2 ao.l c2,Sl a3 ao.done c3,V (.map (some r4))]))]) kr rfl (bu.cons kr (fB.map (bQ 0 hA.1 rfl)) bu.nil) (fD (fun q hq=>(hA.2 q.1 (List.mem_map.2 ⟨q,hq,rfl⟩)).1)) ?_
 intro a hS hO hM
 have hP:Pin [(901,b1)] (fun id=>(bif Nat.beq id 901 then b1 else 0)):=by intro q hq; simp at hq; rcases hq with rfl <;> rfl
 generalize (fun id=>(bif Nat.beq id 901 then b1 else 0))=Z at hS hP
 clear fB
 replace h1:=h1.m0 hM
 replace h2:=h2.m0 hM
 replace h3:=h3.m0 hM
 replace h4:=h4.map (f:=dL [(i1,901),(m4,2004)]) (bQ 1 hA.1 rfl) hM
 refine rPe T hS [] [] fun a hS=>?_
 refine cb (fun a w=>∃ Z X,VC100_J1 Q/\St Tryz.f100.ntmps ⟨[],[(901,(161,[I ao.o.au,I ao.o.az,I ao.o.aH,Sl a1 ao.o.Rows c1,Sl a2 ao.l c2,Sl a3 ao.done c3,V (.map (some r4))]))]⟩ Z a w X/\gj (dL [(i1,901),(m4,2004)]) w0 X0 w X/\Pin [(901,b1)] Z/\RS aC w X a1 ao.o.Rows c1/\RS ar w X a2 ao.l c2/\RS dP w X a3 ao.done c3/\OMS aU tI false w X 2004 r4 ao.failed) ?_ ?_
 ·refine rPe T hS [] [(8,Sl a2 ao.l c2),(9,I (lN ao.l)),(10,I 0)] fun a hS=>?_
  refine aN ?_
  obtain ⟨I1,μ1,cx,hm⟩:=hm
  refine ct (σ:=Int) (fun s a w=>∃ Z X,I1 s/\St Tryz.f100.ntmps ⟨[(0,Pt 901 0),(8,Sl a2 ao.l c2),(9,I (lN ao.l)),(10,I s)],[(901,(161,[I ao.o.au,I ao.o.az,I ao.o.aH,Sl a1 ao.o.Rows c1,Sl a2 ao.l c2,Sl a3 ao.done c3,V (.map (some r4))]))]⟩ Z a w X/\gj (dL [(i1,901),(m4,2004)]) w0 X0 w X/\Pin [(901,b1)] Z/\RS ar w X a2 ao.l c2/\RS aC w X a1 ao.o.Rows c1/\RS ar w X a2 ao.l c2/\RS dP w X a3 ao.done c3/\OMS aU tI false w X 2004 r4 ao.failed) (fun s=>μ1 s) (0) ?_ ?_
  ·exact ⟨Z,_,cx,hS.sl _,hO,hP,h2,h1,h2,h3,h4⟩
  rintro fE a rV ⟨Z,p9,hI,hS,hO,hP,h105,h107,h108,h109,h110⟩
  replace hm:=hm fE hI
  clear hI cx
  refine rPe T hS [] [(11,B (decide (fE < (lN ao.l))))] fun a hS=>?_
  refine bg ?_
  refine aJ hS (b:=decide (fE < (lN ao.l))) kr (fun hb=>?_) fun hb=>?_
  ·replace hm:=hm.1 hb
   refine aM (bg ?_)
   refine aN ?_
   refine bq ?_
   refine oPe T hS 1 [11] [(12,I fE)] fun a hS=>?_
   obtain ⟨hq,hm⟩:=hm
   refine op1 (index (e:=102) (k:=.i64) T hS kr kr kr kr h105 kr kr hq.1 hq.2 ?_)
   intro Dv a h112 hS
   refine op1 (eU T hS kr kr kr h112 kr kr ?_)
   intro v113 a hv hS
   subst hv
   refine eM T hS ⟨[(0,Pt 901 0),(3,I fE),(4,Pt 5 0),(8,Sl a2 ao.l c2),(9,I (lN ao.l)),(10,I fE)],[(5,(102,(cP (gi ao.l fE)))),(901,(161,[I ao.o.au,I ao.o.az,I ao.o.aH,Sl a1 ao.o.Rows c1,Sl a2 ao.l c2,Sl a3 ao.done c3,V (.map (some r4))]))]⟩ fun Z a zJ x4 hS hE hr=>?_
   replace hO:=hO.m2 hE
   replace h105:=h105.m1 hE
   replace h107:=h107.m1 hE
   replace h108:=h108.m1 hE
   replace h109:=h109.m1 hE
   replace h110:=h110.m2 hE
   replace hP:=hP.mv hr kr
   clear hE hr
   refine cb (fun a w=>∃ (Z:Nat->Nat) (X:Nat->Nat) (bw:Bool),VC100_J2 Q I1 μ1 fE bw/\St Tryz.f100.ntmps ⟨[(0,Pt 901 0),(8,Sl a2 ao.l c2),(9,I (lN ao.l)),(10,I fE),(27,B bw)],[(901,(161,[I ao.o.au,I ao.o.az,I ao.o.aH,Sl a1 ao.o.Rows c1,Sl a2 ao.l c2,Sl a3 ao.done c3,V (.map (some r4))]))]⟩ Z a w X/\gj (dL [(i1,901),(m4,2004)]) w0 X0 w X/\Pin [(901,b1)] Z/\RS ar w X a2 ao.l c2/\RS aC w X a1 ao.o.Rows c1/\RS ar w X a2 ao.l c2/\RS dP w X a3 ao.done c3/\OMS aU tI false w X 2004 r4 ao.failed) ?_ ?_
   ·refine region ?_
    refine oP T hS 4 ⟨[(0,Pt 901 0),(3,I fE),(8,Sl a2 ao.l c2),(9,I (lN ao.l)),(10,I fE),(18,B (((gi ao.l fE).End) != (-1)))],[(901,(161,[I ao.o.au,I ao.o.az,I ao.o.aH,Sl a1 ao.o.Rows c1,Sl a2 ao.l c2,Sl a3 ao.done c3,V (.map (some r4))]))]⟩ fun a hS=>?_
    rcases bft (((gi ao.l fE).End) != (-1)) with hb | hb
    ·replace hS:=hS.lit (t:=18) kr hb
     replace hm:=hm.1 hb
     refine oPe T hS 5 [3] [(22,Sl a3 ao.done c3),(23,I fE)] fun a hS=>?_
     obtain ⟨hq,hm⟩:=hm
     refine op1 (index (e:=4) (k:=.i64) T hS kr kr kr kr h109 kr kr hq.1 hq.2 ?_)
     intro N9 a h121 hS
     refine op1 (dW T hS kr kr kr h121 rfl kr ?_)
     intro v122 a hv hS
     cases hv
     refine ePe T hS [18,22,23,24,25] [(27,B (!(gi ao.done fE)))] fun a hS=>?_
     exact ⟨Z,_,(!(gi ao.done fE)),hm,hS.sl _,hO,hP,h105,h107,h108,h109,h110⟩
    replace hS:=hS.lit (t:=18) kr hb
    replace hm:=hm.2 hb
    refine ePe T hS [3,18] [(27,B false)] fun a hS=>?_
    exact ⟨Z,_,false,hm,hS.sl _,hO,hP,h105,h107,h108,h109,h110⟩
   rintro a Le ⟨Z,uA,bw,hm,hS,hO,hP,h114,h116,h117,h118,h119⟩
   unfold VC100_J2 at hm
   refine aJ hS (b:=bw) kr (fun hb=>?_) fun hb=>?_
   ·replace hm:=hm.1 hb
    refine rPe T hS [0,8,9,10,27] [(2,B false)] fun a hS=>?_
    refine aY ?_
    exact gW T hS hO (fun c h=>b0 kr h) (fun c h=>b5 (l:=[(i1,901),(m4,2004)]) h) (bU [(i1,901),(m4,2004)]) rfl (r:=[.bool false]) kr (fun X' hM hC=>⟨false,hm,rfl,((hS.cell (id:=901) (t:=161) (cs:=[I ao.o.au,I ao.o.az,I ao.o.aH,Sl a1 ao.o.Rows c1,Sl a2 ao.l c2,Sl a3 ao.done c3,V (.map (some r4))]) kr).out (f:=(bU [(i1,901),(m4,2004)])) hC kr kr (hP.at 0 rfl)),(h119.out (f:=(bU [(i1,901),(m4,2004)])) hM hC kr kr)⟩)
   replace hm:=hm.2 hb
   refine aM ?_
   refine region (ePe T hS [27] [(10,I (wR (fE+1)))] fun a hS=>?_)
   exact ⟨wR (fE+1),⟨Z,_,hm.1,hS.sl _,hO,hP,h114,h116,h117,h118,h119⟩,hm.2⟩
  replace hm:=hm.2 hb
  refine cm (by rfl) ?_
  exact ⟨Z,_,hm,hS.sl _,hO,hP,h107,h108,h109,h110⟩
 rintro a uI ⟨Z,sb,hm,hS,hO,hP,h101,h102,h103,h104⟩
 unfold VC100_J1 at hm
 refine rPe T hS [] [(2,B true)] fun a hS=>?_
 refine aY ?_
 exact gW T hS hO (fun c h=>b0 kr h) (fun c h=>b5 (l:=[(i1,901),(m4,2004)]) h) (bU [(i1,901),(m4,2004)]) rfl (r:=[.bool true]) kr (fun X' hM hC=>⟨true,hm,rfl,((hS.cell (id:=901) (t:=161) (cs:=[I ao.o.au,I ao.o.az,I ao.o.aH,Sl a1 ao.o.Rows c1,Sl a2 ao.l c2,Sl a3 ao.done c3,V (.map (some r4))]) kr).out (f:=(bU [(i1,901),(m4,2004)])) hC kr kr (hP.at 0 rfl)),(h104.out (f:=(bU [(i1,901),(m4,2004)])) hM hC kr kr)⟩)
theorem C100 (v:∀ (ao:a8),yk ao->VC100 ao (fun r=>r=dU ao)):S100:=by
 intro w X ao a1 c1 a2 c2 a3 c3 r4 m4  b1 i1 hp h1 h2 h3 h4 fB hA
 refine (W100 w X ao a1 c1 a2 c2 a3 c3 r4 m4  b1 i1 _ (v ao hp) h1 h2 h3 h4 fB hA).mono ?_
 rintro _ _ _ _ ⟨r,rfl,h⟩
 exact h
theorem W102 (N) (rj:S103) (En:S104) (GG:S90N N) (w0) (X0) (p_:aa) (ay:a8) (aO:Int) (bF:List aa) (a1) (c1) (a2) (c2) (a3) (c3) (m3) (r4) (m4) (a5) (c5) (cU) (b1) (i1) (b2) (i2) (b3) (i3) (b4) (i4) (Q:(List aa) × Bool × a8->Prop) (hm:VC102 N p_ ay aO bF Q) (h1:RS aC w0 X0 a1 ay.o.Rows c1) (h2:RS ar w0 X0 a2 ay.l c2) (h3:OS dP 4 w0 X0 m3 a3 ay.done c3) (h4:OMS aU tI false w0 X0 m4 r4 ay.failed) (h5:RS av w0 X0 a5 bF c5) (fB:Cell w0 X0 b1 i1 147 [.pointer (some ⟨b2,0,none⟩)]) (gO:Cell w0 X0 b2 i2 161 [.int .i64 ay.o.au,.int .i64 ay.o.az,.int .i64 ay.o.aH,.slice a1 ay.o.Rows.length c1,.slice a2 ay.l.length c2,.slice a3 ay.done.length c3,.map (some r4)]) (lR:Cell w0 X0 b3 i3 3 [.int .i64 aO]) (ue:Cell w0 X0 b4 i4 26 [.slice a5 bF.length c5]) (hA:dZ [i1,i2,i3,i4,m3,m4]) :
  Ret Tryz.prog 102 #[.agg #[.int .i64 p_.Oper,.int .i64 p_.Result],.pointer (some ⟨b1,0,none⟩),.pointer (some ⟨b3,0,none⟩),.pointer (some ⟨b4,0,none⟩)] (pR [i1,i2,i3,i4,m3,m4]) w0 X0 (fun w X' v=>∃ r,Q r/\∃ cz cy jd jc pC pB yj yi,v=.tuple #[.slice cz r.1.length cy,.bool r.2.1]/\OS av 56 w X' cU cz r.1 cy/\RS aC w X' jd r.2.2.o.Rows jc/\RS ar w X' pC r.2.2.l pB/\OS dP 4 w X' m3 yj r.2.2.done yi/\Cell w X' b1 i1 147 [.pointer (some ⟨b2,0,none⟩)]/\Cell w X' b2 i2 161 [.int .i64 r.2.2.o.au,.int .i64 r.2.2.o.az,.int .i64 r.2.2.o.aH,.slice jd r.2.2.o.Rows.length jc,.slice pC r.2.2.l.length pB,.slice yj r.2.2.done.length yi,.map (some r4)]/\OMS aU tI false w X' m4 r4 r.2.2.failed/\Cell w X' b3 i3 3 [.int .i64 aO]/\Cell w X' b4 i4 26 [.slice a5 bF.length c5]):=by
 unfold VC102 at hm
 replace hm:=hm (h1.sm kr)
 replace hm:=hm (h2.sm kr)
 replace hm:=hm (h3.sm kr)
 replace hm:=hm (h5.sm kr)
 refine fO Tryz.func102 rfl (dL (zAc2 i1 i2 i3 i4 m3 m4)) (fun id=>(bif Nat.beq id 901 then b1 else (bif Nat.beq id 902 then b2 else (bif Nat.beq id 903 then b3 else (bif Nat.beq id 904 then b4 else 0))))) (args:=[V (.agg #[.int .i64 p_.Oper,.int .i64 p_.Result]),Pt 901 0,Pt 903 0,Pt 904 0]) (bxs:=[(901,(147,[Pt 902 0])),(902,(161,[I ay.o.au,I ay.o.az,I ay.o.aH,Sl a1 ay.o.Rows c1,Sl a2 ay.l c2,Sl a3 ay.done c3,V (.map (some r4))])),(903,(3,[I aO])),(904,(26,[Sl a5 bF c5]))]) kr rfl (bu.cons kr (fB.map (bQ 0 hA.1 rfl)) (bu.cons kr (gO.map (bQ 1 hA.1 rfl)) (bu.cons kr (lR.map (bQ 2 hA.1 rfl)) (bu.cons kr (ue.map (bQ 3 hA.1 rfl)) bu.nil)))) (fD (fun q hq=>(hA.2 q.1 (List.mem_map.2 ⟨q,hq,rfl⟩)).1)) ?_
 intro a hS hO hM
 have hP:Pin [(901,b1),(902,b2),(903,b3),(904,b4)] (fun id=>(bif Nat.beq id 901 then b1 else (bif Nat.beq id 902 then b2 else (bif Nat.beq id 903 then b3 else (bif Nat.beq id 904 then b4 else 0))))):=by intro q hq; simp at hq; rcases hq with rfl | rfl | rfl | rfl <;> rfl
 generalize (fun id=>(bif Nat.beq id 901 then b1 else (bif Nat.beq id 902 then b2 else (bif Nat.beq id 903 then b3 else (bif Nat.beq id 904 then b4 else 0)))))=Z at hS hP
 clear fB gO lR ue
 replace h1:=h1.m0 hM
 replace h2:=h2.m0 hM
 replace h3:=h3.map (f:=dL (zAc2 i1 i2 i3 i4 m3 m4)) (bQ 4 hA.1 rfl) hM
 replace h4:=h4.map (f:=dL (zAc2 i1 i2 i3 i4 m3 m4)) (bQ 5 hA.1 rfl) hM
 replace h5:=h5.m0 hM
 refine rM T hS ⟨[(1,Pt 901 0),(2,Pt 903 0),(3,Pt 904 0),(4,Pt 5 0)],[(5,(56,(cK p_))),(901,(147,[Pt 902 0])),(902,(161,[I ay.o.au,I ay.o.az,I ay.o.aH,Sl a1 ay.o.Rows c1,Sl a2 ay.l c2,Sl a3 ay.done c3,V (.map (some r4))])),(903,(3,[I aO])),(904,(26,[Sl a5 bF c5]))]⟩ fun Z a Px RO hS hE hr=>?_
 replace hO:=hO.m2 hE
 replace h1:=h1.m1 hE
 replace h2:=h2.m1 hE
 replace h3:=h3.m2 hE
 replace h4:=h4.m2 hE
 replace h5:=h5.m1 hE
 replace hP:=hP.mv hr kr
 clear hE hr
 refine dG [5,901,902,903,904] mixed hS ?_
 intro oO pw hS hE hD hH
 replace hO:=hO.m2 hE
 replace h1:=h1.m1 hE
 replace h2:=h2.m1 hE
 replace h3:=h3.m2 hE
 replace h4:=h4.m2 hE
 replace h5:=h5.m1 hE
 refine tk T [0,4,5,9,1,6,10,2,7,3,8] [5,901,902,903,904] hS hH #[true,true,true,true,true,true,true,true,true,true,true,false,false,false,false,false,false,false,false,false,false,false] 11 ⟨[(1,Pt 901 0),(3,Pt 904 0),(4,Pt 5 0),(16,V (.agg #[.int .i64 ay.o.au,.int .i64 ay.o.az,.int .i64 ay.o.aH,.slice a1 ay.o.Rows.length c1])),(17,I aO),(21,Sl a2 ay.l c2),(23,I p_.Oper)],[(5,(56,(cK p_))),(901,(147,[Pt 902 0])),(902,(161,[I ay.o.au,I ay.o.az,I ay.o.aH,Sl a1 ay.o.Rows c1,Sl a2 ay.l c2,Sl a3 ay.done c3,V (.map (some r4))])),(903,(3,[I aO])),(904,(26,[Sl a5 bF c5]))]⟩ fun a hS=>?_
 obtain ⟨hq,hm⟩:=hm
 refine dm (e:=102) (k:=.i64) T 11 hS kr kr kr (by rfl) kr hH kr kr h2 kr kr hq.1 hq.2 ?_
 intro uE a h104 hS
 have vK:=h104.here
 refine dE (off:=1) (fsz:=1) (ft:=3) (TF:=tI) (y:=(gi ay.l p_.Oper).Kind) 12 T hS kr kr kr (by rfl) kr hH kr h104 kr kr kr (fun cs h=>kX h) ?_
 intro ya a h106 fR hS
 have rq:=vK
 rw [← fR] at rq
 clear fR
 refine eu T 13 hS kr kr kr (by rfl) kr hH kr h106 rq rfl kr ?_
 intro v107 a hv hS
 cases hv
 refine only 14 kr (by rfl) (call hS kr kr hb103 kr (fun _ _=>rfl) (rj _ _ ay.o aO ((gi ay.l p_.Oper).Kind) a1 c1 h1) ?_)
 intro v108 a qo sc hE hp hS
 replace hO:=hO.m2 hE
 replace hD:=hD.ev hE rfl
 replace h1:=h1.m1 hE
 replace h2:=h2.m1 hE
 replace h3:=h3.m2 hE
 replace h4:=h4.m2 hE
 replace h5:=h5.m1 hE
 replace h104:=h104.m1 hE
 replace h106:=h106.m1 hE
 obtain ⟨df,hr⟩:∃ r,cw ay.o aO ((gi ay.l p_.Oper).Kind)=r:=⟨_,rfl⟩
 replace hm:=hm df hr
 rw [hr] at hp
 clear hr
 subst hp
 replace hS:=hS.sl ⟨[(1,Pt 901 0),(3,Pt 904 0),(4,Pt 5 0),(16,V (.agg #[.int .i64 ay.o.au,.int .i64 ay.o.az,.int .i64 ay.o.aH,.slice a1 ay.o.Rows.length c1])),(17,I aO),(21,Sl a2 ay.l c2),(23,I p_.Oper),(24,V (.pointer (some uE))),(25,V (.pointer (some ya))),(26,I ((gi ay.l p_.Oper).Kind)),(27,V (.tuple #[.int .i64 df.1,.int .i64 df.2.1,.bool df.2.2]))],[(5,(56,(cK p_))),(901,(147,[Pt 902 0])),(902,(161,[I ay.o.au,I ay.o.az,I ay.o.aH,Sl a1 ay.o.Rows c1,Sl a2 ay.l c2,Sl a3 ay.done c3,V (.map (some r4))])),(903,(3,[I aO])),(904,(26,[Sl a5 bF c5]))]⟩
 refine di (bP.of hS (bks:=[5,901,902,903,904]) kr hD) ?_
 intro hH
 refine tk T [15,16,17,18,19,20,21] [5,901,902,903,904] hS hH #[true,true,true,true,true,true,true,true,true,true,true,true,true,true,true,true,true,true,true,true,true,true] 0 ⟨[(1,Pt 901 0),(3,Pt 904 0),(4,Pt 5 0),(7,I df.1)],[(5,(56,(cK p_))),(901,(147,[Pt 902 0])),(902,(161,[I ay.o.au,I ay.o.az,I ay.o.aH,Sl a1 ay.o.Rows c1,Sl a2 ay.l c2,Sl a3 ay.done c3,V (.map (some r4))])),(903,(3,[I aO])),(904,(26,[Sl a5 bF c5]))]⟩ fun a hS=>?_
 refine aX kr ?_
 replace hS:=hS.sl ⟨[(1,Pt 901 0),(3,Pt 904 0),(4,Pt 5 0),(7,I df.1)],[(5,(56,(cK p_))),(901,(147,[Pt 902 0])),(902,(161,[I ay.o.au,I ay.o.az,I ay.o.aH,Sl a1 ay.o.Rows c1,Sl a2 ay.l c2,Sl a3 ay.done c3,V (.map (some r4))])),(903,(3,[I aO])),(904,(26,[Sl a5 bF c5]))]⟩
 refine dG [5,901,902,903,904] mixed hS ?_
 intro zK rN hS hE hD hH
 replace hO:=hO.m2 hE
 replace h1:=h1.m1 hE
 replace h2:=h2.m1 hE
 replace h3:=h3.m2 hE
 replace h4:=h4.m2 hE
 replace h5:=h5.m1 hE
 refine tk T [0,4,1,5,2,3] [5,901,902,903,904] hS hH #[true,true,true,true,true,true,false,false] 2 ⟨[(1,Pt 901 0),(3,Pt 904 0),(4,Pt 5 0),(7,I df.1),(34,Sl a3 ay.done c3),(36,I p_.Oper)],[(5,(56,(cK p_))),(901,(147,[Pt 902 0])),(902,(161,[I ay.o.au,I ay.o.az,I ay.o.aH,Sl a1 ay.o.Rows c1,Sl a2 ay.l c2,Sl a3 ay.done c3,V (.map (some r4))])),(903,(3,[I aO])),(904,(26,[Sl a5 bF c5]))]⟩ fun a hS=>?_
 obtain ⟨vu,hm⟩:=hm
 refine only 6 kr (by rfl) (lQ (E:=4) (k:=.i64) T hS kr kr kr kr h3 kr kr vu.1 vu.2 ?_)
 intro E9 a h116 h115 hS
 refine di (bP.of hS (bks:=[5,901,902,903,904]) kr hD) ?_
 intro hH
 refine only 7 kr (by rfl) (wX (x:=true) (v:=B true) (i:=p_.Oper.toNat) (E:=4) (xs:=ay.done) T hS kr kr kr kr h3 h116 (by have:=vu.1; have:=vu.2; omega) kr (fun _ _ _=>rfl) ?_)
 intro a Br hE h119 hS
 clear h3 h116 h115 vu
 replace hO:=hO.m2 hE
 replace hD:=hD.ev hE rfl
 replace h1:=h1.m1 hE
 replace h2:=h2.m1 hE
 replace h4:=h4.m2 hE
 replace h5:=h5.m1 hE
 replace hS:=hS.conv (t:=34) (y:=.slice a3 (ay.done.set p_.Oper.toNat true).length c3) kr (by rw [List.length_set])
 refine di (bP.of hS (bks:=[5,901,902,903,904]) kr hD) ?_
 intro hH
 have yU:=hS.cell (id:=902) (t:=161) (cs:=[I ay.o.au,I ay.o.az,I ay.o.aH,Sl a1 ay.o.Rows c1,Sl a2 ay.l c2,Sl a3 ay.done c3,V (.map (some r4))]) kr
 replace yU:=yU.conv (vals':=[.int .i64 ay.o.au,.int .i64 ay.o.az,.int .i64 ay.o.aH,.slice a1 ay.o.Rows.length c1,.slice a2 ay.l.length c2,.slice a3 (ay.done.set p_.Oper.toNat true).length c3,.map (some r4)]) (by rw [List.length_set]; rfl)
 replace hS:=hS.cQ (id:=902) (t:=161) (cs:=[I ay.o.au,I ay.o.az,I ay.o.aH,Sl a1 ay.o.Rows c1,Sl a2 ay.l c2,Sl a3 (ay.done.set p_.Oper.toNat true) c3,V (.map (some r4))]) kr yU
 clear yU
 refine aX kr ?_
 replace hS:=hS.sl ⟨[(1,Pt 901 0),(3,Pt 904 0),(4,Pt 5 0),(7,I df.1)],[(5,(56,(cK p_))),(901,(147,[Pt 902 0])),(902,(161,[I ay.o.au,I ay.o.az,I ay.o.aH,Sl a1 ay.o.Rows c1,Sl a2 ay.l c2,Sl a3 (ay.done.set p_.Oper.toNat true) c3,V (.map (some r4))])),(903,(3,[I aO])),(904,(26,[Sl a5 bF c5]))]⟩
 refine dG [5,901,903,904] mixed hS ?_
 intro wS Dn hS hE hD hH
 replace hO:=hO.m2 hE
 replace h1:=h1.m1 hE
 replace h2:=h2.m1 hE
 replace h4:=h4.m2 hE
 replace h5:=h5.m1 hE
 replace h119:=h119.m2 hE
 refine tk T [0,1,2,4] [5,901,903,904] hS hH #[true,true,true,false,true,false,false,false,false,false,false,false,false] 9 ⟨[(1,Pt 901 0),(4,Pt 5 0),(39,Pt 902 0),(40,I df.1),(41,Sl a5 bF c5),(43,V (.agg #[.int .i64 p_.Oper,.int .i64 p_.Result]))],[(5,(56,(cK p_))),(901,(147,[Pt 902 0])),(902,(161,[I ay.o.au,I ay.o.az,I ay.o.aH,Sl a1 ay.o.Rows c1,Sl a2 ay.l c2,Sl a3 (ay.done.set p_.Oper.toNat true) c3,V (.map (some r4))])),(903,(3,[I aO])),(904,(26,[Sl a5 bF c5]))]⟩ fun a hS=>?_
 obtain ⟨Hj,hm⟩:=hm
 obtain ⟨mV,Ew⟩:∃ r,b7 bF=r:=⟨_,rfl⟩
 replace hm:=hm mV Ew
 refine zt (fun a w=>∃ X uy ur kP kN,St Tryz.f102.ntmps ⟨[(1,Pt 901 0),(4,Pt 5 0),(39,Pt 902 0),(40,I df.1),(42,Sl uy mV ur),(44,Sl kP [p_] kN)],[(5,(56,(cK p_))),(901,(147,[Pt 902 0])),(902,(161,[I ay.o.au,I ay.o.az,I ay.o.aH,Sl a1 ay.o.Rows c1,Sl a2 ay.l c2,Sl a3 (ay.done.set p_.Oper.toNat true) c3,V (.map (some r4))])),(903,(3,[I aO])),(904,(26,[Sl a5 bF c5]))]⟩ Z a w X/\gj (dL (zAc2 i1 i2 i3 i4 m3 m4)) w0 X0 w X/\M0 wS Dn w X/\bP wS Dn (mX [5,901,903,904] ⟨[(1,Pt 901 0),(3,Pt 904 0),(4,Pt 5 0),(7,I df.1)],[(5,(56,(cK p_))),(901,(147,[Pt 902 0])),(902,(161,[I ay.o.au,I ay.o.az,I ay.o.aH,Sl a1 ay.o.Rows c1,Sl a2 ay.l c2,Sl a3 (ay.done.set p_.Oper.toNat true) c3,V (.map (some r4))])),(903,(3,[I aO])),(904,(26,[Sl a5 bF c5]))]⟩) Z w/\OS av 56 w X 1006 uy mV ur/\RS av w X kP [p_] kN/\RS aC w X a1 ay.o.Rows c1/\RS ar w X a2 ay.l c2/\OS dP 4 w X 2003 a3 (ay.done.set p_.Oper.toNat true) c3/\OMS aU tI false w X 2004 r4 ay.failed/\RS av w X a5 bF c5) #[true,true,true,true,true,true,false,false,false,false,false,false,false] 7 ?_ (fun H=>?_)
 ·rintro a K8 ⟨NQ,uy,ur,kP,kN,hS,hO,hD,hH,h145,h148,h151,h152,h153,h154,h155⟩
  replace hm:=hm (h145.sm kr)
  clear Hj Ew
  obtain ⟨hq,hm⟩:=hm
  obtain ⟨news,hN⟩:=h148.src
  refine only 6 kr (by rfl) (append (E:=56) (T:=av) (col:=1006) (xs:=mV) T hS kr kr kr kr h145 hN kr kr kr kr hq ?_)
  intro J1 JM a Ga Kd hE h182 hS
  clear hq hN
  clear h145
  replace hO:=hO.m2 hE
  replace hD:=hD.ev hE rfl
  replace h148:=h148.m1 hE
  replace h151:=h151.m1 hE
  replace h152:=h152.m1 hE
  replace h153:=h153.m2 hE
  replace h154:=h154.m2 hE
  replace h155:=h155.m1 hE
  replace hS:=hS.sl ⟨[(1,Pt 901 0),(4,Pt 5 0),(39,Pt 902 0),(40,I df.1),(44,Sl kP [p_] kN),(45,Sl J1 (mV++[p_]) JM)],[(5,(56,(cK p_))),(901,(147,[Pt 902 0])),(902,(161,[I ay.o.au,I ay.o.az,I ay.o.aH,Sl a1 ay.o.Rows c1,Sl a2 ay.l c2,Sl a3 (ay.done.set p_.Oper.toNat true) c3,V (.map (some r4))])),(903,(3,[I aO])),(904,(26,[Sl a5 bF c5]))]⟩
  refine di (bP.of hS (bks:=[5,901,903,904]) kr hD) ?_
  intro hH
  obtain ⟨hq,hm⟩:=hm
  refine only 7 kr (by rfl) (ma hS kr kr hb90 kr (GG _ _ df.1 (mV++[p_]) (⟨ay.o,ay.l,(ay.done.set p_.Oper.toNat true),ay.failed⟩:a8) J1 JM 1006 a1 c1 a2 c2 a3 c3 2003 r4 2004 (Z 902) 902 hq.1 hq.2 h182 h151 h152 h153 h154 (hS.cell (id:=902) (t:=161) (cs:=[I ay.o.au,I ay.o.az,I ay.o.aH,Sl a1 ay.o.Rows c1,Sl a2 ay.l c2,Sl a3 (ay.done.set p_.Oper.toNat true) c3,V (.map (some r4))]) kr) ⟨by decide,by decide⟩) ?_)
  intro v185 a F9 Kb hE hp hS
  clear h154
  clear h182
  clear h153
  replace hO:=hO.m2 hE
  replace hD:=hD.ev hE rfl
  replace h148:=h148.m1 hE
  replace h151:=h151.m1 hE
  replace h152:=h152.m1 hE
  replace h155:=h155.m1 hE
  obtain ⟨wu,wc,p7,p4,p6,p3,oK,oF,hp,h191,h194,h197,h200,Cs,h201⟩:=hp
  obtain ⟨cJ,hr⟩:∃ r,aK df.1 (mV++[p_]) (⟨ay.o,ay.l,(ay.done.set p_.Oper.toNat true),ay.failed⟩:a8)=r:=⟨_,rfl⟩
  replace hm:=hm cJ hr
  rw [hr] at hp h191 h194 h197 h200 Cs h201
  clear hr
  subst hp
  replace hm:=hm (h191.sm kr)
  replace hm:=hm (h194.sm kr)
  replace hm:=hm (h197.sm kr)
  replace hm:=hm (h200.sm kr)
  replace hS:=hS.cQ (id:=902) (t:=161) (cs:=[I cJ.2.2.o.au,I cJ.2.2.o.az,I cJ.2.2.o.aH,Sl p7 cJ.2.2.o.Rows p4,Sl p6 cJ.2.2.l p3,Sl oK cJ.2.2.done oF,V (.map (some r4))]) kr Cs
  clear Cs
  replace hS:=hS.sl ⟨[(1,Pt 901 0),(4,Pt 5 0),(39,Pt 902 0),(40,I df.1),(44,Sl kP [p_] kN),(46,V (.tuple #[.slice wu cJ.1.length wc,.bool cJ.2.1]))],[(5,(56,(cK p_))),(901,(147,[Pt 902 0])),(902,(161,[I cJ.2.2.o.au,I cJ.2.2.o.az,I cJ.2.2.o.aH,Sl p7 cJ.2.2.o.Rows p4,Sl p6 cJ.2.2.l p3,Sl oK cJ.2.2.done oF,V (.map (some r4))])),(903,(3,[I aO])),(904,(26,[Sl a5 bF c5]))]⟩
  refine di (bP.of hS (bks:=[5,901,903,904]) kr hD) ?_
  intro hH
  refine tk T [8,9,10,11,12] [5,901,903,904] hS hH #[true,true,true,true,true,true,true,true,true,true,true,true,true] 0 ⟨[(1,Pt 901 0),(4,Pt 5 0),(10,Sl wu cJ.1 wc),(11,B cJ.2.1)],[(5,(56,(cK p_))),(901,(147,[Pt 902 0])),(902,(161,[I cJ.2.2.o.au,I cJ.2.2.o.az,I cJ.2.2.o.aH,Sl p7 cJ.2.2.o.Rows p4,Sl p6 cJ.2.2.l p3,Sl oK cJ.2.2.done oF,V (.map (some r4))])),(903,(3,[I aO])),(904,(26,[Sl a5 bF c5]))]⟩ fun a hS=>?_
  refine aX kr ?_
  replace hS:=hS.sl ⟨[(1,Pt 901 0),(4,Pt 5 0),(10,Sl wu cJ.1 wc),(11,B cJ.2.1)],[(5,(56,(cK p_))),(901,(147,[Pt 902 0])),(902,(161,[I cJ.2.2.o.au,I cJ.2.2.o.az,I cJ.2.2.o.aH,Sl p7 cJ.2.2.o.Rows p4,Sl p6 cJ.2.2.l p3,Sl oK cJ.2.2.done oF,V (.map (some r4))])),(903,(3,[I aO])),(904,(26,[Sl a5 bF c5]))]⟩
  refine dG [5,901,902,903,904] mixed hS ?_
  intro H9 J6 hS hE hD hH
  replace hO:=hO.m2 hE
  replace h155:=h155.m1 hE
  replace h201:=h201.m2 hE
  replace h191:=h191.m2 hE
  replace h194:=h194.m1 hE
  replace h197:=h197.m1 hE
  replace h200:=h200.m2 hE
  refine tk T [0,4,1,5,2,3] [5,901,902,903,904] hS hH #[true,true,true,true,true,true,false,false] 2 ⟨[(10,Sl wu cJ.1 wc),(11,B cJ.2.1),(52,Sl oK cJ.2.2.done oF),(54,I p_.Oper)],[(5,(56,(cK p_))),(901,(147,[Pt 902 0])),(902,(161,[I cJ.2.2.o.au,I cJ.2.2.o.az,I cJ.2.2.o.aH,Sl p7 cJ.2.2.o.Rows p4,Sl p6 cJ.2.2.l p3,Sl oK cJ.2.2.done oF,V (.map (some r4))])),(903,(3,[I aO])),(904,(26,[Sl a5 bF c5]))]⟩ fun a hS=>?_
  obtain ⟨vr,hm⟩:=hm
  refine only 6 kr (by rfl) (lQ (E:=4) (k:=.i64) T hS kr kr kr kr h200 kr kr vr.1 vr.2 ?_)
  intro Sd a h207 h206 hS
  refine di (bP.of hS (bks:=[5,901,902,903,904]) kr hD) ?_
  intro hH
  refine only 7 kr (by rfl) (wX (x:=false) (v:=B false) (i:=p_.Oper.toNat) (E:=4) (xs:=cJ.2.2.done) T hS kr kr kr kr h200 h207 (by have:=vr.1; have:=vr.2; omega) kr (fun _ _ _=>rfl) ?_)
  intro a H6 hE h210 hS
  clear h200 h207 h206 vr
  replace hO:=hO.m2 hE
  replace hD:=hD.ev hE rfl
  replace h155:=h155.m1 hE
  replace h201:=h201.m2 hE
  replace h191:=h191.m2 hE
  replace h194:=h194.m1 hE
  replace h197:=h197.m1 hE
  replace hS:=hS.conv (t:=52) (y:=.slice oK (cJ.2.2.done.set p_.Oper.toNat false).length oF) kr (by rw [List.length_set])
  refine di (bP.of hS (bks:=[5,901,902,903,904]) kr hD) ?_
  intro hH
  have yS:=hS.cell (id:=902) (t:=161) (cs:=[I cJ.2.2.o.au,I cJ.2.2.o.az,I cJ.2.2.o.aH,Sl p7 cJ.2.2.o.Rows p4,Sl p6 cJ.2.2.l p3,Sl oK cJ.2.2.done oF,V (.map (some r4))]) kr
  replace yS:=yS.conv (vals':=[.int .i64 cJ.2.2.o.au,.int .i64 cJ.2.2.o.az,.int .i64 cJ.2.2.o.aH,.slice p7 cJ.2.2.o.Rows.length p4,.slice p6 cJ.2.2.l.length p3,.slice oK (cJ.2.2.done.set p_.Oper.toNat false).length oF,.map (some r4)]) (by rw [List.length_set]; rfl)
  replace hS:=hS.cQ (id:=902) (t:=161) (cs:=[I cJ.2.2.o.au,I cJ.2.2.o.az,I cJ.2.2.o.aH,Sl p7 cJ.2.2.o.Rows p4,Sl p6 cJ.2.2.l p3,Sl oK (cJ.2.2.done.set p_.Oper.toNat false) oF,V (.map (some r4))]) kr yS
  clear yS
  refine aX kr ?_
  replace hS:=hS.sl ⟨[(10,Sl wu cJ.1 wc),(11,B cJ.2.1)],[(901,(147,[Pt 902 0])),(902,(161,[I cJ.2.2.o.au,I cJ.2.2.o.az,I cJ.2.2.o.aH,Sl p7 cJ.2.2.o.Rows p4,Sl p6 cJ.2.2.l p3,Sl oK (cJ.2.2.done.set p_.Oper.toNat false) oF,V (.map (some r4))])),(903,(3,[I aO])),(904,(26,[Sl a5 bF c5]))]⟩
  refine rP T hS ⟨[(5,Sl wu cJ.1 wc),(6,B cJ.2.1)],[(901,(147,[Pt 902 0])),(902,(161,[I cJ.2.2.o.au,I cJ.2.2.o.az,I cJ.2.2.o.aH,Sl p7 cJ.2.2.o.Rows p4,Sl p6 cJ.2.2.l p3,Sl oK (cJ.2.2.done.set p_.Oper.toNat false) oF,V (.map (some r4))])),(903,(3,[I aO])),(904,(26,[Sl a5 bF c5]))]⟩ fun a hS=>?_
  refine aY ?_
  exact gW T hS hO (fun c h=>b0 kr h) (fun c h=>b5 (l:=(zAc2 i1 i2 i3 i4 m3 m4)) h) (bU [(i1,901),(i2,902),(i3,903),(i4,904),(m3,2003),(m4,2004),(cU,1006)]) rfl (r:=[.slice wu cJ.1.length wc,.bool cJ.2.1]) kr (fun X' hM hC=>⟨(cJ.1,cJ.2.1,(⟨cJ.2.2.o,cJ.2.2.l,(cJ.2.2.done.set p_.Oper.toNat false),cJ.2.2.failed⟩:a8)),hm,wu,wc,p7,p4,p6,p3,oK,oF,rfl,(OS.out (f:=(bU [(i1,901),(i2,902),(i3,903),(i4,904),(m3,2003),(m4,2004),(cU,1006)])) h191 hM hC kr),h194.m0 hM,h197.m0 hM,(OS.out (f:=(bU [(i1,901),(i2,902),(i3,903),(i4,904),(m3,2003),(m4,2004),(cU,1006)])) h210 hM hC kr),(Cell.ptr (id:=902) ((hS.cell (id:=901) (t:=147) (cs:=[Pt 902 0]) kr).out (f:=(bU [(i1,901),(i2,902),(i3,903),(i4,904),(m3,2003),(m4,2004),(cU,1006)])) hC kr kr (hP.at 0 rfl)) (hP.at 1 rfl)),((hS.cell (id:=902) (t:=161) (cs:=[I cJ.2.2.o.au,I cJ.2.2.o.az,I cJ.2.2.o.aH,Sl p7 cJ.2.2.o.Rows p4,Sl p6 cJ.2.2.l p3,Sl oK (cJ.2.2.done.set p_.Oper.toNat false) oF,V (.map (some r4))]) kr).out (f:=(bU [(i1,901),(i2,902),(i3,903),(i4,904),(m3,2003),(m4,2004),(cU,1006)])) hC kr kr (hP.at 1 rfl)),(h201.out (f:=(bU [(i1,901),(i2,902),(i3,903),(i4,904),(m3,2003),(m4,2004),(cU,1006)])) hM hC kr kr),((hS.cell (id:=903) (t:=3) (cs:=[I aO]) kr).out (f:=(bU [(i1,901),(i2,902),(i3,903),(i4,904),(m3,2003),(m4,2004),(cU,1006)])) hC kr kr (hP.at 2 rfl)),((hS.cell (id:=904) (t:=26) (cs:=[Sl a5 bF c5]) kr).out (f:=(bU [(i1,901),(i2,902),(i3,903),(i4,904),(m3,2003),(m4,2004),(cU,1006)])) hC kr kr (hP.at 3 rfl))⟩)
 clear hm
 refine rG (is:=[3,5]) kr (by decide) ?_
 intro i hi
 rcases Af hi with rfl | rfl
 ·have hq:=Hj
  refine kd (by rfl) (call hS kr kr hb104 kr (fun _ _=>rfl) (En _ _ bF a5 c5 1006 hq h5) ?_)
  intro v156 a zG AX hE hp hS
  replace hO:=hO.m2 hE
  replace hD:=hD.ev hE rfl
  replace h1:=h1.m1 hE
  replace h2:=h2.m1 hE
  replace h4:=h4.m2 hE
  replace h5:=h5.m1 hE
  replace h119:=h119.m2 hE
  obtain ⟨AU,AJ,hp,h162⟩:=hp
  rw [Ew] at hp h162
  subst hp
  replace hS:=hS.sl ⟨[(1,Pt 901 0),(4,Pt 5 0),(39,Pt 902 0),(40,I df.1),(41,Sl a5 bF c5),(43,V (.agg #[.int .i64 p_.Oper,.int .i64 p_.Result])),(42,Sl AU mV AJ)],[(5,(56,(cK p_))),(901,(147,[Pt 902 0])),(902,(161,[I ay.o.au,I ay.o.az,I ay.o.aH,Sl a1 ay.o.Rows c1,Sl a2 ay.l c2,Sl a3 (ay.done.set p_.Oper.toNat true) c3,V (.map (some r4))])),(903,(3,[I aO])),(904,(26,[Sl a5 bF c5]))]⟩
  refine di (bP.of hS (bks:=[5,901,903,904]) kr hD) ?_
  intro hH
  refine only 5 kr (by rfl) (lit (E:=56) (col:=0) (T:=av) (vals:=[.agg #[.int .i64 p_.Oper,.int .i64 p_.Result]]) (ys:=[p_]) T hS kr kr kr kr (by exact ⟨rfl,trivial⟩) rfl kr kr kr kr ?_)
  intro b163 a Gc Kh hE h166 hN hS
  clear hN
  replace hO:=hO.m2 hE
  replace hD:=hD.ev hE rfl
  replace h1:=h1.m1 hE
  replace h2:=h2.m1 hE
  replace h4:=h4.m2 hE
  replace h5:=h5.m1 hE
  replace h119:=h119.m2 hE
  replace h162:=h162.m2 hE
  replace h166:=h166.rs0
  refine di (bP.of hS (bks:=[5,901,903,904]) kr hD) ?_
  intro hH
  exact H _ _ ⟨_,AU,AJ,(some ⟨b163,0,none⟩),1,hS.sl _,hO,hD,hH,h162,h166,h1,h2,h119,h4,h5⟩
 refine kd (by rfl) (lit (E:=56) (col:=0) (T:=av) (vals:=[.agg #[.int .i64 p_.Oper,.int .i64 p_.Result]]) (ys:=[p_]) T hS kr kr kr kr (by exact ⟨rfl,trivial⟩) rfl kr kr kr kr ?_)
 intro b167 a DN HA hE h170 hN hS
 clear hN
 replace hO:=hO.m2 hE
 replace hD:=hD.ev hE rfl
 replace h1:=h1.m1 hE
 replace h2:=h2.m1 hE
 replace h4:=h4.m2 hE
 replace h5:=h5.m1 hE
 replace h119:=h119.m2 hE
 replace h170:=h170.rs0
 refine di (bP.of hS (bks:=[5,901,903,904]) kr hD) ?_
 intro hH
 have hq:=Hj
 refine only 3 kr (by rfl) (call hS kr kr hb104 kr (fun _ _=>rfl) (En _ _ bF a5 c5 1006 hq h5) ?_)
 intro v171 a Gb Hz hE hp hS
 replace hO:=hO.m2 hE
 replace hD:=hD.ev hE rfl
 replace h1:=h1.m1 hE
 replace h2:=h2.m1 hE
 replace h4:=h4.m2 hE
 replace h5:=h5.m1 hE
 replace h119:=h119.m2 hE
 replace h170:=h170.m1 hE
 obtain ⟨jx,jw,hp,h177⟩:=hp
 rw [Ew] at hp h177
 subst hp
 replace hS:=hS.sl ⟨[(1,Pt 901 0),(4,Pt 5 0),(39,Pt 902 0),(40,I df.1),(41,Sl a5 bF c5),(43,V (.agg #[.int .i64 p_.Oper,.int .i64 p_.Result])),(44,Sl (some ⟨b167,0,none⟩) [p_] 1),(42,Sl jx mV jw)],[(5,(56,(cK p_))),(901,(147,[Pt 902 0])),(902,(161,[I ay.o.au,I ay.o.az,I ay.o.aH,Sl a1 ay.o.Rows c1,Sl a2 ay.l c2,Sl a3 (ay.done.set p_.Oper.toNat true) c3,V (.map (some r4))])),(903,(3,[I aO])),(904,(26,[Sl a5 bF c5]))]⟩
 refine di (bP.of hS (bks:=[5,901,903,904]) kr hD) ?_
 intro hH
 exact H _ _ ⟨_,jx,jw,(some ⟨b167,0,none⟩),1,hS.sl _,hO,hD,hH,h177,h170,h1,h2,h119,h4,h5⟩
theorem C102 (N:Nat) (rj:S103) (En:S104) (GG:S90N N) (v:∀ (p_:aa) (ay:a8) (aO:Int) (bF:List aa),yl p_ ay aO bF->B7 p_ ay aO bF < N+1->VC102 N p_ ay aO bF (fun r=>r=bj p_ ay aO bF)):S102N (N+1):=by
 intro w X p_ ay aO bF a1 c1 a2 c2 a3 c3 m3 r4 m4 a5 c5 cU b1 i1 b2 i2 b3 i3 b4 i4 hp MB h1 h2 h3 h4 h5 fB gO lR ue hA
 refine (W102 N rj En GG w X p_ ay aO bF a1 c1 a2 c2 a3 c3 m3 r4 m4 a5 c5 cU b1 i1 b2 i2 b3 i3 b4 i4 _ (v p_ ay aO bF hp MB) h1 h2 h3 h4 h5 fB gO lR ue hA).mono ?_
 rintro _ _ _ _ ⟨r,rfl,h⟩
 exact h
end Go.Proofs.YteahldlmkheleaaGreat
