/- Walks. -/
import Derived.Test.YteahldlmkheleaaGreatLWalksS
set_option linter.all false
namespace Go.Proofs.YteahldlmkheleaaGreat
open Go Go.Sv
abbrev zAc0 (cG:Nat):Nat->Nat:=fun c=>(bif Nat.beq c 1009 then cG else c)
abbrev zAc1 (cG:Nat):Nat->Nat:=fun c=>(bif Nat.beq c 1003 then cG else c)
abbrev zAc2 (i1 i2 i3 i4 m3 m4:Nat):List (Nat × Nat):=[(i1,901),(i2,902),(i3,903),(i4,904),(m3,2003),(m4,2004)]
set_option maxHeartbeats 1000000
theorem W38 (z8:S66) (w0) (X0) (l_:List ab) (ac:List aa) (pending:Bool) (a1) (c1) (a2) (c2) (Q:(List Int)->Prop) (hm:VC38 l_ ac pending Q) (h1:RS ao w0 X0 a1 l_ c1) (h2:RS aq w0 X0 a2 ac c2) :
  Ret Tryz.prog 38 #[.slice a1 l_.length c1,.slice a2 ac.length c2,.bool pending] aJ w0 X0 (fun w X' v=>∃ r,Q r/\∃ cn cm,v=.slice cn r.length cm/\RS tI w X' cn r cm):=by
 unfold VC38 at hm
 replace hm:=hm (h1.sm kr)
 replace hm:=hm (h2.sm kr)
 refine enter Tryz.func38 rfl (vals:=[.slice a1 l_.length c1,.slice a2 ac.length c2,.bool pending]) kr ?_
 intro Z a hS hO hM
 replace h1:=h1.m0 hM
 replace h2:=h2.m0 hM
 refine rPe T hS [] [] fun a hS=>?_
 refine rPe T hS [] [(7,V (.slice none 0 0))] fun a hS=>?_
 refine bT (fun a w=>∃ (Z:Nat->Nat) (X:Nat->Nat) (bD:List Int) (dq:Option Addr) (dl:Nat),VC38_J1 Q bD/\St Tryz.f38.ntmps ⟨[(7,Sl dq bD dl)],[]⟩ Z a w X/\Old w0 X0 w X/\OS tI 3 w X 1007 dq bD dl) ?_ ?_
 ·refine rPe T hS [] [(8,I 0)] fun a hS=>?_
  refine aL ?_
  obtain ⟨I1,μ1,co,hm⟩:=hm
  refine cl (σ:=(List Int) × Int) (fun s a w=>∃ Z X fH fG,I1 s.1 s.2/\St Tryz.f38.ntmps ⟨[(0,Sl a1 l_ c1),(1,Sl a2 ac c2),(2,B pending),(7,Sl fH s.1 fG),(8,I s.2)],[]⟩ Z a w X/\Old w0 X0 w X/\RS ao w X a1 l_ c1/\RS aq w X a2 ac c2/\OS tI 3 w X 1007 fH s.1 fG) (fun s=>μ1 s.1 s.2) (⟨[],0⟩) ?_ ?_
  ·exact ⟨Z,_,none,0,co,hS.sl _,hO,h1,h2,(OS.nil _ _ _ _ _)⟩
  rintro ⟨cH,bd⟩ a DG ⟨Z,xC,fH,fG,hI,hS,hO,h107,h108,h112⟩
  replace hm:=hm cH bd hI
  clear hI co
  refine bc ?_
  refine rPe T hS [] [(12,B (decide (bd < (lN l_))))] fun a hS=>?_
  refine aG hS (b:=decide (bd < (lN l_))) kr (fun hb=>?_) fun hb=>?_
  ·replace hm:=hm.1 hb
   refine aH ?_
   refine bT (fun a w=>∃ (Z:Nat->Nat) (X:Nat->Nat) (aU:List Int) (lw:Option Addr) (lm:Nat),VC38_J2 I1 μ1 cH bd aU/\St Tryz.f38.ntmps ⟨[(0,Sl a1 l_ c1),(1,Sl a2 ac c2),(2,B pending),(7,Sl lw aU lm),(8,I bd)],[]⟩ Z a w X/\Old w0 X0 w X/\RS ao w X a1 l_ c1/\RS aq w X a2 ac c2/\OS tI 3 w X 1007 lw aU lm) ?_ ?_
   ·refine aL ?_
    refine bT (fun a w=>∃ (Z:Nat->Nat) (X:Nat->Nat) (aW:List Int) (k4:Bool) (oY:Option Addr) (oW:Nat),VC38_J3 I1 μ1 cH bd aW k4/\St Tryz.f38.ntmps ⟨[(0,Sl a1 l_ c1),(1,Sl a2 ac c2),(2,B pending),(7,Sl oY aW oW),(8,I bd),(28,B k4)],[]⟩ Z a w X/\Old w0 X0 w X/\RS ao w X a1 l_ c1/\RS aq w X a2 ac c2/\OS tI 3 w X 1007 oY aW oW) ?_ ?_
    ·refine region ?_
     refine oPe T hS 2 [12] [(15,Sl a2 ac c2),(16,I bd)] fun a hS=>?_
     refine op1 (call hS kr kr hb66 kr (fun _ _=>rfl) (z8 _ _ ac bd a2 c2 h108) ?_)
     intro v136 a H9 J8 hE hp hS
     replace hO:=hO.m2 hE
     replace h107:=h107.m1 hE
     replace h108:=h108.m1 hE
     replace h112:=h112.m2 hE
     obtain ⟨wN,hr⟩:∃ r,aX ac bd=r:=⟨_,rfl⟩
     replace hm:=hm wN hr
     rw [hr] at hp
     clear hr
     subst hp
     refine oPe T hS 2 [15,16,17] [(19,B (decide (wN < 0)))] fun a hS=>?_
     rcases bft (decide (wN < 0)) with hb | hb
     ·replace hS:=hS.lit (t:=19) kr hb
      replace hm:=hm.1 hb
      refine oPe T hS 2 [] [(20,Sl a1 l_ c1),(21,I bd)] fun a hS=>?_
      obtain ⟨hq,hm⟩:=hm
      refine op1 (index (e:=102) (k:=.i64) T hS kr kr kr kr h107 kr kr hq.1 hq.2 ?_)
      intro Ht a h141 hS
      refine op1 (e9 (off:=3) (fsz:=1) (ft:=3) (TF:=tI) (y:=(gi l_ bd).End) T hS kr kr kr h141 kr kr kr (fun cs h=>kO h) ?_)
      intro NG a h143 hS
      refine op1 (dU T hS kr kr kr h143 rfl kr ?_)
      intro v144 a hv hS
      cases hv
      refine ePe T hS [19,20,21,22,23,24] [(28,B ((((gi l_ bd).End) == (-1)) == pending))] fun a hS=>?_
      exact ⟨Z,_,cH,((((gi l_ bd).End) == (-1)) == pending),fH,fG,hm,hS.sl _,hO,h107,h108,h112⟩
     replace hS:=hS.lit (t:=19) kr hb
     replace hm:=hm.2 hb
     refine ePe T hS [19] [(28,B false)] fun a hS=>?_
     exact ⟨Z,_,cH,false,fH,fG,hm,hS.sl _,hO,h107,h108,h112⟩
    rintro a zl ⟨Z,ua,aW,k4,oY,oW,hm,hS,hO,h120,h121,h125⟩
    unfold VC38_J3 at hm
    refine aG hS (b:=k4) kr (fun hb=>?_) fun hb=>?_
    ·replace hm:=hm.1 hb
     refine region ?_
     refine oPe T hS 2 [28] [(29,Sl oY aW oW),(30,I bd)] fun a hS=>?_
     refine op1 (lit (E:=3) (col:=0) (T:=tI) (vals:=[.int .i64 bd]) (ys:=[bd]) T hS kr kr kr kr (by exact ⟨rfl,trivial⟩) rfl kr kr kr kr ?_)
     intro b127 a ru rI hE h130 hN hS
     clear hN
     replace hO:=hO.m2 hE
     replace h120:=h120.m1 hE
     replace h121:=h121.m1 hE
     replace h125:=h125.m2 hE
     replace h130:=h130.rs0
     obtain ⟨hq,hm⟩:=hm
     obtain ⟨news,hN⟩:=h130.src
     refine op1 (append (E:=3) (T:=tI) (col:=1007) (xs:=aW) T hS kr kr kr kr h125 hN kr kr kr kr hq ?_)
     intro rd rb a p4 pH hE h133 hS
     clear hq hN
     clear h125
     replace hO:=hO.m2 hE
     replace h120:=h120.m1 hE
     replace h121:=h121.m1 hE
     replace h130:=h130.m1 hE
     refine ePe T hS [30,31,32] [(7,Sl rd (aW++[bd]) rb)] fun a hS=>?_
     exact ⟨Z,_,aW++[bd],rd,rb,hm,hS.sl _,hO,h120,h121,h133⟩
    replace hm:=hm.2 hb
    refine aH ?_
    exact ⟨Z,_,aW,oY,oW,hm,hS.sl _,hO,h120,h121,h125⟩
   rintro a zk ⟨Z,Hp,aU,lw,lm,hm,hS,hO,h114,h115,h119⟩
   unfold VC38_J2 at hm
   refine region (ePe T hS [] [(8,I (wR (bd+1)))] fun a hS=>?_)
   exact ⟨⟨aU,wR (bd+1)⟩,⟨Z,_,lw,lm,hm.1,hS.sl _,hO,h114,h115,h119⟩,hm.2⟩
  replace hm:=hm.2 hb
  refine cb (by rfl) ?_
  exact ⟨Z,_,cH,fH,fG,hm,hS.sl _,hO,h112⟩
 rintro a DF ⟨Z,J6,bD,dq,dl,hm,hS,hO,h104⟩
 unfold VC38_J1 at hm
 refine rPe T hS [7] [(6,Sl dq bD dl)] fun a hS=>?_
 refine aY ?_
 obtain ⟨o1,hE,hF⟩:=h104.freeze (by decide)
 replace hS:=hS.ev hE (cr kr)
 replace hO:=hO.m2 hE
 have h106:=hF; clear hE hF
 exact fin T hS hO (fun c=>c) rfl (r:=[.slice dq bD.length dl]) kr (fun X' hM hC=>⟨bD,hm,dq,dl,rfl,h106.m0 hM⟩)
theorem C38 (z8:S66) (v:∀ (l_:List ab) (ac:List aa) (pending:Bool),rZ l_ ac pending->VC38 l_ ac pending (fun r=>r=eL l_ ac pending)):S38:=by
 intro w X l_ ac pending a1 c1 a2 c2   hp h1 h2
 refine (W38 z8 w X l_ ac pending a1 c1 a2 c2   _ (v l_ ac pending hp) h1 h2).mono ?_
 rintro _ _ _ _ ⟨r,rfl,h⟩
 exact h
theorem W114 (w0) (X0) (i_:Int) (am:List Bool) (a1) (c1) (b1) (i1) (Q:Bool->Prop) (hm:VC114 i_ am Q) (h1:RS dL w0 X0 a1 am c1) (fw:Cell w0 X0 b1 i1 158 [.slice a1 am.length c1]) (hA:dW [i1]) :
  Ret Tryz.prog 114 #[.int .i64 i_,.pointer (some ⟨b1,0,none⟩)] (pR [i1]) w0 X0 (fun w X' v=>∃ r,Q r/\v=.bool r/\Cell w X' b1 i1 158 [.slice a1 am.length c1]):=by
 unfold VC114 at hm
 replace hm:=hm (h1.sm kr)
 refine fM Tryz.func114 rfl (dH [(i1,901)]) (fun id=>(bif Nat.beq id 901 then b1 else 0)) (args:=[I i_,Pt 901 0]) (bxs:=[(901,(158,[Sl a1 am c1]))]) kr rfl (bn.cons kr (fw.map (bM 0 hA.1 rfl)) bn.nil) (fA (fun q hq=>(hA.2 q.1 (List.mem_map.2 ⟨q,hq,rfl⟩)).1)) ?_
 intro a hS hO hM
 have hP:Pin [(901,b1)] (fun id=>(bif Nat.beq id 901 then b1 else 0)):=by intro q hq; simp at hq; rcases hq with rfl <;> rfl
 generalize (fun id=>(bif Nat.beq id 901 then b1 else 0))=Z at hS hP
 clear fw
 replace h1:=h1.m0 hM
 refine rPe T hS [] [] fun a hS=>?_
 refine bj ?_
 refine oPe T hS 5 [] [(8,B (decide (i_ < (lN am))))] fun a hS=>?_
 rcases bft (decide (i_ < (lN am))) with hb | hb
 ·replace hS:=hS.lit (t:=8) kr hb
  replace hm:=hm.1 hb
  refine oPe T hS 2 [0,1] [(9,Sl a1 am c1),(10,I i_)] fun a hS=>?_
  obtain ⟨hq,hm⟩:=hm
  refine op1 (index (e:=4) (k:=.i64) T hS kr kr kr kr h1 kr kr hq.1 hq.2 ?_)
  intro Kl a h102 hS
  refine op1 (dU T hS kr kr kr h102 rfl kr ?_)
  intro v103 a hv hS
  cases hv
  refine ePe T hS [8,9,10,11,12] [(3,B (gi am i_))] fun a hS=>?_
  refine aY ?_
  exact gG T hS hO (fun c h=>bW kr h) (fun c h=>bX (l:=[(i1,901)]) h) (bR [(i1,901)]) rfl (r:=[.bool (gi am i_)]) kr (fun X' hM hC=>⟨(gi am i_),hm,rfl,((hS.cell (id:=901) (t:=158) (cs:=[Sl a1 am c1]) kr).out (f:=(bR [(i1,901)])) hC kr kr (hP.at 0 rfl))⟩)
 replace hS:=hS.lit (t:=8) kr hb
 replace hm:=hm.2 hb
 refine ePe T hS [0,1,8] [(3,B false)] fun a hS=>?_
 refine aY ?_
 exact gG T hS hO (fun c h=>bW kr h) (fun c h=>bX (l:=[(i1,901)]) h) (bR [(i1,901)]) rfl (r:=[.bool false]) kr (fun X' hM hC=>⟨false,hm,rfl,((hS.cell (id:=901) (t:=158) (cs:=[Sl a1 am c1]) kr).out (f:=(bR [(i1,901)])) hC kr kr (hP.at 0 rfl))⟩)
theorem C114 (v:∀ (i_:Int) (am:List Bool),uQ i_ am->VC114 i_ am (fun r=>r=fe i_ am)):S114:=by
 intro w X i_ am a1 c1  b1 i1 hp h1 fw hA
 refine (W114 w X i_ am a1 c1  b1 i1 _ (v i_ am hp) h1 fw hA).mono ?_
 rintro _ _ _ _ ⟨r,rfl,h⟩
 exact h
theorem W112 (Ea:S114) (xf:S63) (w0) (X0) (l_:List ab) (done:List Bool) (a1) (c1) (a2) (c2) (Q:(List Int)->Prop) (hm:VC112 l_ done Q) (h1:RS ao w0 X0 a1 l_ c1) (h2:RS dL w0 X0 a2 done c2) :
  Ret Tryz.prog 112 #[.slice a1 l_.length c1,.slice a2 done.length c2] aJ w0 X0 (fun w X' v=>∃ r,Q r/\∃ cn cm,v=.slice cn r.length cm/\RS tI w X' cn r cm):=by
 unfold VC112 at hm
 replace hm:=hm (h1.sm kr)
 replace hm:=hm (h2.sm kr)
 refine enter Tryz.func112 rfl (vals:=[.slice a1 l_.length c1,.slice a2 done.length c2]) kr ?_
 intro Z a hS hO hM
 replace h1:=h1.m0 hM
 replace h2:=h2.m0 hM
 refine rM T hS ⟨[(0,Sl a1 l_ c1),(3,Pt 4 0)],[(4,(158,[Sl a2 done c2]))]⟩ fun Z a KU Nn hS hE hr=>?_
 replace hO:=hO.m2 hE
 replace h1:=h1.m1 hE
 replace h2:=h2.m1 hE
 clear hE hr
 refine rPe T hS [3] [(5,.f (.func 114) [] [.p 4 0])] fun a hS=>?_
 refine rPe T hS [] [(6,V (.slice none 0 0))] fun a hS=>?_
 refine bT (fun a w=>∃ (Z:Nat->Nat) (X:Nat->Nat) (bD:List Int) (dq:Option Addr) (dl:Nat),VC112_J1 Q bD/\St Tryz.f112.ntmps ⟨[(6,Sl dq bD dl)],[]⟩ Z a w X/\Old w0 X0 w X/\OS tI 3 w X 1005 dq bD dl) ?_ ?_
 ·refine rPe T hS [] [(13,Sl a1 l_ c1),(14,I (lN l_)),(15,I 0)] fun a hS=>?_
  refine aL ?_
  obtain ⟨I1,μ1,co,hm⟩:=hm
  refine cl (σ:=(List Int) × Int) (fun s a w=>∃ Z X ci ce,I1 s.1 s.2/\St Tryz.f112.ntmps ⟨[(0,Sl a1 l_ c1),(5,.f (.func 114) [] [.p 4 0]),(6,Sl ci s.1 ce),(13,Sl a1 l_ c1),(14,I (lN l_)),(15,I s.2)],[(4,(158,[Sl a2 done c2]))]⟩ Z a w X/\Old w0 X0 w X/\RS ao w X a1 l_ c1/\OS tI 3 w X 1005 ci s.1 ce/\RS ao w X a1 l_ c1/\RS dL w X a2 done c2) (fun s=>μ1 s.1 s.2) (⟨[],0⟩) ?_ ?_
  ·exact ⟨Z,_,none,0,co,hS.sl _,hO,h1,(OS.nil _ _ _ _ _),h1,h2⟩
  rintro ⟨di,bd⟩ a HV ⟨Z,Np,ci,ce,hI,hS,hO,h107,h111,h112,h114⟩
  replace hm:=hm di bd hI
  clear hI co
  refine rPe T hS [] [(16,B (decide (bd < (lN l_))))] fun a hS=>?_
  refine bc ?_
  refine aG hS (b:=decide (bd < (lN l_))) kr (fun hb=>?_) fun hb=>?_
  ·replace hm:=hm.1 hb
   refine aH ?_
   refine bT (fun a w=>∃ (Z:Nat->Nat) (X:Nat->Nat) (aU:List Int) (lw:Option Addr) (lm:Nat),VC112_J2 I1 μ1 di bd aU/\St Tryz.f112.ntmps ⟨[(0,Sl a1 l_ c1),(5,.f (.func 114) [] [.p 4 0]),(6,Sl lw aU lm),(13,Sl a1 l_ c1),(14,I (lN l_)),(15,I bd)],[(4,(158,[Sl a2 done c2]))]⟩ Z a w X/\Old w0 X0 w X/\RS ao w X a1 l_ c1/\OS tI 3 w X 1005 lw aU lm/\RS ao w X a1 l_ c1/\RS dL w X a2 done c2) ?_ ?_
   ·refine aL ?_
    refine bj ?_
    refine oPe T hS 1 [16] [(17,I bd)] fun a hS=>?_
    obtain ⟨hq,hm⟩:=hm
    refine op1 (index (e:=102) (k:=.i64) T hS kr kr kr kr h112 kr kr hq.1 hq.2 ?_)
    intro AP a h123 hS
    refine op1 (eC T hS kr kr kr h123 kr kr ?_)
    intro v124 a hv hS
    subst hv
    refine eM T hS ⟨[(0,Sl a1 l_ c1),(5,.f (.func 114) [] [.p 4 0]),(6,Sl ci di ce),(7,I bd),(8,Pt 9 0),(13,Sl a1 l_ c1),(14,I (lN l_)),(15,I bd)],[(4,(158,[Sl a2 done c2])),(9,(102,(cP (gi l_ bd))))]⟩ fun Z a F2 J0 hS hE hr=>?_
    replace hO:=hO.m2 hE
    replace h107:=h107.m1 hE
    replace h111:=h111.m2 hE
    replace h112:=h112.m1 hE
    replace h114:=h114.m1 hE
    clear hE hr
    refine bj ?_
    refine oPe T hS 2 [] [(20,.f (.func 114) [] [.p 4 0]),(21,I bd)] fun a hS=>?_
    obtain ⟨hq,hm⟩:=hm
    refine op1 (kd (fi:=[]) (cp:=[.p 4 0]) hS kr kr hb114 kr kr (Ea _ _ bd done a2 c2 (Z 4) 4 hq h114 (hS.cell (id:=4) (t:=158) (cs:=[Sl a2 done c2]) kr) ⟨by decide,by decide⟩) ?_)
    intro v125 a rx oZ hE hp hS
    replace hO:=hO.m2 hE
    replace h107:=h107.m1 hE
    replace h111:=h111.m2 hE
    replace h112:=h112.m1 hE
    replace h114:=h114.m1 hE
    obtain ⟨hp,ve⟩:=hp
    obtain ⟨bI,hr⟩:∃ r,fe bd done=r:=⟨_,rfl⟩
    replace hm:=hm bI hr
    rw [hr] at hp
    clear hr
    subst hp
    replace hS:=hS.cD (id:=4) (t:=158) (cs:=[Sl a2 done c2]) kr ve
    clear ve
    refine ePe T hS [20,21,22] [(9,B (!bI))] fun a hS=>?_
    refine bT (fun a w=>∃ (Z:Nat->Nat) (X:Nat->Nat) (fW:List Int) (f8:Bool) (gK:Option Addr) (gJ:Nat),VC112_J3 I1 μ1 di bd fW f8/\St Tryz.f112.ntmps ⟨[(0,Sl a1 l_ c1),(5,.f (.func 114) [] [.p 4 0]),(6,Sl gK fW gJ),(7,I bd),(9,B f8),(13,Sl a1 l_ c1),(14,I (lN l_)),(15,I bd)],[(4,(158,[Sl a2 done c2]))]⟩ Z a w X/\Old w0 X0 w X/\RS ao w X a1 l_ c1/\OS tI 3 w X 1005 gK fW gJ/\RS ao w X a1 l_ c1/\RS dL w X a2 done c2) ?_ ?_
    ·refine rPe T hS [] [(24,Sl a1 l_ c1),(25,I (lN l_)),(26,I 0)] fun a hS=>?_
     refine aL ?_
     obtain ⟨I2,μ2,co,hm⟩:=hm
     refine cl (σ:=(List Int) × Bool × Int) (fun s a w=>∃ Z X kC kA,I2 s.1 s.2.1 s.2.2/\St Tryz.f112.ntmps ⟨[(0,Sl a1 l_ c1),(5,.f (.func 114) [] [.p 4 0]),(6,Sl kC s.1 kA),(7,I bd),(8,Pt 9 0),(9,B s.2.1),(13,Sl a1 l_ c1),(14,I (lN l_)),(15,I bd),(24,Sl a1 l_ c1),(25,I (lN l_)),(26,I s.2.2)],[(4,(158,[Sl a2 done c2])),(9,(102,(cP (gi l_ bd))))]⟩ Z a w X/\Old w0 X0 w X/\RS ao w X a1 l_ c1/\OS tI 3 w X 1005 kC s.1 kA/\RS ao w X a1 l_ c1/\RS ao w X a1 l_ c1/\RS dL w X a2 done c2) (fun s=>μ2 s.1 s.2.1 s.2.2) (⟨di,(!bI),0⟩) ?_ ?_
     ·exact ⟨Z,_,ci,ce,co,hS.sl _,hO,h107,h111,h112,h107,h114⟩
     rintro ⟨mB,jh,jv⟩ a HW ⟨Z,Hi,kC,kA,hI,hS,hO,h147,h151,h153,h154,h156⟩
     replace hm:=hm mB jh jv hI
     clear hI co
     refine rPe T hS [] [(27,B (decide (jv < (lN l_))))] fun a hS=>?_
     refine bc ?_
     refine aG hS (b:=decide (jv < (lN l_))) kr (fun hb=>?_) fun hb=>?_
     ·replace hm:=hm.1 hb
      refine aH ?_
      refine bT (fun a w=>∃ (Z:Nat->Nat) (X:Nat->Nat) (A6:List Int) (rp:Bool) (EO:Option Addr) (EC:Nat),VC112_J4 I2 μ2 mB jh jv A6 rp/\St Tryz.f112.ntmps ⟨[(0,Sl a1 l_ c1),(5,.f (.func 114) [] [.p 4 0]),(6,Sl EO A6 EC),(7,I bd),(8,Pt 9 0),(9,B rp),(13,Sl a1 l_ c1),(14,I (lN l_)),(15,I bd),(24,Sl a1 l_ c1),(25,I (lN l_)),(26,I jv)],[(4,(158,[Sl a2 done c2])),(9,(102,(cP (gi l_ bd))))]⟩ Z a w X/\Old w0 X0 w X/\RS ao w X a1 l_ c1/\OS tI 3 w X 1005 EO A6 EC/\RS ao w X a1 l_ c1/\RS ao w X a1 l_ c1/\RS dL w X a2 done c2) ?_ ?_
      ·refine aL ?_
       refine bj ?_
       refine oPe T hS 1 [27] [(28,I jv)] fun a hS=>?_
       obtain ⟨hq,hm⟩:=hm
       refine op1 (index (e:=102) (k:=.i64) T hS kr kr kr kr h154 kr kr hq.1 hq.2 ?_)
       intro RO a h167 hS
       refine op1 (eC T hS kr kr kr h167 kr kr ?_)
       intro v168 a hv hS
       subst hv
       refine eM T hS ⟨[(0,Sl a1 l_ c1),(5,.f (.func 114) [] [.p 4 0]),(6,Sl kC mB kA),(7,I bd),(8,Pt 9 0),(9,B jh),(10,I jv),(11,Pt 12 0),(13,Sl a1 l_ c1),(14,I (lN l_)),(15,I bd),(24,Sl a1 l_ c1),(25,I (lN l_)),(26,I jv)],[(4,(158,[Sl a2 done c2])),(9,(102,(cP (gi l_ bd)))),(12,(102,(cP (gi l_ jv))))]⟩ fun Z a A8 Dd hS hE hr=>?_
       replace hO:=hO.m2 hE
       replace h147:=h147.m1 hE
       replace h151:=h151.m2 hE
       replace h153:=h153.m1 hE
       replace h154:=h154.m1 hE
       replace h156:=h156.m1 hE
       clear hE hr
       refine region ?_
       refine oPe T hS 2 [] [(32,B jh)] fun a hS=>?_
       rcases bft jh with hb | hb
       ·replace hS:=hS.lit (t:=32) kr hb
        replace hm:=hm.1 hb
        refine oPe T hS 2 [10] [(33,.f (.func 114) [] [.p 4 0]),(34,I jv)] fun a hS=>?_
        obtain ⟨hq,hm⟩:=hm
        refine op1 (kd (fi:=[]) (cp:=[.p 4 0]) hS kr kr hb114 kr kr (Ea _ _ jv done a2 c2 (Z 4) 4 hq h156 (hS.cell (id:=4) (t:=158) (cs:=[Sl a2 done c2]) kr) ⟨by decide,by decide⟩) ?_)
        intro v169 a K0 Nv hE hp hS
        replace hO:=hO.m2 hE
        replace h147:=h147.m1 hE
        replace h151:=h151.m2 hE
        replace h153:=h153.m1 hE
        replace h154:=h154.m1 hE
        replace h156:=h156.m1 hE
        obtain ⟨hp,Fr⟩:=hp
        obtain ⟨wM,hr⟩:∃ r,fe jv done=r:=⟨_,rfl⟩
        replace hm:=hm wM hr
        rw [hr] at hp
        clear hr
        subst hp
        replace hS:=hS.cD (id:=4) (t:=158) (cs:=[Sl a2 done c2]) kr Fr
        clear Fr
        refine oPe T hS 1 [33,34,35] [(36,B wM)] fun a hS=>?_
        rcases bft wM with hb | hb
        ·replace hS:=hS.lit (t:=36) kr hb
         replace hm:=hm.1 hb
         refine eP T hS ⟨[(0,Sl a1 l_ c1),(5,.f (.func 114) [] [.p 4 0]),(6,Sl kC mB kA),(7,I bd),(8,Pt 9 0),(9,B true),(13,Sl a1 l_ c1),(14,I (lN l_)),(15,I bd),(24,Sl a1 l_ c1),(25,I (lN l_)),(26,I jv)],[(4,(158,[Sl a2 done c2])),(9,(102,(cP (gi l_ bd))))]⟩ fun a hS=>?_
         exact ⟨Z,_,mB,true,kC,kA,hm,hS.sl _,hO,h147,h151,h153,h154,h156⟩
        replace hS:=hS.lit (t:=36) kr hb
        replace hm:=hm.2 hb
        refine oP T hS 2 ⟨[(0,Sl a1 l_ c1),(5,.f (.func 114) [] [.p 4 0]),(6,Sl kC mB kA),(7,I bd),(8,Pt 9 0),(9,B jh),(13,Sl a1 l_ c1),(14,I (lN l_)),(15,I bd),(24,Sl a1 l_ c1),(25,I (lN l_)),(26,I jv),(32,B true),(36,B false),(37,V (.agg #[.int .i64 ((gi l_ jv).aj),.int .i64 ((gi l_ jv).Kind),.int .i64 ((gi l_ jv).aE),.int .i64 ((gi l_ jv).End),.int .i64 ((gi l_ jv).Result)])),(38,V (.agg #[.int .i64 ((gi l_ bd).aj),.int .i64 ((gi l_ bd).Kind),.int .i64 ((gi l_ bd).aE),.int .i64 ((gi l_ bd).End),.int .i64 ((gi l_ bd).Result)]))],[(4,(158,[Sl a2 done c2])),(9,(102,(cP (gi l_ bd))))]⟩ fun a hS=>?_
        refine op1 (call hS kr kr hb63 kr (fun _ _=>rfl) (xf _ _ (gi l_ jv) (gi l_ bd)) ?_)
        intro v174 a F3 ER hE hp hS
        replace hO:=hO.m2 hE
        replace h147:=h147.m1 hE
        replace h151:=h151.m2 hE
        replace h153:=h153.m1 hE
        replace h154:=h154.m1 hE
        replace h156:=h156.m1 hE
        obtain ⟨zH,hr⟩:∃ r,aZ (gi l_ jv) (gi l_ bd)=r:=⟨_,rfl⟩
        replace hm:=hm zH hr
        rw [hr] at hp
        clear hr
        subst hp
        refine ePe T hS [32,36,37,38,39] [(9,B (!zH))] fun a hS=>?_
        exact ⟨Z,_,mB,(!zH),kC,kA,hm,hS.sl _,hO,h147,h151,h153,h154,h156⟩
       replace hS:=hS.lit (t:=32) kr hb
       replace hm:=hm.2 hb
       refine eP T hS ⟨[(0,Sl a1 l_ c1),(5,.f (.func 114) [] [.p 4 0]),(6,Sl kC mB kA),(7,I bd),(8,Pt 9 0),(9,B false),(13,Sl a1 l_ c1),(14,I (lN l_)),(15,I bd),(24,Sl a1 l_ c1),(25,I (lN l_)),(26,I jv)],[(4,(158,[Sl a2 done c2])),(9,(102,(cP (gi l_ bd))))]⟩ fun a hS=>?_
       exact ⟨Z,_,mB,false,kC,kA,hm,hS.sl _,hO,h147,h151,h153,h154,h156⟩
      rintro a HX ⟨Z,Ns,A6,rp,EO,EC,hm,hS,hO,h157,h161,h163,h164,h165⟩
      unfold VC112_J4 at hm
      refine region (ePe T hS [] [(26,I (wR (jv+1)))] fun a hS=>?_)
      exact ⟨⟨A6,rp,wR (jv+1)⟩,⟨Z,_,EO,EC,hm.1,hS.sl _,hO,h157,h161,h163,h164,h165⟩,hm.2⟩
     replace hm:=hm.2 hb
     refine cb (by rfl) ?_
     exact ⟨Z,_,mB,jh,kC,kA,hm,hS.sl _,hO,h147,h151,h153,h156⟩
    rintro a KX ⟨Z,Nr,fW,f8,gK,gJ,hm,hS,hO,h130,h134,h136,h137⟩
    unfold VC112_J3 at hm
    refine rPe T hS [9] [(44,B f8)] fun a hS=>?_
    refine aG hS (b:=f8) kr (fun hb=>?_) fun hb=>?_
    ·replace hm:=hm.1 hb
     refine region ?_
     refine oPe T hS 2 [7,44] [(45,Sl gK fW gJ),(46,I bd)] fun a hS=>?_
     refine op1 (lit (E:=3) (col:=0) (T:=tI) (vals:=[.int .i64 bd]) (ys:=[bd]) T hS kr kr kr kr (by exact ⟨rfl,trivial⟩) rfl kr kr kr kr ?_)
     intro b138 a rt uc hE h141 hN hS
     clear hN
     replace hO:=hO.m2 hE
     replace h130:=h130.m1 hE
     replace h134:=h134.m2 hE
     replace h136:=h136.m1 hE
     replace h137:=h137.m1 hE
     replace h141:=h141.rs0
     obtain ⟨hq,hm⟩:=hm
     obtain ⟨news,hN⟩:=h141.src
     refine op1 (append (E:=3) (T:=tI) (col:=1005) (xs:=fW) T hS kr kr kr kr h134 hN kr kr kr kr hq ?_)
     intro v2 vP a pm rk hE h144 hS
     clear hq hN
     clear h134
     replace hO:=hO.m2 hE
     replace h130:=h130.m1 hE
     replace h136:=h136.m1 hE
     replace h137:=h137.m1 hE
     replace h141:=h141.m1 hE
     refine ePe T hS [46,47,48] [(6,Sl v2 (fW++[bd]) vP)] fun a hS=>?_
     exact ⟨Z,_,fW++[bd],v2,vP,hm,hS.sl _,hO,h130,h144,h136,h137⟩
    replace hm:=hm.2 hb
    refine aH ?_
    exact ⟨Z,_,fW,gK,gJ,hm,hS.sl _,hO,h130,h134,h136,h137⟩
   rintro a KW ⟨Z,JZ,aU,lw,lm,hm,hS,hO,h115,h119,h120,h121⟩
   unfold VC112_J2 at hm
   refine region (ePe T hS [] [(15,I (wR (bd+1)))] fun a hS=>?_)
   exact ⟨⟨aU,wR (bd+1)⟩,⟨Z,_,lw,lm,hm.1,hS.sl _,hO,h115,h119,h120,h121⟩,hm.2⟩
  replace hm:=hm.2 hb
  refine cb (by rfl) ?_
  exact ⟨Z,_,di,ci,ce,hm,hS.sl _,hO,h111⟩
 rintro a KV ⟨Z,JY,bD,dq,dl,hm,hS,hO,h104⟩
 unfold VC112_J1 at hm
 refine rPe T hS [6] [(4,Sl dq bD dl)] fun a hS=>?_
 refine aY ?_
 obtain ⟨o1,hE,hF⟩:=h104.freeze (by decide)
 replace hS:=hS.ev hE (cr kr)
 replace hO:=hO.m2 hE
 have h106:=hF; clear hE hF
 exact fin T hS hO (fun c=>c) rfl (r:=[.slice dq bD.length dl]) kr (fun X' hM hC=>⟨bD,hm,dq,dl,rfl,h106.m0 hM⟩)
theorem C112 (Ea:S114) (xf:S63) (v:∀ (l_:List ab) (done:List Bool),yi l_ done->VC112 l_ done (fun r=>r=eW l_ done)):S112:=by
 intro w X l_ done a1 c1 a2 c2   hp h1 h2
 refine (W112 Ea xf w X l_ done a1 c1 a2 c2   _ (v l_ done hp) h1 h2).mono ?_
 rintro _ _ _ _ ⟨r,rfl,h⟩
 exact h
theorem W105 (qO:S103) (GH:S112) (tH:S53) (w0) (X0) (o_:ae) (l_:List ab) (state:Int) (done:List Bool) (a1) (c1) (a2) (c2) (a3) (c3) (cG) (Q:(List aa)->Prop) (hm:VC105 o_ l_ state done Q) (h1:RS ay w0 X0 a1 o_.Rows c1) (h2:RS ao w0 X0 a2 l_ c2) (h3:RS dL w0 X0 a3 done c3) :
  Ret Tryz.prog 105 #[.agg #[.int .i64 o_.ar,.int .i64 o_.aw,.int .i64 o_.aC,.slice a1 o_.Rows.length c1],.slice a2 l_.length c2,.int .i64 state,.slice a3 done.length c3] aJ w0 X0 (fun w X' v=>∃ r,Q r/\∃ cn cm,v=.slice cn r.length cm/\OS aq 56 w X' cG cn r cm):=by
 unfold VC105 at hm
 replace hm:=hm (h1.sm kr)
 replace hm:=hm (h2.sm kr)
 replace hm:=hm (h3.sm kr)
 refine enter Tryz.func105 rfl (vals:=[.agg #[.int .i64 o_.ar,.int .i64 o_.aw,.int .i64 o_.aC,.slice a1 o_.Rows.length c1],.slice a2 l_.length c2,.int .i64 state,.slice a3 done.length c3]) kr ?_
 intro Z a hS hO hM
 replace h1:=h1.m0 hM
 replace h2:=h2.m0 hM
 replace h3:=h3.m0 hM
 refine rM T hS ⟨[(1,Sl a2 l_ c2),(2,I state),(3,Sl a3 done c3),(4,Pt 5 0)],[(5,(48,(cO o_ a1 c1)))]⟩ fun Z a HY J1 hS hE hr=>?_
 replace hO:=hO.m2 hE
 replace h1:=h1.m1 hE
 replace h2:=h2.m1 hE
 replace h3:=h3.m1 hE
 clear hE hr
 refine bc ?_
 refine bj ?_
 refine oPe T hS 1 [] [(18,V (.agg #[.int .i64 o_.ar,.int .i64 o_.aw,.int .i64 o_.aC,.slice a1 o_.Rows.length c1]))] fun a hS=>?_
 obtain ⟨hq,hm⟩:=hm
 refine op1 (call hS kr kr hb53 kr (fun _ _=>rfl) (tH _ _ o_ a1 c1 hq h1) ?_)
 intro v101 a eZ fa hE hp hS
 replace hO:=hO.m2 hE
 replace h1:=h1.m1 hE
 replace h2:=h2.m1 hE
 replace h3:=h3.m1 hE
 obtain ⟨ap,hr⟩:∃ r,bp o_=r:=⟨_,rfl⟩
 replace hm:=hm ap hr
 rw [hr] at hp
 clear hr
 subst hp
 refine ePe T hS [18,19] [(10,I ap.2)] fun a hS=>?_
 refine rPe T hS [10] [(23,B (ap.2 != 0))] fun a hS=>?_
 refine aG hS (b:=(ap.2 != 0)) kr (fun hb=>?_) fun hb=>?_
 ·replace hm:=hm.1 hb
  refine rP T hS ⟨[(8,V (.slice none 0 0))],[]⟩ fun a hS=>?_
  refine aY ?_
  exact fin T hS hO (fun c=>c) rfl (r:=[.slice none 0 0]) kr (fun X' hM hC=>⟨[],hm,none,0,rfl,OS.nil _ _ _ _ _⟩)
 replace hm:=hm.2 hb
 refine aH ?_
 refine rPe T hS [23] [(11,V (.slice none 0 0))] fun a hS=>?_
 refine bT (fun a w=>∃ (Z:Nat->Nat) (X:Nat->Nat) (eY:List aa) (gA:Option Addr) (gy:Nat),VC105_J1 Q eY/\St Tryz.f105.ntmps ⟨[(11,Sl gA eY gy)],[]⟩ Z a w X/\Old w0 X0 w X/\OS aq 56 w X 1009 gA eY gy) ?_ ?_
 ·refine bj ?_
  refine oPe T hS 2 [3] [(24,Sl a2 l_ c2),(25,Sl a3 done c3)] fun a hS=>?_
  obtain ⟨hq,hm⟩:=hm
  refine op1 (call hS kr kr hb112 kr (fun _ _=>rfl) (GH _ _ l_ done a2 c2 a3 c3 hq h2 h3) ?_)
  intro v109 a DL EX hE hp hS
  replace hO:=hO.m2 hE
  replace h1:=h1.m1 hE
  replace h2:=h2.m1 hE
  replace h3:=h3.m1 hE
  obtain ⟨hG,g9,hp,h115⟩:=hp
  obtain ⟨bv,hr⟩:∃ r,eW l_ done=r:=⟨_,rfl⟩
  replace hm:=hm bv hr
  rw [hr] at hp h115
  clear hr
  subst hp
  replace hm:=hm (h115.sm kr)
  refine ePe T hS [24,25] [(27,I (lN bv)),(28,I 0)] fun a hS=>?_
  refine aL ?_
  obtain ⟨I1,μ1,co,hm⟩:=hm
  refine cl (σ:=(List aa) × Int) (fun s a w=>∃ Z X gT gS,I1 s.1 s.2/\St Tryz.f105.ntmps ⟨[(1,Sl a2 l_ c2),(2,I state),(4,Pt 5 0),(11,Sl gT s.1 gS),(26,Sl hG bv g9),(27,I (lN bv)),(28,I s.2)],[(5,(48,(cO o_ a1 c1)))]⟩ Z a w X/\Old w0 X0 w X/\RS ao w X a2 l_ c2/\OS aq 56 w X 1009 gT s.1 gS/\RS tI w X hG bv g9/\RS ay w X a1 o_.Rows c1) (fun s=>μ1 s.1 s.2) (⟨[],0⟩) ?_ ?_
  ·exact ⟨Z,_,none,0,co,hS.sl _,hO,h2,(OS.nil _ _ _ _ _),h115,h1⟩
  rintro ⟨c8,aW⟩ a HZ ⟨Z,ER,gT,gS,hI,hS,hO,h116,h120,h121,h123⟩
  replace hm:=hm c8 aW hI
  clear hI co
  refine rPe T hS [] [(29,B (decide (aW < (lN bv))))] fun a hS=>?_
  refine bc ?_
  refine aG hS (b:=decide (aW < (lN bv))) kr (fun hb=>?_) fun hb=>?_
  ·replace hm:=hm.1 hb
   refine aH ?_
   refine bT (fun a w=>∃ (Z:Nat->Nat) (X:Nat->Nat) (l7:List aa) (oz:Option Addr) (oo:Nat),VC105_J2 I1 μ1 c8 aW l7/\St Tryz.f105.ntmps ⟨[(1,Sl a2 l_ c2),(2,I state),(4,Pt 5 0),(11,Sl oz l7 oo),(26,Sl hG bv g9),(27,I (lN bv)),(28,I aW)],[(5,(48,(cO o_ a1 c1)))]⟩ Z a w X/\Old w0 X0 w X/\RS ao w X a2 l_ c2/\OS aq 56 w X 1009 oz l7 oo/\RS tI w X hG bv g9/\RS ay w X a1 o_.Rows c1) ?_ ?_
   ·refine aL ?_
    refine bj ?_
    obtain ⟨hq,hm⟩:=hm
    refine op1 (index (e:=3) (k:=.i64) T hS kr kr kr kr h121 kr kr hq.1 hq.2 ?_)
    intro Hw a h132 hS
    refine op1 (dU T hS kr kr kr h132 rfl kr ?_)
    intro v133 a hv hS
    cases hv
    refine ePe T hS [29,30,31] [(13,I (gi bv aW))] fun a hS=>?_
    refine dv [5] mixed hS ?_
    intro zn xD hS hE hD hH
    replace hO:=hO.m2 hE
    replace h116:=h116.m1 hE
    replace h120:=h120.m2 hE
    replace h121:=h121.m1 hE
    replace h123:=h123.m1 hE
    refine tke T [0,1,2,3] [5] hS hH #[true,true,true,true,false,false,false,false,false,false,false,false,false,false,false] 11 [] [(33,V (.agg #[.int .i64 o_.ar,.int .i64 o_.aw,.int .i64 o_.aC,.slice a1 o_.Rows.length c1])),(34,I state),(35,Sl a2 l_ c2),(36,I (gi bv aW))] fun a hS=>?_
    obtain ⟨hq,hm⟩:=hm
    refine c7 (e:=102) (k:=.i64) T 4 hS kr kr kr (by rfl) kr hH kr kr h116 kr kr hq.1 hq.2 ?_
    intro Hv a h137 hS
    have yP:=h137.here
    refine dw (off:=1) (fsz:=1) (ft:=3) (TF:=tI) (y:=(gi l_ (gi bv aW)).Kind) 5 T hS kr kr kr (by rfl) kr hH kr h137 kr kr kr (fun cs h=>kP h) ?_
    intro Hu a h139 fP hS
    have yO:=yP
    rw [← fP] at yO
    clear fP
    refine dV T 6 hS kr kr kr (by rfl) kr hH kr h139 yO rfl kr ?_
    intro v140 a hv hS
    cases hv
    refine only 7 kr (by rfl) (call hS kr kr hb103 kr (fun _ _=>rfl) (qO _ _ o_ state ((gi l_ (gi bv aW)).Kind) a1 c1 h123) ?_)
    intro v141 a pm rk hE hp hS
    replace hO:=hO.m2 hE
    replace hD:=hD.ev hE rfl
    replace h116:=h116.m1 hE
    replace h120:=h120.m2 hE
    replace h121:=h121.m1 hE
    replace h123:=h123.m1 hE
    replace h137:=h137.m1 hE
    replace h139:=h139.m1 hE
    obtain ⟨gc,hr⟩:∃ r,cu o_ state ((gi l_ (gi bv aW)).Kind)=r:=⟨_,rfl⟩
    replace hm:=hm gc hr
    rw [hr] at hp
    clear hr
    subst hp
    replace hS:=hS.sle [] [(40,V (.tuple #[.int .i64 gc.1,.int .i64 gc.2.1,.bool gc.2.2]))]
    refine cW (bH.of hS (bks:=[5]) kr hD) ?_
    intro hH
    refine tke T [8,9,10,11,12,13,14] [5] hS hH (tts 15) 0 [33,34,35,36,37,38,39,40] [(15,I gc.2.1),(16,B gc.2.2)] fun a hS=>?_
    refine aS kr ?_
    replace hS:=hS.sle [] []
    refine bT (fun a w=>∃ (Z:Nat->Nat) (X:Nat->Nat) (i5:List aa) (fQ:Bool) (ls:Option Addr) (li:Nat),VC105_J3 bv I1 μ1 c8 aW gc i5 fQ/\St Tryz.f105.ntmps ⟨[(1,Sl a2 l_ c2),(2,I state),(4,Pt 5 0),(11,Sl ls i5 li),(13,I (gi bv aW)),(15,I gc.2.1),(26,Sl hG bv g9),(27,I (lN bv)),(28,I aW),(61,B fQ)],[(5,(48,(cO o_ a1 c1)))]⟩ Z a w X/\Old w0 X0 w X/\RS ao w X a2 l_ c2/\OS aq 56 w X 1009 ls i5 li/\RS tI w X hG bv g9/\RS ay w X a1 o_.Rows c1) ?_ ?_
    ·refine region ?_
     refine oPe T hS 2 [16] [(45,B gc.2.2)] fun a hS=>?_
     rcases bft gc.2.2 with hb | hb
     ·replace hS:=hS.lit (t:=45) kr hb
      replace hm:=hm.1 hb
      refine oPe T hS 2 [] [(46,Sl a2 l_ c2),(47,I (gi bv aW))] fun a hS=>?_
      obtain ⟨hq,hm⟩:=hm
      refine op1 (index (e:=102) (k:=.i64) T hS kr kr kr kr h116 kr kr hq.1 hq.2 ?_)
      intro RP a h163 hS
      refine op1 (e9 (off:=3) (fsz:=1) (ft:=3) (TF:=tI) (y:=(gi l_ (gi bv aW)).End) T hS kr kr kr h163 kr kr kr (fun cs h=>kO h) ?_)
      intro ND a h165 hS
      refine op1 (dU T hS kr kr kr h165 rfl kr ?_)
      intro v166 a hv hS
      cases hv
      refine oPe T hS 2 [46,47,48,49,50] [(52,B (((gi l_ (gi bv aW)).End) == (-1)))] fun a hS=>?_
      rcases bft (((gi l_ (gi bv aW)).End) == (-1)) with hb | hb
      ·replace hS:=hS.lit (t:=52) kr hb
       replace hm:=hm.1 hb
       refine ePe T hS [45,52] [(61,B true)] fun a hS=>?_
       exact ⟨Z,_,c8,true,gT,gS,hm,hS.sl _,hO,h116,h120,h121,h123⟩
      replace hS:=hS.lit (t:=52) kr hb
      replace hm:=hm.2 hb
      refine oPe T hS 2 [] [(53,Sl a2 l_ c2),(54,I (gi bv aW))] fun a hS=>?_
      obtain ⟨hq,hm⟩:=hm
      refine op1 (index (e:=102) (k:=.i64) T hS kr kr kr kr h116 kr kr hq.1 hq.2 ?_)
      intro RN a h168 hS
      refine op1 (e9 (off:=4) (fsz:=1) (ft:=3) (TF:=tI) (y:=(gi l_ (gi bv aW)).Result) T hS kr kr kr h168 kr kr kr (fun cs h=>po h) ?_)
      intro RK a h170 hS
      refine op1 (dU T hS kr kr kr h170 rfl kr ?_)
      intro v171 a hv hS
      cases hv
      refine ePe T hS [45,52,53,54,55,56,57] [(61,B (((gi l_ (gi bv aW)).Result) == gc.2.1))] fun a hS=>?_
      exact ⟨Z,_,c8,(((gi l_ (gi bv aW)).Result) == gc.2.1),gT,gS,hm,hS.sl _,hO,h116,h120,h121,h123⟩
     replace hS:=hS.lit (t:=45) kr hb
     replace hm:=hm.2 hb
     refine ePe T hS [45] [(61,B false)] fun a hS=>?_
     exact ⟨Z,_,c8,false,gT,gS,hm,hS.sl _,hO,h116,h120,h121,h123⟩
    rintro a H0 ⟨Z,Hj,i5,fQ,ls,li,hm,hS,hO,h145,h149,h150,h152⟩
    unfold VC105_J3 at hm
    refine aG hS (b:=fQ) kr (fun hb=>?_) fun hb=>?_
    ·replace hm:=hm.1 hb
     refine region ?_
     refine oPe T hS 4 [13,15,61] [(62,Sl ls i5 li),(65,V (.agg #[.int .i64 (gi bv aW),.int .i64 gc.2.1]))] fun a hS=>?_
     refine op1 (lit (E:=56) (col:=0) (T:=aq) (vals:=[.agg #[.int .i64 (gi bv aW),.int .i64 gc.2.1]]) (ys:=[(⟨gi bv aW,gc.2.1⟩:aa)]) T hS kr kr kr kr (by exact ⟨rfl,trivial⟩) rfl kr kr kr kr ?_)
     intro b153 a rr t9 hE h156 hN hS
     clear hN
     replace hO:=hO.m2 hE
     replace h145:=h145.m1 hE
     replace h149:=h149.m2 hE
     replace h150:=h150.m1 hE
     replace h152:=h152.m1 hE
     replace h156:=h156.rs0
     obtain ⟨hq,hm⟩:=hm
     obtain ⟨news,hN⟩:=h156.src
     refine op1 (append (E:=56) (T:=aq) (col:=1009) (xs:=i5) T hS kr kr kr kr h149 hN kr kr kr kr hq ?_)
     intro t0 tV a sR t8 hE h159 hS
     clear hq hN
     clear h149
     replace hO:=hO.m2 hE
     replace h145:=h145.m1 hE
     replace h150:=h150.m1 hE
     replace h152:=h152.m1 hE
     replace h156:=h156.m1 hE
     refine ePe T hS [65,66,67] [(11,Sl t0 (i5++[(⟨gi bv aW,gc.2.1⟩:aa)]) tV)] fun a hS=>?_
     exact ⟨Z,_,i5++[(⟨gi bv aW,gc.2.1⟩:aa)],t0,tV,hm,hS.sl _,hO,h145,h159,h150,h152⟩
    replace hm:=hm.2 hb
    refine aH ?_
    exact ⟨Z,_,i5,ls,li,hm,hS.sl _,hO,h145,h149,h150,h152⟩
   rintro a F3 ⟨Z,Nu,l7,oz,oo,hm,hS,hO,h124,h128,h129,h130⟩
   unfold VC105_J2 at hm
   refine region (ePe T hS [] [(28,I (wR (aW+1)))] fun a hS=>?_)
   exact ⟨⟨l7,wR (aW+1)⟩,⟨Z,_,oz,oo,hm.1,hS.sl _,hO,h124,h128,h129,h130⟩,hm.2⟩
  replace hm:=hm.2 hb
  refine cb (by rfl) ?_
  exact ⟨Z,_,c8,gT,gS,hm,hS.sl _,hO,h120⟩
 rintro a KY ⟨Z,Nt,eY,gA,gy,hm,hS,hO,h108⟩
 unfold VC105_J1 at hm
 refine rPe T hS [11] [(8,Sl gA eY gy)] fun a hS=>?_
 refine aY ?_
 exact fin T hS hO (zAc0 cG) rfl (r:=[.slice gA eY.length gy]) kr (fun X' hM hC=>⟨eY,hm,gA,gy,rfl,(OS.out (f:=(zAc0 cG)) h108 hM hC kr)⟩)
theorem C105 (qO:S103) (GH:S112) (tH:S53) (v:∀ (o_:ae) (l_:List ab) (state:Int) (done:List Bool),yd o_ l_ state done->VC105 o_ l_ state done (fun r=>r=bK o_ l_ state done)):S105:=by
 intro w X o_ l_ state done a1 c1 a2 c2 a3 c3 cG  hp h1 h2 h3
 refine (W105 qO GH tH w X o_ l_ state done a1 c1 a2 c2 a3 c3 cG  _ (v o_ l_ state done hp) h1 h2 h3).mono ?_
 rintro _ _ _ _ ⟨r,rfl,h⟩
 exact h
theorem W88 (tH:S53) (Gu:S80) (w0) (X0) (o_:ae) (l_:List ab) (jC:Int) (a1) (c1) (a2) (c2) (Q:Int->Prop) (hm:VC88 o_ l_ jC Q) (h1:RS ay w0 X0 a1 o_.Rows c1) (h2:RS ao w0 X0 a2 l_ c2) :
  Ret Tryz.prog 88 #[.agg #[.int .i64 o_.ar,.int .i64 o_.aw,.int .i64 o_.aC,.slice a1 o_.Rows.length c1],.slice a2 l_.length c2,.int .i64 jC] aJ w0 X0 (fun w X' v=>∃ r,Q r/\v=.int .i64 r):=by
 unfold VC88 at hm
 replace hm:=hm (h1.sm kr)
 replace hm:=hm (h2.sm kr)
 refine enter Tryz.func88 rfl (vals:=[.agg #[.int .i64 o_.ar,.int .i64 o_.aw,.int .i64 o_.aC,.slice a1 o_.Rows.length c1],.slice a2 l_.length c2,.int .i64 jC]) kr ?_
 intro Z a hS hO hM
 replace h1:=h1.m0 hM
 replace h2:=h2.m0 hM
 refine rM T hS ⟨[(1,Sl a2 l_ c2),(2,I jC),(3,Pt 4 0)],[(4,(48,(cO o_ a1 c1)))]⟩ fun Z a ry ug hS hE hr=>?_
 replace hO:=hO.m2 hE
 replace h1:=h1.m1 hE
 replace h2:=h2.m1 hE
 clear hE hr
 refine bj ?_
 refine oP T hS 1 ⟨[(1,Sl a2 l_ c2),(2,I jC),(12,V (.agg #[.int .i64 o_.ar,.int .i64 o_.aw,.int .i64 o_.aC,.slice a1 o_.Rows.length c1]))],[]⟩ fun a hS=>?_
 obtain ⟨hq,hm⟩:=hm
 refine op1 (call hS kr kr hb53 kr (fun _ _=>rfl) (tH _ _ o_ a1 c1 hq h1) ?_)
 intro v101 a eZ fa hE hp hS
 replace hO:=hO.m2 hE
 replace h1:=h1.m1 hE
 replace h2:=h2.m1 hE
 obtain ⟨ap,hr⟩:∃ r,bp o_=r:=⟨_,rfl⟩
 replace hm:=hm ap hr
 rw [hr] at hp
 clear hr
 subst hp
 refine ePe T hS [12,13] [(8,I ap.2)] fun a hS=>?_
 refine bj ?_
 refine oPe T hS 1 [] [(17,Sl a2 l_ c2)] fun a hS=>?_
 refine op1 (call hS kr kr hb80 kr (fun _ _=>rfl) (Gu _ _ l_ a2 c2 h2) ?_)
 intro v105 a mg mc hE hp hS
 replace hO:=hO.m2 hE
 replace h2:=h2.m1 hE
 obtain ⟨aV,hr⟩:∃ r,bZ l_=r:=⟨_,rfl⟩
 replace hm:=hm aV hr
 rw [hr] at hp
 clear hr
 subst hp
 refine ePe T hS [17,18] [(10,I aV.2)] fun a hS=>?_
 refine bc ?_
 refine aL ?_
 refine rPe T hS [8,10] [(21,B ((ap.2 != 0) || (aV.2 != 0)))] (sp:=[24]) fun a hS=>?_
 refine aG hS (b:=((ap.2 != 0) || (aV.2 != 0))) kr (fun hb=>?_) fun hb=>?_
 ·replace hm:=hm.1 hb
  refine rPe T hS [1,2,21] [(6,I 2)] fun a hS=>?_
  refine aY ?_
  exact fin T hS hO (fun c=>c) rfl (r:=[.int .i64 2]) kr (fun X' hM hC=>⟨2,hm,rfl⟩)
 replace hm:=hm.2 hb
 refine rPe T hS [1,2,21] [(28,B (decide ((lN l_) > jC)))] fun a hS=>?_
 refine aG hS (b:=decide ((lN l_) > jC)) kr (fun hb=>?_) fun hb=>?_
 ·replace hm:=hm.1 hb
  refine rPe T hS [28] [(6,I 3)] fun a hS=>?_
  refine aY ?_
  exact fin T hS hO (fun c=>c) rfl (r:=[.int .i64 3]) kr (fun X' hM hC=>⟨3,hm,rfl⟩)
 replace hm:=hm.2 hb
 refine aH ?_
 refine rPe T hS [28] [(6,I 0)] fun a hS=>?_
 refine aY ?_
 exact fin T hS hO (fun c=>c) rfl (r:=[.int .i64 0]) kr (fun X' hM hC=>⟨0,hm,rfl⟩)
theorem C88 (tH:S53) (Gu:S80) (v:∀ (o_:ae) (l_:List ab) (jC:Int),yk o_ l_ jC->VC88 o_ l_ jC (fun r=>r=cy o_ l_ jC)):S88:=by
 intro w X o_ l_ jC a1 c1 a2 c2   hp h1 h2
 refine (W88 tH Gu w X o_ l_ jC a1 c1 a2 c2   _ (v o_ l_ jC hp) h1 h2).mono ?_
 rintro _ _ _ _ ⟨r,rfl,h⟩
 exact h
theorem W104 (w0) (X0) (s_:List aa) (a1) (c1) (cG) (Q:(List aa)->Prop) (hm:VC104 s_ Q) (h1:RS aq w0 X0 a1 s_ c1) :
  Ret Tryz.prog 104 #[.slice a1 s_.length c1] aJ w0 X0 (fun w X' v=>∃ r,Q r/\∃ cn cm,v=.slice cn r.length cm/\OS aq 56 w X' cG cn r cm):=by
 unfold VC104 at hm
 replace hm:=hm (h1.sm kr)
 refine enter Tryz.func104 rfl (vals:=[.slice a1 s_.length c1]) kr ?_
 intro Z a hS hO hM
 replace h1:=h1.m0 hM
 refine rPe T hS [] [] fun a hS=>?_
 refine bc ?_
 refine bj ?_
 refine oPe T hS 1 [] [(3,Sl a1 s_ c1)] fun a hS=>?_
 obtain ⟨b101,hb102⟩:∃ q:Bool,a1.isNone=q:=⟨_,rfl⟩
 replace hm:=hm b101 (h1.It hb102)
 refine op1 (FU (e:=56) (m:=s_.length) (c:=c1) hS kr kr kr kr Tryz.underlying26 hb102 ?_)
 intro a hS
 clear hb102
 refine gX ?_
 refine aG hS (b:=b101) kr (fun hb=>?_) fun hb=>?_
 ·replace hm:=hm.1 hb
  refine rPe T hS [0,4] [(2,V (.slice none 0 0))] fun a hS=>?_
  refine aY ?_
  exact fin T hS hO (fun c=>c) rfl (r:=[.slice none 0 0]) kr (fun X' hM hC=>⟨[],hm,none,0,rfl,OS.nil _ _ _ _ _⟩)
 replace hm:=hm.2 hb
 refine aH ?_
 refine bj ?_
 refine op1 (lit (E:=56) (col:=1003) (T:=aq) (vals:=[]) (ys:=([]:List aa)) T hS kr kr kr kr trivial rfl kr kr kr kr ?_)
 intro b103 a zr o1 hE h106 hN hS
 clear hN
 replace hO:=hO.m2 hE
 replace h1:=h1.m1 hE
 refine oPe T hS 1 [0,4] [(6,Sl a1 s_ c1)] fun a hS=>?_
 obtain ⟨hq,hm⟩:=hm
 obtain ⟨news,hN⟩:=h1.src
 refine op1 (append (E:=56) (T:=aq) (col:=1003) (xs:=([]:List aa)) T hS kr kr kr kr h106 hN kr kr kr kr hq ?_)
 intro fH fG a rz pI hE h109 hS
 clear hq hN
 clear h106
 replace hO:=hO.m2 hE
 replace h1:=h1.m1 hE
 refine ePe T hS [6,7] [(2,Sl fH (([]:List aa)++s_) fG)] fun a hS=>?_
 refine aY ?_
 exact fin T hS hO (zAc1 cG) rfl (r:=[.slice fH (([]:List aa)++s_).length fG]) kr (fun X' hM hC=>⟨(([]:List aa)++s_),hm,fH,fG,rfl,(OS.out (f:=(zAc1 cG)) h109 hM hC kr)⟩)
theorem C104 (v:∀ (s_:List aa),yj s_->VC104 s_ (fun r=>r=b5 s_)):S104:=by
 intro w X s_ a1 c1 cG  hp h1
 refine (W104 w X s_ a1 c1 cG  _ (v s_ hp) h1).mono ?_
 rintro _ _ _ _ ⟨r,rfl,h⟩
 exact h
theorem W101 (w0) (X0) (state:Int) (am:a9) (a1) (c1) (a2) (c2) (a3) (c3) (r4) (m4) (b1) (i1) (Q:b6->Prop) (hm:VC101 state am Q) (h1:RS ay w0 X0 a1 am.o.Rows c1) (h2:RS ao w0 X0 a2 am.l c2) (h3:RS dL w0 X0 a3 am.done c3) (h4:OMS aQ tI false w0 X0 m4 r4 am.failed) (fw:Cell w0 X0 b1 i1 161 [.int .i64 am.o.ar,.int .i64 am.o.aw,.int .i64 am.o.aC,.slice a1 am.o.Rows.length c1,.slice a2 am.l.length c2,.slice a3 am.done.length c3,.map (some r4)]) (hA:dW [i1,m4]) :
  Ret Tryz.prog 101 #[.pointer (some ⟨b1,0,none⟩),.int .i64 state] (pR [i1,m4]) w0 X0 (fun w X' v=>∃ r,Q r/\v=.agg #[.int .u32 r.done,.int .i64 r.state]/\Cell w X' b1 i1 161 [.int .i64 am.o.ar,.int .i64 am.o.aw,.int .i64 am.o.aC,.slice a1 am.o.Rows.length c1,.slice a2 am.l.length c2,.slice a3 am.done.length c3,.map (some r4)]/\OMS aQ tI false w X' m4 r4 am.failed):=by
 unfold VC101 at hm
 replace hm:=hm (h1.sm kr)
 replace hm:=hm (h2.sm kr)
 replace hm:=hm (h3.sm kr)
 refine fM Tryz.func101 rfl (dH [(i1,901),(m4,2004)]) (fun id=>(bif Nat.beq id 901 then b1 else 0)) (args:=[Pt 901 0,I state]) (bxs:=[(901,(161,[I am.o.ar,I am.o.aw,I am.o.aC,Sl a1 am.o.Rows c1,Sl a2 am.l c2,Sl a3 am.done c3,V (.map (some r4))]))]) kr rfl (bn.cons kr (fw.map (bM 0 hA.1 rfl)) bn.nil) (fA (fun q hq=>(hA.2 q.1 (List.mem_map.2 ⟨q,hq,rfl⟩)).1)) ?_
 intro a hS hO hM
 have hP:Pin [(901,b1)] (fun id=>(bif Nat.beq id 901 then b1 else 0)):=by intro q hq; simp at hq; rcases hq with rfl <;> rfl
 generalize (fun id=>(bif Nat.beq id 901 then b1 else 0))=Z at hS hP
 clear fw
 replace h1:=h1.m0 hM
 replace h2:=h2.m0 hM
 replace h3:=h3.m0 hM
 replace h4:=h4.map (f:=dH [(i1,901),(m4,2004)]) (bM 1 hA.1 rfl) hM
 refine rM T hS ⟨[(0,Pt 901 0),(1,I state),(4,Pt 5 0)],[(5,(164,[V (.int .u32 0),I 0])),(901,(161,[I am.o.ar,I am.o.aw,I am.o.aC,Sl a1 am.o.Rows c1,Sl a2 am.l c2,Sl a3 am.done c3,V (.map (some r4))]))]⟩ fun Z a A9 Df hS hE hr=>?_
 replace hO:=hO.m2 hE
 replace h1:=h1.m1 hE
 replace h2:=h2.m1 hE
 replace h3:=h3.m1 hE
 replace h4:=h4.m2 hE
 replace hP:=hP.mv hr kr
 clear hE hr
 refine rM T hS ⟨[(0,Pt 901 0),(4,Pt 5 0),(5,Pt 6 0)],[(5,(164,[V (.int .u32 0),I 0])),(6,(164,[V (.int .u32 0),I state])),(901,(161,[I am.o.ar,I am.o.aw,I am.o.aC,Sl a1 am.o.Rows c1,Sl a2 am.l c2,Sl a3 am.done c3,V (.map (some r4))]))]⟩ fun Z a p3 rH hS hE hr=>?_
 replace hO:=hO.m2 hE
 replace h1:=h1.m1 hE
 replace h2:=h2.m1 hE
 replace h3:=h3.m1 hE
 replace h4:=h4.m2 hE
 replace hP:=hP.mv hr kr
 clear hE hr
 refine bT (fun a w=>∃ (Z:Nat->Nat) (X:Nat->Nat) (bD:Int) (bu:Int),VC101_J1 Q bD bu/\St Tryz.f101.ntmps ⟨[(4,Pt 5 0),(5,Pt 6 0)],[(5,(164,[V (.int .u32 0),I 0])),(6,(164,[V (.int .u32 bD),I bu])),(901,(161,[I am.o.ar,I am.o.aw,I am.o.aC,Sl a1 am.o.Rows c1,Sl a2 am.l c2,Sl a3 am.done c3,V (.map (some r4))]))]⟩ Z a w X/\gf (dH [(i1,901),(m4,2004)]) w0 X0 w X/\Pin [(901,b1)] Z/\RS ay w X a1 am.o.Rows c1/\RS ao w X a2 am.l c2/\RS dL w X a3 am.done c3/\OMS aQ tI false w X 2004 r4 am.failed) ?_ ?_
 ·refine rPe T hS [0] [(13,Sl a3 am.done c3),(14,I (lN am.done)),(15,I 0)] fun a hS=>?_
  refine aL ?_
  obtain ⟨I1,μ1,co,hm⟩:=hm
  refine cl (σ:=Int × Int × Int) (fun s a w=>∃ Z X,I1 s.1 s.2.1 s.2.2/\St Tryz.f101.ntmps ⟨[(4,Pt 5 0),(5,Pt 6 0),(13,Sl a3 am.done c3),(14,I (lN am.done)),(15,I s.1)],[(5,(164,[V (.int .u32 0),I 0])),(6,(164,[V (.int .u32 s.2.1),I s.2.2])),(901,(161,[I am.o.ar,I am.o.aw,I am.o.aC,Sl a1 am.o.Rows c1,Sl a2 am.l c2,Sl a3 am.done c3,V (.map (some r4))]))]⟩ Z a w X/\gf (dH [(i1,901),(m4,2004)]) w0 X0 w X/\Pin [(901,b1)] Z/\RS dL w X a3 am.done c3/\RS ay w X a1 am.o.Rows c1/\RS ao w X a2 am.l c2/\RS dL w X a3 am.done c3/\OMS aQ tI false w X 2004 r4 am.failed) (fun s=>μ1 s.1 s.2.1 s.2.2) (⟨0,0,state⟩) ?_ ?_
  ·exact ⟨Z,_,co,hS.sl _,hO,hP,h3,h1,h2,h3,h4⟩
  rintro ⟨bJ,dr,cv⟩ a um ⟨Z,pH,hI,hS,hO,hP,h109,h113,h114,h115,h116⟩
  replace hm:=hm bJ dr cv hI
  clear hI co
  refine rPe T hS [] [(16,B (decide (bJ < (lN am.done))))] fun a hS=>?_
  refine bc ?_
  refine aG hS (b:=decide (bJ < (lN am.done))) kr (fun hb=>?_) fun hb=>?_
  ·replace hm:=hm.1 hb
   refine aH ?_
   refine bT (fun a w=>∃ (Z:Nat->Nat) (X:Nat->Nat) (dC:Int),VC101_J2 I1 μ1 bJ dr cv dC/\St Tryz.f101.ntmps ⟨[(4,Pt 5 0),(5,Pt 6 0),(13,Sl a3 am.done c3),(14,I (lN am.done)),(15,I bJ)],[(5,(164,[V (.int .u32 0),I 0])),(6,(164,[V (.int .u32 dC),I cv])),(901,(161,[I am.o.ar,I am.o.aw,I am.o.aC,Sl a1 am.o.Rows c1,Sl a2 am.l c2,Sl a3 am.done c3,V (.map (some r4))]))]⟩ Z a w X/\gf (dH [(i1,901),(m4,2004)]) w0 X0 w X/\Pin [(901,b1)] Z/\RS dL w X a3 am.done c3/\RS ay w X a1 am.o.Rows c1/\RS ao w X a2 am.l c2/\RS dL w X a3 am.done c3/\OMS aQ tI false w X 2004 r4 am.failed) ?_ ?_
   ·refine aL ?_
    refine bj ?_
    refine oPe T hS 1 [16] [(17,I bJ)] fun a hS=>?_
    obtain ⟨hq,hm⟩:=hm
    refine op1 (index (e:=4) (k:=.i64) T hS kr kr kr kr h109 kr kr hq.1 hq.2 ?_)
    intro EZ a h124 hS
    refine op1 (dU T hS kr kr kr h124 rfl kr ?_)
    intro v125 a hv hS
    cases hv
    refine ePe T hS [17,18,19] [(6,I bJ),(7,B (gi am.done bJ))] fun a hS=>?_
    refine rPe T hS [7] [(20,B (gi am.done bJ))] fun a hS=>?_
    refine aG hS (b:=gi am.done bJ) kr (fun hb=>?_) fun hb=>?_
    ·replace hm:=hm.1 hb
     refine gI [5,901] mixed hS ?_
     intro rx oZ hS hE hD hH
     replace hO:=hO.m2 hE
     replace h109:=h109.m1 hE
     replace h113:=h113.m1 hE
     replace h114:=h114.m1 hE
     replace h115:=h115.m1 hE
     replace h116:=h116.m2 hE
     refine tke T [0,2] [5,901] hS hH #[true,false,true,false,false,false,false] 5 [6] [(21,Pt 6 0),(23,I bJ)] fun a hS=>?_
     obtain ⟨hq,hm⟩:=hm
     refine Jp (k:=.u32) (k2:=.i64) (p:=1) (q:=bJ) 3 hS kr kr kr (by rfl) kr hH kr kr hq ?_
     intro a hS
     refine only 1 kr (by rfl) (gD T hS kr kr kr (sv:=V (.int .u32 dr)) kr ?_)
     intro a hS
     refine cW (bH.of hS (bks:=[5,901]) kr hD) ?_
     intro hH
     refine tke T [4,5] [5,901] hS hH #[true,true,true,true,true,true,false] 1 [21,23,24,22] [(25,V (.int .u32 (IntKind.u32.wrap ((BitVec.ofInt IntKind.u32.bits dr ||| BitVec.ofInt IntKind.u32.bits (IntKind.u32.wrap (1 * 2 ^ (min bJ.toNat IntKind.u32.bits)))).toNat:Int)))),(26,Pt 6 0)] fun a hS=>?_
     replace hS:=hS.sl ⟨[(4,Pt 5 0),(5,Pt 6 0),(13,Sl a3 am.done c3),(14,I (lN am.done)),(15,I bJ),(25,V (.int .u32 (IntKind.u32.wrap ((BitVec.ofInt IntKind.u32.bits dr ||| BitVec.ofInt IntKind.u32.bits (IntKind.u32.wrap (1 * 2 ^ (min bJ.toNat IntKind.u32.bits)))).toNat:Int)))),(26,Pt 6 0)],[(5,(164,[V (.int .u32 0),I 0])),(6,(164,[V (.int .u32 dr),I cv])),(901,(161,[I am.o.ar,I am.o.aw,I am.o.aC,Sl a1 am.o.Rows c1,Sl a2 am.l c2,Sl a3 am.done c3,V (.map (some r4))]))]⟩
     refine only 6 kr (by rfl) (wz T hS kr kr (sy':=⟨[(4,Pt 5 0),(5,Pt 6 0),(13,Sl a3 am.done c3),(14,I (lN am.done)),(15,I bJ),(25,V (.int .u32 (IntKind.u32.wrap ((BitVec.ofInt IntKind.u32.bits dr ||| BitVec.ofInt IntKind.u32.bits (IntKind.u32.wrap (1 * 2 ^ (min bJ.toNat IntKind.u32.bits)))).toNat:Int)))),(26,Pt 6 0)],[(6,(164,[V (.int .u32 (IntKind.u32.wrap ((BitVec.ofInt IntKind.u32.bits dr ||| BitVec.ofInt IntKind.u32.bits (IntKind.u32.wrap (1 * 2 ^ (min bJ.toNat IntKind.u32.bits)))).toNat:Int))),I cv])),(5,(164,[V (.int .u32 0),I 0])),(6,(164,[V (.int .u32 dr),I cv])),(901,(161,[I am.o.ar,I am.o.aw,I am.o.aC,Sl a1 am.o.Rows c1,Sl a2 am.l c2,Sl a3 am.done c3,V (.map (some r4))]))]⟩) kr ?_)
     intro a ru rI hS hE
     replace hO:=hO.m2 hE
     replace hD:=hD.ev hE rfl
     replace h109:=h109.m1 hE
     replace h113:=h113.m1 hE
     replace h114:=h114.m1 hE
     replace h115:=h115.m1 hE
     replace h116:=h116.m2 hE
     replace hS:=hS.sl ⟨[(4,Pt 5 0),(5,Pt 6 0),(13,Sl a3 am.done c3),(14,I (lN am.done)),(15,I bJ),(25,V (.int .u32 (IntKind.u32.wrap ((BitVec.ofInt IntKind.u32.bits dr ||| BitVec.ofInt IntKind.u32.bits (IntKind.u32.wrap (1 * 2 ^ (min bJ.toNat IntKind.u32.bits)))).toNat:Int)))),(26,Pt 6 0)],[(5,(164,[V (.int .u32 0),I 0])),(6,(164,[V (.int .u32 (IntKind.u32.wrap ((BitVec.ofInt IntKind.u32.bits dr ||| BitVec.ofInt IntKind.u32.bits (IntKind.u32.wrap (1 * 2 ^ (min bJ.toNat IntKind.u32.bits)))).toNat:Int))),I cv])),(901,(161,[I am.o.ar,I am.o.aw,I am.o.aC,Sl a1 am.o.Rows c1,Sl a2 am.l c2,Sl a3 am.done c3,V (.map (some r4))]))]⟩
     refine cW (bH.of hS (bks:=[5,901]) kr hD) ?_
     intro hH
     refine aS kr ?_
     replace hS:=hS.sle [25,26] []
     exact ⟨Z,_,IntKind.u32.wrap ((BitVec.ofInt IntKind.u32.bits dr ||| BitVec.ofInt IntKind.u32.bits (IntKind.u32.wrap (1 * 2 ^ (min bJ.toNat IntKind.u32.bits)))).toNat:Int),hm,hS.sl _,hO,hP,h109,h113,h114,h115,h116⟩
    replace hm:=hm.2 hb
    refine aH ?_
    exact ⟨Z,_,dr,hm,hS.sl _,hO,hP,h109,h113,h114,h115,h116⟩
   rintro a p4 ⟨Z,AI,dC,hm,hS,hO,hP,h117,h119,h120,h121,h122⟩
   unfold VC101_J2 at hm
   refine region (ePe T hS [] [(15,I (wR (bJ+1)))] fun a hS=>?_)
   exact ⟨⟨wR (bJ+1),dC,cv⟩,⟨Z,_,hm.1,hS.sl _,hO,hP,h117,h119,h120,h121,h122⟩,hm.2⟩
  replace hm:=hm.2 hb
  refine cb (by rfl) ?_
  exact ⟨Z,_,dr,cv,hm,hS.sl _,hO,hP,h113,h114,h115,h116⟩
 rintro a Ba ⟨Z,xE,bD,bu,hm,hS,hO,hP,h103,h104,h105,h106⟩
 unfold VC101_J1 at hm
 refine rM T hS ⟨[(4,Pt 5 0)],[(5,(164,[V (.int .u32 bD),I bu])),(901,(161,[I am.o.ar,I am.o.aw,I am.o.aC,Sl a1 am.o.Rows c1,Sl a2 am.l c2,Sl a3 am.done c3,V (.map (some r4))]))]⟩ fun Z a rz pI hS hE hr=>?_
 replace hO:=hO.m2 hE
 replace h103:=h103.m1 hE
 replace h104:=h104.m1 hE
 replace h105:=h105.m1 hE
 replace h106:=h106.m2 hE
 replace hP:=hP.mv hr kr
 clear hE hr
 refine aY ?_
 exact gG T hS hO (fun c h=>bW kr h) (fun c h=>bX (l:=[(i1,901),(m4,2004)]) h) (bR [(i1,901),(m4,2004)]) rfl (r:=[.agg #[.int .u32 bD,.int .i64 bu]]) kr (fun X' hM hC=>⟨(⟨bD,bu⟩:b6),hm,rfl,((hS.cell (id:=901) (t:=161) (cs:=[I am.o.ar,I am.o.aw,I am.o.aC,Sl a1 am.o.Rows c1,Sl a2 am.l c2,Sl a3 am.done c3,V (.map (some r4))]) kr).out (f:=(bR [(i1,901),(m4,2004)])) hC kr kr (hP.at 0 rfl)),(h106.out (f:=(bR [(i1,901),(m4,2004)])) hM hC kr kr)⟩)
theorem C101 (v:∀ (state:Int) (am:a9),VC101 state am (fun r=>r=dE state am)):S101:=by
 intro w X state am a1 c1 a2 c2 a3 c3 r4 m4  b1 i1 h1 h2 h3 h4 fw hA
 refine (W101 w X state am a1 c1 a2 c2 a3 c3 r4 m4  b1 i1 _ (v state am) h1 h2 h3 h4 fw hA).mono ?_
 rintro _ _ _ _ ⟨r,rfl,h⟩
 exact h
theorem W100 (w0) (X0) (am:a9) (a1) (c1) (a2) (c2) (a3) (c3) (r4) (m4) (b1) (i1) (Q:Bool->Prop) (hm:VC100 am Q) (h1:RS ay w0 X0 a1 am.o.Rows c1) (h2:RS ao w0 X0 a2 am.l c2) (h3:RS dL w0 X0 a3 am.done c3) (h4:OMS aQ tI false w0 X0 m4 r4 am.failed) (fw:Cell w0 X0 b1 i1 161 [.int .i64 am.o.ar,.int .i64 am.o.aw,.int .i64 am.o.aC,.slice a1 am.o.Rows.length c1,.slice a2 am.l.length c2,.slice a3 am.done.length c3,.map (some r4)]) (hA:dW [i1,m4]) :
  Ret Tryz.prog 100 #[.pointer (some ⟨b1,0,none⟩)] (pR [i1,m4]) w0 X0 (fun w X' v=>∃ r,Q r/\v=.bool r/\Cell w X' b1 i1 161 [.int .i64 am.o.ar,.int .i64 am.o.aw,.int .i64 am.o.aC,.slice a1 am.o.Rows.length c1,.slice a2 am.l.length c2,.slice a3 am.done.length c3,.map (some r4)]/\OMS aQ tI false w X' m4 r4 am.failed):=by
 unfold VC100 at hm
 replace hm:=hm (h1.sm kr)
 replace hm:=hm (h2.sm kr)
 replace hm:=hm (h3.sm kr)
 refine fM Tryz.func100 rfl (dH [(i1,901),(m4,2004)]) (fun id=>(bif Nat.beq id 901 then b1 else 0)) (args:=[Pt 901 0]) (bxs:=[(901,(161,[I am.o.ar,I am.o.aw,I am.o.aC,Sl a1 am.o.Rows c1,Sl a2 am.l c2,Sl a3 am.done c3,V (.map (some r4))]))]) kr rfl (bn.cons kr (fw.map (bM 0 hA.1 rfl)) bn.nil) (fA (fun q hq=>(hA.2 q.1 (List.mem_map.2 ⟨q,hq,rfl⟩)).1)) ?_
 intro a hS hO hM
 have hP:Pin [(901,b1)] (fun id=>(bif Nat.beq id 901 then b1 else 0)):=by intro q hq; simp at hq; rcases hq with rfl <;> rfl
 generalize (fun id=>(bif Nat.beq id 901 then b1 else 0))=Z at hS hP
 clear fw
 replace h1:=h1.m0 hM
 replace h2:=h2.m0 hM
 replace h3:=h3.m0 hM
 replace h4:=h4.map (f:=dH [(i1,901),(m4,2004)]) (bM 1 hA.1 rfl) hM
 refine rPe T hS [] [] fun a hS=>?_
 refine bT (fun a w=>∃ Z X,VC100_J1 Q/\St Tryz.f100.ntmps ⟨[],[(901,(161,[I am.o.ar,I am.o.aw,I am.o.aC,Sl a1 am.o.Rows c1,Sl a2 am.l c2,Sl a3 am.done c3,V (.map (some r4))]))]⟩ Z a w X/\gf (dH [(i1,901),(m4,2004)]) w0 X0 w X/\Pin [(901,b1)] Z/\RS ay w X a1 am.o.Rows c1/\RS ao w X a2 am.l c2/\RS dL w X a3 am.done c3/\OMS aQ tI false w X 2004 r4 am.failed) ?_ ?_
 ·refine rPe T hS [] [(8,Sl a2 am.l c2),(9,I (lN am.l)),(10,I 0)] fun a hS=>?_
  refine aL ?_
  obtain ⟨I1,μ1,co,hm⟩:=hm
  refine cl (σ:=Int) (fun s a w=>∃ Z X,I1 s/\St Tryz.f100.ntmps ⟨[(0,Pt 901 0),(8,Sl a2 am.l c2),(9,I (lN am.l)),(10,I s)],[(901,(161,[I am.o.ar,I am.o.aw,I am.o.aC,Sl a1 am.o.Rows c1,Sl a2 am.l c2,Sl a3 am.done c3,V (.map (some r4))]))]⟩ Z a w X/\gf (dH [(i1,901),(m4,2004)]) w0 X0 w X/\Pin [(901,b1)] Z/\RS ao w X a2 am.l c2/\RS ay w X a1 am.o.Rows c1/\RS ao w X a2 am.l c2/\RS dL w X a3 am.done c3/\OMS aQ tI false w X 2004 r4 am.failed) (fun s=>μ1 s) (0) ?_ ?_
  ·exact ⟨Z,_,co,hS.sl _,hO,hP,h2,h1,h2,h3,h4⟩
  rintro fB a ru ⟨Z,oZ,hI,hS,hO,hP,h105,h107,h108,h109,h110⟩
  replace hm:=hm fB hI
  clear hI co
  refine rPe T hS [] [(11,B (decide (fB < (lN am.l))))] fun a hS=>?_
  refine bc ?_
  refine aG hS (b:=decide (fB < (lN am.l))) kr (fun hb=>?_) fun hb=>?_
  ·replace hm:=hm.1 hb
   refine aH (bc ?_)
   refine aL ?_
   refine bj ?_
   refine oPe T hS 1 [11] [(12,I fB)] fun a hS=>?_
   obtain ⟨hq,hm⟩:=hm
   refine op1 (index (e:=102) (k:=.i64) T hS kr kr kr kr h105 kr kr hq.1 hq.2 ?_)
   intro Dk a h112 hS
   refine op1 (eC T hS kr kr kr h112 kr kr ?_)
   intro v113 a hv hS
   subst hv
   refine eM T hS ⟨[(0,Pt 901 0),(3,I fB),(4,Pt 5 0),(8,Sl a2 am.l c2),(9,I (lN am.l)),(10,I fB)],[(5,(102,(cP (gi am.l fB)))),(901,(161,[I am.o.ar,I am.o.aw,I am.o.aC,Sl a1 am.o.Rows c1,Sl a2 am.l c2,Sl a3 am.done c3,V (.map (some r4))]))]⟩ fun Z a zp xF hS hE hr=>?_
   replace hO:=hO.m2 hE
   replace h105:=h105.m1 hE
   replace h107:=h107.m1 hE
   replace h108:=h108.m1 hE
   replace h109:=h109.m1 hE
   replace h110:=h110.m2 hE
   replace hP:=hP.mv hr kr
   clear hE hr
   refine bT (fun a w=>∃ (Z:Nat->Nat) (X:Nat->Nat) (be:Bool),VC100_J2 Q I1 μ1 fB be/\St Tryz.f100.ntmps ⟨[(0,Pt 901 0),(8,Sl a2 am.l c2),(9,I (lN am.l)),(10,I fB),(27,B be)],[(901,(161,[I am.o.ar,I am.o.aw,I am.o.aC,Sl a1 am.o.Rows c1,Sl a2 am.l c2,Sl a3 am.done c3,V (.map (some r4))]))]⟩ Z a w X/\gf (dH [(i1,901),(m4,2004)]) w0 X0 w X/\Pin [(901,b1)] Z/\RS ao w X a2 am.l c2/\RS ay w X a1 am.o.Rows c1/\RS ao w X a2 am.l c2/\RS dL w X a3 am.done c3/\OMS aQ tI false w X 2004 r4 am.failed) ?_ ?_
   ·refine region ?_
    refine oP T hS 4 ⟨[(0,Pt 901 0),(3,I fB),(8,Sl a2 am.l c2),(9,I (lN am.l)),(10,I fB),(18,B (((gi am.l fB).End) != (-1)))],[(901,(161,[I am.o.ar,I am.o.aw,I am.o.aC,Sl a1 am.o.Rows c1,Sl a2 am.l c2,Sl a3 am.done c3,V (.map (some r4))]))]⟩ fun a hS=>?_
    rcases bft (((gi am.l fB).End) != (-1)) with hb | hb
    ·replace hS:=hS.lit (t:=18) kr hb
     replace hm:=hm.1 hb
     refine oPe T hS 5 [3] [(22,Sl a3 am.done c3),(23,I fB)] fun a hS=>?_
     obtain ⟨hq,hm⟩:=hm
     refine op1 (index (e:=4) (k:=.i64) T hS kr kr kr kr h109 kr kr hq.1 hq.2 ?_)
     intro Kh a h121 hS
     refine op1 (dU T hS kr kr kr h121 rfl kr ?_)
     intro v122 a hv hS
     cases hv
     refine ePe T hS [18,22,23,24,25] [(27,B (!(gi am.done fB)))] fun a hS=>?_
     exact ⟨Z,_,(!(gi am.done fB)),hm,hS.sl _,hO,hP,h105,h107,h108,h109,h110⟩
    replace hS:=hS.lit (t:=18) kr hb
    replace hm:=hm.2 hb
    refine ePe T hS [3,18] [(27,B false)] fun a hS=>?_
    exact ⟨Z,_,false,hm,hS.sl _,hO,hP,h105,h107,h108,h109,h110⟩
   rintro a K3 ⟨Z,ud,be,hm,hS,hO,hP,h114,h116,h117,h118,h119⟩
   unfold VC100_J2 at hm
   refine aG hS (b:=be) kr (fun hb=>?_) fun hb=>?_
   ·replace hm:=hm.1 hb
    refine rPe T hS [0,8,9,10,27] [(2,B false)] fun a hS=>?_
    refine aY ?_
    exact gG T hS hO (fun c h=>bW kr h) (fun c h=>bX (l:=[(i1,901),(m4,2004)]) h) (bR [(i1,901),(m4,2004)]) rfl (r:=[.bool false]) kr (fun X' hM hC=>⟨false,hm,rfl,((hS.cell (id:=901) (t:=161) (cs:=[I am.o.ar,I am.o.aw,I am.o.aC,Sl a1 am.o.Rows c1,Sl a2 am.l c2,Sl a3 am.done c3,V (.map (some r4))]) kr).out (f:=(bR [(i1,901),(m4,2004)])) hC kr kr (hP.at 0 rfl)),(h119.out (f:=(bR [(i1,901),(m4,2004)])) hM hC kr kr)⟩)
   replace hm:=hm.2 hb
   refine aH ?_
   refine region (ePe T hS [27] [(10,I (wR (fB+1)))] fun a hS=>?_)
   exact ⟨wR (fB+1),⟨Z,_,hm.1,hS.sl _,hO,hP,h114,h116,h117,h118,h119⟩,hm.2⟩
  replace hm:=hm.2 hb
  refine cb (by rfl) ?_
  exact ⟨Z,_,hm,hS.sl _,hO,hP,h107,h108,h109,h110⟩
 rintro a ws ⟨Z,rI,hm,hS,hO,hP,h101,h102,h103,h104⟩
 unfold VC100_J1 at hm
 refine rPe T hS [] [(2,B true)] fun a hS=>?_
 refine aY ?_
 exact gG T hS hO (fun c h=>bW kr h) (fun c h=>bX (l:=[(i1,901),(m4,2004)]) h) (bR [(i1,901),(m4,2004)]) rfl (r:=[.bool true]) kr (fun X' hM hC=>⟨true,hm,rfl,((hS.cell (id:=901) (t:=161) (cs:=[I am.o.ar,I am.o.aw,I am.o.aC,Sl a1 am.o.Rows c1,Sl a2 am.l c2,Sl a3 am.done c3,V (.map (some r4))]) kr).out (f:=(bR [(i1,901),(m4,2004)])) hC kr kr (hP.at 0 rfl)),(h104.out (f:=(bR [(i1,901),(m4,2004)])) hM hC kr kr)⟩)
theorem C100 (v:∀ (am:a9),xV am->VC100 am (fun r=>r=dQ am)):S100:=by
 intro w X am a1 c1 a2 c2 a3 c3 r4 m4  b1 i1 hp h1 h2 h3 h4 fw hA
 refine (W100 w X am a1 c1 a2 c2 a3 c3 r4 m4  b1 i1 _ (v am hp) h1 h2 h3 h4 fw hA).mono ?_
 rintro _ _ _ _ ⟨r,rfl,h⟩
 exact h
theorem W102 (N) (qO:S103) (Ed:S104) (Gt:S90N N) (w0) (X0) (p_:aa) (av:a9) (aN:Int) (bC:List aa) (a1) (c1) (a2) (c2) (a3) (c3) (m3) (r4) (m4) (a5) (c5) (cG) (b1) (i1) (b2) (i2) (b3) (i3) (b4) (i4) (Q:(List aa) × Bool × a9->Prop) (hm:VC102 N p_ av aN bC Q) (h1:RS ay w0 X0 a1 av.o.Rows c1) (h2:RS ao w0 X0 a2 av.l c2) (h3:OS dL 4 w0 X0 m3 a3 av.done c3) (h4:OMS aQ tI false w0 X0 m4 r4 av.failed) (h5:RS aq w0 X0 a5 bC c5) (fw:Cell w0 X0 b1 i1 147 [.pointer (some ⟨b2,0,none⟩)]) (gF:Cell w0 X0 b2 i2 161 [.int .i64 av.o.ar,.int .i64 av.o.aw,.int .i64 av.o.aC,.slice a1 av.o.Rows.length c1,.slice a2 av.l.length c2,.slice a3 av.done.length c3,.map (some r4)]) (lO:Cell w0 X0 b3 i3 3 [.int .i64 aN]) (tO:Cell w0 X0 b4 i4 26 [.slice a5 bC.length c5]) (hA:dW [i1,i2,i3,i4,m3,m4]) :
  Ret Tryz.prog 102 #[.agg #[.int .i64 p_.Oper,.int .i64 p_.Result],.pointer (some ⟨b1,0,none⟩),.pointer (some ⟨b3,0,none⟩),.pointer (some ⟨b4,0,none⟩)] (pR [i1,i2,i3,i4,m3,m4]) w0 X0 (fun w X' v=>∃ r,Q r/\∃ cn cm iO iM o9 o8 xU xT,v=.tuple #[.slice cn r.1.length cm,.bool r.2.1]/\OS aq 56 w X' cG cn r.1 cm/\RS ay w X' iO r.2.2.o.Rows iM/\RS ao w X' o9 r.2.2.l o8/\OS dL 4 w X' m3 xU r.2.2.done xT/\Cell w X' b1 i1 147 [.pointer (some ⟨b2,0,none⟩)]/\Cell w X' b2 i2 161 [.int .i64 r.2.2.o.ar,.int .i64 r.2.2.o.aw,.int .i64 r.2.2.o.aC,.slice iO r.2.2.o.Rows.length iM,.slice o9 r.2.2.l.length o8,.slice xU r.2.2.done.length xT,.map (some r4)]/\OMS aQ tI false w X' m4 r4 r.2.2.failed/\Cell w X' b3 i3 3 [.int .i64 aN]/\Cell w X' b4 i4 26 [.slice a5 bC.length c5]):=by
 unfold VC102 at hm
 replace hm:=hm (h1.sm kr)
 replace hm:=hm (h2.sm kr)
 replace hm:=hm (h3.sm kr)
 replace hm:=hm (h5.sm kr)
 refine fM Tryz.func102 rfl (dH (zAc2 i1 i2 i3 i4 m3 m4)) (fun id=>(bif Nat.beq id 901 then b1 else (bif Nat.beq id 902 then b2 else (bif Nat.beq id 903 then b3 else (bif Nat.beq id 904 then b4 else 0))))) (args:=[V (.agg #[.int .i64 p_.Oper,.int .i64 p_.Result]),Pt 901 0,Pt 903 0,Pt 904 0]) (bxs:=[(901,(147,[Pt 902 0])),(902,(161,[I av.o.ar,I av.o.aw,I av.o.aC,Sl a1 av.o.Rows c1,Sl a2 av.l c2,Sl a3 av.done c3,V (.map (some r4))])),(903,(3,[I aN])),(904,(26,[Sl a5 bC c5]))]) kr rfl (bn.cons kr (fw.map (bM 0 hA.1 rfl)) (bn.cons kr (gF.map (bM 1 hA.1 rfl)) (bn.cons kr (lO.map (bM 2 hA.1 rfl)) (bn.cons kr (tO.map (bM 3 hA.1 rfl)) bn.nil)))) (fA (fun q hq=>(hA.2 q.1 (List.mem_map.2 ⟨q,hq,rfl⟩)).1)) ?_
 intro a hS hO hM
 have hP:Pin [(901,b1),(902,b2),(903,b3),(904,b4)] (fun id=>(bif Nat.beq id 901 then b1 else (bif Nat.beq id 902 then b2 else (bif Nat.beq id 903 then b3 else (bif Nat.beq id 904 then b4 else 0))))):=by intro q hq; simp at hq; rcases hq with rfl | rfl | rfl | rfl <;> rfl
 generalize (fun id=>(bif Nat.beq id 901 then b1 else (bif Nat.beq id 902 then b2 else (bif Nat.beq id 903 then b3 else (bif Nat.beq id 904 then b4 else 0)))))=Z at hS hP
 clear fw gF lO tO
 replace h1:=h1.m0 hM
 replace h2:=h2.m0 hM
 replace h3:=h3.map (f:=dH (zAc2 i1 i2 i3 i4 m3 m4)) (bM 4 hA.1 rfl) hM
 replace h4:=h4.map (f:=dH (zAc2 i1 i2 i3 i4 m3 m4)) (bM 5 hA.1 rfl) hM
 replace h5:=h5.m0 hM
 refine rM T hS ⟨[(1,Pt 901 0),(2,Pt 903 0),(3,Pt 904 0),(4,Pt 5 0)],[(5,(56,(cK p_))),(901,(147,[Pt 902 0])),(902,(161,[I av.o.ar,I av.o.aw,I av.o.aC,Sl a1 av.o.Rows c1,Sl a2 av.l c2,Sl a3 av.done c3,V (.map (some r4))])),(903,(3,[I aN])),(904,(26,[Sl a5 bC c5]))]⟩ fun Z a O5 Q7 hS hE hr=>?_
 replace hO:=hO.m2 hE
 replace h1:=h1.m1 hE
 replace h2:=h2.m1 hE
 replace h3:=h3.m2 hE
 replace h4:=h4.m2 hE
 replace h5:=h5.m1 hE
 replace hP:=hP.mv hr kr
 clear hE hr
 refine dv [5,901,902,903,904] mixed hS ?_
 intro oE o3 hS hE hD hH
 replace hO:=hO.m2 hE
 replace h1:=h1.m1 hE
 replace h2:=h2.m1 hE
 replace h3:=h3.m2 hE
 replace h4:=h4.m2 hE
 replace h5:=h5.m1 hE
 refine tk T [0,4,5,9,1,6,10,2,7,3,8] [5,901,902,903,904] hS hH #[true,true,true,true,true,true,true,true,true,true,true,false,false,false,false,false,false,false,false,false,false,false] 11 ⟨[(1,Pt 901 0),(3,Pt 904 0),(4,Pt 5 0),(16,V (.agg #[.int .i64 av.o.ar,.int .i64 av.o.aw,.int .i64 av.o.aC,.slice a1 av.o.Rows.length c1])),(17,I aN),(21,Sl a2 av.l c2),(23,I p_.Oper)],[(5,(56,(cK p_))),(901,(147,[Pt 902 0])),(902,(161,[I av.o.ar,I av.o.aw,I av.o.aC,Sl a1 av.o.Rows c1,Sl a2 av.l c2,Sl a3 av.done c3,V (.map (some r4))])),(903,(3,[I aN])),(904,(26,[Sl a5 bC c5]))]⟩ fun a hS=>?_
 obtain ⟨hq,hm⟩:=hm
 refine c7 (e:=102) (k:=.i64) T 11 hS kr kr kr (by rfl) kr hH kr kr h2 kr kr hq.1 hq.2 ?_
 intro ui a h104 hS
 have vn:=h104.here
 refine dw (off:=1) (fsz:=1) (ft:=3) (TF:=tI) (y:=(gi av.l p_.Oper).Kind) 12 T hS kr kr kr (by rfl) kr hH kr h104 kr kr kr (fun cs h=>kP h) ?_
 intro xI a h106 fP hS
 have qW:=vn
 rw [← fP] at qW
 clear fP
 refine dV T 13 hS kr kr kr (by rfl) kr hH kr h106 qW rfl kr ?_
 intro v107 a hv hS
 cases hv
 refine only 14 kr (by rfl) (call hS kr kr hb103 kr (fun _ _=>rfl) (qO _ _ av.o aN ((gi av.l p_.Oper).Kind) a1 c1 h1) ?_)
 intro v108 a ry ug hE hp hS
 replace hO:=hO.m2 hE
 replace hD:=hD.ev hE rfl
 replace h1:=h1.m1 hE
 replace h2:=h2.m1 hE
 replace h3:=h3.m2 hE
 replace h4:=h4.m2 hE
 replace h5:=h5.m1 hE
 replace h104:=h104.m1 hE
 replace h106:=h106.m1 hE
 obtain ⟨dG,hr⟩:∃ r,cu av.o aN ((gi av.l p_.Oper).Kind)=r:=⟨_,rfl⟩
 replace hm:=hm dG hr
 rw [hr] at hp
 clear hr
 subst hp
 replace hS:=hS.sl ⟨[(1,Pt 901 0),(3,Pt 904 0),(4,Pt 5 0),(16,V (.agg #[.int .i64 av.o.ar,.int .i64 av.o.aw,.int .i64 av.o.aC,.slice a1 av.o.Rows.length c1])),(17,I aN),(21,Sl a2 av.l c2),(23,I p_.Oper),(24,V (.pointer (some ui))),(25,V (.pointer (some xI))),(26,I ((gi av.l p_.Oper).Kind)),(27,V (.tuple #[.int .i64 dG.1,.int .i64 dG.2.1,.bool dG.2.2]))],[(5,(56,(cK p_))),(901,(147,[Pt 902 0])),(902,(161,[I av.o.ar,I av.o.aw,I av.o.aC,Sl a1 av.o.Rows c1,Sl a2 av.l c2,Sl a3 av.done c3,V (.map (some r4))])),(903,(3,[I aN])),(904,(26,[Sl a5 bC c5]))]⟩
 refine cW (bH.of hS (bks:=[5,901,902,903,904]) kr hD) ?_
 intro hH
 refine tk T [15,16,17,18,19,20,21] [5,901,902,903,904] hS hH #[true,true,true,true,true,true,true,true,true,true,true,true,true,true,true,true,true,true,true,true,true,true] 0 ⟨[(1,Pt 901 0),(3,Pt 904 0),(4,Pt 5 0),(7,I dG.1)],[(5,(56,(cK p_))),(901,(147,[Pt 902 0])),(902,(161,[I av.o.ar,I av.o.aw,I av.o.aC,Sl a1 av.o.Rows c1,Sl a2 av.l c2,Sl a3 av.done c3,V (.map (some r4))])),(903,(3,[I aN])),(904,(26,[Sl a5 bC c5]))]⟩ fun a hS=>?_
 refine aS kr ?_
 replace hS:=hS.sl ⟨[(1,Pt 901 0),(3,Pt 904 0),(4,Pt 5 0),(7,I dG.1)],[(5,(56,(cK p_))),(901,(147,[Pt 902 0])),(902,(161,[I av.o.ar,I av.o.aw,I av.o.aC,Sl a1 av.o.Rows c1,Sl a2 av.l c2,Sl a3 av.done c3,V (.map (some r4))])),(903,(3,[I aN])),(904,(26,[Sl a5 bC c5]))]⟩
 refine dv [5,901,902,903,904] mixed hS ?_
 intro Bc uf hS hE hD hH
 replace hO:=hO.m2 hE
 replace h1:=h1.m1 hE
 replace h2:=h2.m1 hE
 replace h3:=h3.m2 hE
 replace h4:=h4.m2 hE
 replace h5:=h5.m1 hE
 refine tk T [0,4,1,5,2,3] [5,901,902,903,904] hS hH #[true,true,true,true,true,true,false,false] 2 ⟨[(1,Pt 901 0),(3,Pt 904 0),(4,Pt 5 0),(7,I dG.1),(34,Sl a3 av.done c3),(36,I p_.Oper)],[(5,(56,(cK p_))),(901,(147,[Pt 902 0])),(902,(161,[I av.o.ar,I av.o.aw,I av.o.aC,Sl a1 av.o.Rows c1,Sl a2 av.l c2,Sl a3 av.done c3,V (.map (some r4))])),(903,(3,[I aN])),(904,(26,[Sl a5 bC c5]))]⟩ fun a hS=>?_
 obtain ⟨u7,hm⟩:=hm
 refine only 6 kr (by rfl) (nr (E:=4) (k:=.i64) T hS kr kr kr kr h3 kr kr u7.1 u7.2 ?_)
 intro E0 a h116 h115 hS
 refine cW (bH.of hS (bks:=[5,901,902,903,904]) kr hD) ?_
 intro hH
 refine only 7 kr (by rfl) (Bh (x:=true) (v:=B true) (i:=p_.Oper.toNat) (E:=4) (xs:=av.done) T hS kr kr kr kr h3 h116 (by have:=u7.1; have:=u7.2; omega) kr (fun _ _ _=>rfl) ?_)
 intro a Bb hE h119 hS
 clear h3 h116 h115 u7
 replace hO:=hO.m2 hE
 replace hD:=hD.ev hE rfl
 replace h1:=h1.m1 hE
 replace h2:=h2.m1 hE
 replace h4:=h4.m2 hE
 replace h5:=h5.m1 hE
 replace hS:=hS.conv (t:=34) (y:=.slice a3 (av.done.set p_.Oper.toNat true).length c3) kr (by rw [List.length_set])
 refine cW (bH.of hS (bks:=[5,901,902,903,904]) kr hD) ?_
 intro hH
 have yB:=hS.cell (id:=902) (t:=161) (cs:=[I av.o.ar,I av.o.aw,I av.o.aC,Sl a1 av.o.Rows c1,Sl a2 av.l c2,Sl a3 av.done c3,V (.map (some r4))]) kr
 replace yB:=yB.conv (vals':=[.int .i64 av.o.ar,.int .i64 av.o.aw,.int .i64 av.o.aC,.slice a1 av.o.Rows.length c1,.slice a2 av.l.length c2,.slice a3 (av.done.set p_.Oper.toNat true).length c3,.map (some r4)]) (by rw [List.length_set]; rfl)
 replace hS:=hS.cD (id:=902) (t:=161) (cs:=[I av.o.ar,I av.o.aw,I av.o.aC,Sl a1 av.o.Rows c1,Sl a2 av.l c2,Sl a3 (av.done.set p_.Oper.toNat true) c3,V (.map (some r4))]) kr yB
 clear yB
 refine aS kr ?_
 replace hS:=hS.sl ⟨[(1,Pt 901 0),(3,Pt 904 0),(4,Pt 5 0),(7,I dG.1)],[(5,(56,(cK p_))),(901,(147,[Pt 902 0])),(902,(161,[I av.o.ar,I av.o.aw,I av.o.aC,Sl a1 av.o.Rows c1,Sl a2 av.l c2,Sl a3 (av.done.set p_.Oper.toNat true) c3,V (.map (some r4))])),(903,(3,[I aN])),(904,(26,[Sl a5 bC c5]))]⟩
 refine dv [5,901,903,904] mixed hS ?_
 intro up AK hS hE hD hH
 replace hO:=hO.m2 hE
 replace h1:=h1.m1 hE
 replace h2:=h2.m1 hE
 replace h4:=h4.m2 hE
 replace h5:=h5.m1 hE
 replace h119:=h119.m2 hE
 refine tk T [0,1,2,4] [5,901,903,904] hS hH #[true,true,true,false,true,false,false,false,false,false,false,false,false] 9 ⟨[(1,Pt 901 0),(4,Pt 5 0),(39,Pt 902 0),(40,I dG.1),(41,Sl a5 bC c5),(43,V (.agg #[.int .i64 p_.Oper,.int .i64 p_.Result]))],[(5,(56,(cK p_))),(901,(147,[Pt 902 0])),(902,(161,[I av.o.ar,I av.o.aw,I av.o.aC,Sl a1 av.o.Rows c1,Sl a2 av.l c2,Sl a3 (av.done.set p_.Oper.toNat true) c3,V (.map (some r4))])),(903,(3,[I aN])),(904,(26,[Sl a5 bC c5]))]⟩ fun a hS=>?_
 obtain ⟨G5,hm⟩:=hm
 obtain ⟨mF,En⟩:∃ r,b5 bC=r:=⟨_,rfl⟩
 replace hm:=hm mF En
 refine yW (fun a w=>∃ X nB nv kC kA,St Tryz.f102.ntmps ⟨[(1,Pt 901 0),(4,Pt 5 0),(39,Pt 902 0),(40,I dG.1),(42,Sl nB mF nv),(44,Sl kC [p_] kA)],[(5,(56,(cK p_))),(901,(147,[Pt 902 0])),(902,(161,[I av.o.ar,I av.o.aw,I av.o.aC,Sl a1 av.o.Rows c1,Sl a2 av.l c2,Sl a3 (av.done.set p_.Oper.toNat true) c3,V (.map (some r4))])),(903,(3,[I aN])),(904,(26,[Sl a5 bC c5]))]⟩ Z a w X/\gf (dH (zAc2 i1 i2 i3 i4 m3 m4)) w0 X0 w X/\M0 up AK w X/\bH up AK (mG [5,901,903,904] ⟨[(1,Pt 901 0),(3,Pt 904 0),(4,Pt 5 0),(7,I dG.1)],[(5,(56,(cK p_))),(901,(147,[Pt 902 0])),(902,(161,[I av.o.ar,I av.o.aw,I av.o.aC,Sl a1 av.o.Rows c1,Sl a2 av.l c2,Sl a3 (av.done.set p_.Oper.toNat true) c3,V (.map (some r4))])),(903,(3,[I aN])),(904,(26,[Sl a5 bC c5]))]⟩) Z w/\OS aq 56 w X 1006 nB mF nv/\RS aq w X kC [p_] kA/\RS ay w X a1 av.o.Rows c1/\RS ao w X a2 av.l c2/\OS dL 4 w X 2003 a3 (av.done.set p_.Oper.toNat true) c3/\OMS aQ tI false w X 2004 r4 av.failed/\RS aq w X a5 bC c5) #[true,true,true,true,true,true,false,false,false,false,false,false,false] 7 ?_ (fun H=>?_)
 ·rintro a KY ⟨Nt,nB,nv,kC,kA,hS,hO,hD,hH,h145,h148,h151,h152,h153,h154,h155⟩
  replace hm:=hm (h145.sm kr)
  clear G5 En
  obtain ⟨hq,hm⟩:=hm
  obtain ⟨news,hN⟩:=h148.src
  refine only 6 kr (by rfl) (append (E:=56) (T:=aq) (col:=1006) (xs:=mF) T hS kr kr kr kr h145 hN kr kr kr kr hq ?_)
  intro JQ JC a HY J1 hE h182 hS
  clear hq hN
  clear h145
  replace hO:=hO.m2 hE
  replace hD:=hD.ev hE rfl
  replace h148:=h148.m1 hE
  replace h151:=h151.m1 hE
  replace h152:=h152.m1 hE
  replace h153:=h153.m2 hE
  replace h154:=h154.m2 hE
  replace h155:=h155.m1 hE
  replace hS:=hS.sl ⟨[(1,Pt 901 0),(4,Pt 5 0),(39,Pt 902 0),(40,I dG.1),(44,Sl kC [p_] kA),(45,Sl JQ (mF++[p_]) JC)],[(5,(56,(cK p_))),(901,(147,[Pt 902 0])),(902,(161,[I av.o.ar,I av.o.aw,I av.o.aC,Sl a1 av.o.Rows c1,Sl a2 av.l c2,Sl a3 (av.done.set p_.Oper.toNat true) c3,V (.map (some r4))])),(903,(3,[I aN])),(904,(26,[Sl a5 bC c5]))]⟩
  refine cW (bH.of hS (bks:=[5,901,903,904]) kr hD) ?_
  intro hH
  obtain ⟨hq,hm⟩:=hm
  refine only 7 kr (by rfl) (l5 hS kr kr hb90 kr (Gt _ _ dG.1 (mF++[p_]) (⟨av.o,av.l,(av.done.set p_.Oper.toNat true),av.failed⟩:a9) JQ JC 1006 a1 c1 a2 c2 a3 c3 2003 r4 2004 (Z 902) 902 hq.1 hq.2 h182 h151 h152 h153 h154 (hS.cell (id:=902) (t:=161) (cs:=[I av.o.ar,I av.o.aw,I av.o.aC,Sl a1 av.o.Rows c1,Sl a2 av.l c2,Sl a3 (av.done.set p_.Oper.toNat true) c3,V (.map (some r4))]) kr) ⟨by decide,by decide⟩) ?_)
  intro v185 a F2 J0 hE hp hS
  clear h154
  clear h182
  clear h153
  replace hO:=hO.m2 hE
  replace hD:=hD.ev hE rfl
  replace h148:=h148.m1 hE
  replace h151:=h151.m1 hE
  replace h152:=h152.m1 hE
  replace h155:=h155.m1 hE
  obtain ⟨vX,vM,pF,pC,pE,pB,ox,ol,hp,h191,h194,h197,h200,Co,h201⟩:=hp
  obtain ⟨cB,hr⟩:∃ r,aK dG.1 (mF++[p_]) (⟨av.o,av.l,(av.done.set p_.Oper.toNat true),av.failed⟩:a9)=r:=⟨_,rfl⟩
  replace hm:=hm cB hr
  rw [hr] at hp h191 h194 h197 h200 Co h201
  clear hr
  subst hp
  replace hm:=hm (h191.sm kr)
  replace hm:=hm (h194.sm kr)
  replace hm:=hm (h197.sm kr)
  replace hm:=hm (h200.sm kr)
  replace hS:=hS.cD (id:=902) (t:=161) (cs:=[I cB.2.2.o.ar,I cB.2.2.o.aw,I cB.2.2.o.aC,Sl pF cB.2.2.o.Rows pC,Sl pE cB.2.2.l pB,Sl ox cB.2.2.done ol,V (.map (some r4))]) kr Co
  clear Co
  replace hS:=hS.sl ⟨[(1,Pt 901 0),(4,Pt 5 0),(39,Pt 902 0),(40,I dG.1),(44,Sl kC [p_] kA),(46,V (.tuple #[.slice vX cB.1.length vM,.bool cB.2.1]))],[(5,(56,(cK p_))),(901,(147,[Pt 902 0])),(902,(161,[I cB.2.2.o.ar,I cB.2.2.o.aw,I cB.2.2.o.aC,Sl pF cB.2.2.o.Rows pC,Sl pE cB.2.2.l pB,Sl ox cB.2.2.done ol,V (.map (some r4))])),(903,(3,[I aN])),(904,(26,[Sl a5 bC c5]))]⟩
  refine cW (bH.of hS (bks:=[5,901,903,904]) kr hD) ?_
  intro hH
  refine tk T [8,9,10,11,12] [5,901,903,904] hS hH #[true,true,true,true,true,true,true,true,true,true,true,true,true] 0 ⟨[(1,Pt 901 0),(4,Pt 5 0),(10,Sl vX cB.1 vM),(11,B cB.2.1)],[(5,(56,(cK p_))),(901,(147,[Pt 902 0])),(902,(161,[I cB.2.2.o.ar,I cB.2.2.o.aw,I cB.2.2.o.aC,Sl pF cB.2.2.o.Rows pC,Sl pE cB.2.2.l pB,Sl ox cB.2.2.done ol,V (.map (some r4))])),(903,(3,[I aN])),(904,(26,[Sl a5 bC c5]))]⟩ fun a hS=>?_
  refine aS kr ?_
  replace hS:=hS.sl ⟨[(1,Pt 901 0),(4,Pt 5 0),(10,Sl vX cB.1 vM),(11,B cB.2.1)],[(5,(56,(cK p_))),(901,(147,[Pt 902 0])),(902,(161,[I cB.2.2.o.ar,I cB.2.2.o.aw,I cB.2.2.o.aC,Sl pF cB.2.2.o.Rows pC,Sl pE cB.2.2.l pB,Sl ox cB.2.2.done ol,V (.map (some r4))])),(903,(3,[I aN])),(904,(26,[Sl a5 bC c5]))]⟩
  refine dv [5,901,902,903,904] mixed hS ?_
  intro HS Nk hS hE hD hH
  replace hO:=hO.m2 hE
  replace h155:=h155.m1 hE
  replace h201:=h201.m2 hE
  replace h191:=h191.m2 hE
  replace h194:=h194.m1 hE
  replace h197:=h197.m1 hE
  replace h200:=h200.m2 hE
  refine tk T [0,4,1,5,2,3] [5,901,902,903,904] hS hH #[true,true,true,true,true,true,false,false] 2 ⟨[(10,Sl vX cB.1 vM),(11,B cB.2.1),(52,Sl ox cB.2.2.done ol),(54,I p_.Oper)],[(5,(56,(cK p_))),(901,(147,[Pt 902 0])),(902,(161,[I cB.2.2.o.ar,I cB.2.2.o.aw,I cB.2.2.o.aC,Sl pF cB.2.2.o.Rows pC,Sl pE cB.2.2.l pB,Sl ox cB.2.2.done ol,V (.map (some r4))])),(903,(3,[I aN])),(904,(26,[Sl a5 bC c5]))]⟩ fun a hS=>?_
  obtain ⟨u6,hm⟩:=hm
  refine only 6 kr (by rfl) (nr (E:=4) (k:=.i64) T hS kr kr kr kr h200 kr kr u6.1 u6.2 ?_)
  intro Rt a h207 h206 hS
  refine cW (bH.of hS (bks:=[5,901,902,903,904]) kr hD) ?_
  intro hH
  refine only 7 kr (by rfl) (Bh (x:=false) (v:=B false) (i:=p_.Oper.toNat) (E:=4) (xs:=cB.2.2.done) T hS kr kr kr kr h200 h207 (by have:=u6.1; have:=u6.2; omega) kr (fun _ _ _=>rfl) ?_)
  intro a HR hE h210 hS
  clear h200 h207 h206 u6
  replace hO:=hO.m2 hE
  replace hD:=hD.ev hE rfl
  replace h155:=h155.m1 hE
  replace h201:=h201.m2 hE
  replace h191:=h191.m2 hE
  replace h194:=h194.m1 hE
  replace h197:=h197.m1 hE
  replace hS:=hS.conv (t:=52) (y:=.slice ox (cB.2.2.done.set p_.Oper.toNat false).length ol) kr (by rw [List.length_set])
  refine cW (bH.of hS (bks:=[5,901,902,903,904]) kr hD) ?_
  intro hH
  have yz:=hS.cell (id:=902) (t:=161) (cs:=[I cB.2.2.o.ar,I cB.2.2.o.aw,I cB.2.2.o.aC,Sl pF cB.2.2.o.Rows pC,Sl pE cB.2.2.l pB,Sl ox cB.2.2.done ol,V (.map (some r4))]) kr
  replace yz:=yz.conv (vals':=[.int .i64 cB.2.2.o.ar,.int .i64 cB.2.2.o.aw,.int .i64 cB.2.2.o.aC,.slice pF cB.2.2.o.Rows.length pC,.slice pE cB.2.2.l.length pB,.slice ox (cB.2.2.done.set p_.Oper.toNat false).length ol,.map (some r4)]) (by rw [List.length_set]; rfl)
  replace hS:=hS.cD (id:=902) (t:=161) (cs:=[I cB.2.2.o.ar,I cB.2.2.o.aw,I cB.2.2.o.aC,Sl pF cB.2.2.o.Rows pC,Sl pE cB.2.2.l pB,Sl ox (cB.2.2.done.set p_.Oper.toNat false) ol,V (.map (some r4))]) kr yz
  clear yz
  refine aS kr ?_
  replace hS:=hS.sl ⟨[(10,Sl vX cB.1 vM),(11,B cB.2.1)],[(901,(147,[Pt 902 0])),(902,(161,[I cB.2.2.o.ar,I cB.2.2.o.aw,I cB.2.2.o.aC,Sl pF cB.2.2.o.Rows pC,Sl pE cB.2.2.l pB,Sl ox (cB.2.2.done.set p_.Oper.toNat false) ol,V (.map (some r4))])),(903,(3,[I aN])),(904,(26,[Sl a5 bC c5]))]⟩
  refine rP T hS ⟨[(5,Sl vX cB.1 vM),(6,B cB.2.1)],[(901,(147,[Pt 902 0])),(902,(161,[I cB.2.2.o.ar,I cB.2.2.o.aw,I cB.2.2.o.aC,Sl pF cB.2.2.o.Rows pC,Sl pE cB.2.2.l pB,Sl ox (cB.2.2.done.set p_.Oper.toNat false) ol,V (.map (some r4))])),(903,(3,[I aN])),(904,(26,[Sl a5 bC c5]))]⟩ fun a hS=>?_
  refine aY ?_
  exact gG T hS hO (fun c h=>bW kr h) (fun c h=>bX (l:=(zAc2 i1 i2 i3 i4 m3 m4)) h) (bR [(i1,901),(i2,902),(i3,903),(i4,904),(m3,2003),(m4,2004),(cG,1006)]) rfl (r:=[.slice vX cB.1.length vM,.bool cB.2.1]) kr (fun X' hM hC=>⟨(cB.1,cB.2.1,(⟨cB.2.2.o,cB.2.2.l,(cB.2.2.done.set p_.Oper.toNat false),cB.2.2.failed⟩:a9)),hm,vX,vM,pF,pC,pE,pB,ox,ol,rfl,(OS.out (f:=(bR [(i1,901),(i2,902),(i3,903),(i4,904),(m3,2003),(m4,2004),(cG,1006)])) h191 hM hC kr),h194.m0 hM,h197.m0 hM,(OS.out (f:=(bR [(i1,901),(i2,902),(i3,903),(i4,904),(m3,2003),(m4,2004),(cG,1006)])) h210 hM hC kr),(Cell.ptr (id:=902) ((hS.cell (id:=901) (t:=147) (cs:=[Pt 902 0]) kr).out (f:=(bR [(i1,901),(i2,902),(i3,903),(i4,904),(m3,2003),(m4,2004),(cG,1006)])) hC kr kr (hP.at 0 rfl)) (hP.at 1 rfl)),((hS.cell (id:=902) (t:=161) (cs:=[I cB.2.2.o.ar,I cB.2.2.o.aw,I cB.2.2.o.aC,Sl pF cB.2.2.o.Rows pC,Sl pE cB.2.2.l pB,Sl ox (cB.2.2.done.set p_.Oper.toNat false) ol,V (.map (some r4))]) kr).out (f:=(bR [(i1,901),(i2,902),(i3,903),(i4,904),(m3,2003),(m4,2004),(cG,1006)])) hC kr kr (hP.at 1 rfl)),(h201.out (f:=(bR [(i1,901),(i2,902),(i3,903),(i4,904),(m3,2003),(m4,2004),(cG,1006)])) hM hC kr kr),((hS.cell (id:=903) (t:=3) (cs:=[I aN]) kr).out (f:=(bR [(i1,901),(i2,902),(i3,903),(i4,904),(m3,2003),(m4,2004),(cG,1006)])) hC kr kr (hP.at 2 rfl)),((hS.cell (id:=904) (t:=26) (cs:=[Sl a5 bC c5]) kr).out (f:=(bR [(i1,901),(i2,902),(i3,903),(i4,904),(m3,2003),(m4,2004),(cG,1006)])) hC kr kr (hP.at 3 rfl))⟩)
 clear hm
 refine rh (is:=[3,5]) kr (by decide) ?_
 intro i hi
 rcases z1 hi with rfl | rfl
 ·have hq:=G5
  refine jV (by rfl) (call hS kr kr hb104 kr (fun _ _=>rfl) (Ed _ _ bC a5 c5 1006 hq h5) ?_)
  intro v156 a sR t8 hE hp hS
  replace hO:=hO.m2 hE
  replace hD:=hD.ev hE rfl
  replace h1:=h1.m1 hE
  replace h2:=h2.m1 hE
  replace h4:=h4.m2 hE
  replace h5:=h5.m1 hE
  replace h119:=h119.m2 hE
  obtain ⟨t0,tV,hp,h162⟩:=hp
  rw [En] at hp h162
  subst hp
  replace hS:=hS.sl ⟨[(1,Pt 901 0),(4,Pt 5 0),(39,Pt 902 0),(40,I dG.1),(41,Sl a5 bC c5),(43,V (.agg #[.int .i64 p_.Oper,.int .i64 p_.Result])),(42,Sl t0 mF tV)],[(5,(56,(cK p_))),(901,(147,[Pt 902 0])),(902,(161,[I av.o.ar,I av.o.aw,I av.o.aC,Sl a1 av.o.Rows c1,Sl a2 av.l c2,Sl a3 (av.done.set p_.Oper.toNat true) c3,V (.map (some r4))])),(903,(3,[I aN])),(904,(26,[Sl a5 bC c5]))]⟩
  refine cW (bH.of hS (bks:=[5,901,903,904]) kr hD) ?_
  intro hH
  refine only 5 kr (by rfl) (lit (E:=56) (col:=0) (T:=aq) (vals:=[.agg #[.int .i64 p_.Oper,.int .i64 p_.Result]]) (ys:=[p_]) T hS kr kr kr kr (by exact ⟨rfl,trivial⟩) rfl kr kr kr kr ?_)
  intro b163 a F6 J4 hE h166 hN hS
  clear hN
  replace hO:=hO.m2 hE
  replace hD:=hD.ev hE rfl
  replace h1:=h1.m1 hE
  replace h2:=h2.m1 hE
  replace h4:=h4.m2 hE
  replace h5:=h5.m1 hE
  replace h119:=h119.m2 hE
  replace h162:=h162.m2 hE
  replace h166:=h166.rs0
  refine cW (bH.of hS (bks:=[5,901,903,904]) kr hD) ?_
  intro hH
  exact H _ _ ⟨_,t0,tV,(some ⟨b163,0,none⟩),1,hS.sl _,hO,hD,hH,h162,h166,h1,h2,h119,h4,h5⟩
 refine jV (by rfl) (lit (E:=56) (col:=0) (T:=aq) (vals:=[.agg #[.int .i64 p_.Oper,.int .i64 p_.Result]]) (ys:=[p_]) T hS kr kr kr kr (by exact ⟨rfl,trivial⟩) rfl kr kr kr kr ?_)
 intro b167 a DA Hk hE h170 hN hS
 clear hN
 replace hO:=hO.m2 hE
 replace hD:=hD.ev hE rfl
 replace h1:=h1.m1 hE
 replace h2:=h2.m1 hE
 replace h4:=h4.m2 hE
 replace h5:=h5.m1 hE
 replace h119:=h119.m2 hE
 replace h170:=h170.rs0
 refine cW (bH.of hS (bks:=[5,901,903,904]) kr hD) ?_
 intro hH
 have hq:=G5
 refine only 3 kr (by rfl) (call hS kr kr hb104 kr (fun _ _=>rfl) (Ed _ _ bC a5 c5 1006 hq h5) ?_)
 intro v171 a H3 J3 hE hp hS
 replace hO:=hO.m2 hE
 replace hD:=hD.ev hE rfl
 replace h1:=h1.m1 hE
 replace h2:=h2.m1 hE
 replace h4:=h4.m2 hE
 replace h5:=h5.m1 hE
 replace h119:=h119.m2 hE
 replace h170:=h170.m1 hE
 obtain ⟨km,kf,hp,h177⟩:=hp
 rw [En] at hp h177
 subst hp
 replace hS:=hS.sl ⟨[(1,Pt 901 0),(4,Pt 5 0),(39,Pt 902 0),(40,I dG.1),(41,Sl a5 bC c5),(43,V (.agg #[.int .i64 p_.Oper,.int .i64 p_.Result])),(44,Sl (some ⟨b167,0,none⟩) [p_] 1),(42,Sl km mF kf)],[(5,(56,(cK p_))),(901,(147,[Pt 902 0])),(902,(161,[I av.o.ar,I av.o.aw,I av.o.aC,Sl a1 av.o.Rows c1,Sl a2 av.l c2,Sl a3 (av.done.set p_.Oper.toNat true) c3,V (.map (some r4))])),(903,(3,[I aN])),(904,(26,[Sl a5 bC c5]))]⟩
 refine cW (bH.of hS (bks:=[5,901,903,904]) kr hD) ?_
 intro hH
 exact H _ _ ⟨_,km,kf,(some ⟨b167,0,none⟩),1,hS.sl _,hO,hD,hH,h177,h170,h1,h2,h119,h4,h5⟩
theorem C102 (N:Nat) (qO:S103) (Ed:S104) (Gt:S90N N) (v:∀ (p_:aa) (av:a9) (aN:Int) (bC:List aa),xW p_ av aN bC->BX p_ av aN bC < N+1->VC102 N p_ av aN bC (fun r=>r=bf p_ av aN bC)):S102N (N+1):=by
 intro w X p_ av aN bC a1 c1 a2 c2 a3 c3 m3 r4 m4 a5 c5 cG b1 i1 b2 i2 b3 i3 b4 i4 hp Mk h1 h2 h3 h4 h5 fw gF lO tO hA
 refine (W102 N qO Ed Gt w X p_ av aN bC a1 c1 a2 c2 a3 c3 m3 r4 m4 a5 c5 cG b1 i1 b2 i2 b3 i3 b4 i4 _ (v p_ av aN bC hp Mk) h1 h2 h3 h4 h5 fw gF lO tO hA).mono ?_
 rintro _ _ _ _ ⟨r,rfl,h⟩
 exact h
end Go.Proofs.YteahldlmkheleaaGreat
