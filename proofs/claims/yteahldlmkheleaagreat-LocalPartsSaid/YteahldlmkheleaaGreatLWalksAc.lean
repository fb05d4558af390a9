import Derived.Test.YteahldlmkheleaaGreatLWalksS
set_option linter.all false
namespace Go.Proofs.YteahldlmkheleaaGreat
open Go Go.Sv
abbrev zAc0 (cD:Nat):Nat->Nat:=fun c=>(bif Nat.beq c 1009 then cD else c)
abbrev zAc1 (cD:Nat):Nat->Nat:=fun c=>(bif Nat.beq c 1003 then cD else c)
abbrev zAc2 (i1 i2 i3 i4 m3 m4:Nat):List (Nat × Nat):=[(i1,901),(i2,902),(i3,903),(i4,904),(m3,2003),(m4,2004)]
set_option maxHeartbeats 1000000
theorem W38 (Ft:S66) (w0) (X0) (l_:List ab) (ac:List aa) (pending:Bool) (a1) (c1) (a2) (c2) (Q:(List Int)->Prop) (hm:VC38 l_ ac pending Q) (h1:RS aq w0 X0 a1 l_ c1) (h2:RS au w0 X0 a2 ac c2) :
  Ret Tryz.prog 38 #[.slice a1 l_.length c1,.slice a2 ac.length c2,.bool pending] aI w0 X0 (fun w X' v=>∃ r,Q r/\∃ co cn,v=.slice co r.length cn/\RS tI w X' co r cn):=by
 unfold VC38 at hm
 replace hm:=hm (h1.sm kr)
 replace hm:=hm (h2.sm kr)
 refine enter Tryz.func38 rfl (vals:=[.slice a1 l_.length c1,.slice a2 ac.length c2,.bool pending]) kr ?_
 intro Z a hS hO hM
 replace h1:=h1.m0 hM
 replace h2:=h2.m0 hM
 refine rPe T hS [] [] fun a hS=>?_
 refine rPe T hS [] [(7,V (.slice none 0 0))] fun a hS=>?_
 refine b5 (fun a w=>∃ (Z:Nat->Nat) (X:Nat->Nat) (bv:List Int) (dm:Option Addr) (dl:Nat),VC38_J1 Q bv/\St Tryz.f38.ntmps ⟨[(7,Sl dm bv dl)],[]⟩ Z a w X/\Old w0 X0 w X/\OS tI 3 w X 1007 dm bv dl) ?_ ?_
 ·refine rPe T hS [] [(8,I 0)] fun a hS=>?_
  refine aK ?_
  obtain ⟨I1,μ1,ci,hm⟩:=hm
  refine cg (σ:=(List Int) × Int) (fun s a w=>∃ Z X eR d9,I1 s.1 s.2/\St Tryz.f38.ntmps ⟨[(0,Sl a1 l_ c1),(1,Sl a2 ac c2),(2,B pending),(7,Sl eR s.1 d9),(8,I s.2)],[]⟩ Z a w X/\Old w0 X0 w X/\RS aq w X a1 l_ c1/\RS au w X a2 ac c2/\OS tI 3 w X 1007 eR s.1 d9) (fun s=>μ1 s.1 s.2) (⟨[],0⟩) ?_ ?_
  ·exact ⟨Z,_,none,0,ci,hS.sl _,hO,h1,h2,(OS.nil _ _ _ _ _)⟩
  rintro ⟨ce,bd⟩ a Aa ⟨Z,wF,eR,d9,hI,hS,hO,h107,h108,h112⟩
  replace hm:=hm ce bd hI
  clear hI ci
  refine bc ?_
  refine rPe T hS [] [(12,B (decide (bd < (lN l_))))] fun a hS=>?_
  refine aG hS (b:=decide (bd < (lN l_))) kr (fun hb=>?_) fun hb=>?_
  ·replace hm:=hm.1 hb
   refine aJ ?_
   refine b5 (fun a w=>∃ (Z:Nat->Nat) (X:Nat->Nat) (aY:List Int) (kQ:Option Addr) (kP:Nat),VC38_J2 I1 μ1 ce bd aY/\St Tryz.f38.ntmps ⟨[(0,Sl a1 l_ c1),(1,Sl a2 ac c2),(2,B pending),(7,Sl kQ aY kP),(8,I bd)],[]⟩ Z a w X/\Old w0 X0 w X/\RS aq w X a1 l_ c1/\RS au w X a2 ac c2/\OS tI 3 w X 1007 kQ aY kP) ?_ ?_
   ·refine aK ?_
    refine b5 (fun a w=>∃ (Z:Nat->Nat) (X:Nat->Nat) (aR:List Int) (mC:Bool) (ov:Option Addr) (oo:Nat),VC38_J3 I1 μ1 ce bd aR mC/\St Tryz.f38.ntmps ⟨[(0,Sl a1 l_ c1),(1,Sl a2 ac c2),(2,B pending),(7,Sl ov aR oo),(8,I bd),(28,B mC)],[]⟩ Z a w X/\Old w0 X0 w X/\RS aq w X a1 l_ c1/\RS au w X a2 ac c2/\OS tI 3 w X 1007 ov aR oo) ?_ ?_
    ·refine region ?_
     refine oPe T hS 2 [12] [(15,Sl a2 ac c2),(16,I bd)] fun a hS=>?_
     refine op1 (call hS kr kr hb66 kr (fun _ _=>rfl) (Ft _ _ ac bd a2 c2 h108) ?_)
     intro v136 a G2 IV hE hp hS
     replace hO:=hO.m2 hE
     replace h107:=h107.m1 hE
     replace h108:=h108.m1 hE
     replace h112:=h112.m2 hE
     obtain ⟨vS,hr⟩:∃ r,cc ac bd=r:=⟨_,rfl⟩
     replace hm:=hm vS hr
     rw [hr] at hp
     clear hr
     subst hp
     refine oPe T hS 2 [15,16,17] [(19,B (decide (vS < 0)))] fun a hS=>?_
     rcases bft (decide (vS < 0)) with hb | hb
     ·replace hS:=hS.lit (t:=19) kr hb
      replace hm:=hm.1 hb
      refine oPe T hS 2 [] [(20,Sl a1 l_ c1),(21,I bd)] fun a hS=>?_
      obtain ⟨hq,hm⟩:=hm
      refine op1 (index (e:=102) (k:=.i64) T hS kr kr kr kr h107 kr kr hq.1 hq.2 ?_)
      intro Gs a h141 hS
      refine op1 (e7 (off:=3) (fsz:=1) (ft:=3) (TF:=tI) (y:=(gi l_ bd).End) T hS kr kr kr h141 kr kr kr (fun cs h=>lV h) ?_)
      intro I7 a h143 hS
      refine op1 (dL T hS kr kr kr h143 rfl kr ?_)
      intro v144 a hv hS
      cases hv
      refine ePe T hS [19,20,21,22,23,24] [(28,B ((((gi l_ bd).End) == (-1)) == pending))] fun a hS=>?_
      exact ⟨Z,_,ce,((((gi l_ bd).End) == (-1)) == pending),eR,d9,hm,hS.sl _,hO,h107,h108,h112⟩
     replace hS:=hS.lit (t:=19) kr hb
     replace hm:=hm.2 hb
     refine ePe T hS [19] [(28,B false)] fun a hS=>?_
     exact ⟨Z,_,ce,false,eR,d9,hm,hS.sl _,hO,h107,h108,h112⟩
    rintro a CA ⟨Z,wG,aR,mC,ov,oo,hm,hS,hO,h120,h121,h125⟩
    unfold VC38_J3 at hm
    refine aG hS (b:=mC) kr (fun hb=>?_) fun hb=>?_
    ·replace hm:=hm.1 hb
     refine region ?_
     refine oPe T hS 2 [28] [(29,Sl ov aR oo),(30,I bd)] fun a hS=>?_
     refine op1 (lit (E:=3) (col:=0) (T:=tI) (vals:=[.int .i64 bd]) (ys:=[bd]) T hS kr kr kr kr (by exact ⟨rfl,trivial⟩) rfl kr kr kr kr ?_)
     intro b127 a qS q7 hE h130 hN hS
     clear hN
     replace hO:=hO.m2 hE
     replace h120:=h120.m1 hE
     replace h121:=h121.m1 hE
     replace h125:=h125.m2 hE
     replace h130:=h130.rs0
     obtain ⟨hq,hm⟩:=hm
     obtain ⟨news,hN⟩:=h130.src
     refine op1 (append (E:=3) (T:=tI) (col:=1007) (xs:=aR) T hS kr kr kr kr h125 hN kr kr kr kr hq ?_)
     intro ou ol a oW ow hE h133 hS
     clear hq hN
     clear h125
     replace hO:=hO.m2 hE
     replace h120:=h120.m1 hE
     replace h121:=h121.m1 hE
     replace h130:=h130.m1 hE
     refine ePe T hS [30,31,32] [(7,Sl ou (aR++[bd]) ol)] fun a hS=>?_
     exact ⟨Z,_,aR++[bd],ou,ol,hm,hS.sl _,hO,h120,h121,h133⟩
    replace hm:=hm.2 hb
    refine aJ ?_
    exact ⟨Z,_,aR,ov,oo,hm,hS.sl _,hO,h120,h121,h125⟩
   rintro a Ab ⟨Z,Gn,aY,kQ,kP,hm,hS,hO,h114,h115,h119⟩
   unfold VC38_J2 at hm
   refine region (ePe T hS [] [(8,I (wR (bd+1)))] fun a hS=>?_)
   exact ⟨⟨aY,wR (bd+1)⟩,⟨Z,_,kQ,kP,hm.1,hS.sl _,hO,h114,h115,h119⟩,hm.2⟩
  replace hm:=hm.2 hb
  refine cb (by rfl) ?_
  exact ⟨Z,_,ce,eR,d9,hm,hS.sl _,hO,h112⟩
 rintro a EV ⟨Z,Gl,bv,dm,dl,hm,hS,hO,h104⟩
 unfold VC38_J1 at hm
 refine rPe T hS [7] [(6,Sl dm bv dl)] fun a hS=>?_
 refine aV ?_
 obtain ⟨ox,hE,hF⟩:=h104.freeze (by decide)
 replace hS:=hS.ev hE (cq kr)
 replace hO:=hO.m2 hE
 have h106:=hF; clear hE hF
 exact fin T hS hO (fun c=>c) rfl (r:=[.slice dm bv.length dl]) kr (fun X' hM hC=>⟨bv,hm,dm,dl,rfl,h106.m0 hM⟩)
theorem C38 (Ft:S66) (v:∀ (l_:List ab) (ac:List aa) (pending:Bool),rp l_ ac pending->VC38 l_ ac pending (fun r=>r=eF l_ ac pending)):S38:=by
 intro w X l_ ac pending a1 c1 a2 c2   hp h1 h2
 refine (W38 Ft w X l_ ac pending a1 c1 a2 c2   _ (v l_ ac pending hp) h1 h2).mono ?_
 rintro _ _ _ _ ⟨r,rfl,h⟩
 exact h
theorem W114 (w0) (X0) (i_:Int) (al:List Bool) (a1) (c1) (b1) (i1) (Q:Bool->Prop) (hm:VC114 i_ al Q) (h1:RS dE w0 X0 a1 al c1) (fb:Cell w0 X0 b1 i1 158 [.slice a1 al.length c1]) (hA:dP [i1]) :
  Ret Tryz.prog 114 #[.int .i64 i_,.pointer (some ⟨b1,0,none⟩)] (pR [i1]) w0 X0 (fun w X' v=>∃ r,Q r/\v=.bool r/\Cell w X' b1 i1 158 [.slice a1 al.length c1]):=by
 unfold VC114 at hm
 replace hm:=hm (h1.sm kr)
 refine fv Tryz.func114 rfl (dB [(i1,901)]) (fun id=>(bif Nat.beq id 901 then b1 else 0)) (args:=[I i_,Pt 901 0]) (bxs:=[(901,(158,[Sl a1 al c1]))]) kr rfl (bn.cons kr (fb.map (bK 0 hA.1 rfl)) bn.nil) (fe (fun q hq=>(hA.2 q.1 (List.mem_map.2 ⟨q,hq,rfl⟩)).1)) ?_
 intro a hS hO hM
 have hP:Pin [(901,b1)] (fun id=>(bif Nat.beq id 901 then b1 else 0)):=by intro q hq; simp at hq; rcases hq with rfl <;> rfl
 generalize (fun id=>(bif Nat.beq id 901 then b1 else 0))=Z at hS hP
 clear fb
 replace h1:=h1.m0 hM
 refine rPe T hS [] [] fun a hS=>?_
 refine bl ?_
 refine oPe T hS 5 [] [(8,B (decide (i_ < (lN al))))] fun a hS=>?_
 rcases bft (decide (i_ < (lN al))) with hb | hb
 ·replace hS:=hS.lit (t:=8) kr hb
  replace hm:=hm.1 hb
  refine oPe T hS 2 [0,1] [(9,Sl a1 al c1),(10,I i_)] fun a hS=>?_
  obtain ⟨hq,hm⟩:=hm
  refine op1 (index (e:=4) (k:=.i64) T hS kr kr kr kr h1 kr kr hq.1 hq.2 ?_)
  intro Jd a h102 hS
  refine op1 (dL T hS kr kr kr h102 rfl kr ?_)
  intro v103 a hv hS
  cases hv
  refine ePe T hS [8,9,10,11,12] [(3,B (gi al i_))] fun a hS=>?_
  refine aV ?_
  exact gy T hS hO (fun c h=>bT kr h) (fun c h=>bU (l:=[(i1,901)]) h) (bO [(i1,901)]) rfl (r:=[.bool (gi al i_)]) kr (fun X' hM hC=>⟨(gi al i_),hm,rfl,((hS.cell (id:=901) (t:=158) (cs:=[Sl a1 al c1]) kr).out (f:=(bO [(i1,901)])) hC kr kr (hP.at 0 rfl))⟩)
 replace hS:=hS.lit (t:=8) kr hb
 replace hm:=hm.2 hb
 refine ePe T hS [0,1,8] [(3,B false)] fun a hS=>?_
 refine aV ?_
 exact gy T hS hO (fun c h=>bT kr h) (fun c h=>bU (l:=[(i1,901)]) h) (bO [(i1,901)]) rfl (r:=[.bool false]) kr (fun X' hM hC=>⟨false,hm,rfl,((hS.cell (id:=901) (t:=158) (cs:=[Sl a1 al c1]) kr).out (f:=(bO [(i1,901)])) hC kr kr (hP.at 0 rfl))⟩)
theorem C114 (v:∀ (i_:Int) (al:List Bool),ud i_ al->VC114 i_ al (fun r=>r=eS i_ al)):S114:=by
 intro w X i_ al a1 c1  b1 i1 hp h1 fb hA
 refine (W114 w X i_ al a1 c1  b1 i1 _ (v i_ al hp) h1 fb hA).mono ?_
 rintro _ _ _ _ ⟨r,rfl,h⟩
 exact h
theorem W112 (C2:S114) (wd:S63) (w0) (X0) (l_:List ab) (done:List Bool) (a1) (c1) (a2) (c2) (Q:(List Int)->Prop) (hm:VC112 l_ done Q) (h1:RS aq w0 X0 a1 l_ c1) (h2:RS dE w0 X0 a2 done c2) :
  Ret Tryz.prog 112 #[.slice a1 l_.length c1,.slice a2 done.length c2] aI w0 X0 (fun w X' v=>∃ r,Q r/\∃ co cn,v=.slice co r.length cn/\RS tI w X' co r cn):=by
 unfold VC112 at hm
 replace hm:=hm (h1.sm kr)
 replace hm:=hm (h2.sm kr)
 refine enter Tryz.func112 rfl (vals:=[.slice a1 l_.length c1,.slice a2 done.length c2]) kr ?_
 intro Z a hS hO hM
 replace h1:=h1.m0 hM
 replace h2:=h2.m0 hM
 refine rM T hS ⟨[(0,Sl a1 l_ c1),(3,Pt 4 0)],[(4,(158,[Sl a2 done c2]))]⟩ fun Z a JI Ml hS hE hr=>?_
 replace hO:=hO.m2 hE
 replace h1:=h1.m1 hE
 replace h2:=h2.m1 hE
 clear hE hr
 refine rPe T hS [3] [(5,.f (.func 114) [] [.p 4 0])] fun a hS=>?_
 refine rPe T hS [] [(6,V (.slice none 0 0))] fun a hS=>?_
 refine b5 (fun a w=>∃ (Z:Nat->Nat) (X:Nat->Nat) (bv:List Int) (dm:Option Addr) (dl:Nat),VC112_J1 Q bv/\St Tryz.f112.ntmps ⟨[(6,Sl dm bv dl)],[]⟩ Z a w X/\Old w0 X0 w X/\OS tI 3 w X 1005 dm bv dl) ?_ ?_
 ·refine rPe T hS [] [(13,Sl a1 l_ c1),(14,I (lN l_)),(15,I 0)] fun a hS=>?_
  refine aK ?_
  obtain ⟨I1,μ1,ci,hm⟩:=hm
  refine cg (σ:=(List Int) × Int) (fun s a w=>∃ Z X cx cw,I1 s.1 s.2/\St Tryz.f112.ntmps ⟨[(0,Sl a1 l_ c1),(5,.f (.func 114) [] [.p 4 0]),(6,Sl cx s.1 cw),(13,Sl a1 l_ c1),(14,I (lN l_)),(15,I s.2)],[(4,(158,[Sl a2 done c2]))]⟩ Z a w X/\Old w0 X0 w X/\RS aq w X a1 l_ c1/\OS tI 3 w X 1005 cx s.1 cw/\RS aq w X a1 l_ c1/\RS dE w X a2 done c2) (fun s=>μ1 s.1 s.2) (⟨[],0⟩) ?_ ?_
  ·exact ⟨Z,_,none,0,ci,hS.sl _,hO,h1,(OS.nil _ _ _ _ _),h1,h2⟩
  rintro ⟨dt,bd⟩ a GU ⟨Z,Mm,cx,cw,hI,hS,hO,h107,h111,h112,h114⟩
  replace hm:=hm dt bd hI
  clear hI ci
  refine rPe T hS [] [(16,B (decide (bd < (lN l_))))] fun a hS=>?_
  refine bc ?_
  refine aG hS (b:=decide (bd < (lN l_))) kr (fun hb=>?_) fun hb=>?_
  ·replace hm:=hm.1 hb
   refine aJ ?_
   refine b5 (fun a w=>∃ (Z:Nat->Nat) (X:Nat->Nat) (aY:List Int) (kQ:Option Addr) (kP:Nat),VC112_J2 I1 μ1 dt bd aY/\St Tryz.f112.ntmps ⟨[(0,Sl a1 l_ c1),(5,.f (.func 114) [] [.p 4 0]),(6,Sl kQ aY kP),(13,Sl a1 l_ c1),(14,I (lN l_)),(15,I bd)],[(4,(158,[Sl a2 done c2]))]⟩ Z a w X/\Old w0 X0 w X/\RS aq w X a1 l_ c1/\OS tI 3 w X 1005 kQ aY kP/\RS aq w X a1 l_ c1/\RS dE w X a2 done c2) ?_ ?_
   ·refine aK ?_
    refine bl ?_
    refine oPe T hS 1 [16] [(17,I bd)] fun a hS=>?_
    obtain ⟨hq,hm⟩:=hm
    refine op1 (index (e:=102) (k:=.i64) T hS kr kr kr kr h112 kr kr hq.1 hq.2 ?_)
    intro Cd a h123 hS
    refine op1 (eD T hS kr kr kr h123 kr kr ?_)
    intro v124 a hv hS
    subst hv
    refine eM T hS ⟨[(0,Sl a1 l_ c1),(5,.f (.func 114) [] [.p 4 0]),(6,Sl cx dt cw),(7,I bd),(8,Pt 9 0),(13,Sl a1 l_ c1),(14,I (lN l_)),(15,I bd)],[(4,(158,[Sl a2 done c2])),(9,(102,(cP (gi l_ bd))))]⟩ fun Z a EQ IM hS hE hr=>?_
    replace hO:=hO.m2 hE
    replace h107:=h107.m1 hE
    replace h111:=h111.m2 hE
    replace h112:=h112.m1 hE
    replace h114:=h114.m1 hE
    clear hE hr
    refine bl ?_
    refine oPe T hS 2 [] [(20,.f (.func 114) [] [.p 4 0]),(21,I bd)] fun a hS=>?_
    obtain ⟨hq,hm⟩:=hm
    refine op1 (jK (fi:=[]) (cp:=[.p 4 0]) hS kr kr hb114 kr kr (C2 _ _ bd done a2 c2 (Z 4) 4 hq h114 (hS.cell (id:=4) (t:=158) (cs:=[Sl a2 done c2]) kr) ⟨by decide,by decide⟩) ?_)
    intro v125 a r9 pc hE hp hS
    replace hO:=hO.m2 hE
    replace h107:=h107.m1 hE
    replace h111:=h111.m2 hE
    replace h112:=h112.m1 hE
    replace h114:=h114.m1 hE
    obtain ⟨hp,ut⟩:=hp
    obtain ⟨bI,hr⟩:∃ r,eS bd done=r:=⟨_,rfl⟩
    replace hm:=hm bI hr
    rw [hr] at hp
    clear hr
    subst hp
    replace hS:=hS.cB (id:=4) (t:=158) (cs:=[Sl a2 done c2]) kr ut
    clear ut
    refine ePe T hS [20,21,22] [(9,B (!bI))] fun a hS=>?_
    refine b5 (fun a w=>∃ (Z:Nat->Nat) (X:Nat->Nat) (fE:List Int) (fU:Bool) (gD:Option Addr) (gB:Nat),VC112_J3 I1 μ1 dt bd fE fU/\St Tryz.f112.ntmps ⟨[(0,Sl a1 l_ c1),(5,.f (.func 114) [] [.p 4 0]),(6,Sl gD fE gB),(7,I bd),(9,B fU),(13,Sl a1 l_ c1),(14,I (lN l_)),(15,I bd)],[(4,(158,[Sl a2 done c2]))]⟩ Z a w X/\Old w0 X0 w X/\RS aq w X a1 l_ c1/\OS tI 3 w X 1005 gD fE gB/\RS aq w X a1 l_ c1/\RS dE w X a2 done c2) ?_ ?_
    ·refine rPe T hS [] [(24,Sl a1 l_ c1),(25,I (lN l_)),(26,I 0)] fun a hS=>?_
     refine aK ?_
     obtain ⟨I2,μ2,ci,hm⟩:=hm
     refine cg (σ:=(List Int) × Bool × Int) (fun s a w=>∃ Z X j6 jY,I2 s.1 s.2.1 s.2.2/\St Tryz.f112.ntmps ⟨[(0,Sl a1 l_ c1),(5,.f (.func 114) [] [.p 4 0]),(6,Sl j6 s.1 jY),(7,I bd),(8,Pt 9 0),(9,B s.2.1),(13,Sl a1 l_ c1),(14,I (lN l_)),(15,I bd),(24,Sl a1 l_ c1),(25,I (lN l_)),(26,I s.2.2)],[(4,(158,[Sl a2 done c2])),(9,(102,(cP (gi l_ bd))))]⟩ Z a w X/\Old w0 X0 w X/\RS aq w X a1 l_ c1/\OS tI 3 w X 1005 j6 s.1 jY/\RS aq w X a1 l_ c1/\RS aq w X a1 l_ c1/\RS dE w X a2 done c2) (fun s=>μ2 s.1 s.2.1 s.2.2) (⟨dt,(!bI),0⟩) ?_ ?_
     ·exact ⟨Z,_,cx,cw,ci,hS.sl _,hO,h107,h111,h112,h107,h114⟩
     rintro ⟨l8,iY,jg⟩ a JM ⟨Z,IO,j6,jY,hI,hS,hO,h147,h151,h153,h154,h156⟩
     replace hm:=hm l8 iY jg hI
     clear hI ci
     refine rPe T hS [] [(27,B (decide (jg < (lN l_))))] fun a hS=>?_
     refine bc ?_
     refine aG hS (b:=decide (jg < (lN l_))) kr (fun hb=>?_) fun hb=>?_
     ·replace hm:=hm.1 hb
      refine aJ ?_
      refine b5 (fun a w=>∃ (Z:Nat->Nat) (X:Nat->Nat) (z4:List Int) (qQ:Bool) (DF:Option Addr) (Du:Nat),VC112_J4 I2 μ2 l8 iY jg z4 qQ/\St Tryz.f112.ntmps ⟨[(0,Sl a1 l_ c1),(5,.f (.func 114) [] [.p 4 0]),(6,Sl DF z4 Du),(7,I bd),(8,Pt 9 0),(9,B qQ),(13,Sl a1 l_ c1),(14,I (lN l_)),(15,I bd),(24,Sl a1 l_ c1),(25,I (lN l_)),(26,I jg)],[(4,(158,[Sl a2 done c2])),(9,(102,(cP (gi l_ bd))))]⟩ Z a w X/\Old w0 X0 w X/\RS aq w X a1 l_ c1/\OS tI 3 w X 1005 DF z4 Du/\RS aq w X a1 l_ c1/\RS aq w X a1 l_ c1/\RS dE w X a2 done c2) ?_ ?_
      ·refine aK ?_
       refine bl ?_
       refine oPe T hS 1 [27] [(28,I jg)] fun a hS=>?_
       obtain ⟨hq,hm⟩:=hm
       refine op1 (index (e:=102) (k:=.i64) T hS kr kr kr kr h154 kr kr hq.1 hq.2 ?_)
       intro Q0 a h167 hS
       refine op1 (eD T hS kr kr kr h167 kr kr ?_)
       intro v168 a hv hS
       subst hv
       refine eM T hS ⟨[(0,Sl a1 l_ c1),(5,.f (.func 114) [] [.p 4 0]),(6,Sl j6 l8 jY),(7,I bd),(8,Pt 9 0),(9,B iY),(10,I jg),(11,Pt 12 0),(13,Sl a1 l_ c1),(14,I (lN l_)),(15,I bd),(24,Sl a1 l_ c1),(25,I (lN l_)),(26,I jg)],[(4,(158,[Sl a2 done c2])),(9,(102,(cP (gi l_ bd)))),(12,(102,(cP (gi l_ jg))))]⟩ fun Z a z7 B2 hS hE hr=>?_
       replace hO:=hO.m2 hE
       replace h147:=h147.m1 hE
       replace h151:=h151.m2 hE
       replace h153:=h153.m1 hE
       replace h154:=h154.m1 hE
       replace h156:=h156.m1 hE
       clear hE hr
       refine region ?_
       refine oPe T hS 2 [] [(32,B iY)] fun a hS=>?_
       rcases bft iY with hb | hb
       ·replace hS:=hS.lit (t:=32) kr hb
        replace hm:=hm.1 hb
        refine oPe T hS 2 [10] [(33,.f (.func 114) [] [.p 4 0]),(34,I jg)] fun a hS=>?_
        obtain ⟨hq,hm⟩:=hm
        refine op1 (jK (fi:=[]) (cp:=[.p 4 0]) hS kr kr hb114 kr kr (C2 _ _ jg done a2 c2 (Z 4) 4 hq h156 (hS.cell (id:=4) (t:=158) (cs:=[Sl a2 done c2]) kr) ⟨by decide,by decide⟩) ?_)
        intro v169 a JR Mq hE hp hS
        replace hO:=hO.m2 hE
        replace h147:=h147.m1 hE
        replace h151:=h151.m2 hE
        replace h153:=h153.m1 hE
        replace h154:=h154.m1 hE
        replace h156:=h156.m1 hE
        obtain ⟨hp,Ee⟩:=hp
        obtain ⟨vQ,hr⟩:∃ r,eS jg done=r:=⟨_,rfl⟩
        replace hm:=hm vQ hr
        rw [hr] at hp
        clear hr
        subst hp
        replace hS:=hS.cB (id:=4) (t:=158) (cs:=[Sl a2 done c2]) kr Ee
        clear Ee
        refine oPe T hS 1 [33,34,35] [(36,B vQ)] fun a hS=>?_
        rcases bft vQ with hb | hb
        ·replace hS:=hS.lit (t:=36) kr hb
         replace hm:=hm.1 hb
         refine eP T hS ⟨[(0,Sl a1 l_ c1),(5,.f (.func 114) [] [.p 4 0]),(6,Sl j6 l8 jY),(7,I bd),(8,Pt 9 0),(9,B true),(13,Sl a1 l_ c1),(14,I (lN l_)),(15,I bd),(24,Sl a1 l_ c1),(25,I (lN l_)),(26,I jg)],[(4,(158,[Sl a2 done c2])),(9,(102,(cP (gi l_ bd))))]⟩ fun a hS=>?_
         exact ⟨Z,_,l8,true,j6,jY,hm,hS.sl _,hO,h147,h151,h153,h154,h156⟩
        replace hS:=hS.lit (t:=36) kr hb
        replace hm:=hm.2 hb
        refine oP T hS 2 ⟨[(0,Sl a1 l_ c1),(5,.f (.func 114) [] [.p 4 0]),(6,Sl j6 l8 jY),(7,I bd),(8,Pt 9 0),(9,B iY),(13,Sl a1 l_ c1),(14,I (lN l_)),(15,I bd),(24,Sl a1 l_ c1),(25,I (lN l_)),(26,I jg),(32,B true),(36,B false),(37,V (.agg #[.int .i64 ((gi l_ jg).aj),.int .i64 ((gi l_ jg).Kind),.int .i64 ((gi l_ jg).aF),.int .i64 ((gi l_ jg).End),.int .i64 ((gi l_ jg).Result)])),(38,V (.agg #[.int .i64 ((gi l_ bd).aj),.int .i64 ((gi l_ bd).Kind),.int .i64 ((gi l_ bd).aF),.int .i64 ((gi l_ bd).End),.int .i64 ((gi l_ bd).Result)]))],[(4,(158,[Sl a2 done c2])),(9,(102,(cP (gi l_ bd))))]⟩ fun a hS=>?_
        refine op1 (call hS kr kr hb63 kr (fun _ _=>rfl) (wd _ _ (gi l_ jg) (gi l_ bd)) ?_)
        intro v174 a GV Gg hE hp hS
        replace hO:=hO.m2 hE
        replace h147:=h147.m1 hE
        replace h151:=h151.m2 hE
        replace h153:=h153.m1 hE
        replace h154:=h154.m1 hE
        replace h156:=h156.m1 hE
        obtain ⟨yz,hr⟩:∃ r,bh (gi l_ jg) (gi l_ bd)=r:=⟨_,rfl⟩
        replace hm:=hm yz hr
        rw [hr] at hp
        clear hr
        subst hp
        refine ePe T hS [32,36,37,38,39] [(9,B (!yz))] fun a hS=>?_
        exact ⟨Z,_,l8,(!yz),j6,jY,hm,hS.sl _,hO,h147,h151,h153,h154,h156⟩
       replace hS:=hS.lit (t:=32) kr hb
       replace hm:=hm.2 hb
       refine eP T hS ⟨[(0,Sl a1 l_ c1),(5,.f (.func 114) [] [.p 4 0]),(6,Sl j6 l8 jY),(7,I bd),(8,Pt 9 0),(9,B false),(13,Sl a1 l_ c1),(14,I (lN l_)),(15,I bd),(24,Sl a1 l_ c1),(25,I (lN l_)),(26,I jg)],[(4,(158,[Sl a2 done c2])),(9,(102,(cP (gi l_ bd))))]⟩ fun a hS=>?_
       exact ⟨Z,_,l8,false,j6,jY,hm,hS.sl _,hO,h147,h151,h153,h154,h156⟩
      rintro a JN ⟨Z,Qs,z4,qQ,DF,Du,hm,hS,hO,h157,h161,h163,h164,h165⟩
      unfold VC112_J4 at hm
      refine region (ePe T hS [] [(26,I (wR (jg+1)))] fun a hS=>?_)
      exact ⟨⟨z4,qQ,wR (jg+1)⟩,⟨Z,_,DF,Du,hm.1,hS.sl _,hO,h157,h161,h163,h164,h165⟩,hm.2⟩
     replace hm:=hm.2 hb
     refine cb (by rfl) ?_
     exact ⟨Z,_,l8,iY,j6,jY,hm,hS.sl _,hO,h147,h151,h153,h156⟩
    rintro a JL ⟨Z,Mn,fE,fU,gD,gB,hm,hS,hO,h130,h134,h136,h137⟩
    unfold VC112_J3 at hm
    refine rPe T hS [9] [(44,B fU)] fun a hS=>?_
    refine aG hS (b:=fU) kr (fun hb=>?_) fun hb=>?_
    ·replace hm:=hm.1 hb
     refine region ?_
     refine oPe T hS 2 [7,44] [(45,Sl gD fE gB),(46,I bd)] fun a hS=>?_
     refine op1 (lit (E:=3) (col:=0) (T:=tI) (vals:=[.int .i64 bd]) (ys:=[bd]) T hS kr kr kr kr (by exact ⟨rfl,trivial⟩) rfl kr kr kr kr ?_)
     intro b138 a r7 vh hE h141 hN hS
     clear hN
     replace hO:=hO.m2 hE
     replace h130:=h130.m1 hE
     replace h134:=h134.m2 hE
     replace h136:=h136.m1 hE
     replace h137:=h137.m1 hE
     replace h141:=h141.rs0
     obtain ⟨hq,hm⟩:=hm
     obtain ⟨news,hN⟩:=h141.src
     refine op1 (append (E:=3) (T:=tI) (col:=1005) (xs:=fE) T hS kr kr kr kr h134 hN kr kr kr kr hq ?_)
     intro vf u4 a py q6 hE h144 hS
     clear hq hN
     clear h134
     replace hO:=hO.m2 hE
     replace h130:=h130.m1 hE
     replace h136:=h136.m1 hE
     replace h137:=h137.m1 hE
     replace h141:=h141.m1 hE
     refine ePe T hS [46,47,48] [(6,Sl vf (fE++[bd]) u4)] fun a hS=>?_
     exact ⟨Z,_,fE++[bd],vf,u4,hm,hS.sl _,hO,h130,h144,h136,h137⟩
    replace hm:=hm.2 hb
    refine aJ ?_
    exact ⟨Z,_,fE,gD,gB,hm,hS.sl _,hO,h130,h134,h136,h137⟩
   rintro a JK ⟨Z,IL,aY,kQ,kP,hm,hS,hO,h115,h119,h120,h121⟩
   unfold VC112_J2 at hm
   refine region (ePe T hS [] [(15,I (wR (bd+1)))] fun a hS=>?_)
   exact ⟨⟨aY,wR (bd+1)⟩,⟨Z,_,kQ,kP,hm.1,hS.sl _,hO,h115,h119,h120,h121⟩,hm.2⟩
  replace hm:=hm.2 hb
  refine cb (by rfl) ?_
  exact ⟨Z,_,dt,cx,cw,hm,hS.sl _,hO,h111⟩
 rintro a JJ ⟨Z,IK,bv,dm,dl,hm,hS,hO,h104⟩
 unfold VC112_J1 at hm
 refine rPe T hS [6] [(4,Sl dm bv dl)] fun a hS=>?_
 refine aV ?_
 obtain ⟨ox,hE,hF⟩:=h104.freeze (by decide)
 replace hS:=hS.ev hE (cq kr)
 replace hO:=hO.m2 hE
 have h106:=hF; clear hE hF
 exact fin T hS hO (fun c=>c) rfl (r:=[.slice dm bv.length dl]) kr (fun X' hM hC=>⟨bv,hm,dm,dl,rfl,h106.m0 hM⟩)
theorem C112 (C2:S114) (wd:S63) (v:∀ (l_:List ab) (done:List Bool),xj l_ done->VC112 l_ done (fun r=>r=eO l_ done)):S112:=by
 intro w X l_ done a1 c1 a2 c2   hp h1 h2
 refine (W112 C2 wd w X l_ done a1 c1 a2 c2   _ (v l_ done hp) h1 h2).mono ?_
 rintro _ _ _ _ ⟨r,rfl,h⟩
 exact h
theorem W105 (qn:S103) (FD:S112) (sR:S53) (w0) (X0) (o_:ah) (l_:List ab) (state:Int) (done:List Bool) (a1) (c1) (a2) (c2) (a3) (c3) (cD) (Q:(List aa)->Prop) (hm:VC105 o_ l_ state done Q) (h1:RS az w0 X0 a1 o_.Rows c1) (h2:RS aq w0 X0 a2 l_ c2) (h3:RS dE w0 X0 a3 done c3) :
  Ret Tryz.prog 105 #[.agg #[.int .i64 o_.ar,.int .i64 o_.aw,.int .i64 o_.aE,.slice a1 o_.Rows.length c1],.slice a2 l_.length c2,.int .i64 state,.slice a3 done.length c3] aI w0 X0 (fun w X' v=>∃ r,Q r/\∃ co cn,v=.slice co r.length cn/\OS au 56 w X' cD co r cn):=by
 unfold VC105 at hm
 replace hm:=hm (h1.sm kr)
 replace hm:=hm (h2.sm kr)
 replace hm:=hm (h3.sm kr)
 refine enter Tryz.func105 rfl (vals:=[.agg #[.int .i64 o_.ar,.int .i64 o_.aw,.int .i64 o_.aE,.slice a1 o_.Rows.length c1],.slice a2 l_.length c2,.int .i64 state,.slice a3 done.length c3]) kr ?_
 intro Z a hS hO hM
 replace h1:=h1.m0 hM
 replace h2:=h2.m0 hM
 replace h3:=h3.m0 hM
 refine rM T hS ⟨[(1,Sl a2 l_ c2),(2,I state),(3,Sl a3 done c3),(4,Pt 5 0)],[(5,(48,(cO o_ a1 c1)))]⟩ fun Z a ER IP hS hE hr=>?_
 replace hO:=hO.m2 hE
 replace h1:=h1.m1 hE
 replace h2:=h2.m1 hE
 replace h3:=h3.m1 hE
 clear hE hr
 refine bc ?_
 refine bl ?_
 refine oPe T hS 1 [] [(18,V (.agg #[.int .i64 o_.ar,.int .i64 o_.aw,.int .i64 o_.aE,.slice a1 o_.Rows.length c1]))] fun a hS=>?_
 obtain ⟨hq,hm⟩:=hm
 refine op1 (call hS kr kr hb53 kr (fun _ _=>rfl) (sR _ _ o_ a1 c1 hq h1) ?_)
 intro v101 a eX e8 hE hp hS
 replace hO:=hO.m2 hE
 replace h1:=h1.m1 hE
 replace h2:=h2.m1 hE
 replace h3:=h3.m1 hE
 obtain ⟨am,hr⟩:∃ r,br o_=r:=⟨_,rfl⟩
 replace hm:=hm am hr
 rw [hr] at hp
 clear hr
 subst hp
 refine ePe T hS [18,19] [(10,I am.2)] fun a hS=>?_
 refine rPe T hS [10] [(23,B (am.2 != 0))] fun a hS=>?_
 refine aG hS (b:=(am.2 != 0)) kr (fun hb=>?_) fun hb=>?_
 ·replace hm:=hm.1 hb
  refine rP T hS ⟨[(8,V (.slice none 0 0))],[]⟩ fun a hS=>?_
  refine aV ?_
  exact fin T hS hO (fun c=>c) rfl (r:=[.slice none 0 0]) kr (fun X' hM hC=>⟨[],hm,none,0,rfl,OS.nil _ _ _ _ _⟩)
 replace hm:=hm.2 hb
 refine aJ ?_
 refine rPe T hS [23] [(11,V (.slice none 0 0))] fun a hS=>?_
 refine b5 (fun a w=>∃ (Z:Nat->Nat) (X:Nat->Nat) (fG:List aa) (iL:Option Addr) (iJ:Nat),VC105_J1 Q fG/\St Tryz.f105.ntmps ⟨[(11,Sl iL fG iJ)],[]⟩ Z a w X/\Old w0 X0 w X/\OS au 56 w X 1009 iL fG iJ) ?_ ?_
 ·refine bl ?_
  refine oPe T hS 2 [3] [(24,Sl a2 l_ c2),(25,Sl a3 done c3)] fun a hS=>?_
  obtain ⟨hq,hm⟩:=hm
  refine op1 (call hS kr kr hb112 kr (fun _ _=>rfl) (FD _ _ l_ done a2 c2 a3 c3 hq h2 h3) ?_)
  intro v109 a E3 Gr hE hp hS
  replace hO:=hO.m2 hE
  replace h1:=h1.m1 hE
  replace h2:=h2.m1 hE
  replace h3:=h3.m1 hE
  obtain ⟨jf,i9,hp,h115⟩:=hp
  obtain ⟨bH,hr⟩:∃ r,eO l_ done=r:=⟨_,rfl⟩
  replace hm:=hm bH hr
  rw [hr] at hp h115
  clear hr
  subst hp
  replace hm:=hm (h115.sm kr)
  refine ePe T hS [24,25] [(27,I (lN bH)),(28,I 0)] fun a hS=>?_
  refine aK ?_
  obtain ⟨I1,μ1,ci,hm⟩:=hm
  refine cg (σ:=(List aa) × Int) (fun s a w=>∃ Z X gP gM,I1 s.1 s.2/\St Tryz.f105.ntmps ⟨[(1,Sl a2 l_ c2),(2,I state),(4,Pt 5 0),(11,Sl gP s.1 gM),(26,Sl jf bH i9),(27,I (lN bH)),(28,I s.2)],[(5,(48,(cO o_ a1 c1)))]⟩ Z a w X/\Old w0 X0 w X/\RS aq w X a2 l_ c2/\OS au 56 w X 1009 gP s.1 gM/\RS tI w X jf bH i9/\RS az w X a1 o_.Rows c1) (fun s=>μ1 s.1 s.2) (⟨[],0⟩) ?_ ?_
  ·exact ⟨Z,_,none,0,ci,hS.sl _,hO,h2,(OS.nil _ _ _ _ _),h115,h1⟩
  rintro ⟨dI,aR⟩ a JP ⟨Z,Gg,gP,gM,hI,hS,hO,h116,h120,h121,h123⟩
  replace hm:=hm dI aR hI
  clear hI ci
  refine rPe T hS [] [(29,B (decide (aR < (lN bH))))] fun a hS=>?_
  refine bc ?_
  refine aG hS (b:=decide (aR < (lN bH))) kr (fun hb=>?_) fun hb=>?_
  ·replace hm:=hm.1 hb
   refine aJ ?_
   refine b5 (fun a w=>∃ (Z:Nat->Nat) (X:Nat->Nat) (z6:List aa) (vg:Option Addr) (u5:Nat),VC105_J2 I1 μ1 dI aR z6/\St Tryz.f105.ntmps ⟨[(1,Sl a2 l_ c2),(2,I state),(4,Pt 5 0),(11,Sl vg z6 u5),(26,Sl jf bH i9),(27,I (lN bH)),(28,I aR)],[(5,(48,(cO o_ a1 c1)))]⟩ Z a w X/\Old w0 X0 w X/\RS aq w X a2 l_ c2/\OS au 56 w X 1009 vg z6 u5/\RS tI w X jf bH i9/\RS az w X a1 o_.Rows c1) ?_ ?_
   ·refine aK ?_
    refine bl ?_
    obtain ⟨hq,hm⟩:=hm
    refine op1 (index (e:=3) (k:=.i64) T hS kr kr kr kr h121 kr kr hq.1 hq.2 ?_)
    intro Gu a h132 hS
    refine op1 (dL T hS kr kr kr h132 rfl kr ?_)
    intro v133 a hv hS
    cases hv
    refine ePe T hS [29,30,31] [(13,I (gi bH aR))] fun a hS=>?_
    refine dw [5] mixed hS ?_
    intro tz tp hS hE hD hH
    replace hO:=hO.m2 hE
    replace h116:=h116.m1 hE
    replace h120:=h120.m2 hE
    replace h121:=h121.m1 hE
    replace h123:=h123.m1 hE
    refine tke T [0,1,2,3] [5] hS hH #[true,true,true,true,false,false,false,false,false,false,false,false,false,false,false] 11 [] [(33,V (.agg #[.int .i64 o_.ar,.int .i64 o_.aw,.int .i64 o_.aE,.slice a1 o_.Rows.length c1])),(34,I state),(35,Sl a2 l_ c2),(36,I (gi bH aR))] fun a hS=>?_
    obtain ⟨hq,hm⟩:=hm
    refine db (e:=102) (k:=.i64) T 4 hS kr kr kr (by rfl) kr hH kr kr h116 kr kr hq.1 hq.2 ?_
    intro DP a h137 hS
    have rL:=h137.here
    refine du (off:=1) (fsz:=1) (ft:=3) (TF:=tI) (y:=(gi l_ (gi bH aR)).Kind) 5 T hS kr kr kr (by rfl) kr hH kr h137 kr kr kr (fun cs h=>kf h) ?_
    intro Gt a h139 fy hS
    have xS:=rL
    rw [← fy] at xS
    clear fy
    refine dU T 6 hS kr kr kr (by rfl) kr hH kr h139 xS rfl kr ?_
    intro v140 a hv hS
    cases hv
    refine only 7 kr (by rfl) (call hS kr kr hb103 kr (fun _ _=>rfl) (qn _ _ o_ state ((gi l_ (gi bH aR)).Kind) a1 c1 h123) ?_)
    intro v141 a py q6 hE hp hS
    replace hO:=hO.m2 hE
    replace hD:=hD.ev hE rfl
    replace h116:=h116.m1 hE
    replace h120:=h120.m2 hE
    replace h121:=h121.m1 hE
    replace h123:=h123.m1 hE
    replace h137:=h137.m1 hE
    replace h139:=h139.m1 hE
    obtain ⟨f9,hr⟩:∃ r,cm o_ state ((gi l_ (gi bH aR)).Kind)=r:=⟨_,rfl⟩
    replace hm:=hm f9 hr
    rw [hr] at hp
    clear hr
    subst hp
    replace hS:=hS.sle [] [(40,V (.tuple #[.int .i64 f9.1,.int .i64 f9.2.1,.bool f9.2.2]))]
    refine c8 (bJ.of hS (bks:=[5]) kr hD) ?_
    intro hH
    refine tke T [8,9,10,11,12,13,14] [5] hS hH (tts 15) 0 [33,34,35,36,37,38,39,40] [(15,I f9.2.1),(16,B f9.2.2)] fun a hS=>?_
    refine aU kr ?_
    replace hS:=hS.sle [] []
    refine b5 (fun a w=>∃ (Z:Nat->Nat) (X:Nat->Nat) (l9:List aa) (f8:Bool) (qJ:Option Addr) (qC:Nat),VC105_J3 bH I1 μ1 dI aR f9 l9 f8/\St Tryz.f105.ntmps ⟨[(1,Sl a2 l_ c2),(2,I state),(4,Pt 5 0),(11,Sl qJ l9 qC),(13,I (gi bH aR)),(15,I f9.2.1),(26,Sl jf bH i9),(27,I (lN bH)),(28,I aR),(61,B f8)],[(5,(48,(cO o_ a1 c1)))]⟩ Z a w X/\Old w0 X0 w X/\RS aq w X a2 l_ c2/\OS au 56 w X 1009 qJ l9 qC/\RS tI w X jf bH i9/\RS az w X a1 o_.Rows c1) ?_ ?_
    ·refine region ?_
     refine oPe T hS 2 [16] [(45,B f9.2.2)] fun a hS=>?_
     rcases bft f9.2.2 with hb | hb
     ·replace hS:=hS.lit (t:=45) kr hb
      replace hm:=hm.1 hb
      refine oPe T hS 2 [] [(46,Sl a2 l_ c2),(47,I (gi bH aR))] fun a hS=>?_
      obtain ⟨hq,hm⟩:=hm
      refine op1 (index (e:=102) (k:=.i64) T hS kr kr kr kr h116 kr kr hq.1 hq.2 ?_)
      intro Q2 a h163 hS
      refine op1 (e7 (off:=3) (fsz:=1) (ft:=3) (TF:=tI) (y:=(gi l_ (gi bH aR)).End) T hS kr kr kr h163 kr kr kr (fun cs h=>lV h) ?_)
      intro MA a h165 hS
      refine op1 (dL T hS kr kr kr h165 rfl kr ?_)
      intro v166 a hv hS
      cases hv
      refine oPe T hS 2 [46,47,48,49,50] [(52,B (((gi l_ (gi bH aR)).End) == (-1)))] fun a hS=>?_
      rcases bft (((gi l_ (gi bH aR)).End) == (-1)) with hb | hb
      ·replace hS:=hS.lit (t:=52) kr hb
       replace hm:=hm.1 hb
       refine ePe T hS [45,52] [(61,B true)] fun a hS=>?_
       exact ⟨Z,_,dI,true,gP,gM,hm,hS.sl _,hO,h116,h120,h121,h123⟩
      replace hS:=hS.lit (t:=52) kr hb
      replace hm:=hm.2 hb
      refine oPe T hS 2 [] [(53,Sl a2 l_ c2),(54,I (gi bH aR))] fun a hS=>?_
      obtain ⟨hq,hm⟩:=hm
      refine op1 (index (e:=102) (k:=.i64) T hS kr kr kr kr h116 kr kr hq.1 hq.2 ?_)
      intro QZ a h168 hS
      refine op1 (e7 (off:=4) (fsz:=1) (ft:=3) (TF:=tI) (y:=(gi l_ (gi bH aR)).Result) T hS kr kr kr h168 kr kr kr (fun cs h=>oS h) ?_)
      intro QY a h170 hS
      refine op1 (dL T hS kr kr kr h170 rfl kr ?_)
      intro v171 a hv hS
      cases hv
      refine ePe T hS [45,52,53,54,55,56,57] [(61,B (((gi l_ (gi bH aR)).Result) == f9.2.1))] fun a hS=>?_
      exact ⟨Z,_,dI,(((gi l_ (gi bH aR)).Result) == f9.2.1),gP,gM,hm,hS.sl _,hO,h116,h120,h121,h123⟩
     replace hS:=hS.lit (t:=45) kr hb
     replace hm:=hm.2 hb
     refine ePe T hS [45] [(61,B false)] fun a hS=>?_
     exact ⟨Z,_,dI,false,gP,gM,hm,hS.sl _,hO,h116,h120,h121,h123⟩
    rintro a JQ ⟨Z,IQ,l9,f8,qJ,qC,hm,hS,hO,h145,h149,h150,h152⟩
    unfold VC105_J3 at hm
    refine aG hS (b:=f8) kr (fun hb=>?_) fun hb=>?_
    ·replace hm:=hm.1 hb
     refine region ?_
     refine oPe T hS 4 [13,15,61] [(62,Sl qJ l9 qC),(65,V (.agg #[.int .i64 (gi bH aR),.int .i64 f9.2.1]))] fun a hS=>?_
     refine op1 (lit (E:=56) (col:=0) (T:=au) (vals:=[.agg #[.int .i64 (gi bH aR),.int .i64 f9.2.1]]) (ys:=[(⟨gi bH aR,f9.2.1⟩:aa)]) T hS kr kr kr kr (by exact ⟨rfl,trivial⟩) rfl kr kr kr kr ?_)
     intro b153 a r6 wD hE h156 hN hS
     clear hN
     replace hO:=hO.m2 hE
     replace h145:=h145.m1 hE
     replace h149:=h149.m2 hE
     replace h150:=h150.m1 hE
     replace h152:=h152.m1 hE
     replace h156:=h156.rs0
     obtain ⟨hq,hm⟩:=hm
     obtain ⟨news,hN⟩:=h156.src
     refine op1 (append (E:=56) (T:=au) (col:=1009) (xs:=l9) T hS kr kr kr kr h149 hN kr kr kr kr hq ?_)
     intro zF zt a yg zI hE h159 hS
     clear hq hN
     clear h149
     replace hO:=hO.m2 hE
     replace h145:=h145.m1 hE
     replace h150:=h150.m1 hE
     replace h152:=h152.m1 hE
     replace h156:=h156.m1 hE
     refine ePe T hS [65,66,67] [(11,Sl zF (l9++[(⟨gi bH aR,f9.2.1⟩:aa)]) zt)] fun a hS=>?_
     exact ⟨Z,_,l9++[(⟨gi bH aR,f9.2.1⟩:aa)],zF,zt,hm,hS.sl _,hO,h145,h159,h150,h152⟩
    replace hm:=hm.2 hb
    refine aJ ?_
    exact ⟨Z,_,l9,qJ,qC,hm,hS.sl _,hO,h145,h149,h150,h152⟩
   rintro a GV ⟨Z,Qu,z6,vg,u5,hm,hS,hO,h124,h128,h129,h130⟩
   unfold VC105_J2 at hm
   refine region (ePe T hS [] [(28,I (wR (aR+1)))] fun a hS=>?_)
   exact ⟨⟨z6,wR (aR+1)⟩,⟨Z,_,vg,u5,hm.1,hS.sl _,hO,h124,h128,h129,h130⟩,hm.2⟩
  replace hm:=hm.2 hb
  refine cb (by rfl) ?_
  exact ⟨Z,_,dI,gP,gM,hm,hS.sl _,hO,h120⟩
 rintro a JO ⟨Z,Mo,fG,iL,iJ,hm,hS,hO,h108⟩
 unfold VC105_J1 at hm
 refine rPe T hS [11] [(8,Sl iL fG iJ)] fun a hS=>?_
 refine aV ?_
 exact fin T hS hO (zAc0 cD) rfl (r:=[.slice iL fG.length iJ]) kr (fun X' hM hC=>⟨fG,hm,iL,iJ,rfl,(OS.out (f:=(zAc0 cD)) h108 hM hC kr)⟩)
theorem C105 (qn:S103) (FD:S112) (sR:S53) (v:∀ (o_:ah) (l_:List ab) (state:Int) (done:List Bool),xe o_ l_ state done->VC105 o_ l_ state done (fun r=>r=bG o_ l_ state done)):S105:=by
 intro w X o_ l_ state done a1 c1 a2 c2 a3 c3 cD  hp h1 h2 h3
 refine (W105 qn FD sR w X o_ l_ state done a1 c1 a2 c2 a3 c3 cD  _ (v o_ l_ state done hp) h1 h2 h3).mono ?_
 rintro _ _ _ _ ⟨r,rfl,h⟩
 exact h
theorem W88 (sR:S53) (Fq:S80) (w0) (X0) (o_:ah) (l_:List ab) (jn:Int) (a1) (c1) (a2) (c2) (Q:Int->Prop) (hm:VC88 o_ l_ jn Q) (h1:RS az w0 X0 a1 o_.Rows c1) (h2:RS aq w0 X0 a2 l_ c2) :
  Ret Tryz.prog 88 #[.agg #[.int .i64 o_.ar,.int .i64 o_.aw,.int .i64 o_.aE,.slice a1 o_.Rows.length c1],.slice a2 l_.length c2,.int .i64 jn] aI w0 X0 (fun w X' v=>∃ r,Q r/\v=.int .i64 r):=by
 unfold VC88 at hm
 replace hm:=hm (h1.sm kr)
 replace hm:=hm (h2.sm kr)
 refine enter Tryz.func88 rfl (vals:=[.agg #[.int .i64 o_.ar,.int .i64 o_.aw,.int .i64 o_.aE,.slice a1 o_.Rows.length c1],.slice a2 l_.length c2,.int .i64 jn]) kr ?_
 intro Z a hS hO hM
 replace h1:=h1.m0 hM
 replace h2:=h2.m0 hM
 refine rM T hS ⟨[(1,Sl a2 l_ c2),(2,I jn),(3,Pt 4 0)],[(4,(48,(cO o_ a1 c1)))]⟩ fun Z a pz q8 hS hE hr=>?_
 replace hO:=hO.m2 hE
 replace h1:=h1.m1 hE
 replace h2:=h2.m1 hE
 clear hE hr
 refine bl ?_
 refine oP T hS 1 ⟨[(1,Sl a2 l_ c2),(2,I jn),(12,V (.agg #[.int .i64 o_.ar,.int .i64 o_.aw,.int .i64 o_.aE,.slice a1 o_.Rows.length c1]))],[]⟩ fun a hS=>?_
 obtain ⟨hq,hm⟩:=hm
 refine op1 (call hS kr kr hb53 kr (fun _ _=>rfl) (sR _ _ o_ a1 c1 hq h1) ?_)
 intro v101 a eX e8 hE hp hS
 replace hO:=hO.m2 hE
 replace h1:=h1.m1 hE
 replace h2:=h2.m1 hE
 obtain ⟨am,hr⟩:∃ r,br o_=r:=⟨_,rfl⟩
 replace hm:=hm am hr
 rw [hr] at hp
 clear hr
 subst hp
 refine ePe T hS [12,13] [(8,I am.2)] fun a hS=>?_
 refine bl ?_
 refine oPe T hS 1 [] [(17,Sl a2 l_ c2)] fun a hS=>?_
 refine op1 (call hS kr kr hb80 kr (fun _ _=>rfl) (Fq _ _ l_ a2 c2 h2) ?_)
 intro v105 a mD mj hE hp hS
 replace hO:=hO.m2 hE
 replace h2:=h2.m1 hE
 obtain ⟨aZ,hr⟩:∃ r,cQ l_=r:=⟨_,rfl⟩
 replace hm:=hm aZ hr
 rw [hr] at hp
 clear hr
 subst hp
 refine ePe T hS [17,18] [(10,I aZ.2)] fun a hS=>?_
 refine bc ?_
 refine aK ?_
 refine rPe T hS [8,10] [(21,B ((am.2 != 0) || (aZ.2 != 0)))] (sp:=[24]) fun a hS=>?_
 refine aG hS (b:=((am.2 != 0) || (aZ.2 != 0))) kr (fun hb=>?_) fun hb=>?_
 ·replace hm:=hm.1 hb
  refine rPe T hS [1,2,21] [(6,I 2)] fun a hS=>?_
  refine aV ?_
  exact fin T hS hO (fun c=>c) rfl (r:=[.int .i64 2]) kr (fun X' hM hC=>⟨2,hm,rfl⟩)
 replace hm:=hm.2 hb
 refine rPe T hS [1,2,21] [(28,B (decide ((lN l_) > jn)))] fun a hS=>?_
 refine aG hS (b:=decide ((lN l_) > jn)) kr (fun hb=>?_) fun hb=>?_
 ·replace hm:=hm.1 hb
  refine rPe T hS [28] [(6,I 3)] fun a hS=>?_
  refine aV ?_
  exact fin T hS hO (fun c=>c) rfl (r:=[.int .i64 3]) kr (fun X' hM hC=>⟨3,hm,rfl⟩)
 replace hm:=hm.2 hb
 refine aJ ?_
 refine rPe T hS [28] [(6,I 0)] fun a hS=>?_
 refine aV ?_
 exact fin T hS hO (fun c=>c) rfl (r:=[.int .i64 0]) kr (fun X' hM hC=>⟨0,hm,rfl⟩)
theorem C88 (sR:S53) (Fq:S80) (v:∀ (o_:ah) (l_:List ab) (jn:Int),xl o_ l_ jn->VC88 o_ l_ jn (fun r=>r=cu o_ l_ jn)):S88:=by
 intro w X o_ l_ jn a1 c1 a2 c2   hp h1 h2
 refine (W88 sR Fq w X o_ l_ jn a1 c1 a2 c2   _ (v o_ l_ jn hp) h1 h2).mono ?_
 rintro _ _ _ _ ⟨r,rfl,h⟩
 exact h
theorem W104 (w0) (X0) (s_:List aa) (a1) (c1) (cD) (Q:(List aa)->Prop) (hm:VC104 s_ Q) (h1:RS au w0 X0 a1 s_ c1) :
  Ret Tryz.prog 104 #[.slice a1 s_.length c1] aI w0 X0 (fun w X' v=>∃ r,Q r/\∃ co cn,v=.slice co r.length cn/\OS au 56 w X' cD co r cn):=by
 unfold VC104 at hm
 replace hm:=hm (h1.sm kr)
 refine enter Tryz.func104 rfl (vals:=[.slice a1 s_.length c1]) kr ?_
 intro Z a hS hO hM
 replace h1:=h1.m0 hM
 refine rPe T hS [] [] fun a hS=>?_
 refine bc ?_
 refine bl ?_
 refine oPe T hS 1 [] [(3,Sl a1 s_ c1)] fun a hS=>?_
 obtain ⟨b101,hb102⟩:∃ q:Bool,a1.isNone=q:=⟨_,rfl⟩
 replace hm:=hm b101 (h1.Hk hb102)
 refine op1 (EH (e:=56) (m:=s_.length) (c:=c1) hS kr kr kr kr Tryz.underlying26 hb102 ?_)
 intro a hS
 clear hb102
 refine gA ?_
 refine aG hS (b:=b101) kr (fun hb=>?_) fun hb=>?_
 ·replace hm:=hm.1 hb
  refine rPe T hS [0,4] [(2,V (.slice none 0 0))] fun a hS=>?_
  refine aV ?_
  exact fin T hS hO (fun c=>c) rfl (r:=[.slice none 0 0]) kr (fun X' hM hC=>⟨[],hm,none,0,rfl,OS.nil _ _ _ _ _⟩)
 replace hm:=hm.2 hb
 refine aJ ?_
 refine bl ?_
 refine op1 (lit (E:=56) (col:=1003) (T:=au) (vals:=[]) (ys:=([]:List aa)) T hS kr kr kr kr trivial rfl kr kr kr kr ?_)
 intro b103 a yl ox hE h106 hN hS
 clear hN
 replace hO:=hO.m2 hE
 replace h1:=h1.m1 hE
 refine oPe T hS 1 [0,4] [(6,Sl a1 s_ c1)] fun a hS=>?_
 obtain ⟨hq,hm⟩:=hm
 obtain ⟨news,hN⟩:=h1.src
 refine op1 (append (E:=56) (T:=au) (col:=1003) (xs:=([]:List aa)) T hS kr kr kr kr h106 hN kr kr kr kr hq ?_)
 intro eR d9 a qT pd hE h109 hS
 clear hq hN
 clear h106
 replace hO:=hO.m2 hE
 replace h1:=h1.m1 hE
 refine ePe T hS [6,7] [(2,Sl eR (([]:List aa)++s_) d9)] fun a hS=>?_
 refine aV ?_
 exact fin T hS hO (zAc1 cD) rfl (r:=[.slice eR (([]:List aa)++s_).length d9]) kr (fun X' hM hC=>⟨(([]:List aa)++s_),hm,eR,d9,rfl,(OS.out (f:=(zAc1 cD)) h109 hM hC kr)⟩)
theorem C104 (v:∀ (s_:List aa),xk s_->VC104 s_ (fun r=>r=bW s_)):S104:=by
 intro w X s_ a1 c1 cD  hp h1
 refine (W104 w X s_ a1 c1 cD  _ (v s_ hp) h1).mono ?_
 rintro _ _ _ _ ⟨r,rfl,h⟩
 exact h
theorem W101 (w0) (X0) (state:Int) (al:aX) (a1) (c1) (a2) (c2) (a3) (c3) (r4) (m4) (b1) (i1) (Q:bX->Prop) (hm:VC101 state al Q) (h1:RS az w0 X0 a1 al.o.Rows c1) (h2:RS aq w0 X0 a2 al.l c2) (h3:RS dE w0 X0 a3 al.done c3) (h4:OMS aQ tI false w0 X0 m4 r4 al.failed) (fb:Cell w0 X0 b1 i1 161 [.int .i64 al.o.ar,.int .i64 al.o.aw,.int .i64 al.o.aE,.slice a1 al.o.Rows.length c1,.slice a2 al.l.length c2,.slice a3 al.done.length c3,.map (some r4)]) (hA:dP [i1,m4]) :
  Ret Tryz.prog 101 #[.pointer (some ⟨b1,0,none⟩),.int .i64 state] (pR [i1,m4]) w0 X0 (fun w X' v=>∃ r,Q r/\v=.agg #[.int .u32 r.done,.int .i64 r.state]/\Cell w X' b1 i1 161 [.int .i64 al.o.ar,.int .i64 al.o.aw,.int .i64 al.o.aE,.slice a1 al.o.Rows.length c1,.slice a2 al.l.length c2,.slice a3 al.done.length c3,.map (some r4)]/\OMS aQ tI false w X' m4 r4 al.failed):=by
 unfold VC101 at hm
 replace hm:=hm (h1.sm kr)
 replace hm:=hm (h2.sm kr)
 replace hm:=hm (h3.sm kr)
 refine fv Tryz.func101 rfl (dB [(i1,901),(m4,2004)]) (fun id=>(bif Nat.beq id 901 then b1 else 0)) (args:=[Pt 901 0,I state]) (bxs:=[(901,(161,[I al.o.ar,I al.o.aw,I al.o.aE,Sl a1 al.o.Rows c1,Sl a2 al.l c2,Sl a3 al.done c3,V (.map (some r4))]))]) kr rfl (bn.cons kr (fb.map (bK 0 hA.1 rfl)) bn.nil) (fe (fun q hq=>(hA.2 q.1 (List.mem_map.2 ⟨q,hq,rfl⟩)).1)) ?_
 intro a hS hO hM
 have hP:Pin [(901,b1)] (fun id=>(bif Nat.beq id 901 then b1 else 0)):=by intro q hq; simp at hq; rcases hq with rfl <;> rfl
 generalize (fun id=>(bif Nat.beq id 901 then b1 else 0))=Z at hS hP
 clear fb
 replace h1:=h1.m0 hM
 replace h2:=h2.m0 hM
 replace h3:=h3.m0 hM
 replace h4:=h4.map (f:=dB [(i1,901),(m4,2004)]) (bK 1 hA.1 rfl) hM
 refine rM T hS ⟨[(0,Pt 901 0),(1,I state),(4,Pt 5 0)],[(5,(164,[V (.int .u32 0),I 0])),(901,(161,[I al.o.ar,I al.o.aw,I al.o.aE,Sl a1 al.o.Rows c1,Sl a2 al.l c2,Sl a3 al.done c3,V (.map (some r4))]))]⟩ fun Z a Ad DL hS hE hr=>?_
 replace hO:=hO.m2 hE
 replace h1:=h1.m1 hE
 replace h2:=h2.m1 hE
 replace h3:=h3.m1 hE
 replace h4:=h4.m2 hE
 replace hP:=hP.mv hr kr
 clear hE hr
 refine rM T hS ⟨[(0,Pt 901 0),(4,Pt 5 0),(5,Pt 6 0)],[(5,(164,[V (.int .u32 0),I 0])),(6,(164,[V (.int .u32 0),I state])),(901,(161,[I al.o.ar,I al.o.aw,I al.o.aE,Sl a1 al.o.Rows c1,Sl a2 al.l c2,Sl a3 al.done c3,V (.map (some r4))]))]⟩ fun Z a r8 vi hS hE hr=>?_
 replace hO:=hO.m2 hE
 replace h1:=h1.m1 hE
 replace h2:=h2.m1 hE
 replace h3:=h3.m1 hE
 replace h4:=h4.m2 hE
 replace hP:=hP.mv hr kr
 clear hE hr
 refine b5 (fun a w=>∃ (Z:Nat->Nat) (X:Nat->Nat) (bv:Int) (bu:Int),VC101_J1 Q bv bu/\St Tryz.f101.ntmps ⟨[(4,Pt 5 0),(5,Pt 6 0)],[(5,(164,[V (.int .u32 0),I 0])),(6,(164,[V (.int .u32 bv),I bu])),(901,(161,[I al.o.ar,I al.o.aw,I al.o.aE,Sl a1 al.o.Rows c1,Sl a2 al.l c2,Sl a3 al.done c3,V (.map (some r4))]))]⟩ Z a w X/\fO (dB [(i1,901),(m4,2004)]) w0 X0 w X/\Pin [(901,b1)] Z/\RS az w X a1 al.o.Rows c1/\RS aq w X a2 al.l c2/\RS dE w X a3 al.done c3/\OMS aQ tI false w X 2004 r4 al.failed) ?_ ?_
 ·refine rPe T hS [0] [(13,Sl a3 al.done c3),(14,I (lN al.done)),(15,I 0)] fun a hS=>?_
  refine aK ?_
  obtain ⟨I1,μ1,ci,hm⟩:=hm
  refine cg (σ:=Int × Int × Int) (fun s a w=>∃ Z X,I1 s.1 s.2.1 s.2.2/\St Tryz.f101.ntmps ⟨[(4,Pt 5 0),(5,Pt 6 0),(13,Sl a3 al.done c3),(14,I (lN al.done)),(15,I s.1)],[(5,(164,[V (.int .u32 0),I 0])),(6,(164,[V (.int .u32 s.2.1),I s.2.2])),(901,(161,[I al.o.ar,I al.o.aw,I al.o.aE,Sl a1 al.o.Rows c1,Sl a2 al.l c2,Sl a3 al.done c3,V (.map (some r4))]))]⟩ Z a w X/\fO (dB [(i1,901),(m4,2004)]) w0 X0 w X/\Pin [(901,b1)] Z/\RS dE w X a3 al.done c3/\RS az w X a1 al.o.Rows c1/\RS aq w X a2 al.l c2/\RS dE w X a3 al.done c3/\OMS aQ tI false w X 2004 r4 al.failed) (fun s=>μ1 s.1 s.2.1 s.2.2) (⟨0,0,state⟩) ?_ ?_
  ·exact ⟨Z,_,ci,hS.sl _,hO,hP,h3,h1,h2,h3,h4⟩
  rintro ⟨bF,dn,cW⟩ a yi ⟨Z,ow,hI,hS,hO,hP,h109,h113,h114,h115,h116⟩
  replace hm:=hm bF dn cW hI
  clear hI ci
  refine rPe T hS [] [(16,B (decide (bF < (lN al.done))))] fun a hS=>?_
  refine bc ?_
  refine aG hS (b:=decide (bF < (lN al.done))) kr (fun hb=>?_) fun hb=>?_
  ·replace hm:=hm.1 hb
   refine aJ ?_
   refine b5 (fun a w=>∃ (Z:Nat->Nat) (X:Nat->Nat) (ji:Int),VC101_J2 I1 μ1 bF dn cW ji/\St Tryz.f101.ntmps ⟨[(4,Pt 5 0),(5,Pt 6 0),(13,Sl a3 al.done c3),(14,I (lN al.done)),(15,I bF)],[(5,(164,[V (.int .u32 0),I 0])),(6,(164,[V (.int .u32 ji),I cW])),(901,(161,[I al.o.ar,I al.o.aw,I al.o.aE,Sl a1 al.o.Rows c1,Sl a2 al.l c2,Sl a3 al.done c3,V (.map (some r4))]))]⟩ Z a w X/\fO (dB [(i1,901),(m4,2004)]) w0 X0 w X/\Pin [(901,b1)] Z/\RS dE w X a3 al.done c3/\RS az w X a1 al.o.Rows c1/\RS aq w X a2 al.l c2/\RS dE w X a3 al.done c3/\OMS aQ tI false w X 2004 r4 al.failed) ?_ ?_
   ·refine aK ?_
    refine bl ?_
    refine oPe T hS 1 [16] [(17,I bF)] fun a hS=>?_
    obtain ⟨hq,hm⟩:=hm
    refine op1 (index (e:=4) (k:=.i64) T hS kr kr kr kr h109 kr kr hq.1 hq.2 ?_)
    intro DR a h124 hS
    refine op1 (dL T hS kr kr kr h124 rfl kr ?_)
    intro v125 a hv hS
    cases hv
    refine ePe T hS [17,18,19] [(6,I bF),(7,B (gi al.done bF))] fun a hS=>?_
    refine rPe T hS [7] [(20,B (gi al.done bF))] fun a hS=>?_
    refine aG hS (b:=gi al.done bF) kr (fun hb=>?_) fun hb=>?_
    ·replace hm:=hm.1 hb
     refine hJ [5,901] mixed hS ?_
     intro r9 pc hS hE hD hH
     replace hO:=hO.m2 hE
     replace h109:=h109.m1 hE
     replace h113:=h113.m1 hE
     replace h114:=h114.m1 hE
     replace h115:=h115.m1 hE
     replace h116:=h116.m2 hE
     refine tke T [0,2] [5,901] hS hH #[true,false,true,false,false,false,false] 5 [6] [(21,Pt 6 0),(23,I bF)] fun a hS=>?_
     obtain ⟨hq,hm⟩:=hm
     refine H6 (k:=.u32) (k2:=.i64) (p:=1) (q:=bF) 3 hS kr kr kr (by rfl) kr hH kr kr hq ?_
     intro a hS
     refine only 1 kr (by rfl) (gw T hS kr kr kr (sv:=V (.int .u32 dn)) kr ?_)
     intro a hS
     refine c8 (bJ.of hS (bks:=[5,901]) kr hD) ?_
     intro hH
     refine tke T [4,5] [5,901] hS hH #[true,true,true,true,true,true,false] 1 [21,23,24,22] [(25,V (.int .u32 (IntKind.u32.wrap ((BitVec.ofInt IntKind.u32.bits dn ||| BitVec.ofInt IntKind.u32.bits (IntKind.u32.wrap (1 * 2 ^ (min bF.toNat IntKind.u32.bits)))).toNat:Int)))),(26,Pt 6 0)] fun a hS=>?_
     replace hS:=hS.sl ⟨[(4,Pt 5 0),(5,Pt 6 0),(13,Sl a3 al.done c3),(14,I (lN al.done)),(15,I bF),(25,V (.int .u32 (IntKind.u32.wrap ((BitVec.ofInt IntKind.u32.bits dn ||| BitVec.ofInt IntKind.u32.bits (IntKind.u32.wrap (1 * 2 ^ (min bF.toNat IntKind.u32.bits)))).toNat:Int)))),(26,Pt 6 0)],[(5,(164,[V (.int .u32 0),I 0])),(6,(164,[V (.int .u32 dn),I cW])),(901,(161,[I al.o.ar,I al.o.aw,I al.o.aE,Sl a1 al.o.Rows c1,Sl a2 al.l c2,Sl a3 al.done c3,V (.map (some r4))]))]⟩
     refine only 6 kr (by rfl) (Al T hS kr kr (sy':=⟨[(4,Pt 5 0),(5,Pt 6 0),(13,Sl a3 al.done c3),(14,I (lN al.done)),(15,I bF),(25,V (.int .u32 (IntKind.u32.wrap ((BitVec.ofInt IntKind.u32.bits dn ||| BitVec.ofInt IntKind.u32.bits (IntKind.u32.wrap (1 * 2 ^ (min bF.toNat IntKind.u32.bits)))).toNat:Int)))),(26,Pt 6 0)],[(6,(164,[V (.int .u32 (IntKind.u32.wrap ((BitVec.ofInt IntKind.u32.bits dn ||| BitVec.ofInt IntKind.u32.bits (IntKind.u32.wrap (1 * 2 ^ (min bF.toNat IntKind.u32.bits)))).toNat:Int))),I cW])),(5,(164,[V (.int .u32 0),I 0])),(6,(164,[V (.int .u32 dn),I cW])),(901,(161,[I al.o.ar,I al.o.aw,I al.o.aE,Sl a1 al.o.Rows c1,Sl a2 al.l c2,Sl a3 al.done c3,V (.map (some r4))]))]⟩) kr ?_)
     intro a qS q7 hS hE
     replace hO:=hO.m2 hE
     replace hD:=hD.ev hE rfl
     replace h109:=h109.m1 hE
     replace h113:=h113.m1 hE
     replace h114:=h114.m1 hE
     replace h115:=h115.m1 hE
     replace h116:=h116.m2 hE
     replace hS:=hS.sl ⟨[(4,Pt 5 0),(5,Pt 6 0),(13,Sl a3 al.done c3),(14,I (lN al.done)),(15,I bF),(25,V (.int .u32 (IntKind.u32.wrap ((BitVec.ofInt IntKind.u32.bits dn ||| BitVec.ofInt IntKind.u32.bits (IntKind.u32.wrap (1 * 2 ^ (min bF.toNat IntKind.u32.bits)))).toNat:Int)))),(26,Pt 6 0)],[(5,(164,[V (.int .u32 0),I 0])),(6,(164,[V (.int .u32 (IntKind.u32.wrap ((BitVec.ofInt IntKind.u32.bits dn ||| BitVec.ofInt IntKind.u32.bits (IntKind.u32.wrap (1 * 2 ^ (min bF.toNat IntKind.u32.bits)))).toNat:Int))),I cW])),(901,(161,[I al.o.ar,I al.o.aw,I al.o.aE,Sl a1 al.o.Rows c1,Sl a2 al.l c2,Sl a3 al.done c3,V (.map (some r4))]))]⟩
     refine c8 (bJ.of hS (bks:=[5,901]) kr hD) ?_
     intro hH
     refine aU kr ?_
     replace hS:=hS.sle [25,26] []
     exact ⟨Z,_,IntKind.u32.wrap ((BitVec.ofInt IntKind.u32.bits dn ||| BitVec.ofInt IntKind.u32.bits (IntKind.u32.wrap (1 * 2 ^ (min bF.toNat IntKind.u32.bits)))).toNat:Int),hm,hS.sl _,hO,hP,h109,h113,h114,h115,h116⟩
    replace hm:=hm.2 hb
    refine aJ ?_
    exact ⟨Z,_,dn,hm,hS.sl _,hO,hP,h109,h113,h114,h115,h116⟩
   rintro a oW ⟨Z,DM,ji,hm,hS,hO,hP,h117,h119,h120,h121,h122⟩
   unfold VC101_J2 at hm
   refine region (ePe T hS [] [(15,I (wR (bF+1)))] fun a hS=>?_)
   exact ⟨⟨wR (bF+1),ji,cW⟩,⟨Z,_,hm.1,hS.sl _,hO,hP,h117,h119,h120,h121,h122⟩,hm.2⟩
  replace hm:=hm.2 hb
  refine cb (by rfl) ?_
  exact ⟨Z,_,dn,cW,hm,hS.sl _,hO,hP,h113,h114,h115,h116⟩
 rintro a CC ⟨Z,B5,bv,bu,hm,hS,hO,hP,h103,h104,h105,h106⟩
 unfold VC101_J1 at hm
 refine rM T hS ⟨[(4,Pt 5 0)],[(5,(164,[V (.int .u32 bv),I bu])),(901,(161,[I al.o.ar,I al.o.aw,I al.o.aE,Sl a1 al.o.Rows c1,Sl a2 al.l c2,Sl a3 al.done c3,V (.map (some r4))]))]⟩ fun Z a qT pd hS hE hr=>?_
 replace hO:=hO.m2 hE
 replace h103:=h103.m1 hE
 replace h104:=h104.m1 hE
 replace h105:=h105.m1 hE
 replace h106:=h106.m2 hE
 replace hP:=hP.mv hr kr
 clear hE hr
 refine aV ?_
 exact gy T hS hO (fun c h=>bT kr h) (fun c h=>bU (l:=[(i1,901),(m4,2004)]) h) (bO [(i1,901),(m4,2004)]) rfl (r:=[.agg #[.int .u32 bv,.int .i64 bu]]) kr (fun X' hM hC=>⟨(⟨bv,bu⟩:bX),hm,rfl,((hS.cell (id:=901) (t:=161) (cs:=[I al.o.ar,I al.o.aw,I al.o.aE,Sl a1 al.o.Rows c1,Sl a2 al.l c2,Sl a3 al.done c3,V (.map (some r4))]) kr).out (f:=(bO [(i1,901),(m4,2004)])) hC kr kr (hP.at 0 rfl)),(h106.out (f:=(bO [(i1,901),(m4,2004)])) hM hC kr kr)⟩)
theorem C101 (v:∀ (state:Int) (al:aX),VC101 state al (fun r=>r=dy state al)):S101:=by
 intro w X state al a1 c1 a2 c2 a3 c3 r4 m4  b1 i1 h1 h2 h3 h4 fb hA
 refine (W101 w X state al a1 c1 a2 c2 a3 c3 r4 m4  b1 i1 _ (v state al) h1 h2 h3 h4 fb hA).mono ?_
 rintro _ _ _ _ ⟨r,rfl,h⟩
 exact h
theorem W100 (w0) (X0) (al:aX) (a1) (c1) (a2) (c2) (a3) (c3) (r4) (m4) (b1) (i1) (Q:Bool->Prop) (hm:VC100 al Q) (h1:RS az w0 X0 a1 al.o.Rows c1) (h2:RS aq w0 X0 a2 al.l c2) (h3:RS dE w0 X0 a3 al.done c3) (h4:OMS aQ tI false w0 X0 m4 r4 al.failed) (fb:Cell w0 X0 b1 i1 161 [.int .i64 al.o.ar,.int .i64 al.o.aw,.int .i64 al.o.aE,.slice a1 al.o.Rows.length c1,.slice a2 al.l.length c2,.slice a3 al.done.length c3,.map (some r4)]) (hA:dP [i1,m4]) :
  Ret Tryz.prog 100 #[.pointer (some ⟨b1,0,none⟩)] (pR [i1,m4]) w0 X0 (fun w X' v=>∃ r,Q r/\v=.bool r/\Cell w X' b1 i1 161 [.int .i64 al.o.ar,.int .i64 al.o.aw,.int .i64 al.o.aE,.slice a1 al.o.Rows.length c1,.slice a2 al.l.length c2,.slice a3 al.done.length c3,.map (some r4)]/\OMS aQ tI false w X' m4 r4 al.failed):=by
 unfold VC100 at hm
 replace hm:=hm (h1.sm kr)
 replace hm:=hm (h2.sm kr)
 replace hm:=hm (h3.sm kr)
 refine fv Tryz.func100 rfl (dB [(i1,901),(m4,2004)]) (fun id=>(bif Nat.beq id 901 then b1 else 0)) (args:=[Pt 901 0]) (bxs:=[(901,(161,[I al.o.ar,I al.o.aw,I al.o.aE,Sl a1 al.o.Rows c1,Sl a2 al.l c2,Sl a3 al.done c3,V (.map (some r4))]))]) kr rfl (bn.cons kr (fb.map (bK 0 hA.1 rfl)) bn.nil) (fe (fun q hq=>(hA.2 q.1 (List.mem_map.2 ⟨q,hq,rfl⟩)).1)) ?_
 intro a hS hO hM
 have hP:Pin [(901,b1)] (fun id=>(bif Nat.beq id 901 then b1 else 0)):=by intro q hq; simp at hq; rcases hq with rfl <;> rfl
 generalize (fun id=>(bif Nat.beq id 901 then b1 else 0))=Z at hS hP
 clear fb
 replace h1:=h1.m0 hM
 replace h2:=h2.m0 hM
 replace h3:=h3.m0 hM
 replace h4:=h4.map (f:=dB [(i1,901),(m4,2004)]) (bK 1 hA.1 rfl) hM
 refine rPe T hS [] [] fun a hS=>?_
 refine b5 (fun a w=>∃ Z X,VC100_J1 Q/\St Tryz.f100.ntmps ⟨[],[(901,(161,[I al.o.ar,I al.o.aw,I al.o.aE,Sl a1 al.o.Rows c1,Sl a2 al.l c2,Sl a3 al.done c3,V (.map (some r4))]))]⟩ Z a w X/\fO (dB [(i1,901),(m4,2004)]) w0 X0 w X/\Pin [(901,b1)] Z/\RS az w X a1 al.o.Rows c1/\RS aq w X a2 al.l c2/\RS dE w X a3 al.done c3/\OMS aQ tI false w X 2004 r4 al.failed) ?_ ?_
 ·refine rPe T hS [] [(8,Sl a2 al.l c2),(9,I (lN al.l)),(10,I 0)] fun a hS=>?_
  refine aK ?_
  obtain ⟨I1,μ1,ci,hm⟩:=hm
  refine cg (σ:=Int) (fun s a w=>∃ Z X,I1 s/\St Tryz.f100.ntmps ⟨[(0,Pt 901 0),(8,Sl a2 al.l c2),(9,I (lN al.l)),(10,I s)],[(901,(161,[I al.o.ar,I al.o.aw,I al.o.aE,Sl a1 al.o.Rows c1,Sl a2 al.l c2,Sl a3 al.done c3,V (.map (some r4))]))]⟩ Z a w X/\fO (dB [(i1,901),(m4,2004)]) w0 X0 w X/\Pin [(901,b1)] Z/\RS aq w X a2 al.l c2/\RS az w X a1 al.o.Rows c1/\RS aq w X a2 al.l c2/\RS dE w X a3 al.done c3/\OMS aQ tI false w X 2004 r4 al.failed) (fun s=>μ1 s) (0) ?_ ?_
  ·exact ⟨Z,_,ci,hS.sl _,hO,hP,h2,h1,h2,h3,h4⟩
  rintro ff a qS ⟨Z,pc,hI,hS,hO,hP,h105,h107,h108,h109,h110⟩
  replace hm:=hm ff hI
  clear hI ci
  refine rPe T hS [] [(11,B (decide (ff < (lN al.l))))] fun a hS=>?_
  refine bc ?_
  refine aG hS (b:=decide (ff < (lN al.l))) kr (fun hb=>?_) fun hb=>?_
  ·replace hm:=hm.1 hb
   refine aJ (bc ?_)
   refine aK ?_
   refine bl ?_
   refine oPe T hS 1 [11] [(12,I ff)] fun a hS=>?_
   obtain ⟨hq,hm⟩:=hm
   refine op1 (index (e:=102) (k:=.i64) T hS kr kr kr kr h105 kr kr hq.1 hq.2 ?_)
   intro Ce a h112 hS
   refine op1 (eD T hS kr kr kr h112 kr kr ?_)
   intro v113 a hv hS
   subst hv
   refine eM T hS ⟨[(0,Pt 901 0),(3,I ff),(4,Pt 5 0),(8,Sl a2 al.l c2),(9,I (lN al.l)),(10,I ff)],[(5,(102,(cP (gi al.l ff)))),(901,(161,[I al.o.ar,I al.o.aw,I al.o.aE,Sl a1 al.o.Rows c1,Sl a2 al.l c2,Sl a3 al.done c3,V (.map (some r4))]))]⟩ fun Z a yj wI hS hE hr=>?_
   replace hO:=hO.m2 hE
   replace h105:=h105.m1 hE
   replace h107:=h107.m1 hE
   replace h108:=h108.m1 hE
   replace h109:=h109.m1 hE
   replace h110:=h110.m2 hE
   replace hP:=hP.mv hr kr
   clear hE hr
   refine b5 (fun a w=>∃ (Z:Nat->Nat) (X:Nat->Nat) (bo:Bool),VC100_J2 Q I1 μ1 ff bo/\St Tryz.f100.ntmps ⟨[(0,Pt 901 0),(8,Sl a2 al.l c2),(9,I (lN al.l)),(10,I ff),(27,B bo)],[(901,(161,[I al.o.ar,I al.o.aw,I al.o.aE,Sl a1 al.o.Rows c1,Sl a2 al.l c2,Sl a3 al.done c3,V (.map (some r4))]))]⟩ Z a w X/\fO (dB [(i1,901),(m4,2004)]) w0 X0 w X/\Pin [(901,b1)] Z/\RS aq w X a2 al.l c2/\RS az w X a1 al.o.Rows c1/\RS aq w X a2 al.l c2/\RS dE w X a3 al.done c3/\OMS aQ tI false w X 2004 r4 al.failed) ?_ ?_
   ·refine region ?_
    refine oP T hS 4 ⟨[(0,Pt 901 0),(3,I ff),(8,Sl a2 al.l c2),(9,I (lN al.l)),(10,I ff),(18,B (((gi al.l ff).End) != (-1)))],[(901,(161,[I al.o.ar,I al.o.aw,I al.o.aE,Sl a1 al.o.Rows c1,Sl a2 al.l c2,Sl a3 al.done c3,V (.map (some r4))]))]⟩ fun a hS=>?_
    rcases bft (((gi al.l ff).End) != (-1)) with hb | hb
    ·replace hS:=hS.lit (t:=18) kr hb
     replace hm:=hm.1 hb
     refine oPe T hS 5 [3] [(22,Sl a3 al.done c3),(23,I ff)] fun a hS=>?_
     obtain ⟨hq,hm⟩:=hm
     refine op1 (index (e:=4) (k:=.i64) T hS kr kr kr kr h109 kr kr hq.1 hq.2 ?_)
     intro MH a h121 hS
     refine op1 (dL T hS kr kr kr h121 rfl kr ?_)
     intro v122 a hv hS
     cases hv
     refine ePe T hS [18,22,23,24,25] [(27,B (!(gi al.done ff)))] fun a hS=>?_
     exact ⟨Z,_,(!(gi al.done ff)),hm,hS.sl _,hO,hP,h105,h107,h108,h109,h110⟩
    replace hS:=hS.lit (t:=18) kr hb
    replace hm:=hm.2 hb
    refine ePe T hS [3,18] [(27,B false)] fun a hS=>?_
    exact ⟨Z,_,false,hm,hS.sl _,hO,hP,h105,h107,h108,h109,h110⟩
   rintro a JU ⟨Z,tq,bo,hm,hS,hO,hP,h114,h116,h117,h118,h119⟩
   unfold VC100_J2 at hm
   refine aG hS (b:=bo) kr (fun hb=>?_) fun hb=>?_
   ·replace hm:=hm.1 hb
    refine rPe T hS [0,8,9,10,27] [(2,B false)] fun a hS=>?_
    refine aV ?_
    exact gy T hS hO (fun c h=>bT kr h) (fun c h=>bU (l:=[(i1,901),(m4,2004)]) h) (bO [(i1,901),(m4,2004)]) rfl (r:=[.bool false]) kr (fun X' hM hC=>⟨false,hm,rfl,((hS.cell (id:=901) (t:=161) (cs:=[I al.o.ar,I al.o.aw,I al.o.aE,Sl a1 al.o.Rows c1,Sl a2 al.l c2,Sl a3 al.done c3,V (.map (some r4))]) kr).out (f:=(bO [(i1,901),(m4,2004)])) hC kr kr (hP.at 0 rfl)),(h119.out (f:=(bO [(i1,901),(m4,2004)])) hM hC kr kr)⟩)
   replace hm:=hm.2 hb
   refine aJ ?_
   refine region (ePe T hS [27] [(10,I (wR (ff+1)))] fun a hS=>?_)
   exact ⟨wR (ff+1),⟨Z,_,hm.1,hS.sl _,hO,hP,h114,h116,h117,h118,h119⟩,hm.2⟩
  replace hm:=hm.2 hb
  refine cb (by rfl) ?_
  exact ⟨Z,_,hm,hS.sl _,hO,hP,h107,h108,h109,h110⟩
 rintro a tA ⟨Z,q7,hm,hS,hO,hP,h101,h102,h103,h104⟩
 unfold VC100_J1 at hm
 refine rPe T hS [] [(2,B true)] fun a hS=>?_
 refine aV ?_
 exact gy T hS hO (fun c h=>bT kr h) (fun c h=>bU (l:=[(i1,901),(m4,2004)]) h) (bO [(i1,901),(m4,2004)]) rfl (r:=[.bool true]) kr (fun X' hM hC=>⟨true,hm,rfl,((hS.cell (id:=901) (t:=161) (cs:=[I al.o.ar,I al.o.aw,I al.o.aE,Sl a1 al.o.Rows c1,Sl a2 al.l c2,Sl a3 al.done c3,V (.map (some r4))]) kr).out (f:=(bO [(i1,901),(m4,2004)])) hC kr kr (hP.at 0 rfl)),(h104.out (f:=(bO [(i1,901),(m4,2004)])) hM hC kr kr)⟩)
theorem C100 (v:∀ (al:aX),wW al->VC100 al (fun r=>r=dJ al)):S100:=by
 intro w X al a1 c1 a2 c2 a3 c3 r4 m4  b1 i1 hp h1 h2 h3 h4 fb hA
 refine (W100 w X al a1 c1 a2 c2 a3 c3 r4 m4  b1 i1 _ (v al hp) h1 h2 h3 h4 fb hA).mono ?_
 rintro _ _ _ _ ⟨r,rfl,h⟩
 exact h
theorem W102 (N) (qn:S103) (C5:S104) (Fp:S90N N) (w0) (X0) (p_:aa) (ap:aX) (aL:Int) (bz:List aa) (a1) (c1) (a2) (c2) (a3) (c3) (m3) (r4) (m4) (a5) (c5) (cD) (b1) (i1) (b2) (i2) (b3) (i3) (b4) (i4) (Q:(List aa) × Bool × aX->Prop) (hm:VC102 N p_ ap aL bz Q) (h1:RS az w0 X0 a1 ap.o.Rows c1) (h2:RS aq w0 X0 a2 ap.l c2) (h3:OS dE 4 w0 X0 m3 a3 ap.done c3) (h4:OMS aQ tI false w0 X0 m4 r4 ap.failed) (h5:RS au w0 X0 a5 bz c5) (fb:Cell w0 X0 b1 i1 147 [.pointer (some ⟨b2,0,none⟩)]) (gp:Cell w0 X0 b2 i2 161 [.int .i64 ap.o.ar,.int .i64 ap.o.aw,.int .i64 ap.o.aE,.slice a1 ap.o.Rows.length c1,.slice a2 ap.l.length c2,.slice a3 ap.done.length c3,.map (some r4)]) (lb:Cell w0 X0 b3 i3 3 [.int .i64 aL]) (sY:Cell w0 X0 b4 i4 26 [.slice a5 bz.length c5]) (hA:dP [i1,i2,i3,i4,m3,m4]) :
  Ret Tryz.prog 102 #[.agg #[.int .i64 p_.Oper,.int .i64 p_.Result],.pointer (some ⟨b1,0,none⟩),.pointer (some ⟨b3,0,none⟩),.pointer (some ⟨b4,0,none⟩)] (pR [i1,i2,i3,i4,m3,m4]) w0 X0 (fun w X' v=>∃ r,Q r/\∃ co cn iA iz oE oD wV wU,v=.tuple #[.slice co r.1.length cn,.bool r.2.1]/\OS au 56 w X' cD co r.1 cn/\RS az w X' iA r.2.2.o.Rows iz/\RS aq w X' oE r.2.2.l oD/\OS dE 4 w X' m3 wV r.2.2.done wU/\Cell w X' b1 i1 147 [.pointer (some ⟨b2,0,none⟩)]/\Cell w X' b2 i2 161 [.int .i64 r.2.2.o.ar,.int .i64 r.2.2.o.aw,.int .i64 r.2.2.o.aE,.slice iA r.2.2.o.Rows.length iz,.slice oE r.2.2.l.length oD,.slice wV r.2.2.done.length wU,.map (some r4)]/\OMS aQ tI false w X' m4 r4 r.2.2.failed/\Cell w X' b3 i3 3 [.int .i64 aL]/\Cell w X' b4 i4 26 [.slice a5 bz.length c5]):=by
 unfold VC102 at hm
 replace hm:=hm (h1.sm kr)
 replace hm:=hm (h2.sm kr)
 replace hm:=hm (h3.sm kr)
 replace hm:=hm (h5.sm kr)
 refine fv Tryz.func102 rfl (dB (zAc2 i1 i2 i3 i4 m3 m4)) (fun id=>(bif Nat.beq id 901 then b1 else (bif Nat.beq id 902 then b2 else (bif Nat.beq id 903 then b3 else (bif Nat.beq id 904 then b4 else 0))))) (args:=[V (.agg #[.int .i64 p_.Oper,.int .i64 p_.Result]),Pt 901 0,Pt 903 0,Pt 904 0]) (bxs:=[(901,(147,[Pt 902 0])),(902,(161,[I ap.o.ar,I ap.o.aw,I ap.o.aE,Sl a1 ap.o.Rows c1,Sl a2 ap.l c2,Sl a3 ap.done c3,V (.map (some r4))])),(903,(3,[I aL])),(904,(26,[Sl a5 bz c5]))]) kr rfl (bn.cons kr (fb.map (bK 0 hA.1 rfl)) (bn.cons kr (gp.map (bK 1 hA.1 rfl)) (bn.cons kr (lb.map (bK 2 hA.1 rfl)) (bn.cons kr (sY.map (bK 3 hA.1 rfl)) bn.nil)))) (fe (fun q hq=>(hA.2 q.1 (List.mem_map.2 ⟨q,hq,rfl⟩)).1)) ?_
 intro a hS hO hM
 have hP:Pin [(901,b1),(902,b2),(903,b3),(904,b4)] (fun id=>(bif Nat.beq id 901 then b1 else (bif Nat.beq id 902 then b2 else (bif Nat.beq id 903 then b3 else (bif Nat.beq id 904 then b4 else 0))))):=by intro q hq; simp at hq; rcases hq with rfl | rfl | rfl | rfl <;> rfl
 generalize (fun id=>(bif Nat.beq id 901 then b1 else (bif Nat.beq id 902 then b2 else (bif Nat.beq id 903 then b3 else (bif Nat.beq id 904 then b4 else 0)))))=Z at hS hP
 clear fb gp lb sY
 replace h1:=h1.m0 hM
 replace h2:=h2.m0 hM
 replace h3:=h3.map (f:=dB (zAc2 i1 i2 i3 i4 m3 m4)) (bK 4 hA.1 rfl) hM
 replace h4:=h4.map (f:=dB (zAc2 i1 i2 i3 i4 m3 m4)) (bK 5 hA.1 rfl) hM
 replace h5:=h5.m0 hM
 refine rM T hS ⟨[(1,Pt 901 0),(2,Pt 903 0),(3,Pt 904 0),(4,Pt 5 0)],[(5,(56,(cK p_))),(901,(147,[Pt 902 0])),(902,(161,[I ap.o.ar,I ap.o.aw,I ap.o.aE,Sl a1 ap.o.Rows c1,Sl a2 ap.l c2,Sl a3 ap.done c3,V (.map (some r4))])),(903,(3,[I aL])),(904,(26,[Sl a5 bz c5]))]⟩ fun Z a N0 Ql hS hE hr=>?_
 replace hO:=hO.m2 hE
 replace h1:=h1.m1 hE
 replace h2:=h2.m1 hE
 replace h3:=h3.m2 hE
 replace h4:=h4.m2 hE
 replace h5:=h5.m1 hE
 replace hP:=hP.mv hr kr
 clear hE hr
 refine dw [5,901,902,903,904] mixed hS ?_
 intro nS oy hS hE hD hH
 replace hO:=hO.m2 hE
 replace h1:=h1.m1 hE
 replace h2:=h2.m1 hE
 replace h3:=h3.m2 hE
 replace h4:=h4.m2 hE
 replace h5:=h5.m1 hE
 refine tk T [0,4,5,9,1,6,10,2,7,3,8] [5,901,902,903,904] hS hH #[true,true,true,true,true,true,true,true,true,true,true,false,false,false,false,false,false,false,false,false,false,false] 11 ⟨[(1,Pt 901 0),(3,Pt 904 0),(4,Pt 5 0),(16,V (.agg #[.int .i64 ap.o.ar,.int .i64 ap.o.aw,.int .i64 ap.o.aE,.slice a1 ap.o.Rows.length c1])),(17,I aL),(21,Sl a2 ap.l c2),(23,I p_.Oper)],[(5,(56,(cK p_))),(901,(147,[Pt 902 0])),(902,(161,[I ap.o.ar,I ap.o.aw,I ap.o.aE,Sl a1 ap.o.Rows c1,Sl a2 ap.l c2,Sl a3 ap.done c3,V (.map (some r4))])),(903,(3,[I aL])),(904,(26,[Sl a5 bz c5]))]⟩ fun a hS=>?_
 obtain ⟨hq,hm⟩:=hm
 refine db (e:=102) (k:=.i64) T 11 hS kr kr kr (by rfl) kr hH kr kr h2 kr kr hq.1 hq.2 ?_
 intro tv a h104 hS
 have uD:=h104.here
 refine du (off:=1) (fsz:=1) (ft:=3) (TF:=tI) (y:=(gi ap.l p_.Oper).Kind) 12 T hS kr kr kr (by rfl) kr hH kr h104 kr kr kr (fun cs h=>kf h) ?_
 intro wL a h106 fy hS
 have qu:=uD
 rw [← fy] at qu
 clear fy
 refine dU T 13 hS kr kr kr (by rfl) kr hH kr h106 qu rfl kr ?_
 intro v107 a hv hS
 cases hv
 refine only 14 kr (by rfl) (call hS kr kr hb103 kr (fun _ _=>rfl) (qn _ _ ap.o aL ((gi ap.l p_.Oper).Kind) a1 c1 h1) ?_)
 intro v108 a pz q8 hE hp hS
 replace hO:=hO.m2 hE
 replace hD:=hD.ev hE rfl
 replace h1:=h1.m1 hE
 replace h2:=h2.m1 hE
 replace h3:=h3.m2 hE
 replace h4:=h4.m2 hE
 replace h5:=h5.m1 hE
 replace h104:=h104.m1 hE
 replace h106:=h106.m1 hE
 obtain ⟨cZ,hr⟩:∃ r,cm ap.o aL ((gi ap.l p_.Oper).Kind)=r:=⟨_,rfl⟩
 replace hm:=hm cZ hr
 rw [hr] at hp
 clear hr
 subst hp
 replace hS:=hS.sl ⟨[(1,Pt 901 0),(3,Pt 904 0),(4,Pt 5 0),(16,V (.agg #[.int .i64 ap.o.ar,.int .i64 ap.o.aw,.int .i64 ap.o.aE,.slice a1 ap.o.Rows.length c1])),(17,I aL),(21,Sl a2 ap.l c2),(23,I p_.Oper),(24,V (.pointer (some tv))),(25,V (.pointer (some wL))),(26,I ((gi ap.l p_.Oper).Kind)),(27,V (.tuple #[.int .i64 cZ.1,.int .i64 cZ.2.1,.bool cZ.2.2]))],[(5,(56,(cK p_))),(901,(147,[Pt 902 0])),(902,(161,[I ap.o.ar,I ap.o.aw,I ap.o.aE,Sl a1 ap.o.Rows c1,Sl a2 ap.l c2,Sl a3 ap.done c3,V (.map (some r4))])),(903,(3,[I aL])),(904,(26,[Sl a5 bz c5]))]⟩
 refine c8 (bJ.of hS (bks:=[5,901,902,903,904]) kr hD) ?_
 intro hH
 refine tk T [15,16,17,18,19,20,21] [5,901,902,903,904] hS hH #[true,true,true,true,true,true,true,true,true,true,true,true,true,true,true,true,true,true,true,true,true,true] 0 ⟨[(1,Pt 901 0),(3,Pt 904 0),(4,Pt 5 0),(7,I cZ.1)],[(5,(56,(cK p_))),(901,(147,[Pt 902 0])),(902,(161,[I ap.o.ar,I ap.o.aw,I ap.o.aE,Sl a1 ap.o.Rows c1,Sl a2 ap.l c2,Sl a3 ap.done c3,V (.map (some r4))])),(903,(3,[I aL])),(904,(26,[Sl a5 bz c5]))]⟩ fun a hS=>?_
 refine aU kr ?_
 replace hS:=hS.sl ⟨[(1,Pt 901 0),(3,Pt 904 0),(4,Pt 5 0),(7,I cZ.1)],[(5,(56,(cK p_))),(901,(147,[Pt 902 0])),(902,(161,[I ap.o.ar,I ap.o.aw,I ap.o.aE,Sl a1 ap.o.Rows c1,Sl a2 ap.l c2,Sl a3 ap.done c3,V (.map (some r4))])),(903,(3,[I aL])),(904,(26,[Sl a5 bz c5]))]⟩
 refine dw [5,901,902,903,904] mixed hS ?_
 intro yk qL hS hE hD hH
 replace hO:=hO.m2 hE
 replace h1:=h1.m1 hE
 replace h2:=h2.m1 hE
 replace h3:=h3.m2 hE
 replace h4:=h4.m2 hE
 replace h5:=h5.m1 hE
 refine tk T [0,4,1,5,2,3] [5,901,902,903,904] hS hH #[true,true,true,true,true,true,false,false] 2 ⟨[(1,Pt 901 0),(3,Pt 904 0),(4,Pt 5 0),(7,I cZ.1),(34,Sl a3 ap.done c3),(36,I p_.Oper)],[(5,(56,(cK p_))),(901,(147,[Pt 902 0])),(902,(161,[I ap.o.ar,I ap.o.aw,I ap.o.aE,Sl a1 ap.o.Rows c1,Sl a2 ap.l c2,Sl a3 ap.done c3,V (.map (some r4))])),(903,(3,[I aL])),(904,(26,[Sl a5 bz c5]))]⟩ fun a hS=>?_
 obtain ⟨um,hm⟩:=hm
 refine only 6 kr (by rfl) (k5 (E:=4) (k:=.i64) T hS kr kr kr kr h3 kr kr um.1 um.2 ?_)
 intro DS a h116 h115 hS
 refine c8 (bJ.of hS (bks:=[5,901,902,903,904]) kr hD) ?_
 intro hH
 refine only 7 kr (by rfl) (vE (x:=true) (v:=B true) (i:=p_.Oper.toNat) (E:=4) (xs:=ap.done) T hS kr kr kr kr h3 h116 (by have:=um.1; have:=um.2; omega) kr (fun _ _ _=>rfl) ?_)
 intro a Ae hE h119 hS
 clear h3 h116 h115 um
 replace hO:=hO.m2 hE
 replace hD:=hD.ev hE rfl
 replace h1:=h1.m1 hE
 replace h2:=h2.m1 hE
 replace h4:=h4.m2 hE
 replace h5:=h5.m1 hE
 replace hS:=hS.conv (t:=34) (y:=.slice a3 (ap.done.set p_.Oper.toNat true).length c3) kr (by rw [List.length_set])
 refine c8 (bJ.of hS (bks:=[5,901,902,903,904]) kr hD) ?_
 intro hH
 have xC:=hS.cell (id:=902) (t:=161) (cs:=[I ap.o.ar,I ap.o.aw,I ap.o.aE,Sl a1 ap.o.Rows c1,Sl a2 ap.l c2,Sl a3 ap.done c3,V (.map (some r4))]) kr
 replace xC:=xC.conv (vals':=[.int .i64 ap.o.ar,.int .i64 ap.o.aw,.int .i64 ap.o.aE,.slice a1 ap.o.Rows.length c1,.slice a2 ap.l.length c2,.slice a3 (ap.done.set p_.Oper.toNat true).length c3,.map (some r4)]) (by rw [List.length_set]; rfl)
 replace hS:=hS.cB (id:=902) (t:=161) (cs:=[I ap.o.ar,I ap.o.aw,I ap.o.aE,Sl a1 ap.o.Rows c1,Sl a2 ap.l c2,Sl a3 (ap.done.set p_.Oper.toNat true) c3,V (.map (some r4))]) kr xC
 clear xC
 refine aU kr ?_
 replace hS:=hS.sl ⟨[(1,Pt 901 0),(3,Pt 904 0),(4,Pt 5 0),(7,I cZ.1)],[(5,(56,(cK p_))),(901,(147,[Pt 902 0])),(902,(161,[I ap.o.ar,I ap.o.aw,I ap.o.aE,Sl a1 ap.o.Rows c1,Sl a2 ap.l c2,Sl a3 (ap.done.set p_.Oper.toNat true) c3,V (.map (some r4))])),(903,(3,[I aL])),(904,(26,[Sl a5 bz c5]))]⟩
 refine dw [5,901,903,904] mixed hS ?_
 intro vz B8 hS hE hD hH
 replace hO:=hO.m2 hE
 replace h1:=h1.m1 hE
 replace h2:=h2.m1 hE
 replace h4:=h4.m2 hE
 replace h5:=h5.m1 hE
 replace h119:=h119.m2 hE
 refine tk T [0,1,2,4] [5,901,903,904] hS hH #[true,true,true,false,true,false,false,false,false,false,false,false,false] 9 ⟨[(1,Pt 901 0),(4,Pt 5 0),(39,Pt 902 0),(40,I cZ.1),(41,Sl a5 bz c5),(43,V (.agg #[.int .i64 p_.Oper,.int .i64 p_.Result]))],[(5,(56,(cK p_))),(901,(147,[Pt 902 0])),(902,(161,[I ap.o.ar,I ap.o.aw,I ap.o.aE,Sl a1 ap.o.Rows c1,Sl a2 ap.l c2,Sl a3 (ap.done.set p_.Oper.toNat true) c3,V (.map (some r4))])),(903,(3,[I aL])),(904,(26,[Sl a5 bz c5]))]⟩ fun a hS=>?_
 obtain ⟨F1,hm⟩:=hm
 obtain ⟨mb,Dg⟩:∃ r,bW bz=r:=⟨_,rfl⟩
 replace hm:=hm mb Dg
 refine xZ (fun a w=>∃ X tn th j6 jY,St Tryz.f102.ntmps ⟨[(1,Pt 901 0),(4,Pt 5 0),(39,Pt 902 0),(40,I cZ.1),(42,Sl tn mb th),(44,Sl j6 [p_] jY)],[(5,(56,(cK p_))),(901,(147,[Pt 902 0])),(902,(161,[I ap.o.ar,I ap.o.aw,I ap.o.aE,Sl a1 ap.o.Rows c1,Sl a2 ap.l c2,Sl a3 (ap.done.set p_.Oper.toNat true) c3,V (.map (some r4))])),(903,(3,[I aL])),(904,(26,[Sl a5 bz c5]))]⟩ Z a w X/\fO (dB (zAc2 i1 i2 i3 i4 m3 m4)) w0 X0 w X/\M0 vz B8 w X/\bJ vz B8 (me [5,901,903,904] ⟨[(1,Pt 901 0),(3,Pt 904 0),(4,Pt 5 0),(7,I cZ.1)],[(5,(56,(cK p_))),(901,(147,[Pt 902 0])),(902,(161,[I ap.o.ar,I ap.o.aw,I ap.o.aE,Sl a1 ap.o.Rows c1,Sl a2 ap.l c2,Sl a3 (ap.done.set p_.Oper.toNat true) c3,V (.map (some r4))])),(903,(3,[I aL])),(904,(26,[Sl a5 bz c5]))]⟩) Z w/\OS au 56 w X 1006 tn mb th/\RS au w X j6 [p_] jY/\RS az w X a1 ap.o.Rows c1/\RS aq w X a2 ap.l c2/\OS dE 4 w X 2003 a3 (ap.done.set p_.Oper.toNat true) c3/\OMS aQ tI false w X 2004 r4 ap.failed/\RS au w X a5 bz c5) #[true,true,true,true,true,true,false,false,false,false,false,false,false] 7 ?_ (fun H=>?_)
 ·rintro a JO ⟨Mo,tn,th,j6,jY,hS,hO,hD,hH,h145,h148,h151,h152,h153,h154,h155⟩
  replace hm:=hm (h145.sm kr)
  clear F1 Dg
  obtain ⟨hq,hm⟩:=hm
  obtain ⟨news,hN⟩:=h148.src
  refine only 6 kr (by rfl) (append (E:=56) (T:=au) (col:=1006) (xs:=mb) T hS kr kr kr kr h145 hN kr kr kr kr hq ?_)
  intro IB Il a ER IP hE h182 hS
  clear hq hN
  clear h145
  replace hO:=hO.m2 hE
  replace hD:=hD.ev hE rfl
  replace h148:=h148.m1 hE
  replace h151:=h151.m1 hE
  replace h152:=h152.m1 hE
  replace h153:=h153.m2 hE
  replace h154:=h154.m2 hE
  replace h155:=h155.m1 hE
  replace hS:=hS.sl ⟨[(1,Pt 901 0),(4,Pt 5 0),(39,Pt 902 0),(40,I cZ.1),(44,Sl j6 [p_] jY),(45,Sl IB (mb++[p_]) Il)],[(5,(56,(cK p_))),(901,(147,[Pt 902 0])),(902,(161,[I ap.o.ar,I ap.o.aw,I ap.o.aE,Sl a1 ap.o.Rows c1,Sl a2 ap.l c2,Sl a3 (ap.done.set p_.Oper.toNat true) c3,V (.map (some r4))])),(903,(3,[I aL])),(904,(26,[Sl a5 bz c5]))]⟩
  refine c8 (bJ.of hS (bks:=[5,901,903,904]) kr hD) ?_
  intro hH
  obtain ⟨hq,hm⟩:=hm
  refine only 7 kr (by rfl) (lx hS kr kr hb90 kr (Fp _ _ cZ.1 (mb++[p_]) (⟨ap.o,ap.l,(ap.done.set p_.Oper.toNat true),ap.failed⟩:aX) IB Il 1006 a1 c1 a2 c2 a3 c3 2003 r4 2004 (Z 902) 902 hq.1 hq.2 h182 h151 h152 h153 h154 (hS.cell (id:=902) (t:=161) (cs:=[I ap.o.ar,I ap.o.aw,I ap.o.aE,Sl a1 ap.o.Rows c1,Sl a2 ap.l c2,Sl a3 (ap.done.set p_.Oper.toNat true) c3,V (.map (some r4))]) kr) ⟨by decide,by decide⟩) ?_)
  intro v185 a EQ IM hE hp hS
  clear h154
  clear h182
  clear h153
  replace hO:=hO.m2 hE
  replace hD:=hD.ev hE rfl
  replace h148:=h148.m1 hE
  replace h151:=h151.m1 hE
  replace h152:=h152.m1 hE
  replace h155:=h155.m1 hE
  obtain ⟨vc,uX,pa,o7,o9,o6,nO,nJ,hp,h191,h194,h197,h200,Bd,h201⟩:=hp
  obtain ⟨cy,hr⟩:∃ r,aH cZ.1 (mb++[p_]) (⟨ap.o,ap.l,(ap.done.set p_.Oper.toNat true),ap.failed⟩:aX)=r:=⟨_,rfl⟩
  replace hm:=hm cy hr
  rw [hr] at hp h191 h194 h197 h200 Bd h201
  clear hr
  subst hp
  replace hm:=hm (h191.sm kr)
  replace hm:=hm (h194.sm kr)
  replace hm:=hm (h197.sm kr)
  replace hm:=hm (h200.sm kr)
  replace hS:=hS.cB (id:=902) (t:=161) (cs:=[I cy.2.2.o.ar,I cy.2.2.o.aw,I cy.2.2.o.aE,Sl pa cy.2.2.o.Rows o7,Sl o9 cy.2.2.l o6,Sl nO cy.2.2.done nJ,V (.map (some r4))]) kr Bd
  clear Bd
  replace hS:=hS.sl ⟨[(1,Pt 901 0),(4,Pt 5 0),(39,Pt 902 0),(40,I cZ.1),(44,Sl j6 [p_] jY),(46,V (.tuple #[.slice vc cy.1.length uX,.bool cy.2.1]))],[(5,(56,(cK p_))),(901,(147,[Pt 902 0])),(902,(161,[I cy.2.2.o.ar,I cy.2.2.o.aw,I cy.2.2.o.aE,Sl pa cy.2.2.o.Rows o7,Sl o9 cy.2.2.l o6,Sl nO cy.2.2.done nJ,V (.map (some r4))])),(903,(3,[I aL])),(904,(26,[Sl a5 bz c5]))]⟩
  refine c8 (bJ.of hS (bks:=[5,901,903,904]) kr hD) ?_
  intro hH
  refine tk T [8,9,10,11,12] [5,901,903,904] hS hH #[true,true,true,true,true,true,true,true,true,true,true,true,true] 0 ⟨[(1,Pt 901 0),(4,Pt 5 0),(10,Sl vc cy.1 uX),(11,B cy.2.1)],[(5,(56,(cK p_))),(901,(147,[Pt 902 0])),(902,(161,[I cy.2.2.o.ar,I cy.2.2.o.aw,I cy.2.2.o.aE,Sl pa cy.2.2.o.Rows o7,Sl o9 cy.2.2.l o6,Sl nO cy.2.2.done nJ,V (.map (some r4))])),(903,(3,[I aL])),(904,(26,[Sl a5 bz c5]))]⟩ fun a hS=>?_
  refine aU kr ?_
  replace hS:=hS.sl ⟨[(1,Pt 901 0),(4,Pt 5 0),(10,Sl vc cy.1 uX),(11,B cy.2.1)],[(5,(56,(cK p_))),(901,(147,[Pt 902 0])),(902,(161,[I cy.2.2.o.ar,I cy.2.2.o.aw,I cy.2.2.o.aE,Sl pa cy.2.2.o.Rows o7,Sl o9 cy.2.2.l o6,Sl nO cy.2.2.done nJ,V (.map (some r4))])),(903,(3,[I aL])),(904,(26,[Sl a5 bz c5]))]⟩
  refine dw [5,901,902,903,904] mixed hS ?_
  intro GQ IH hS hE hD hH
  replace hO:=hO.m2 hE
  replace h155:=h155.m1 hE
  replace h201:=h201.m2 hE
  replace h191:=h191.m2 hE
  replace h194:=h194.m1 hE
  replace h197:=h197.m1 hE
  replace h200:=h200.m2 hE
  refine tk T [0,4,1,5,2,3] [5,901,902,903,904] hS hH #[true,true,true,true,true,true,false,false] 2 ⟨[(10,Sl vc cy.1 uX),(11,B cy.2.1),(52,Sl nO cy.2.2.done nJ),(54,I p_.Oper)],[(5,(56,(cK p_))),(901,(147,[Pt 902 0])),(902,(161,[I cy.2.2.o.ar,I cy.2.2.o.aw,I cy.2.2.o.aE,Sl pa cy.2.2.o.Rows o7,Sl o9 cy.2.2.l o6,Sl nO cy.2.2.done nJ,V (.map (some r4))])),(903,(3,[I aL])),(904,(26,[Sl a5 bz c5]))]⟩ fun a hS=>?_
  obtain ⟨t9,hm⟩:=hm
  refine only 6 kr (by rfl) (k5 (E:=4) (k:=.i64) T hS kr kr kr kr h200 kr kr t9.1 t9.2 ?_)
  intro QI a h207 h206 hS
  refine c8 (bJ.of hS (bks:=[5,901,902,903,904]) kr hD) ?_
  intro hH
  refine only 7 kr (by rfl) (vE (x:=false) (v:=B false) (i:=p_.Oper.toNat) (E:=4) (xs:=cy.2.2.done) T hS kr kr kr kr h200 h207 (by have:=t9.1; have:=t9.2; omega) kr (fun _ _ _=>rfl) ?_)
  intro a GN hE h210 hS
  clear h200 h207 h206 t9
  replace hO:=hO.m2 hE
  replace hD:=hD.ev hE rfl
  replace h155:=h155.m1 hE
  replace h201:=h201.m2 hE
  replace h191:=h191.m2 hE
  replace h194:=h194.m1 hE
  replace h197:=h197.m1 hE
  replace hS:=hS.conv (t:=52) (y:=.slice nO (cy.2.2.done.set p_.Oper.toNat false).length nJ) kr (by rw [List.length_set])
  refine c8 (bJ.of hS (bks:=[5,901,902,903,904]) kr hD) ?_
  intro hH
  have xA:=hS.cell (id:=902) (t:=161) (cs:=[I cy.2.2.o.ar,I cy.2.2.o.aw,I cy.2.2.o.aE,Sl pa cy.2.2.o.Rows o7,Sl o9 cy.2.2.l o6,Sl nO cy.2.2.done nJ,V (.map (some r4))]) kr
  replace xA:=xA.conv (vals':=[.int .i64 cy.2.2.o.ar,.int .i64 cy.2.2.o.aw,.int .i64 cy.2.2.o.aE,.slice pa cy.2.2.o.Rows.length o7,.slice o9 cy.2.2.l.length o6,.slice nO (cy.2.2.done.set p_.Oper.toNat false).length nJ,.map (some r4)]) (by rw [List.length_set]; rfl)
  replace hS:=hS.cB (id:=902) (t:=161) (cs:=[I cy.2.2.o.ar,I cy.2.2.o.aw,I cy.2.2.o.aE,Sl pa cy.2.2.o.Rows o7,Sl o9 cy.2.2.l o6,Sl nO (cy.2.2.done.set p_.Oper.toNat false) nJ,V (.map (some r4))]) kr xA
  clear xA
  refine aU kr ?_
  replace hS:=hS.sl ⟨[(10,Sl vc cy.1 uX),(11,B cy.2.1)],[(901,(147,[Pt 902 0])),(902,(161,[I cy.2.2.o.ar,I cy.2.2.o.aw,I cy.2.2.o.aE,Sl pa cy.2.2.o.Rows o7,Sl o9 cy.2.2.l o6,Sl nO (cy.2.2.done.set p_.Oper.toNat false) nJ,V (.map (some r4))])),(903,(3,[I aL])),(904,(26,[Sl a5 bz c5]))]⟩
  refine rP T hS ⟨[(5,Sl vc cy.1 uX),(6,B cy.2.1)],[(901,(147,[Pt 902 0])),(902,(161,[I cy.2.2.o.ar,I cy.2.2.o.aw,I cy.2.2.o.aE,Sl pa cy.2.2.o.Rows o7,Sl o9 cy.2.2.l o6,Sl nO (cy.2.2.done.set p_.Oper.toNat false) nJ,V (.map (some r4))])),(903,(3,[I aL])),(904,(26,[Sl a5 bz c5]))]⟩ fun a hS=>?_
  refine aV ?_
  exact gy T hS hO (fun c h=>bT kr h) (fun c h=>bU (l:=(zAc2 i1 i2 i3 i4 m3 m4)) h) (bO [(i1,901),(i2,902),(i3,903),(i4,904),(m3,2003),(m4,2004),(cD,1006)]) rfl (r:=[.slice vc cy.1.length uX,.bool cy.2.1]) kr (fun X' hM hC=>⟨(cy.1,cy.2.1,(⟨cy.2.2.o,cy.2.2.l,(cy.2.2.done.set p_.Oper.toNat false),cy.2.2.failed⟩:aX)),hm,vc,uX,pa,o7,o9,o6,nO,nJ,rfl,(OS.out (f:=(bO [(i1,901),(i2,902),(i3,903),(i4,904),(m3,2003),(m4,2004),(cD,1006)])) h191 hM hC kr),h194.m0 hM,h197.m0 hM,(OS.out (f:=(bO [(i1,901),(i2,902),(i3,903),(i4,904),(m3,2003),(m4,2004),(cD,1006)])) h210 hM hC kr),(Cell.ptr (id:=902) ((hS.cell (id:=901) (t:=147) (cs:=[Pt 902 0]) kr).out (f:=(bO [(i1,901),(i2,902),(i3,903),(i4,904),(m3,2003),(m4,2004),(cD,1006)])) hC kr kr (hP.at 0 rfl)) (hP.at 1 rfl)),((hS.cell (id:=902) (t:=161) (cs:=[I cy.2.2.o.ar,I cy.2.2.o.aw,I cy.2.2.o.aE,Sl pa cy.2.2.o.Rows o7,Sl o9 cy.2.2.l o6,Sl nO (cy.2.2.done.set p_.Oper.toNat false) nJ,V (.map (some r4))]) kr).out (f:=(bO [(i1,901),(i2,902),(i3,903),(i4,904),(m3,2003),(m4,2004),(cD,1006)])) hC kr kr (hP.at 1 rfl)),(h201.out (f:=(bO [(i1,901),(i2,902),(i3,903),(i4,904),(m3,2003),(m4,2004),(cD,1006)])) hM hC kr kr),((hS.cell (id:=903) (t:=3) (cs:=[I aL]) kr).out (f:=(bO [(i1,901),(i2,902),(i3,903),(i4,904),(m3,2003),(m4,2004),(cD,1006)])) hC kr kr (hP.at 2 rfl)),((hS.cell (id:=904) (t:=26) (cs:=[Sl a5 bz c5]) kr).out (f:=(bO [(i1,901),(i2,902),(i3,903),(i4,904),(m3,2003),(m4,2004),(cD,1006)])) hC kr kr (hP.at 3 rfl))⟩)
 clear hm
 refine qF (is:=[3,5]) kr (by decide) ?_
 intro i hi
 rcases yP hi with rfl | rfl
 ·have hq:=F1
  refine jA (by rfl) (call hS kr kr hb104 kr (fun _ _=>rfl) (C5 _ _ bz a5 c5 1006 hq h5) ?_)
  intro v156 a yg zI hE hp hS
  replace hO:=hO.m2 hE
  replace hD:=hD.ev hE rfl
  replace h1:=h1.m1 hE
  replace h2:=h2.m1 hE
  replace h4:=h4.m2 hE
  replace h5:=h5.m1 hE
  replace h119:=h119.m2 hE
  obtain ⟨zF,zt,hp,h162⟩:=hp
  rw [Dg] at hp h162
  subst hp
  replace hS:=hS.sl ⟨[(1,Pt 901 0),(4,Pt 5 0),(39,Pt 902 0),(40,I cZ.1),(41,Sl a5 bz c5),(43,V (.agg #[.int .i64 p_.Oper,.int .i64 p_.Result])),(42,Sl zF mb zt)],[(5,(56,(cK p_))),(901,(147,[Pt 902 0])),(902,(161,[I ap.o.ar,I ap.o.aw,I ap.o.aE,Sl a1 ap.o.Rows c1,Sl a2 ap.l c2,Sl a3 (ap.done.set p_.Oper.toNat true) c3,V (.map (some r4))])),(903,(3,[I aL])),(904,(26,[Sl a5 bz c5]))]⟩
  refine c8 (bJ.of hS (bks:=[5,901,903,904]) kr hD) ?_
  intro hH
  refine only 5 kr (by rfl) (lit (E:=56) (col:=0) (T:=au) (vals:=[.agg #[.int .i64 p_.Oper,.int .i64 p_.Result]]) (ys:=[p_]) T hS kr kr kr kr (by exact ⟨rfl,trivial⟩) rfl kr kr kr kr ?_)
  intro b163 a ET IT hE h166 hN hS
  clear hN
  replace hO:=hO.m2 hE
  replace hD:=hD.ev hE rfl
  replace h1:=h1.m1 hE
  replace h2:=h2.m1 hE
  replace h4:=h4.m2 hE
  replace h5:=h5.m1 hE
  replace h119:=h119.m2 hE
  replace h162:=h162.m2 hE
  replace h166:=h166.rs0
  refine c8 (bJ.of hS (bks:=[5,901,903,904]) kr hD) ?_
  intro hH
  exact H _ _ ⟨_,zF,zt,(some ⟨b163,0,none⟩),1,hS.sl _,hO,hD,hH,h162,h166,h1,h2,h119,h4,h5⟩
 refine jA (by rfl) (lit (E:=56) (col:=0) (T:=au) (vals:=[.agg #[.int .i64 p_.Oper,.int .i64 p_.Result]]) (ys:=[p_]) T hS kr kr kr kr (by exact ⟨rfl,trivial⟩) rfl kr kr kr kr ?_)
 intro b167 a Cw Gi hE h170 hN hS
 clear hN
 replace hO:=hO.m2 hE
 replace hD:=hD.ev hE rfl
 replace h1:=h1.m1 hE
 replace h2:=h2.m1 hE
 replace h4:=h4.m2 hE
 replace h5:=h5.m1 hE
 replace h119:=h119.m2 hE
 replace h170:=h170.rs0
 refine c8 (bJ.of hS (bks:=[5,901,903,904]) kr hD) ?_
 intro hH
 have hq:=F1
 refine only 3 kr (by rfl) (call hS kr kr hb104 kr (fun _ _=>rfl) (C5 _ _ bz a5 c5 1006 hq h5) ?_)
 intro v171 a ES Gh hE hp hS
 replace hO:=hO.m2 hE
 replace hD:=hD.ev hE rfl
 replace h1:=h1.m1 hE
 replace h2:=h2.m1 hE
 replace h4:=h4.m2 hE
 replace h5:=h5.m1 hE
 replace h119:=h119.m2 hE
 replace h170:=h170.m1 hE
 obtain ⟨iV,iU,hp,h177⟩:=hp
 rw [Dg] at hp h177
 subst hp
 replace hS:=hS.sl ⟨[(1,Pt 901 0),(4,Pt 5 0),(39,Pt 902 0),(40,I cZ.1),(41,Sl a5 bz c5),(43,V (.agg #[.int .i64 p_.Oper,.int .i64 p_.Result])),(44,Sl (some ⟨b167,0,none⟩) [p_] 1),(42,Sl iV mb iU)],[(5,(56,(cK p_))),(901,(147,[Pt 902 0])),(902,(161,[I ap.o.ar,I ap.o.aw,I ap.o.aE,Sl a1 ap.o.Rows c1,Sl a2 ap.l c2,Sl a3 (ap.done.set p_.Oper.toNat true) c3,V (.map (some r4))])),(903,(3,[I aL])),(904,(26,[Sl a5 bz c5]))]⟩
 refine c8 (bJ.of hS (bks:=[5,901,903,904]) kr hD) ?_
 intro hH
 exact H _ _ ⟨_,iV,iU,(some ⟨b167,0,none⟩),1,hS.sl _,hO,hD,hH,h177,h170,h1,h2,h119,h4,h5⟩
theorem C102 (N:Nat) (qn:S103) (C5:S104) (Fp:S90N N) (v:∀ (p_:aa) (ap:aX) (aL:Int) (bz:List aa),wX p_ ap aL bz->AS p_ ap aL bz < N+1->VC102 N p_ ap aL bz (fun r=>r=bf p_ ap aL bz)):S102N (N+1):=by
 intro w X p_ ap aL bz a1 c1 a2 c2 a3 c3 m3 r4 m4 a5 c5 cD b1 i1 b2 i2 b3 i3 b4 i4 hp Lc h1 h2 h3 h4 h5 fb gp lb sY hA
 refine (W102 N qn C5 Fp w X p_ ap aL bz a1 c1 a2 c2 a3 c3 m3 r4 m4 a5 c5 cD b1 i1 b2 i2 b3 i3 b4 i4 _ (v p_ ap aL bz hp Lc) h1 h2 h3 h4 h5 fb gp lb sY hA).mono ?_
 rintro _ _ _ _ ⟨r,rfl,h⟩
 exact h
end Go.Proofs.YteahldlmkheleaaGreat
