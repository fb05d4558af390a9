import Derived.Test.YteahldlmkheleaaGreatLWalksS
set_option linter.all false
namespace Go.Proofs.YteahldlmkheleaaGreat
open Go Go.Sv
abbrev zAc0 (cz:Nat):Nat->Nat:=fun c=>(bif Nat.beq c 1009 then cz else c)
abbrev zAc1 (cz:Nat):Nat->Nat:=fun c=>(bif Nat.beq c 1003 then cz else c)
abbrev zAc2 (i1 i2 i3 i4 m3 m4:Nat):List (Nat × Nat):=[(i1,901),(i2,902),(i3,903),(i4,904),(m3,2003),(m4,2004)]
set_option maxHeartbeats 1000000
theorem W38 (E9:S66) (w0) (X0) (l_:List ab) (ac:List aa) (pending:Bool) (a1) (c1) (a2) (c2) (Q:(List Int)->Prop) (hm:VC38 l_ ac pending Q) (h1:RS ao w0 X0 a1 l_ c1) (h2:RS ar w0 X0 a2 ac c2) :
  Ret Tryz.prog 38 #[.slice a1 l_.length c1,.slice a2 ac.length c2,.bool pending] aJ w0 X0 (fun w X' v=>∃ r,Q r/\∃ cB cA,v=.slice cB r.length cA/\RS tI w X' cB r cA):=by
 unfold VC38 at hm
 replace hm:=hm (h1.sm kr)
 replace hm:=hm (h2.sm kr)
 refine enter Tryz.func38 rfl (vals:=[.slice a1 l_.length c1,.slice a2 ac.length c2,.bool pending]) kr ?_
 intro Z a hS hO hM
 replace h1:=h1.m0 hM
 replace h2:=h2.m0 hM
 refine rPe T hS [] [] fun a hS=>?_
 refine rPe T hS [] [(7,V (.slice none 0 0))] fun a hS=>?_
 refine b5 (fun a w=>∃ (Z:Nat->Nat) (X:Nat->Nat) (bv:List Int) (dk:Option Addr) (dj:Nat),VC38_J1 Q bv/\St Tryz.f38.ntmps ⟨[(7,Sl dk bv dj)],[]⟩ Z a w X/\Old w0 X0 w X/\OS tI 3 w X 1007 dk bv dj) ?_ ?_
 ·refine rPe T hS [] [(8,I 0)] fun a hS=>?_
  refine aN ?_
  obtain ⟨I1,μ1,cy,hm⟩:=hm
  refine cw (σ:=(List Int) × Int) (fun s a w=>∃ Z X gu gt,I1 s.1 s.2/\St Tryz.f38.ntmps ⟨[(0,Sl a1 l_ c1),(1,Sl a2 ac c2),(2,B pending),(7,Sl gu s.1 gt),(8,I s.2)],[]⟩ Z a w X/\Old w0 X0 w X/\RS ao w X a1 l_ c1/\RS ar w X a2 ac c2/\OS tI 3 w X 1007 gu s.1 gt) (fun s=>μ1 s.1 s.2) (⟨[],0⟩) ?_ ?_
  ·exact ⟨Z,_,none,0,cy,hS.sl _,hO,h1,h2,(OS.nil _ _ _ _ _)⟩
  rintro ⟨cQ,bc⟩ a Ct ⟨Z,zU,gu,gt,hI,hS,hO,h107,h108,h112⟩
  replace hm:=hm cQ bc hI
  clear hI cy
  refine bd ?_
  refine rPe T hS [] [(12,B (decide (bc < (lN l_))))] fun a hS=>?_
  refine aF hS (b:=decide (bc < (lN l_))) kr (fun hb=>?_) fun hb=>?_
  ·replace hm:=hm.1 hb
   refine aL ?_
   refine b5 (fun a w=>∃ (Z:Nat->Nat) (X:Nat->Nat) (aY:List Int) (kU:Option Addr) (kR:Nat),VC38_J2 I1 μ1 cQ bc aY/\St Tryz.f38.ntmps ⟨[(0,Sl a1 l_ c1),(1,Sl a2 ac c2),(2,B pending),(7,Sl kU aY kR),(8,I bc)],[]⟩ Z a w X/\Old w0 X0 w X/\RS ao w X a1 l_ c1/\RS ar w X a2 ac c2/\OS tI 3 w X 1007 kU aY kR) ?_ ?_
   ·refine aN ?_
    refine b5 (fun a w=>∃ (Z:Nat->Nat) (X:Nat->Nat) (aU:List Int) (mG:Bool) (oF:Option Addr) (oB:Nat),VC38_J3 I1 μ1 cQ bc aU mG/\St Tryz.f38.ntmps ⟨[(0,Sl a1 l_ c1),(1,Sl a2 ac c2),(2,B pending),(7,Sl oF aU oB),(8,I bc),(28,B mG)],[]⟩ Z a w X/\Old w0 X0 w X/\RS ao w X a1 l_ c1/\RS ar w X a2 ac c2/\OS tI 3 w X 1007 oF aU oB) ?_ ?_
    ·refine region ?_
     refine oPe T hS 2 [12] [(15,Sl a2 ac c2),(16,I bc)] fun a hS=>?_
     refine op1 (call hS kr kr hb66 kr (fun _ _=>rfl) (E9 _ _ ac bc a2 c2 h108) ?_)
     intro v136 a EH F6 hE hp hS
     replace hO:=hO.m2 hE
     replace h107:=h107.m1 hE
     replace h108:=h108.m1 hE
     replace h112:=h112.m2 hE
     obtain ⟨gq,hr⟩:∃ r,ca ac bc=r:=⟨_,rfl⟩
     replace hm:=hm gq hr
     rw [hr] at hp
     clear hr
     subst hp
     refine oPe T hS 2 [15,16,17] [(19,B (decide (gq < 0)))] fun a hS=>?_
     rcases bft (decide (gq < 0)) with hb | hb
     ·replace hS:=hS.lit (t:=19) kr hb
      replace hm:=hm.1 hb
      refine oPe T hS 2 [] [(20,Sl a1 l_ c1),(21,I bc)] fun a hS=>?_
      obtain ⟨hq,hm⟩:=hm
      refine op1 (index (e:=102) (k:=.i64) T hS kr kr kr kr h107 kr kr hq.1 hq.2 ?_)
      intro F8 a h141 hS
      refine op1 (fc (off:=3) (fsz:=1) (ft:=3) (TF:=tI) (y:=(gi l_ bc).End) T hS kr kr kr h141 kr kr kr (fun cs h=>lY h) ?_)
      intro L2 a h143 hS
      refine op1 (eC T hS kr kr kr h143 rfl kr ?_)
      intro v144 a hv hS
      cases hv
      refine ePe T hS [19,20,21,22,23,24] [(28,B ((((gi l_ bc).End) == (-1)) == pending))] fun a hS=>?_
      exact ⟨Z,_,cQ,((((gi l_ bc).End) == (-1)) == pending),gu,gt,hm,hS.sl _,hO,h107,h108,h112⟩
     replace hS:=hS.lit (t:=19) kr hb
     replace hm:=hm.2 hb
     refine ePe T hS [19] [(28,B false)] fun a hS=>?_
     exact ⟨Z,_,cQ,false,gu,gt,hm,hS.sl _,hO,h107,h108,h112⟩
    rintro a Cv ⟨Z,zW,aU,mG,oF,oB,hm,hS,hO,h120,h121,h125⟩
    unfold VC38_J3 at hm
    refine aF hS (b:=mG) kr (fun hb=>?_) fun hb=>?_
    ·replace hm:=hm.1 hb
     refine region ?_
     refine oPe T hS 2 [28] [(29,Sl oF aU oB),(30,I bc)] fun a hS=>?_
     refine op1 (lit (E:=3) (col:=0) (T:=tI) (vals:=[.int .i64 bc]) (ys:=[bc]) T hS kr kr kr kr (by exact ⟨rfl,trivial⟩) rfl kr kr kr kr ?_)
     intro b127 a q5 rb hE h130 hN hS
     clear hN
     replace hO:=hO.m2 hE
     replace h120:=h120.m1 hE
     replace h121:=h121.m1 hE
     replace h125:=h125.m2 hE
     replace h130:=h130.rs0
     obtain ⟨hq,hm⟩:=hm
     obtain ⟨news,hN⟩:=h130.src
     refine op1 (append (E:=3) (T:=tI) (col:=1007) (xs:=aU) T hS kr kr kr kr h125 hN kr kr kr kr hq ?_)
     intro zR zI a qZ qQ hE h133 hS
     clear hq hN
     clear h125
     replace hO:=hO.m2 hE
     replace h120:=h120.m1 hE
     replace h121:=h121.m1 hE
     replace h130:=h130.m1 hE
     refine ePe T hS [30,31,32] [(7,Sl zR (aU++[bc]) zI)] fun a hS=>?_
     exact ⟨Z,_,aU++[bc],zR,zI,hm,hS.sl _,hO,h120,h121,h133⟩
    replace hm:=hm.2 hb
    refine aL ?_
    exact ⟨Z,_,aU,oF,oB,hm,hS.sl _,hO,h120,h121,h125⟩
   rintro a Cu ⟨Z,ID,aY,kU,kR,hm,hS,hO,h114,h115,h119⟩
   unfold VC38_J2 at hm
   refine region (ePe T hS [] [(8,I (wR (bc+1)))] fun a hS=>?_)
   exact ⟨⟨aY,wR (bc+1)⟩,⟨Z,_,kU,kR,hm.1,hS.sl _,hO,h114,h115,h119⟩,hm.2⟩
  replace hm:=hm.2 hb
  refine cl (by rfl) ?_
  exact ⟨Z,_,cQ,gu,gt,hm,hS.sl _,hO,h112⟩
 rintro a GJ ⟨Z,IC,bv,dk,dj,hm,hS,hO,h104⟩
 unfold VC38_J1 at hm
 refine rPe T hS [7] [(6,Sl dk bv dj)] fun a hS=>?_
 refine aZ ?_
 obtain ⟨oH,hE,hF⟩:=h104.freeze (by decide)
 replace hS:=hS.ev hE (cN kr)
 replace hO:=hO.m2 hE
 have h106:=hF; clear hE hF
 exact fin T hS hO (fun c=>c) rfl (r:=[.slice dk bv.length dj]) kr (fun X' hM hC=>⟨bv,hm,dk,dj,rfl,h106.m0 hM⟩)
theorem C38 (E9:S66) (v:∀ (l_:List ab) (ac:List aa) (pending:Bool),rz l_ ac pending->VC38 l_ ac pending (fun r=>r=eF l_ ac pending)):S38:=by
 intro w X l_ ac pending a1 c1 a2 c2   hp h1 h2
 refine (W38 E9 w X l_ ac pending a1 c1 a2 c2   _ (v l_ ac pending hp) h1 h2).mono ?_
 rintro _ _ _ _ ⟨r,rfl,h⟩
 exact h
theorem W114 (w0) (X0) (i_:Int) (am:List Bool) (a1) (c1) (b1) (i1) (Q:Bool->Prop) (hm:VC114 i_ am Q) (h1:RS dz w0 X0 a1 am c1) (ff:Cell w0 X0 b1 i1 158 [.slice a1 am.length c1]) (hA:dH [i1]) :
  Ret Tryz.prog 114 #[.int .i64 i_,.pointer (some ⟨b1,0,none⟩)] (pR [i1]) w0 X0 (fun w X' v=>∃ r,Q r/\v=.bool r/\Cell w X' b1 i1 158 [.slice a1 am.length c1]):=by
 unfold VC114 at hm
 replace hm:=hm (h1.sm kr)
 refine fB Tryz.func114 rfl (dx [(i1,901)]) (fun id=>(bif Nat.beq id 901 then b1 else 0)) (args:=[I i_,Pt 901 0]) (bxs:=[(901,(158,[Sl a1 am c1]))]) kr rfl (bm.cons kr (ff.map (bK 0 hA.1 rfl)) bm.nil) (fm (fun q hq=>(hA.2 q.1 (List.mem_map.2 ⟨q,hq,rfl⟩)).1)) ?_
 intro a hS hO hM
 have hP:Pin [(901,b1)] (fun id=>(bif Nat.beq id 901 then b1 else 0)):=by intro q hq; simp at hq; rcases hq with rfl <;> rfl
 generalize (fun id=>(bif Nat.beq id 901 then b1 else 0))=Z at hS hP
 clear ff
 replace h1:=h1.m0 hM
 refine rPe T hS [] [] fun a hS=>?_
 refine bn ?_
 refine oPe T hS 5 [] [(8,B (decide (i_ < (lN am))))] fun a hS=>?_
 rcases bft (decide (i_ < (lN am))) with hb | hb
 ·replace hS:=hS.lit (t:=8) kr hb
  replace hm:=hm.1 hb
  refine oPe T hS 2 [0,1] [(9,Sl a1 am c1),(10,I i_)] fun a hS=>?_
  obtain ⟨hq,hm⟩:=hm
  refine op1 (index (e:=4) (k:=.i64) T hS kr kr kr kr h1 kr kr hq.1 hq.2 ?_)
  intro IP a h102 hS
  refine op1 (eC T hS kr kr kr h102 rfl kr ?_)
  intro v103 a hv hS
  cases hv
  refine ePe T hS [8,9,10,11,12] [(3,B (gi am i_))] fun a hS=>?_
  refine aZ ?_
  exact gF T hS hO (fun c h=>bS kr h) (fun c h=>bT (l:=[(i1,901)]) h) (bN [(i1,901)]) rfl (r:=[.bool (gi am i_)]) kr (fun X' hM hC=>⟨(gi am i_),hm,rfl,((hS.cell (id:=901) (t:=158) (cs:=[Sl a1 am c1]) kr).out (f:=(bN [(i1,901)])) hC kr kr (hP.at 0 rfl))⟩)
 replace hS:=hS.lit (t:=8) kr hb
 replace hm:=hm.2 hb
 refine ePe T hS [0,1,8] [(3,B false)] fun a hS=>?_
 refine aZ ?_
 exact gF T hS hO (fun c h=>bS kr h) (fun c h=>bT (l:=[(i1,901)]) h) (bN [(i1,901)]) rfl (r:=[.bool false]) kr (fun X' hM hC=>⟨false,hm,rfl,((hS.cell (id:=901) (t:=158) (cs:=[Sl a1 am c1]) kr).out (f:=(bN [(i1,901)])) hC kr kr (hP.at 0 rfl))⟩)
theorem C114 (v:∀ (i_:Int) (am:List Bool),ur i_ am->VC114 i_ am (fun r=>r=eX i_ am)):S114:=by
 intro w X i_ am a1 c1  b1 i1 hp h1 ff hA
 refine (W114 w X i_ am a1 c1  b1 i1 _ (v i_ am hp) h1 ff hA).mono ?_
 rintro _ _ _ _ ⟨r,rfl,h⟩
 exact h
theorem W112 (CT:S114) (ww:S63) (w0) (X0) (l_:List ab) (done:List Bool) (a1) (c1) (a2) (c2) (Q:(List Int)->Prop) (hm:VC112 l_ done Q) (h1:RS ao w0 X0 a1 l_ c1) (h2:RS dz w0 X0 a2 done c2) :
  Ret Tryz.prog 112 #[.slice a1 l_.length c1,.slice a2 done.length c2] aJ w0 X0 (fun w X' v=>∃ r,Q r/\∃ cB cA,v=.slice cB r.length cA/\RS tI w X' cB r cA):=by
 unfold VC112 at hm
 replace hm:=hm (h1.sm kr)
 replace hm:=hm (h2.sm kr)
 refine enter Tryz.func112 rfl (vals:=[.slice a1 l_.length c1,.slice a2 done.length c2]) kr ?_
 intro Z a hS hO hM
 replace h1:=h1.m0 hM
 replace h2:=h2.m0 hM
 refine rM T hS ⟨[(0,Sl a1 l_ c1),(3,Pt 4 0)],[(4,(158,[Sl a2 done c2]))]⟩ fun Z a Jg LI hS hE hr=>?_
 replace hO:=hO.m2 hE
 replace h1:=h1.m1 hE
 replace h2:=h2.m1 hE
 clear hE hr
 refine rPe T hS [3] [(5,.f (.func 114) [] [.p 4 0])] fun a hS=>?_
 refine rPe T hS [] [(6,V (.slice none 0 0))] fun a hS=>?_
 refine b5 (fun a w=>∃ (Z:Nat->Nat) (X:Nat->Nat) (bv:List Int) (dk:Option Addr) (dj:Nat),VC112_J1 Q bv/\St Tryz.f112.ntmps ⟨[(6,Sl dk bv dj)],[]⟩ Z a w X/\Old w0 X0 w X/\OS tI 3 w X 1005 dk bv dj) ?_ ?_
 ·refine rPe T hS [] [(13,Sl a1 l_ c1),(14,I (lN l_)),(15,I 0)] fun a hS=>?_
  refine aN ?_
  obtain ⟨I1,μ1,cy,hm⟩:=hm
  refine cw (σ:=(List Int) × Int) (fun s a w=>∃ Z X ci ce,I1 s.1 s.2/\St Tryz.f112.ntmps ⟨[(0,Sl a1 l_ c1),(5,.f (.func 114) [] [.p 4 0]),(6,Sl ci s.1 ce),(13,Sl a1 l_ c1),(14,I (lN l_)),(15,I s.2)],[(4,(158,[Sl a2 done c2]))]⟩ Z a w X/\Old w0 X0 w X/\RS ao w X a1 l_ c1/\OS tI 3 w X 1005 ci s.1 ce/\RS ao w X a1 l_ c1/\RS dz w X a2 done c2) (fun s=>μ1 s.1 s.2) (⟨[],0⟩) ?_ ?_
  ·exact ⟨Z,_,none,0,cy,hS.sl _,hO,h1,(OS.nil _ _ _ _ _),h1,h2⟩
  rintro ⟨dn,bc⟩ a GA ⟨Z,LJ,ci,ce,hI,hS,hO,h107,h111,h112,h114⟩
  replace hm:=hm dn bc hI
  clear hI cy
  refine rPe T hS [] [(16,B (decide (bc < (lN l_))))] fun a hS=>?_
  refine bd ?_
  refine aF hS (b:=decide (bc < (lN l_))) kr (fun hb=>?_) fun hb=>?_
  ·replace hm:=hm.1 hb
   refine aL ?_
   refine b5 (fun a w=>∃ (Z:Nat->Nat) (X:Nat->Nat) (aY:List Int) (kU:Option Addr) (kR:Nat),VC112_J2 I1 μ1 dn bc aY/\St Tryz.f112.ntmps ⟨[(0,Sl a1 l_ c1),(5,.f (.func 114) [] [.p 4 0]),(6,Sl kU aY kR),(13,Sl a1 l_ c1),(14,I (lN l_)),(15,I bc)],[(4,(158,[Sl a2 done c2]))]⟩ Z a w X/\Old w0 X0 w X/\RS ao w X a1 l_ c1/\OS tI 3 w X 1005 kU aY kR/\RS ao w X a1 l_ c1/\RS dz w X a2 done c2) ?_ ?_
   ·refine aN ?_
    refine bn ?_
    refine oPe T hS 1 [16] [(17,I bc)] fun a hS=>?_
    obtain ⟨hq,hm⟩:=hm
    refine op1 (index (e:=102) (k:=.i64) T hS kr kr kr kr h112 kr kr hq.1 hq.2 ?_)
    intro B6 a h123 hS
    refine op1 (eB T hS kr kr kr h123 kr kr ?_)
    intro v124 a hv hS
    subst hv
    refine eM T hS ⟨[(0,Sl a1 l_ c1),(5,.f (.func 114) [] [.p 4 0]),(6,Sl ci dn ce),(7,I bc),(8,Pt 9 0),(13,Sl a1 l_ c1),(14,I (lN l_)),(15,I bc)],[(4,(158,[Sl a2 done c2])),(9,(102,(cP (gi l_ bc))))]⟩ fun Z a EC Iu hS hE hr=>?_
    replace hO:=hO.m2 hE
    replace h107:=h107.m1 hE
    replace h111:=h111.m2 hE
    replace h112:=h112.m1 hE
    replace h114:=h114.m1 hE
    clear hE hr
    refine bn ?_
    refine oPe T hS 2 [] [(20,.f (.func 114) [] [.p 4 0]),(21,I bc)] fun a hS=>?_
    obtain ⟨hq,hm⟩:=hm
    refine op1 (jI (fi:=[]) (cp:=[.p 4 0]) hS kr kr hb114 kr kr (CT _ _ bc done a2 c2 (Z 4) 4 hq h114 (hS.cell (id:=4) (t:=158) (cs:=[Sl a2 done c2]) kr) ⟨by decide,by decide⟩) ?_)
    intro v125 a tQ qR hE hp hS
    replace hO:=hO.m2 hE
    replace h107:=h107.m1 hE
    replace h111:=h111.m2 hE
    replace h112:=h112.m1 hE
    replace h114:=h114.m1 hE
    obtain ⟨hp,uH⟩:=hp
    obtain ⟨bO,hr⟩:∃ r,eX bc done=r:=⟨_,rfl⟩
    replace hm:=hm bO hr
    rw [hr] at hp
    clear hr
    subst hp
    replace hS:=hS.cx (id:=4) (t:=158) (cs:=[Sl a2 done c2]) kr uH
    clear uH
    refine ePe T hS [20,21,22] [(9,B (!bO))] fun a hS=>?_
    refine b5 (fun a w=>∃ (Z:Nat->Nat) (X:Nat->Nat) (fK:List Int) (fX:Bool) (gJ:Option Addr) (gI:Nat),VC112_J3 I1 μ1 dn bc fK fX/\St Tryz.f112.ntmps ⟨[(0,Sl a1 l_ c1),(5,.f (.func 114) [] [.p 4 0]),(6,Sl gJ fK gI),(7,I bc),(9,B fX),(13,Sl a1 l_ c1),(14,I (lN l_)),(15,I bc)],[(4,(158,[Sl a2 done c2]))]⟩ Z a w X/\Old w0 X0 w X/\RS ao w X a1 l_ c1/\OS tI 3 w X 1005 gJ fK gI/\RS ao w X a1 l_ c1/\RS dz w X a2 done c2) ?_ ?_
    ·refine rPe T hS [] [(24,Sl a1 l_ c1),(25,I (lN l_)),(26,I 0)] fun a hS=>?_
     refine aN ?_
     obtain ⟨I2,μ2,cy,hm⟩:=hm
     refine cw (σ:=(List Int) × Bool × Int) (fun s a w=>∃ Z X lU lS,I2 s.1 s.2.1 s.2.2/\St Tryz.f112.ntmps ⟨[(0,Sl a1 l_ c1),(5,.f (.func 114) [] [.p 4 0]),(6,Sl lU s.1 lS),(7,I bc),(8,Pt 9 0),(9,B s.2.1),(13,Sl a1 l_ c1),(14,I (lN l_)),(15,I bc),(24,Sl a1 l_ c1),(25,I (lN l_)),(26,I s.2.2)],[(4,(158,[Sl a2 done c2])),(9,(102,(cP (gi l_ bc))))]⟩ Z a w X/\Old w0 X0 w X/\RS ao w X a1 l_ c1/\OS tI 3 w X 1005 lU s.1 lS/\RS ao w X a1 l_ c1/\RS ao w X a1 l_ c1/\RS dz w X a2 done c2) (fun s=>μ2 s.1 s.2.1 s.2.2) (⟨dn,(!bO),0⟩) ?_ ?_
     ·exact ⟨Z,_,ci,ce,cy,hS.sl _,hO,h107,h111,h112,h107,h114⟩
     rintro ⟨qW,fC,i9⟩ a Jk ⟨Z,Iv,lU,lS,hI,hS,hO,h147,h151,h153,h154,h156⟩
     replace hm:=hm qW fC i9 hI
     clear hI cy
     refine rPe T hS [] [(27,B (decide (i9 < (lN l_))))] fun a hS=>?_
     refine bd ?_
     refine aF hS (b:=decide (i9 < (lN l_))) kr (fun hb=>?_) fun hb=>?_
     ·replace hm:=hm.1 hb
      refine aL ?_
      refine b5 (fun a w=>∃ (Z:Nat->Nat) (X:Nat->Nat) (Aa:List Int) (Cm:Bool) (n3:Option Addr) (nV:Nat),VC112_J4 I2 μ2 qW fC i9 Aa Cm/\St Tryz.f112.ntmps ⟨[(0,Sl a1 l_ c1),(5,.f (.func 114) [] [.p 4 0]),(6,Sl n3 Aa nV),(7,I bc),(8,Pt 9 0),(9,B Cm),(13,Sl a1 l_ c1),(14,I (lN l_)),(15,I bc),(24,Sl a1 l_ c1),(25,I (lN l_)),(26,I i9)],[(4,(158,[Sl a2 done c2])),(9,(102,(cP (gi l_ bc))))]⟩ Z a w X/\Old w0 X0 w X/\RS ao w X a1 l_ c1/\OS tI 3 w X 1005 n3 Aa nV/\RS ao w X a1 l_ c1/\RS ao w X a1 l_ c1/\RS dz w X a2 done c2) ?_ ?_
      ·refine aN ?_
       refine bn ?_
       refine oPe T hS 1 [27] [(28,I i9)] fun a hS=>?_
       obtain ⟨hq,hm⟩:=hm
       refine op1 (index (e:=102) (k:=.i64) T hS kr kr kr kr h154 kr kr hq.1 hq.2 ?_)
       intro QA a h167 hS
       refine op1 (eB T hS kr kr kr h167 kr kr ?_)
       intro v168 a hv hS
       subst hv
       refine eM T hS ⟨[(0,Sl a1 l_ c1),(5,.f (.func 114) [] [.p 4 0]),(6,Sl lU qW lS),(7,I bc),(8,Pt 9 0),(9,B fC),(10,I i9),(11,Pt 12 0),(13,Sl a1 l_ c1),(14,I (lN l_)),(15,I bc),(24,Sl a1 l_ c1),(25,I (lN l_)),(26,I i9)],[(4,(158,[Sl a2 done c2])),(9,(102,(cP (gi l_ bc)))),(12,(102,(cP (gi l_ i9))))]⟩ fun Z a Co Du hS hE hr=>?_
       replace hO:=hO.m2 hE
       replace h147:=h147.m1 hE
       replace h151:=h151.m2 hE
       replace h153:=h153.m1 hE
       replace h154:=h154.m1 hE
       replace h156:=h156.m1 hE
       clear hE hr
       refine region ?_
       refine oPe T hS 2 [] [(32,B fC)] fun a hS=>?_
       rcases bft fC with hb | hb
       ·replace hS:=hS.lit (t:=32) kr hb
        replace hm:=hm.1 hb
        refine oPe T hS 2 [10] [(33,.f (.func 114) [] [.p 4 0]),(34,I i9)] fun a hS=>?_
        obtain ⟨hq,hm⟩:=hm
        refine op1 (jI (fi:=[]) (cp:=[.p 4 0]) hS kr kr hb114 kr kr (CT _ _ i9 done a2 c2 (Z 4) 4 hq h156 (hS.cell (id:=4) (t:=158) (cs:=[Sl a2 done c2]) kr) ⟨by decide,by decide⟩) ?_)
        intro v169 a Jp LQ hE hp hS
        replace hO:=hO.m2 hE
        replace h147:=h147.m1 hE
        replace h151:=h151.m2 hE
        replace h153:=h153.m1 hE
        replace h154:=h154.m1 hE
        replace h156:=h156.m1 hE
        obtain ⟨hp,DY⟩:=hp
        obtain ⟨wd,hr⟩:∃ r,eX i9 done=r:=⟨_,rfl⟩
        replace hm:=hm wd hr
        rw [hr] at hp
        clear hr
        subst hp
        replace hS:=hS.cx (id:=4) (t:=158) (cs:=[Sl a2 done c2]) kr DY
        clear DY
        refine oPe T hS 1 [33,34,35] [(36,B wd)] fun a hS=>?_
        rcases bft wd with hb | hb
        ·replace hS:=hS.lit (t:=36) kr hb
         replace hm:=hm.1 hb
         refine eP T hS ⟨[(0,Sl a1 l_ c1),(5,.f (.func 114) [] [.p 4 0]),(6,Sl lU qW lS),(7,I bc),(8,Pt 9 0),(9,B true),(13,Sl a1 l_ c1),(14,I (lN l_)),(15,I bc),(24,Sl a1 l_ c1),(25,I (lN l_)),(26,I i9)],[(4,(158,[Sl a2 done c2])),(9,(102,(cP (gi l_ bc))))]⟩ fun a hS=>?_
         exact ⟨Z,_,qW,true,lU,lS,hm,hS.sl _,hO,h147,h151,h153,h154,h156⟩
        replace hS:=hS.lit (t:=36) kr hb
        replace hm:=hm.2 hb
        refine oP T hS 2 ⟨[(0,Sl a1 l_ c1),(5,.f (.func 114) [] [.p 4 0]),(6,Sl lU qW lS),(7,I bc),(8,Pt 9 0),(9,B fC),(13,Sl a1 l_ c1),(14,I (lN l_)),(15,I bc),(24,Sl a1 l_ c1),(25,I (lN l_)),(26,I i9),(32,B true),(36,B false),(37,V (.agg #[.int .i64 ((gi l_ i9).ah),.int .i64 ((gi l_ i9).Kind),.int .i64 ((gi l_ i9).aD),.int .i64 ((gi l_ i9).End),.int .i64 ((gi l_ i9).Result)])),(38,V (.agg #[.int .i64 ((gi l_ bc).ah),.int .i64 ((gi l_ bc).Kind),.int .i64 ((gi l_ bc).aD),.int .i64 ((gi l_ bc).End),.int .i64 ((gi l_ bc).Result)]))],[(4,(158,[Sl a2 done c2])),(9,(102,(cP (gi l_ bc))))]⟩ fun a hS=>?_
        refine op1 (call hS kr kr hb63 kr (fun _ _=>rfl) (ww _ _ (gi l_ i9) (gi l_ bc)) ?_)
        intro v174 a GC FZ hE hp hS
        replace hO:=hO.m2 hE
        replace h147:=h147.m1 hE
        replace h151:=h151.m2 hE
        replace h153:=h153.m1 hE
        replace h154:=h154.m1 hE
        replace h156:=h156.m1 hE
        obtain ⟨yS,hr⟩:∃ r,bb (gi l_ i9) (gi l_ bc)=r:=⟨_,rfl⟩
        replace hm:=hm yS hr
        rw [hr] at hp
        clear hr
        subst hp
        refine ePe T hS [32,36,37,38,39] [(9,B (!yS))] fun a hS=>?_
        exact ⟨Z,_,qW,(!yS),lU,lS,hm,hS.sl _,hO,h147,h151,h153,h154,h156⟩
       replace hS:=hS.lit (t:=32) kr hb
       replace hm:=hm.2 hb
       refine eP T hS ⟨[(0,Sl a1 l_ c1),(5,.f (.func 114) [] [.p 4 0]),(6,Sl lU qW lS),(7,I bc),(8,Pt 9 0),(9,B false),(13,Sl a1 l_ c1),(14,I (lN l_)),(15,I bc),(24,Sl a1 l_ c1),(25,I (lN l_)),(26,I i9)],[(4,(158,[Sl a2 done c2])),(9,(102,(cP (gi l_ bc))))]⟩ fun a hS=>?_
       exact ⟨Z,_,qW,false,lU,lS,hm,hS.sl _,hO,h147,h151,h153,h154,h156⟩
      rintro a Jl ⟨Z,PW,Aa,Cm,n3,nV,hm,hS,hO,h157,h161,h163,h164,h165⟩
      unfold VC112_J4 at hm
      refine region (ePe T hS [] [(26,I (wR (i9+1)))] fun a hS=>?_)
      exact ⟨⟨Aa,Cm,wR (i9+1)⟩,⟨Z,_,n3,nV,hm.1,hS.sl _,hO,h157,h161,h163,h164,h165⟩,hm.2⟩
     replace hm:=hm.2 hb
     refine cl (by rfl) ?_
     exact ⟨Z,_,qW,fC,lU,lS,hm,hS.sl _,hO,h147,h151,h153,h156⟩
    rintro a Jj ⟨Z,LN,fK,fX,gJ,gI,hm,hS,hO,h130,h134,h136,h137⟩
    unfold VC112_J3 at hm
    refine rPe T hS [9] [(44,B fX)] fun a hS=>?_
    refine aF hS (b:=fX) kr (fun hb=>?_) fun hb=>?_
    ·replace hm:=hm.1 hb
     refine region ?_
     refine oPe T hS 2 [7,44] [(45,Sl gJ fK gI),(46,I bc)] fun a hS=>?_
     refine op1 (lit (E:=3) (col:=0) (T:=tI) (vals:=[.int .i64 bc]) (ys:=[bc]) T hS kr kr kr kr (by exact ⟨rfl,trivial⟩) rfl kr kr kr kr ?_)
     intro b138 a sg vy hE h141 hN hS
     clear hN
     replace hO:=hO.m2 hE
     replace h130:=h130.m1 hE
     replace h134:=h134.m2 hE
     replace h136:=h136.m1 hE
     replace h137:=h137.m1 hE
     replace h141:=h141.rs0
     obtain ⟨hq,hm⟩:=hm
     obtain ⟨news,hN⟩:=h141.src
     refine op1 (append (E:=3) (T:=tI) (col:=1005) (xs:=fK) T hS kr kr kr kr h134 hN kr kr kr kr hq ?_)
     intro vv vj a qY ra hE h144 hS
     clear hq hN
     clear h134
     replace hO:=hO.m2 hE
     replace h130:=h130.m1 hE
     replace h136:=h136.m1 hE
     replace h137:=h137.m1 hE
     replace h141:=h141.m1 hE
     refine ePe T hS [46,47,48] [(6,Sl vv (fK++[bc]) vj)] fun a hS=>?_
     exact ⟨Z,_,fK++[bc],vv,vj,hm,hS.sl _,hO,h130,h144,h136,h137⟩
    replace hm:=hm.2 hb
    refine aL ?_
    exact ⟨Z,_,fK,gJ,gI,hm,hS.sl _,hO,h130,h134,h136,h137⟩
   rintro a Ji ⟨Z,LK,aY,kU,kR,hm,hS,hO,h115,h119,h120,h121⟩
   unfold VC112_J2 at hm
   refine region (ePe T hS [] [(15,I (wR (bc+1)))] fun a hS=>?_)
   exact ⟨⟨aY,wR (bc+1)⟩,⟨Z,_,kU,kR,hm.1,hS.sl _,hO,h115,h119,h120,h121⟩,hm.2⟩
  replace hm:=hm.2 hb
  refine cl (by rfl) ?_
  exact ⟨Z,_,dn,ci,ce,hm,hS.sl _,hO,h111⟩
 rintro a Jh ⟨Z,It,bv,dk,dj,hm,hS,hO,h104⟩
 unfold VC112_J1 at hm
 refine rPe T hS [6] [(4,Sl dk bv dj)] fun a hS=>?_
 refine aZ ?_
 obtain ⟨oH,hE,hF⟩:=h104.freeze (by decide)
 replace hS:=hS.ev hE (cN kr)
 replace hO:=hO.m2 hE
 have h106:=hF; clear hE hF
 exact fin T hS hO (fun c=>c) rfl (r:=[.slice dk bv.length dj]) kr (fun X' hM hC=>⟨bv,hm,dk,dj,rfl,h106.m0 hM⟩)
theorem C112 (CT:S114) (ww:S63) (v:∀ (l_:List ab) (done:List Bool),xE l_ done->VC112 l_ done (fun r=>r=eN l_ done)):S112:=by
 intro w X l_ done a1 c1 a2 c2   hp h1 h2
 refine (W112 CT ww w X l_ done a1 c1 a2 c2   _ (v l_ done hp) h1 h2).mono ?_
 rintro _ _ _ _ ⟨r,rfl,h⟩
 exact h
theorem W105 (qm:S103) (Fi:S112) (tb:S53) (w0) (X0) (o_:al) (l_:List ab) (state:Int) (done:List Bool) (a1) (c1) (a2) (c2) (a3) (c3) (cz) (Q:(List aa)->Prop) (hm:VC105 o_ l_ state done Q) (h1:RS ay w0 X0 a1 o_.Rows c1) (h2:RS ao w0 X0 a2 l_ c2) (h3:RS dz w0 X0 a3 done c3) :
  Ret Tryz.prog 105 #[.agg #[.int .i64 o_.aq,.int .i64 o_.ax,.int .i64 o_.aE,.slice a1 o_.Rows.length c1],.slice a2 l_.length c2,.int .i64 state,.slice a3 done.length c3] aJ w0 X0 (fun w X' v=>∃ r,Q r/\∃ cB cA,v=.slice cB r.length cA/\OS ar 56 w X' cz cB r cA):=by
 unfold VC105 at hm
 replace hm:=hm (h1.sm kr)
 replace hm:=hm (h2.sm kr)
 replace hm:=hm (h3.sm kr)
 refine enter Tryz.func105 rfl (vals:=[.agg #[.int .i64 o_.aq,.int .i64 o_.ax,.int .i64 o_.aE,.slice a1 o_.Rows.length c1],.slice a2 l_.length c2,.int .i64 state,.slice a3 done.length c3]) kr ?_
 intro Z a hS hO hM
 replace h1:=h1.m0 hM
 replace h2:=h2.m0 hM
 replace h3:=h3.m0 hM
 refine rM T hS ⟨[(1,Sl a2 l_ c2),(2,I state),(3,Sl a3 done c3),(4,Pt 5 0)],[(5,(48,(cO o_ a1 c1)))]⟩ fun Z a GB Iw hS hE hr=>?_
 replace hO:=hO.m2 hE
 replace h1:=h1.m1 hE
 replace h2:=h2.m1 hE
 replace h3:=h3.m1 hE
 clear hE hr
 refine bd ?_
 refine bn ?_
 refine oPe T hS 1 [] [(18,V (.agg #[.int .i64 o_.aq,.int .i64 o_.ax,.int .i64 o_.aE,.slice a1 o_.Rows.length c1]))] fun a hS=>?_
 obtain ⟨hq,hm⟩:=hm
 refine op1 (call hS kr kr hb53 kr (fun _ _=>rfl) (tb _ _ o_ a1 c1 hq h1) ?_)
 intro v101 a fh fo hE hp hS
 replace hO:=hO.m2 hE
 replace h1:=h1.m1 hE
 replace h2:=h2.m1 hE
 replace h3:=h3.m1 hE
 obtain ⟨av,hr⟩:∃ r,bq o_=r:=⟨_,rfl⟩
 replace hm:=hm av hr
 rw [hr] at hp
 clear hr
 subst hp
 refine ePe T hS [18,19] [(10,I av.2)] fun a hS=>?_
 refine rPe T hS [10] [(23,B (av.2 != 0))] fun a hS=>?_
 refine aF hS (b:=(av.2 != 0)) kr (fun hb=>?_) fun hb=>?_
 ·replace hm:=hm.1 hb
  refine rP T hS ⟨[(8,V (.slice none 0 0))],[]⟩ fun a hS=>?_
  refine aZ ?_
  exact fin T hS hO (fun c=>c) rfl (r:=[.slice none 0 0]) kr (fun X' hM hC=>⟨[],hm,none,0,rfl,OS.nil _ _ _ _ _⟩)
 replace hm:=hm.2 hb
 refine aL ?_
 refine rPe T hS [23] [(11,V (.slice none 0 0))] fun a hS=>?_
 refine b5 (fun a w=>∃ (Z:Nat->Nat) (X:Nat->Nat) (gC:List aa) (j7:Option Addr) (jZ:Nat),VC105_J1 Q gC/\St Tryz.f105.ntmps ⟨[(11,Sl j7 gC jZ)],[]⟩ Z a w X/\Old w0 X0 w X/\OS ar 56 w X 1009 j7 gC jZ) ?_ ?_
 ·refine bn ?_
  refine oPe T hS 2 [3] [(24,Sl a2 l_ c2),(25,Sl a3 done c3)] fun a hS=>?_
  obtain ⟨hq,hm⟩:=hm
  refine op1 (call hS kr kr hb112 kr (fun _ _=>rfl) (Fi _ _ l_ done a2 c2 a3 c3 hq h2 h3) ?_)
  intro v109 a EJ F7 hE hp hS
  replace hO:=hO.m2 hE
  replace h1:=h1.m1 hE
  replace h2:=h2.m1 hE
  replace h3:=h3.m1 hE
  obtain ⟨i7,i6,hp,h115⟩:=hp
  obtain ⟨bG,hr⟩:∃ r,eN l_ done=r:=⟨_,rfl⟩
  replace hm:=hm bG hr
  rw [hr] at hp h115
  clear hr
  subst hp
  replace hm:=hm (h115.sm kr)
  refine ePe T hS [24,25] [(27,I (lN bG)),(28,I 0)] fun a hS=>?_
  refine aN ?_
  obtain ⟨I1,μ1,cy,hm⟩:=hm
  refine cw (σ:=(List aa) × Int) (fun s a w=>∃ Z X gT gS,I1 s.1 s.2/\St Tryz.f105.ntmps ⟨[(1,Sl a2 l_ c2),(2,I state),(4,Pt 5 0),(11,Sl gT s.1 gS),(26,Sl i7 bG i6),(27,I (lN bG)),(28,I s.2)],[(5,(48,(cO o_ a1 c1)))]⟩ Z a w X/\Old w0 X0 w X/\RS ao w X a2 l_ c2/\OS ar 56 w X 1009 gT s.1 gS/\RS tI w X i7 bG i6/\RS ay w X a1 o_.Rows c1) (fun s=>μ1 s.1 s.2) (⟨[],0⟩) ?_ ?_
  ·exact ⟨Z,_,none,0,cy,hS.sl _,hO,h2,(OS.nil _ _ _ _ _),h115,h1⟩
  rintro ⟨dD,aU⟩ a Jn ⟨Z,FZ,gT,gS,hI,hS,hO,h116,h120,h121,h123⟩
  replace hm:=hm dD aU hI
  clear hI cy
  refine rPe T hS [] [(29,B (decide (aU < (lN bG))))] fun a hS=>?_
  refine bd ?_
  refine aF hS (b:=decide (aU < (lN bG))) kr (fun hb=>?_) fun hb=>?_
  ·replace hm:=hm.1 hb
   refine aL ?_
   refine b5 (fun a w=>∃ (Z:Nat->Nat) (X:Nat->Nat) (Ab:List aa) (vx:Option Addr) (vl:Nat),VC105_J2 I1 μ1 dD aU Ab/\St Tryz.f105.ntmps ⟨[(1,Sl a2 l_ c2),(2,I state),(4,Pt 5 0),(11,Sl vx Ab vl),(26,Sl i7 bG i6),(27,I (lN bG)),(28,I aU)],[(5,(48,(cO o_ a1 c1)))]⟩ Z a w X/\Old w0 X0 w X/\RS ao w X a2 l_ c2/\OS ar 56 w X 1009 vx Ab vl/\RS tI w X i7 bG i6/\RS ay w X a1 o_.Rows c1) ?_ ?_
   ·refine aN ?_
    refine bn ?_
    obtain ⟨hq,hm⟩:=hm
    refine op1 (index (e:=3) (k:=.i64) T hS kr kr kr kr h121 kr kr hq.1 hq.2 ?_)
    intro IL a h132 hS
    refine op1 (eC T hS kr kr kr h132 rfl kr ?_)
    intro v133 a hv hS
    cases hv
    refine ePe T hS [29,30,31] [(13,I (gi bG aU))] fun a hS=>?_
    refine dq [5] mixed hS ?_
    intro yC wW hS hE hD hH
    replace hO:=hO.m2 hE
    replace h116:=h116.m1 hE
    replace h120:=h120.m2 hE
    replace h121:=h121.m1 hE
    replace h123:=h123.m1 hE
    refine tke T [0,1,2,3] [5] hS hH #[true,true,true,true,false,false,false,false,false,false,false,false,false,false,false] 11 [] [(33,V (.agg #[.int .i64 o_.aq,.int .i64 o_.ax,.int .i64 o_.aE,.slice a1 o_.Rows.length c1])),(34,I state),(35,Sl a2 l_ c2),(36,I (gi bG aU))] fun a hS=>?_
    obtain ⟨hq,hm⟩:=hm
    refine c6 (e:=102) (k:=.i64) T 4 hS kr kr kr (by rfl) kr hH kr kr h116 kr kr hq.1 hq.2 ?_
    intro Ga a h137 hS
    have yc:=h137.here
    refine dh (off:=1) (fsz:=1) (ft:=3) (TF:=tI) (y:=(gi l_ (gi bG aU)).Kind) 5 T hS kr kr kr (by rfl) kr hH kr h137 kr kr kr (fun cs h=>lZ h) ?_
    intro F9 a h139 fv hS
    have yb:=yc
    rw [← fv] at yb
    clear fv
    refine dF T 6 hS kr kr kr (by rfl) kr hH kr h139 yb rfl kr ?_
    intro v140 a hv hS
    cases hv
    refine only 7 kr (by rfl) (call hS kr kr hb103 kr (fun _ _=>rfl) (qm _ _ o_ state ((gi l_ (gi bG aU)).Kind) a1 c1 h123) ?_)
    intro v141 a qY ra hE hp hS
    replace hO:=hO.m2 hE
    replace hD:=hD.ev hE rfl
    replace h116:=h116.m1 hE
    replace h120:=h120.m2 hE
    replace h121:=h121.m1 hE
    replace h123:=h123.m1 hE
    replace h137:=h137.m1 hE
    replace h139:=h139.m1 hE
    obtain ⟨gp,hr⟩:∃ r,cj o_ state ((gi l_ (gi bG aU)).Kind)=r:=⟨_,rfl⟩
    replace hm:=hm gp hr
    rw [hr] at hp
    clear hr
    subst hp
    replace hS:=hS.sle [] [(40,V (.tuple #[.int .i64 gp.1,.int .i64 gp.2.1,.bool gp.2.2]))]
    refine cV (bI.of hS (bks:=[5]) kr hD) ?_
    intro hH
    refine tke T [8,9,10,11,12,13,14] [5] hS hH (tts 15) 0 [33,34,35,36,37,38,39,40] [(15,I gp.2.1),(16,B gp.2.2)] fun a hS=>?_
    refine aV kr ?_
    replace hS:=hS.sle [] []
    refine b5 (fun a w=>∃ (Z:Nat->Nat) (X:Nat->Nat) (mb:List aa) (ge:Bool) (qO:Option Addr) (qG:Nat),VC105_J3 bG I1 μ1 dD aU gp mb ge/\St Tryz.f105.ntmps ⟨[(1,Sl a2 l_ c2),(2,I state),(4,Pt 5 0),(11,Sl qO mb qG),(13,I (gi bG aU)),(15,I gp.2.1),(26,Sl i7 bG i6),(27,I (lN bG)),(28,I aU),(61,B ge)],[(5,(48,(cO o_ a1 c1)))]⟩ Z a w X/\Old w0 X0 w X/\RS ao w X a2 l_ c2/\OS ar 56 w X 1009 qO mb qG/\RS tI w X i7 bG i6/\RS ay w X a1 o_.Rows c1) ?_ ?_
    ·refine region ?_
     refine oPe T hS 2 [16] [(45,B gp.2.2)] fun a hS=>?_
     rcases bft gp.2.2 with hb | hb
     ·replace hS:=hS.lit (t:=45) kr hb
      replace hm:=hm.1 hb
      refine oPe T hS 2 [] [(46,Sl a2 l_ c2),(47,I (gi bG aU))] fun a hS=>?_
      obtain ⟨hq,hm⟩:=hm
      refine op1 (index (e:=102) (k:=.i64) T hS kr kr kr kr h116 kr kr hq.1 hq.2 ?_)
      intro QB a h163 hS
      refine op1 (fc (off:=3) (fsz:=1) (ft:=3) (TF:=tI) (y:=(gi l_ (gi bG aU)).End) T hS kr kr kr h163 kr kr kr (fun cs h=>lY h) ?_)
      intro LZ a h165 hS
      refine op1 (eC T hS kr kr kr h165 rfl kr ?_)
      intro v166 a hv hS
      cases hv
      refine oPe T hS 2 [46,47,48,49,50] [(52,B (((gi l_ (gi bG aU)).End) == (-1)))] fun a hS=>?_
      rcases bft (((gi l_ (gi bG aU)).End) == (-1)) with hb | hb
      ·replace hS:=hS.lit (t:=52) kr hb
       replace hm:=hm.1 hb
       refine ePe T hS [45,52] [(61,B true)] fun a hS=>?_
       exact ⟨Z,_,dD,true,gT,gS,hm,hS.sl _,hO,h116,h120,h121,h123⟩
      replace hS:=hS.lit (t:=52) kr hb
      replace hm:=hm.2 hb
      refine oPe T hS 2 [] [(53,Sl a2 l_ c2),(54,I (gi bG aU))] fun a hS=>?_
      obtain ⟨hq,hm⟩:=hm
      refine op1 (index (e:=102) (k:=.i64) T hS kr kr kr kr h116 kr kr hq.1 hq.2 ?_)
      intro Qz a h168 hS
      refine op1 (fc (off:=4) (fsz:=1) (ft:=3) (TF:=tI) (y:=(gi l_ (gi bG aU)).Result) T hS kr kr kr h168 kr kr kr (fun cs h=>oZ h) ?_)
      intro Qy a h170 hS
      refine op1 (eC T hS kr kr kr h170 rfl kr ?_)
      intro v171 a hv hS
      cases hv
      refine ePe T hS [45,52,53,54,55,56,57] [(61,B (((gi l_ (gi bG aU)).Result) == gp.2.1))] fun a hS=>?_
      exact ⟨Z,_,dD,(((gi l_ (gi bG aU)).Result) == gp.2.1),gT,gS,hm,hS.sl _,hO,h116,h120,h121,h123⟩
     replace hS:=hS.lit (t:=45) kr hb
     replace hm:=hm.2 hb
     refine ePe T hS [45] [(61,B false)] fun a hS=>?_
     exact ⟨Z,_,dD,false,gT,gS,hm,hS.sl _,hO,h116,h120,h121,h123⟩
    rintro a Jo ⟨Z,Iy,mb,ge,qO,qG,hm,hS,hO,h145,h149,h150,h152⟩
    unfold VC105_J3 at hm
    refine aF hS (b:=ge) kr (fun hb=>?_) fun hb=>?_
    ·replace hm:=hm.1 hb
     refine region ?_
     refine oPe T hS 4 [13,15,61] [(62,Sl qO mb qG),(65,V (.agg #[.int .i64 (gi bG aU),.int .i64 gp.2.1]))] fun a hS=>?_
     refine op1 (lit (E:=56) (col:=0) (T:=ar) (vals:=[.agg #[.int .i64 (gi bG aU),.int .i64 gp.2.1]]) (ys:=[(⟨gi bG aU,gp.2.1⟩:aa)]) T hS kr kr kr kr (by exact ⟨rfl,trivial⟩) rfl kr kr kr kr ?_)
     intro b153 a sf wT hE h156 hN hS
     clear hN
     replace hO:=hO.m2 hE
     replace h145:=h145.m1 hE
     replace h149:=h149.m2 hE
     replace h150:=h150.m1 hE
     replace h152:=h152.m1 hE
     replace h156:=h156.rs0
     obtain ⟨hq,hm⟩:=hm
     obtain ⟨news,hN⟩:=h156.src
     refine op1 (append (E:=56) (T:=ar) (col:=1009) (xs:=mb) T hS kr kr kr kr h149 hN kr kr kr kr hq ?_)
     intro zP zG a yA zT hE h159 hS
     clear hq hN
     clear h149
     replace hO:=hO.m2 hE
     replace h145:=h145.m1 hE
     replace h150:=h150.m1 hE
     replace h152:=h152.m1 hE
     replace h156:=h156.m1 hE
     refine ePe T hS [65,66,67] [(11,Sl zP (mb++[(⟨gi bG aU,gp.2.1⟩:aa)]) zG)] fun a hS=>?_
     exact ⟨Z,_,mb++[(⟨gi bG aU,gp.2.1⟩:aa)],zP,zG,hm,hS.sl _,hO,h145,h159,h150,h152⟩
    replace hm:=hm.2 hb
    refine aL ?_
    exact ⟨Z,_,mb,qO,qG,hm,hS.sl _,hO,h145,h149,h150,h152⟩
   rintro a GC ⟨Z,PX,Ab,vx,vl,hm,hS,hO,h124,h128,h129,h130⟩
   unfold VC105_J2 at hm
   refine region (ePe T hS [] [(28,I (wR (aU+1)))] fun a hS=>?_)
   exact ⟨⟨Ab,wR (aU+1)⟩,⟨Z,_,vx,vl,hm.1,hS.sl _,hO,h124,h128,h129,h130⟩,hm.2⟩
  replace hm:=hm.2 hb
  refine cl (by rfl) ?_
  exact ⟨Z,_,dD,gT,gS,hm,hS.sl _,hO,h120⟩
 rintro a Jm ⟨Z,LO,gC,j7,jZ,hm,hS,hO,h108⟩
 unfold VC105_J1 at hm
 refine rPe T hS [11] [(8,Sl j7 gC jZ)] fun a hS=>?_
 refine aZ ?_
 exact fin T hS hO (zAc0 cz) rfl (r:=[.slice j7 gC.length jZ]) kr (fun X' hM hC=>⟨gC,hm,j7,jZ,rfl,(OS.out (f:=(zAc0 cz)) h108 hM hC kr)⟩)
theorem C105 (qm:S103) (Fi:S112) (tb:S53) (v:∀ (o_:al) (l_:List ab) (state:Int) (done:List Bool),xA o_ l_ state done->VC105 o_ l_ state done (fun r=>r=bF o_ l_ state done)):S105:=by
 intro w X o_ l_ state done a1 c1 a2 c2 a3 c3 cz  hp h1 h2 h3
 refine (W105 qm Fi tb w X o_ l_ state done a1 c1 a2 c2 a3 c3 cz  _ (v o_ l_ state done hp) h1 h2 h3).mono ?_
 rintro _ _ _ _ ⟨r,rfl,h⟩
 exact h
theorem W88 (tb:S53) (E7:S80) (w0) (X0) (o_:al) (l_:List ab) (jj:Int) (a1) (c1) (a2) (c2) (Q:Int->Prop) (hm:VC88 o_ l_ jj Q) (h1:RS ay w0 X0 a1 o_.Rows c1) (h2:RS ao w0 X0 a2 l_ c2) :
  Ret Tryz.prog 88 #[.agg #[.int .i64 o_.aq,.int .i64 o_.ax,.int .i64 o_.aE,.slice a1 o_.Rows.length c1],.slice a2 l_.length c2,.int .i64 jj] aJ w0 X0 (fun w X' v=>∃ r,Q r/\v=.int .i64 r):=by
 unfold VC88 at hm
 replace hm:=hm (h1.sm kr)
 replace hm:=hm (h2.sm kr)
 refine enter Tryz.func88 rfl (vals:=[.agg #[.int .i64 o_.aq,.int .i64 o_.ax,.int .i64 o_.aE,.slice a1 o_.Rows.length c1],.slice a2 l_.length c2,.int .i64 jj]) kr ?_
 intro Z a hS hO hM
 replace h1:=h1.m0 hM
 replace h2:=h2.m0 hM
 refine rM T hS ⟨[(1,Sl a2 l_ c2),(2,I jj),(3,Pt 4 0)],[(4,(48,(cO o_ a1 c1)))]⟩ fun Z a pm rc hS hE hr=>?_
 replace hO:=hO.m2 hE
 replace h1:=h1.m1 hE
 replace h2:=h2.m1 hE
 clear hE hr
 refine bn ?_
 refine oP T hS 1 ⟨[(1,Sl a2 l_ c2),(2,I jj),(12,V (.agg #[.int .i64 o_.aq,.int .i64 o_.ax,.int .i64 o_.aE,.slice a1 o_.Rows.length c1]))],[]⟩ fun a hS=>?_
 obtain ⟨hq,hm⟩:=hm
 refine op1 (call hS kr kr hb53 kr (fun _ _=>rfl) (tb _ _ o_ a1 c1 hq h1) ?_)
 intro v101 a fh fo hE hp hS
 replace hO:=hO.m2 hE
 replace h1:=h1.m1 hE
 replace h2:=h2.m1 hE
 obtain ⟨av,hr⟩:∃ r,bq o_=r:=⟨_,rfl⟩
 replace hm:=hm av hr
 rw [hr] at hp
 clear hr
 subst hp
 refine ePe T hS [12,13] [(8,I av.2)] fun a hS=>?_
 refine bn ?_
 refine oPe T hS 1 [] [(17,Sl a2 l_ c2)] fun a hS=>?_
 refine op1 (call hS kr kr hb80 kr (fun _ _=>rfl) (E7 _ _ l_ a2 c2 h2) ?_)
 intro v105 a nk ne hE hp hS
 replace hO:=hO.m2 hE
 replace h2:=h2.m1 hE
 obtain ⟨a8,hr⟩:∃ r,cc l_=r:=⟨_,rfl⟩
 replace hm:=hm a8 hr
 rw [hr] at hp
 clear hr
 subst hp
 refine ePe T hS [17,18] [(10,I a8.2)] fun a hS=>?_
 refine bd ?_
 refine aN ?_
 refine rPe T hS [8,10] [(21,B ((av.2 != 0) || (a8.2 != 0)))] (sp:=[24]) fun a hS=>?_
 refine aF hS (b:=((av.2 != 0) || (a8.2 != 0))) kr (fun hb=>?_) fun hb=>?_
 ·replace hm:=hm.1 hb
  refine rPe T hS [1,2,21] [(6,I 2)] fun a hS=>?_
  refine aZ ?_
  exact fin T hS hO (fun c=>c) rfl (r:=[.int .i64 2]) kr (fun X' hM hC=>⟨2,hm,rfl⟩)
 replace hm:=hm.2 hb
 refine rPe T hS [1,2,21] [(28,B (decide ((lN l_) > jj)))] fun a hS=>?_
 refine aF hS (b:=decide ((lN l_) > jj)) kr (fun hb=>?_) fun hb=>?_
 ·replace hm:=hm.1 hb
  refine rPe T hS [28] [(6,I 3)] fun a hS=>?_
  refine aZ ?_
  exact fin T hS hO (fun c=>c) rfl (r:=[.int .i64 3]) kr (fun X' hM hC=>⟨3,hm,rfl⟩)
 replace hm:=hm.2 hb
 refine aL ?_
 refine rPe T hS [28] [(6,I 0)] fun a hS=>?_
 refine aZ ?_
 exact fin T hS hO (fun c=>c) rfl (r:=[.int .i64 0]) kr (fun X' hM hC=>⟨0,hm,rfl⟩)
theorem C88 (tb:S53) (E7:S80) (v:∀ (o_:al) (l_:List ab) (jj:Int),xG o_ l_ jj->VC88 o_ l_ jj (fun r=>r=cq o_ l_ jj)):S88:=by
 intro w X o_ l_ jj a1 c1 a2 c2   hp h1 h2
 refine (W88 tb E7 w X o_ l_ jj a1 c1 a2 c2   _ (v o_ l_ jj hp) h1 h2).mono ?_
 rintro _ _ _ _ ⟨r,rfl,h⟩
 exact h
theorem W104 (w0) (X0) (s_:List aa) (a1) (c1) (cz) (Q:(List aa)->Prop) (hm:VC104 s_ Q) (h1:RS ar w0 X0 a1 s_ c1) :
  Ret Tryz.prog 104 #[.slice a1 s_.length c1] aJ w0 X0 (fun w X' v=>∃ r,Q r/\∃ cB cA,v=.slice cB r.length cA/\OS ar 56 w X' cz cB r cA):=by
 unfold VC104 at hm
 replace hm:=hm (h1.sm kr)
 refine enter Tryz.func104 rfl (vals:=[.slice a1 s_.length c1]) kr ?_
 intro Z a hS hO hM
 replace h1:=h1.m0 hM
 refine rPe T hS [] [] fun a hS=>?_
 refine bd ?_
 refine bn ?_
 refine oPe T hS 1 [] [(3,Sl a1 s_ c1)] fun a hS=>?_
 obtain ⟨b101,hb102⟩:∃ q:Bool,a1.isNone=q:=⟨_,rfl⟩
 replace hm:=hm b101 (h1.G2 hb102)
 refine op1 (Et (e:=56) (m:=s_.length) (c:=c1) hS kr kr kr kr Tryz.underlying26 hb102 ?_)
 intro a hS
 clear hb102
 refine g8 ?_
 refine aF hS (b:=b101) kr (fun hb=>?_) fun hb=>?_
 ·replace hm:=hm.1 hb
  refine rPe T hS [0,4] [(2,V (.slice none 0 0))] fun a hS=>?_
  refine aZ ?_
  exact fin T hS hO (fun c=>c) rfl (r:=[.slice none 0 0]) kr (fun X' hM hC=>⟨[],hm,none,0,rfl,OS.nil _ _ _ _ _⟩)
 replace hm:=hm.2 hb
 refine aL ?_
 refine bn ?_
 refine op1 (lit (E:=56) (col:=1003) (T:=ar) (vals:=[]) (ys:=([]:List aa)) T hS kr kr kr kr trivial rfl kr kr kr kr ?_)
 intro b103 a yG oH hE h106 hN hS
 clear hN
 replace hO:=hO.m2 hE
 replace h1:=h1.m1 hE
 refine oPe T hS 1 [0,4] [(6,Sl a1 s_ c1)] fun a hS=>?_
 obtain ⟨hq,hm⟩:=hm
 obtain ⟨news,hN⟩:=h1.src
 refine op1 (append (E:=56) (T:=ar) (col:=1003) (xs:=([]:List aa)) T hS kr kr kr kr h106 hN kr kr kr kr hq ?_)
 intro gu gt a pu oG hE h109 hS
 clear hq hN
 clear h106
 replace hO:=hO.m2 hE
 replace h1:=h1.m1 hE
 refine ePe T hS [6,7] [(2,Sl gu (([]:List aa)++s_) gt)] fun a hS=>?_
 refine aZ ?_
 exact fin T hS hO (zAc1 cz) rfl (r:=[.slice gu (([]:List aa)++s_).length gt]) kr (fun X' hM hC=>⟨(([]:List aa)++s_),hm,gu,gt,rfl,(OS.out (f:=(zAc1 cz)) h109 hM hC kr)⟩)
theorem C104 (v:∀ (s_:List aa),xF s_->VC104 s_ (fun r=>r=bV s_)):S104:=by
 intro w X s_ a1 c1 cz  hp h1
 refine (W104 w X s_ a1 c1 cz  _ (v s_ hp) h1).mono ?_
 rintro _ _ _ _ ⟨r,rfl,h⟩
 exact h
theorem W101 (w0) (X0) (state:Int) (am:aX) (a1) (c1) (a2) (c2) (a3) (c3) (r4) (m4) (b1) (i1) (Q:bW->Prop) (hm:VC101 state am Q) (h1:RS ay w0 X0 a1 am.o.Rows c1) (h2:RS ao w0 X0 a2 am.l c2) (h3:RS dz w0 X0 a3 am.done c3) (h4:OMS aQ tI false w0 X0 m4 r4 am.failed) (ff:Cell w0 X0 b1 i1 161 [.int .i64 am.o.aq,.int .i64 am.o.ax,.int .i64 am.o.aE,.slice a1 am.o.Rows.length c1,.slice a2 am.l.length c2,.slice a3 am.done.length c3,.map (some r4)]) (hA:dH [i1,m4]) :
  Ret Tryz.prog 101 #[.pointer (some ⟨b1,0,none⟩),.int .i64 state] (pR [i1,m4]) w0 X0 (fun w X' v=>∃ r,Q r/\v=.agg #[.int .u32 r.done,.int .i64 r.state]/\Cell w X' b1 i1 161 [.int .i64 am.o.aq,.int .i64 am.o.ax,.int .i64 am.o.aE,.slice a1 am.o.Rows.length c1,.slice a2 am.l.length c2,.slice a3 am.done.length c3,.map (some r4)]/\OMS aQ tI false w X' m4 r4 am.failed):=by
 unfold VC101 at hm
 replace hm:=hm (h1.sm kr)
 replace hm:=hm (h2.sm kr)
 replace hm:=hm (h3.sm kr)
 refine fB Tryz.func101 rfl (dx [(i1,901),(m4,2004)]) (fun id=>(bif Nat.beq id 901 then b1 else 0)) (args:=[Pt 901 0,I state]) (bxs:=[(901,(161,[I am.o.aq,I am.o.ax,I am.o.aE,Sl a1 am.o.Rows c1,Sl a2 am.l c2,Sl a3 am.done c3,V (.map (some r4))]))]) kr rfl (bm.cons kr (ff.map (bK 0 hA.1 rfl)) bm.nil) (fm (fun q hq=>(hA.2 q.1 (List.mem_map.2 ⟨q,hq,rfl⟩)).1)) ?_
 intro a hS hO hM
 have hP:Pin [(901,b1)] (fun id=>(bif Nat.beq id 901 then b1 else 0)):=by intro q hq; simp at hq; rcases hq with rfl <;> rfl
 generalize (fun id=>(bif Nat.beq id 901 then b1 else 0))=Z at hS hP
 clear ff
 replace h1:=h1.m0 hM
 replace h2:=h2.m0 hM
 replace h3:=h3.m0 hM
 replace h4:=h4.map (f:=dx [(i1,901),(m4,2004)]) (bK 1 hA.1 rfl) hM
 refine rM T hS ⟨[(0,Pt 901 0),(1,I state),(4,Pt 5 0)],[(5,(164,[V (.int .u32 0),I 0])),(901,(161,[I am.o.aq,I am.o.ax,I am.o.aE,Sl a1 am.o.Rows c1,Sl a2 am.l c2,Sl a3 am.done c3,V (.map (some r4))]))]⟩ fun Z a Cy F5 hS hE hr=>?_
 replace hO:=hO.m2 hE
 replace h1:=h1.m1 hE
 replace h2:=h2.m1 hE
 replace h3:=h3.m1 hE
 replace h4:=h4.m2 hE
 replace hP:=hP.mv hr kr
 clear hE hr
 refine rM T hS ⟨[(0,Pt 901 0),(4,Pt 5 0),(5,Pt 6 0)],[(5,(164,[V (.int .u32 0),I 0])),(6,(164,[V (.int .u32 0),I state])),(901,(161,[I am.o.aq,I am.o.ax,I am.o.aE,Sl a1 am.o.Rows c1,Sl a2 am.l c2,Sl a3 am.done c3,V (.map (some r4))]))]⟩ fun Z a sh vz hS hE hr=>?_
 replace hO:=hO.m2 hE
 replace h1:=h1.m1 hE
 replace h2:=h2.m1 hE
 replace h3:=h3.m1 hE
 replace h4:=h4.m2 hE
 replace hP:=hP.mv hr kr
 clear hE hr
 refine b5 (fun a w=>∃ (Z:Nat->Nat) (X:Nat->Nat) (bv:Int) (br:Int),VC101_J1 Q bv br/\St Tryz.f101.ntmps ⟨[(4,Pt 5 0),(5,Pt 6 0)],[(5,(164,[V (.int .u32 0),I 0])),(6,(164,[V (.int .u32 bv),I br])),(901,(161,[I am.o.aq,I am.o.ax,I am.o.aE,Sl a1 am.o.Rows c1,Sl a2 am.l c2,Sl a3 am.done c3,V (.map (some r4))]))]⟩ Z a w X/\fU (dx [(i1,901),(m4,2004)]) w0 X0 w X/\Pin [(901,b1)] Z/\RS ay w X a1 am.o.Rows c1/\RS ao w X a2 am.l c2/\RS dz w X a3 am.done c3/\OMS aQ tI false w X 2004 r4 am.failed) ?_ ?_
 ·refine rPe T hS [0] [(13,Sl a3 am.done c3),(14,I (lN am.done)),(15,I 0)] fun a hS=>?_
  refine aN ?_
  obtain ⟨I1,μ1,cy,hm⟩:=hm
  refine cw (σ:=Int × Int × Int) (fun s a w=>∃ Z X,I1 s.1 s.2.1 s.2.2/\St Tryz.f101.ntmps ⟨[(4,Pt 5 0),(5,Pt 6 0),(13,Sl a3 am.done c3),(14,I (lN am.done)),(15,I s.1)],[(5,(164,[V (.int .u32 0),I 0])),(6,(164,[V (.int .u32 s.2.1),I s.2.2])),(901,(161,[I am.o.aq,I am.o.ax,I am.o.aE,Sl a1 am.o.Rows c1,Sl a2 am.l c2,Sl a3 am.done c3,V (.map (some r4))]))]⟩ Z a w X/\fU (dx [(i1,901),(m4,2004)]) w0 X0 w X/\Pin [(901,b1)] Z/\RS dz w X a3 am.done c3/\RS ay w X a1 am.o.Rows c1/\RS ao w X a2 am.l c2/\RS dz w X a3 am.done c3/\OMS aQ tI false w X 2004 r4 am.failed) (fun s=>μ1 s.1 s.2.1 s.2.2) (⟨0,0,state⟩) ?_ ?_
  ·exact ⟨Z,_,cy,hS.sl _,hO,hP,h3,h1,h2,h3,h4⟩
  rintro ⟨bE,dl,cM⟩ a yD ⟨Z,qQ,hI,hS,hO,hP,h109,h113,h114,h115,h116⟩
  replace hm:=hm bE dl cM hI
  clear hI cy
  refine rPe T hS [] [(16,B (decide (bE < (lN am.done))))] fun a hS=>?_
  refine bd ?_
  refine aF hS (b:=decide (bE < (lN am.done))) kr (fun hb=>?_) fun hb=>?_
  ·replace hm:=hm.1 hb
   refine aL ?_
   refine b5 (fun a w=>∃ (Z:Nat->Nat) (X:Nat->Nat) (je:Int),VC101_J2 I1 μ1 bE dl cM je/\St Tryz.f101.ntmps ⟨[(4,Pt 5 0),(5,Pt 6 0),(13,Sl a3 am.done c3),(14,I (lN am.done)),(15,I bE)],[(5,(164,[V (.int .u32 0),I 0])),(6,(164,[V (.int .u32 je),I cM])),(901,(161,[I am.o.aq,I am.o.ax,I am.o.aE,Sl a1 am.o.Rows c1,Sl a2 am.l c2,Sl a3 am.done c3,V (.map (some r4))]))]⟩ Z a w X/\fU (dx [(i1,901),(m4,2004)]) w0 X0 w X/\Pin [(901,b1)] Z/\RS dz w X a3 am.done c3/\RS ay w X a1 am.o.Rows c1/\RS ao w X a2 am.l c2/\RS dz w X a3 am.done c3/\OMS aQ tI false w X 2004 r4 am.failed) ?_ ?_
   ·refine aN ?_
    refine bn ?_
    refine oPe T hS 1 [16] [(17,I bE)] fun a hS=>?_
    obtain ⟨hq,hm⟩:=hm
    refine op1 (index (e:=4) (k:=.i64) T hS kr kr kr kr h109 kr kr hq.1 hq.2 ?_)
    intro DC a h124 hS
    refine op1 (eC T hS kr kr kr h124 rfl kr ?_)
    intro v125 a hv hS
    cases hv
    refine ePe T hS [17,18,19] [(6,I bE),(7,B (gi am.done bE))] fun a hS=>?_
    refine rPe T hS [7] [(20,B (gi am.done bE))] fun a hS=>?_
    refine aF hS (b:=gi am.done bE) kr (fun hb=>?_) fun hb=>?_
    ·replace hm:=hm.1 hb
     refine gH [5,901] mixed hS ?_
     intro tQ qR hS hE hD hH
     replace hO:=hO.m2 hE
     replace h109:=h109.m1 hE
     replace h113:=h113.m1 hE
     replace h114:=h114.m1 hE
     replace h115:=h115.m1 hE
     replace h116:=h116.m2 hE
     refine tke T [0,2] [5,901] hS hH #[true,false,true,false,false,false,false] 5 [6] [(21,Pt 6 0),(23,I bE)] fun a hS=>?_
     obtain ⟨hq,hm⟩:=hm
     refine HS (k:=.u32) (k2:=.i64) (p:=1) (q:=bE) 3 hS kr kr kr (by rfl) kr hH kr kr hq ?_
     intro a hS
     refine only 1 kr (by rfl) (gX T hS kr kr kr (sv:=V (.int .u32 dl)) kr ?_)
     intro a hS
     refine cV (bI.of hS (bks:=[5,901]) kr hD) ?_
     intro hH
     refine tke T [4,5] [5,901] hS hH #[true,true,true,true,true,true,false] 1 [21,23,24,22] [(25,V (.int .u32 (IntKind.u32.wrap ((BitVec.ofInt IntKind.u32.bits dl ||| BitVec.ofInt IntKind.u32.bits (IntKind.u32.wrap (1 * 2 ^ (min bE.toNat IntKind.u32.bits)))).toNat:Int)))),(26,Pt 6 0)] fun a hS=>?_
     replace hS:=hS.sl ⟨[(4,Pt 5 0),(5,Pt 6 0),(13,Sl a3 am.done c3),(14,I (lN am.done)),(15,I bE),(25,V (.int .u32 (IntKind.u32.wrap ((BitVec.ofInt IntKind.u32.bits dl ||| BitVec.ofInt IntKind.u32.bits (IntKind.u32.wrap (1 * 2 ^ (min bE.toNat IntKind.u32.bits)))).toNat:Int)))),(26,Pt 6 0)],[(5,(164,[V (.int .u32 0),I 0])),(6,(164,[V (.int .u32 dl),I cM])),(901,(161,[I am.o.aq,I am.o.ax,I am.o.aE,Sl a1 am.o.Rows c1,Sl a2 am.l c2,Sl a3 am.done c3,V (.map (some r4))]))]⟩
     refine only 6 kr (by rfl) (An T hS kr kr (sy':=⟨[(4,Pt 5 0),(5,Pt 6 0),(13,Sl a3 am.done c3),(14,I (lN am.done)),(15,I bE),(25,V (.int .u32 (IntKind.u32.wrap ((BitVec.ofInt IntKind.u32.bits dl ||| BitVec.ofInt IntKind.u32.bits (IntKind.u32.wrap (1 * 2 ^ (min bE.toNat IntKind.u32.bits)))).toNat:Int)))),(26,Pt 6 0)],[(6,(164,[V (.int .u32 (IntKind.u32.wrap ((BitVec.ofInt IntKind.u32.bits dl ||| BitVec.ofInt IntKind.u32.bits (IntKind.u32.wrap (1 * 2 ^ (min bE.toNat IntKind.u32.bits)))).toNat:Int))),I cM])),(5,(164,[V (.int .u32 0),I 0])),(6,(164,[V (.int .u32 dl),I cM])),(901,(161,[I am.o.aq,I am.o.ax,I am.o.aE,Sl a1 am.o.Rows c1,Sl a2 am.l c2,Sl a3 am.done c3,V (.map (some r4))]))]⟩) kr ?_)
     intro a q5 rb hS hE
     replace hO:=hO.m2 hE
     replace hD:=hD.ev hE rfl
     replace h109:=h109.m1 hE
     replace h113:=h113.m1 hE
     replace h114:=h114.m1 hE
     replace h115:=h115.m1 hE
     replace h116:=h116.m2 hE
     replace hS:=hS.sl ⟨[(4,Pt 5 0),(5,Pt 6 0),(13,Sl a3 am.done c3),(14,I (lN am.done)),(15,I bE),(25,V (.int .u32 (IntKind.u32.wrap ((BitVec.ofInt IntKind.u32.bits dl ||| BitVec.ofInt IntKind.u32.bits (IntKind.u32.wrap (1 * 2 ^ (min bE.toNat IntKind.u32.bits)))).toNat:Int)))),(26,Pt 6 0)],[(5,(164,[V (.int .u32 0),I 0])),(6,(164,[V (.int .u32 (IntKind.u32.wrap ((BitVec.ofInt IntKind.u32.bits dl ||| BitVec.ofInt IntKind.u32.bits (IntKind.u32.wrap (1 * 2 ^ (min bE.toNat IntKind.u32.bits)))).toNat:Int))),I cM])),(901,(161,[I am.o.aq,I am.o.ax,I am.o.aE,Sl a1 am.o.Rows c1,Sl a2 am.l c2,Sl a3 am.done c3,V (.map (some r4))]))]⟩
     refine cV (bI.of hS (bks:=[5,901]) kr hD) ?_
     intro hH
     refine aV kr ?_
     replace hS:=hS.sle [25,26] []
     exact ⟨Z,_,IntKind.u32.wrap ((BitVec.ofInt IntKind.u32.bits dl ||| BitVec.ofInt IntKind.u32.bits (IntKind.u32.wrap (1 * 2 ^ (min bE.toNat IntKind.u32.bits)))).toNat:Int),hm,hS.sl _,hO,hP,h109,h113,h114,h115,h116⟩
    replace hm:=hm.2 hb
    refine aL ?_
    exact ⟨Z,_,dl,hm,hS.sl _,hO,hP,h109,h113,h114,h115,h116⟩
   rintro a qZ ⟨Z,Dy,je,hm,hS,hO,hP,h117,h119,h120,h121,h122⟩
   unfold VC101_J2 at hm
   refine region (ePe T hS [] [(15,I (wR (bE+1)))] fun a hS=>?_)
   exact ⟨⟨wR (bE+1),je,cM⟩,⟨Z,_,hm.1,hS.sl _,hO,hP,h117,h119,h120,h121,h122⟩,hm.2⟩
  replace hm:=hm.2 hb
  refine cl (by rfl) ?_
  exact ⟨Z,_,dl,cM,hm,hS.sl _,hO,hP,h113,h114,h115,h116⟩
 rintro a Cz ⟨Z,BX,bv,br,hm,hS,hO,hP,h103,h104,h105,h106⟩
 unfold VC101_J1 at hm
 refine rM T hS ⟨[(4,Pt 5 0)],[(5,(164,[V (.int .u32 bv),I br])),(901,(161,[I am.o.aq,I am.o.ax,I am.o.aE,Sl a1 am.o.Rows c1,Sl a2 am.l c2,Sl a3 am.done c3,V (.map (some r4))]))]⟩ fun Z a pu oG hS hE hr=>?_
 replace hO:=hO.m2 hE
 replace h103:=h103.m1 hE
 replace h104:=h104.m1 hE
 replace h105:=h105.m1 hE
 replace h106:=h106.m2 hE
 replace hP:=hP.mv hr kr
 clear hE hr
 refine aZ ?_
 exact gF T hS hO (fun c h=>bS kr h) (fun c h=>bT (l:=[(i1,901),(m4,2004)]) h) (bN [(i1,901),(m4,2004)]) rfl (r:=[.agg #[.int .u32 bv,.int .i64 br]]) kr (fun X' hM hC=>⟨(⟨bv,br⟩:bW),hm,rfl,((hS.cell (id:=901) (t:=161) (cs:=[I am.o.aq,I am.o.ax,I am.o.aE,Sl a1 am.o.Rows c1,Sl a2 am.l c2,Sl a3 am.done c3,V (.map (some r4))]) kr).out (f:=(bN [(i1,901),(m4,2004)])) hC kr kr (hP.at 0 rfl)),(h106.out (f:=(bN [(i1,901),(m4,2004)])) hM hC kr kr)⟩)
theorem C101 (v:∀ (state:Int) (am:aX),VC101 state am (fun r=>r=dt state am)):S101:=by
 intro w X state am a1 c1 a2 c2 a3 c3 r4 m4  b1 i1 h1 h2 h3 h4 ff hA
 refine (W101 w X state am a1 c1 a2 c2 a3 c3 r4 m4  b1 i1 _ (v state am) h1 h2 h3 h4 ff hA).mono ?_
 rintro _ _ _ _ ⟨r,rfl,h⟩
 exact h
theorem W100 (w0) (X0) (am:aX) (a1) (c1) (a2) (c2) (a3) (c3) (r4) (m4) (b1) (i1) (Q:Bool->Prop) (hm:VC100 am Q) (h1:RS ay w0 X0 a1 am.o.Rows c1) (h2:RS ao w0 X0 a2 am.l c2) (h3:RS dz w0 X0 a3 am.done c3) (h4:OMS aQ tI false w0 X0 m4 r4 am.failed) (ff:Cell w0 X0 b1 i1 161 [.int .i64 am.o.aq,.int .i64 am.o.ax,.int .i64 am.o.aE,.slice a1 am.o.Rows.length c1,.slice a2 am.l.length c2,.slice a3 am.done.length c3,.map (some r4)]) (hA:dH [i1,m4]) :
  Ret Tryz.prog 100 #[.pointer (some ⟨b1,0,none⟩)] (pR [i1,m4]) w0 X0 (fun w X' v=>∃ r,Q r/\v=.bool r/\Cell w X' b1 i1 161 [.int .i64 am.o.aq,.int .i64 am.o.ax,.int .i64 am.o.aE,.slice a1 am.o.Rows.length c1,.slice a2 am.l.length c2,.slice a3 am.done.length c3,.map (some r4)]/\OMS aQ tI false w X' m4 r4 am.failed):=by
 unfold VC100 at hm
 replace hm:=hm (h1.sm kr)
 replace hm:=hm (h2.sm kr)
 replace hm:=hm (h3.sm kr)
 refine fB Tryz.func100 rfl (dx [(i1,901),(m4,2004)]) (fun id=>(bif Nat.beq id 901 then b1 else 0)) (args:=[Pt 901 0]) (bxs:=[(901,(161,[I am.o.aq,I am.o.ax,I am.o.aE,Sl a1 am.o.Rows c1,Sl a2 am.l c2,Sl a3 am.done c3,V (.map (some r4))]))]) kr rfl (bm.cons kr (ff.map (bK 0 hA.1 rfl)) bm.nil) (fm (fun q hq=>(hA.2 q.1 (List.mem_map.2 ⟨q,hq,rfl⟩)).1)) ?_
 intro a hS hO hM
 have hP:Pin [(901,b1)] (fun id=>(bif Nat.beq id 901 then b1 else 0)):=by intro q hq; simp at hq; rcases hq with rfl <;> rfl
 generalize (fun id=>(bif Nat.beq id 901 then b1 else 0))=Z at hS hP
 clear ff
 replace h1:=h1.m0 hM
 replace h2:=h2.m0 hM
 replace h3:=h3.m0 hM
 replace h4:=h4.map (f:=dx [(i1,901),(m4,2004)]) (bK 1 hA.1 rfl) hM
 refine rPe T hS [] [] fun a hS=>?_
 refine b5 (fun a w=>∃ Z X,VC100_J1 Q/\St Tryz.f100.ntmps ⟨[],[(901,(161,[I am.o.aq,I am.o.ax,I am.o.aE,Sl a1 am.o.Rows c1,Sl a2 am.l c2,Sl a3 am.done c3,V (.map (some r4))]))]⟩ Z a w X/\fU (dx [(i1,901),(m4,2004)]) w0 X0 w X/\Pin [(901,b1)] Z/\RS ay w X a1 am.o.Rows c1/\RS ao w X a2 am.l c2/\RS dz w X a3 am.done c3/\OMS aQ tI false w X 2004 r4 am.failed) ?_ ?_
 ·refine rPe T hS [] [(8,Sl a2 am.l c2),(9,I (lN am.l)),(10,I 0)] fun a hS=>?_
  refine aN ?_
  obtain ⟨I1,μ1,cy,hm⟩:=hm
  refine cw (σ:=Int) (fun s a w=>∃ Z X,I1 s/\St Tryz.f100.ntmps ⟨[(0,Pt 901 0),(8,Sl a2 am.l c2),(9,I (lN am.l)),(10,I s)],[(901,(161,[I am.o.aq,I am.o.ax,I am.o.aE,Sl a1 am.o.Rows c1,Sl a2 am.l c2,Sl a3 am.done c3,V (.map (some r4))]))]⟩ Z a w X/\fU (dx [(i1,901),(m4,2004)]) w0 X0 w X/\Pin [(901,b1)] Z/\RS ao w X a2 am.l c2/\RS ay w X a1 am.o.Rows c1/\RS ao w X a2 am.l c2/\RS dz w X a3 am.done c3/\OMS aQ tI false w X 2004 r4 am.failed) (fun s=>μ1 s) (0) ?_ ?_
  ·exact ⟨Z,_,cy,hS.sl _,hO,hP,h2,h1,h2,h3,h4⟩
  rintro d9 a q5 ⟨Z,qR,hI,hS,hO,hP,h105,h107,h108,h109,h110⟩
  replace hm:=hm d9 hI
  clear hI cy
  refine rPe T hS [] [(11,B (decide (d9 < (lN am.l))))] fun a hS=>?_
  refine bd ?_
  refine aF hS (b:=decide (d9 < (lN am.l))) kr (fun hb=>?_) fun hb=>?_
  ·replace hm:=hm.1 hb
   refine aL (bd ?_)
   refine aN ?_
   refine bn ?_
   refine oPe T hS 1 [11] [(12,I d9)] fun a hS=>?_
   obtain ⟨hq,hm⟩:=hm
   refine op1 (index (e:=102) (k:=.i64) T hS kr kr kr kr h105 kr kr hq.1 hq.2 ?_)
   intro B7 a h112 hS
   refine op1 (eB T hS kr kr kr h112 kr kr ?_)
   intro v113 a hv hS
   subst hv
   refine eM T hS ⟨[(0,Pt 901 0),(3,I d9),(4,Pt 5 0),(8,Sl a2 am.l c2),(9,I (lN am.l)),(10,I d9)],[(5,(102,(cP (gi am.l d9)))),(901,(161,[I am.o.aq,I am.o.ax,I am.o.aE,Sl a1 am.o.Rows c1,Sl a2 am.l c2,Sl a3 am.done c3,V (.map (some r4))]))]⟩ fun Z a yE wX hS hE hr=>?_
   replace hO:=hO.m2 hE
   replace h105:=h105.m1 hE
   replace h107:=h107.m1 hE
   replace h108:=h108.m1 hE
   replace h109:=h109.m1 hE
   replace h110:=h110.m2 hE
   replace hP:=hP.mv hr kr
   clear hE hr
   refine b5 (fun a w=>∃ (Z:Nat->Nat) (X:Nat->Nat) (bi:Bool),VC100_J2 Q I1 μ1 d9 bi/\St Tryz.f100.ntmps ⟨[(0,Pt 901 0),(8,Sl a2 am.l c2),(9,I (lN am.l)),(10,I d9),(27,B bi)],[(901,(161,[I am.o.aq,I am.o.ax,I am.o.aE,Sl a1 am.o.Rows c1,Sl a2 am.l c2,Sl a3 am.done c3,V (.map (some r4))]))]⟩ Z a w X/\fU (dx [(i1,901),(m4,2004)]) w0 X0 w X/\Pin [(901,b1)] Z/\RS ao w X a2 am.l c2/\RS ay w X a1 am.o.Rows c1/\RS ao w X a2 am.l c2/\RS dz w X a3 am.done c3/\OMS aQ tI false w X 2004 r4 am.failed) ?_ ?_
   ·refine region ?_
    refine oP T hS 4 ⟨[(0,Pt 901 0),(3,I d9),(8,Sl a2 am.l c2),(9,I (lN am.l)),(10,I d9),(18,B (((gi am.l d9).End) != (-1)))],[(901,(161,[I am.o.aq,I am.o.ax,I am.o.aE,Sl a1 am.o.Rows c1,Sl a2 am.l c2,Sl a3 am.done c3,V (.map (some r4))]))]⟩ fun a hS=>?_
    rcases bft (((gi am.l d9).End) != (-1)) with hb | hb
    ·replace hS:=hS.lit (t:=18) kr hb
     replace hm:=hm.1 hb
     refine oPe T hS 5 [3] [(22,Sl a3 am.done c3),(23,I d9)] fun a hS=>?_
     obtain ⟨hq,hm⟩:=hm
     refine op1 (index (e:=4) (k:=.i64) T hS kr kr kr kr h109 kr kr hq.1 hq.2 ?_)
     intro L7 a h121 hS
     refine op1 (eC T hS kr kr kr h121 rfl kr ?_)
     intro v122 a hv hS
     cases hv
     refine ePe T hS [18,22,23,24,25] [(27,B (!(gi am.done d9)))] fun a hS=>?_
     exact ⟨Z,_,(!(gi am.done d9)),hm,hS.sl _,hO,hP,h105,h107,h108,h109,h110⟩
    replace hS:=hS.lit (t:=18) kr hb
    replace hm:=hm.2 hb
    refine ePe T hS [3,18] [(27,B false)] fun a hS=>?_
    exact ⟨Z,_,false,hm,hS.sl _,hO,hP,h105,h107,h108,h109,h110⟩
   rintro a Jt ⟨Z,tE,bi,hm,hS,hO,hP,h114,h116,h117,h118,h119⟩
   unfold VC100_J2 at hm
   refine aF hS (b:=bi) kr (fun hb=>?_) fun hb=>?_
   ·replace hm:=hm.1 hb
    refine rPe T hS [0,8,9,10,27] [(2,B false)] fun a hS=>?_
    refine aZ ?_
    exact gF T hS hO (fun c h=>bS kr h) (fun c h=>bT (l:=[(i1,901),(m4,2004)]) h) (bN [(i1,901),(m4,2004)]) rfl (r:=[.bool false]) kr (fun X' hM hC=>⟨false,hm,rfl,((hS.cell (id:=901) (t:=161) (cs:=[I am.o.aq,I am.o.ax,I am.o.aE,Sl a1 am.o.Rows c1,Sl a2 am.l c2,Sl a3 am.done c3,V (.map (some r4))]) kr).out (f:=(bN [(i1,901),(m4,2004)])) hC kr kr (hP.at 0 rfl)),(h119.out (f:=(bN [(i1,901),(m4,2004)])) hM hC kr kr)⟩)
   replace hm:=hm.2 hb
   refine aL ?_
   refine region (ePe T hS [27] [(10,I (wR (d9+1)))] fun a hS=>?_)
   exact ⟨wR (d9+1),⟨Z,_,hm.1,hS.sl _,hO,hP,h114,h116,h117,h118,h119⟩,hm.2⟩
  replace hm:=hm.2 hb
  refine cl (by rfl) ?_
  exact ⟨Z,_,hm,hS.sl _,hO,hP,h107,h108,h109,h110⟩
 rintro a tP ⟨Z,rb,hm,hS,hO,hP,h101,h102,h103,h104⟩
 unfold VC100_J1 at hm
 refine rPe T hS [] [(2,B true)] fun a hS=>?_
 refine aZ ?_
 exact gF T hS hO (fun c h=>bS kr h) (fun c h=>bT (l:=[(i1,901),(m4,2004)]) h) (bN [(i1,901),(m4,2004)]) rfl (r:=[.bool true]) kr (fun X' hM hC=>⟨true,hm,rfl,((hS.cell (id:=901) (t:=161) (cs:=[I am.o.aq,I am.o.ax,I am.o.aE,Sl a1 am.o.Rows c1,Sl a2 am.l c2,Sl a3 am.done c3,V (.map (some r4))]) kr).out (f:=(bN [(i1,901),(m4,2004)])) hC kr kr (hP.at 0 rfl)),(h104.out (f:=(bN [(i1,901),(m4,2004)])) hM hC kr kr)⟩)
theorem C100 (v:∀ (am:aX),xm am->VC100 am (fun r=>r=dE am)):S100:=by
 intro w X am a1 c1 a2 c2 a3 c3 r4 m4  b1 i1 hp h1 h2 h3 h4 ff hA
 refine (W100 w X am a1 c1 a2 c2 a3 c3 r4 m4  b1 i1 _ (v am hp) h1 h2 h3 h4 ff hA).mono ?_
 rintro _ _ _ _ ⟨r,rfl,h⟩
 exact h
theorem W102 (N) (qm:S103) (CW:S104) (E6:S90N N) (w0) (X0) (p_:aa) (ap:aX) (aM:Int) (bz:List aa) (a1) (c1) (a2) (c2) (a3) (c3) (m3) (r4) (m4) (a5) (c5) (cz) (b1) (i1) (b2) (i2) (b3) (i3) (b4) (i4) (Q:(List aa) × Bool × aX->Prop) (hm:VC102 N p_ ap aM bz Q) (h1:RS ay w0 X0 a1 ap.o.Rows c1) (h2:RS ao w0 X0 a2 ap.l c2) (h3:OS dz 4 w0 X0 m3 a3 ap.done c3) (h4:OMS aQ tI false w0 X0 m4 r4 ap.failed) (h5:RS ar w0 X0 a5 bz c5) (ff:Cell w0 X0 b1 i1 147 [.pointer (some ⟨b2,0,none⟩)]) (gE:Cell w0 X0 b2 i2 161 [.int .i64 ap.o.aq,.int .i64 ap.o.ax,.int .i64 ap.o.aE,.slice a1 ap.o.Rows.length c1,.slice a2 ap.l.length c2,.slice a3 ap.done.length c3,.map (some r4)]) (lc:Cell w0 X0 b3 i3 3 [.int .i64 aM]) (ti:Cell w0 X0 b4 i4 26 [.slice a5 bz.length c5]) (hA:dH [i1,i2,i3,i4,m3,m4]) :
  Ret Tryz.prog 102 #[.agg #[.int .i64 p_.Oper,.int .i64 p_.Result],.pointer (some ⟨b1,0,none⟩),.pointer (some ⟨b3,0,none⟩),.pointer (some ⟨b4,0,none⟩)] (pR [i1,i2,i3,i4,m3,m4]) w0 X0 (fun w X' v=>∃ r,Q r/\∃ cB cA iE iD oO oN xk xj,v=.tuple #[.slice cB r.1.length cA,.bool r.2.1]/\OS ar 56 w X' cz cB r.1 cA/\RS ay w X' iE r.2.2.o.Rows iD/\RS ao w X' oO r.2.2.l oN/\OS dz 4 w X' m3 xk r.2.2.done xj/\Cell w X' b1 i1 147 [.pointer (some ⟨b2,0,none⟩)]/\Cell w X' b2 i2 161 [.int .i64 r.2.2.o.aq,.int .i64 r.2.2.o.ax,.int .i64 r.2.2.o.aE,.slice iE r.2.2.o.Rows.length iD,.slice oO r.2.2.l.length oN,.slice xk r.2.2.done.length xj,.map (some r4)]/\OMS aQ tI false w X' m4 r4 r.2.2.failed/\Cell w X' b3 i3 3 [.int .i64 aM]/\Cell w X' b4 i4 26 [.slice a5 bz.length c5]):=by
 unfold VC102 at hm
 replace hm:=hm (h1.sm kr)
 replace hm:=hm (h2.sm kr)
 replace hm:=hm (h3.sm kr)
 replace hm:=hm (h5.sm kr)
 refine fB Tryz.func102 rfl (dx (zAc2 i1 i2 i3 i4 m3 m4)) (fun id=>(bif Nat.beq id 901 then b1 else (bif Nat.beq id 902 then b2 else (bif Nat.beq id 903 then b3 else (bif Nat.beq id 904 then b4 else 0))))) (args:=[V (.agg #[.int .i64 p_.Oper,.int .i64 p_.Result]),Pt 901 0,Pt 903 0,Pt 904 0]) (bxs:=[(901,(147,[Pt 902 0])),(902,(161,[I ap.o.aq,I ap.o.ax,I ap.o.aE,Sl a1 ap.o.Rows c1,Sl a2 ap.l c2,Sl a3 ap.done c3,V (.map (some r4))])),(903,(3,[I aM])),(904,(26,[Sl a5 bz c5]))]) kr rfl (bm.cons kr (ff.map (bK 0 hA.1 rfl)) (bm.cons kr (gE.map (bK 1 hA.1 rfl)) (bm.cons kr (lc.map (bK 2 hA.1 rfl)) (bm.cons kr (ti.map (bK 3 hA.1 rfl)) bm.nil)))) (fm (fun q hq=>(hA.2 q.1 (List.mem_map.2 ⟨q,hq,rfl⟩)).1)) ?_
 intro a hS hO hM
 have hP:Pin [(901,b1),(902,b2),(903,b3),(904,b4)] (fun id=>(bif Nat.beq id 901 then b1 else (bif Nat.beq id 902 then b2 else (bif Nat.beq id 903 then b3 else (bif Nat.beq id 904 then b4 else 0))))):=by intro q hq; simp at hq; rcases hq with rfl | rfl | rfl | rfl <;> rfl
 generalize (fun id=>(bif Nat.beq id 901 then b1 else (bif Nat.beq id 902 then b2 else (bif Nat.beq id 903 then b3 else (bif Nat.beq id 904 then b4 else 0)))))=Z at hS hP
 clear ff gE lc ti
 replace h1:=h1.m0 hM
 replace h2:=h2.m0 hM
 replace h3:=h3.map (f:=dx (zAc2 i1 i2 i3 i4 m3 m4)) (bK 4 hA.1 rfl) hM
 replace h4:=h4.map (f:=dx (zAc2 i1 i2 i3 i4 m3 m4)) (bK 5 hA.1 rfl) hM
 replace h5:=h5.m0 hM
 refine rM T hS ⟨[(1,Pt 901 0),(2,Pt 903 0),(3,Pt 904 0),(4,Pt 5 0)],[(5,(56,(cK p_))),(901,(147,[Pt 902 0])),(902,(161,[I ap.o.aq,I ap.o.ax,I ap.o.aE,Sl a1 ap.o.Rows c1,Sl a2 ap.l c2,Sl a3 ap.done c3,V (.map (some r4))])),(903,(3,[I aM])),(904,(26,[Sl a5 bz c5]))]⟩ fun Z a Ny PO hS hE hr=>?_
 replace hO:=hO.m2 hE
 replace h1:=h1.m1 hE
 replace h2:=h2.m1 hE
 replace h3:=h3.m2 hE
 replace h4:=h4.m2 hE
 replace h5:=h5.m1 hE
 replace hP:=hP.mv hr kr
 clear hE hr
 refine dq [5,901,902,903,904] mixed hS ?_
 intro n5 oI hS hE hD hH
 replace hO:=hO.m2 hE
 replace h1:=h1.m1 hE
 replace h2:=h2.m1 hE
 replace h3:=h3.m2 hE
 replace h4:=h4.m2 hE
 replace h5:=h5.m1 hE
 refine tk T [0,4,5,9,1,6,10,2,7,3,8] [5,901,902,903,904] hS hH #[true,true,true,true,true,true,true,true,true,true,true,false,false,false,false,false,false,false,false,false,false,false] 11 ⟨[(1,Pt 901 0),(3,Pt 904 0),(4,Pt 5 0),(16,V (.agg #[.int .i64 ap.o.aq,.int .i64 ap.o.ax,.int .i64 ap.o.aE,.slice a1 ap.o.Rows.length c1])),(17,I aM),(21,Sl a2 ap.l c2),(23,I p_.Oper)],[(5,(56,(cK p_))),(901,(147,[Pt 902 0])),(902,(161,[I ap.o.aq,I ap.o.ax,I ap.o.aE,Sl a1 ap.o.Rows c1,Sl a2 ap.l c2,Sl a3 ap.done c3,V (.map (some r4))])),(903,(3,[I aM])),(904,(26,[Sl a5 bz c5]))]⟩ fun a hS=>?_
 obtain ⟨hq,hm⟩:=hm
 refine c6 (e:=102) (k:=.i64) T 11 hS kr kr kr (by rfl) kr hH kr kr h2 kr kr hq.1 hq.2 ?_
 intro tJ a h104 hS
 have uR:=h104.here
 refine dh (off:=1) (fsz:=1) (ft:=3) (TF:=tI) (y:=(gi ap.l p_.Oper).Kind) 12 T hS kr kr kr (by rfl) kr hH kr h104 kr kr kr (fun cs h=>lZ h) ?_
 intro w9 a h106 fv hS
 have qw:=uR
 rw [← fv] at qw
 clear fv
 refine dF T 13 hS kr kr kr (by rfl) kr hH kr h106 qw rfl kr ?_
 intro v107 a hv hS
 cases hv
 refine only 14 kr (by rfl) (call hS kr kr hb103 kr (fun _ _=>rfl) (qm _ _ ap.o aM ((gi ap.l p_.Oper).Kind) a1 c1 h1) ?_)
 intro v108 a pm rc hE hp hS
 replace hO:=hO.m2 hE
 replace hD:=hD.ev hE rfl
 replace h1:=h1.m1 hE
 replace h2:=h2.m1 hE
 replace h3:=h3.m2 hE
 replace h4:=h4.m2 hE
 replace h5:=h5.m1 hE
 replace h104:=h104.m1 hE
 replace h106:=h106.m1 hE
 obtain ⟨bA,hr⟩:∃ r,cj ap.o aM ((gi ap.l p_.Oper).Kind)=r:=⟨_,rfl⟩
 replace hm:=hm bA hr
 rw [hr] at hp
 clear hr
 subst hp
 replace hS:=hS.sl ⟨[(1,Pt 901 0),(3,Pt 904 0),(4,Pt 5 0),(16,V (.agg #[.int .i64 ap.o.aq,.int .i64 ap.o.ax,.int .i64 ap.o.aE,.slice a1 ap.o.Rows.length c1])),(17,I aM),(21,Sl a2 ap.l c2),(23,I p_.Oper),(24,V (.pointer (some tJ))),(25,V (.pointer (some w9))),(26,I ((gi ap.l p_.Oper).Kind)),(27,V (.tuple #[.int .i64 bA.1,.int .i64 bA.2.1,.bool bA.2.2]))],[(5,(56,(cK p_))),(901,(147,[Pt 902 0])),(902,(161,[I ap.o.aq,I ap.o.ax,I ap.o.aE,Sl a1 ap.o.Rows c1,Sl a2 ap.l c2,Sl a3 ap.done c3,V (.map (some r4))])),(903,(3,[I aM])),(904,(26,[Sl a5 bz c5]))]⟩
 refine cV (bI.of hS (bks:=[5,901,902,903,904]) kr hD) ?_
 intro hH
 refine tk T [15,16,17,18,19,20,21] [5,901,902,903,904] hS hH #[true,true,true,true,true,true,true,true,true,true,true,true,true,true,true,true,true,true,true,true,true,true] 0 ⟨[(1,Pt 901 0),(3,Pt 904 0),(4,Pt 5 0),(7,I bA.1)],[(5,(56,(cK p_))),(901,(147,[Pt 902 0])),(902,(161,[I ap.o.aq,I ap.o.ax,I ap.o.aE,Sl a1 ap.o.Rows c1,Sl a2 ap.l c2,Sl a3 ap.done c3,V (.map (some r4))])),(903,(3,[I aM])),(904,(26,[Sl a5 bz c5]))]⟩ fun a hS=>?_
 refine aV kr ?_
 replace hS:=hS.sl ⟨[(1,Pt 901 0),(3,Pt 904 0),(4,Pt 5 0),(7,I bA.1)],[(5,(56,(cK p_))),(901,(147,[Pt 902 0])),(902,(161,[I ap.o.aq,I ap.o.ax,I ap.o.aE,Sl a1 ap.o.Rows c1,Sl a2 ap.l c2,Sl a3 ap.done c3,V (.map (some r4))])),(903,(3,[I aM])),(904,(26,[Sl a5 bz c5]))]⟩
 refine dq [5,901,902,903,904] mixed hS ?_
 intro Ag vA hS hE hD hH
 replace hO:=hO.m2 hE
 replace h1:=h1.m1 hE
 replace h2:=h2.m1 hE
 replace h3:=h3.m2 hE
 replace h4:=h4.m2 hE
 replace h5:=h5.m1 hE
 refine tk T [0,4,1,5,2,3] [5,901,902,903,904] hS hH #[true,true,true,true,true,true,false,false] 2 ⟨[(1,Pt 901 0),(3,Pt 904 0),(4,Pt 5 0),(7,I bA.1),(34,Sl a3 ap.done c3),(36,I p_.Oper)],[(5,(56,(cK p_))),(901,(147,[Pt 902 0])),(902,(161,[I ap.o.aq,I ap.o.ax,I ap.o.aE,Sl a1 ap.o.Rows c1,Sl a2 ap.l c2,Sl a3 ap.done c3,V (.map (some r4))])),(903,(3,[I aM])),(904,(26,[Sl a5 bz c5]))]⟩ fun a hS=>?_
 obtain ⟨us,hm⟩:=hm
 refine only 6 kr (by rfl) (mV (E:=4) (k:=.i64) T hS kr kr kr kr h3 kr kr us.1 us.2 ?_)
 intro DD a h116 h115 hS
 refine cV (bI.of hS (bks:=[5,901,902,903,904]) kr hD) ?_
 intro hH
 refine only 7 kr (by rfl) (Am (x:=true) (v:=B true) (i:=p_.Oper.toNat) (E:=4) (xs:=ap.done) T hS kr kr kr kr h3 h116 (by have:=us.1; have:=us.2; omega) kr (fun _ _ _=>rfl) ?_)
 intro a yF hE h119 hS
 clear h3 h116 h115 us
 replace hO:=hO.m2 hE
 replace hD:=hD.ev hE rfl
 replace h1:=h1.m1 hE
 replace h2:=h2.m1 hE
 replace h4:=h4.m2 hE
 replace h5:=h5.m1 hE
 replace hS:=hS.conv (t:=34) (y:=.slice a3 (ap.done.set p_.Oper.toNat true).length c3) kr (by rw [List.length_set])
 refine cV (bI.of hS (bks:=[5,901,902,903,904]) kr hD) ?_
 intro hH
 have xU:=hS.cell (id:=902) (t:=161) (cs:=[I ap.o.aq,I ap.o.ax,I ap.o.aE,Sl a1 ap.o.Rows c1,Sl a2 ap.l c2,Sl a3 ap.done c3,V (.map (some r4))]) kr
 replace xU:=xU.conv (vals':=[.int .i64 ap.o.aq,.int .i64 ap.o.ax,.int .i64 ap.o.aE,.slice a1 ap.o.Rows.length c1,.slice a2 ap.l.length c2,.slice a3 (ap.done.set p_.Oper.toNat true).length c3,.map (some r4)]) (by rw [List.length_set]; rfl)
 replace hS:=hS.cx (id:=902) (t:=161) (cs:=[I ap.o.aq,I ap.o.ax,I ap.o.aE,Sl a1 ap.o.Rows c1,Sl a2 ap.l c2,Sl a3 (ap.done.set p_.Oper.toNat true) c3,V (.map (some r4))]) kr xU
 clear xU
 refine aV kr ?_
 replace hS:=hS.sl ⟨[(1,Pt 901 0),(3,Pt 904 0),(4,Pt 5 0),(7,I bA.1)],[(5,(56,(cK p_))),(901,(147,[Pt 902 0])),(902,(161,[I ap.o.aq,I ap.o.ax,I ap.o.aE,Sl a1 ap.o.Rows c1,Sl a2 ap.l c2,Sl a3 (ap.done.set p_.Oper.toNat true) c3,V (.map (some r4))])),(903,(3,[I aM])),(904,(26,[Sl a5 bz c5]))]⟩
 refine dq [5,901,903,904] mixed hS ?_
 intro vQ B0 hS hE hD hH
 replace hO:=hO.m2 hE
 replace h1:=h1.m1 hE
 replace h2:=h2.m1 hE
 replace h4:=h4.m2 hE
 replace h5:=h5.m1 hE
 replace h119:=h119.m2 hE
 refine tk T [0,1,2,4] [5,901,903,904] hS hH #[true,true,true,false,true,false,false,false,false,false,false,false,false] 9 ⟨[(1,Pt 901 0),(4,Pt 5 0),(39,Pt 902 0),(40,I bA.1),(41,Sl a5 bz c5),(43,V (.agg #[.int .i64 p_.Oper,.int .i64 p_.Result]))],[(5,(56,(cK p_))),(901,(147,[Pt 902 0])),(902,(161,[I ap.o.aq,I ap.o.ax,I ap.o.aE,Sl a1 ap.o.Rows c1,Sl a2 ap.l c2,Sl a3 (ap.done.set p_.Oper.toNat true) c3,V (.map (some r4))])),(903,(3,[I aM])),(904,(26,[Sl a5 bz c5]))]⟩ fun a hS=>?_
 obtain ⟨FI,hm⟩:=hm
 obtain ⟨md,C3⟩:∃ r,bV bz=r:=⟨_,rfl⟩
 replace hm:=hm md C3
 refine yi (fun a w=>∃ X tD tv lU lS,St Tryz.f102.ntmps ⟨[(1,Pt 901 0),(4,Pt 5 0),(39,Pt 902 0),(40,I bA.1),(42,Sl tD md tv),(44,Sl lU [p_] lS)],[(5,(56,(cK p_))),(901,(147,[Pt 902 0])),(902,(161,[I ap.o.aq,I ap.o.ax,I ap.o.aE,Sl a1 ap.o.Rows c1,Sl a2 ap.l c2,Sl a3 (ap.done.set p_.Oper.toNat true) c3,V (.map (some r4))])),(903,(3,[I aM])),(904,(26,[Sl a5 bz c5]))]⟩ Z a w X/\fU (dx (zAc2 i1 i2 i3 i4 m3 m4)) w0 X0 w X/\M0 vQ B0 w X/\bI vQ B0 (mg [5,901,903,904] ⟨[(1,Pt 901 0),(3,Pt 904 0),(4,Pt 5 0),(7,I bA.1)],[(5,(56,(cK p_))),(901,(147,[Pt 902 0])),(902,(161,[I ap.o.aq,I ap.o.ax,I ap.o.aE,Sl a1 ap.o.Rows c1,Sl a2 ap.l c2,Sl a3 (ap.done.set p_.Oper.toNat true) c3,V (.map (some r4))])),(903,(3,[I aM])),(904,(26,[Sl a5 bz c5]))]⟩) Z w/\OS ar 56 w X 1006 tD md tv/\RS ar w X lU [p_] lS/\RS ay w X a1 ap.o.Rows c1/\RS ao w X a2 ap.l c2/\OS dz 4 w X 2003 a3 (ap.done.set p_.Oper.toNat true) c3/\OMS aQ tI false w X 2004 r4 ap.failed/\RS ar w X a5 bz c5) #[true,true,true,true,true,true,false,false,false,false,false,false,false] 7 ?_ (fun H=>?_)
 ·rintro a Jm ⟨LO,tD,tv,lU,lS,hS,hO,hD,hH,h145,h148,h151,h152,h153,h154,h155⟩
  replace hm:=hm (h145.sm kr)
  clear FI C3
  obtain ⟨hq,hm⟩:=hm
  obtain ⟨news,hN⟩:=h148.src
  refine only 6 kr (by rfl) (append (E:=56) (T:=ar) (col:=1006) (xs:=md) T hS kr kr kr kr h145 hN kr kr kr kr hq ?_)
  intro Im H7 a GB Iw hE h182 hS
  clear hq hN
  clear h145
  replace hO:=hO.m2 hE
  replace hD:=hD.ev hE rfl
  replace h148:=h148.m1 hE
  replace h151:=h151.m1 hE
  replace h152:=h152.m1 hE
  replace h153:=h153.m2 hE
  replace h154:=h154.m2 hE
  replace h155:=h155.m1 hE
  replace hS:=hS.sl ⟨[(1,Pt 901 0),(4,Pt 5 0),(39,Pt 902 0),(40,I bA.1),(44,Sl lU [p_] lS),(45,Sl Im (md++[p_]) H7)],[(5,(56,(cK p_))),(901,(147,[Pt 902 0])),(902,(161,[I ap.o.aq,I ap.o.ax,I ap.o.aE,Sl a1 ap.o.Rows c1,Sl a2 ap.l c2,Sl a3 (ap.done.set p_.Oper.toNat true) c3,V (.map (some r4))])),(903,(3,[I aM])),(904,(26,[Sl a5 bz c5]))]⟩
  refine cV (bI.of hS (bks:=[5,901,903,904]) kr hD) ?_
  intro hH
  obtain ⟨hq,hm⟩:=hm
  refine only 7 kr (by rfl) (lv hS kr kr hb90 kr (E6 _ _ bA.1 (md++[p_]) (⟨ap.o,ap.l,(ap.done.set p_.Oper.toNat true),ap.failed⟩:aX) Im H7 1006 a1 c1 a2 c2 a3 c3 2003 r4 2004 (Z 902) 902 hq.1 hq.2 h182 h151 h152 h153 h154 (hS.cell (id:=902) (t:=161) (cs:=[I ap.o.aq,I ap.o.ax,I ap.o.aE,Sl a1 ap.o.Rows c1,Sl a2 ap.l c2,Sl a3 (ap.done.set p_.Oper.toNat true) c3,V (.map (some r4))]) kr) ⟨by decide,by decide⟩) ?_)
  intro v185 a EC Iu hE hp hS
  clear h154
  clear h182
  clear h153
  replace hO:=hO.m2 hE
  replace hD:=hD.ev hE rfl
  replace h148:=h148.m1 hE
  replace h151:=h151.m1 hE
  replace h152:=h152.m1 hE
  replace h155:=h155.m1 hE
  obtain ⟨vr,vg,ph,pd,pg,pc,n2,nU,hp,h191,h194,h197,h200,Bj,h201⟩:=hp
  obtain ⟨co,hr⟩:∃ r,aG bA.1 (md++[p_]) (⟨ap.o,ap.l,(ap.done.set p_.Oper.toNat true),ap.failed⟩:aX)=r:=⟨_,rfl⟩
  replace hm:=hm co hr
  rw [hr] at hp h191 h194 h197 h200 Bj h201
  clear hr
  subst hp
  replace hm:=hm (h191.sm kr)
  replace hm:=hm (h194.sm kr)
  replace hm:=hm (h197.sm kr)
  replace hm:=hm (h200.sm kr)
  replace hS:=hS.cx (id:=902) (t:=161) (cs:=[I co.2.2.o.aq,I co.2.2.o.ax,I co.2.2.o.aE,Sl ph co.2.2.o.Rows pd,Sl pg co.2.2.l pc,Sl n2 co.2.2.done nU,V (.map (some r4))]) kr Bj
  clear Bj
  replace hS:=hS.sl ⟨[(1,Pt 901 0),(4,Pt 5 0),(39,Pt 902 0),(40,I bA.1),(44,Sl lU [p_] lS),(46,V (.tuple #[.slice vr co.1.length vg,.bool co.2.1]))],[(5,(56,(cK p_))),(901,(147,[Pt 902 0])),(902,(161,[I co.2.2.o.aq,I co.2.2.o.ax,I co.2.2.o.aE,Sl ph co.2.2.o.Rows pd,Sl pg co.2.2.l pc,Sl n2 co.2.2.done nU,V (.map (some r4))])),(903,(3,[I aM])),(904,(26,[Sl a5 bz c5]))]⟩
  refine cV (bI.of hS (bks:=[5,901,903,904]) kr hD) ?_
  intro hH
  refine tk T [8,9,10,11,12] [5,901,903,904] hS hH #[true,true,true,true,true,true,true,true,true,true,true,true,true] 0 ⟨[(1,Pt 901 0),(4,Pt 5 0),(10,Sl vr co.1 vg),(11,B co.2.1)],[(5,(56,(cK p_))),(901,(147,[Pt 902 0])),(902,(161,[I co.2.2.o.aq,I co.2.2.o.ax,I co.2.2.o.aE,Sl ph co.2.2.o.Rows pd,Sl pg co.2.2.l pc,Sl n2 co.2.2.done nU,V (.map (some r4))])),(903,(3,[I aM])),(904,(26,[Sl a5 bz c5]))]⟩ fun a hS=>?_
  refine aV kr ?_
  replace hS:=hS.sl ⟨[(1,Pt 901 0),(4,Pt 5 0),(10,Sl vr co.1 vg),(11,B co.2.1)],[(5,(56,(cK p_))),(901,(147,[Pt 902 0])),(902,(161,[I co.2.2.o.aq,I co.2.2.o.ax,I co.2.2.o.aE,Sl ph co.2.2.o.Rows pd,Sl pg co.2.2.l pc,Sl n2 co.2.2.done nU,V (.map (some r4))])),(903,(3,[I aM])),(904,(26,[Sl a5 bz c5]))]⟩
  refine dq [5,901,902,903,904] mixed hS ?_
  intro Gy LE hS hE hD hH
  replace hO:=hO.m2 hE
  replace h155:=h155.m1 hE
  replace h201:=h201.m2 hE
  replace h191:=h191.m2 hE
  replace h194:=h194.m1 hE
  replace h197:=h197.m1 hE
  replace h200:=h200.m2 hE
  refine tk T [0,4,1,5,2,3] [5,901,902,903,904] hS hH #[true,true,true,true,true,true,false,false] 2 ⟨[(10,Sl vr co.1 vg),(11,B co.2.1),(52,Sl n2 co.2.2.done nU),(54,I p_.Oper)],[(5,(56,(cK p_))),(901,(147,[Pt 902 0])),(902,(161,[I co.2.2.o.aq,I co.2.2.o.ax,I co.2.2.o.aE,Sl ph co.2.2.o.Rows pd,Sl pg co.2.2.l pc,Sl n2 co.2.2.done nU,V (.map (some r4))])),(903,(3,[I aM])),(904,(26,[Sl a5 bz c5]))]⟩ fun a hS=>?_
  obtain ⟨up,hm⟩:=hm
  refine only 6 kr (by rfl) (mV (E:=4) (k:=.i64) T hS kr kr kr kr h200 kr kr up.1 up.2 ?_)
  intro Qi a h207 h206 hS
  refine cV (bI.of hS (bks:=[5,901,902,903,904]) kr hD) ?_
  intro hH
  refine only 7 kr (by rfl) (Am (x:=false) (v:=B false) (i:=p_.Oper.toNat) (E:=4) (xs:=co.2.2.done) T hS kr kr kr kr h200 h207 (by have:=up.1; have:=up.2; omega) kr (fun _ _ _=>rfl) ?_)
  intro a Gx hE h210 hS
  clear h200 h207 h206 up
  replace hO:=hO.m2 hE
  replace hD:=hD.ev hE rfl
  replace h155:=h155.m1 hE
  replace h201:=h201.m2 hE
  replace h191:=h191.m2 hE
  replace h194:=h194.m1 hE
  replace h197:=h197.m1 hE
  replace hS:=hS.conv (t:=52) (y:=.slice n2 (co.2.2.done.set p_.Oper.toNat false).length nU) kr (by rw [List.length_set])
  refine cV (bI.of hS (bks:=[5,901,902,903,904]) kr hD) ?_
  intro hH
  have xS:=hS.cell (id:=902) (t:=161) (cs:=[I co.2.2.o.aq,I co.2.2.o.ax,I co.2.2.o.aE,Sl ph co.2.2.o.Rows pd,Sl pg co.2.2.l pc,Sl n2 co.2.2.done nU,V (.map (some r4))]) kr
  replace xS:=xS.conv (vals':=[.int .i64 co.2.2.o.aq,.int .i64 co.2.2.o.ax,.int .i64 co.2.2.o.aE,.slice ph co.2.2.o.Rows.length pd,.slice pg co.2.2.l.length pc,.slice n2 (co.2.2.done.set p_.Oper.toNat false).length nU,.map (some r4)]) (by rw [List.length_set]; rfl)
  replace hS:=hS.cx (id:=902) (t:=161) (cs:=[I co.2.2.o.aq,I co.2.2.o.ax,I co.2.2.o.aE,Sl ph co.2.2.o.Rows pd,Sl pg co.2.2.l pc,Sl n2 (co.2.2.done.set p_.Oper.toNat false) nU,V (.map (some r4))]) kr xS
  clear xS
  refine aV kr ?_
  replace hS:=hS.sl ⟨[(10,Sl vr co.1 vg),(11,B co.2.1)],[(901,(147,[Pt 902 0])),(902,(161,[I co.2.2.o.aq,I co.2.2.o.ax,I co.2.2.o.aE,Sl ph co.2.2.o.Rows pd,Sl pg co.2.2.l pc,Sl n2 (co.2.2.done.set p_.Oper.toNat false) nU,V (.map (some r4))])),(903,(3,[I aM])),(904,(26,[Sl a5 bz c5]))]⟩
  refine rP T hS ⟨[(5,Sl vr co.1 vg),(6,B co.2.1)],[(901,(147,[Pt 902 0])),(902,(161,[I co.2.2.o.aq,I co.2.2.o.ax,I co.2.2.o.aE,Sl ph co.2.2.o.Rows pd,Sl pg co.2.2.l pc,Sl n2 (co.2.2.done.set p_.Oper.toNat false) nU,V (.map (some r4))])),(903,(3,[I aM])),(904,(26,[Sl a5 bz c5]))]⟩ fun a hS=>?_
  refine aZ ?_
  exact gF T hS hO (fun c h=>bS kr h) (fun c h=>bT (l:=(zAc2 i1 i2 i3 i4 m3 m4)) h) (bN [(i1,901),(i2,902),(i3,903),(i4,904),(m3,2003),(m4,2004),(cz,1006)]) rfl (r:=[.slice vr co.1.length vg,.bool co.2.1]) kr (fun X' hM hC=>⟨(co.1,co.2.1,(⟨co.2.2.o,co.2.2.l,(co.2.2.done.set p_.Oper.toNat false),co.2.2.failed⟩:aX)),hm,vr,vg,ph,pd,pg,pc,n2,nU,rfl,(OS.out (f:=(bN [(i1,901),(i2,902),(i3,903),(i4,904),(m3,2003),(m4,2004),(cz,1006)])) h191 hM hC kr),h194.m0 hM,h197.m0 hM,(OS.out (f:=(bN [(i1,901),(i2,902),(i3,903),(i4,904),(m3,2003),(m4,2004),(cz,1006)])) h210 hM hC kr),(Cell.ptr (id:=902) ((hS.cell (id:=901) (t:=147) (cs:=[Pt 902 0]) kr).out (f:=(bN [(i1,901),(i2,902),(i3,903),(i4,904),(m3,2003),(m4,2004),(cz,1006)])) hC kr kr (hP.at 0 rfl)) (hP.at 1 rfl)),((hS.cell (id:=902) (t:=161) (cs:=[I co.2.2.o.aq,I co.2.2.o.ax,I co.2.2.o.aE,Sl ph co.2.2.o.Rows pd,Sl pg co.2.2.l pc,Sl n2 (co.2.2.done.set p_.Oper.toNat false) nU,V (.map (some r4))]) kr).out (f:=(bN [(i1,901),(i2,902),(i3,903),(i4,904),(m3,2003),(m4,2004),(cz,1006)])) hC kr kr (hP.at 1 rfl)),(h201.out (f:=(bN [(i1,901),(i2,902),(i3,903),(i4,904),(m3,2003),(m4,2004),(cz,1006)])) hM hC kr kr),((hS.cell (id:=903) (t:=3) (cs:=[I aM]) kr).out (f:=(bN [(i1,901),(i2,902),(i3,903),(i4,904),(m3,2003),(m4,2004),(cz,1006)])) hC kr kr (hP.at 2 rfl)),((hS.cell (id:=904) (t:=26) (cs:=[Sl a5 bz c5]) kr).out (f:=(bN [(i1,901),(i2,902),(i3,903),(i4,904),(m3,2003),(m4,2004),(cz,1006)])) hC kr kr (hP.at 3 rfl))⟩)
 clear hm
 refine qJ (is:=[3,5]) kr (by decide) ?_
 intro i hi
 rcases zi hi with rfl | rfl
 ·have hq:=FI
  refine jy (by rfl) (call hS kr kr hb104 kr (fun _ _=>rfl) (CW _ _ bz a5 c5 1006 hq h5) ?_)
  intro v156 a yA zT hE hp hS
  replace hO:=hO.m2 hE
  replace hD:=hD.ev hE rfl
  replace h1:=h1.m1 hE
  replace h2:=h2.m1 hE
  replace h4:=h4.m2 hE
  replace h5:=h5.m1 hE
  replace h119:=h119.m2 hE
  obtain ⟨zP,zG,hp,h162⟩:=hp
  rw [C3] at hp h162
  subst hp
  replace hS:=hS.sl ⟨[(1,Pt 901 0),(4,Pt 5 0),(39,Pt 902 0),(40,I bA.1),(41,Sl a5 bz c5),(43,V (.agg #[.int .i64 p_.Oper,.int .i64 p_.Result])),(42,Sl zP md zG)],[(5,(56,(cK p_))),(901,(147,[Pt 902 0])),(902,(161,[I ap.o.aq,I ap.o.ax,I ap.o.aE,Sl a1 ap.o.Rows c1,Sl a2 ap.l c2,Sl a3 (ap.done.set p_.Oper.toNat true) c3,V (.map (some r4))])),(903,(3,[I aM])),(904,(26,[Sl a5 bz c5]))]⟩
  refine cV (bI.of hS (bks:=[5,901,903,904]) kr hD) ?_
  intro hH
  refine only 5 kr (by rfl) (lit (E:=56) (col:=0) (T:=ar) (vals:=[.agg #[.int .i64 p_.Oper,.int .i64 p_.Result]]) (ys:=[p_]) T hS kr kr kr kr (by exact ⟨rfl,trivial⟩) rfl kr kr kr kr ?_)
  intro b163 a ED IA hE h166 hN hS
  clear hN
  replace hO:=hO.m2 hE
  replace hD:=hD.ev hE rfl
  replace h1:=h1.m1 hE
  replace h2:=h2.m1 hE
  replace h4:=h4.m2 hE
  replace h5:=h5.m1 hE
  replace h119:=h119.m2 hE
  replace h162:=h162.m2 hE
  replace h166:=h166.rs0
  refine cV (bI.of hS (bks:=[5,901,903,904]) kr hD) ?_
  intro hH
  exact H _ _ ⟨_,zP,zG,(some ⟨b163,0,none⟩),1,hS.sl _,hO,hD,hH,h162,h166,h1,h2,h119,h4,h5⟩
 refine jy (by rfl) (lit (E:=56) (col:=0) (T:=ar) (vals:=[.agg #[.int .i64 p_.Oper,.int .i64 p_.Result]]) (ys:=[p_]) T hS kr kr kr kr (by exact ⟨rfl,trivial⟩) rfl kr kr kr kr ?_)
 intro b167 a Cp F0 hE h170 hN hS
 clear hN
 replace hO:=hO.m2 hE
 replace hD:=hD.ev hE rfl
 replace h1:=h1.m1 hE
 replace h2:=h2.m1 hE
 replace h4:=h4.m2 hE
 replace h5:=h5.m1 hE
 replace h119:=h119.m2 hE
 replace h170:=h170.rs0
 refine cV (bI.of hS (bks:=[5,901,903,904]) kr hD) ?_
 intro hH
 have hq:=FI
 refine only 3 kr (by rfl) (call hS kr kr hb104 kr (fun _ _=>rfl) (CW _ _ bz a5 c5 1006 hq h5) ?_)
 intro v171 a GE Ix hE hp hS
 replace hO:=hO.m2 hE
 replace hD:=hD.ev hE rfl
 replace h1:=h1.m1 hE
 replace h2:=h2.m1 hE
 replace h4:=h4.m2 hE
 replace h5:=h5.m1 hE
 replace h119:=h119.m2 hE
 replace h170:=h170.m1 hE
 obtain ⟨jN,jJ,hp,h177⟩:=hp
 rw [C3] at hp h177
 subst hp
 replace hS:=hS.sl ⟨[(1,Pt 901 0),(4,Pt 5 0),(39,Pt 902 0),(40,I bA.1),(41,Sl a5 bz c5),(43,V (.agg #[.int .i64 p_.Oper,.int .i64 p_.Result])),(44,Sl (some ⟨b167,0,none⟩) [p_] 1),(42,Sl jN md jJ)],[(5,(56,(cK p_))),(901,(147,[Pt 902 0])),(902,(161,[I ap.o.aq,I ap.o.ax,I ap.o.aE,Sl a1 ap.o.Rows c1,Sl a2 ap.l c2,Sl a3 (ap.done.set p_.Oper.toNat true) c3,V (.map (some r4))])),(903,(3,[I aM])),(904,(26,[Sl a5 bz c5]))]⟩
 refine cV (bI.of hS (bks:=[5,901,903,904]) kr hD) ?_
 intro hH
 exact H _ _ ⟨_,jN,jJ,(some ⟨b167,0,none⟩),1,hS.sl _,hO,hD,hH,h177,h170,h1,h2,h119,h4,h5⟩
theorem C102 (N:Nat) (qm:S103) (CW:S104) (E6:S90N N) (v:∀ (p_:aa) (ap:aX) (aM:Int) (bz:List aa),xn p_ ap aM bz->AY p_ ap aM bz < N+1->VC102 N p_ ap aM bz (fun r=>r=bf p_ ap aM bz)):S102N (N+1):=by
 intro w X p_ ap aM bz a1 c1 a2 c2 a3 c3 m3 r4 m4 a5 c5 cz b1 i1 b2 i2 b3 i3 b4 i4 hp KG h1 h2 h3 h4 h5 ff gE lc ti hA
 refine (W102 N qm CW E6 w X p_ ap aM bz a1 c1 a2 c2 a3 c3 m3 r4 m4 a5 c5 cz b1 i1 b2 i2 b3 i3 b4 i4 _ (v p_ ap aM bz hp KG) h1 h2 h3 h4 h5 ff gE lc ti hA).mono ?_
 rintro _ _ _ _ ⟨r,rfl,h⟩
 exact h
end Go.Proofs.YteahldlmkheleaaGreat
