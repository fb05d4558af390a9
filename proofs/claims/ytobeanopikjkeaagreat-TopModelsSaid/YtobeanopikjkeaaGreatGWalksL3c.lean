/- Walks of the functions: each returns what its condition asks. Condition: the contracts of its callees, handed in. -/
import Derived.Test.YtobeanopikjkeaaGreatGWalksS
set_option linter.all false
namespace Go.Proofs.YtobeanopikjkeaaGreat
open Go Go.Sv
abbrev zL3c0 (gx:Nat):Nat->Nat:=fun c=>(bif Nat.beq c 2 then gx else c)
abbrev zL3c1 (gx:Nat):Nat->Nat:=fun c=>(bif Nat.beq c 1003 then gx else c)
set_option maxHeartbeats 1000000
theorem W21 (mi:S59) (R8:S64) (TB:S66) (w0) (X0) (s_:aa) (aJ:List (Int × Int)) (a1) (c1) (Q:(List (List Int))->Prop) (hm:VC21 s_ aJ Q) (h1:RS tP2 w0 X0 a1 aJ c1) :
  rt 21 #[.agg #[ii s_.Ops,ii s_.ab],.slice a1 aJ.length c1] aB w0 X0 (fun w X' v=>∃ r,Q r/\∃ dg de,v=.slice dg r.length de/\RS (aA tI) w X' dg r de):=by
 unfold VC21 at hm
 replace hm:=hm (h1.sm kr)
 refine enter Tryz.func21 rfl (vals:=[.agg #[ii s_.Ops,ii s_.ab],.slice a1 aJ.length c1]) kr ?_
 intro Z a hS hO hM
 replace h1:=h1.m0 hM
 refine rM T hS ⟨[(1,Sl a1 aJ c1),(2,Pt 3 0)],[(3,(61,[I s_.Ops,I s_.ab]))]⟩ fun Z a HG NQ hS hE hr=>?_
 have ⟨hO,h1⟩:=e2e hE hO.m2 h1.m1
 clear hE hr
 refine a8 (bk ?_)
 refine oPe T hS 1 [] [(11,V (.agg #[ii s_.Ops,ii s_.ab]))] fun a hS=>(op1 (call hS kr kr hb59 kr (fun _ _=>rfl) (mi _ _ s_) ?_))
 intro v101 a eI eN hE hp hS
 have ⟨hO,h1⟩:=e2e hE hO.m2 h1.m1
 generalize hr:ao s_=al at hp
 replace hm:=hm al hr
 subst hp
 refine ePe T hS [11,12] [(13,B (al != 0))] fun a hS=>(aC hS (b:=(al != 0)) kr (fun hb=>?_) fun hb=>?_)
 ·replace hm:=hm.1 hb
  refine rP T hS ⟨[(4,V (.slice none 0 0))],[]⟩ fun a hS=>(aR ?_)
  exact fin T hS hO (fun c=>c) rfl (r:=[.slice none 0 0]) kr (fun X' hM hC=>⟨[],hm,none,0,rfl,RS.empty _ _ _⟩)
 replace hm:=hm.2 hb
 refine aI (rPe T hS [13] [(5,.f (.func 64) [] [.p 3 0])] fun a hS=>?_)
 refine rPe T hS [] [(6,V (.slice none 0 0))] fun a hS=>(cg (fun a w=>∃ Z X,∃ (cN:List (List Int)) (dV:Option Addr) (dU:Nat),VC21_J1 Q cN/\St Tryz.f21.ntmps ⟨[(6,Sl dV cN dU)],[]⟩ Z a w X/\Old w0 X0 w X/\OS (aA tI) 79 w X 1005 dV cN dU) ?_ ?_)
 ·refine rPe T hS [1] [(15,Sl a1 aJ c1),(16,I (lN aJ)),(17,I 0)] fun a hS=>(aH ?_)
  obtain ⟨I1,μ1,cC,hm⟩:=hm
  refine cu (σ:=(List (List Int)) × Int) (fun s a w=>∃ Z X du dq,I1 s.1 s.2/\St Tryz.f21.ntmps ⟨[(2,Pt 3 0),(5,.f (.func 64) [] [.p 3 0]),(6,Sl du s.1 dq),(15,Sl a1 aJ c1),(16,I (lN aJ)),(17,I s.2)],[(3,(61,[I s_.Ops,I s_.ab]))]⟩ Z a w X/\Old w0 X0 w X/\OS (aA tI) 79 w X 1005 du s.1 dq/\RS tP2 w X a1 aJ c1) (fun s=>μ1 s.1 s.2) (⟨[],0⟩) ?_ ?_
  ·exact ⟨Z,_,none,0,cC,hS.sl _,hO,(OS.nil _ _ _ _ _),h1⟩
  rintro ⟨bO,aG⟩ a Ln ⟨Z,JI,du,dq,hI,hS,hO,h114,h115⟩
  replace hm:=hm bO aG hI
  clear hI cC
  refine rPe T hS [] [(18,B (decide (aG < (lN aJ))))] fun a hS=>(a8 ?_)
  refine aC hS (b:=decide (aG < (lN aJ))) kr (fun hb=>?_) fun hb=>?_
  ·replace hm:=hm.1 hb
   refine aI (cg (fun a w=>∃ Z X,∃ (fI:List (List Int)) (nN:Option Addr) (nM:Nat),VC21_J2 I1 μ1 bO aG fI/\St Tryz.f21.ntmps ⟨[(2,Pt 3 0),(5,.f (.func 64) [] [.p 3 0]),(6,Sl nN fI nM),(15,Sl a1 aJ c1),(16,I (lN aJ)),(17,I aG)],[(3,(61,[I s_.Ops,I s_.ab]))]⟩ Z a w X/\Old w0 X0 w X/\OS (aA tI) 79 w X 1005 nN fI nM/\RS tP2 w X a1 aJ c1) ?_ ?_)
   ·refine aH (bk ?_)
    obtain ⟨hq,hm⟩:=hm
    refine op1 (index (e:=142) (k:=.i64) T hS kr kr kr kr h115 kr kr hq.1 hq.2 ?_)
    intro Hq a h123 hS
    refine op1 (lJ T hS kr kr kr h123 kr kr ?_)
    intro v124 a hv hS
    subst hv
    refine eM T hS ⟨[(2,Pt 3 0),(5,.f (.func 64) [] [.p 3 0]),(6,Sl du bO dq),(8,Pt 9 0),(15,Sl a1 aJ c1),(16,I (lN aJ)),(17,I aG)],[(3,(61,[I s_.Ops,I s_.ab])),(9,(142,[I ((gi aJ aG).1),I ((gi aJ aG).2)]))]⟩ fun Z a Lo Rq hS hE hr=>?_
    have ⟨hO,h114,h115⟩:=e3e hE hO.m2 h114.m2 h115.m1
    clear hE hr
    refine a8 (bk ?_)
    refine oPe T hS 3 [] [(21,V (.agg #[ii ((gi aJ aG).1),ii ((gi aJ aG).2)])),(23,I s_.Ops)] fun a hS=>(op1 (call hS kr kr hb66 kr (fun _ _=>rfl) (TB _ _ ((gi aJ aG).1,(gi aJ aG).2) s_.Ops) ?_))
    intro v125 a Cz N2 hE hp hS
    have ⟨hO,h114,h115⟩:=e3e hE hO.m2 h114.m2 h115.m1
    generalize hr:dH ((gi aJ aG).1,(gi aJ aG).2) s_.Ops=fB at hp
    replace hm:=hm fB hr
    subst hp
    refine ePe T hS [21,23,24] [(25,B (!fB))] fun a hS=>(aC hS (b:=(!fB)) kr (fun hb=>?_) fun hb=>?_)
    ·replace hm:=hm.1 hb
     refine cl (by rfl) ?_
     exact ⟨Z,_,bO,du,dq,hm,hS.sl _,hO,h114,h115⟩
    replace hm:=hm.2 hb
    refine aI (rPe T hS [25] [(27,I s_.Ops),(28,I 0)] fun a hS=>?_)
    refine aH ?_
    obtain ⟨I2,μ2,cC,hm⟩:=hm
    refine cu (σ:=(List (List Int)) × Int) (fun s a w=>∃ Z X uj ug,I2 s.1 s.2/\St Tryz.f21.ntmps ⟨[(2,Pt 3 0),(5,.f (.func 64) [] [.p 3 0]),(6,Sl uj s.1 ug),(8,Pt 9 0),(15,Sl a1 aJ c1),(16,I (lN aJ)),(17,I aG),(27,I s_.Ops),(28,I s.2)],[(3,(61,[I s_.Ops,I s_.ab])),(9,(142,[I ((gi aJ aG).1),I ((gi aJ aG).2)]))]⟩ Z a w X/\Old w0 X0 w X/\OS (aA tI) 79 w X 1005 uj s.1 ug/\RS tP2 w X a1 aJ c1) (fun s=>μ2 s.1 s.2) (⟨bO,0⟩) ?_ ?_
    ·exact ⟨Z,_,du,dq,cC,hS.sl _,hO,h114,h115⟩
    rintro ⟨tU,fF⟩ a Ow ⟨Z,JK,uj,ug,hI,hS,hO,h132,h133⟩
    replace hm:=hm tU fF hI
    clear hI cC
    refine rPe T hS [] [(29,B (decide (fF < s_.Ops)))] fun a hS=>(a8 ?_)
    refine aC hS (b:=decide (fF < s_.Ops)) kr (fun hb=>?_) fun hb=>?_
    ·replace hm:=hm.1 hb
     refine aI (cg (fun a w=>∃ Z X,∃ (lB:List (List Int)) (qd:Option Addr) (p8:Nat),VC21_J3 I2 μ2 tU fF lB/\St Tryz.f21.ntmps ⟨[(2,Pt 3 0),(5,.f (.func 64) [] [.p 3 0]),(6,Sl qd lB p8),(8,Pt 9 0),(15,Sl a1 aJ c1),(16,I (lN aJ)),(17,I aG),(27,I s_.Ops),(28,I fF)],[(3,(61,[I s_.Ops,I s_.ab])),(9,(142,[I ((gi aJ aG).1),I ((gi aJ aG).2)]))]⟩ Z a w X/\Old w0 X0 w X/\OS (aA tI) 79 w X 1005 qd lB p8/\RS tP2 w X a1 aJ c1) ?_ ?_)
     ·refine aH (rPe T hS [29] [(9,I fF)] fun a hS=>?_)
      refine rPe T hS [] [(31,I fF),(32,I 0)] fun a hS=>(aH ?_)
      obtain ⟨I3,μ3,cC,hm⟩:=hm
      refine cu (σ:=(List (List Int)) × Int) (fun s a w=>∃ Z X jw jt,I3 s.1 s.2/\St Tryz.f21.ntmps ⟨[(2,Pt 3 0),(5,.f (.func 64) [] [.p 3 0]),(6,Sl jw s.1 jt),(8,Pt 9 0),(9,I fF),(15,Sl a1 aJ c1),(16,I (lN aJ)),(17,I aG),(27,I s_.Ops),(28,I fF),(31,I fF),(32,I s.2)],[(3,(61,[I s_.Ops,I s_.ab])),(9,(142,[I ((gi aJ aG).1),I ((gi aJ aG).2)]))]⟩ Z a w X/\Old w0 X0 w X/\OS (aA tI) 79 w X 1005 jw s.1 jt/\RS tP2 w X a1 aJ c1) (fun s=>μ3 s.1 s.2) (⟨tU,0⟩) ?_ ?_
      ·exact ⟨Z,_,uj,ug,cC,hS.sl _,hO,h132,h133⟩
      rintro ⟨qi,lS⟩ a Oy ⟨Z,JL,jw,jt,hI,hS,hO,h143,h144⟩
      replace hm:=hm qi lS hI
      clear hI cC
      refine rPe T hS [] [(33,B (decide (lS < fF)))] fun a hS=>(a8 ?_)
      refine aC hS (b:=decide (lS < fF)) kr (fun hb=>?_) fun hb=>?_
      ·replace hm:=hm.1 hb
       refine aI (a8 ?_)
       refine aH (rPe T hS [33] [(10,I lS)] fun a hS=>?_)
       refine je [3,9] mixed hS ?_
       intro EB NX hS hE hD hH
       have ⟨hO,h143,h144⟩:=e3e hE hO.m2 h143.m2 h144.m1
       refine tke T [0,1,2,4,7,8,10,3,9] [3,9] hS hH #[true,true,true,true,true,false,false,true,true,true,true,false,false,false,false,false,false] 8 [10] [(35,Sl jw qi jt),(36,.f (.func 64) [] [.p 3 0]),(38,I ((gi aJ aG).1)),(39,I fF),(42,.f (.func 64) [] [.p 3 0]),(44,I ((gi aJ aG).2)),(45,I lS)] fun a hS=>(only 5 kr (by rfl) (gJ (fi:=[]) (cp:=[.p 3 0]) hS kr kr hb64 kr kr (R8 _ _ ((gi aJ aG).1) fF s_ (Z 3) 3 (hS.cell (id:=3) (t:=61) (cs:=[I s_.Ops,I s_.ab]) kr) ⟨by decide,by decide⟩) ?_))
       intro v148 a HM Hh hE hp hS
       replace hO:=hO.m2 hE
       replace hD:=hD.ev hE rfl
       have ⟨h143,h144⟩:=e2e hE h143.m2 h144.m1
       obtain ⟨hp,KF⟩:=hp
       generalize hr:eA ((gi aJ aG).1) fF s_=fQ at hp
       replace hm:=hm fQ hr
       subst hp
       replace hS:=hS.cZ (id:=3) (t:=61) (cs:=[I s_.Ops,I s_.ab]) kr KF
       clear KF
       replace hS:=hS.sle [] [(40,I fQ)]
       refine cm (br.of hS (bks:=[3,9]) kr hD) ?_
       intro hH
       refine tke T [6] [3,9] hS hH #[true,true,true,true,true,true,true,true,true,true,true,false,false,false,false,false,false] 6 [36,38,39,40] [(41,I (wR (0 - fQ)))] fun a hS=>(only 11 kr (by rfl) (gJ (fi:=[]) (cp:=[.p 3 0]) hS kr kr hb64 kr kr (R8 _ _ ((gi aJ aG).2) lS s_ (Z 3) 3 (hS.cell (id:=3) (t:=61) (cs:=[I s_.Ops,I s_.ab]) kr) ⟨by decide,by decide⟩) ?_))
       intro v153 a Cw D1 hE hp hS
       replace hO:=hO.m2 hE
       replace hD:=hD.ev hE rfl
       have ⟨h143,h144⟩:=e2e hE h143.m2 h144.m1
       obtain ⟨hp,KE⟩:=hp
       generalize hr:eA ((gi aJ aG).2) lS s_=ox at hp
       replace hm:=hm ox hr
       subst hp
       replace hS:=hS.cZ (id:=3) (t:=61) (cs:=[I s_.Ops,I s_.ab]) kr KE
       clear KE
       replace hS:=hS.sle [] [(46,I ox)]
       refine cm (br.of hS (bks:=[3,9]) kr hD) ?_
       intro hH
       refine tke T [12] [3,9] hS hH #[true,true,true,true,true,true,true,true,true,true,true,true,true,false,false,false,false] 4 [42,44,45,46] [(47,I (wR (0 - ox)))] fun a hS=>(only 13 kr (by rfl) (lit (E:=3) (col:=0) (T:=tI) (vals:=[ii (wR (0 - fQ)),ii (wR (0 - ox))]) (ys:=[wR (0 - fQ),wR (0 - ox)]) T hS kr kr kr kr (by exact ⟨rfl,rfl,trivial⟩) rfl kr kr kr kr ?_))
       intro b158 a EA NU hE h161 hN hS
       clear hN
       replace hO:=hO.m2 hE
       replace hD:=hD.ev hE rfl
       have ⟨h143,h144⟩:=e2e hE h143.m2 h144.m1
       replace h161:=h161.rs0
       refine cm (br.of hS (bks:=[3,9]) kr hD) ?_
       intro hH
       refine only 14 kr (by rfl) (lit (E:=79) (col:=0) (T:=(aA tI)) (vals:=[.slice (some ⟨b158,0,none⟩) [wR (0 - fQ),wR (0 - ox)].length 2]) (ys:=[[wR (0 - fQ),wR (0 - ox)]]) T hS kr kr kr kr (by exact ⟨⟨(some ⟨b158,0,none⟩),2,rfl,h161⟩,trivial⟩) rfl kr kr kr kr ?_)
       intro b162 a yY AL hE h165 hN hS
       clear hN
       replace hO:=hO.m2 hE
       replace hD:=hD.ev hE rfl
       have ⟨h143,h144,h161⟩:=e3e hE h143.m2 h144.m1 h161.m1
       replace h165:=h165.rs0
       refine cm (br.of hS (bks:=[3,9]) kr hD) ?_
       intro hH
       obtain ⟨hq,hm⟩:=hm
       obtain ⟨news,hN⟩:=h165.src
       refine only 15 kr (by rfl) (append (E:=79) (T:=(aA tI)) (col:=1005) (xs:=qi) T hS kr kr kr kr h143 hN kr kr kr kr hq ?_)
       intro NP NK a OC NS hE h168 hS
       clear hq hN
       clear h143
       replace hO:=hO.m2 hE
       replace hD:=hD.ev hE rfl
       have ⟨h144,h161,h165⟩:=e3e hE h144.m1 h161.m1 h165.m1
       replace hS:=hS.sle [6,35] [(50,Sl NP (qi++[[wR (0 - fQ),wR (0 - ox)]]) NK)]
       refine cm (br.of hS (bks:=[3,9]) kr hD) ?_
       intro hH
       refine tke T [16] [3,9] hS hH (tts 17) 0 [41,47,48,49,50] [(6,Sl NP (qi++[[wR (0 - fQ),wR (0 - ox)]]) NK)] fun a hS=>(bn kr ?_)
       replace hS:=hS.sle [] []
       refine region (ePe T hS [] [(32,I (wR (lS+1)))] fun a hS=>?_)
       exact ⟨⟨qi++[[wR (0 - fQ),wR (0 - ox)]],wR (lS+1)⟩,⟨Z,_,NP,NK,hm.1,hS.sl _,hO,h168,h144⟩,hm.2⟩
      replace hm:=hm.2 hb
      refine cl (by rfl) ?_
      exact ⟨Z,_,qi,jw,jt,hm,hS.sl _,hO,h143,h144⟩
     rintro a HK ⟨Z,Rs,lB,qd,p8,hm,hS,hO,h138,h139⟩
     unfold VC21_J3 at hm
     refine region (ePe T hS [] [(28,I (wR (fF+1)))] fun a hS=>?_)
     exact ⟨⟨lB,wR (fF+1)⟩,⟨Z,_,qd,p8,hm.1,hS.sl _,hO,h138,h139⟩,hm.2⟩
    replace hm:=hm.2 hb
    refine cl (by rfl) ?_
    exact ⟨Z,_,tU,uj,ug,hm,hS.sl _,hO,h132,h133⟩
   rintro a HI ⟨Z,JJ,fI,nN,nM,hm,hS,hO,h120,h121⟩
   unfold VC21_J2 at hm
   refine region (ePe T hS [] [(17,I (wR (aG+1)))] fun a hS=>?_)
   exact ⟨⟨fI,wR (aG+1)⟩,⟨Z,_,nN,nM,hm.1,hS.sl _,hO,h120,h121⟩,hm.2⟩
  replace hm:=hm.2 hb
  refine cl (by rfl) ?_
  exact ⟨Z,_,bO,du,dq,hm,hS.sl _,hO,h114⟩
 rintro a SM ⟨Z,VD,cN,dV,dU,hm,hS,hO,h108⟩
 unfold VC21_J1 at hm
 refine rPe T hS [6] [(4,Sl dV cN dU)] fun a hS=>(aR ?_)
 obtain ⟨tN,hE,hF⟩:=h108.freeze (by decide)
 replace hS:=hS.ev hE (cq kr)
 replace hO:=hO.m2 hE
 have h110:=hF; clear hE hF
 exact fin T hS hO (fun c=>c) rfl (r:=[.slice dV cN.length dU]) kr (fun X' hM hC=>⟨cN,hm,dV,dU,rfl,h110.m0 hM⟩)
theorem C21 (mi:S59) (R8:S64) (TB:S66) (v:∀ (s_:aa) (aJ:List (Int × Int)),r9 s_ aJ->VC21 s_ aJ (fun r=>r=cH s_ aJ)):S21:=fun w X s_ aJ a1 c1 hp h1=>mo1 (W21 mi R8 TB w X s_ aJ a1 c1 _ (v s_ aJ hp) h1)
theorem W68 (oG:S65) (w0) (X0) (s_:aa) (a_:Int) (b_:Int) (Q:Int->Prop) (hm:VC68 s_ a_ b_ Q) :
  rt 68 #[.agg #[ii s_.Ops,ii s_.ab],ii a_,ii b_] aB w0 X0 (fun w X' v=>∃ r,Q r/\v=ii r):=by
 unfold VC68 at hm
 refine enter Tryz.func68 rfl (vals:=[.agg #[ii s_.Ops,ii s_.ab],ii a_,ii b_]) kr ?_
 intro Z a hS hO hM
 refine rM T hS ⟨[(1,I a_),(2,I b_),(3,Pt 4 0)],[(4,(61,[I s_.Ops,I s_.ab]))]⟩ fun Z a qj oW hS hE hr=>?_
 replace hO:=hO.m2 hE
 clear hE hr
 refine bk (oP T hS 4 ⟨[(7,V (.agg #[ii s_.Ops,ii s_.ab])),(10,V (.agg #[ii 3,ii a_,ii b_]))],[]⟩ fun a hS=>?_)
 refine op1 (call hS kr kr hb65 kr (fun _ _=>rfl) (oG _ _ s_ (⟨3,a_,b_⟩:aW)) ?_)
 intro v101 a eI eN hE hp hS
 replace hO:=hO.m2 hE
 generalize hr:bd s_ (⟨3,a_,b_⟩:aW)=al at hp
 replace hm:=hm al hr
 subst hp
 refine ePe T hS [7,10,11] [(6,I al)] fun a hS=>(aR ?_)
 exact fin T hS hO (fun c=>c) rfl (r:=[ii al]) kr (fun X' hM hC=>⟨_,hm,rfl⟩)
theorem C68 (oG:S65) (v:∀ (s_:aa) (a_:Int) (b_:Int),VC68 s_ a_ b_ (fun r=>r=bL s_ a_ b_)):S68:=fun w X s_ a_ b_=>mo1 (W68 oG w X s_ a_ b_ _ (v s_ a_ b_))
theorem W70 (FU:S68) (w0) (X0) (b_:Int) (aj:aa) (aX:Int) (b1) (i1) (b2) (i2) (Q:Int->Prop) (hm:VC70 b_ aj aX Q) (eO:Cell w0 X0 b1 i1 61 [ii aj.Ops,ii aj.ab]) (lz:Cell w0 X0 b2 i2 3 [ii aX]) (hA:dL [i1,i2]) :
  rt 70 #[ii b_,.pointer (some ⟨b1,0,none⟩),.pointer (some ⟨b2,0,none⟩)] (pR [i1,i2]) w0 X0 (fun w X' v=>∃ r,Q r/\v=ii r/\Cell w X' b1 i1 61 [ii aj.Ops,ii aj.ab]/\Cell w X' b2 i2 3 [ii aX]):=by
 unfold VC70 at hm
 refine fO Tryz.func70 rfl (eH [(i1,901),(i2,902)]) (zi2 b1 b2) (args:=[I b_,Pt 901 0,Pt 902 0]) (bxs:=[(901,(61,[I aj.Ops,I aj.ab])),(902,(3,[I aX]))]) kr rfl (aY.cons kr (eO.map (cr 0 hA.1 rfl)) (aY.cons kr (lz.map (cr 1 hA.1 rfl)) aY.nil)) (fC (fun q hq=>(hA.2 q.1 (List.mem_map.2 ⟨q,hq,rfl⟩)).1)) ?_
 intro a hS hO hM
 have hP:=pn2 b1 b2
 generalize (zi2 b1 b2)=Z at hS hP
 clear eO lz
 refine rPe T hS [] [] fun a hS=>(bk ?_)
 refine oPe T hS 3 [0,1,2] [(5,V (.agg #[ii aj.Ops,ii aj.ab])),(6,I aX),(7,I b_)] fun a hS=>(op1 (call hS kr kr hb68 kr (fun _ _=>rfl) (FU _ _ aj aX b_) ?_))
 intro v101 a eI eN hE hp hS
 replace hO:=hO.m2 hE
 generalize hr:bL aj aX b_=al at hp
 replace hm:=hm al hr
 subst hp
 refine ePe T hS [5,6,7,8] [(4,I al)] fun a hS=>(aR ?_)
 exact jP T hS hO (fun c h=>cw kr h) (fun c h=>cz (l:=[(i1,901),(i2,902)]) h) (dC [(i1,901),(i2,902)]) rfl (r:=[ii al]) kr (fun X' hM hC=>⟨_,hm,rfl,((hS.cell (id:=901) (t:=61) (cs:=[I aj.Ops,I aj.ab]) kr).out (f:=(dC [(i1,901),(i2,902)])) hC kr kr (hP.at 0 rfl)),((hS.cell (id:=902) (t:=3) (cs:=[I aX]) kr).out (f:=(dC [(i1,901),(i2,902)])) hC kr kr (hP.at 1 rfl))⟩)
theorem C70 (FU:S68) (v:∀ (b_:Int) (aj:aa) (aX:Int),VC70 b_ aj aX (fun r=>r=fg b_ aj aX)):S70:=fun w X b_ aj aX b1 i1 b2 i2 eO lz hA=>mo1 (W70 FU w X b_ aj aX b1 i1 b2 i2 _ (v b_ aj aX) eO lz hA)
theorem W69_70 (TA:S70) (w0) (X0) (n_:Int) (aj:aa) (aX:Int) (b1) (i1) (b2) (i2) (Q:(List Int)->Prop) (hm:VC69_70 n_ aj aX Q) (eO:Cell w0 X0 b1 i1 61 [ii aj.Ops,ii aj.ab]) (lz:Cell w0 X0 b2 i2 3 [ii aX]) (hA:dL [i1,i2]) :
  rt 69 #[ii n_,.func (.func 70) #[] #[.pointer (some ⟨b1,0,none⟩),.pointer (some ⟨b2,0,none⟩)]] (pR [i1,i2]) w0 X0 (fun w X' v=>∃ r,Q r/\∃ dg de,v=.slice dg r.length de/\RS tI w X' dg r de/\Cell w X' b1 i1 61 [ii aj.Ops,ii aj.ab]/\Cell w X' b2 i2 3 [ii aX]):=by
 unfold VC69_70 at hm
 refine fO Tryz.func69 rfl (eH [(i1,901),(i2,902)]) (zi2 b1 b2) (args:=[I n_,.f (.func 70) [] [.p 901 0,.p 902 0]]) (bxs:=[(901,(61,[I aj.Ops,I aj.ab])),(902,(3,[I aX]))]) kr rfl (aY.cons kr (eO.map (cr 0 hA.1 rfl)) (aY.cons kr (lz.map (cr 1 hA.1 rfl)) aY.nil)) (fC (fun q hq=>(hA.2 q.1 (List.mem_map.2 ⟨q,hq,rfl⟩)).1)) ?_
 intro a hS hO hM
 have hP:=pn2 b1 b2
 generalize (zi2 b1 b2)=Z at hS hP
 clear eO lz
 refine rPe T hS [] [] fun a hS=>(bk ?_)
 refine oPe T hS 1 [0] [(7,I n_)] fun a hS=>?_
 obtain ⟨hq,hm⟩:=hm
 refine op1 (make (E:=3) (kl:=.i64) (kc:=.i64) (col:=1005) (T:=tI) T 0 hS kr kr kr kr kr kr hq.1 hq.2.1 (by have:=hq.2.2; have e_:((tI.bytes:Nat):Int)=8:=rfl; rw [e_]; omega) (by have:=hq.2.2; omega) (fun _ _=>rfl) ?_)
 intro b101 a eI eN hE h104 hN hS
 clear hq hN
 replace hO:=hO.m2 hE
 replace hS:=hS.conv (t:=8) (y:=.slice (some ⟨b101,0,none⟩) (List.replicate n_.toNat (0:Int)).length n_.toNat) kr (by rw [List.length_replicate])
 refine ePe T hS [7,8] [(5,V (.slice (some ⟨b101,0,none⟩) (List.replicate n_.toNat (0:Int)).length n_.toNat))] fun a hS=>(cg (fun a w=>∃ Z X,∃ (cN:List Int) (dV:Option Addr) (dU:Nat),VC69_70_J1 Q cN/\St Tryz.f69.ntmps ⟨[(5,Sl dV cN dU)],[(901,(61,[I aj.Ops,I aj.ab])),(902,(3,[I aX]))]⟩ Z a w X/\iR (eH [(i1,901),(i2,902)]) w0 X0 w X/\Pin [(901,b1),(902,b2)] Z/\OS tI 3 w X 1005 dV cN dU) ?_ ?_)
 ·refine rPe T hS [] [(10,I (lN (List.replicate n_.toNat (0:Int)))),(11,I 0)] fun a hS=>(aH ?_)
  obtain ⟨I1,μ1,cC,hm⟩:=hm
  refine cu (σ:=(List Int) × Int) (fun s a w=>∃ Z X du dq,I1 s.1 s.2/\St Tryz.f69.ntmps ⟨[(1,.f (.func 70) [] [.p 901 0,.p 902 0]),(5,Sl du s.1 dq),(10,I (lN (List.replicate n_.toNat (0:Int)))),(11,I s.2)],[(901,(61,[I aj.Ops,I aj.ab])),(902,(3,[I aX]))]⟩ Z a w X/\iR (eH [(i1,901),(i2,902)]) w0 X0 w X/\Pin [(901,b1),(902,b2)] Z/\OS tI 3 w X 1005 du s.1 dq) (fun s=>μ1 s.1 s.2) (⟨List.replicate n_.toNat (0:Int),0⟩) ?_ ?_
  ·exact ⟨Z,_,(some ⟨b101,0,none⟩),n_.toNat,cC,hS.sl _,hO,hP,h104⟩
  rintro ⟨bO,ba⟩ a EC ⟨Z,AN,du,dq,hI,hS,hO,hP,h114⟩
  replace hm:=hm bO ba hI
  clear hI cC
  refine rPe T hS [] [(12,B (decide (ba < (lN (List.replicate n_.toNat (0:Int))))))] fun a hS=>(a8 ?_)
  refine aC hS (b:=decide (ba < (lN (List.replicate n_.toNat (0:Int))))) kr (fun hb=>?_) fun hb=>?_
  ·replace hm:=hm.1 hb
   refine aI (a8 ?_)
   refine aH (rPe T hS [12] [(6,I ba)] fun a hS=>?_)
   refine region (oPe T hS 4 [6] [(14,Sl du bO dq),(15,I ba),(16,.f (.func 70) [] [.p 901 0,.p 902 0]),(17,I ba)] fun a hS=>?_)
   refine op1 (gJ (fi:=[]) (cp:=[.p 901 0,.p 902 0]) hS kr kr hb70 kr kr (TA _ _ ba aj aX (Z 901) 901 (Z 902) 902 (hS.cell (id:=901) (t:=61) (cs:=[I aj.Ops,I aj.ab]) kr) (hS.cell (id:=902) (t:=3) (cs:=[I aX]) kr) ⟨by decide,by decide⟩) ?_)
   intro v116 a y5 yP hE hp hS
   have ⟨hO,h114⟩:=e2e hE hO.m2 h114.m2
   obtain ⟨hp,ya,KM⟩:=hp
   generalize hr:fg ba aj aX=cY at hp
   replace hm:=hm cY hr
   subst hp
   replace hS:=hS.cZ (id:=901) (t:=61) (cs:=[I aj.Ops,I aj.ab]) kr ya
   replace hS:=hS.cZ (id:=902) (t:=3) (cs:=[I aX]) kr KM
   clear ya KM
   obtain ⟨xW,hm⟩:=hm
   refine op1 (iC (E:=3) (k:=.i64) T hS kr kr kr kr h114 kr kr xW.1 xW.2 ?_)
   intro Hq a h124 h123 hS
   refine op1 (mR (x:=cY) (v:=I cY) (i:=ba.toNat) (E:=3) (xs:=bO) T hS kr kr kr kr h114 h124 (by have:=xW.1; have:=xW.2; omega) kr (fun _ _ _=>rfl) ?_)
   intro a Cz hE h127 hS
   clear h114 h124 h123 xW
   replace hO:=hO.m2 hE
   replace hS:=hS.conv (t:=5) (y:=.slice du (bO.set ba.toNat cY).length dq) kr (by rw [List.length_set])
   replace hS:=hS.conv (t:=14) (y:=.slice du (bO.set ba.toNat cY).length dq) kr (by rw [List.length_set])
   refine gM (region (ePe T hS [] [(11,I (wR (ba+1)))] fun a hS=>?_))
   exact ⟨⟨(bO.set ba.toNat cY),wR (ba+1)⟩,⟨Z,_,du,dq,hm.1,hS.sl _,hO,hP,h127⟩,hm.2⟩
  replace hm:=hm.2 hb
  refine cl (by rfl) ?_
  exact ⟨Z,_,bO,du,dq,hm,hS.sl _,hO,hP,h114⟩
 rintro a yZ ⟨Z,JQ,cN,dV,dU,hm,hS,hO,hP,h108⟩
 unfold VC69_70_J1 at hm
 refine rPe T hS [5] [(4,Sl dV cN dU)] fun a hS=>(aR ?_)
 obtain ⟨tN,hE,hF⟩:=h108.freeze (by decide)
 replace hS:=hS.ev hE (cq kr)
 replace hO:=hO.m2 hE
 have h110:=hF; clear hE hF
 exact jP T hS hO (fun c h=>cw kr h) (fun c h=>cz (l:=[(i1,901),(i2,902)]) h) (dC [(i1,901),(i2,902)]) rfl (r:=[.slice dV cN.length dU]) kr (fun X' hM hC=>⟨cN,hm,dV,dU,rfl,h110.m0 hM,((hS.cell (id:=901) (t:=61) (cs:=[I aj.Ops,I aj.ab]) kr).out (f:=(dC [(i1,901),(i2,902)])) hC kr kr (hP.at 0 rfl)),((hS.cell (id:=902) (t:=3) (cs:=[I aX]) kr).out (f:=(dC [(i1,901),(i2,902)])) hC kr kr (hP.at 1 rfl))⟩)
theorem C69_70 (TA:S70) (v:∀ (n_:Int) (aj:aa) (aX:Int),px n_ aj aX->VC69_70 n_ aj aX (fun r=>r=bD n_ aj aX)):S69_70:=fun w X n_ aj aX b1 i1 b2 i2 hp eO lz hA=>mo1 (W69_70 TA w X n_ aj aX b1 i1 b2 i2 _ (v n_ aj aX hp) eO lz hA)
theorem W23 (mi:S59) (Kd:S62) (FU:S68) (zQ:S69_70) (w0) (X0) (s_:aa) (init:Int) (Q:(List (List Int))->Prop) (hm:VC23 s_ init Q) :
  rt 23 #[.agg #[ii s_.Ops,ii s_.ab],ii init] aB w0 X0 (fun w X' v=>∃ r,Q r/\∃ dg de,v=.slice dg r.length de/\RS (aA tI) w X' dg r de):=by
 unfold VC23 at hm
 refine enter Tryz.func23 rfl (vals:=[.agg #[ii s_.Ops,ii s_.ab],ii init]) kr ?_
 intro Z a hS hO hM
 refine rM T hS ⟨[(1,I init),(2,Pt 3 0)],[(3,(61,[I s_.Ops,I s_.ab]))]⟩ fun Z a SO VI hS hE hr=>?_
 replace hO:=hO.m2 hE
 clear hE hr
 refine a8 (bk ?_)
 refine oPe T hS 1 [] [(8,V (.agg #[ii s_.Ops,ii s_.ab]))] fun a hS=>(op1 (call hS kr kr hb59 kr (fun _ _=>rfl) (mi _ _ s_) ?_))
 intro v101 a eI eN hE hp hS
 replace hO:=hO.m2 hE
 generalize hr:ao s_=al at hp
 replace hm:=hm al hr
 subst hp
 refine ePe T hS [8,9] [(20,B (((al != 0) || (decide (init < 0))) || (decide (init≥s_.ab))))] (sp:=[11,15]) fun a hS=>(aC hS (b:=(((al != 0) || (decide (init < 0))) || (decide (init≥s_.ab)))) kr (fun hb=>?_) fun hb=>?_)
 ·replace hm:=hm.1 hb
  refine rP T hS ⟨[(4,V (.slice none 0 0))],[]⟩ fun a hS=>(aR ?_)
  exact fin T hS hO (fun c=>c) rfl (r:=[.slice none 0 0]) kr (fun X' hM hC=>⟨[],hm,none,0,rfl,RS.empty _ _ _⟩)
 replace hm:=hm.2 hb
 refine aI (bk ?_)
 refine oPe T hS 2 [1,20] [(21,V (.agg #[ii s_.Ops,ii s_.ab])),(22,I init)] fun a hS=>(op1 (call hS kr kr hb68 kr (fun _ _=>rfl) (FU _ _ s_ 0 init) ?_))
 intro v105 a o9 qf hE hp hS
 replace hO:=hO.m2 hE
 generalize hr:bL s_ 0 init=bu at hp
 replace hm:=hm bu hr
 subst hp
 refine op1 (lit (E:=3) (col:=0) (T:=tI) (vals:=[ii bu]) (ys:=[bu]) T hS kr kr kr kr (by exact ⟨rfl,trivial⟩) rfl kr kr kr kr ?_)
 intro b109 a EG AQ hE h112 hN hS
 clear hN
 replace hO:=hO.m2 hE
 replace h112:=h112.rs0
 refine op1 (lit (E:=79) (col:=1005) (T:=(aA tI)) (vals:=[.slice (some ⟨b109,0,none⟩) [bu].length 1]) (ys:=[[bu]]) T hS kr kr kr kr (by exact ⟨⟨(some ⟨b109,0,none⟩),1,rfl,h112⟩,trivial⟩) rfl kr kr kr kr ?_)
 intro b113 a HQ N4 hE h116 hN hS
 clear hN
 have ⟨hO,h112⟩:=e2e hE hO.m2 h112.m1
 refine ePe T hS [21,22,23,24,25] [(5,Sl (some ⟨b113,0,none⟩) [[bu]] 1)] fun a hS=>(cg (fun a w=>∃ Z X,∃ (fI:List (List Int)) (nN:Option Addr) (nM:Nat),VC23_J1 Q fI/\St Tryz.f23.ntmps ⟨[(5,Sl nN fI nM)],[]⟩ Z a w X/\Old w0 X0 w X/\OS (aA tI) 79 w X 1005 nN fI nM) ?_ ?_)
 ·refine rPe T hS [] [(28,I (wR (s_.Ops+1))),(29,I 0)] fun a hS=>(aH ?_)
  obtain ⟨I1,μ1,cC,hm⟩:=hm
  refine cu (σ:=(List (List Int)) × Int) (fun s a w=>∃ Z X iG iE,I1 s.1 s.2/\St Tryz.f23.ntmps ⟨[(2,Pt 3 0),(5,Sl iG s.1 iE),(28,I (wR (s_.Ops+1))),(29,I s.2)],[(3,(61,[I s_.Ops,I s_.ab]))]⟩ Z a w X/\Old w0 X0 w X/\OS (aA tI) 79 w X 1005 iG s.1 iE) (fun s=>μ1 s.1 s.2) (⟨[[bu]],0⟩) ?_ ?_
  ·exact ⟨Z,_,(some ⟨b113,0,none⟩),1,cC,hS.sl _,hO,h116⟩
  rintro ⟨gz,bP⟩ a OF ⟨Z,NU,iG,iE,hI,hS,hO,h126⟩
  replace hm:=hm gz bP hI
  clear hI cC
  refine rPe T hS [] [(30,B (decide (bP < (wR (s_.Ops+1)))))] fun a hS=>(a8 ?_)
  refine aC hS (b:=decide (bP < (wR (s_.Ops+1)))) kr (fun hb=>?_) fun hb=>?_
  ·replace hm:=hm.1 hb
   refine aI (a8 ?_)
   refine aH (rM T hS ⟨[(2,Pt 3 0),(5,Sl iG gz iE),(6,Pt 7 0),(28,I (wR (s_.Ops+1))),(29,I bP)],[(3,(61,[I s_.Ops,I s_.ab])),(7,(3,[I bP]))]⟩ fun Z a SP VJ hS hE hr=>?_)
   have ⟨hO,h126⟩:=e2e hE hO.m2 h126.m2
   clear hE hr
   refine bk (oPe T hS 3 [6] [(33,I s_.ab),(34,.f (.func 70) [] [.p 3 0,.p 7 0])] fun a hS=>?_)
   obtain ⟨hq,hm⟩:=hm
   refine op1 (pY hS kr kr hb69 kr (zQ _ _ s_.ab s_ bP (Z 3) 3 (Z 7) 7 hq (hS.cell (id:=3) (t:=61) (cs:=[I s_.Ops,I s_.ab]) kr) (hS.cell (id:=7) (t:=3) (cs:=[I bP]) kr) ⟨by decide,by decide⟩) ?_)
   intro v128 a EC JQ hE hp hS
   have ⟨hO,h126⟩:=e2e hE hO.m2 h126.m2
   obtain ⟨qe,p9,hp,h134,KI,KH⟩:=hp
   obtain ⟨eu,hr⟩:∃ r,bD s_.ab s_ bP=r:=⟨_,rfl⟩
   replace hm:=hm eu hr
   rw [hr] at hp h134
   clear hr
   subst hp
   replace hm:=hm (h134.sm kr)
   replace hS:=hS.cZ (id:=3) (t:=61) (cs:=[I s_.Ops,I s_.ab]) kr KI
   replace hS:=hS.cZ (id:=7) (t:=3) (cs:=[I bP]) kr KH
   clear KI KH
   refine eP T hS ⟨[(2,Pt 3 0),(5,Sl iG gz iE),(7,Sl qe eu p9),(28,I (wR (s_.Ops+1))),(29,I bP)],[(3,(61,[I s_.Ops,I s_.ab]))]⟩ fun a hS=>(region ?_)
   refine oPe T hS 2 [] [(36,Sl iG gz iE),(37,Sl qe eu p9)] fun a hS=>(op1 (lit (E:=79) (col:=0) (T:=(aA tI)) (vals:=[.slice qe eu.length p9]) (ys:=[eu]) T hS kr kr kr kr (by exact ⟨⟨qe,p9,rfl,h134⟩,trivial⟩) rfl kr kr kr kr ?_))
   intro b137 a Cy AM hE h140 hN hS
   clear hN
   have ⟨hO,h126,h134⟩:=e3e hE hO.m2 h126.m2 h134.m1
   replace h140:=h140.rs0
   obtain ⟨hq,hm⟩:=hm
   obtain ⟨news,hN⟩:=h140.src
   refine op1 (append (E:=79) (T:=(aA tI)) (col:=1005) (xs:=gz) T hS kr kr kr kr h126 hN kr kr kr kr hq ?_)
   intro lv lq a Lt NY hE h143 hS
   clear hq hN
   clear h126
   have ⟨hO,h134,h140⟩:=e3e hE hO.m2 h134.m1 h140.m1
   refine oPe T hS 1 [7,37,38] [(40,Sl qe eu p9)] fun a hS=>?_
   obtain ⟨hq,hm⟩:=hm
   refine op1 (call hS kr kr hb62 kr (fun _ _=>rfl) (Kd _ _ eu qe p9 hq h134) ?_)
   intro v146 a YV acB hE hp hS
   have ⟨hO,h134,h143⟩:=e3e hE hO.m2 h134.m1 h143.m2
   obtain ⟨DY,DM,hp,h152⟩:=hp
   obtain ⟨vU,hr⟩:∃ r,dD eu=r:=⟨_,rfl⟩
   replace hm:=hm vU hr
   rw [hr] at hp h152
   clear hr
   subst hp
   replace hm:=hm (h152.sm kr)
   obtain ⟨hq,hm⟩:=hm
   obtain ⟨news,hN⟩:=h152.src
   refine op1 (append (E:=79) (T:=(aA tI)) (col:=1005) (xs:=gz++[eu]) T hS kr kr kr kr h143 hN kr kr kr kr hq ?_)
   intro Rl Q6 a Lq Ry hE h155 hS
   clear hq hN
   clear h143
   have ⟨hO,h134,h152⟩:=e3e hE hO.m2 h134.m1 h152.m1
   refine ePe T hS [40,41,42] [(5,Sl Rl ((gz++[eu])++vU) Q6)] fun a hS=>(region (ePe T hS [] [(29,I (wR (bP+1)))] fun a hS=>?_))
   exact ⟨⟨(gz++[eu])++vU,wR (bP+1)⟩,⟨Z,_,Rl,Q6,hm.1,hS.sl _,hO,h155⟩,hm.2⟩
  replace hm:=hm.2 hb
  refine cl (by rfl) ?_
  exact ⟨Z,_,gz,iG,iE,hm,hS.sl _,hO,h126⟩
 rintro a yY ⟨Z,NT,fI,nN,nM,hm,hS,hO,h120⟩
 unfold VC23_J1 at hm
 refine rPe T hS [5] [(4,Sl nN fI nM)] fun a hS=>(aR ?_)
 obtain ⟨JR,hE,hF⟩:=h120.freeze (by decide)
 replace hS:=hS.ev hE (cq kr)
 replace hO:=hO.m2 hE
 have h122:=hF; clear hE hF
 exact fin T hS hO (fun c=>c) rfl (r:=[.slice nN fI.length nM]) kr (fun X' hM hC=>⟨fI,hm,nN,nM,rfl,h122.m0 hM⟩)
theorem C23 (mi:S59) (Kd:S62) (FU:S68) (zQ:S69_70) (v:∀ (s_:aa) (init:Int),VC23 s_ init (fun r=>r=cb s_ init)):S23:=fun w X s_ init=>mo1 (W23 mi Kd FU zQ w X s_ init _ (v s_ init))
theorem W72 (L7:S38) (w0) (X0) (t_:eF) (x_:ae) (state:Int) (a1) (c1) (Q:Int × Bool->Prop) (hm:VC72 t_ x_ state Q) (h1:RS aF w0 X0 a1 t_.o.Rows c1) :
  rt 72 #[.agg #[ii t_.o.ab,ii t_.o.aP,ii t_.o.aU,.slice a1 t_.o.Rows.length c1],.agg #[ii x_.Prc,ii x_.Kind,ii x_.aN,ii x_.End,ii x_.Result],ii state] aB w0 X0 (fun w X' v=>∃ r,Q r/\v=.tuple #[ii r.1,.bool r.2]):=by
 unfold VC72 at hm
 replace hm:=hm (h1.sm kr)
 refine enter Tryz.func72 rfl (vals:=[.agg #[ii t_.o.ab,ii t_.o.aP,ii t_.o.aU,.slice a1 t_.o.Rows.length c1],.agg #[ii x_.Prc,ii x_.Kind,ii x_.aN,ii x_.End,ii x_.Result],ii state]) kr ?_
 intro Z a hS hO hM
 replace h1:=h1.m0 hM
 refine rM T hS ⟨[(2,I state),(3,Pt 4 0),(4,Pt 5 0)],[(4,(152,(cO t_.o a1 c1))),(5,(91,[I x_.Prc,I x_.Kind,I x_.aN,I x_.End,I x_.Result]))]⟩ fun Z a qj oW hS hE hr=>?_
 have ⟨hO,h1⟩:=e2e hE hO.m2 h1.m1
 clear hE hr
 refine bk (oP T hS 5 ⟨[(4,Pt 5 0),(13,V (.agg #[ii t_.o.ab,ii t_.o.aP,ii t_.o.aU,.slice a1 t_.o.Rows.length c1])),(14,I state),(16,I x_.Kind)],[(5,(91,[I x_.Prc,I x_.Kind,I x_.aN,I x_.End,I x_.Result]))]⟩ fun a hS=>?_)
 refine op1 (call hS kr kr hb38 kr (fun _ _=>rfl) (L7 _ _ t_.o state x_.Kind a1 c1 h1) ?_)
 intro v101 a eI eN hE hp hS
 have ⟨hO,h1⟩:=e2e hE hO.m2 h1.m1
 generalize hr:eQ t_.o state x_.Kind=al at hp
 replace hm:=hm al hr
 subst hp
 refine ePe T hS [13,14,16,17] [(8,I al.1),(9,I al.2.1),(10,B al.2.2)] fun a hS=>(a8 ?_)
 refine rP T hS ⟨[(8,I al.1),(33,B ((!al.2.2) || ((x_.End != (-1)) && (x_.Result != al.2.1))))],[]⟩ (sp:=[23,27]) fun a hS=>(aC hS (b:=((!al.2.2) || ((x_.End != (-1)) && (x_.Result != al.2.1)))) kr (fun hb=>?_) fun hb=>?_)
 ·replace hm:=hm.1 hb
  refine rPe T hS [8,33] [(6,I 0),(7,B false)] fun a hS=>(aR ?_)
  exact fin T hS hO (fun c=>c) rfl (r:=[ii 0,.bool false]) kr (fun X' hM hC=>⟨_,hm,rfl⟩)
 replace hm:=hm.2 hb
 refine aI (rPe T hS [8,33] [(6,I al.1),(7,B true)] fun a hS=>?_)
 refine aR ?_
 exact fin T hS hO (fun c=>c) rfl (r:=[ii al.1,.bool true]) kr (fun X' hM hC=>⟨_,hm,rfl⟩)
theorem C72 (L7:S38) (v:∀ (t_:eF) (x_:ae) (state:Int),VC72 t_ x_ state (fun r=>r=dI t_ x_ state)):S72:=fun w X t_ x_ state a1 c1 h1=>mo1 (W72 L7 w X t_ x_ state a1 c1 _ (v t_ x_ state) h1)
theorem W71 (w0) (X0) (s_:aa) (gx) (Q:aa->Prop) (hm:VC71 s_ Q) :
  rt 71 #[.agg #[ii s_.Ops,ii s_.ab]] aB w0 X0 (fun w X' v=>∃ r,Q r/\∃ O4,v=.func (.func 117) #[] #[.pointer (some ⟨O4,0,none⟩)]/\Cell w X' O4 gx 61 [ii r.Ops,ii r.ab]):=by
 unfold VC71 at hm
 refine enter Tryz.func71 rfl (vals:=[.agg #[ii s_.Ops,ii s_.ab]]) kr ?_
 intro Z a hS hO hM
 refine rM T hS ⟨[(1,Pt 2 0)],[(2,(61,[I s_.Ops,I s_.ab]))]⟩ fun Z a pa qg hS hE hr=>?_
 replace hO:=hO.m2 hE
 clear hE hr
 refine rPe T hS [1] [(2,.f (.func 117) [] [.p 2 0])] fun a hS=>(aR ?_)
 exact fin T hS hO (zL3c0 gx) rfl (r:=[.func (.func 117) #[] #[.pointer (some ⟨Z 2,0,none⟩)]]) kr (fun X' hM hC=>⟨s_,hm,(Z 2),rfl,((hS.cell (id:=2) (t:=61) (cs:=[I s_.Ops,I s_.ab]) kr).out (f:=(zL3c0 gx)) hC kr kr rfl)⟩)
theorem C71 (v:∀ (s_:aa),VC71 s_ (fun r=>r=iJ s_)):S71:=fun w X s_ gx=>mo1 (W71 w X s_ gx _ (v s_))
theorem W117 (oG:S65) (w0) (X0) (kind:Int) (a_:Int) (b_:Int) (aj:aa) (b1) (i1) (Q:Int->Prop) (hm:VC117 kind a_ b_ aj Q) (eO:Cell w0 X0 b1 i1 61 [ii aj.Ops,ii aj.ab]) (hA:dL [i1]) :
  rt 117 #[ii kind,ii a_,ii b_,.pointer (some ⟨b1,0,none⟩)] (pR [i1]) w0 X0 (fun w X' v=>∃ r,Q r/\v=ii r/\Cell w X' b1 i1 61 [ii aj.Ops,ii aj.ab]):=by
 unfold VC117 at hm
 refine fO Tryz.func117 rfl (eH [(i1,901)]) (zi1 b1) (args:=[I kind,I a_,I b_,Pt 901 0]) (bxs:=[(901,(61,[I aj.Ops,I aj.ab]))]) kr rfl (aY.cons kr (eO.map (cr 0 hA.1 rfl)) aY.nil) (fC (fun q hq=>(hA.2 q.1 (List.mem_map.2 ⟨q,hq,rfl⟩)).1)) ?_
 intro a hS hO hM
 have hP:=pn1 b1
 generalize (zi1 b1)=Z at hS hP
 clear eO
 refine rPe T hS [] [] fun a hS=>(bk ?_)
 refine oPe T hS 5 [0,1,2,3] [(8,V (.agg #[ii aj.Ops,ii aj.ab])),(12,V (.agg #[ii kind,ii a_,ii b_]))] fun a hS=>(op1 (call hS kr kr hb65 kr (fun _ _=>rfl) (oG _ _ aj (⟨kind,a_,b_⟩:aW)) ?_))
 intro v101 a eI eN hE hp hS
 replace hO:=hO.m2 hE
 generalize hr:bd aj (⟨kind,a_,b_⟩:aW)=al at hp
 replace hm:=hm al hr
 subst hp
 refine ePe T hS [8,12,13] [(7,I al)] fun a hS=>(aR ?_)
 exact jP T hS hO (fun c h=>cw kr h) (fun c h=>cz (l:=[(i1,901)]) h) (dC [(i1,901)]) rfl (r:=[ii al]) kr (fun X' hM hC=>⟨_,hm,rfl,((hS.cell (id:=901) (t:=61) (cs:=[I aj.Ops,I aj.ab]) kr).out (f:=(dC [(i1,901)])) hC kr kr (hP.at 0 rfl))⟩)
theorem C117 (oG:S65) (v:∀ (kind:Int) (a_:Int) (b_:Int) (aj:aa),VC117 kind a_ b_ aj (fun r=>r=cI kind a_ b_ aj)):S117:=fun w X kind a_ b_ aj b1 i1 eO hA=>mo1 (W117 oG w X kind a_ b_ aj b1 i1 _ (v kind a_ b_ aj) eO hA)
theorem W24 (zZ:S117) (wo:S34) (mi:S59) (Tz:S71) (L3:S72) (w0) (X0) (o_:ah) (l_:List ae) (a1) (c1) (a2) (c2) (Q:(List (List Int))->Prop) (hm:VC24 o_ l_ Q) (h1:RS aF w0 X0 a1 o_.Rows c1) (h2:RS ar w0 X0 a2 l_ c2) :
  rt 24 #[.agg #[ii o_.ab,ii o_.aP,ii o_.aU,.slice a1 o_.Rows.length c1],.slice a2 l_.length c2] aB w0 X0 (fun w X' v=>∃ r,Q r/\∃ dg de,v=.slice dg r.length de/\RS (aA tI) w X' dg r de):=by
 unfold VC24 at hm
 replace hm:=hm (h1.sm kr)
 replace hm:=hm (h2.sm kr)
 refine enter Tryz.func24 rfl (vals:=[.agg #[ii o_.ab,ii o_.aP,ii o_.aU,.slice a1 o_.Rows.length c1],.slice a2 l_.length c2]) kr ?_
 intro Z a hS hO hM
 replace h1:=h1.m0 hM
 replace h2:=h2.m0 hM
 refine rM T hS ⟨[(1,Sl a2 l_ c2),(2,Pt 3 0)],[(3,(24,(cO o_ a1 c1)))]⟩ fun Z a X7 abN hS hE hr=>?_
 have ⟨hO,h1,h2⟩:=e3e hE hO.m2 h1.m1 h2.m1
 clear hE hr
 refine bk (oPe T hS 2 [] [(19,V (.agg #[ii o_.ab,ii o_.aP,ii o_.aU,.slice a1 o_.Rows.length c1])),(20,Sl a2 l_ c2)] fun a hS=>?_)
 obtain ⟨hq,hm⟩:=hm
 refine op1 (call hS kr kr hb34 kr (fun _ _=>rfl) (wo _ _ o_ l_ a1 c1 a2 c2 hq h1 h2) ?_)
 intro v101 a eI eN hE hp hS
 have ⟨hO,h1,h2⟩:=e3e hE hO.m2 h1.m1 h2.m1
 generalize hr:au o_ l_=al at hp
 replace hm:=hm al hr
 subst hp
 refine eM T hS ⟨[(1,Sl a2 l_ c2),(2,Pt 3 0),(5,Pt 6 0)],[(3,(24,(cO o_ a1 c1))),(6,(61,[I al.Ops,I al.ab]))]⟩ fun Z a X8 abO hS hE hr=>?_
 have ⟨hO,h1,h2⟩:=e3e hE hO.m2 h1.m1 h2.m1
 clear hE hr
 refine a8 (bk ?_)
 refine oPe T hS 1 [] [(22,V (.agg #[ii al.Ops,ii al.ab]))] fun a hS=>(op1 (call hS kr kr hb59 kr (fun _ _=>rfl) (mi _ _ al) ?_))
 intro v105 a o9 qf hE hp hS
 have ⟨hO,h1,h2⟩:=e3e hE hO.m2 h1.m1 h2.m1
 generalize hr:ao al=bu at hp
 replace hm:=hm bu hr
 subst hp
 refine ePe T hS [22,23] [(24,B (bu != 0))] fun a hS=>(aC hS (b:=(bu != 0)) kr (fun hb=>?_) fun hb=>?_)
 ·replace hm:=hm.1 hb
  refine rP T hS ⟨[(4,V (.slice none 0 0))],[]⟩ fun a hS=>(aR ?_)
  exact fin T hS hO (fun c=>c) rfl (r:=[.slice none 0 0]) kr (fun X' hM hC=>⟨[],hm,none,0,rfl,RS.empty _ _ _⟩)
 replace hm:=hm.2 hb
 refine aI (bk ?_)
 refine oPe T hS 1 [24] [(25,V (.agg #[ii al.Ops,ii al.ab]))] fun a hS=>(op1 (call hS kr kr hb71 kr (fun _ _=>rfl) (Tz _ _ al 701) ?_))
 intro v109 a EG AQ hE hp hS
 have ⟨hO,h1,h2⟩:=e3e hE hO.m2 h1.m1 h2.m1
 obtain ⟨b113,hp,Gs⟩:=hp
 obtain ⟨aS,hr⟩:∃ r,iJ al=r:=⟨_,rfl⟩
 replace hm:=hm aS hr
 rw [hr] at Gs
 clear hr
 subst hp
 replace hS:=hS.LR (id:=701) (t:=61) (cs:=[I aS.Ops,I aS.ab]) kr kr Gs rfl
 replace hS:=hS.QU (t:=26) (x:=V (.func (.func 117) #[] #[.pointer (some ⟨b113,0,none⟩)])) (y:=.f (.func 117) [] [.p 701 0]) kr rfl
 generalize (upd Z 701 b113)=Z at hS
 clear Gs
 refine ePe T hS [25,26] [(6,.f (.func 117) [] [.p 701 0])] fun a hS=>(rP T hS ⟨[(1,Sl a2 l_ c2),(5,Pt 6 0),(6,.f (.func 117) [] [.p 701 0]),(7,.f (.func 72) [.v (.agg #[ii o_.ab,ii o_.aP,ii o_.aU,.slice a1 o_.Rows.length c1])] [])],[(6,(61,[I al.Ops,I al.ab])),(701,(61,[I aS.Ops,I aS.ab]))]⟩ fun a hS=>?_)
 refine rPe T hS [] [(8,V (.slice none 0 0))] fun a hS=>(cg (fun a w=>∃ Z X,∃ (ba:List (List Int)) (dT:Option Addr) (dS:Nat),VC24_J1 Q ba/\St Tryz.f24.ntmps ⟨[(8,Sl dT ba dS)],[]⟩ Z a w X/\Old w0 X0 w X/\OS (aA tI) 79 w X 1005 dT ba dS) ?_ ?_)
 ·refine rPe T hS [1] [(30,Sl a2 l_ c2),(31,I (lN l_)),(32,I 0)] fun a hS=>(aH ?_)
  obtain ⟨I1,μ1,cC,hm⟩:=hm
  refine cu (σ:=(List (List Int)) × Int) (fun s a w=>∃ Z X uk uh,I1 s.1 s.2/\St Tryz.f24.ntmps ⟨[(5,Pt 6 0),(6,.f (.func 117) [] [.p 701 0]),(7,.f (.func 72) [.v (.agg #[ii o_.ab,ii o_.aP,ii o_.aU,.slice a1 o_.Rows.length c1])] []),(8,Sl uk s.1 uh),(30,Sl a2 l_ c2),(31,I (lN l_)),(32,I s.2)],[(6,(61,[I al.Ops,I al.ab])),(701,(61,[I aS.Ops,I aS.ab]))]⟩ Z a w X/\Old w0 X0 w X/\RS aF w X a1 o_.Rows c1/\OS (aA tI) 79 w X 1005 uk s.1 uh/\RS ar w X a2 l_ c2) (fun s=>μ1 s.1 s.2) (⟨[],0⟩) ?_ ?_
  ·exact ⟨Z,_,none,0,cC,hS.sl _,hO,h1,(OS.nil _ _ _ _ _),h2⟩
  rintro ⟨tV,bP⟩ a Yb ⟨Z,abR,uk,uh,hI,hS,hO,h121,h125,h126⟩
  replace hm:=hm tV bP hI
  clear hI cC
  refine rPe T hS [] [(33,B (decide (bP < (lN l_))))] fun a hS=>(a8 ?_)
  refine aC hS (b:=decide (bP < (lN l_))) kr (fun hb=>?_) fun hb=>?_
  ·replace hm:=hm.1 hb
   refine aI (cg (fun a w=>∃ Z X,∃ (tU:List (List Int)) (uj:Option Addr) (ug:Nat),VC24_J2 I1 μ1 tV bP tU/\St Tryz.f24.ntmps ⟨[(5,Pt 6 0),(6,.f (.func 117) [] [.p 701 0]),(7,.f (.func 72) [.v (.agg #[ii o_.ab,ii o_.aP,ii o_.aU,.slice a1 o_.Rows.length c1])] []),(8,Sl uj tU ug),(30,Sl a2 l_ c2),(31,I (lN l_)),(32,I bP)],[(6,(61,[I al.Ops,I al.ab])),(701,(61,[I aS.Ops,I aS.ab]))]⟩ Z a w X/\Old w0 X0 w X/\RS aF w X a1 o_.Rows c1/\OS (aA tI) 79 w X 1005 uj tU ug/\RS ar w X a2 l_ c2) ?_ ?_)
   ·refine aH (bk ?_)
    refine oPe T hS 1 [33] [(34,I bP)] fun a hS=>?_
    obtain ⟨hq,hm⟩:=hm
    refine op1 (index (e:=91) (k:=.i64) T hS kr kr kr kr h126 kr kr hq.1 hq.2 ?_)
    intro V5 a h135 hS
    refine op1 (lJ T hS kr kr kr h135 kr kr ?_)
    intro v136 a hv hS
    subst hv
    refine eM T hS ⟨[(5,Pt 6 0),(6,.f (.func 117) [] [.p 701 0]),(7,.f (.func 72) [.v (.agg #[ii o_.ab,ii o_.aP,ii o_.aU,.slice a1 o_.Rows.length c1])] []),(8,Sl uk tV uh),(9,I bP),(10,Pt 11 0),(30,Sl a2 l_ c2),(31,I (lN l_)),(32,I bP)],[(6,(61,[I al.Ops,I al.ab])),(11,(91,[I ((gi l_ bP).Prc),I ((gi l_ bP).Kind),I ((gi l_ bP).aN),I ((gi l_ bP).End),I ((gi l_ bP).Result)])),(701,(61,[I aS.Ops,I aS.ab]))]⟩ fun Z a SH Vu hS hE hr=>?_
    have ⟨hO,h121,h125,h126⟩:=e4e hE hO.m2 h121.m1 h125.m2 h126.m1
    clear hE hr
    refine bk (oPe T hS 2 [] [(37,.f (.func 117) [] [.p 701 0]),(38,I bP)] fun a hS=>?_)
    refine op1 (gJ (fi:=[]) (cp:=[.p 701 0]) hS kr kr hb117 kr kr (zZ _ _ 2 bP 0 aS (Z 701) 701 (hS.cell (id:=701) (t:=61) (cs:=[I aS.Ops,I aS.ab]) kr) ⟨by decide,by decide⟩) ?_)
    intro v137 a Cy AM hE hp hS
    have ⟨hO,h121,h125,h126⟩:=e4e hE hO.m2 h121.m1 h125.m2 h126.m1
    obtain ⟨hp,KG⟩:=hp
    generalize hr:cI 2 bP 0 aS=b8 at hp
    replace hm:=hm b8 hr
    subst hp
    replace hS:=hS.cZ (id:=701) (t:=61) (cs:=[I aS.Ops,I aS.ab]) kr KG
    clear KG
    refine ePe T hS [37,38,39] [(11,I b8)] fun a hS=>(cg (fun a w=>∃ Z X,∃ (mF:List (List Int)) (lv:Option Addr) (lq:Nat),VC24_J3 o_ l_ al aS I1 μ1 tV bP b8 mF/\St Tryz.f24.ntmps ⟨[(5,Pt 6 0),(6,.f (.func 117) [] [.p 701 0]),(7,.f (.func 72) [.v (.agg #[ii o_.ab,ii o_.aP,ii o_.aU,.slice a1 o_.Rows.length c1])] []),(8,Sl lv mF lq),(9,I bP),(10,Pt 11 0),(11,I b8),(30,Sl a2 l_ c2),(31,I (lN l_)),(32,I bP)],[(6,(61,[I al.Ops,I al.ab])),(11,(91,[I ((gi l_ bP).Prc),I ((gi l_ bP).Kind),I ((gi l_ bP).aN),I ((gi l_ bP).End),I ((gi l_ bP).Result)])),(701,(61,[I aS.Ops,I aS.ab]))]⟩ Z a w X/\Old w0 X0 w X/\RS aF w X a1 o_.Rows c1/\OS (aA tI) 79 w X 1005 lv mF lq/\RS ar w X a2 l_ c2) ?_ ?_)
    ·refine rPe T hS [] [(42,B (((gi l_ bP).End) != (-1)))] fun a hS=>(aC hS (b:=(((gi l_ bP).End) != (-1))) kr (fun hb=>?_) fun hb=>?_)
     ·replace hm:=hm.1 hb
      refine region (oPe T hS 2 [42] [(43,Sl uk tV uh),(44,I b8)] fun a hS=>?_)
      refine op1 (lit (E:=3) (col:=0) (T:=tI) (vals:=[ii b8]) (ys:=[b8]) T hS kr kr kr kr (by exact ⟨rfl,trivial⟩) rfl kr kr kr kr ?_)
      intro b255 a Yn Vw hE h258 hN hS
      clear hN
      have ⟨hO,h121,h125,h126⟩:=e4e hE hO.m2 h121.m1 h125.m2 h126.m1
      replace h258:=h258.rs0
      refine op1 (lit (E:=79) (col:=0) (T:=(aA tI)) (vals:=[.slice (some ⟨b255,0,none⟩) [b8].length 1]) (ys:=[[b8]]) T hS kr kr kr kr (by exact ⟨⟨(some ⟨b255,0,none⟩),1,rfl,h258⟩,trivial⟩) rfl kr kr kr kr ?_)
      intro b259 a SI Vv hE h262 hN hS
      clear hN
      have ⟨hO,h121,h125,h126,h258⟩:=e5e hE hO.m2 h121.m1 h125.m2 h126.m1 h258.m1
      replace h262:=h262.rs0
      obtain ⟨hq,hm⟩:=hm
      obtain ⟨news,hN⟩:=h262.src
      refine op1 (append (E:=79) (T:=(aA tI)) (col:=1005) (xs:=tV) T hS kr kr kr kr h125 hN kr kr kr kr hq ?_)
      intro Rc QY a Yk abY hE h265 hS
      clear hq hN
      clear h125
      have ⟨hO,h121,h126,h258,h262⟩:=e5e hE hO.m2 h121.m1 h126.m1 h258.m1 h262.m1
      refine ePe T hS [44,45,46,47] [(8,Sl Rc (tV++[[b8]]) QY)] fun a hS=>?_
      exact ⟨Z,_,tV++[[b8]],Rc,QY,hm,hS.sl _,hO,h121,h265,h126⟩
     replace hm:=hm.2 hb
     refine aI ?_
     exact ⟨Z,_,tV,uk,uh,hm,hS.sl _,hO,h121,h125,h126⟩
    rintro a Yg ⟨Z,abV,mF,lv,lq,hm,hS,hO,h142,h146,h147⟩
    unfold VC24_J3 at hm
    refine rPe T hS [] [(49,I al.Ops),(50,I 0)] fun a hS=>(aH ?_)
    obtain ⟨I2,μ2,cC,hm⟩:=hm
    refine cu (σ:=(List (List Int)) × Int) (fun s a w=>∃ Z X DY DM,I2 s.1 s.2/\St Tryz.f24.ntmps ⟨[(5,Pt 6 0),(6,.f (.func 117) [] [.p 701 0]),(7,.f (.func 72) [.v (.agg #[ii o_.ab,ii o_.aP,ii o_.aU,.slice a1 o_.Rows.length c1])] []),(8,Sl DY s.1 DM),(9,I bP),(10,Pt 11 0),(11,I b8),(30,Sl a2 l_ c2),(31,I (lN l_)),(32,I bP),(49,I al.Ops),(50,I s.2)],[(6,(61,[I al.Ops,I al.ab])),(11,(91,[I ((gi l_ bP).Prc),I ((gi l_ bP).Kind),I ((gi l_ bP).aN),I ((gi l_ bP).End),I ((gi l_ bP).Result)])),(701,(61,[I aS.Ops,I aS.ab]))]⟩ Z a w X/\Old w0 X0 w X/\RS aF w X a1 o_.Rows c1/\OS (aA tI) 79 w X 1005 DY s.1 DM/\RS ar w X a2 l_ c2) (fun s=>μ2 s.1 s.2) (⟨mF,0⟩) ?_ ?_
    ·exact ⟨Z,_,lv,lq,cC,hS.sl _,hO,h142,h146,h147⟩
    rintro ⟨o6,jg⟩ a Yo ⟨Z,ab1,DY,DM,hI,hS,hO,h148,h152,h153⟩
    replace hm:=hm o6 jg hI
    clear hI cC
    refine rPe T hS [] [(51,B (decide (jg < al.Ops)))] fun a hS=>(a8 ?_)
    refine aC hS (b:=decide (jg < al.Ops)) kr (fun hb=>?_) fun hb=>?_
    ·replace hm:=hm.1 hb
     refine aI (cg (fun a w=>∃ Z X,∃ (Er:List (List Int)) (JE:Option Addr) (Jq:Nat),VC24_J4 I2 μ2 o6 jg Er/\St Tryz.f24.ntmps ⟨[(5,Pt 6 0),(6,.f (.func 117) [] [.p 701 0]),(7,.f (.func 72) [.v (.agg #[ii o_.ab,ii o_.aP,ii o_.aU,.slice a1 o_.Rows.length c1])] []),(8,Sl JE Er Jq),(9,I bP),(10,Pt 11 0),(11,I b8),(30,Sl a2 l_ c2),(31,I (lN l_)),(32,I bP),(49,I al.Ops),(50,I jg)],[(6,(61,[I al.Ops,I al.ab])),(11,(91,[I ((gi l_ bP).Prc),I ((gi l_ bP).Kind),I ((gi l_ bP).aN),I ((gi l_ bP).End),I ((gi l_ bP).Result)])),(701,(61,[I aS.Ops,I aS.ab]))]⟩ Z a w X/\Old w0 X0 w X/\RS aF w X a1 o_.Rows c1/\OS (aA tI) 79 w X 1005 JE Er Jq/\RS ar w X a2 l_ c2) ?_ ?_)
     ·refine aH (rPe T hS [51] [(12,I jg)] fun a hS=>?_)
      refine rPe T hS [] [(54,I al.ab),(55,I 0)] fun a hS=>(aH ?_)
      obtain ⟨I3,μ3,cC,hm⟩:=hm
      refine cu (σ:=(List (List Int)) × Int) (fun s a w=>∃ Z X mL mK,I3 s.1 s.2/\St Tryz.f24.ntmps ⟨[(5,Pt 6 0),(6,.f (.func 117) [] [.p 701 0]),(7,.f (.func 72) [.v (.agg #[ii o_.ab,ii o_.aP,ii o_.aU,.slice a1 o_.Rows.length c1])] []),(8,Sl mL s.1 mK),(9,I bP),(10,Pt 11 0),(11,I b8),(12,I jg),(30,Sl a2 l_ c2),(31,I (lN l_)),(32,I bP),(49,I al.Ops),(50,I jg),(54,I al.ab),(55,I s.2)],[(6,(61,[I al.Ops,I al.ab])),(11,(91,[I ((gi l_ bP).Prc),I ((gi l_ bP).Kind),I ((gi l_ bP).aN),I ((gi l_ bP).End),I ((gi l_ bP).Result)])),(701,(61,[I aS.Ops,I aS.ab]))]⟩ Z a w X/\Old w0 X0 w X/\RS aF w X a1 o_.Rows c1/\OS (aA tI) 79 w X 1005 mL s.1 mK/\RS ar w X a2 l_ c2) (fun s=>μ3 s.1 s.2) (⟨o6,0⟩) ?_ ?_
      ·exact ⟨Z,_,DY,DM,cC,hS.sl _,hO,h148,h152,h153⟩
      rintro ⟨mN,jB⟩ a Yq ⟨Z,ab3,mL,mK,hI,hS,hO,h161,h165,h166⟩
      replace hm:=hm mN jB hI
      clear hI cC
      refine rPe T hS [] [(56,B (decide (jB < al.ab)))] fun a hS=>(a8 ?_)
      refine aC hS (b:=decide (jB < al.ab)) kr (fun hb=>?_) fun hb=>?_
      ·replace hm:=hm.1 hb
       refine aI (cg (fun a w=>∃ Z X,∃ (Ep:List (List Int)) (AH:Option Addr) (Aw:Nat),VC24_J5 I3 μ3 mN jB Ep/\St Tryz.f24.ntmps ⟨[(5,Pt 6 0),(6,.f (.func 117) [] [.p 701 0]),(7,.f (.func 72) [.v (.agg #[ii o_.ab,ii o_.aP,ii o_.aU,.slice a1 o_.Rows.length c1])] []),(8,Sl AH Ep Aw),(9,I bP),(10,Pt 11 0),(11,I b8),(12,I jg),(30,Sl a2 l_ c2),(31,I (lN l_)),(32,I bP),(49,I al.Ops),(50,I jg),(54,I al.ab),(55,I jB)],[(6,(61,[I al.Ops,I al.ab])),(11,(91,[I ((gi l_ bP).Prc),I ((gi l_ bP).Kind),I ((gi l_ bP).aN),I ((gi l_ bP).End),I ((gi l_ bP).Result)])),(701,(61,[I aS.Ops,I aS.ab]))]⟩ Z a w X/\Old w0 X0 w X/\RS aF w X a1 o_.Rows c1/\OS (aA tI) 79 w X 1005 AH Ep Aw/\RS ar w X a2 l_ c2) ?_ ?_)
       ·refine aH (rPe T hS [56] [(13,I jB)] fun a hS=>?_)
        refine bk (oPe T hS 3 [] [(58,.f (.func 117) [] [.p 701 0]),(59,I bP),(60,I jg)] fun a hS=>?_)
        refine op1 (gJ (fi:=[]) (cp:=[.p 701 0]) hS kr kr hb117 kr kr (zZ _ _ 1 bP jg aS (Z 701) 701 (hS.cell (id:=701) (t:=61) (cs:=[I aS.Ops,I aS.ab]) kr) ⟨by decide,by decide⟩) ?_)
        intro v174 a Ox Rr hE hp hS
        have ⟨hO,h161,h165,h166⟩:=e4e hE hO.m2 h161.m1 h165.m2 h166.m1
        obtain ⟨hp,Ky⟩:=hp
        generalize hr:cI 1 bP jg aS=iy at hp
        replace hm:=hm iy hr
        subst hp
        replace hS:=hS.cZ (id:=701) (t:=61) (cs:=[I aS.Ops,I aS.ab]) kr Ky
        clear Ky
        refine oPe T hS 4 [58,59,60,61] [(62,I (wR (0 - iy))),(63,.f (.func 117) [] [.p 701 0]),(64,I jg),(65,I jB)] fun a hS=>(op1 (gJ (fi:=[]) (cp:=[.p 701 0]) hS kr kr hb117 kr kr (zZ _ _ 3 jg jB aS (Z 701) 701 (hS.cell (id:=701) (t:=61) (cs:=[I aS.Ops,I aS.ab]) kr) ⟨by decide,by decide⟩) ?_))
        intro v179 a HI JI hE hp hS
        have ⟨hO,h161,h165,h166⟩:=e4e hE hO.m2 h161.m1 h165.m2 h166.m1
        obtain ⟨hp,Kx⟩:=hp
        generalize hr:cI 3 jg jB aS=iO at hp
        replace hm:=hm iO hr
        subst hp
        replace hS:=hS.cZ (id:=701) (t:=61) (cs:=[I aS.Ops,I aS.ab]) kr Kx
        clear Kx
        refine ePe T hS [62,63,64,65,66] [(14,I (wR (0 - iy))),(15,I (wR (0 - iO)))] fun a hS=>(bk ?_)
        refine oPe T hS 4 [] [(68,I (wR (0 - iy))),(70,I (wR (0 - b8))),(71,I (wR (0 - iO)))] fun a hS=>(op1 (lit (E:=3) (col:=1017) (T:=tI) (vals:=[ii (wR (0 - iy)),ii (wR (0 - b8)),ii (wR (0 - iO))]) (ys:=[wR (0 - iy),wR (0 - b8),wR (0 - iO)]) T hS kr kr kr kr (by exact ⟨rfl,rfl,rfl,trivial⟩) rfl kr kr kr kr ?_))
        intro b184 a HG NQ hE h187 hN hS
        clear hN
        have ⟨hO,h161,h165,h166⟩:=e4e hE hO.m2 h161.m1 h165.m2 h166.m1
        refine ePe T hS [68,70,71,72] [(16,Sl (some ⟨b184,0,none⟩) [wR (0 - iy),wR (0 - b8),wR (0 - iO)] 3)] fun a hS=>(cg (fun a w=>∃ Z X,∃ (mE:List (List Int)) (qh:List Int) (JB:Option Addr) (Jn:Nat) (DW:Option Addr) (DK:Nat),VC24_J6 l_ aS bP b8 jg I3 μ3 mN jB iy iO mE qh/\St Tryz.f24.ntmps ⟨[(5,Pt 6 0),(6,.f (.func 117) [] [.p 701 0]),(7,.f (.func 72) [.v (.agg #[ii o_.ab,ii o_.aP,ii o_.aU,.slice a1 o_.Rows.length c1])] []),(8,Sl JB mE Jn),(9,I bP),(10,Pt 11 0),(11,I b8),(12,I jg),(13,I jB),(14,I (wR (0 - iy))),(15,I (wR (0 - iO))),(16,Sl DW qh DK),(30,Sl a2 l_ c2),(31,I (lN l_)),(32,I bP),(49,I al.Ops),(50,I jg),(54,I al.ab),(55,I jB)],[(6,(61,[I al.Ops,I al.ab])),(11,(91,[I ((gi l_ bP).Prc),I ((gi l_ bP).Kind),I ((gi l_ bP).aN),I ((gi l_ bP).End),I ((gi l_ bP).Result)])),(701,(61,[I aS.Ops,I aS.ab]))]⟩ Z a w X/\Old w0 X0 w X/\RS aF w X a1 o_.Rows c1/\OS (aA tI) 79 w X 1005 JB mE Jn/\OS tI 3 w X 1017 DW qh DK/\RS ar w X a2 l_ c2) ?_ ?_)
        ·refine bk (oPe T hS 3 [] [(74,.f (.func 72) [.v (.agg #[ii o_.ab,ii o_.aP,ii o_.aU,.slice a1 o_.Rows.length c1])] []),(75,V (.agg #[ii ((gi l_ bP).Prc),ii ((gi l_ bP).Kind),ii ((gi l_ bP).aN),ii ((gi l_ bP).End),ii ((gi l_ bP).Result)])),(76,I jB)] fun a hS=>?_)
         refine op1 (GR (fi:=[.v (.agg #[ii o_.ab,ii o_.aP,ii o_.aU,.slice a1 o_.Rows.length c1])]) (cp:=[]) hS kr kr hb72 kr kr (fun _ _=>rfl) (L3 _ _ (⟨o_⟩:eF) (gi l_ bP) jB a1 c1 h161) ?_)
         intro v227 a YB Vy hE hp hS
         have ⟨hO,h161,h165,h166,h187⟩:=e5e hE hO.m2 h161.m1 h165.m2 h166.m1 h187.m2
         generalize hr:dI (⟨o_⟩:eF) (gi l_ bP) jB=qq at hp
         replace hm:=hm qq hr
         subst hp
         refine ePe T hS [74,75,76,77] [(17,I qq.1),(18,B qq.2)] fun a hS=>(rPe T hS [18] [(80,B qq.2)] fun a hS=>?_)
         refine aC hS (b:=qq.2) kr (fun hb=>?_) fun hb=>?_
         ·replace hm:=hm.1 hb
          refine region (oPe T hS 5 [17,80] [(81,Sl (some ⟨b184,0,none⟩) [wR (0 - iy),wR (0 - b8),wR (0 - iO)] 3),(82,.f (.func 117) [] [.p 701 0]),(84,I (wR (jg+1))),(85,I qq.1)] fun a hS=>?_)
          refine op1 (gJ (fi:=[]) (cp:=[.p 701 0]) hS kr kr hb117 kr kr (zZ _ _ 3 (wR (jg+1)) qq.1 aS (Z 701) 701 (hS.cell (id:=701) (t:=61) (cs:=[I aS.Ops,I aS.ab]) kr) ⟨by decide,by decide⟩) ?_)
          intro v231 a SJ Vx hE hp hS
          have ⟨hO,h161,h165,h166,h187⟩:=e5e hE hO.m2 h161.m1 h165.m2 h166.m1 h187.m2
          obtain ⟨hp,Kv⟩:=hp
          generalize hr:cI 3 (wR (jg+1)) qq.1 aS=vS at hp
          replace hm:=hm vS hr
          subst hp
          replace hS:=hS.cZ (id:=701) (t:=61) (cs:=[I aS.Ops,I aS.ab]) kr Kv
          clear Kv
          refine op1 (lit (E:=3) (col:=0) (T:=tI) (vals:=[ii vS]) (ys:=[vS]) T hS kr kr kr kr (by exact ⟨rfl,trivial⟩) rfl kr kr kr kr ?_)
          intro b236 a Yx ab9 hE h239 hN hS
          clear hN
          have ⟨hO,h161,h165,h166,h187⟩:=e5e hE hO.m2 h161.m1 h165.m2 h166.m1 h187.m2
          replace h239:=h239.rs0
          obtain ⟨hq,hm⟩:=hm
          obtain ⟨news,hN⟩:=h239.src
          refine op1 (append (E:=3) (T:=tI) (col:=1017) (xs:=[wR (0 - iy),wR (0 - b8),wR (0 - iO)]) T hS kr kr kr kr h187 hN kr kr kr kr hq ?_)
          intro Re QZ a Yu ab7 hE h242 hS
          clear hq hN
          clear h187
          have ⟨hO,h161,h165,h166,h239⟩:=e5e hE hO.m2 h161.m1 h165.m2 h166.m1 h239.m1
          refine ePe T hS [82,84,85,86,87,88] [(16,Sl Re ([wR (0 - iy),wR (0 - b8),wR (0 - iO)]++[vS]) QZ)] fun a hS=>?_
          exact ⟨Z,_,mN,[wR (0 - iy),wR (0 - b8),wR (0 - iO)]++[vS],mL,mK,Re,QZ,hm,hS.sl _,hO,h161,h165,h242,h166⟩
         replace hm:=hm.2 hb
         refine aI ?_
         exact ⟨Z,_,mN,[wR (0 - iy),wR (0 - b8),wR (0 - iO)],mL,mK,(some ⟨b184,0,none⟩),3,hm,hS.sl _,hO,h161,h165,h187,h166⟩
        rintro a Ys ⟨Z,ab5,mE,qh,JB,Jn,DW,DK,hm,hS,hO,h188,h192,h196,h197⟩
        unfold VC24_J6 at hm
        refine bk (oPe T hS 2 [16] [(89,Sl JB mE Jn),(90,Sl DW qh DK)] fun a hS=>?_)
        obtain ⟨acr,hE,hF⟩:=h196.freeze (by decide)
        replace hS:=hS.ev hE (cq kr)
        have ⟨hO,h188,h192,h197⟩:=e4e hE hO.m2 h188.m1 h192.m2 h197.m1
        have h199:=hF; clear hE hF
        refine op1 (lit (E:=79) (col:=0) (T:=(aA tI)) (vals:=[.slice DW qh.length DK]) (ys:=[qh]) T hS kr kr kr kr (by exact ⟨⟨DW,DK,rfl,h199⟩,trivial⟩) rfl kr kr kr kr ?_)
        intro b200 a YN acq hE h203 hN hS
        clear hN
        have ⟨hO,h188,h192,h197,h199⟩:=e5e hE hO.m2 h188.m1 h192.m2 h197.m1 h199.m1
        replace h203:=h203.rs0
        obtain ⟨hq,hm⟩:=hm
        obtain ⟨news,hN⟩:=h203.src
        refine op1 (append (E:=79) (T:=(aA tI)) (col:=1005) (xs:=mE) T hS kr kr kr kr h192 hN kr kr kr kr hq ?_)
        intro NO NJ a YL aco hE h206 hS
        clear hq hN
        clear h192
        have ⟨hO,h188,h197,h199,h203⟩:=e5e hE hO.m2 h188.m1 h197.m1 h199.m1 h203.m1
        refine ePe T hS [90,91,92] [(8,Sl NO (mE++[qh]) NJ)] fun a hS=>(rPe T hS [] [(95,B (((gi l_ bP).End) == (-1)))] fun a hS=>?_)
        refine aC hS (b:=(((gi l_ bP).End) == (-1))) kr (fun hb=>?_) fun hb=>?_
        ·replace hm:=hm.1 hb
         refine region (oPe T hS 8 [13,14,15,95] [(96,Sl NO (mE++[qh]) NJ),(97,I (wR (0 - iy))),(98,I b8),(99,I (wR (0 - iO))),(100,.f (.func 117) [] [.p 701 0]),(102,I (wR (jg+1))),(103,I jB)] fun a hS=>?_)
         refine op1 (gJ (fi:=[]) (cp:=[.p 701 0]) hS kr kr hb117 kr kr (zZ _ _ 3 (wR (jg+1)) jB aS (Z 701) 701 (hS.cell (id:=701) (t:=61) (cs:=[I aS.Ops,I aS.ab]) kr) ⟨by decide,by decide⟩) ?_)
         intro v209 a YJ ack hE hp hS
         have ⟨hO,h188,h197,h206⟩:=e4e hE hO.m2 h188.m1 h197.m1 h206.m2
         obtain ⟨hp,Kw⟩:=hp
         generalize hr:cI 3 (wR (jg+1)) jB aS=sP at hp
         replace hm:=hm sP hr
         subst hp
         replace hS:=hS.cZ (id:=701) (t:=61) (cs:=[I aS.Ops,I aS.ab]) kr Kw
         clear Kw
         refine op1 (lit (E:=3) (col:=0) (T:=tI) (vals:=[ii (wR (0 - iy)),ii b8,ii (wR (0 - iO)),ii sP]) (ys:=[wR (0 - iy),b8,wR (0 - iO),sP]) T hS kr kr kr kr (by exact ⟨rfl,rfl,rfl,rfl,trivial⟩) rfl kr kr kr kr ?_)
         intro b214 a YH aci hE h217 hN hS
         clear hN
         have ⟨hO,h188,h197,h206⟩:=e4e hE hO.m2 h188.m1 h197.m1 h206.m2
         replace h217:=h217.rs0
         refine op1 (lit (E:=79) (col:=0) (T:=(aA tI)) (vals:=[.slice (some ⟨b214,0,none⟩) [wR (0 - iy),b8,wR (0 - iO),sP].length 4]) (ys:=[[wR (0 - iy),b8,wR (0 - iO),sP]]) T hS kr kr kr kr (by exact ⟨⟨(some ⟨b214,0,none⟩),4,rfl,h217⟩,trivial⟩) rfl kr kr kr kr ?_)
         intro b218 a YF acg hE h221 hN hS
         clear hN
         have ⟨hO,h188,h197,h206,h217⟩:=e5e hE hO.m2 h188.m1 h197.m1 h206.m2 h217.m1
         replace h221:=h221.rs0
         obtain ⟨hq,hm⟩:=hm
         obtain ⟨news,hN⟩:=h221.src
         refine op1 (append (E:=79) (T:=(aA tI)) (col:=1005) (xs:=mE++[qh]) T hS kr kr kr kr h206 hN kr kr kr kr hq ?_)
         intro Rg Q0 a YD ace hE h224 hS
         clear hq hN
         clear h206
         have ⟨hO,h188,h197,h217,h221⟩:=e5e hE hO.m2 h188.m1 h197.m1 h217.m1 h221.m1
         refine ePe T hS [97,98,99,100,102,103,104,105,106,107] [(8,Sl Rg ((mE++[qh])++[[wR (0 - iy),b8,wR (0 - iO),sP]]) Q0)] fun a hS=>?_
         exact ⟨Z,_,(mE++[qh])++[[wR (0 - iy),b8,wR (0 - iO),sP]],Rg,Q0,hm,hS.sl _,hO,h188,h224,h197⟩
        replace hm:=hm.2 hb
        refine aI ?_
        exact ⟨Z,_,mE++[qh],NO,NJ,hm,hS.sl _,hO,h188,h206,h197⟩
       rintro a Yr ⟨Z,ab4,Ep,AH,Aw,hm,hS,hO,h168,h172,h173⟩
       unfold VC24_J5 at hm
       refine region (ePe T hS [] [(55,I (wR (jB+1)))] fun a hS=>?_)
       exact ⟨⟨Ep,wR (jB+1)⟩,⟨Z,_,AH,Aw,hm.1,hS.sl _,hO,h168,h172,h173⟩,hm.2⟩
      replace hm:=hm.2 hb
      refine cl (by rfl) ?_
      exact ⟨Z,_,mN,mL,mK,hm,hS.sl _,hO,h161,h165,h166⟩
     rintro a Yp ⟨Z,ab2,Er,JE,Jq,hm,hS,hO,h155,h159,h160⟩
     unfold VC24_J4 at hm
     refine region (ePe T hS [] [(50,I (wR (jg+1)))] fun a hS=>?_)
     exact ⟨⟨Er,wR (jg+1)⟩,⟨Z,_,JE,Jq,hm.1,hS.sl _,hO,h155,h159,h160⟩,hm.2⟩
    replace hm:=hm.2 hb
    refine cl (by rfl) ?_
    exact ⟨Z,_,o6,DY,DM,hm,hS.sl _,hO,h148,h152,h153⟩
   rintro a Ye ⟨Z,abT,tU,uj,ug,hm,hS,hO,h128,h132,h133⟩
   unfold VC24_J2 at hm
   refine region (ePe T hS [] [(32,I (wR (bP+1)))] fun a hS=>?_)
   exact ⟨⟨tU,wR (bP+1)⟩,⟨Z,_,uj,ug,hm.1,hS.sl _,hO,h128,h132,h133⟩,hm.2⟩
  replace hm:=hm.2 hb
  refine cl (by rfl) ?_
  exact ⟨Z,_,tV,uk,uh,hm,hS.sl _,hO,h125⟩
 rintro a X9 ⟨Z,abP,ba,dT,dS,hm,hS,hO,h118⟩
 unfold VC24_J1 at hm
 refine rPe T hS [8] [(4,Sl dT ba dS)] fun a hS=>(aR ?_)
 obtain ⟨Hj,hE,hF⟩:=h118.freeze (by decide)
 replace hS:=hS.ev hE (cq kr)
 replace hO:=hO.m2 hE
 have h120:=hF; clear hE hF
 exact fin T hS hO (fun c=>c) rfl (r:=[.slice dT ba.length dS]) kr (fun X' hM hC=>⟨ba,hm,dT,dS,rfl,h120.m0 hM⟩)
theorem C24 (zZ:S117) (wo:S34) (mi:S59) (Tz:S71) (L3:S72) (v:∀ (o_:ah) (l_:List ae),q9 o_ l_->VC24 o_ l_ (fun r=>r=cJ o_ l_)):S24:=fun w X o_ l_ a1 c1 a2 c2 hp h1 h2=>mo1 (W24 zZ wo mi Tz L3 w X o_ l_ a1 c1 a2 c2 _ (v o_ l_ hp) h1 h2)
theorem W58 (w0) (X0) (s_:List Int) (a1) (c1) (gx) (Q:(List Int)->Prop) (hm:VC58 s_ Q) (h1:RS tI w0 X0 a1 s_ c1) :
  rt 58 #[.slice a1 s_.length c1] aB w0 X0 (fun w X' v=>∃ r,Q r/\∃ dg de,v=.slice dg r.length de/\OS tI 3 w X' gx dg r de):=by
 unfold VC58 at hm
 replace hm:=hm (h1.sm kr)
 refine enter Tryz.func58 rfl (vals:=[.slice a1 s_.length c1]) kr ?_
 intro Z a hS hO hM
 replace h1:=h1.m0 hM
 refine rPe T hS [] [] fun a hS=>(a8 ?_)
 refine bk (oPe T hS 1 [] [(3,Sl a1 s_ c1)] fun a hS=>?_)
 obtain ⟨b101,hb102⟩:∃ q:Bool,a1.isNone=q:=⟨_,rfl⟩
 replace hm:=hm b101 (h1.Tl hb102)
 refine op1 (QH (e:=3) (m:=s_.length) (c:=c1) hS kr kr kr kr Tryz.underlying79 hb102 ?_)
 intro a hS
 clear hb102
 refine gM (aC hS (b:=b101) kr (fun hb=>?_) fun hb=>?_)
 ·replace hm:=hm.1 hb
  refine rPe T hS [0,4] [(2,V (.slice none 0 0))] fun a hS=>(aR ?_)
  exact fin T hS hO (fun c=>c) rfl (r:=[.slice none 0 0]) kr (fun X' hM hC=>⟨[],hm,none,0,rfl,OS.nil _ _ _ _ _⟩)
 replace hm:=hm.2 hb
 refine aI (bk ?_)
 refine op1 (lit (E:=3) (col:=1003) (T:=tI) (vals:=[]) (ys:=([]:List Int)) T hS kr kr kr kr trivial rfl kr kr kr kr ?_)
 intro b103 a EH wX hE h106 hN hS
 clear hN
 have ⟨hO,h1⟩:=e2e hE hO.m2 h1.m1
 refine oPe T hS 1 [0,4] [(6,Sl a1 s_ c1)] fun a hS=>?_
 obtain ⟨hq,hm⟩:=hm
 obtain ⟨news,hN⟩:=h1.src
 refine op1 (append (E:=3) (T:=tI) (col:=1003) (xs:=([]:List Int)) T hS kr kr kr kr h106 hN kr kr kr kr hq ?_)
 intro nj nh a o8 oV hE h109 hS
 clear hq hN
 clear h106
 have ⟨hO,h1⟩:=e2e hE hO.m2 h1.m1
 refine ePe T hS [6,7] [(2,Sl nj (([]:List Int)++s_) nh)] fun a hS=>(aR ?_)
 exact fin T hS hO (zL3c1 gx) rfl (r:=[.slice nj (([]:List Int)++s_).length nh]) kr (fun X' hM hC=>⟨(([]:List Int)++s_),hm,nj,nh,rfl,(OS.out (f:=(zL3c1 gx)) h109 hM hC kr)⟩)
theorem C58 (v:∀ (s_:List Int),Bs s_->VC58 s_ (fun r=>r=dw s_)):S58:=fun w X s_ a1 c1 gx hp h1=>mo1 (W58 w X s_ a1 c1 gx _ (v s_ hp) h1)
theorem W19 (TG:S58) (w0) (X0) (parts:List (List (List Int))) (a1) (c1) (Q:(List (List Int))->Prop) (hm:VC19 parts Q) (h1:RS (aA (aA tI)) w0 X0 a1 parts c1) :
  rt 19 #[.slice a1 parts.length c1] aB w0 X0 (fun w X' v=>∃ r,Q r/\∃ dg de,v=.slice dg r.length de/\RS (aA tI) w X' dg r de):=by
 unfold VC19 at hm
 replace hm:=hm (h1.sm kr)
 refine enter Tryz.func19 rfl (vals:=[.slice a1 parts.length c1]) kr ?_
 intro Z a hS hO hM
 replace h1:=h1.m0 hM
 refine rPe T hS [] [] fun a hS=>(rPe T hS [] [(3,V (.slice none 0 0))] fun a hS=>?_)
 refine cg (fun a w=>∃ Z X,∃ (dk:List (List Int)) (jx:Option Addr) (ju:Nat),VC19_J1 Q dk/\St Tryz.f19.ntmps ⟨[(3,Sl jx dk ju)],[]⟩ Z a w X/\Old w0 X0 w X/\OS (aA tI) 79 w X 1003 jx dk ju) ?_ ?_
 ·refine rPe T hS [0] [(8,Sl a1 parts c1),(9,I (lN parts)),(10,I 0)] fun a hS=>(aH ?_)
  obtain ⟨I1,μ1,cC,hm⟩:=hm
  refine cu (σ:=(List (List Int)) × Int) (fun s a w=>∃ Z X lQ lP,I1 s.1 s.2/\St Tryz.f19.ntmps ⟨[(3,Sl lQ s.1 lP),(8,Sl a1 parts c1),(9,I (lN parts)),(10,I s.2)],[]⟩ Z a w X/\Old w0 X0 w X/\OS (aA tI) 79 w X 1003 lQ s.1 lP/\RS (aA (aA tI)) w X a1 parts c1) (fun s=>μ1 s.1 s.2) (⟨[],0⟩) ?_ ?_
  ·exact ⟨Z,_,none,0,cC,hS.sl _,hO,(OS.nil _ _ _ _ _),h1⟩
  rintro ⟨dG,e9⟩ a SP ⟨Z,Rx,lQ,lP,hI,hS,hO,h110,h111⟩
  replace hm:=hm dG e9 hI
  clear hI cC
  refine rPe T hS [] [(11,B (decide (e9 < (lN parts))))] fun a hS=>(a8 ?_)
  refine aC hS (b:=decide (e9 < (lN parts))) kr (fun hb=>?_) fun hb=>?_
  ·replace hm:=hm.1 hb
   refine aI (cg (fun a w=>∃ Z X,∃ (bw:List (List Int)) (jM:Option Addr) (jL:Nat),VC19_J2 I1 μ1 dG e9 bw/\St Tryz.f19.ntmps ⟨[(3,Sl jM bw jL),(8,Sl a1 parts c1),(9,I (lN parts)),(10,I e9)],[]⟩ Z a w X/\Old w0 X0 w X/\OS (aA tI) 79 w X 1003 jM bw jL/\RS (aA (aA tI)) w X a1 parts c1) ?_ ?_)
   ·refine aH (bk ?_)
    obtain ⟨hq,hm⟩:=hm
    refine op1 (index (e:=28) (k:=.i64) T hS kr kr kr kr h111 kr kr hq.1 hq.2 ?_)
    intro RM a h119 hS
    refine op1 (fc T hS kr kr kr h119 rfl kr ?_)
    intro v120 a hv hS
    obtain ⟨JH,Jt,hv,h123⟩:=hv
    cases hv
    replace hm:=hm (h123.sm kr)
    refine ePe T hS [11,12,13] [(5,Sl JH (gi parts e9) Jt)] fun a hS=>(rPe T hS [5] [(14,Sl JH (gi parts e9) Jt),(15,I (lN (gi parts e9))),(16,I 0)] fun a hS=>?_)
    refine aH ?_
    obtain ⟨I2,μ2,cC,hm⟩:=hm
    refine cu (σ:=(List (List Int)) × Int) (fun s a w=>∃ Z X ly lu,I2 s.1 s.2/\St Tryz.f19.ntmps ⟨[(3,Sl ly s.1 lu),(8,Sl a1 parts c1),(9,I (lN parts)),(10,I e9),(14,Sl JH (gi parts e9) Jt),(15,I (lN (gi parts e9))),(16,I s.2)],[]⟩ Z a w X/\Old w0 X0 w X/\OS (aA tI) 79 w X 1003 ly s.1 lu/\RS (aA (aA tI)) w X a1 parts c1/\RS (aA tI) w X JH (gi parts e9) Jt) (fun s=>μ2 s.1 s.2) (⟨dG,0⟩) ?_ ?_
    ·exact ⟨Z,_,lQ,lP,cC,hS.sl _,hO,h110,h111,h123⟩
    rintro ⟨mO,eV⟩ a Cw ⟨Z,Rz,ly,lu,hI,hS,hO,h127,h128,h129⟩
    replace hm:=hm mO eV hI
    clear hI cC
    refine rPe T hS [] [(17,B (decide (eV < (lN (gi parts e9)))))] fun a hS=>(a8 ?_)
    refine aC hS (b:=decide (eV < (lN (gi parts e9)))) kr (fun hb=>?_) fun hb=>?_
    ·replace hm:=hm.1 hb
     refine aI (a8 ?_)
     refine aH (bk ?_)
     obtain ⟨hq,hm⟩:=hm
     refine op1 (index (e:=79) (k:=.i64) T hS kr kr kr kr h129 kr kr hq.1 hq.2 ?_)
     intro V6 a h132 hS
     refine op1 (fc T hS kr kr kr h132 rfl kr ?_)
     intro v133 a hv hS
     obtain ⟨lx,lr,hv,h136⟩:=hv
     cases hv
     replace hm:=hm (h136.sm kr)
     refine ePe T hS [17,18,19] [(7,Sl lx (gi (gi parts e9) eV) lr)] fun a hS=>(region ?_)
     refine oPe T hS 2 [7] [(20,Sl ly mO lu),(21,Sl lx (gi (gi parts e9) eV) lr)] fun a hS=>?_
     obtain ⟨hq,hm⟩:=hm
     refine op1 (call hS kr kr hb58 kr (fun _ _=>rfl) (TG _ _ (gi (gi parts e9) eV) lx lr 0 hq h136) ?_)
     intro v137 a Cy AM hE hp hS
     have ⟨hO,h127,h128,h129,h136⟩:=e5e hE hO.m2 h127.m2 h128.m1 h129.m1 h136.m1
     obtain ⟨jw,jt,hp,h143⟩:=hp
     obtain ⟨b8,hr⟩:∃ r,dw (gi (gi parts e9) eV)=r:=⟨_,rfl⟩
     replace hm:=hm b8 hr
     rw [hr] at hp h143
     clear hr
     subst hp
     replace h143:=h143.rs0
     replace hm:=hm (h143.sm kr)
     refine op1 (lit (E:=79) (col:=0) (T:=(aA tI)) (vals:=[.slice jw b8.length jt]) (ys:=[b8]) T hS kr kr kr kr (by exact ⟨⟨jw,jt,rfl,h143⟩,trivial⟩) rfl kr kr kr kr ?_)
     intro b144 a Lr RA hE h147 hN hS
     clear hN
     have ⟨hO,h127,h128,h129,h136,h143⟩:=e6e hE hO.m2 h127.m2 h128.m1 h129.m1 h136.m1 h143.m1
     replace h147:=h147.rs0
     obtain ⟨hq,hm⟩:=hm
     obtain ⟨news,hN⟩:=h147.src
     refine op1 (append (E:=79) (T:=(aA tI)) (col:=1003) (xs:=mO) T hS kr kr kr kr h127 hN kr kr kr kr hq ?_)
     intro Rm Q7 a SU VK hE h150 hS
     clear hq hN
     clear h127
     have ⟨hO,h128,h129,h136,h143,h147⟩:=e6e hE hO.m2 h128.m1 h129.m1 h136.m1 h143.m1 h147.m1
     refine ePe T hS [21,22,23,24] [(3,Sl Rm (mO++[b8]) Q7)] fun a hS=>(region (ePe T hS [] [(16,I (wR (eV+1)))] fun a hS=>?_))
     exact ⟨⟨mO++[b8],wR (eV+1)⟩,⟨Z,_,Rm,Q7,hm.1,hS.sl _,hO,h150,h128,h129⟩,hm.2⟩
    replace hm:=hm.2 hb
    refine cl (by rfl) ?_
    exact ⟨Z,_,mO,ly,lu,hm,hS.sl _,hO,h127,h128⟩
   rintro a OG ⟨Z,D1,bw,jM,jL,hm,hS,hO,h116,h117⟩
   unfold VC19_J2 at hm
   refine region (ePe T hS [] [(10,I (wR (e9+1)))] fun a hS=>?_)
   exact ⟨⟨bw,wR (e9+1)⟩,⟨Z,_,jM,jL,hm.1,hS.sl _,hO,h116,h117⟩,hm.2⟩
  replace hm:=hm.2 hb
  refine cl (by rfl) ?_
  exact ⟨Z,_,dG,lQ,lP,hm,hS.sl _,hO,h110⟩
 rintro a Cv ⟨Z,VJ,dk,jx,ju,hm,hS,hO,h104⟩
 unfold VC19_J1 at hm
 refine rPe T hS [3] [(2,Sl jx dk ju)] fun a hS=>(aR ?_)
 obtain ⟨wX,hE,hF⟩:=h104.freeze (by decide)
 replace hS:=hS.ev hE (cq kr)
 replace hO:=hO.m2 hE
 have h106:=hF; clear hE hF
 exact fin T hS hO (fun c=>c) rfl (r:=[.slice jx dk.length ju]) kr (fun X' hM hC=>⟨dk,hm,jx,ju,rfl,h106.m0 hM⟩)
theorem C19 (TG:S58) (v:∀ (parts:List (List (List Int))),Br parts->VC19 parts (fun r=>r=fP parts)):S19:=fun w X parts a1 c1 hp h1=>mo1 (W19 TG w X parts a1 c1 _ (v parts hp) h1)
theorem W6 (Md:S18) (TU:S19) (TS:S20) (TR:S21) (Di:S22) (TQ:S23) (TP:S24) (zU:S25) (w0) (X0) (o_:ah) (l_:List ae) (a1) (c1) (a2) (c2) (Q:aL × Int->Prop) (hm:VC6 o_ l_ Q) (h1:RS aF w0 X0 a1 o_.Rows c1) (h2:RS ar w0 X0 a2 l_ c2) :
  rt 6 #[.agg #[ii o_.ab,ii o_.aP,ii o_.aU,.slice a1 o_.Rows.length c1],.slice a2 l_.length c2] aB w0 X0 (fun w X' v=>∃ r,Q r/\∃ dg de,v=.tuple #[.agg #[ii r.1.bC,.slice dg r.1.ai.length de],ii r.2]/\RS (aA tI) w X' dg r.1.ai de):=by
 unfold VC6 at hm
 replace hm:=hm (h1.sm kr)
 replace hm:=hm (h2.sm kr)
 refine enter Tryz.func6 rfl (vals:=[.agg #[ii o_.ab,ii o_.aP,ii o_.aU,.slice a1 o_.Rows.length c1],.slice a2 l_.length c2]) kr ?_
 intro Z a hS hO hM
 replace h1:=h1.m0 hM
 replace h2:=h2.m0 hM
 refine rM T hS ⟨[(1,Sl a2 l_ c2),(2,Pt 3 0),(4,Pt 5 0)],[(3,(24,(cO o_ a1 c1))),(5,(30,[I 0,V (.slice none 0 0)]))]⟩ fun Z a yY AL hS hE hr=>?_
 have ⟨hO,h1,h2⟩:=e3e hE hO.m2 h1.m1 h2.m1
 clear hE hr
 refine bk (oPe T hS 2 [] [(10,V (.agg #[ii o_.ab,ii o_.aP,ii o_.aU,.slice a1 o_.Rows.length c1])),(11,Sl a2 l_ c2)] fun a hS=>?_)
 obtain ⟨hq,hm⟩:=hm
 refine op1 (call hS kr kr hb18 kr (fun _ _=>rfl) (Md _ _ o_ l_ a1 c1 a2 c2 hq h1 h2) ?_)
 intro v101 a eI eN hE hp hS
 have ⟨hO,h1,h2⟩:=e3e hE hO.m2 h1.m1 h2.m1
 generalize hr:bo o_ l_=al at hp
 replace hm:=hm al hr
 subst hp
 refine eM T hS ⟨[(1,Sl a2 l_ c2),(2,Pt 3 0),(4,Pt 5 0),(6,Pt 7 0),(7,I al.2)],[(3,(24,(cO o_ a1 c1))),(5,(30,[I 0,V (.slice none 0 0)])),(7,(61,[I al.1.Ops,I al.1.ab]))]⟩ fun Z a OF NT hS hE hr=>?_
 have ⟨hO,h1,h2⟩:=e3e hE hO.m2 h1.m1 h2.m1
 clear hE hr
 refine a8 (rPe T hS [] [(16,B (al.2 != 0))] fun a hS=>?_)
 refine aC hS (b:=(al.2 != 0)) kr (fun hb=>?_) fun hb=>?_
 ·replace hm:=hm.1 hb
  refine rM T hS ⟨[(4,Pt 5 0),(5,I al.2)],[(5,(30,[I 0,V (.slice none 0 0)]))]⟩ fun Z a qj oW hS hE hr=>?_
  replace hO:=hO.m2 hE
  clear hE hr
  refine aR ?_
  exact fin T hS hO (fun c=>c) rfl (r:=[.agg #[ii 0,.slice none 0 0],ii al.2]) kr (fun X' hM hC=>⟨((⟨0,[]⟩:aL),al.2),hm,none,0,rfl,RS.empty _ _ _⟩)
 replace hm:=hm.2 hb
 refine aI (eT [3,5,7] mixed hS ?_)
 intro o8 oV hS hE hD hH
 have ⟨hO,h1,h2⟩:=e3e hE hO.m2 h1.m1 h2.m1
 refine tke T [0,2,3,6,7,10,11,8] [3,5,7] hS hH #[true,false,true,true,false,false,true,true,true,false,true,true,false,false,false,false] 8 [1,2] [(19,V (.agg #[ii al.1.Ops,ii al.1.ab])),(21,V (.agg #[ii al.1.Ops,ii al.1.ab])),(22,Sl a2 l_ c2),(25,V (.agg #[ii al.1.Ops,ii al.1.ab])),(27,I o_.aU),(29,V (.agg #[ii o_.ab,ii o_.aP,ii o_.aU,.slice a1 o_.Rows.length c1])),(30,Sl a2 l_ c2)] fun a hS=>(only 1 kr (by rfl) (call hS kr kr hb20 kr (fun _ _=>rfl) (TS _ _ al.1) ?_))
 intro v109 a EG AQ hE hp hS
 replace hO:=hO.m2 hE
 replace hD:=hD.ev hE rfl
 have ⟨h1,h2⟩:=e2e hE h1.m1 h2.m1
 obtain ⟨ni,ng,hp,h115⟩:=hp
 obtain ⟨aS,hr⟩:∃ r,cc al.1=r:=⟨_,rfl⟩
 replace hm:=hm aS hr
 rw [hr] at hp h115
 clear hr
 subst hp
 replace hm:=hm (h115.sm kr)
 replace hS:=hS.sle [] [(20,Sl ni aS ng)]
 refine cm (br.of hS (bks:=[3,5,7]) kr hD) ?_
 intro hH
 obtain ⟨hq,hm⟩:=hm
 refine only 4 kr (by rfl) (call hS kr kr hb22 kr (fun _ _=>rfl) (Di _ _ l_ a2 c2 hq h2) ?_)
 intro v116 a y5 yP hE hp hS
 replace hO:=hO.m2 hE
 replace hD:=hD.ev hE rfl
 have ⟨h1,h2,h115⟩:=e3e hE h1.m1 h2.m1 h115.m1
 obtain ⟨kG,kE,hp,h122⟩:=hp
 obtain ⟨cY,hr⟩:∃ r,bS l_=r:=⟨_,rfl⟩
 replace hm:=hm cY hr
 rw [hr] at hp h122
 clear hr
 subst hp
 replace hm:=hm (h122.sm kr)
 replace hS:=hS.sle [] [(23,Sl kG cY kE)]
 refine cm (br.of hS (bks:=[3,5,7]) kr hD) ?_
 intro hH
 obtain ⟨hq,hm⟩:=hm
 refine only 5 kr (by rfl) (call hS kr kr hb21 kr (fun _ _=>rfl) (TR _ _ al.1 cY kG kE hq h122) ?_)
 intro v123 a CB D2 hE hp hS
 replace hO:=hO.m2 hE
 replace hD:=hD.ev hE rfl
 have ⟨h1,h2,h115,h122⟩:=e4e hE h1.m1 h2.m1 h115.m1 h122.m1
 obtain ⟨wS,wI,hp,h129⟩:=hp
 obtain ⟨gm,hr⟩:∃ r,cH al.1 cY=r:=⟨_,rfl⟩
 replace hm:=hm gm hr
 rw [hr] at hp h129
 clear hr
 subst hp
 replace hm:=hm (h129.sm kr)
 replace hS:=hS.sle [] [(24,Sl wS gm wI)]
 refine cm (br.of hS (bks:=[3,5,7]) kr hD) ?_
 intro hH
 refine only 9 kr (by rfl) (call hS kr kr hb23 kr (fun _ _=>rfl) (TQ _ _ al.1 o_.aU) ?_)
 intro v130 a yZ JP hE hp hS
 replace hO:=hO.m2 hE
 replace hD:=hD.ev hE rfl
 have ⟨h1,h2,h115,h122,h129⟩:=e5e hE h1.m1 h2.m1 h115.m1 h122.m1 h129.m1
 obtain ⟨lx,lr,hp,h136⟩:=hp
 obtain ⟨mJ,hr⟩:∃ r,cb al.1 o_.aU=r:=⟨_,rfl⟩
 replace hm:=hm mJ hr
 rw [hr] at hp h136
 clear hr
 subst hp
 replace hm:=hm (h136.sm kr)
 replace hS:=hS.sle [] [(28,Sl lx mJ lr)]
 refine cm (br.of hS (bks:=[3,5,7]) kr hD) ?_
 intro hH
 obtain ⟨hq,hm⟩:=hm
 refine only 12 kr (by rfl) (call hS kr kr hb24 kr (fun _ _=>rfl) (TP _ _ o_ l_ a1 c1 a2 c2 hq h1 h2) ?_)
 intro v137 a Cy AM hE hp hS
 replace hO:=hO.m2 hE
 replace hD:=hD.ev hE rfl
 have ⟨h1,h2,h115,h122,h129,h136⟩:=e6e hE h1.m1 h2.m1 h115.m1 h122.m1 h129.m1 h136.m1
 obtain ⟨jw,jt,hp,h143⟩:=hp
 obtain ⟨b8,hr⟩:∃ r,cJ o_ l_=r:=⟨_,rfl⟩
 replace hm:=hm b8 hr
 rw [hr] at hp h143
 clear hr
 subst hp
 replace hm:=hm (h143.sm kr)
 replace hS:=hS.sle [] [(31,Sl jw b8 jt)]
 refine cm (br.of hS (bks:=[3,5,7]) kr hD) ?_
 intro hH
 refine only 13 kr (by rfl) (lit (E:=28) (col:=0) (T:=(aA (aA tI))) (vals:=[.slice ni aS.length ng,.slice wS gm.length wI,.slice lx mJ.length lr,.slice jw b8.length jt]) (ys:=[aS,gm,mJ,b8]) T hS kr kr kr kr (by exact ⟨⟨ni,ng,rfl,h115⟩,⟨wS,wI,rfl,h129⟩,⟨lx,lr,rfl,h136⟩,⟨jw,jt,rfl,h143⟩,trivial⟩) rfl kr kr kr kr ?_)
 intro b144 a Lr RA hE h147 hN hS
 clear hN
 replace hO:=hO.m2 hE
 replace hD:=hD.ev hE rfl
 have ⟨h1,h2,h115,h122,h129,h136,h143⟩:=e7e hE h1.m1 h2.m1 h115.m1 h122.m1 h129.m1 h136.m1 h143.m1
 replace h147:=h147.rs0
 refine cm (br.of hS (bks:=[3,5,7]) kr hD) ?_
 intro hH
 obtain ⟨hq,hm⟩:=hm
 refine only 14 kr (by rfl) (call hS kr kr hb19 kr (fun _ _=>rfl) (TU _ _ [aS,gm,mJ,b8] (some ⟨b144,0,none⟩) 4 hq h147) ?_)
 intro v148 a HM Hh hE hp hS
 replace hO:=hO.m2 hE
 replace hD:=hD.ev hE rfl
 have ⟨h1,h2,h115,h122,h129,h136,h143,h147⟩:=e8e hE h1.m1 h2.m1 h115.m1 h122.m1 h129.m1 h136.m1 h143.m1 h147.m1
 obtain ⟨ui,uf,hp,h154⟩:=hp
 obtain ⟨fQ,hr⟩:∃ r,fP [aS,gm,mJ,b8]=r:=⟨_,rfl⟩
 replace hm:=hm fQ hr
 rw [hr] at hp h154
 clear hr
 subst hp
 replace hm:=hm (h154.sm kr)
 replace hS:=hS.sle [] [(33,Sl ui fQ uf)]
 refine cm (br.of hS (bks:=[3,5,7]) kr hD) ?_
 intro hH
 refine tke T [15] [3,5,7] hS hH (tts 16) 0 [19,21,22,25,27,29,30,20,23,24,28,31,32,33] [(8,Sl ui fQ uf)] fun a hS=>(bn kr ?_)
 replace hS:=hS.sl ⟨[(4,Pt 5 0),(6,Pt 7 0),(8,Sl ui fQ uf)],[(5,(30,[I 0,V (.slice none 0 0)])),(7,(61,[I al.1.Ops,I al.1.ab]))]⟩
 refine bk (oP T hS 1 ⟨[(4,Pt 5 0),(8,Sl ui fQ uf),(34,V (.agg #[ii al.1.Ops,ii al.1.ab]))],[(5,(30,[I 0,V (.slice none 0 0)]))]⟩ fun a hS=>?_)
 refine op1 (call hS kr kr hb25 kr (fun _ _=>rfl) (zU _ _ al.1) ?_)
 intro v155 a OG Rx hE hp hS
 have ⟨hO,h154⟩:=e2e hE hO.m2 h154.m1
 generalize hr:aw al.1=zt at hp
 replace hm:=hm zt hr
 subst hp
 refine eM T hS ⟨[(4,Pt 5 0),(5,I 0)],[(5,(30,[I zt,Sl ui fQ uf]))]⟩ fun Z a EA NU hS hE hr=>?_
 have ⟨hO,h154⟩:=e2e hE hO.m2 h154.m1
 clear hE hr
 refine aR ?_
 exact fin T hS hO (fun c=>c) rfl (r:=[.agg #[ii zt,.slice ui fQ.length uf],ii 0]) kr (fun X' hM hC=>⟨((⟨zt,fQ⟩:aL),0),hm,ui,uf,rfl,h154.m0 hM⟩)
theorem C6 (Md:S18) (TU:S19) (TS:S20) (TR:S21) (Di:S22) (TQ:S23) (TP:S24) (zU:S25) (v:∀ (o_:ah) (l_:List ae),q9 o_ l_->VC6 o_ l_ (fun r=>r=bg o_ l_)):S6:=fun w X o_ l_ a1 c1 a2 c2 hp h1 h2=>mo1 (W6 Md TU TS TR Di TQ TP zU w X o_ l_ a1 c1 a2 c2 _ (v o_ l_ hp) h1 h2)
theorem W169 (w0) (X0) (x_:Int) (y_:Int) (Q:Int × Int->Prop) (hm:VC169 x_ y_ Q) :
  rt 169 #[.int .u64 x_,.int .u64 y_] aB w0 X0 (fun w X' v=>∃ r,Q r/\v=.tuple #[.int .u64 r.1,.int .u64 r.2]):=by
 unfold VC169 at hm
 refine enter Tryz.func169 rfl (vals:=[.int .u64 x_,.int .u64 y_]) kr ?_
 intro Z a hS hO hM
 refine rPe T hS [] [] fun a hS=>(rPe T hS [] [(6,V (.int .u64 (IntKind.u64.wrap ((BitVec.ofInt IntKind.u64.bits x_ &&& BitVec.ofInt IntKind.u64.bits 4294967295).toNat:Int))))] fun a hS=>?_)
 refine rPe T hS [] [(7,V (.int .u64 ((x_).fdiv (2 ^ 32))))] fun a hS=>(rPe T hS [] [(8,V (.int .u64 (IntKind.u64.wrap ((BitVec.ofInt IntKind.u64.bits y_ &&& BitVec.ofInt IntKind.u64.bits 4294967295).toNat:Int))))] fun a hS=>?_)
 refine rPe T hS [] [(9,V (.int .u64 ((y_).fdiv (2 ^ 32))))] fun a hS=>(rPe T hS [] [(10,V (.int .u64 (IntKind.u64.wrap ((IntKind.u64.wrap ((BitVec.ofInt IntKind.u64.bits x_ &&& BitVec.ofInt IntKind.u64.bits 4294967295).toNat:Int)) * (IntKind.u64.wrap ((BitVec.ofInt IntKind.u64.bits y_ &&& BitVec.ofInt IntKind.u64.bits 4294967295).toNat:Int))))))] fun a hS=>?_)
 refine rPe T hS [8,10] [(11,V (.int .u64 (IntKind.u64.wrap ((IntKind.u64.wrap (((x_).fdiv (2 ^ 32)) * (IntKind.u64.wrap ((BitVec.ofInt IntKind.u64.bits y_ &&& BitVec.ofInt IntKind.u64.bits 4294967295).toNat:Int))))+(((IntKind.u64.wrap ((IntKind.u64.wrap ((BitVec.ofInt IntKind.u64.bits x_ &&& BitVec.ofInt IntKind.u64.bits 4294967295).toNat:Int)) * (IntKind.u64.wrap ((BitVec.ofInt IntKind.u64.bits y_ &&& BitVec.ofInt IntKind.u64.bits 4294967295).toNat:Int))))).fdiv (2 ^ 32))))))] fun a hS=>(rPe T hS [] [(12,V (.int .u64 (IntKind.u64.wrap ((BitVec.ofInt IntKind.u64.bits (IntKind.u64.wrap ((IntKind.u64.wrap (((x_).fdiv (2 ^ 32)) * (IntKind.u64.wrap ((BitVec.ofInt IntKind.u64.bits y_ &&& BitVec.ofInt IntKind.u64.bits 4294967295).toNat:Int))))+(((IntKind.u64.wrap ((IntKind.u64.wrap ((BitVec.ofInt IntKind.u64.bits x_ &&& BitVec.ofInt IntKind.u64.bits 4294967295).toNat:Int)) * (IntKind.u64.wrap ((BitVec.ofInt IntKind.u64.bits y_ &&& BitVec.ofInt IntKind.u64.bits 4294967295).toNat:Int))))).fdiv (2 ^ 32)))) &&& BitVec.ofInt IntKind.u64.bits 4294967295).toNat:Int))))] fun a hS=>?_)
 refine rPe T hS [11] [(13,V (.int .u64 (((IntKind.u64.wrap ((IntKind.u64.wrap (((x_).fdiv (2 ^ 32)) * (IntKind.u64.wrap ((BitVec.ofInt IntKind.u64.bits y_ &&& BitVec.ofInt IntKind.u64.bits 4294967295).toNat:Int))))+(((IntKind.u64.wrap ((IntKind.u64.wrap ((BitVec.ofInt IntKind.u64.bits x_ &&& BitVec.ofInt IntKind.u64.bits 4294967295).toNat:Int)) * (IntKind.u64.wrap ((BitVec.ofInt IntKind.u64.bits y_ &&& BitVec.ofInt IntKind.u64.bits 4294967295).toNat:Int))))).fdiv (2 ^ 32))))).fdiv (2 ^ 32))))] fun a hS=>(rPe T hS [6] [(12,V (.int .u64 (IntKind.u64.wrap ((IntKind.u64.wrap ((BitVec.ofInt IntKind.u64.bits (IntKind.u64.wrap ((IntKind.u64.wrap (((x_).fdiv (2 ^ 32)) * (IntKind.u64.wrap ((BitVec.ofInt IntKind.u64.bits y_ &&& BitVec.ofInt IntKind.u64.bits 4294967295).toNat:Int))))+(((IntKind.u64.wrap ((IntKind.u64.wrap ((BitVec.ofInt IntKind.u64.bits x_ &&& BitVec.ofInt IntKind.u64.bits 4294967295).toNat:Int)) * (IntKind.u64.wrap ((BitVec.ofInt IntKind.u64.bits y_ &&& BitVec.ofInt IntKind.u64.bits 4294967295).toNat:Int))))).fdiv (2 ^ 32)))) &&& BitVec.ofInt IntKind.u64.bits 4294967295).toNat:Int))+(IntKind.u64.wrap ((IntKind.u64.wrap ((BitVec.ofInt IntKind.u64.bits x_ &&& BitVec.ofInt IntKind.u64.bits 4294967295).toNat:Int)) * ((y_).fdiv (2 ^ 32))))))))] fun a hS=>?_)
 refine rPe T hS [7,9,12,13] [(4,V (.int .u64 (IntKind.u64.wrap ((IntKind.u64.wrap ((IntKind.u64.wrap (((x_).fdiv (2 ^ 32)) * ((y_).fdiv (2 ^ 32))))+(((IntKind.u64.wrap ((IntKind.u64.wrap (((x_).fdiv (2 ^ 32)) * (IntKind.u64.wrap ((BitVec.ofInt IntKind.u64.bits y_ &&& BitVec.ofInt IntKind.u64.bits 4294967295).toNat:Int))))+(((IntKind.u64.wrap ((IntKind.u64.wrap ((BitVec.ofInt IntKind.u64.bits x_ &&& BitVec.ofInt IntKind.u64.bits 4294967295).toNat:Int)) * (IntKind.u64.wrap ((BitVec.ofInt IntKind.u64.bits y_ &&& BitVec.ofInt IntKind.u64.bits 4294967295).toNat:Int))))).fdiv (2 ^ 32))))).fdiv (2 ^ 32))))+(((IntKind.u64.wrap ((IntKind.u64.wrap ((BitVec.ofInt IntKind.u64.bits (IntKind.u64.wrap ((IntKind.u64.wrap (((x_).fdiv (2 ^ 32)) * (IntKind.u64.wrap ((BitVec.ofInt IntKind.u64.bits y_ &&& BitVec.ofInt IntKind.u64.bits 4294967295).toNat:Int))))+(((IntKind.u64.wrap ((IntKind.u64.wrap ((BitVec.ofInt IntKind.u64.bits x_ &&& BitVec.ofInt IntKind.u64.bits 4294967295).toNat:Int)) * (IntKind.u64.wrap ((BitVec.ofInt IntKind.u64.bits y_ &&& BitVec.ofInt IntKind.u64.bits 4294967295).toNat:Int))))).fdiv (2 ^ 32)))) &&& BitVec.ofInt IntKind.u64.bits 4294967295).toNat:Int))+(IntKind.u64.wrap ((IntKind.u64.wrap ((BitVec.ofInt IntKind.u64.bits x_ &&& BitVec.ofInt IntKind.u64.bits 4294967295).toNat:Int)) * ((y_).fdiv (2 ^ 32))))))).fdiv (2 ^ 32))))))] fun a hS=>(rPe T hS [0,1] [(5,V (.int .u64 (IntKind.u64.wrap (x_ * y_))))] fun a hS=>?_)
 refine aR ?_
 exact fin T hS hO (fun c=>c) rfl (r:=[.int .u64 (IntKind.u64.wrap ((IntKind.u64.wrap ((IntKind.u64.wrap (((x_).fdiv (2 ^ 32)) * ((y_).fdiv (2 ^ 32))))+(((IntKind.u64.wrap ((IntKind.u64.wrap (((x_).fdiv (2 ^ 32)) * (IntKind.u64.wrap ((BitVec.ofInt IntKind.u64.bits y_ &&& BitVec.ofInt IntKind.u64.bits 4294967295).toNat:Int))))+(((IntKind.u64.wrap ((IntKind.u64.wrap ((BitVec.ofInt IntKind.u64.bits x_ &&& BitVec.ofInt IntKind.u64.bits 4294967295).toNat:Int)) * (IntKind.u64.wrap ((BitVec.ofInt IntKind.u64.bits y_ &&& BitVec.ofInt IntKind.u64.bits 4294967295).toNat:Int))))).fdiv (2 ^ 32))))).fdiv (2 ^ 32))))+(((IntKind.u64.wrap ((IntKind.u64.wrap ((BitVec.ofInt IntKind.u64.bits (IntKind.u64.wrap ((IntKind.u64.wrap (((x_).fdiv (2 ^ 32)) * (IntKind.u64.wrap ((BitVec.ofInt IntKind.u64.bits y_ &&& BitVec.ofInt IntKind.u64.bits 4294967295).toNat:Int))))+(((IntKind.u64.wrap ((IntKind.u64.wrap ((BitVec.ofInt IntKind.u64.bits x_ &&& BitVec.ofInt IntKind.u64.bits 4294967295).toNat:Int)) * (IntKind.u64.wrap ((BitVec.ofInt IntKind.u64.bits y_ &&& BitVec.ofInt IntKind.u64.bits 4294967295).toNat:Int))))).fdiv (2 ^ 32)))) &&& BitVec.ofInt IntKind.u64.bits 4294967295).toNat:Int))+(IntKind.u64.wrap ((IntKind.u64.wrap ((BitVec.ofInt IntKind.u64.bits x_ &&& BitVec.ofInt IntKind.u64.bits 4294967295).toNat:Int)) * ((y_).fdiv (2 ^ 32))))))).fdiv (2 ^ 32)))),.int .u64 (IntKind.u64.wrap (x_ * y_))]) kr (fun X' hM hC=>⟨_,hm,rfl⟩)
theorem C169 (v:∀ (x_:Int) (y_:Int),mV x_ y_->VC169 x_ y_ (fun r=>r=eX x_ y_)):S169:=fun w X x_ y_ hp=>mo1 (W169 w X x_ y_ _ (v x_ y_ hp))
theorem W127 (Me:S169) (w0) (X0) (x_:Int) (y_:Int) (Q:Int × Int->Prop) (hm:VC127 x_ y_ Q) :
  rt 127 #[.int .u64 x_,.int .u64 y_] aB w0 X0 (fun w X' v=>∃ r,Q r/\v=.tuple #[.int .u64 r.1,.int .u64 r.2]):=by
 unfold VC127 at hm
 refine enter Tryz.func127 rfl (vals:=[.int .u64 x_,.int .u64 y_]) kr ?_
 intro Z a hS hO hM
 refine rPe T hS [] [] fun a hS=>(a8 ?_)
 refine aC hS (b:=false) kr (fun hb=>by cases hb) (fun _=>?_)
 refine aI (bk ?_)
 refine oPe T hS 2 [0,1] [(23,V (.int .u64 x_)),(24,V (.int .u64 y_))] fun a hS=>?_
 obtain ⟨hq,hm⟩:=hm
 refine op1 (call hS kr kr hb169 kr (fun _ _=>rfl) (Me _ _ x_ y_ hq) ?_)
 intro v101 a eI eN hE hp hS
 replace hO:=hO.m2 hE
 generalize hr:eX x_ y_=al at hp
 replace hm:=hm al hr
 subst hp
 refine ePe T hS [23,24,25] [(8,V (.int .u64 al.1)),(9,V (.int .u64 al.2))] fun a hS=>(rPe T hS [8,9] [(4,V (.int .u64 al.1)),(5,V (.int .u64 al.2))] fun a hS=>?_)
 refine aR ?_
 exact fin T hS hO (fun c=>c) rfl (r:=[.int .u64 al.1,.int .u64 al.2]) kr (fun X' hM hC=>⟨_,hm,rfl⟩)
theorem C127 (Me:S169) (v:∀ (x_:Int) (y_:Int),mV x_ y_->VC127 x_ y_ (fun r=>r=fN x_ y_)):S127:=fun w X x_ y_ hp=>mo1 (W127 Me w X x_ y_ _ (v x_ y_ hp))
end Go.Proofs.YtobeanopikjkeaaGreat
