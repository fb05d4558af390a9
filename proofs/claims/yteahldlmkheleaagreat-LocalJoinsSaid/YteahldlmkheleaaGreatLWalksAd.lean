/- Walks of the functions: each returns what its condition asks. -/
import Derived.Test.YteahldlmkheleaaGreatLWalksS
set_option linter.all false
namespace Go.Proofs.YteahldlmkheleaaGreat
open Go Go.Sv
abbrev zAd0 (jD dU cM:Nat):Nat->Nat:=fun c=>(bif Nat.beq c 13 then jD else (bif Nat.beq c 1011 then dU else (bif Nat.beq c 1010 then cM else c)))
abbrev zAd1 (cM:Nat):Nat->Nat:=fun c=>(bif Nat.beq c 1005 then cM else c)
abbrev zAd2 (i1 m1 m4 m5:Nat):List (Nat × Nat):=[(i1,901),(m1,2001),(m4,2004),(m5,2005)]
set_option maxHeartbeats 1000000
theorem W90 (N) (GJ:S100) (GI:S101) (GH:S102N N) (GG:S105) (w0) (X0) (state:Int) (so:List aa) (aq:a8) (a1) (c1) (m1) (a2) (c2) (a3) (c3) (a4) (c4) (m4) (r5) (m5) (b1) (i1) (Q:(List aa) × Bool × a8->Prop) (hm:VC90 N state so aq Q) (h1:OS av 56 w0 X0 m1 a1 so c1) (h2:RS aB w0 X0 a2 aq.o.Rows c2) (h3:RS ar w0 X0 a3 aq.l c3) (h4:OS dJ 4 w0 X0 m4 a4 aq.done c4) (h5:OMS aU tI false w0 X0 m5 r5 aq.failed) (fF:Cell w0 X0 b1 i1 161 [.int .i64 aq.o.au,.int .i64 aq.o.aA,.int .i64 aq.o.aH,.slice a2 aq.o.Rows.length c2,.slice a3 aq.l.length c3,.slice a4 aq.done.length c4,.map (some r5)]) (hA:dS [i1,m1,m4,m5]) :
  Ret Tryz.prog 90 #[.pointer (some ⟨b1,0,none⟩),.int .i64 state,.slice a1 so.length c1] (pR [i1,m1,m4,m5]) w0 X0 (fun w X' v=>∃ r,Q r/\∃ cQ cN jg jf pK pJ yH yG,v=.tuple #[.slice cQ r.1.length cN,.bool r.2.1]/\OS av 56 w X' m1 cQ r.1 cN/\RS aB w X' jg r.2.2.o.Rows jf/\RS ar w X' pK r.2.2.l pJ/\OS dJ 4 w X' m4 yH r.2.2.done yG/\Cell w X' b1 i1 161 [.int .i64 r.2.2.o.au,.int .i64 r.2.2.o.aA,.int .i64 r.2.2.o.aH,.slice jg r.2.2.o.Rows.length jf,.slice pK r.2.2.l.length pJ,.slice yH r.2.2.done.length yG,.map (some r5)]/\OMS aU tI false w X' m5 r5 r.2.2.failed):=by
 unfold VC90 at hm
 replace hm:=hm (h1.sm kr)
 replace hm:=hm (h2.sm kr)
 replace hm:=hm (h3.sm kr)
 replace hm:=hm (h4.sm kr)
 refine fT Tryz.func90 rfl (dH (zAd2 i1 m1 m4 m5)) (fun id=>(bif Nat.beq id 901 then b1 else 0)) (args:=[Pt 901 0,I state,Sl a1 so c1]) (bxs:=[(901,(161,[I aq.o.au,I aq.o.aA,I aq.o.aH,Sl a2 aq.o.Rows c2,Sl a3 aq.l c3,Sl a4 aq.done c4,V (.map (some r5))]))]) kr rfl (bq.cons kr (fF.map (bQ 0 hA.1 rfl)) bq.nil) (fJ (fun q hq=>(hA.2 q.1 (List.mem_map.2 ⟨q,hq,rfl⟩)).1)) ?_
 intro a hS hO hM
 have hP:Pin [(901,b1)] (fun id=>(bif Nat.beq id 901 then b1 else 0)):=by intro q hq; simp at hq; rcases hq with rfl <;> rfl
 generalize (fun id=>(bif Nat.beq id 901 then b1 else 0))=Z at hS hP
 clear fF
 replace h1:=h1.map (f:=dH (zAd2 i1 m1 m4 m5)) (bQ 1 hA.1 rfl) hM
 replace h2:=h2.m0 hM
 replace h3:=h3.m0 hM
 replace h4:=h4.map (f:=dH (zAd2 i1 m1 m4 m5)) (bQ 2 hA.1 rfl) hM
 replace h5:=h5.map (f:=dH (zAd2 i1 m1 m4 m5)) (bQ 3 hA.1 rfl) hM
 refine rM T hS ⟨[(3,Pt 4 0),(4,Pt 5 0),(5,Pt 6 0)],[(4,(147,[Pt 901 0])),(5,(3,[I state])),(6,(26,[Sl a1 so c1])),(901,(161,[I aq.o.au,I aq.o.aA,I aq.o.aH,Sl a2 aq.o.Rows c2,Sl a3 aq.l c3,Sl a4 aq.done c4,V (.map (some r5))]))]⟩ fun Z a OH QY hS hE hr=>?_
 replace hO:=hO.m2 hE
 replace h1:=h1.m2 hE
 replace h2:=h2.m1 hE
 replace h3:=h3.m1 hE
 replace h4:=h4.m2 hE
 replace h5:=h5.m2 hE
 replace hP:=hP.mv hr kr
 clear hE hr
 refine bh ?_
 refine br ?_
 refine oPe T hS 1 [] [(14,Pt 901 0)] fun a hS=>?_
 have hb105:=(hS.cell (id:=901) (t:=161) (cs:=[I aq.o.au,I aq.o.aA,I aq.o.aH,Sl a2 aq.o.Rows c2,Sl a3 aq.l c3,Sl a4 aq.done c4,V (.map (some r5))]) kr)
 have Fb:=h5
 obtain ⟨hq,hm⟩:=hm
 refine op1 (l9 hS kr kr hb100 kr (Ret.tz kr (GJ _ (eL 2004 _) aq a2 c2 a3 c3 a4 c4 r5 2005 (Z 901) 901 hq (h2.m0 (M0.eL 2004)) (h3.m0 (M0.eL 2004)) h4.eL (h5.E0 kr) (hb105.eL kr) ⟨by decide,by decide⟩)) ?_)
 intro v101 a fH fK hE hp hS
 clear h5
 replace hO:=hO.m2 hE
 replace h1:=h1.m2 hE
 replace h2:=h2.m1 hE
 replace h3:=h3.m1 hE
 replace h4:=h4.m2 hE
 obtain ⟨l6,_,hp⟩:=hp
 obtain ⟨hp,rm,h108⟩:=hp
 replace rm:=rm.back hb105 l6
 replace h108:=h108.back Fb l6 (fun h=>h)
 clear l6 hb105 Fb
 obtain ⟨ay,hr⟩:∃ r,dP aq=r:=⟨_,rfl⟩
 replace hm:=hm ay hr
 rw [hr] at hp
 clear hr
 subst hp
 replace hS:=hS.cI (id:=901) (t:=161) (cs:=[I aq.o.au,I aq.o.aA,I aq.o.aH,Sl a2 aq.o.Rows c2,Sl a3 aq.l c3,Sl a4 aq.done c4,V (.map (some r5))]) kr rm
 clear rm
 refine iy ?_
 refine aI hS (b:=ay) kr (fun hb=>?_) fun hb=>?_
 ·replace hm:=hm.1 hb
  refine rP T hS ⟨[(6,Sl a1 so c1),(7,B true)],[(901,(161,[I aq.o.au,I aq.o.aA,I aq.o.aH,Sl a2 aq.o.Rows c2,Sl a3 aq.l c3,Sl a4 aq.done c4,V (.map (some r5))]))]⟩ fun a hS=>?_
  refine ba ?_
  exact g9 T hS hO (fun c h=>bZ kr h) (fun c h=>b0 (l:=(zAd2 i1 m1 m4 m5)) h) (bT (zAd2 i1 m1 m4 m5)) rfl (r:=[.slice a1 so.length c1,.bool true]) kr (fun X' hM hC=>⟨(so,true,aq),hm,a1,c1,a2,c2,a3,c3,a4,c4,rfl,(OS.out (f:=(bT (zAd2 i1 m1 m4 m5))) h1 hM hC kr),h2.m0 hM,h3.m0 hM,(OS.out (f:=(bT (zAd2 i1 m1 m4 m5))) h4 hM hC kr),((hS.cell (id:=901) (t:=161) (cs:=[I aq.o.au,I aq.o.aA,I aq.o.aH,Sl a2 aq.o.Rows c2,Sl a3 aq.l c3,Sl a4 aq.done c4,V (.map (some r5))]) kr).out (f:=(bT (zAd2 i1 m1 m4 m5))) hC kr kr (hP.at 0 rfl)),(h108.out (f:=(bT (zAd2 i1 m1 m4 m5))) hM hC kr kr)⟩)
 replace hm:=hm.2 hb
 refine aO ?_
 refine br ?_
 refine oPe T hS 2 [15] [(17,Pt 901 0),(18,I state)] fun a hS=>?_
 have hb113:=(hS.cell (id:=901) (t:=161) (cs:=[I aq.o.au,I aq.o.aA,I aq.o.aH,Sl a2 aq.o.Rows c2,Sl a3 aq.l c3,Sl a4 aq.done c4,V (.map (some r5))]) kr)
 have Fa:=h108
 refine op1 (l9 hS kr kr hb101 kr (Ret.tz kr (GI _ (eL 2004 _) state aq a2 c2 a3 c3 a4 c4 r5 2005 (Z 901) 901 (h2.m0 (M0.eL 2004)) (h3.m0 (M0.eL 2004)) h4.eL (h108.E0 kr) (hb113.eL kr) ⟨by decide,by decide⟩)) ?_)
 intro v109 a F3 Hp hE hp hS
 clear h108
 replace hO:=hO.m2 hE
 replace h1:=h1.m2 hE
 replace h2:=h2.m1 hE
 replace h3:=h3.m1 hE
 replace h4:=h4.m2 hE
 obtain ⟨l6,_,hp⟩:=hp
 obtain ⟨hp,zB,h116⟩:=hp
 replace zB:=zB.back hb113 l6
 replace h116:=h116.back Fa l6 (fun h=>h)
 clear l6 hb113 Fa
 obtain ⟨bM,hr⟩:∃ r,dD state aq=r:=⟨_,rfl⟩
 replace hm:=hm bM hr
 rw [hr] at hp
 clear hr
 subst hp
 replace hS:=hS.cI (id:=901) (t:=161) (cs:=[I aq.o.au,I aq.o.aA,I aq.o.aH,Sl a2 aq.o.Rows c2,Sl a3 aq.l c3,Sl a4 aq.done c4,V (.map (some r5))]) kr zB
 clear zB
 refine eM T hS ⟨[(3,Pt 4 0),(4,Pt 5 0),(5,Pt 6 0),(8,Pt 9 0)],[(4,(147,[Pt 901 0])),(5,(3,[I state])),(6,(26,[Sl a1 so c1])),(9,(164,[V (.int .u32 bM.done),I bM.state])),(901,(161,[I aq.o.au,I aq.o.aA,I aq.o.aH,Sl a2 aq.o.Rows c2,Sl a3 aq.l c3,Sl a4 aq.done c4,V (.map (some r5))]))]⟩ fun Z a OJ Q0 hS hE hr=>?_
 replace hO:=hO.m2 hE
 replace h1:=h1.m2 hE
 replace h2:=h2.m1 hE
 replace h3:=h3.m1 hE
 replace h4:=h4.m2 hE
 replace h116:=h116.m2 hE
 replace hP:=hP.mv hr kr
 clear hE hr
 refine bh ?_
 refine dB [4,5,6,9,901] mixed hS ?_
 intro Bs EP hS hE hD hH
 replace hO:=hO.m2 hE
 replace h1:=h1.m2 hE
 replace h2:=h2.m1 hE
 replace h3:=h3.m1 hE
 replace h4:=h4.m2 hE
 replace h116:=h116.m2 hE
 refine tke T [0,4,1,2,3] [4,5,6,9,901] hS hH #[true,true,true,true,true,false,false] 2 [] [(23,V (.map (some r5))),(24,V (.agg #[.int .u32 bM.done,.int .i64 bM.state]))] fun a hS=>?_
 refine only 5 kr (by rfl) (B7 aU tI false (zv:=.int .i64 0) (z:=0) bM hS kr kr kr kr Tryz.underlying159 gp kr rfl h116 ?_)
 intro v119 a hv hS
 replace hv:tI.R _ _ [v119] _:=hv
 cases hv
 refine da (bO.of hS (bks:=[4,5,6,9,901]) kr hD) ?_
 intro hH
 refine tke T [6] [4,5,6,9,901] hS hH (tts 7) 0 [23,24,25] [(26,B (decide (((aF aq.failed bM).getD 0) > 0)))] fun a hS=>?_
 refine aY kr ?_
 replace hS:=hS.sle [] []
 refine aI hS (b:=decide (((aF aq.failed bM).getD 0) > 0)) kr (fun hb=>?_) fun hb=>?_
 ·replace hm:=hm.1 hb
  refine rP T hS ⟨[(6,V (.slice none 0 0)),(7,B false)],[(901,(161,[I aq.o.au,I aq.o.aA,I aq.o.aH,Sl a2 aq.o.Rows c2,Sl a3 aq.l c3,Sl a4 aq.done c4,V (.map (some r5))]))]⟩ fun a hS=>?_
  refine ba ?_
  exact g9 T hS hO (fun c h=>bZ kr h) (fun c h=>b0 (l:=(zAd2 i1 m1 m4 m5)) h) (bT (zAd2 i1 m1 m4 m5)) rfl (r:=[.slice none 0 0,.bool false]) kr (fun X' hM hC=>⟨([],false,aq),hm,none,0,a2,c2,a3,c3,a4,c4,rfl,OS.nil _ _ _ _ _,h2.m0 hM,h3.m0 hM,(OS.out (f:=(bT (zAd2 i1 m1 m4 m5))) h4 hM hC kr),((hS.cell (id:=901) (t:=161) (cs:=[I aq.o.au,I aq.o.aA,I aq.o.aH,Sl a2 aq.o.Rows c2,Sl a3 aq.l c3,Sl a4 aq.done c4,V (.map (some r5))]) kr).out (f:=(bT (zAd2 i1 m1 m4 m5))) hC kr kr (hP.at 0 rfl)),(h116.out (f:=(bT (zAd2 i1 m1 m4 m5))) hM hC kr kr)⟩)
 replace hm:=hm.2 hb
 refine aO ?_
 refine rPe T hS [5,26] [(9,.f (.func 102) [] [.p 4 0,.p 5 0,.p 6 0])] fun a hS=>?_
 refine cb (fun a w=>∃ (Z:Nat->Nat) (X:Nat->Nat) (eE:Int) (iM:Int) (aX:Int) (iJ:List bc) (eZ:List ab) (gd:List Bool) (gv:List (b7 × Int)) (kC:Option Addr) (kx:Nat) (kO:Option Addr) (kM:Nat) (hU:Option Addr) (hK:Nat),VC90_J1 N state Q bM eE iM aX iJ eZ gd gv/\St Tryz.f90.ntmps ⟨[(3,Pt 4 0),(8,Pt 9 0)],[(4,(147,[Pt 901 0])),(9,(164,[V (.int .u32 bM.done),I bM.state])),(901,(161,[I eE,I iM,I aX,Sl kC iJ kx,Sl kO eZ kM,Sl hU gd hK,V (.map (some r5))]))]⟩ Z a w X/\gq (dH (zAd2 i1 m1 m4 m5)) w0 X0 w X/\Pin [(901,b1)] Z/\RS aB w X kC iJ kx/\RS ar w X kO eZ kM/\OS dJ 4 w X 2004 hU gd hK/\OMS aU tI false w X 2005 r5 gv) ?_ ?_
 ·refine dB [4,5,6,9] mixed hS ?_
  intro DF EI hS hE hD hH
  replace hO:=hO.m2 hE
  replace h1:=h1.m2 hE
  replace h2:=h2.m1 hE
  replace h3:=h3.m1 hE
  replace h4:=h4.m2 hE
  replace h116:=h116.m2 hE
  refine tke T [0,4,8,9,15,1,5,10,2,6,11] [4,5,6,9] hS hH #[true,true,true,false,true,true,true,false,true,true,true,true,false,false,false,true] 5 [4] [(30,Pt 901 0),(34,Pt 901 4),(36,I state),(39,Pt 901 5),(43,I 0)] fun a hS=>?_
  refine zK (fun a w=>∃ X,St Tryz.f90.ntmps ⟨[(3,Pt 4 0),(8,Pt 9 0),(9,.f (.func 102) [] [.p 4 0,.p 5 0,.p 6 0]),(31,V (.agg #[.int .i64 aq.o.au,.int .i64 aq.o.aA,.int .i64 aq.o.aH,.slice a2 aq.o.Rows.length c2])),(35,Sl a3 aq.l c3),(36,I state),(40,Sl a4 aq.done c4),(43,I 0)],[(4,(147,[Pt 901 0])),(5,(3,[I state])),(6,(26,[Sl a1 so c1])),(9,(164,[V (.int .u32 bM.done),I bM.state])),(901,(161,[I aq.o.au,I aq.o.aA,I aq.o.aH,Sl a2 aq.o.Rows c2,Sl a3 aq.l c3,Sl a4 aq.done c4,V (.map (some r5))]))]⟩ Z a w X/\gq (dH (zAd2 i1 m1 m4 m5)) w0 X0 w X/\M0 DF EI w X/\bO DF EI (mZ [4,5,6,9] ⟨[(3,Pt 4 0),(4,Pt 5 0),(8,Pt 9 0),(9,.f (.func 102) [] [.p 4 0,.p 5 0,.p 6 0])],[(4,(147,[Pt 901 0])),(5,(3,[I state])),(6,(26,[Sl a1 so c1])),(9,(164,[V (.int .u32 bM.done),I bM.state])),(901,(161,[I aq.o.au,I aq.o.aA,I aq.o.aH,Sl a2 aq.o.Rows c2,Sl a3 aq.l c3,Sl a4 aq.done c4,V (.map (some r5))]))]⟩) Z w/\RS aB w X a2 aq.o.Rows c2/\RS ar w X a3 aq.l c3/\OS dJ 4 w X 2004 a4 aq.done c4/\OS av 56 w X 2001 a1 so c1/\OMS aU tI false w X 2005 r5 aq.failed) #[true,true,true,true,true,true,true,true,true,true,true,true,true,false,false,true] 2 ?_ (fun H=>?_)
  ·rintro a FW ⟨Na,hS,hO,hD,hH,h180,h181,h182,h183,h184⟩
   obtain ⟨hq,hm⟩:=hm
   refine only 13 kr (by rfl) (call hS kr kr hb105 kr (fun _ _=>rfl) (Ret.DT (GG _ (eL 2004 _) aq.o aq.l state aq.done a2 c2 a3 c3 a4 c4 4193 hq (h180.m0 (M0.eL 2004)) (h181.m0 (M0.eL 2004)) h182.eL)) ?_)
   intro v187 a O9 Rm hE hp hS
   replace hO:=hO.m2 hE
   replace hD:=hD.ev hE rfl
   replace h180:=h180.m1 hE
   replace h181:=h181.m1 hE
   replace h182:=h182.m2 hE
   replace h183:=h183.m2 hE
   replace h184:=h184.m2 hE
   obtain ⟨_,FB,hp⟩:=hp
   obtain ⟨uG,uz,hp,h193⟩:=hp
   replace h193:=h193.JF FB kr (fun h=>h)
   clear FB
   obtain ⟨nD,hr⟩:∃ r,bL aq.o aq.l state aq.done=r:=⟨_,rfl⟩
   replace hm:=hm nD hr
   rw [hr] at hp h193
   clear hr
   subst hp
   replace hm:=hm (h193.sm kr)
   replace hS:=hS.sle [] [(41,Sl uG nD uz)]
   refine da (bO.of hS (bks:=[4,5,6,9]) kr hD) ?_
   intro hH
   refine tke T [14] [4,5,6,9] hS hH (tts 16) 0 [31,35,36,40] [(42,I (lN nD))] fun a hS=>?_
   refine aY kr ?_
   replace hS:=hS.sle [] []
   refine aQ ?_
   obtain ⟨Rl,hE,hF⟩:=h183.freeze (by decide)
   replace hS:=hS.ev hE (c6 kr)
   replace hO:=hO.m2 hE
   replace h180:=h180.m1 hE
   replace h181:=h181.m1 hE
   replace h182:=h182.m2 hE
   replace h184:=h184.m2 hE
   replace h193:=h193.m2 hE
   have h195:=hF; clear hE hF
   obtain ⟨I1,μ1,cJ,hm⟩:=hm
   refine cH (σ:=(List aa) × Int × Int × Int × Int × (List bc) × (List ab) × (List Bool) × (List (b7 × Int))) (fun s a w=>∃ Z X nX nT oT oM wJ wy wI wx,I1 s.1 s.2.1 s.2.2.1 s.2.2.2.1 s.2.2.2.2.1 s.2.2.2.2.2.1 s.2.2.2.2.2.2.1 s.2.2.2.2.2.2.2.1 s.2.2.2.2.2.2.2.2/\St Tryz.f90.ntmps ⟨[(3,Pt 4 0),(8,Pt 9 0),(9,.f (.func 102) [] [.p 4 0,.p 5 0,.p 6 0]),(41,Sl nX s.1 nT),(42,I (lN nD)),(43,I s.2.1)],[(4,(147,[Pt 901 0])),(5,(3,[I state])),(6,(26,[Sl a1 so c1])),(9,(164,[V (.int .u32 bM.done),I bM.state])),(901,(161,[I s.2.2.1,I s.2.2.2.1,I s.2.2.2.2.1,Sl oT s.2.2.2.2.2.1 oM,Sl wJ s.2.2.2.2.2.2.1 wy,Sl wI s.2.2.2.2.2.2.2.1 wx,V (.map (some r5))]))]⟩ Z a w X/\gq (dH (zAd2 i1 m1 m4 m5)) w0 X0 w X/\Pin [(901,b1)] Z/\OS av 56 w X 4193 nX s.1 nT/\RS av w X a1 so c1/\RS aB w X oT s.2.2.2.2.2.1 oM/\RS ar w X wJ s.2.2.2.2.2.2.1 wy/\OS dJ 4 w X 2004 wI s.2.2.2.2.2.2.2.1 wx/\OMS aU tI false w X 2005 r5 s.2.2.2.2.2.2.2.2) (fun s=>μ1 s.1 s.2.1 s.2.2.1 s.2.2.2.1 s.2.2.2.2.1 s.2.2.2.2.2.1 s.2.2.2.2.2.2.1 s.2.2.2.2.2.2.2.1 s.2.2.2.2.2.2.2.2) (⟨nD,0,aq.o.au,aq.o.aA,aq.o.aH,aq.o.Rows,aq.l,aq.done,aq.failed⟩) ?_ ?_
   ·exact ⟨Z,_,uG,uz,a2,c2,a3,c3,a4,c4,cJ,hS.sl _,hO,hP,h193,h195,h180,h181,h182,h184⟩
   rintro ⟨n4,iL,iz,xd,xc,xa,w9,jT,DB⟩ a HN ⟨Z,MS,nX,nT,oT,oM,wJ,wy,wI,wx,hI,hS,hO,hP,h199,h201,h208,h212,h216,h218⟩
   replace hm:=hm n4 iL iz xd xc xa w9 jT DB hI
   clear hI cJ
   refine rPe T hS [] [(44,B (decide (iL < (lN nD))))] fun a hS=>?_
   refine bh ?_
   refine aI hS (b:=decide (iL < (lN nD))) kr (fun hb=>?_) fun hb=>?_
   ·replace hm:=hm.1 hb
    refine aO (bh ?_)
    refine aQ ?_
    refine br ?_
    obtain ⟨E7,hm⟩:=hm
    refine op1 (nO (E:=56) (k:=.i64) T hS kr kr kr kr h199 kr kr E7.1 E7.2 ?_)
    intro Nm a h221 h220 hS
    refine op1 (Cd T hS kr kr kr h220 kr kr ?_)
    intro v223 a hv hS
    subst hv
    refine eM T hS ⟨[(3,Pt 4 0),(8,Pt 9 0),(9,.f (.func 102) [] [.p 4 0,.p 5 0,.p 6 0]),(11,Pt 12 0),(41,Sl nX n4 nT),(42,I (lN nD)),(43,I iL)],[(4,(147,[Pt 901 0])),(5,(3,[I state])),(6,(26,[Sl a1 so c1])),(9,(164,[V (.int .u32 bM.done),I bM.state])),(12,(56,(cK (gi n4 iL)))),(901,(161,[I iz,I xd,I xc,Sl oT xa oM,Sl wJ w9 wy,Sl wI jT wx,V (.map (some r5))]))]⟩ fun Z a Kr MT hS hE hr=>?_
    replace hO:=hO.m2 hE
    replace h199:=h199.m2 hE
    replace h201:=h201.m1 hE
    replace h208:=h208.m1 hE
    replace h212:=h212.m1 hE
    replace h216:=h216.m2 hE
    replace h218:=h218.m2 hE
    replace hP:=hP.mv hr kr
    clear hE hr
    refine br ?_
    refine oP T hS 2 ⟨[(3,Pt 4 0),(8,Pt 9 0),(9,.f (.func 102) [] [.p 4 0,.p 5 0,.p 6 0]),(41,Sl nX n4 nT),(42,I (lN nD)),(43,I iL),(48,.f (.func 102) [] [.p 4 0,.p 5 0,.p 6 0]),(49,V (.agg #[.int .i64 ((gi n4 iL).Oper),.int .i64 ((gi n4 iL).Result)]))],[(4,(147,[Pt 901 0])),(5,(3,[I state])),(6,(26,[Sl a1 so c1])),(9,(164,[V (.int .u32 bM.done),I bM.state])),(901,(161,[I iz,I xd,I xc,Sl oT xa oM,Sl wJ w9 wy,Sl wI jT wx,V (.map (some r5))]))]⟩ fun a hS=>?_
    obtain ⟨hq,hm⟩:=hm
    refine op1 (ko (fi:=[]) (cp:=[.p 4 0,.p 5 0,.p 6 0]) hS kr kr hb102 kr kr (GH _ _ (gi n4 iL) (⟨(⟨iz,xd,xc,xa⟩:ao),w9,jT,DB⟩:a8) state so oT oM wJ wy wI wx 2004 r5 2005 a1 c1 2001 (Z 4) 4 (Z 901) 901 (Z 5) 5 (Z 6) 6 hq.1 hq.2 h208 h212 h216 h218 h201 (hS.cell (id:=4) (t:=147) (cs:=[Pt 901 0]) kr) (hS.cell (id:=901) (t:=161) (cs:=[I iz,I xd,I xc,Sl oT xa oM,Sl wJ w9 wy,Sl wI jT wx,V (.map (some r5))]) kr) (hS.cell (id:=5) (t:=3) (cs:=[I state]) kr) (hS.cell (id:=6) (t:=26) (cs:=[Sl a1 so c1]) kr) ⟨by decide,by decide⟩) ?_)
    intro v224 a OY Rd hE hp hS
    clear h218
    clear h216
    replace hO:=hO.m2 hE
    replace h199:=h199.m2 hE
    replace h201:=h201.m1 hE
    replace h208:=h208.m1 hE
    replace h212:=h212.m1 hE
    obtain ⟨EE,Ew,C4,CV,C3,CU,C2,CT,hp,h230,h233,h236,h239,Ff,Cx,h240,Fe,Fc⟩:=hp
    obtain ⟨eF,hr⟩:∃ r,bk (gi n4 iL) (⟨(⟨iz,xd,xc,xa⟩:ao),w9,jT,DB⟩:a8) state so=r:=⟨_,rfl⟩
    replace hm:=hm eF hr
    rw [hr] at hp h230 h233 h236 h239 Cx h240
    clear hr
    subst hp
    replace hm:=hm (h230.sm kr)
    replace hm:=hm (h233.sm kr)
    replace hm:=hm (h236.sm kr)
    replace hm:=hm (h239.sm kr)
    replace hS:=hS.cI (id:=4) (t:=147) (cs:=[Pt 901 0]) kr Ff
    replace hS:=hS.cI (id:=901) (t:=161) (cs:=[I eF.2.2.o.au,I eF.2.2.o.aA,I eF.2.2.o.aH,Sl C4 eF.2.2.o.Rows CV,Sl C3 eF.2.2.l CU,Sl C2 eF.2.2.done CT,V (.map (some r5))]) kr Cx
    replace hS:=hS.cI (id:=5) (t:=3) (cs:=[I state]) kr Fe
    replace hS:=hS.cI (id:=6) (t:=26) (cs:=[Sl a1 so c1]) kr Fc
    clear Ff Cx Fe Fc
    refine ePe T hS [48,49,50] [(12,Sl EE eF.1 Ew),(13,B eF.2.1)] fun a hS=>?_
    refine rPe T hS [13] [(53,B eF.2.1)] fun a hS=>?_
    refine aI hS (b:=eF.2.1) kr (fun hb=>?_) fun hb=>?_
    ·replace hm:=hm.1 hb
     refine rP T hS ⟨[(6,Sl EE eF.1 Ew),(7,B true)],[(901,(161,[I eF.2.2.o.au,I eF.2.2.o.aA,I eF.2.2.o.aH,Sl C4 eF.2.2.o.Rows CV,Sl C3 eF.2.2.l CU,Sl C2 eF.2.2.done CT,V (.map (some r5))]))]⟩ fun a hS=>?_
     refine ba ?_
     exact g9 T hS hO (fun c h=>bZ kr h) (fun c h=>b0 (l:=(zAd2 i1 m1 m4 m5)) h) (bT (zAd2 i1 m1 m4 m5)) rfl (r:=[.slice EE eF.1.length Ew,.bool true]) kr (fun X' hM hC=>⟨(eF.1,true,eF.2.2),hm,EE,Ew,C4,CV,C3,CU,C2,CT,rfl,(OS.out (f:=(bT (zAd2 i1 m1 m4 m5))) h230 hM hC kr),h233.m0 hM,h236.m0 hM,(OS.out (f:=(bT (zAd2 i1 m1 m4 m5))) h239 hM hC kr),((hS.cell (id:=901) (t:=161) (cs:=[I eF.2.2.o.au,I eF.2.2.o.aA,I eF.2.2.o.aH,Sl C4 eF.2.2.o.Rows CV,Sl C3 eF.2.2.l CU,Sl C2 eF.2.2.done CT,V (.map (some r5))]) kr).out (f:=(bT (zAd2 i1 m1 m4 m5))) hC kr kr (hP.at 0 rfl)),(h240.out (f:=(bT (zAd2 i1 m1 m4 m5))) hM hC kr kr)⟩)
    replace hm:=hm.2 hb
    refine aO ?_
    refine region (ePe T hS [12,53] [(43,I (wR (iL+1)))] fun a hS=>?_)
    exact ⟨⟨n4,wR (iL+1),eF.2.2.o.au,eF.2.2.o.aA,eF.2.2.o.aH,eF.2.2.o.Rows,eF.2.2.l,eF.2.2.done,eF.2.2.failed⟩,⟨Z,_,nX,nT,C4,CV,C3,CU,C2,CT,hm.1,hS.sl _,hO,hP,h199,h201,h233,h236,h239,h240⟩,hm.2⟩
   replace hm:=hm.2 hb
   refine cu (by rfl) ?_
   exact ⟨Z,_,iz,xd,xc,xa,w9,jT,DB,oT,oM,wJ,wy,wI,wx,hm,hS.sl _,hO,hP,h208,h212,h216,h218⟩
  clear hm
  refine rJ (is:=[3,7,12]) kr (by decide) ?_
  intro i hi
  rcases KY hi with rfl | rfl | rfl
  ·refine j9 (by rfl) (iu T hS kr kr kr (sv:=V (.agg #[.int .i64 aq.o.au,.int .i64 aq.o.aA,.int .i64 aq.o.aH,.slice a2 aq.o.Rows.length c2])) kr ?_)
   intro a hS
   refine da (bO.of hS (bks:=[4,5,6,9]) kr hD) ?_
   intro hH
   refine rJ (is:=[7,12]) kr (by decide) ?_
   intro i hi
   rcases Az hi with rfl | rfl
   ·refine j9 (by rfl) (iu T hS kr kr kr (sv:=Sl a3 aq.l c3) kr ?_)
    intro a hS
    refine da (bO.of hS (bks:=[4,5,6,9]) kr hD) ?_
    intro hH
    refine only 12 kr (by rfl) (iu T hS kr kr kr (sv:=Sl a4 aq.done c4) kr ?_)
    intro a hS
    refine da (bO.of hS (bks:=[4,5,6,9]) kr hD) ?_
    intro hH
    exact H _ _ ⟨_,hS.sl _,hO,hD,hH,h2,h3,h4,h1,h116⟩
   refine j9 (by rfl) (iu T hS kr kr kr (sv:=Sl a4 aq.done c4) kr ?_)
   intro a hS
   refine da (bO.of hS (bks:=[4,5,6,9]) kr hD) ?_
   intro hH
   refine only 7 kr (by rfl) (iu T hS kr kr kr (sv:=Sl a3 aq.l c3) kr ?_)
   intro a hS
   refine da (bO.of hS (bks:=[4,5,6,9]) kr hD) ?_
   intro hH
   exact H _ _ ⟨_,hS.sl _,hO,hD,hH,h2,h3,h4,h1,h116⟩
  ·refine j9 (by rfl) (iu T hS kr kr kr (sv:=Sl a3 aq.l c3) kr ?_)
   intro a hS
   refine da (bO.of hS (bks:=[4,5,6,9]) kr hD) ?_
   intro hH
   refine rJ (is:=[3,12]) kr (by decide) ?_
   intro i hi
   rcases Az hi with rfl | rfl
   ·refine j9 (by rfl) (iu T hS kr kr kr (sv:=V (.agg #[.int .i64 aq.o.au,.int .i64 aq.o.aA,.int .i64 aq.o.aH,.slice a2 aq.o.Rows.length c2])) kr ?_)
    intro a hS
    refine da (bO.of hS (bks:=[4,5,6,9]) kr hD) ?_
    intro hH
    refine only 12 kr (by rfl) (iu T hS kr kr kr (sv:=Sl a4 aq.done c4) kr ?_)
    intro a hS
    refine da (bO.of hS (bks:=[4,5,6,9]) kr hD) ?_
    intro hH
    exact H _ _ ⟨_,hS.sl _,hO,hD,hH,h2,h3,h4,h1,h116⟩
   refine j9 (by rfl) (iu T hS kr kr kr (sv:=Sl a4 aq.done c4) kr ?_)
   intro a hS
   refine da (bO.of hS (bks:=[4,5,6,9]) kr hD) ?_
   intro hH
   refine only 3 kr (by rfl) (iu T hS kr kr kr (sv:=V (.agg #[.int .i64 aq.o.au,.int .i64 aq.o.aA,.int .i64 aq.o.aH,.slice a2 aq.o.Rows.length c2])) kr ?_)
   intro a hS
   refine da (bO.of hS (bks:=[4,5,6,9]) kr hD) ?_
   intro hH
   exact H _ _ ⟨_,hS.sl _,hO,hD,hH,h2,h3,h4,h1,h116⟩
  refine j9 (by rfl) (iu T hS kr kr kr (sv:=Sl a4 aq.done c4) kr ?_)
  intro a hS
  refine da (bO.of hS (bks:=[4,5,6,9]) kr hD) ?_
  intro hH
  refine rJ (is:=[3,7]) kr (by decide) ?_
  intro i hi
  rcases Az hi with rfl | rfl
  ·refine j9 (by rfl) (iu T hS kr kr kr (sv:=V (.agg #[.int .i64 aq.o.au,.int .i64 aq.o.aA,.int .i64 aq.o.aH,.slice a2 aq.o.Rows.length c2])) kr ?_)
   intro a hS
   refine da (bO.of hS (bks:=[4,5,6,9]) kr hD) ?_
   intro hH
   refine only 7 kr (by rfl) (iu T hS kr kr kr (sv:=Sl a3 aq.l c3) kr ?_)
   intro a hS
   refine da (bO.of hS (bks:=[4,5,6,9]) kr hD) ?_
   intro hH
   exact H _ _ ⟨_,hS.sl _,hO,hD,hH,h2,h3,h4,h1,h116⟩
  refine j9 (by rfl) (iu T hS kr kr kr (sv:=Sl a3 aq.l c3) kr ?_)
  intro a hS
  refine da (bO.of hS (bks:=[4,5,6,9]) kr hD) ?_
  intro hH
  refine only 3 kr (by rfl) (iu T hS kr kr kr (sv:=V (.agg #[.int .i64 aq.o.au,.int .i64 aq.o.aA,.int .i64 aq.o.aH,.slice a2 aq.o.Rows.length c2])) kr ?_)
  intro a hS
  refine da (bO.of hS (bks:=[4,5,6,9]) kr hD) ?_
  intro hH
  exact H _ _ ⟨_,hS.sl _,hO,hD,hH,h2,h3,h4,h1,h116⟩
 rintro a OK ⟨Z,MR,eE,iM,aX,iJ,eZ,gd,gv,kC,kx,kO,kM,hU,hK,hm,hS,hO,hP,h126,h130,h134,h136⟩
 unfold VC90_J1 at hm
 refine cb (fun a w=>∃ (Z:Nat->Nat) (X:Nat->Nat) (jI:List Bool) (pX:List (b7 × Int)) (mG:Option Addr) (mE:Nat),VC90_J2 N Q eE iM aX iJ eZ jI pX/\St Tryz.f90.ntmps ⟨[],[(901,(161,[I eE,I iM,I aX,Sl kC iJ kx,Sl kO eZ kM,Sl mG jI mE,V (.map (some r5))]))]⟩ Z a w X/\gq (dH (zAd2 i1 m1 m4 m5)) w0 X0 w X/\Pin [(901,b1)] Z/\RS aB w X kC iJ kx/\RS ar w X kO eZ kM/\OS dJ 4 w X 2004 mG jI mE/\OMS aU tI false w X 2005 r5 pX) ?_ ?_
 ·refine br ?_
  refine oPe T hS 2 [] [(56,V (.agg #[.int .u32 bM.done,.int .i64 bM.state])),(57,V (.agg #[.int .u32 0,.int .i64 0]))] fun a hS=>?_
  refine op1 (structEq (op:=.neq) (xs:=[.int .u32 bM.done,.int .i64 bM.state]) (ys:=[.int .u32 0,.int .i64 0]) (r:=(bM.done == 0 && (bM.state == 0 && true))) (b:=(!(bM.done == 0 && (bM.state == 0 && true)))) T hS kr kr kr kr kr kr kr kr ?_)
  intro a hS
  refine iy ?_
  refine aI hS (b:=(!(bM.done == 0 && (bM.state == 0 && true)))) kr (fun hb=>?_) fun hb=>?_
  ·replace hm:=hm.1 hb
   refine hJ [4,9,901] mixed hS ?_
   intro DN Ba hS hE hD hH
   replace hO:=hO.m2 hE
   replace h126:=h126.m1 hE
   replace h130:=h130.m1 hE
   replace h134:=h134.m2 hE
   replace h136:=h136.m2 hE
   refine tke T [0,4,1,2,3] [4,9,901] hS hH #[true,true,true,true,true,false,false,false,false,false] 5 [3,8] [(62,V (.map (some r5))),(63,V (.agg #[.int .u32 bM.done,.int .i64 bM.state]))] fun a hS=>?_
   refine zK (fun a w=>∃ X b158,St Tryz.f90.ntmps ⟨[(62,V (.map (some r5))),(65,I (wR (((aF gv bM).getD 0)+1))),(67,I ((b158:Nat):Int))],[(4,(147,[Pt 901 0])),(9,(164,[V (.int .u32 bM.done),I bM.state])),(901,(161,[I eE,I iM,I aX,Sl kC iJ kx,Sl kO eZ kM,Sl hU gd hK,V (.map (some r5))]))]⟩ Z a w X/\gq (dH (zAd2 i1 m1 m4 m5)) w0 X0 w X/\M0 DN Ba w X/\bO DN Ba (mZ [4,9,901] ⟨[(3,Pt 4 0),(8,Pt 9 0)],[(4,(147,[Pt 901 0])),(9,(164,[V (.int .u32 bM.done),I bM.state])),(901,(161,[I eE,I iM,I aX,Sl kC iJ kx,Sl kO eZ kM,Sl hU gd hK,V (.map (some r5))]))]⟩) Z w/\OME aU tI false w X 2005 r5 gv bM 0 b158/\RS aB w X kC iJ kx/\RS ar w X kO eZ kM/\OS dJ 4 w X 2004 hU gd hK) #[true,true,true,true,true,true,true,true,true,false] 1 ?_ (fun H=>?_)
   ·rintro a KI ⟨JY,b158,hS,hO,hD,hH,h157,h159,h160,h161⟩
    refine only 9 kr (by rfl) (KZ aU tI false (v:=I (wR (((aF gv bM).getD 0)+1))) (u:=wR (((aF gv bM).getD 0)+1)) bM hS kr kr kr kr gp kr h157 (fun _=>rfl) ?_)
    intro a HU hE h175 hS
    clear h157
    replace hO:=hO.m2 hE
    replace hD:=hD.ev hE rfl
    replace h159:=h159.m1 hE
    replace h160:=h160.m1 hE
    replace h161:=h161.m2 hE
    refine da (bO.of hS (bks:=[4,9,901]) kr hD) ?_
    intro hH
    refine aY kr ?_
    replace hS:=hS.sl ⟨[],[(901,(161,[I eE,I iM,I aX,Sl kC iJ kx,Sl kO eZ kM,Sl hU gd hK,V (.map (some r5))]))]⟩
    exact ⟨Z,_,gd,dp gv bM (wR (((aF gv bM).getD 0)+1)),hU,hK,hm,hS.sl _,hO,hP,h159,h160,h161,h175⟩
   clear hm
   refine rJ (is:=[5,7]) kr (by decide) ?_
   intro i hi
   rcases Az hi with rfl | rfl
   ·refine j9 (by rfl) (B7 aU tI false (zv:=.int .i64 0) (z:=0) bM hS kr kr kr kr Tryz.underlying159 gp kr rfl h136 ?_)
    intro v162 a hv hS
    replace hv:tI.R _ _ [v162] _:=hv
    cases hv
    refine da (bO.of hS (bks:=[4,9,901]) kr hD) ?_
    intro hH
    refine tke T [6] [4,9,901] hS hH #[true,true,true,true,true,true,true,false,false,false] 3 [64] [(65,I (wR (((aF gv bM).getD 0)+1)))] fun a hS=>?_
    refine only 7 kr (by rfl) (EZ aU tI false (zv:=.int .i64 0) (z:=0) bM hS kr kr kr kr Tryz.underlying159 gp kr rfl kr h136 ?_)
    intro v163 b164 a DH hE h166 hv hS
    clear h136
    replace hv:tI.R _ _ [v163] _:=hv
    cases hv
    replace hO:=hO.m2 hE
    replace hD:=hD.ev hE rfl
    replace h126:=h126.m1 hE
    replace h130:=h130.m1 hE
    replace h134:=h134.m2 hE
    refine da (bO.of hS (bks:=[4,9,901]) kr hD) ?_
    intro hH
    refine tke T [8] [4,9,901] hS hH #[true,true,true,true,true,true,true,true,true,false] 1 [63,66] [(67,I ((b164:Nat):Int))] fun a hS=>?_
    exact H _ _ ⟨_,b164,hS.sl _,hO,hD,hH,h166,h126,h130,h134⟩
   refine j9 (by rfl) (EZ aU tI false (zv:=.int .i64 0) (z:=0) bM hS kr kr kr kr Tryz.underlying159 gp kr rfl kr h136 ?_)
   intro v167 b168 a KK hE h170 hv hS
   clear h136
   replace hv:tI.R _ _ [v167] _:=hv
   cases hv
   replace hO:=hO.m2 hE
   replace hD:=hD.ev hE rfl
   replace h126:=h126.m1 hE
   replace h130:=h130.m1 hE
   replace h134:=h134.m2 hE
   refine da (bO.of hS (bks:=[4,9,901]) kr hD) ?_
   intro hH
   refine tke T [8] [4,9,901] hS hH #[true,true,true,true,true,false,false,true,true,false] 3 [66] [(67,I ((b168:Nat):Int))] fun a hS=>?_
   refine only 5 kr (by rfl) (Gj aU tI false bM hS kr kr kr kr Tryz.underlying159 gp h170 ?_)
   intro v171 a hv hS
   replace hv:tI.R _ _ [v171] _:=hv
   cases hv
   refine da (bO.of hS (bks:=[4,9,901]) kr hD) ?_
   intro hH
   refine tke T [6] [4,9,901] hS hH #[true,true,true,true,true,true,true,true,true,false] 1 [63,64] [(65,I (wR (((aF gv bM).getD 0)+1)))] fun a hS=>?_
   exact H _ _ ⟨_,b168,hS.sl _,hO,hD,hH,h170,h126,h130,h134⟩
  replace hm:=hm.2 hb
  refine aO ?_
  exact ⟨Z,_,gd,gv,hU,hK,hm,hS.sl _,hO,hP,h126,h130,h134,h136⟩
 rintro a KH ⟨Z,Hh,jI,pX,mG,mE,hm,hS,hO,hP,h137,h138,h142,h144⟩
 unfold VC90_J2 at hm
 refine rPe T hS [] [(6,V (.slice none 0 0)),(7,B false)] fun a hS=>?_
 refine ba ?_
 exact g9 T hS hO (fun c h=>bZ kr h) (fun c h=>b0 (l:=(zAd2 i1 m1 m4 m5)) h) (bT (zAd2 i1 m1 m4 m5)) rfl (r:=[.slice none 0 0,.bool false]) kr (fun X' hM hC=>⟨([],false,(⟨(⟨eE,iM,aX,iJ⟩:ao),eZ,jI,pX⟩:a8)),hm,none,0,kC,kx,kO,kM,mG,mE,rfl,OS.nil _ _ _ _ _,h137.m0 hM,h138.m0 hM,(OS.out (f:=(bT (zAd2 i1 m1 m4 m5))) h142 hM hC kr),((hS.cell (id:=901) (t:=161) (cs:=[I eE,I iM,I aX,Sl kC iJ kx,Sl kO eZ kM,Sl mG jI mE,V (.map (some r5))]) kr).out (f:=(bT (zAd2 i1 m1 m4 m5))) hC kr kr (hP.at 0 rfl)),(h144.out (f:=(bT (zAd2 i1 m1 m4 m5))) hM hC kr kr)⟩)
theorem C90 (N:Nat) (GJ:S100) (GI:S101) (GH:S102N N) (GG:S105) (v:∀ (state:Int) (so:List aa) (aq:a8),sG state so aq->pa state so aq < N+1->VC90 N state so aq (fun r=>r=aJ state so aq)):S90N (N+1):=by
 intro w X state so aq a1 c1 m1 a2 c2 a3 c3 a4 c4 m4 r5 m5  b1 i1 hp L3 h1 h2 h3 h4 h5 fF hA
 refine (W90 N GJ GI GH GG w X state so aq a1 c1 m1 a2 c2 a3 c3 a4 c4 m4 r5 m5  b1 i1 _ (v state so aq hp L3) h1 h2 h3 h4 h5 fF hA).mono ?_
 rintro _ _ _ _ ⟨r,rfl,h⟩
 exact h
theorem W89 (w0) (X0) (o_:ao) (l_:List ab) (a1) (c1) (a2) (c2) (cM) (dU) (jD) (Q:a8->Prop) (hm:VC89 o_ l_ Q) (h1:RS aB w0 X0 a1 o_.Rows c1) (h2:RS ar w0 X0 a2 l_ c2) :
  Ret Tryz.prog 89 #[.agg #[.int .i64 o_.au,.int .i64 o_.aA,.int .i64 o_.aH,.slice a1 o_.Rows.length c1],.slice a2 l_.length c2] aM w0 X0 (fun w X' v=>∃ r,Q r/\∃ cQ cN jg jf pK pJ H9 vh,v=.pointer (some ⟨vh,0,none⟩)/\RS aB w X' cQ r.o.Rows cN/\RS ar w X' jg r.l jf/\OS dJ 4 w X' cM pK r.done pJ/\Cell w X' vh jD 161 [.int .i64 r.o.au,.int .i64 r.o.aA,.int .i64 r.o.aH,.slice cQ r.o.Rows.length cN,.slice jg r.l.length jf,.slice pK r.done.length pJ,.map (some H9)]/\OMS aU tI false w X' dU H9 r.failed):=by
 unfold VC89 at hm
 replace hm:=hm (h1.sm kr)
 replace hm:=hm (h2.sm kr)
 refine enter Tryz.func89 rfl (vals:=[.agg #[.int .i64 o_.au,.int .i64 o_.aA,.int .i64 o_.aH,.slice a1 o_.Rows.length c1],.slice a2 l_.length c2]) kr ?_
 intro Z a hS hO hM
 replace h1:=h1.m0 hM
 replace h2:=h2.m0 hM
 refine rM T hS ⟨[(1,Sl a2 l_ c2),(2,Pt 3 0)],[(3,(48,(cO o_ a1 c1)))]⟩ fun Z a uU yl hS hE hr=>?_
 replace hO:=hO.m2 hE
 replace h1:=h1.m1 hE
 replace h2:=h2.m1 hE
 clear hE hr
 refine dB [3] mixed hS ?_
 intro oX pE hS hE hD hH
 replace hO:=hO.m2 hE
 replace h1:=h1.m1 hE
 replace h2:=h2.m1 hE
 refine tke T [0,1,2,3] [3] hS hH #[true,true,true,true,false,false,false,false,false] 5 [1,2] [(5,V (.agg #[.int .i64 o_.au,.int .i64 o_.aA,.int .i64 o_.aH,.slice a1 o_.Rows.length c1])),(6,Sl a2 l_ c2),(8,I (lN l_))] fun a hS=>?_
 obtain ⟨GZ,hm⟩:=hm
 refine zK (fun a w=>∃ X lG lD dF,St Tryz.f89.ntmps ⟨[(11,V (.agg #[.int .i64 o_.au,.int .i64 o_.aA,.int .i64 o_.aH,.slice a1 o_.Rows.length c1,.slice a2 l_.length c2,.slice lG (List.replicate (lN l_).toNat (false:Bool)).length lD,.map (some dF)]))],[(3,(48,(cO o_ a1 c1)))]⟩ Z a w X/\Old w0 X0 w X/\M0 oX pE w X/\bO oX pE (mZ [3] ⟨[(1,Sl a2 l_ c2),(2,Pt 3 0)],[(3,(48,(cO o_ a1 c1)))]⟩) Z w/\RS aB w X a1 o_.Rows c1/\RS ar w X a2 l_ c2/\OS dJ 4 w X 1010 lG (List.replicate (lN l_).toNat (false:Bool)) lD/\OMS aU tI false w X 1011 dF ([]:List (b7 × Int))) #[true,true,true,true,true,true,true,false,false] 2 ?_ (fun H=>?_)
 ·rintro a H3 ⟨Ni,lG,lD,dF,hS,hO,hD,hH,h119,h120,h121,h125⟩
  clear GZ
  replace hS:=hS.sl ⟨[(11,V (.agg #[.int .i64 o_.au,.int .i64 o_.aA,.int .i64 o_.aH,.slice a1 o_.Rows.length c1,.slice a2 l_.length c2,.slice lG (List.replicate (lN l_).toNat (false:Bool)).length lD,.map (some dF)]))],[(3,(48,(cO o_ a1 c1)))]⟩
  refine only 7 kr (by rfl) (JE (cs:=#[.int .i64 o_.au,.int .i64 o_.aA,.int .i64 o_.aH,.slice a1 o_.Rows.length c1,.slice a2 l_.length c2,.slice lG (List.replicate (lN l_).toNat (false:Bool)).length lD,.map (some dF)]) hS kr kr kr kr (sy':=⟨[(12,Pt 13 0),(11,V (.agg #[.int .i64 o_.au,.int .i64 o_.aA,.int .i64 o_.aH,.slice a1 o_.Rows.length c1,.slice a2 l_.length c2,.slice lG (List.replicate (lN l_).toNat (false:Bool)).length lD,.map (some dF)]))],[(13,(161,[I o_.au,I o_.aA,I o_.aH,Sl a1 o_.Rows c1,Sl a2 l_ c2,Sl lG (List.replicate (lN l_).toNat (false:Bool)) lD,V (.map (some dF))])),(3,(48,(cO o_ a1 c1)))]⟩) kr ?_)
  intro Z a DP Bb hS hE E5
  replace hO:=hO.m2 hE
  replace hD:=hD.ev hE rfl
  replace h119:=h119.m1 hE
  replace h120:=h120.m1 hE
  replace h121:=h121.m2 hE
  replace h125:=h125.m2 hE
  replace hS:=hS.sl ⟨[(11,V (.agg #[.int .i64 o_.au,.int .i64 o_.aA,.int .i64 o_.aH,.slice a1 o_.Rows.length c1,.slice a2 l_.length c2,.slice lG (List.replicate (lN l_).toNat (false:Bool)).length lD,.map (some dF)])),(12,Pt 13 0)],[(3,(48,(cO o_ a1 c1))),(13,(161,[I o_.au,I o_.aA,I o_.aH,Sl a1 o_.Rows c1,Sl a2 l_ c2,Sl lG (List.replicate (lN l_).toNat (false:Bool)) lD,V (.map (some dF))]))]⟩
  refine da ((bO.of hS (bks:=[3]) kr hD).rho E5 kr) ?_
  intro hH
  refine EU T E5 kr [8] [3] [4] hS kr kr kr hH (listed':=#[true,true,true,true,true,true,true,true,true]) (fuel:=0) (sy':=⟨[(4,Pt 13 0)],[(3,(48,(cO o_ a1 c1))),(13,(161,[I o_.au,I o_.aA,I o_.aH,Sl a1 o_.Rows c1,Sl a2 l_ c2,Sl lG (List.replicate (lN l_).toNat (false:Bool)) lD,V (.map (some dF))]))]⟩) kr (by rfl) ?_
  intro a hS
  refine aY kr ?_
  replace hS:=hS.sl ⟨[(4,Pt 13 0)],[(13,(161,[I o_.au,I o_.aA,I o_.aH,Sl a1 o_.Rows c1,Sl a2 l_ c2,Sl lG (List.replicate (lN l_).toNat (false:Bool)) lD,V (.map (some dF))]))]⟩
  refine ba ?_
  exact fin T hS hO (zAd0 jD dU cM) rfl (r:=[.pointer (some ⟨Z 13,0,none⟩)]) kr (fun X' hM hC=>⟨(⟨o_,l_,List.replicate (lN l_).toNat (false:Bool),([]:List (b7 × Int))⟩:a8),hm,a1,c1,a2,c2,lG,lD,dF,(Z 13),rfl,h119.m0 hM,h120.m0 hM,(OS.out (f:=(zAd0 jD dU cM)) h121 hM hC kr),((hS.cell (id:=13) (t:=161) (cs:=[I o_.au,I o_.aA,I o_.aH,Sl a1 o_.Rows c1,Sl a2 l_ c2,Sl lG (List.replicate (lN l_).toNat (false:Bool)) lD,V (.map (some dF))]) kr).out (f:=(zAd0 jD dU cM)) hC kr kr rfl),(h125.out (f:=(zAd0 jD dU cM)) hM hC kr kr)⟩)
 clear hm
 refine rJ (is:=[4,5]) kr (by decide) ?_
 intro i hi
 rcases Az hi with rfl | rfl
 ·have hq:=GZ
  refine j9 (by rfl) (make (E:=4) (kl:=.i64) (kc:=.i64) (col:=1010) (T:=dJ) T false hS kr kr kr kr kr kr hq.1 hq.2.1 (by have:=hq.2.2; have e_:((dJ.bytes:Nat):Int)=1:=rfl; rw [e_]; omega) (by have:=hq.2.2; omega) (fun _ _=>rfl) ?_)
  intro b126 a tw Bd hE h129 hN hS
  clear hq hN
  replace hO:=hO.m2 hE
  replace hD:=hD.ev hE rfl
  replace h1:=h1.m1 hE
  replace h2:=h2.m1 hE
  replace hS:=hS.conv (t:=9) (y:=.slice (some ⟨b126,0,none⟩) (List.replicate (lN l_).toNat (false:Bool)).length (lN l_).toNat) kr (by rw [List.length_replicate])
  refine da (bO.of hS (bks:=[3]) kr hD) ?_
  intro hH
  refine only 5 kr (by rfl) (B8 aU tI false 1011 hS kr kr ?_)
  intro tQ a r7 rS hE h133 hS
  replace hO:=hO.m2 hE
  replace hD:=hD.ev hE rfl
  replace h1:=h1.m1 hE
  replace h2:=h2.m1 hE
  replace h129:=h129.m2 hE
  refine da (bO.of hS (bks:=[3]) kr hD) ?_
  intro hH
  refine tke T [6] [3] hS hH #[true,true,true,true,true,true,true,false,false] 2 [5,6,8,9,10] [(11,V (.agg #[.int .i64 o_.au,.int .i64 o_.aA,.int .i64 o_.aH,.slice a1 o_.Rows.length c1,.slice a2 l_.length c2,.slice (some ⟨b126,0,none⟩) (List.replicate (lN l_).toNat (false:Bool)).length (lN l_).toNat,.map (some tQ)]))] fun a hS=>?_
  exact H _ _ ⟨_,(some ⟨b126,0,none⟩),(lN l_).toNat,tQ,hS.sl _,hO,hD,hH,h1,h2,h129,h133⟩
 refine j9 (by rfl) (B8 aU tI false 1011 hS kr kr ?_)
 intro Ii a DR Nj hE h137 hS
 replace hO:=hO.m2 hE
 replace hD:=hD.ev hE rfl
 replace h1:=h1.m1 hE
 replace h2:=h2.m1 hE
 refine da (bO.of hS (bks:=[3]) kr hD) ?_
 intro hH
 have hq:=GZ
 refine only 4 kr (by rfl) (make (E:=4) (kl:=.i64) (kc:=.i64) (col:=1010) (T:=dJ) T false hS kr kr kr kr kr kr hq.1 hq.2.1 (by have:=hq.2.2; have e_:((dJ.bytes:Nat):Int)=1:=rfl; rw [e_]; omega) (by have:=hq.2.2; omega) (fun _ _=>rfl) ?_)
 intro b138 a tu wQ hE h141 hN hS
 clear hq hN
 replace hO:=hO.m2 hE
 replace hD:=hD.ev hE rfl
 replace h1:=h1.m1 hE
 replace h2:=h2.m1 hE
 replace h137:=h137.m2 hE
 replace hS:=hS.conv (t:=9) (y:=.slice (some ⟨b138,0,none⟩) (List.replicate (lN l_).toNat (false:Bool)).length (lN l_).toNat) kr (by rw [List.length_replicate])
 refine da (bO.of hS (bks:=[3]) kr hD) ?_
 intro hH
 refine tke T [6] [3] hS hH #[true,true,true,true,true,true,true,false,false] 2 [5,6,8,10,9] [(11,V (.agg #[.int .i64 o_.au,.int .i64 o_.aA,.int .i64 o_.aH,.slice a1 o_.Rows.length c1,.slice a2 l_.length c2,.slice (some ⟨b138,0,none⟩) (List.replicate (lN l_).toNat (false:Bool)).length (lN l_).toNat,.map (some Ii)]))] fun a hS=>?_
 exact H _ _ ⟨_,(some ⟨b138,0,none⟩),(lN l_).toNat,Ii,hS.sl _,hO,hD,hH,h1,h2,h141,h137⟩
theorem C89 (v:∀ (o_:ao) (l_:List ab),zc o_ l_->VC89 o_ l_ (fun r=>r=bH o_ l_)):S89:=by
 intro w X o_ l_ a1 c1 a2 c2 cM dU jD  hp h1 h2
 refine (W89 w X o_ l_ a1 c1 a2 c2 cM dU jD  _ (v o_ l_ hp) h1 h2).mono ?_
 rintro _ _ _ _ ⟨r,rfl,h⟩
 exact h
theorem W70 (Ir:S20) (Lb:S88) (La:S89) (Gn:S90) (w0) (X0) (o_:ao) (l_:List ab) (a1) (c1) (a2) (c2) (cM) (Q:(List aa) × Int->Prop) (hm:VC70 o_ l_ Q) (h1:RS aB w0 X0 a1 o_.Rows c1) (h2:RS ar w0 X0 a2 l_ c2) :
  Ret Tryz.prog 70 #[.agg #[.int .i64 o_.au,.int .i64 o_.aA,.int .i64 o_.aH,.slice a1 o_.Rows.length c1],.slice a2 l_.length c2] aM w0 X0 (fun w X' v=>∃ r,Q r/\∃ cQ cN,v=.tuple #[.slice cQ r.1.length cN,.int .i64 r.2]/\OS av 56 w X' cM cQ r.1 cN):=by
 unfold VC70 at hm
 replace hm:=hm (h1.sm kr)
 replace hm:=hm (h2.sm kr)
 refine enter Tryz.func70 rfl (vals:=[.agg #[.int .i64 o_.au,.int .i64 o_.aA,.int .i64 o_.aH,.slice a1 o_.Rows.length c1],.slice a2 l_.length c2]) kr ?_
 intro Z a hS hO hM
 replace h1:=h1.m0 hM
 replace h2:=h2.m0 hM
 refine rM T hS ⟨[(1,Sl a2 l_ c2),(2,Pt 3 0)],[(3,(48,(cO o_ a1 c1)))]⟩ fun Z a tt yj hS hE hr=>?_
 replace hO:=hO.m2 hE
 replace h1:=h1.m1 hE
 replace h2:=h2.m1 hE
 clear hE hr
 refine bh ?_
 refine br ?_
 refine oPe T hS 2 [] [(9,V (.agg #[.int .i64 o_.au,.int .i64 o_.aA,.int .i64 o_.aH,.slice a1 o_.Rows.length c1])),(10,Sl a2 l_ c2)] fun a hS=>?_
 obtain ⟨hq,hm⟩:=hm
 refine op1 (call hS kr kr hb88 kr (fun _ _=>rfl) (Lb _ _ o_ l_ 20 a1 c1 a2 c2 hq h1 h2) ?_)
 intro v101 a fH fK hE hp hS
 replace hO:=hO.m2 hE
 replace h1:=h1.m1 hE
 replace h2:=h2.m1 hE
 obtain ⟨ay,hr⟩:∃ r,cx o_ l_ 20=r:=⟨_,rfl⟩
 replace hm:=hm ay hr
 rw [hr] at hp
 clear hr
 subst hp
 refine ePe T hS [9,10,11] [(6,I ay)] fun a hS=>?_
 refine rPe T hS [] [(13,B (ay != 0))] fun a hS=>?_
 refine aI hS (b:=(ay != 0)) kr (fun hb=>?_) fun hb=>?_
 ·replace hm:=hm.1 hb
  refine rP T hS ⟨[(4,V (.slice none 0 0)),(5,I ay)],[]⟩ fun a hS=>?_
  refine ba ?_
  exact fin T hS hO (fun c=>c) rfl (r:=[.slice none 0 0,.int .i64 ay]) kr (fun X' hM hC=>⟨([],ay),hm,none,0,rfl,OS.nil _ _ _ _ _⟩)
 replace hm:=hm.2 hb
 refine aO ?_
 refine dB [3] mixed hS ?_
 intro nA mh hS hE hD hH
 replace hO:=hO.m2 hE
 replace h1:=h1.m1 hE
 replace h2:=h2.m1 hE
 refine tke T [0,1,3,4] [3] hS hH #[true,true,false,true,true,false,false,false,false,false,false] 7 [] [(16,V (.agg #[.int .i64 o_.au,.int .i64 o_.aA,.int .i64 o_.aH,.slice a1 o_.Rows.length c1])),(17,Sl a2 l_ c2),(20,I o_.aH)] fun a hS=>?_
 obtain ⟨hq,hm⟩:=hm
 refine only 2 kr (by rfl) (call hS kr kr hb89 kr (fun _ _=>rfl) (La _ _ o_ l_ a1 c1 a2 c2 4119 2121 702 hq h1 h2) ?_)
 intro v107 a F4 Dh hE hp hS
 replace hO:=hO.m2 hE
 replace hD:=hD.ev hE rfl
 replace h1:=h1.m1 hE
 replace h2:=h2.m1 hE
 obtain ⟨jb,iZ,mg,mf,lH,lE,fR,b122,hp,h113,h116,h119,rl,h120⟩:=hp
 obtain ⟨fB,hr⟩:∃ r,bH o_ l_=r:=⟨_,rfl⟩
 replace hm:=hm fB hr
 rw [hr] at h113 h116 h119 rl h120
 clear hr
 subst hp
 replace hm:=hm (h113.sm kr)
 replace hm:=hm (h116.sm kr)
 replace hm:=hm (h119.sm kr)
 replace hS:=hS.o8 (id:=702) (t:=161) (cs:=[I fB.o.au,I fB.o.aA,I fB.o.aH,Sl jb fB.o.Rows iZ,Sl mg fB.l mf,Sl lH fB.done lE,V (.map (some fR))]) kr kr rl rfl
 replace hS:=hS.CN (t:=18) (x:=V (.pointer (some ⟨b122,0,none⟩))) (y:=Pt 702 0) kr rfl
 have zq:∀ id,id≠702->(upd Z 702 b122) id=Z id:=fun id h=>xk _ h
 generalize (upd Z 702 b122)=Z at hS zq
 clear rl
 replace hS:=hS.sl ⟨[(1,Sl a2 l_ c2),(2,Pt 3 0),(16,V (.agg #[.int .i64 o_.au,.int .i64 o_.aA,.int .i64 o_.aH,.slice a1 o_.Rows.length c1])),(17,Sl a2 l_ c2),(20,I o_.aH),(18,Pt 702 0)],[(3,(48,(cO o_ a1 c1))),(702,(161,[I fB.o.au,I fB.o.aA,I fB.o.aH,Sl jb fB.o.Rows iZ,Sl mg fB.l mf,Sl lH fB.done lE,V (.map (some fR))]))]⟩
 refine da ((bO.of hS (bks:=[3]) kr hD).rho zq kr) ?_
 intro hH
 obtain ⟨hq,hm⟩:=hm
 refine only 5 kr (by rfl) (l9 hS kr kr hb90 kr (Gn _ _ o_.aH [] fB none 0 1005 jb iZ mg mf lH lE 4119 fR 2121 (Z 702) 702 hq (OS.nil _ _ _ _ _) h113 h116 h119 h120 (hS.cell (id:=702) (t:=161) (cs:=[I fB.o.au,I fB.o.aA,I fB.o.aH,Sl jb fB.o.Rows iZ,Sl mg fB.l mf,Sl lH fB.done lE,V (.map (some fR))]) kr) ⟨by decide,by decide⟩) ?_)
 intro v125 a uW rT hE hp hS
 clear h120
 clear h119
 replace hO:=hO.m2 hE
 replace hD:=hD.ev hE rfl
 replace h1:=h1.m1 hE
 replace h2:=h2.m1 hE
 replace h113:=h113.m1 hE
 replace h116:=h116.m1 hE
 obtain ⟨lY,lX,hU,hK,Hf,G9,He,G8,hp,h131,h134,h137,h140,Cz,h141⟩:=hp
 obtain ⟨bU,hr⟩:∃ r,aJ o_.aH [] fB=r:=⟨_,rfl⟩
 replace hm:=hm bU hr
 rw [hr] at hp h131 h134 h137 h140 Cz h141
 clear hr
 subst hp
 replace hm:=hm (h131.sm kr)
 replace hm:=hm (h134.sm kr)
 replace hm:=hm (h137.sm kr)
 replace hm:=hm (h140.sm kr)
 replace hS:=hS.cI (id:=702) (t:=161) (cs:=[I bU.2.2.o.au,I bU.2.2.o.aA,I bU.2.2.o.aH,Sl hU bU.2.2.o.Rows hK,Sl Hf bU.2.2.l G9,Sl He bU.2.2.done G8,V (.map (some fR))]) kr Cz
 clear Cz
 replace hS:=hS.sl ⟨[(1,Sl a2 l_ c2),(2,Pt 3 0),(16,V (.agg #[.int .i64 o_.au,.int .i64 o_.aA,.int .i64 o_.aH,.slice a1 o_.Rows.length c1])),(17,Sl a2 l_ c2),(20,I o_.aH),(18,Pt 702 0),(21,V (.tuple #[.slice lY bU.1.length lX,.bool bU.2.1]))],[(3,(48,(cO o_ a1 c1))),(702,(161,[I bU.2.2.o.au,I bU.2.2.o.aA,I bU.2.2.o.aH,Sl hU bU.2.2.o.Rows hK,Sl Hf bU.2.2.l G9,Sl He bU.2.2.done G8,V (.map (some fR))]))]⟩
 refine da ((bO.of hS (bks:=[3]) kr hD).rho zq kr) ?_
 intro hH
 refine EU T zq kr [6,7,8,9,10] [3] [1,2,7,8] hS kr kr kr hH (listed':=#[true,true,true,true,true,true,true,true,true,true,true]) (fuel:=0) (sy':=⟨[(1,Sl a2 l_ c2),(2,Pt 3 0),(7,Sl lY bU.1 lX),(8,B bU.2.1)],[(3,(48,(cO o_ a1 c1))),(702,(161,[I bU.2.2.o.au,I bU.2.2.o.aA,I bU.2.2.o.aH,Sl hU bU.2.2.o.Rows hK,Sl Hf bU.2.2.l G9,Sl He bU.2.2.done G8,V (.map (some fR))]))]⟩) kr (by rfl) ?_
 intro a hS
 refine aY kr ?_
 replace hS:=hS.sl ⟨[(1,Sl a2 l_ c2),(2,Pt 3 0),(7,Sl lY bU.1 lX),(8,B bU.2.1)],[(3,(48,(cO o_ a1 c1)))]⟩
 refine bh ?_
 refine cb (fun a w=>∃ (Z:Nat->Nat) (X:Nat->Nat) (pX:List aa) (gL:Bool) (wO:Option Addr) (wD:Nat),VC70_J1 Q pX gL/\St Tryz.f70.ntmps ⟨[(7,Sl wO pX wD),(32,B gL)],[]⟩ Z a w X/\Old w0 X0 w X/\OS av 56 w X 1005 wO pX wD) ?_ ?_
 ·refine region ?_
  refine oPe T hS 3 [8] [(26,B (!bU.2.1))] fun a hS=>?_
  rcases bft (!bU.2.1) with hb | hb
  ·replace hS:=hS.lit (t:=26) kr hb
   replace hm:=hm.1 hb
   refine eP T hS ⟨[(7,Sl lY bU.1 lX),(32,B true)],[]⟩ fun a hS=>?_
   exact ⟨Z,_,bU.1,true,lY,lX,hm,hS.sl _,hO,h131⟩
  replace hS:=hS.lit (t:=26) kr hb
  replace hm:=hm.2 hb
  refine oP T hS 3 ⟨[(7,Sl lY bU.1 lX),(26,B false),(27,V (.agg #[.int .i64 o_.au,.int .i64 o_.aA,.int .i64 o_.aH,.slice a1 o_.Rows.length c1])),(28,Sl a2 l_ c2),(29,Sl lY bU.1 lX)],[]⟩ fun a hS=>?_
  obtain ⟨hq,hm⟩:=hm
  refine op1 (call hS kr kr hb20 kr (fun _ _=>rfl) (Ret.nB (Ir _ (eL 1005 _) o_ l_ bU.1 a1 c1 a2 c2 lY lX hq (h1.m0 (M0.eL 1005)) (h2.m0 (M0.eL 1005)) h131.eL)) ?_)
  intro v148 a F0 Hm hE hp hS
  replace hO:=hO.m2 hE
  replace h1:=h1.m1 hE
  replace h2:=h2.m1 hE
  replace h131:=h131.m2 hE
  obtain ⟨_,hp⟩:=hp
  obtain ⟨o5,hr⟩:∃ r,de o_ l_ bU.1=r:=⟨_,rfl⟩
  replace hm:=hm o5 hr
  rw [hr] at hp
  clear hr
  subst hp
  refine ePe T hS [26,27,28,29,30] [(32,B (!o5))] fun a hS=>?_
  exact ⟨Z,_,bU.1,(!o5),lY,lX,hm,hS.sl _,hO,h131⟩
 rintro a Bq ⟨Z,yk,pX,gL,wO,wD,hm,hS,hO,h146⟩
 unfold VC70_J1 at hm
 refine aI hS (b:=gL) kr (fun hb=>?_) fun hb=>?_
 ·replace hm:=hm.1 hb
  refine rPe T hS [7,32] [(4,V (.slice none 0 0)),(5,I 41)] fun a hS=>?_
  refine ba ?_
  exact fin T hS hO (fun c=>c) rfl (r:=[.slice none 0 0,.int .i64 41]) kr (fun X' hM hC=>⟨([],41),hm,none,0,rfl,OS.nil _ _ _ _ _⟩)
 replace hm:=hm.2 hb
 refine aO ?_
 refine rPe T hS [7,32] [(4,Sl wO pX wD),(5,I 0)] fun a hS=>?_
 refine ba ?_
 exact fin T hS hO (zAd1 cM) rfl (r:=[.slice wO pX.length wD,.int .i64 0]) kr (fun X' hM hC=>⟨(pX,0),hm,wO,wD,rfl,(OS.out (f:=(zAd1 cM)) h146 hM hC kr)⟩)
theorem C70 (Ir:S20) (Lb:S88) (La:S89) (Gn:S90) (v:∀ (o_:ao) (l_:List ab),yL o_ l_->VC70 o_ l_ (fun r=>r=bn o_ l_)):S70:=by
 intro w X o_ l_ a1 c1 a2 c2 cM  hp h1 h2
 refine (W70 Ir Lb La Gn w X o_ l_ a1 c1 a2 c2 cM  _ (v o_ l_ hp) h1 h2).mono ?_
 rintro _ _ _ _ ⟨r,rfl,h⟩
 exact h
theorem W84 (w0) (X0) (x_:aw) (Q:Int->Prop) (hm:VC84 x_ Q) :
  Ret Tryz.prog 84 #[.agg #[.int .i64 x_.bm,.int .i64 x_.ah,.int .i64 x_.N]] aM w0 X0 (fun w X' v=>∃ r,Q r/\v=.int .i64 r):=by
 unfold VC84 at hm
 refine enter Tryz.func84 rfl (vals:=[.agg #[.int .i64 x_.bm,.int .i64 x_.ah,.int .i64 x_.N]]) kr ?_
 intro Z a hS hO hM
 refine rM T hS ⟨[(1,Pt 2 0)],[(2,(61,(cE x_)))]⟩ fun Z a oX pE hS hE hr=>?_
 replace hO:=hO.m2 hE
 clear hE hr
 refine bh ?_
 refine aQ ?_
 refine rPe T hS [] [(3,B ((x_.bm != 1) && (x_.bm != 2)))] (sp:=[7]) fun a hS=>?_
 refine aI hS (b:=((x_.bm != 1) && (x_.bm != 2))) kr (fun hb=>?_) fun hb=>?_
 ·replace hm:=hm.1 hb
  refine rP T hS ⟨[(2,I 8)],[]⟩ fun a hS=>?_
  refine ba ?_
  exact fin T hS hO (fun c=>c) rfl (r:=[.int .i64 8]) kr (fun X' hM hC=>⟨8,hm,rfl⟩)
 replace hm:=hm.2 hb
 refine rPe T hS [3] [(12,B ((decide (x_.ah < 1)) || (decide (x_.ah > 1000))))] (sp:=[16]) fun a hS=>?_
 refine aI hS (b:=((decide (x_.ah < 1)) || (decide (x_.ah > 1000)))) kr (fun hb=>?_) fun hb=>?_
 ·replace hm:=hm.1 hb
  refine rP T hS ⟨[(2,I 2)],[]⟩ fun a hS=>?_
  refine ba ?_
  exact fin T hS hO (fun c=>c) rfl (r:=[.int .i64 2]) kr (fun X' hM hC=>⟨2,hm,rfl⟩)
 replace hm:=hm.2 hb
 refine rPe T hS [12] [(21,B ((x_.bm == 1) && ((decide (x_.N < 0)) || (decide (x_.N≥64)))))] (sp:=[25,29]) fun a hS=>?_
 refine aI hS (b:=((x_.bm == 1) && ((decide (x_.N < 0)) || (decide (x_.N≥64))))) kr (fun hb=>?_) fun hb=>?_
 ·replace hm:=hm.1 hb
  refine rP T hS ⟨[(2,I 31)],[]⟩ fun a hS=>?_
  refine ba ?_
  exact fin T hS hO (fun c=>c) rfl (r:=[.int .i64 31]) kr (fun X' hM hC=>⟨31,hm,rfl⟩)
 replace hm:=hm.2 hb
 refine rP T hS ⟨[(35,B ((x_.bm == 2) && ((decide (x_.N < 0)) || (decide (x_.N > 1000000)))))],[]⟩ (sp:=[39,43]) fun a hS=>?_
 refine aI hS (b:=((x_.bm == 2) && ((decide (x_.N < 0)) || (decide (x_.N > 1000000))))) kr (fun hb=>?_) fun hb=>?_
 ·replace hm:=hm.1 hb
  refine rPe T hS [35] [(2,I 7)] fun a hS=>?_
  refine ba ?_
  exact fin T hS hO (fun c=>c) rfl (r:=[.int .i64 7]) kr (fun X' hM hC=>⟨7,hm,rfl⟩)
 replace hm:=hm.2 hb
 refine aO ?_
 refine rPe T hS [35] [(2,I 0)] fun a hS=>?_
 refine ba ?_
 exact fin T hS hO (fun c=>c) rfl (r:=[.int .i64 0]) kr (fun X' hM hC=>⟨0,hm,rfl⟩)
theorem C84 (v:∀ (x_:aw),VC84 x_ (fun r=>r=gu x_)):S84:=by
 intro w X x_    
 refine (W84 w X x_    _ (v x_)).mono ?_
 rintro _ _ _ _ ⟨r,rfl,h⟩
 exact h
theorem W55 (Lf:S84) (w0) (X0) (l_:List aw) (a1) (c1) (Q:Int × Int->Prop) (hm:VC55 l_ Q) (h1:RS aR w0 X0 a1 l_ c1) :
  Ret Tryz.prog 55 #[.slice a1 l_.length c1] aM w0 X0 (fun w X' v=>∃ r,Q r/\v=.tuple #[.int .i64 r.1,.int .i64 r.2]):=by
 unfold VC55 at hm
 replace hm:=hm (h1.sm kr)
 refine enter Tryz.func55 rfl (vals:=[.slice a1 l_.length c1]) kr ?_
 intro Z a hS hO hM
 replace h1:=h1.m0 hM
 refine rPe T hS [] [] fun a hS=>?_
 refine bh ?_
 refine rPe T hS [] [(10,B (decide ((lN l_) > 10000)))] fun a hS=>?_
 refine aI hS (b:=decide ((lN l_) > 10000)) kr (fun hb=>?_) fun hb=>?_
 ·replace hm:=hm.1 hb
  refine rPe T hS [0,10] [(2,I 0),(3,I 3)] fun a hS=>?_
  refine ba ?_
  exact fin T hS hO (fun c=>c) rfl (r:=[.int .i64 0,.int .i64 3]) kr (fun X' hM hC=>⟨(0,3),hm,rfl⟩)
 replace hm:=hm.2 hb
 refine aO ?_
 refine br ?_
 refine op1 (pM kI tI false 1012 hS kr kr ?_)
 intro dY a fH fK hE h104 hS
 replace hO:=hO.m2 hE
 replace h1:=h1.m1 hE
 refine ePe T hS [10,11] [(4,V (.map (some dY)))] fun a hS=>?_
 refine cb (fun a w=>∃ Z X,VC55_J1 l_ Q/\St Tryz.f55.ntmps ⟨[(0,Sl a1 l_ c1)],[]⟩ Z a w X/\Old w0 X0 w X/\RS aR w X a1 l_ c1) ?_ ?_
 ·refine rPe T hS [] [(12,Sl a1 l_ c1),(13,I (lN l_)),(14,I 0)] fun a hS=>?_
  refine aQ ?_
  obtain ⟨I1,μ1,cJ,hm⟩:=hm
  refine cH (σ:=(List (Int × Int)) × Int) (fun s a w=>∃ Z X,I1 s.1 s.2/\St Tryz.f55.ntmps ⟨[(0,Sl a1 l_ c1),(4,V (.map (some dY))),(12,Sl a1 l_ c1),(13,I (lN l_)),(14,I s.2)],[]⟩ Z a w X/\Old w0 X0 w X/\RS aR w X a1 l_ c1/\OM kI tI false w X 1012 dY s.1/\RS aR w X a1 l_ c1) (fun s=>μ1 s.1 s.2) (⟨([]:List (Int × Int)),0⟩) ?_ ?_
  ·exact ⟨Z,_,cJ,hS.sl _,hO,h1,h104,h1⟩
  rintro ⟨gY,bK⟩ a KN ⟨Z,uL,hI,hS,hO,h106,h108,h109⟩
  replace hm:=hm gY bK hI
  clear hI cJ
  refine rPe T hS [] [(15,B (decide (bK < (lN l_))))] fun a hS=>?_
  refine bh ?_
  refine aI hS (b:=decide (bK < (lN l_))) kr (fun hb=>?_) fun hb=>?_
  ·replace hm:=hm.1 hb
   refine aO (bh ?_)
   refine aQ ?_
   refine br ?_
   refine oPe T hS 1 [15] [(16,I bK)] fun a hS=>?_
   obtain ⟨hq,hm⟩:=hm
   refine op1 (index (e:=61) (k:=.i64) T hS kr kr kr kr h109 kr kr hq.1 hq.2 ?_)
   intro Dm a h112 hS
   refine op1 (eS T hS kr kr kr h112 kr kr ?_)
   intro v113 a hv hS
   subst hv
   refine eM T hS ⟨[(0,Sl a1 l_ c1),(4,V (.map (some dY))),(5,I bK),(6,Pt 7 0),(12,Sl a1 l_ c1),(13,I (lN l_)),(14,I bK)],[(7,(61,(cE (gi l_ bK))))]⟩ fun Z a xg Df hS hE hr=>?_
   replace hO:=hO.m2 hE
   replace h106:=h106.m1 hE
   replace h108:=h108.m2 hE
   replace h109:=h109.m1 hE
   clear hE hr
   refine bh ?_
   refine br ?_
   refine oPe T hS 1 [] [(19,V (.agg #[.int .i64 ((gi l_ bK).bm),.int .i64 ((gi l_ bK).ah),.int .i64 ((gi l_ bK).N)]))] fun a hS=>?_
   refine op1 (call hS kr kr hb84 kr (fun _ _=>rfl) (Lf _ _ (gi l_ bK)) ?_)
   intro v114 a pY uM hE hp hS
   replace hO:=hO.m2 hE
   replace h106:=h106.m1 hE
   replace h108:=h108.m2 hE
   replace h109:=h109.m1 hE
   obtain ⟨eK,hr⟩:∃ r,gu (gi l_ bK)=r:=⟨_,rfl⟩
   replace hm:=hm eK hr
   rw [hr] at hp
   clear hr
   subst hp
   refine ePe T hS [19,20] [(7,I eK)] fun a hS=>?_
   refine rPe T hS [] [(22,B (eK != 0))] fun a hS=>?_
   refine aI hS (b:=(eK != 0)) kr (fun hb=>?_) fun hb=>?_
   ·replace hm:=hm.1 hb
    refine rP T hS ⟨[(2,I bK),(3,I eK)],[]⟩ fun a hS=>?_
    refine ba ?_
    exact fin T hS hO (fun c=>c) rfl (r:=[.int .i64 bK,.int .i64 eK]) kr (fun X' hM hC=>⟨(bK,eK),hm,rfl⟩)
   replace hm:=hm.2 hb
   refine aO (bh ?_)
   refine br ?_
   refine oPe T hS 3 [7,22] [(25,V (.map (some dY))),(27,I ((gi l_ bK).ah))] fun a hS=>?_
   refine op1 (kd kI tI false (zv:=.int .i64 0) (z:=0) ((gi l_ bK).ah) hS kr kr kr kr Tryz.underlying113 Tryz.underlying3 kr rfl h108 ?_)
   intro v118 a hv hS
   replace hv:tI.R _ _ [v118] _:=hv
   cases hv
   refine ePe T hS [25,27,28] [(33,B ((((aF gY ((gi l_ bK).ah)).getD 0) == 1) == (((gi l_ bK).bm) == 1)))] fun a hS=>?_
   refine aI hS (b:=((((aF gY ((gi l_ bK).ah)).getD 0) == 1) == (((gi l_ bK).bm) == 1))) kr (fun hb=>?_) fun hb=>?_
   ·replace hm:=hm.1 hb
    refine rP T hS ⟨[(2,I bK),(3,I 33)],[]⟩ fun a hS=>?_
    refine ba ?_
    exact fin T hS hO (fun c=>c) rfl (r:=[.int .i64 bK,.int .i64 33]) kr (fun X' hM hC=>⟨(bK,33),hm,rfl⟩)
   replace hm:=hm.2 hb
   refine aO ?_
   refine region ?_
   refine oP T hS 5 ⟨[(0,Sl a1 l_ c1),(4,V (.map (some dY))),(12,Sl a1 l_ c1),(13,I (lN l_)),(14,I bK),(35,V (.map (some dY))),(37,I ((gi l_ bK).ah)),(39,I ((gi l_ bK).bm))],[]⟩ fun a hS=>?_
   refine op1 (ue kI tI false (v:=I ((gi l_ bK).bm)) (u:=(gi l_ bK).bm) ((gi l_ bK).ah) hS kr kr kr kr Tryz.underlying113 Tryz.underlying3 kr h108 rfl ?_)
   intro a xh hE h120 hS
   clear h108
   replace hO:=hO.m2 hE
   replace h106:=h106.m1 hE
   replace h109:=h109.m1 hE
   refine iy ?_
   refine region (ePe T hS [] [(14,I (wR (bK+1)))] fun a hS=>?_)
   exact ⟨⟨dp gY ((gi l_ bK).ah) ((gi l_ bK).bm),wR (bK+1)⟩,⟨Z,_,hm.1,hS.sl _,hO,h106,h120,h109⟩,hm.2⟩
  replace hm:=hm.2 hb
  refine cu (by rfl) ?_
  exact ⟨Z,_,hm,hS.sl _,hO,h106⟩
 rintro a uW ⟨Z,Rt,hm,hS,hO,h105⟩
 unfold VC55_J1 at hm
 refine rPe T hS [0] [(2,I (lN l_)),(3,I 0)] fun a hS=>?_
 refine ba ?_
 exact fin T hS hO (fun c=>c) rfl (r:=[.int .i64 (lN l_),.int .i64 0]) kr (fun X' hM hC=>⟨((lN l_),0),hm,rfl⟩)
theorem C55 (Lf:S84) (v:∀ (l_:List aw),VC55 l_ (fun r=>r=bE l_)):S55:=by
 intro w X l_ a1 c1   h1
 refine (W55 Lf w X l_ a1 c1   _ (v l_) h1).mono ?_
 rintro _ _ _ _ ⟨r,rfl,h⟩
 exact h
theorem W94 (w0) (X0) (l_:List aw) (process:Int) (a1) (c1) (Q:Int->Prop) (hm:VC94 l_ process Q) (h1:RS aR w0 X0 a1 l_ c1) :
  Ret Tryz.prog 94 #[.slice a1 l_.length c1,.int .i64 process] aM w0 X0 (fun w X' v=>∃ r,Q r/\v=.int .i64 r):=by
 unfold VC94 at hm
 replace hm:=hm (h1.sm kr)
 refine enter Tryz.func94 rfl (vals:=[.slice a1 l_.length c1,.int .i64 process]) kr ?_
 intro Z a hS hO hM
 replace h1:=h1.m0 hM
 refine rPe T hS [] [] fun a hS=>?_
 refine rPe T hS [] [(5,I (-1))] fun a hS=>?_
 refine cb (fun a w=>∃ (Z:Nat->Nat) (X:Nat->Nat) (bD:Int),VC94_J1 Q bD/\St Tryz.f94.ntmps ⟨[(5,I bD)],[]⟩ Z a w X/\Old w0 X0 w X) ?_ ?_
 ·refine rPe T hS [] [(6,I 0)] fun a hS=>?_
  refine aQ ?_
  obtain ⟨I1,μ1,cJ,hm⟩:=hm
  refine cH (σ:=Int × Int) (fun s a w=>∃ Z X,I1 s.1 s.2/\St Tryz.f94.ntmps ⟨[(0,Sl a1 l_ c1),(1,I process),(5,I s.1),(6,I s.2)],[]⟩ Z a w X/\Old w0 X0 w X/\RS aR w X a1 l_ c1) (fun s=>μ1 s.1 s.2) (⟨(-1),0⟩) ?_ ?_
  ·exact ⟨Z,_,cJ,hS.sl _,hO,h1⟩
  rintro ⟨bj,fV⟩ a pY ⟨Z,yu,hI,hS,hO,h102⟩
  replace hm:=hm bj fV hI
  clear hI cJ
  refine bh ?_
  refine rPe T hS [] [(10,B (decide (fV < (lN l_))))] fun a hS=>?_
  refine aI hS (b:=decide (fV < (lN l_))) kr (fun hb=>?_) fun hb=>?_
  ·replace hm:=hm.1 hb
   refine aO ?_
   refine cb (fun a w=>∃ (Z:Nat->Nat) (X:Nat->Nat) (fo:Int),VC94_J2 I1 μ1 bj fV fo/\St Tryz.f94.ntmps ⟨[(0,Sl a1 l_ c1),(1,I process),(5,I fo),(6,I fV)],[]⟩ Z a w X/\Old w0 X0 w X/\RS aR w X a1 l_ c1) ?_ ?_
   ·refine aQ ?_
    refine br ?_
    refine oPe T hS 2 [10] [(13,Sl a1 l_ c1),(14,I fV)] fun a hS=>?_
    obtain ⟨hq,hm⟩:=hm
    refine op1 (index (e:=61) (k:=.i64) T hS kr kr kr kr h102 kr kr hq.1 hq.2 ?_)
    intro Hz a h108 hS
    refine op1 (fD (off:=1) (fsz:=1) (ft:=3) (TF:=tI) (y:=(gi l_ fV).ah) T hS kr kr kr h108 kr kr kr (fun cs h=>iq h) ?_)
    intro yw a h110 hS
    refine op1 (eT T hS kr kr kr h110 rfl kr ?_)
    intro v111 a hv hS
    cases hv
    refine ePe T hS [13,14,15,16,17] [(19,B (((gi l_ fV).ah) == process))] fun a hS=>?_
    refine aI hS (b:=(((gi l_ fV).ah) == process)) kr (fun hb=>?_) fun hb=>?_
    ·replace hm:=hm.1 hb
     refine region (ePe T hS [19] [(5,I fV)] fun a hS=>?_)
     exact ⟨Z,_,fV,hm,hS.sl _,hO,h102⟩
    replace hm:=hm.2 hb
    refine aO ?_
    exact ⟨Z,_,bj,hm,hS.sl _,hO,h102⟩
   rintro a xi ⟨Z,uN,fo,hm,hS,hO,h105⟩
   unfold VC94_J2 at hm
   refine region (ePe T hS [] [(6,I (wR (fV+1)))] fun a hS=>?_)
   exact ⟨⟨fo,wR (fV+1)⟩,⟨Z,_,hm.1,hS.sl _,hO,h105⟩,hm.2⟩
  replace hm:=hm.2 hb
  refine cu (by rfl) ?_
  exact ⟨Z,_,bj,hm,hS.sl _,hO⟩
 rintro a Bs ⟨Z,uM,bD,hm,hS,hO⟩
 unfold VC94_J1 at hm
 refine rPe T hS [5] [(4,I bD)] fun a hS=>?_
 refine ba ?_
 exact fin T hS hO (fun c=>c) rfl (r:=[.int .i64 bD]) kr (fun X' hM hC=>⟨bD,hm,rfl⟩)
theorem C94 (v:∀ (l_:List aw) (process:Int),VC94 l_ process (fun r=>r=iB l_ process)):S94:=by
 intro w X l_ process a1 c1   h1
 refine (W94 w X l_ process a1 c1   _ (v l_ process) h1).mono ?_
 rintro _ _ _ _ ⟨r,rfl,h⟩
 exact h
theorem W79 (K7:S94) (w0) (X0) (l_:List aw) (process:Int) (a1) (c1) (Q:Bool->Prop) (hm:VC79 l_ process Q) (h1:RS aR w0 X0 a1 l_ c1) :
  Ret Tryz.prog 79 #[.slice a1 l_.length c1,.int .i64 process] aM w0 X0 (fun w X' v=>∃ r,Q r/\v=.bool r):=by
 unfold VC79 at hm
 replace hm:=hm (h1.sm kr)
 refine enter Tryz.func79 rfl (vals:=[.slice a1 l_.length c1,.int .i64 process]) kr ?_
 intro Z a hS hO hM
 replace h1:=h1.m0 hM
 refine rPe T hS [] [] fun a hS=>?_
 refine br ?_
 refine oPe T hS 2 [1] [(6,Sl a1 l_ c1),(7,I process)] fun a hS=>?_
 refine op1 (call hS kr kr hb94 kr (fun _ _=>rfl) (K7 _ _ l_ process a1 c1 h1) ?_)
 intro v101 a fH fK hE hp hS
 replace hO:=hO.m2 hE
 replace h1:=h1.m1 hE
 obtain ⟨ay,hr⟩:∃ r,iB l_ process=r:=⟨_,rfl⟩
 replace hm:=hm ay hr
 rw [hr] at hp
 clear hr
 subst hp
 refine ePe T hS [6,7,8] [(5,I ay)] fun a hS=>?_
 refine br ?_
 refine oPe T hS 3 [] [(11,B (decide (ay≥0)))] fun a hS=>?_
 rcases bft (decide (ay≥0)) with hb | hb
 ·replace hS:=hS.lit (t:=11) kr hb
  replace hm:=hm.1 hb
  refine oPe T hS 2 [0,5] [(12,Sl a1 l_ c1),(13,I ay)] fun a hS=>?_
  obtain ⟨hq,hm⟩:=hm
  refine op1 (index (e:=61) (k:=.i64) T hS kr kr kr kr h1 kr kr hq.1 hq.2 ?_)
  intro yx a h106 hS
  refine op1 (fD (off:=0) (fsz:=1) (ft:=3) (TF:=tI) (y:=(gi l_ ay).bm) T hS kr kr kr h106 kr kr kr (fun cs h=>lZ h) ?_)
  intro Hz a h108 hS
  refine op1 (eT T hS kr kr kr h108 rfl kr ?_)
  intro v109 a hv hS
  cases hv
  refine ePe T hS [11,12,13,14,15,16] [(4,B (((gi l_ ay).bm) == 1))] fun a hS=>?_
  refine ba ?_
  exact fin T hS hO (fun c=>c) rfl (r:=[.bool (((gi l_ ay).bm) == 1)]) kr (fun X' hM hC=>⟨(((gi l_ ay).bm) == 1),hm,rfl⟩)
 replace hS:=hS.lit (t:=11) kr hb
 replace hm:=hm.2 hb
 refine ePe T hS [0,5,11] [(4,B false)] fun a hS=>?_
 refine ba ?_
 exact fin T hS hO (fun c=>c) rfl (r:=[.bool false]) kr (fun X' hM hC=>⟨false,hm,rfl⟩)
theorem C79 (K7:S94) (v:∀ (l_:List aw) (process:Int),VC79 l_ process (fun r=>r=fA l_ process)):S79:=by
 intro w X l_ process a1 c1   h1
 refine (W79 K7 w X l_ process a1 c1   _ (v l_ process) h1).mono ?_
 rintro _ _ _ _ ⟨r,rfl,h⟩
 exact h
theorem W50 (Iq:S79) (w0) (X0) (l_:List aw) (a1) (c1) (Q:Int × Int->Prop) (hm:VC50 l_ Q) (h1:RS aR w0 X0 a1 l_ c1) :
  Ret Tryz.prog 50 #[.slice a1 l_.length c1] aM w0 X0 (fun w X' v=>∃ r,Q r/\v=.tuple #[.int .i64 r.1,.int .i64 r.2]):=by
 unfold VC50 at hm
 replace hm:=hm (h1.sm kr)
 refine enter Tryz.func50 rfl (vals:=[.slice a1 l_.length c1]) kr ?_
 intro Z a hS hO hM
 replace h1:=h1.m0 hM
 refine rPe T hS [] [] fun a hS=>?_
 refine bh ?_
 refine rPe T hS [] [(8,B (decide ((lN l_) > 10000)))] fun a hS=>?_
 refine aI hS (b:=decide ((lN l_) > 10000)) kr (fun hb=>?_) fun hb=>?_
 ·replace hm:=hm.1 hb
  refine rPe T hS [0,8] [(2,I 0),(3,I 3)] fun a hS=>?_
  refine ba ?_
  exact fin T hS hO (fun c=>c) rfl (r:=[.int .i64 0,.int .i64 3]) kr (fun X' hM hC=>⟨(0,3),hm,rfl⟩)
 replace hm:=hm.2 hb
 refine aO ?_
 refine cb (fun a w=>∃ Z X,VC50_J1 l_ Q/\St Tryz.f50.ntmps ⟨[(0,Sl a1 l_ c1)],[]⟩ Z a w X/\Old w0 X0 w X/\RS aR w X a1 l_ c1) ?_ ?_
 ·refine rPe T hS [8] [(4,I 0)] fun a hS=>?_
  refine aQ ?_
  obtain ⟨I1,μ1,cJ,hm⟩:=hm
  refine cH (σ:=Int) (fun s a w=>∃ Z X,I1 s/\St Tryz.f50.ntmps ⟨[(0,Sl a1 l_ c1),(4,I s)],[]⟩ Z a w X/\Old w0 X0 w X/\RS aR w X a1 l_ c1) (fun s=>μ1 s) (0) ?_ ?_
  ·exact ⟨Z,_,cJ,hS.sl _,hO,h1⟩
  rintro bj a F1 ⟨Z,Nj,hI,hS,hO,h102⟩
  replace hm:=hm bj hI
  clear hI cJ
  refine bh ?_
  refine rPe T hS [] [(12,B (decide (bj < (lN l_))))] fun a hS=>?_
  refine aI hS (b:=decide (bj < (lN l_))) kr (fun hb=>?_) fun hb=>?_
  ·replace hm:=hm.1 hb
   refine aO (bh ?_)
   refine aQ ?_
   refine br ?_
   refine oPe T hS 2 [12] [(15,Sl a1 l_ c1),(16,I bj)] fun a hS=>?_
   obtain ⟨hq,hm⟩:=hm
   refine op1 (index (e:=61) (k:=.i64) T hS kr kr kr kr h102 kr kr hq.1 hq.2 ?_)
   intro Kc a h105 hS
   refine op1 (eS T hS kr kr kr h105 kr kr ?_)
   intro v106 a hv hS
   subst hv
   refine eM T hS ⟨[(0,Sl a1 l_ c1),(4,I bj),(5,Pt 6 0)],[(6,(61,(cE (gi l_ bj))))]⟩ fun Z a z1 ym hS hE hr=>?_
   replace hO:=hO.m2 hE
   replace h102:=h102.m1 hE
   clear hE hr
   refine bh ?_
   refine rPe T hS [] [(26,B ((((gi l_ bj).bm) != 1) && (((gi l_ bj).bm) != 2)))] (sp:=[22]) fun a hS=>?_
   refine aI hS (b:=((((gi l_ bj).bm) != 1) && (((gi l_ bj).bm) != 2))) kr (fun hb=>?_) fun hb=>?_
   ·replace hm:=hm.1 hb
    refine rP T hS ⟨[(2,I bj),(3,I 8)],[]⟩ fun a hS=>?_
    refine ba ?_
    exact fin T hS hO (fun c=>c) rfl (r:=[.int .i64 bj,.int .i64 8]) kr (fun X' hM hC=>⟨(bj,8),hm,rfl⟩)
   replace hm:=hm.2 hb
   refine aO (bh ?_)
   refine rPe T hS [26] [(35,B ((decide (((gi l_ bj).ah) < 1)) || (decide (((gi l_ bj).ah) > 1000))))] (sp:=[31]) fun a hS=>?_
   refine aI hS (b:=((decide (((gi l_ bj).ah) < 1)) || (decide (((gi l_ bj).ah) > 1000)))) kr (fun hb=>?_) fun hb=>?_
   ·replace hm:=hm.1 hb
    refine rP T hS ⟨[(2,I bj),(3,I 2)],[]⟩ fun a hS=>?_
    refine ba ?_
    exact fin T hS hO (fun c=>c) rfl (r:=[.int .i64 bj,.int .i64 2]) kr (fun X' hM hC=>⟨(bj,2),hm,rfl⟩)
   replace hm:=hm.2 hb
   refine aO (bh ?_)
   refine rPe T hS [35] [(49,B ((((gi l_ bj).bm) == 1) && ((decide (((gi l_ bj).N) < 0)) || (decide (((gi l_ bj).N) > 63)))))] (sp:=[40,44]) fun a hS=>?_
   refine aI hS (b:=((((gi l_ bj).bm) == 1) && ((decide (((gi l_ bj).N) < 0)) || (decide (((gi l_ bj).N) > 63))))) kr (fun hb=>?_) fun hb=>?_
   ·replace hm:=hm.1 hb
    refine rP T hS ⟨[(2,I bj),(3,I 31)],[]⟩ fun a hS=>?_
    refine ba ?_
    exact fin T hS hO (fun c=>c) rfl (r:=[.int .i64 bj,.int .i64 31]) kr (fun X' hM hC=>⟨(bj,31),hm,rfl⟩)
   replace hm:=hm.2 hb
   refine aO (bh ?_)
   refine rPe T hS [49] [(63,B ((((gi l_ bj).bm) == 2) && ((decide (((gi l_ bj).N) < 0)) || (decide (((gi l_ bj).N) > 1000000)))))] (sp:=[54,58]) fun a hS=>?_
   refine aI hS (b:=((((gi l_ bj).bm) == 2) && ((decide (((gi l_ bj).N) < 0)) || (decide (((gi l_ bj).N) > 1000000))))) kr (fun hb=>?_) fun hb=>?_
   ·replace hm:=hm.1 hb
    refine rP T hS ⟨[(2,I bj),(3,I 7)],[]⟩ fun a hS=>?_
    refine ba ?_
    exact fin T hS hO (fun c=>c) rfl (r:=[.int .i64 bj,.int .i64 7]) kr (fun X' hM hC=>⟨(bj,7),hm,rfl⟩)
   replace hm:=hm.2 hb
   refine aO ?_
   refine cb (fun a w=>∃ (Z:Nat->Nat) (X:Nat->Nat) (dz:Bool),VC50_J2 Q I1 μ1 bj dz/\St Tryz.f50.ntmps ⟨[(0,Sl a1 l_ c1),(4,I bj),(89,B dz)],[]⟩ Z a w X/\Old w0 X0 w X/\RS aR w X a1 l_ c1) ?_ ?_
   ·refine hJ [6] mixed hS ?_
    intro qm sf hS hE hD hH
    replace hO:=hO.m2 hE
    replace h102:=h102.m1 hE
    refine tke T [0,1,2,3] [6] hS hH #[true,true,true,true,false,false,false,false,false,false,false,false,false,false,false,false,false,false,false,false,false,false,false,false,false] 21 [] [(68,B (((gi l_ bj).bm) == 1))] fun a hS=>?_
    rcases bft (((gi l_ bj).bm) == 1) with hb | hb
    ·replace hS:=hS.lit (t:=68) kr hb
     replace hm:=hm.1 hb
     refine tke T [4,5,7,8] [6] hS hH #[true,true,true,true,true,true,false,true,true,false,false,false,false,false,false,false,false,false,false,false,false,false,false,false,false] 17 [] [(69,Sl a1 l_ c1),(70,I bj),(73,I ((gi l_ bj).ah))] fun a hS=>?_
     obtain ⟨hq,hm⟩:=hm
     refine uy (E:=61) (kh:=.i64) T 6 hS kr kr kr (by rfl) kr hH kr kr h102 kr kr hq.1 hq.2 ?_
     intro jb iZ a h113 hS
     refine only 9 kr (by rfl) (call hS kr kr hb79 kr (fun _ _=>rfl) (Iq _ _ (l_.take bj.toNat) ((gi l_ bj).ah) jb iZ h113) ?_)
     intro v114 a pY uM hE hp hS
     replace hO:=hO.m2 hE
     replace hD:=hD.ev hE rfl
     replace h102:=h102.m1 hE
     replace h113:=h113.m1 hE
     obtain ⟨eK,hr⟩:∃ r,fA (l_.take bj.toNat) ((gi l_ bj).ah)=r:=⟨_,rfl⟩
     replace hm:=hm eK hr
     rw [hr] at hp
     clear hr
     subst hp
     replace hS:=hS.sle [] [(74,B eK)]
     refine da (bO.of hS (bks:=[6]) kr hD) ?_
     intro hH
     refine tke T [10,11] [6] hS hH #[true,true,true,true,true,true,true,true,true,true,true,true,false,false,false,false,false,false,false,false,false,false,false,false,false] 13 [68,69,70,73,71,74] [(76,B eK)] fun a hS=>?_
     rcases bft eK with hb | hb
     ·replace hS:=hS.lit (t:=76) kr hb
      replace hm:=hm.1 hb
      refine tke T [12,13,14,15,16,17,19,18,20,21,22,23,24] [6] hS hH (tts 25) 0 [5,76] [(89,B true)] fun a hS=>?_
      refine aY kr ?_
      replace hS:=hS.sl ⟨[(0,Sl a1 l_ c1),(4,I bj),(89,B true)],[]⟩
      exact ⟨Z,_,true,hm,hS.sl _,hO,h102⟩
     replace hS:=hS.lit (t:=76) kr hb
     replace hm:=hm.2 hb
     refine tke T [12,13,14,15] [6] hS hH #[true,true,true,true,true,true,true,true,true,true,true,true,true,true,true,true,false,false,false,false,false,false,false,false,false] 9 [] [(80,B (((gi l_ bj).bm) == 2))] fun a hS=>?_
     rcases bft (((gi l_ bj).bm) == 2) with hb | hb
     ·replace hS:=hS.lit (t:=80) kr hb
      replace hm:=hm.1 hb
      refine tke T [16,17,19,20] [6] hS hH #[true,true,true,true,true,true,true,true,true,true,true,true,true,true,true,true,true,true,false,true,true,false,false,false,false] 5 [5] [(81,Sl a1 l_ c1),(82,I bj),(85,I ((gi l_ bj).ah))] fun a hS=>?_
      obtain ⟨hq,hm⟩:=hm
      refine uy (E:=61) (kh:=.i64) T 18 hS kr kr kr (by rfl) kr hH kr kr h102 kr kr hq.1 hq.2 ?_
      intro il ik a h120 hS
      refine only 21 kr (by rfl) (call hS kr kr hb79 kr (fun _ _=>rfl) (Iq _ _ (l_.take bj.toNat) ((gi l_ bj).ah) il ik h120) ?_)
      intro v121 a uX uL hE hp hS
      replace hO:=hO.m2 hE
      replace hD:=hD.ev hE rfl
      replace h102:=h102.m1 hE
      replace h113:=h113.m1 hE
      replace h120:=h120.m1 hE
      obtain ⟨dF,hr⟩:∃ r,fA (l_.take bj.toNat) ((gi l_ bj).ah)=r:=⟨_,rfl⟩
      replace hm:=hm dF hr
      rw [hr] at hp
      clear hr
      subst hp
      replace hS:=hS.sle [] [(86,B dF)]
      refine da (bO.of hS (bks:=[6]) kr hD) ?_
      intro hH
      refine tke T [22,23,24] [6] hS hH (tts 25) 0 [76,80,81,82,85,83,86] [(89,B (!dF))] fun a hS=>?_
      refine aY kr ?_
      replace hS:=hS.sl ⟨[(0,Sl a1 l_ c1),(4,I bj),(89,B (!dF))],[]⟩
      exact ⟨Z,_,(!dF),hm,hS.sl _,hO,h102⟩
     replace hS:=hS.lit (t:=80) kr hb
     replace hm:=hm.2 hb
     refine tke T [16,17,19,18,20,21,22,23,24] [6] hS hH (tts 25) 0 [5,76,80] [(89,B false)] fun a hS=>?_
     refine aY kr ?_
     replace hS:=hS.sl ⟨[(0,Sl a1 l_ c1),(4,I bj),(89,B false)],[]⟩
     exact ⟨Z,_,false,hm,hS.sl _,hO,h102⟩
    replace hS:=hS.lit (t:=68) kr hb
    replace hm:=hm.2 hb
    refine tke T [4,5,7,6,8,9,10,11,12,13,14,15] [6] hS hH #[true,true,true,true,true,true,true,true,true,true,true,true,true,true,true,true,false,false,false,false,false,false,false,false,false] 9 [68] [(76,B false),(80,B (((gi l_ bj).bm) == 2))] fun a hS=>?_
    rcases bft (((gi l_ bj).bm) == 2) with hb | hb
    ·replace hS:=hS.lit (t:=80) kr hb
     replace hm:=hm.1 hb
     refine tke T [16,17,19,20] [6] hS hH #[true,true,true,true,true,true,true,true,true,true,true,true,true,true,true,true,true,true,false,true,true,false,false,false,false] 5 [5] [(81,Sl a1 l_ c1),(82,I bj),(85,I ((gi l_ bj).ah))] fun a hS=>?_
     obtain ⟨hq,hm⟩:=hm
     refine uy (E:=61) (kh:=.i64) T 18 hS kr kr kr (by rfl) kr hH kr kr h102 kr kr hq.1 hq.2 ?_
     intro ja iY a h127 hS
     refine only 21 kr (by rfl) (call hS kr kr hb79 kr (fun _ _=>rfl) (Iq _ _ (l_.take bj.toNat) ((gi l_ bj).ah) ja iY h127) ?_)
     intro v128 a KM EN hE hp hS
     replace hO:=hO.m2 hE
     replace hD:=hD.ev hE rfl
     replace h102:=h102.m1 hE
     replace h127:=h127.m1 hE
     obtain ⟨gm,hr⟩:∃ r,fA (l_.take bj.toNat) ((gi l_ bj).ah)=r:=⟨_,rfl⟩
     replace hm:=hm gm hr
     rw [hr] at hp
     clear hr
     subst hp
     replace hS:=hS.sle [] [(86,B gm)]
     refine da (bO.of hS (bks:=[6]) kr hD) ?_
     intro hH
     refine tke T [22,23,24] [6] hS hH (tts 25) 0 [76,80,81,82,85,83,86] [(89,B (!gm))] fun a hS=>?_
     refine aY kr ?_
     replace hS:=hS.sl ⟨[(0,Sl a1 l_ c1),(4,I bj),(89,B (!gm))],[]⟩
     exact ⟨Z,_,(!gm),hm,hS.sl _,hO,h102⟩
    replace hS:=hS.lit (t:=80) kr hb
    replace hm:=hm.2 hb
    refine tke T [16,17,19,18,20,21,22,23,24] [6] hS hH (tts 25) 0 [5,76,80] [(89,B false)] fun a hS=>?_
    refine aY kr ?_
    replace hS:=hS.sl ⟨[(0,Sl a1 l_ c1),(4,I bj),(89,B false)],[]⟩
    exact ⟨Z,_,false,hm,hS.sl _,hO,h102⟩
   rintro a z3 ⟨Z,rS,dz,hm,hS,hO,h107⟩
   unfold VC50_J2 at hm
   refine aI hS (b:=dz) kr (fun hb=>?_) fun hb=>?_
   ·replace hm:=hm.1 hb
    refine rPe T hS [0,4,89] [(2,I bj),(3,I 33)] fun a hS=>?_
    refine ba ?_
    exact fin T hS hO (fun c=>c) rfl (r:=[.int .i64 bj,.int .i64 33]) kr (fun X' hM hC=>⟨(bj,33),hm,rfl⟩)
   replace hm:=hm.2 hb
   refine aO ?_
   refine region (ePe T hS [89] [(4,I (wR (bj+1)))] fun a hS=>?_)
   exact ⟨wR (bj+1),⟨Z,_,hm.1,hS.sl _,hO,h107⟩,hm.2⟩
  replace hm:=hm.2 hb
  refine cu (by rfl) ?_
  exact ⟨Z,_,hm,hS.sl _,hO,h102⟩
 rintro a tu ⟨Z,Ho,hm,hS,hO,h101⟩
 unfold VC50_J1 at hm
 refine rPe T hS [0] [(2,I (lN l_)),(3,I 0)] fun a hS=>?_
 refine ba ?_
 exact fin T hS hO (fun c=>c) rfl (r:=[.int .i64 (lN l_),.int .i64 0]) kr (fun X' hM hC=>⟨((lN l_),0),hm,rfl⟩)
theorem C50 (Iq:S79) (v:∀ (l_:List aw),VC50 l_ (fun r=>r=e7 l_)):S50:=by
 intro w X l_ a1 c1   h1
 refine (W50 Iq w X l_ a1 c1   _ (v l_) h1).mono ?_
 rintro _ _ _ _ ⟨r,rfl,h⟩
 exact h
theorem W57 (w0) (X0) (a_:List bc) (b_:List bc) (a1) (c1) (a2) (c2) (Q:Bool->Prop) (hm:VC57 a_ b_ Q) (h1:RS aB w0 X0 a1 a_ c1) (h2:RS aB w0 X0 a2 b_ c2) :
  Ret Tryz.prog 57 #[.slice a1 a_.length c1,.slice a2 b_.length c2] aM w0 X0 (fun w X' v=>∃ r,Q r/\v=.bool r):=by
 unfold VC57 at hm
 replace hm:=hm (h1.sm kr)
 replace hm:=hm (h2.sm kr)
 refine enter Tryz.func57 rfl (vals:=[.slice a1 a_.length c1,.slice a2 b_.length c2]) kr ?_
 intro Z a hS hO hM
 replace h1:=h1.m0 hM
 replace h2:=h2.m0 hM
 refine rPe T hS [] [] fun a hS=>?_
 refine bh ?_
 refine rPe T hS [] [(10,B ((lN a_) != (lN b_)))] fun a hS=>?_
 refine aI hS (b:=((lN a_) != (lN b_))) kr (fun hb=>?_) fun hb=>?_
 ·replace hm:=hm.1 hb
  refine rPe T hS [0,1,10] [(4,B false)] fun a hS=>?_
  refine ba ?_
  exact fin T hS hO (fun c=>c) rfl (r:=[.bool false]) kr (fun X' hM hC=>⟨false,hm,rfl⟩)
 replace hm:=hm.2 hb
 refine aO ?_
 refine cb (fun a w=>∃ Z X,VC57_J1 Q/\St Tryz.f57.ntmps ⟨[],[]⟩ Z a w X/\Old w0 X0 w X) ?_ ?_
 ·refine rPe T hS [10] [(5,I 0)] fun a hS=>?_
  refine aQ ?_
  obtain ⟨I1,μ1,cJ,hm⟩:=hm
  refine cH (σ:=Int) (fun s a w=>∃ Z X,I1 s/\St Tryz.f57.ntmps ⟨[(0,Sl a1 a_ c1),(1,Sl a2 b_ c2),(5,I s)],[]⟩ Z a w X/\Old w0 X0 w X/\RS aB w X a1 a_ c1/\RS aB w X a2 b_ c2) (fun s=>μ1 s) (0) ?_ ?_
  ·exact ⟨Z,_,cJ,hS.sl _,hO,h1,h2⟩
  rintro bj a xi ⟨Z,uN,hI,hS,hO,h101,h102⟩
  replace hm:=hm bj hI
  clear hI cJ
  refine bh ?_
  refine rPe T hS [] [(14,B (decide (bj < (lN a_))))] fun a hS=>?_
  refine aI hS (b:=decide (bj < (lN a_))) kr (fun hb=>?_) fun hb=>?_
  ·replace hm:=hm.1 hb
   refine aO (bh ?_)
   refine aQ ?_
   refine dB [] mixed hS ?_
   intro z6 pD hS hE hD hH
   replace hO:=hO.m2 hE
   replace h101:=h101.m1 hE
   replace h102:=h102.m1 hE
   refine tke T [0,1,4,5] [] hS hH #[true,true,false,false,true,true,false,false,false] 5 [] [(17,Sl a1 a_ c1),(18,I bj),(21,Sl a2 b_ c2),(22,I bj)] fun a hS=>?_
   obtain ⟨hq,hm⟩:=hm
   refine dg (e:=107) (k:=.i64) T 2 hS kr kr kr (by rfl) kr hH kr kr h101 kr kr hq.1 hq.2 ?_
   intro Kb a h107 hS
   have CF:=h107.here
   refine ld T 3 hS kr kr kr (by rfl) kr hH kr h107 CF kr kr ?_
   intro v108 a hv hS
   subst hv
   obtain ⟨hq,hm⟩:=hm
   refine dg (e:=107) (k:=.i64) T 6 hS kr kr kr (by rfl) kr hH kr kr h102 kr kr hq.1 hq.2 ?_
   intro yw a h110 hS
   have lz:=h110.here
   refine ld T 7 hS kr kr kr (by rfl) kr hH kr h110 lz kr kr ?_
   intro v111 a hv hS
   subst hv
   refine AO (op:=.neq) (xs:=[.int .i64 ((gi a_ bj).State),.int .i64 ((gi a_ bj).Kind),.int .i64 ((gi a_ bj).Next),.int .i64 ((gi a_ bj).Result)]) (ys:=[.int .i64 ((gi b_ bj).State),.int .i64 ((gi b_ bj).Kind),.int .i64 ((gi b_ bj).Next),.int .i64 ((gi b_ bj).Result)]) (r:=(((gi a_ bj).State) == ((gi b_ bj).State) && (((gi a_ bj).Kind) == ((gi b_ bj).Kind) && (((gi a_ bj).Next) == ((gi b_ bj).Next) && (((gi a_ bj).Result) == ((gi b_ bj).Result) && true))))) (b:=(!(((gi a_ bj).State) == ((gi b_ bj).State) && (((gi a_ bj).Kind) == ((gi b_ bj).Kind) && (((gi a_ bj).Next) == ((gi b_ bj).Next) && (((gi a_ bj).Result) == ((gi b_ bj).Result) && true)))))) 8 T hS kr kr kr (by rfl) kr hH kr kr kr kr kr kr ?_
   intro a hS
   refine aY kr ?_
   replace hS:=hS.sle [17,18,21,22,19,20,23,24] []
   refine aI hS (b:=(!(((gi a_ bj).State) == ((gi b_ bj).State) && (((gi a_ bj).Kind) == ((gi b_ bj).Kind) && (((gi a_ bj).Next) == ((gi b_ bj).Next) && (((gi a_ bj).Result) == ((gi b_ bj).Result) && true)))))) kr (fun hb=>?_) fun hb=>?_
   ·replace hm:=hm.1 hb
    refine rPe T hS [0,1,5,25] [(4,B false)] fun a hS=>?_
    refine ba ?_
    exact fin T hS hO (fun c=>c) rfl (r:=[.bool false]) kr (fun X' hM hC=>⟨false,hm,rfl⟩)
   replace hm:=hm.2 hb
   refine aO ?_
   refine region (ePe T hS [25] [(5,I (wR (bj+1)))] fun a hS=>?_)
   exact ⟨wR (bj+1),⟨Z,_,hm.1,hS.sl _,hO,h101,h102⟩,hm.2⟩
  replace hm:=hm.2 hb
  refine cu (by rfl) ?_
  exact ⟨Z,_,hm,hS.sl _,hO⟩
 rintro a pY ⟨Z,yu,hm,hS,hO⟩
 unfold VC57_J1 at hm
 refine rPe T hS [] [(4,B true)] fun a hS=>?_
 refine ba ?_
 exact fin T hS hO (fun c=>c) rfl (r:=[.bool true]) kr (fun X' hM hC=>⟨true,hm,rfl⟩)
theorem C57 (v:∀ (a_:List bc) (b_:List bc),VC57 a_ b_ (fun r=>r=ep a_ b_)):S57:=by
 intro w X a_ b_ a1 c1 a2 c2   h1 h2
 refine (W57 w X a_ b_ a1 c1 a2 c2   _ (v a_ b_) h1 h2).mono ?_
 rintro _ _ _ _ ⟨r,rfl,h⟩
 exact h
theorem W26 (Lu:S57) (w0) (X0) (a_:ao) (b_:ao) (a1) (c1) (a2) (c2) (Q:Bool->Prop) (hm:VC26 a_ b_ Q) (h1:RS aB w0 X0 a1 a_.Rows c1) (h2:RS aB w0 X0 a2 b_.Rows c2) :
  Ret Tryz.prog 26 #[.agg #[.int .i64 a_.au,.int .i64 a_.aA,.int .i64 a_.aH,.slice a1 a_.Rows.length c1],.agg #[.int .i64 b_.au,.int .i64 b_.aA,.int .i64 b_.aH,.slice a2 b_.Rows.length c2]] aM w0 X0 (fun w X' v=>∃ r,Q r/\v=.bool r):=by
 unfold VC26 at hm
 replace hm:=hm (h1.sm kr)
 replace hm:=hm (h2.sm kr)
 refine enter Tryz.func26 rfl (vals:=[.agg #[.int .i64 a_.au,.int .i64 a_.aA,.int .i64 a_.aH,.slice a1 a_.Rows.length c1],.agg #[.int .i64 b_.au,.int .i64 b_.aA,.int .i64 b_.aH,.slice a2 b_.Rows.length c2]]) kr ?_
 intro Z a hS hO hM
 replace h1:=h1.m0 hM
 replace h2:=h2.m0 hM
 refine rM T hS ⟨[(2,Pt 3 0),(3,Pt 4 0)],[(3,(48,(cO a_ a1 c1))),(4,(48,(cO b_ a2 c2)))]⟩ fun Z a nA mh hS hE hr=>?_
 replace hO:=hO.m2 hE
 replace h1:=h1.m1 hE
 replace h2:=h2.m1 hE
 clear hE hr
 refine br ?_
 refine oPe T hS 20 [] [(24,B (((a_.au == b_.au) && (a_.aA == b_.aA)) && (a_.aH == b_.aH)))] (sp:=[10,17]) fun a hS=>?_
 rcases bft (((a_.au == b_.au) && (a_.aA == b_.aA)) && (a_.aH == b_.aH)) with hb | hb
 ·replace hS:=hS.lit (t:=24) kr hb
  replace hm:=hm.1 hb
  refine oP T hS 4 ⟨[(24,B true),(26,Sl a1 a_.Rows c1),(28,Sl a2 b_.Rows c2)],[]⟩ fun a hS=>?_
  refine op1 (call hS kr kr hb57 kr (fun _ _=>rfl) (Lu _ _ a_.Rows b_.Rows a1 c1 a2 c2 h1 h2) ?_)
  intro v101 a fH fK hE hp hS
  replace hO:=hO.m2 hE
  replace h1:=h1.m1 hE
  replace h2:=h2.m1 hE
  obtain ⟨ay,hr⟩:∃ r,ep a_.Rows b_.Rows=r:=⟨_,rfl⟩
  replace hm:=hm ay hr
  rw [hr] at hp
  clear hr
  subst hp
  refine ePe T hS [24,26,28,29] [(4,B ay)] fun a hS=>?_
  refine ba ?_
  exact fin T hS hO (fun c=>c) rfl (r:=[.bool ay]) kr (fun X' hM hC=>⟨ay,hm,rfl⟩)
 replace hS:=hS.lit (t:=24) kr hb
 replace hm:=hm.2 hb
 refine eP T hS ⟨[(4,B false)],[]⟩ fun a hS=>?_
 refine ba ?_
 exact fin T hS hO (fun c=>c) rfl (r:=[.bool false]) kr (fun X' hM hC=>⟨false,hm,rfl⟩)
theorem C26 (Lu:S57) (v:∀ (a_:ao) (b_:ao),VC26 a_ b_ (fun r=>r=ji a_ b_)):S26:=by
 intro w X a_ b_ a1 c1 a2 c2   h1 h2
 refine (W26 Lu w X a_ b_ a1 c1 a2 c2   _ (v a_ b_) h1 h2).mono ?_
 rintro _ _ _ _ ⟨r,rfl,h⟩
 exact h
theorem W56 (Gt:S55) (w0) (X0) (l_:List aw) (a1) (c1) (Q:(List ab) × Int->Prop) (hm:VC56 l_ Q) (h1:RS aR w0 X0 a1 l_ c1) :
  Ret Tryz.prog 56 #[.slice a1 l_.length c1] aM w0 X0 (fun w X' v=>∃ r,Q r/\∃ cQ cN,v=.tuple #[.slice cQ r.1.length cN,.int .i64 r.2]/\RS ar w X' cQ r.1 cN):=by
 unfold VC56 at hm
 replace hm:=hm (h1.sm kr)
 refine enter Tryz.func56 rfl (vals:=[.slice a1 l_.length c1]) kr ?_
 intro Z a hS hO hM
 replace h1:=h1.m0 hM
 refine rPe T hS [] [] fun a hS=>?_
 refine bh ?_
 refine br ?_
 refine oPe T hS 1 [] [(12,Sl a1 l_ c1)] fun a hS=>?_
 refine op1 (call hS kr kr hb55 kr (fun _ _=>rfl) (Gt _ _ l_ a1 c1 h1) ?_)
 intro v101 a fH fK hE hp hS
 replace hO:=hO.m2 hE
 replace h1:=h1.m1 hE
 obtain ⟨ay,hr⟩:∃ r,bE l_=r:=⟨_,rfl⟩
 replace hm:=hm ay hr
 rw [hr] at hp
 clear hr
 subst hp
 refine ePe T hS [12,13] [(5,I ay.2)] fun a hS=>?_
 refine rPe T hS [] [(17,B (ay.2 != 0))] fun a hS=>?_
 refine aI hS (b:=(ay.2 != 0)) kr (fun hb=>?_) fun hb=>?_
 ·replace hm:=hm.1 hb
  refine rPe T hS [0,5,17] [(2,V (.slice none 0 0)),(3,I ay.2)] fun a hS=>?_
  refine ba ?_
  exact fin T hS hO (fun c=>c) rfl (r:=[.slice none 0 0,.int .i64 ay.2]) kr (fun X' hM hC=>⟨([],ay.2),hm,none,0,rfl,RS.empty _ _ _⟩)
 replace hm:=hm.2 hb
 refine aO ?_
 refine rPe T hS [5,17] [(6,V (.slice none 0 0))] fun a hS=>?_
 refine br ?_
 refine op1 (pM kI tI false 1020 hS kr kr ?_)
 intro jk a n6 n2 hE h108 hS
 replace hO:=hO.m2 hE
 replace h1:=h1.m1 hE
 refine ePe T hS [19] [(7,V (.map (some jk)))] fun a hS=>?_
 refine cb (fun a w=>∃ (Z:Nat->Nat) (X:Nat->Nat) (c7:List ab) (gR:Option Addr) (gQ:Nat),VC56_J1 Q c7/\St Tryz.f56.ntmps ⟨[(6,Sl gR c7 gQ)],[]⟩ Z a w X/\Old w0 X0 w X/\OS ar 102 w X 1003 gR c7 gQ) ?_ ?_
 ·refine rPe T hS [0] [(20,Sl a1 l_ c1),(21,I (lN l_)),(22,I 0)] fun a hS=>?_
  refine aQ ?_
  obtain ⟨I1,μ1,cJ,hm⟩:=hm
  refine cH (σ:=(List ab) × (List (Int × Int)) × Int) (fun s a w=>∃ Z X eD eC,I1 s.1 s.2.1 s.2.2/\St Tryz.f56.ntmps ⟨[(6,Sl eD s.1 eC),(7,V (.map (some jk))),(20,Sl a1 l_ c1),(21,I (lN l_)),(22,I s.2.2)],[]⟩ Z a w X/\Old w0 X0 w X/\OS ar 102 w X 1003 eD s.1 eC/\OM kI tI false w X 1020 jk s.2.1/\RS aR w X a1 l_ c1) (fun s=>μ1 s.1 s.2.1 s.2.2) (⟨[],([]:List (Int × Int)),0⟩) ?_ ?_
  ·exact ⟨Z,_,none,0,cJ,hS.sl _,hO,(OS.nil _ _ _ _ _),h108,h1⟩
  rintro ⟨bu,bN,aX⟩ a DH ⟨Z,Hk,eD,eC,hI,hS,hO,h118,h120,h121⟩
  replace hm:=hm bu bN aX hI
  clear hI cJ
  refine rPe T hS [] [(23,B (decide (aX < (lN l_))))] fun a hS=>?_
  refine bh ?_
  refine aI hS (b:=decide (aX < (lN l_))) kr (fun hb=>?_) fun hb=>?_
  ·replace hm:=hm.1 hb
   refine aO ?_
   refine cb (fun a w=>∃ (Z:Nat->Nat) (X:Nat->Nat) (iJ:List ab) (eZ:List (Int × Int)) (kC:Option Addr) (kx:Nat),VC56_J2 I1 μ1 bu bN aX iJ eZ/\St Tryz.f56.ntmps ⟨[(6,Sl kC iJ kx),(7,V (.map (some jk))),(20,Sl a1 l_ c1),(21,I (lN l_)),(22,I aX)],[]⟩ Z a w X/\Old w0 X0 w X/\OS ar 102 w X 1003 kC iJ kx/\OM kI tI false w X 1020 jk eZ/\RS aR w X a1 l_ c1) ?_ ?_
   ·refine aQ ?_
    refine br ?_
    refine oPe T hS 1 [23] [(24,I aX)] fun a hS=>?_
    obtain ⟨hq,hm⟩:=hm
    refine op1 (index (e:=61) (k:=.i64) T hS kr kr kr kr h121 kr kr hq.1 hq.2 ?_)
    intro Sg a h131 hS
    refine op1 (eS T hS kr kr kr h131 kr kr ?_)
    intro v132 a hv hS
    subst hv
    refine eM T hS ⟨[(6,Sl eD bu eC),(7,V (.map (some jk))),(8,I aX),(9,Pt 10 0),(20,Sl a1 l_ c1),(21,I (lN l_)),(22,I aX)],[(10,(61,(cE (gi l_ aX))))]⟩ fun Z a Bp Db hS hE hr=>?_
    replace hO:=hO.m2 hE
    replace h118:=h118.m2 hE
    replace h120:=h120.m2 hE
    replace h121:=h121.m1 hE
    clear hE hr
    refine bh ?_
    refine rPe T hS [] [(29,B (((gi l_ aX).bm) == 1))] fun a hS=>?_
    refine aI hS (b:=(((gi l_ aX).bm) == 1)) kr (fun hb=>?_) fun hb=>?_
    ·replace hm:=hm.1 hb
     refine br ?_
     refine oPe T hS 5 [29] [(30,V (.map (some jk))),(32,I ((gi l_ aX).ah)),(34,I (lN bu))] fun a hS=>?_
     refine op1 (ue kI tI false (v:=I (lN bu)) (u:=(lN bu)) ((gi l_ aX).ah) hS kr kr kr kr Tryz.underlying113 Tryz.underlying3 kr h120 rfl ?_)
     intro a z3 hE h134 hS
     clear h120
     replace hO:=hO.m2 hE
     replace h118:=h118.m2 hE
     replace h121:=h121.m1 hE
     refine iy ?_
     refine br ?_
     refine oP T hS 7 ⟨[(6,Sl eD bu eC),(7,V (.map (some jk))),(20,Sl a1 l_ c1),(21,I (lN l_)),(22,I aX),(35,Sl eD bu eC),(41,V (.agg #[.int .i64 ((gi l_ aX).ah),.int .i64 ((gi l_ aX).N),.int .i64 aX,.int .i64 (-1),.int .i64 (-1)]))],[]⟩ fun a hS=>?_
     refine op1 (lit (E:=102) (col:=0) (T:=ar) (vals:=[.agg #[.int .i64 ((gi l_ aX).ah),.int .i64 ((gi l_ aX).N),.int .i64 aX,.int .i64 (-1),.int .i64 (-1)]]) (ys:=[(⟨(gi l_ aX).ah,(gi l_ aX).N,aX,(-1),(-1)⟩:ab)]) T hS kr kr kr kr (by exact ⟨rfl,trivial⟩) rfl kr kr kr kr ?_)
     intro b135 a tv wS hE h138 hN hS
     clear hN
     replace hO:=hO.m2 hE
     replace h118:=h118.m2 hE
     replace h121:=h121.m1 hE
     replace h134:=h134.m2 hE
     replace h138:=h138.rs0
     obtain ⟨hq,hm⟩:=hm
     obtain ⟨news,hN⟩:=h138.src
     refine op1 (append (E:=102) (T:=ar) (col:=1003) (xs:=bu) T hS kr kr kr kr h118 hN kr kr kr kr hq ?_)
     intro kB ku a tu wQ hE h141 hS
     clear hq hN
     clear h118
     replace hO:=hO.m2 hE
     replace h121:=h121.m1 hE
     replace h134:=h134.m2 hE
     replace h138:=h138.m1 hE
     refine ePe T hS [41,42,43] [(6,Sl kB (bu++[(⟨(gi l_ aX).ah,(gi l_ aX).N,aX,(-1),(-1)⟩:ab)]) ku)] fun a hS=>?_
     refine cu (by rfl) ?_
     exact ⟨Z,_,bu++[(⟨(gi l_ aX).ah,(gi l_ aX).N,aX,(-1),(-1)⟩:ab)],dp bN ((gi l_ aX).ah) (lN bu),kB,ku,hm,hS.sl _,hO,h141,h134,h121⟩
    replace hm:=hm.2 hb
    refine aO ?_
    refine br ?_
    refine oPe T hS 4 [29] [(44,Sl eD bu eC),(45,V (.map (some jk))),(47,I ((gi l_ aX).ah))] fun a hS=>?_
    refine op1 (kd kI tI false (zv:=.int .i64 0) (z:=0) ((gi l_ aX).ah) hS kr kr kr kr Tryz.underlying113 Tryz.underlying3 kr rfl h120 ?_)
    intro v144 a hv hS
    replace hv:tI.R _ _ [v144] _:=hv
    cases hv
    obtain ⟨sY,hm⟩:=hm
    refine op1 (nO (E:=102) (k:=.i64) T hS kr kr kr kr h118 kr kr sY.1 sY.2 ?_)
    intro Dk a h147 h146 hS
    have h148:=h147.ad
    clear h147 h146
    refine ePe T hS [44,45,47,48,49] [(10,V (.pointer (some Dk)))] fun a hS=>?_
    refine hJ [10] mixed hS ?_
    intro DK J2 hS hE hD hH
    replace hO:=hO.m2 hE
    replace h118:=h118.m2 hE
    replace h120:=h120.m2 hE
    replace h121:=h121.m1 hE
    refine tke T [0,1,2,3,4] [10] hS hH #[true,true,true,true,true,false,false,false,false,false,false] 6 [8,9,10] [(50,V (.pointer (some Dk))),(51,V (.pointer (some Dk))),(52,I aX),(54,I ((gi l_ aX).N))] fun a hS=>?_
    refine only 5 kr (by rfl) (Im (A:=Dk) hS kr kr kr ?_)
    intro a hS
    refine da (bO.of hS (bks:=[10]) kr hD) ?_
    intro hH
    refine only 6 kr (by rfl) (ux (off:=3) (fsz:=1) (ft:=3) T hS kr kr kr h148 kr kr ?_)
    intro Nr a h153 hS
    refine da (bO.of hS (bks:=[10]) kr hD) ?_
    intro hH
    refine only 7 kr (by rfl) (tD (m:=1) (off:=3) (x:=(⟨(gi bu ((aF bN ((gi l_ aX).ah)).getD 0)).ah,(gi bu ((aF bN ((gi l_ aX).ah)).getD 0)).Kind,(gi bu ((aF bN ((gi l_ aX).ah)).getD 0)).aG,aX,(gi bu ((aF bN ((gi l_ aX).ah)).getD 0)).Result⟩:ab)) (v:=I aX) (i:=((aF bN ((gi l_ aX).ah)).getD 0).toNat) (E:=102) (xs:=bu) T hS kr kr kr kr h118 h153 (by have:=sY.1; have:=sY.2; (try simp only [List.length_set]); omega) kr kr rfl (fun _ _ _ h=>by cases h; rfl) ?_)
    intro a tt hE h155 hS
    clear h118
    replace hO:=hO.m2 hE
    replace hD:=hD.ev hE rfl
    replace h120:=h120.m2 hE
    replace h121:=h121.m1 hE
    replace hS:=hS.conv (t:=6) (y:=.slice eD (bu.set ((aF bN ((gi l_ aX).ah)).getD 0).toNat (⟨(gi bu ((aF bN ((gi l_ aX).ah)).getD 0)).ah,(gi bu ((aF bN ((gi l_ aX).ah)).getD 0)).Kind,(gi bu ((aF bN ((gi l_ aX).ah)).getD 0)).aG,aX,(gi bu ((aF bN ((gi l_ aX).ah)).getD 0)).Result⟩:ab)).length eC) kr (by rw [List.length_set])
    refine da (bO.of hS (bks:=[10]) kr hD) ?_
    intro hH
    refine only 8 kr (by rfl) (Im (A:=Dk) hS kr kr kr ?_)
    intro a hS
    refine da (bO.of hS (bks:=[10]) kr hD) ?_
    intro hH
    refine only 9 kr (by rfl) (ux (off:=4) (fsz:=1) (ft:=3) T hS kr kr kr h148 kr kr ?_)
    intro Nq a h157 hS
    refine da (bO.of hS (bks:=[10]) kr hD) ?_
    intro hH
    refine only 10 kr (by rfl) (tD (m:=1) (off:=4) (x:=(⟨(gi (bu.set ((aF bN ((gi l_ aX).ah)).getD 0).toNat (⟨(gi bu ((aF bN ((gi l_ aX).ah)).getD 0)).ah,(gi bu ((aF bN ((gi l_ aX).ah)).getD 0)).Kind,(gi bu ((aF bN ((gi l_ aX).ah)).getD 0)).aG,aX,(gi bu ((aF bN ((gi l_ aX).ah)).getD 0)).Result⟩:ab)) ((aF bN ((gi l_ aX).ah)).getD 0)).ah,(gi (bu.set ((aF bN ((gi l_ aX).ah)).getD 0).toNat (⟨(gi bu ((aF bN ((gi l_ aX).ah)).getD 0)).ah,(gi bu ((aF bN ((gi l_ aX).ah)).getD 0)).Kind,(gi bu ((aF bN ((gi l_ aX).ah)).getD 0)).aG,aX,(gi bu ((aF bN ((gi l_ aX).ah)).getD 0)).Result⟩:ab)) ((aF bN ((gi l_ aX).ah)).getD 0)).Kind,(gi (bu.set ((aF bN ((gi l_ aX).ah)).getD 0).toNat (⟨(gi bu ((aF bN ((gi l_ aX).ah)).getD 0)).ah,(gi bu ((aF bN ((gi l_ aX).ah)).getD 0)).Kind,(gi bu ((aF bN ((gi l_ aX).ah)).getD 0)).aG,aX,(gi bu ((aF bN ((gi l_ aX).ah)).getD 0)).Result⟩:ab)) ((aF bN ((gi l_ aX).ah)).getD 0)).aG,(gi (bu.set ((aF bN ((gi l_ aX).ah)).getD 0).toNat (⟨(gi bu ((aF bN ((gi l_ aX).ah)).getD 0)).ah,(gi bu ((aF bN ((gi l_ aX).ah)).getD 0)).Kind,(gi bu ((aF bN ((gi l_ aX).ah)).getD 0)).aG,aX,(gi bu ((aF bN ((gi l_ aX).ah)).getD 0)).Result⟩:ab)) ((aF bN ((gi l_ aX).ah)).getD 0)).End,(gi l_ aX).N⟩:ab)) (v:=I ((gi l_ aX).N)) (i:=((aF bN ((gi l_ aX).ah)).getD 0).toNat) (E:=102) (xs:=(bu.set ((aF bN ((gi l_ aX).ah)).getD 0).toNat (⟨(gi bu ((aF bN ((gi l_ aX).ah)).getD 0)).ah,(gi bu ((aF bN ((gi l_ aX).ah)).getD 0)).Kind,(gi bu ((aF bN ((gi l_ aX).ah)).getD 0)).aG,aX,(gi bu ((aF bN ((gi l_ aX).ah)).getD 0)).Result⟩:ab))) T hS kr kr kr kr h155 h157 (by have:=sY.1; have:=sY.2; (try simp only [List.length_set]); omega) kr kr rfl (fun _ _ _ h=>by cases h; rfl) ?_)
    intro a DJ hE h159 hS
    clear h155
    replace hO:=hO.m2 hE
    replace hD:=hD.ev hE rfl
    replace h120:=h120.m2 hE
    replace h121:=h121.m1 hE
    replace hS:=hS.conv (t:=6) (y:=.slice eD ((bu.set ((aF bN ((gi l_ aX).ah)).getD 0).toNat (⟨(gi bu ((aF bN ((gi l_ aX).ah)).getD 0)).ah,(gi bu ((aF bN ((gi l_ aX).ah)).getD 0)).Kind,(gi bu ((aF bN ((gi l_ aX).ah)).getD 0)).aG,aX,(gi bu ((aF bN ((gi l_ aX).ah)).getD 0)).Result⟩:ab)).set ((aF bN ((gi l_ aX).ah)).getD 0).toNat (⟨(gi (bu.set ((aF bN ((gi l_ aX).ah)).getD 0).toNat (⟨(gi bu ((aF bN ((gi l_ aX).ah)).getD 0)).ah,(gi bu ((aF bN ((gi l_ aX).ah)).getD 0)).Kind,(gi bu ((aF bN ((gi l_ aX).ah)).getD 0)).aG,aX,(gi bu ((aF bN ((gi l_ aX).ah)).getD 0)).Result⟩:ab)) ((aF bN ((gi l_ aX).ah)).getD 0)).ah,(gi (bu.set ((aF bN ((gi l_ aX).ah)).getD 0).toNat (⟨(gi bu ((aF bN ((gi l_ aX).ah)).getD 0)).ah,(gi bu ((aF bN ((gi l_ aX).ah)).getD 0)).Kind,(gi bu ((aF bN ((gi l_ aX).ah)).getD 0)).aG,aX,(gi bu ((aF bN ((gi l_ aX).ah)).getD 0)).Result⟩:ab)) ((aF bN ((gi l_ aX).ah)).getD 0)).Kind,(gi (bu.set ((aF bN ((gi l_ aX).ah)).getD 0).toNat (⟨(gi bu ((aF bN ((gi l_ aX).ah)).getD 0)).ah,(gi bu ((aF bN ((gi l_ aX).ah)).getD 0)).Kind,(gi bu ((aF bN ((gi l_ aX).ah)).getD 0)).aG,aX,(gi bu ((aF bN ((gi l_ aX).ah)).getD 0)).Result⟩:ab)) ((aF bN ((gi l_ aX).ah)).getD 0)).aG,(gi (bu.set ((aF bN ((gi l_ aX).ah)).getD 0).toNat (⟨(gi bu ((aF bN ((gi l_ aX).ah)).getD 0)).ah,(gi bu ((aF bN ((gi l_ aX).ah)).getD 0)).Kind,(gi bu ((aF bN ((gi l_ aX).ah)).getD 0)).aG,aX,(gi bu ((aF bN ((gi l_ aX).ah)).getD 0)).Result⟩:ab)) ((aF bN ((gi l_ aX).ah)).getD 0)).End,(gi l_ aX).N⟩:ab)).length eC) kr (by rw [List.length_set])
    refine da (bO.of hS (bks:=[10]) kr hD) ?_
    intro hH
    refine aY kr ?_
    replace hS:=hS.sl ⟨[(6,Sl eD ((bu.set ((aF bN ((gi l_ aX).ah)).getD 0).toNat (⟨(gi bu ((aF bN ((gi l_ aX).ah)).getD 0)).ah,(gi bu ((aF bN ((gi l_ aX).ah)).getD 0)).Kind,(gi bu ((aF bN ((gi l_ aX).ah)).getD 0)).aG,aX,(gi bu ((aF bN ((gi l_ aX).ah)).getD 0)).Result⟩:ab)).set ((aF bN ((gi l_ aX).ah)).getD 0).toNat (⟨(gi (bu.set ((aF bN ((gi l_ aX).ah)).getD 0).toNat (⟨(gi bu ((aF bN ((gi l_ aX).ah)).getD 0)).ah,(gi bu ((aF bN ((gi l_ aX).ah)).getD 0)).Kind,(gi bu ((aF bN ((gi l_ aX).ah)).getD 0)).aG,aX,(gi bu ((aF bN ((gi l_ aX).ah)).getD 0)).Result⟩:ab)) ((aF bN ((gi l_ aX).ah)).getD 0)).ah,(gi (bu.set ((aF bN ((gi l_ aX).ah)).getD 0).toNat (⟨(gi bu ((aF bN ((gi l_ aX).ah)).getD 0)).ah,(gi bu ((aF bN ((gi l_ aX).ah)).getD 0)).Kind,(gi bu ((aF bN ((gi l_ aX).ah)).getD 0)).aG,aX,(gi bu ((aF bN ((gi l_ aX).ah)).getD 0)).Result⟩:ab)) ((aF bN ((gi l_ aX).ah)).getD 0)).Kind,(gi (bu.set ((aF bN ((gi l_ aX).ah)).getD 0).toNat (⟨(gi bu ((aF bN ((gi l_ aX).ah)).getD 0)).ah,(gi bu ((aF bN ((gi l_ aX).ah)).getD 0)).Kind,(gi bu ((aF bN ((gi l_ aX).ah)).getD 0)).aG,aX,(gi bu ((aF bN ((gi l_ aX).ah)).getD 0)).Result⟩:ab)) ((aF bN ((gi l_ aX).ah)).getD 0)).aG,(gi (bu.set ((aF bN ((gi l_ aX).ah)).getD 0).toNat (⟨(gi bu ((aF bN ((gi l_ aX).ah)).getD 0)).ah,(gi bu ((aF bN ((gi l_ aX).ah)).getD 0)).Kind,(gi bu ((aF bN ((gi l_ aX).ah)).getD 0)).aG,aX,(gi bu ((aF bN ((gi l_ aX).ah)).getD 0)).Result⟩:ab)) ((aF bN ((gi l_ aX).ah)).getD 0)).End,(gi l_ aX).N⟩:ab)) eC),(7,V (.map (some jk))),(20,Sl a1 l_ c1),(21,I (lN l_)),(22,I aX)],[]⟩
    exact ⟨Z,_,((bu.set ((aF bN ((gi l_ aX).ah)).getD 0).toNat (⟨(gi bu ((aF bN ((gi l_ aX).ah)).getD 0)).ah,(gi bu ((aF bN ((gi l_ aX).ah)).getD 0)).Kind,(gi bu ((aF bN ((gi l_ aX).ah)).getD 0)).aG,aX,(gi bu ((aF bN ((gi l_ aX).ah)).getD 0)).Result⟩:ab)).set ((aF bN ((gi l_ aX).ah)).getD 0).toNat (⟨(gi (bu.set ((aF bN ((gi l_ aX).ah)).getD 0).toNat (⟨(gi bu ((aF bN ((gi l_ aX).ah)).getD 0)).ah,(gi bu ((aF bN ((gi l_ aX).ah)).getD 0)).Kind,(gi bu ((aF bN ((gi l_ aX).ah)).getD 0)).aG,aX,(gi bu ((aF bN ((gi l_ aX).ah)).getD 0)).Result⟩:ab)) ((aF bN ((gi l_ aX).ah)).getD 0)).ah,(gi (bu.set ((aF bN ((gi l_ aX).ah)).getD 0).toNat (⟨(gi bu ((aF bN ((gi l_ aX).ah)).getD 0)).ah,(gi bu ((aF bN ((gi l_ aX).ah)).getD 0)).Kind,(gi bu ((aF bN ((gi l_ aX).ah)).getD 0)).aG,aX,(gi bu ((aF bN ((gi l_ aX).ah)).getD 0)).Result⟩:ab)) ((aF bN ((gi l_ aX).ah)).getD 0)).Kind,(gi (bu.set ((aF bN ((gi l_ aX).ah)).getD 0).toNat (⟨(gi bu ((aF bN ((gi l_ aX).ah)).getD 0)).ah,(gi bu ((aF bN ((gi l_ aX).ah)).getD 0)).Kind,(gi bu ((aF bN ((gi l_ aX).ah)).getD 0)).aG,aX,(gi bu ((aF bN ((gi l_ aX).ah)).getD 0)).Result⟩:ab)) ((aF bN ((gi l_ aX).ah)).getD 0)).aG,(gi (bu.set ((aF bN ((gi l_ aX).ah)).getD 0).toNat (⟨(gi bu ((aF bN ((gi l_ aX).ah)).getD 0)).ah,(gi bu ((aF bN ((gi l_ aX).ah)).getD 0)).Kind,(gi bu ((aF bN ((gi l_ aX).ah)).getD 0)).aG,aX,(gi bu ((aF bN ((gi l_ aX).ah)).getD 0)).Result⟩:ab)) ((aF bN ((gi l_ aX).ah)).getD 0)).End,(gi l_ aX).N⟩:ab)),bN,eD,eC,hm,hS.sl _,hO,h159,h120,h121⟩
   rintro a KL ⟨Z,Ng,iJ,eZ,kC,kx,hm,hS,hO,h126,h128,h129⟩
   unfold VC56_J2 at hm
   refine region (ePe T hS [] [(22,I (wR (aX+1)))] fun a hS=>?_)
   exact ⟨⟨iJ,eZ,wR (aX+1)⟩,⟨Z,_,kC,kx,hm.1,hS.sl _,hO,h126,h128,h129⟩,hm.2⟩
  replace hm:=hm.2 hb
  refine cu (by rfl) ?_
  exact ⟨Z,_,bu,eD,eC,hm,hS.sl _,hO,h118⟩
 rintro a HW ⟨Z,JZ,c7,gR,gQ,hm,hS,hO,h112⟩
 unfold VC56_J1 at hm
 refine rPe T hS [6] [(2,Sl gR c7 gQ),(3,I 0)] fun a hS=>?_
 refine ba ?_
 obtain ⟨wT,hE,hF⟩:=h112.freeze (by decide)
 replace hS:=hS.ev hE (c6 kr)
 replace hO:=hO.m2 hE
 have h114:=hF; clear hE hF
 exact fin T hS hO (fun c=>c) rfl (r:=[.slice gR c7.length gQ,.int .i64 0]) kr (fun X' hM hC=>⟨(c7,0),hm,gR,gQ,rfl,h114.m0 hM⟩)
theorem C56 (Gt:S55) (v:∀ (l_:List aw),VC56 l_ (fun r=>r=gT l_)):S56:=by
 intro w X l_ a1 c1   h1
 refine (W56 Gt w X l_ a1 c1   _ (v l_) h1).mono ?_
 rintro _ _ _ _ ⟨r,rfl,h⟩
 exact h
end Go.Proofs.YteahldlmkheleaaGreat
