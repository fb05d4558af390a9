/- Walks of the functions: each returns what its condition asks. -/
import Derived.Test.YteahldlmkheleaaGreatLWalksS
set_option linter.all false
namespace Go.Proofs.YteahldlmkheleaaGreat
open Go Go.Sv
abbrev zAd0 (jI dV cU:Nat):Nat->Nat:=fun c=>(bif Nat.beq c 13 then jI else (bif Nat.beq c 1011 then dV else (bif Nat.beq c 1010 then cU else c)))
abbrev zAd1 (cU:Nat):Nat->Nat:=fun c=>(bif Nat.beq c 1005 then cU else c)
abbrev zAd2 (i1 m1 m4 m5:Nat):List (Nat × Nat):=[(i1,901),(m1,2001),(m4,2004),(m5,2005)]
set_option maxHeartbeats 1000000
theorem W90 (N) (G3:S100) (G2:S101) (G1:S102N N) (G0:S105) (w0) (X0) (state:Int) (so:List aa) (ao:a8) (a1) (c1) (m1) (a2) (c2) (a3) (c3) (a4) (c4) (m4) (r5) (m5) (b1) (i1) (Q:(List aa) × Bool × a8->Prop) (hm:VC90 N state so ao Q) (h1:OS av 56 w0 X0 m1 a1 so c1) (h2:RS aC w0 X0 a2 ao.o.Rows c2) (h3:RS ar w0 X0 a3 ao.l c3) (h4:OS dP 4 w0 X0 m4 a4 ao.done c4) (h5:OMS aU tI false w0 X0 m5 r5 ao.failed) (fB:Cell w0 X0 b1 i1 161 [.int .i64 ao.o.au,.int .i64 ao.o.az,.int .i64 ao.o.aH,.slice a2 ao.o.Rows.length c2,.slice a3 ao.l.length c3,.slice a4 ao.done.length c4,.map (some r5)]) (hA:dZ [i1,m1,m4,m5]) :
  Ret Tryz.prog 90 #[.pointer (some ⟨b1,0,none⟩),.int .i64 state,.slice a1 so.length c1] (pR [i1,m1,m4,m5]) w0 X0 (fun w X' v=>∃ r,Q r/\∃ cz cy jd jc pC pB yj yi,v=.tuple #[.slice cz r.1.length cy,.bool r.2.1]/\OS av 56 w X' m1 cz r.1 cy/\RS aC w X' jd r.2.2.o.Rows jc/\RS ar w X' pC r.2.2.l pB/\OS dP 4 w X' m4 yj r.2.2.done yi/\Cell w X' b1 i1 161 [.int .i64 r.2.2.o.au,.int .i64 r.2.2.o.az,.int .i64 r.2.2.o.aH,.slice jd r.2.2.o.Rows.length jc,.slice pC r.2.2.l.length pB,.slice yj r.2.2.done.length yi,.map (some r5)]/\OMS aU tI false w X' m5 r5 r.2.2.failed):=by
 unfold VC90 at hm
 replace hm:=hm (h1.sm kr)
 replace hm:=hm (h2.sm kr)
 replace hm:=hm (h3.sm kr)
 replace hm:=hm (h4.sm kr)
 refine fO Tryz.func90 rfl (dL (zAd2 i1 m1 m4 m5)) (fun id=>(bif Nat.beq id 901 then b1 else 0)) (args:=[Pt 901 0,I state,Sl a1 so c1]) (bxs:=[(901,(161,[I ao.o.au,I ao.o.az,I ao.o.aH,Sl a2 ao.o.Rows c2,Sl a3 ao.l c3,Sl a4 ao.done c4,V (.map (some r5))]))]) kr rfl (bu.cons kr (fB.map (bQ 0 hA.1 rfl)) bu.nil) (fD (fun q hq=>(hA.2 q.1 (List.mem_map.2 ⟨q,hq,rfl⟩)).1)) ?_
 intro a hS hO hM
 have hP:Pin [(901,b1)] (fun id=>(bif Nat.beq id 901 then b1 else 0)):=by intro q hq; simp at hq; rcases hq with rfl <;> rfl
 generalize (fun id=>(bif Nat.beq id 901 then b1 else 0))=Z at hS hP
 clear fB
 replace h1:=h1.map (f:=dL (zAd2 i1 m1 m4 m5)) (bQ 1 hA.1 rfl) hM
 replace h2:=h2.m0 hM
 replace h3:=h3.m0 hM
 replace h4:=h4.map (f:=dL (zAd2 i1 m1 m4 m5)) (bQ 2 hA.1 rfl) hM
 replace h5:=h5.map (f:=dL (zAd2 i1 m1 m4 m5)) (bQ 3 hA.1 rfl) hM
 refine rM T hS ⟨[(3,Pt 4 0),(4,Pt 5 0),(5,Pt 6 0)],[(4,(147,[Pt 901 0])),(5,(3,[I state])),(6,(26,[Sl a1 so c1])),(901,(161,[I ao.o.au,I ao.o.az,I ao.o.aH,Sl a2 ao.o.Rows c2,Sl a3 ao.l c3,Sl a4 ao.done c4,V (.map (some r5))]))]⟩ fun Z a Pk RA hS hE hr=>?_
 replace hO:=hO.m2 hE
 replace h1:=h1.m2 hE
 replace h2:=h2.m1 hE
 replace h3:=h3.m1 hE
 replace h4:=h4.m2 hE
 replace h5:=h5.m2 hE
 replace hP:=hP.mv hr kr
 clear hE hr
 refine bg ?_
 refine bq ?_
 refine oPe T hS 1 [] [(14,Pt 901 0)] fun a hS=>?_
 have hb105:=(hS.cell (id:=901) (t:=161) (cs:=[I ao.o.au,I ao.o.az,I ao.o.aH,Sl a2 ao.o.Rows c2,Sl a3 ao.l c3,Sl a4 ao.done c4,V (.map (some r5))]) kr)
 have Ft:=h5
 obtain ⟨hq,hm⟩:=hm
 refine op1 (ma hS kr kr hb100 kr (Ret.tp kr (G3 _ (fb 2004 _) ao a2 c2 a3 c3 a4 c4 r5 2005 (Z 901) 901 hq (h2.m0 (M0.fb 2004)) (h3.m0 (M0.fb 2004)) h4.fb (h5.Fg kr) (hb105.fb kr) ⟨by decide,by decide⟩)) ?_)
 intro v101 a fp fx hE hp hS
 clear h5
 replace hO:=hO.m2 hE
 replace h1:=h1.m2 hE
 replace h2:=h2.m1 hE
 replace h3:=h3.m1 hE
 replace h4:=h4.m2 hE
 obtain ⟨l8,_,hp⟩:=hp
 obtain ⟨hp,rm,h108⟩:=hp
 replace rm:=rm.back hb105 l8
 replace h108:=h108.back Ft l8 (fun h=>h)
 clear l8 hb105 Ft
 obtain ⟨ax,hr⟩:∃ r,dU ao=r:=⟨_,rfl⟩
 replace hm:=hm ax hr
 rw [hr] at hp
 clear hr
 subst hp
 replace hS:=hS.cQ (id:=901) (t:=161) (cs:=[I ao.o.au,I ao.o.az,I ao.o.aH,Sl a2 ao.o.Rows c2,Sl a3 ao.l c3,Sl a4 ao.done c4,V (.map (some r5))]) kr rm
 clear rm
 refine gY ?_
 refine aJ hS (b:=ax) kr (fun hb=>?_) fun hb=>?_
 ·replace hm:=hm.1 hb
  refine rP T hS ⟨[(6,Sl a1 so c1),(7,B true)],[(901,(161,[I ao.o.au,I ao.o.az,I ao.o.aH,Sl a2 ao.o.Rows c2,Sl a3 ao.l c3,Sl a4 ao.done c4,V (.map (some r5))]))]⟩ fun a hS=>?_
  refine aY ?_
  exact gW T hS hO (fun c h=>b0 kr h) (fun c h=>b5 (l:=(zAd2 i1 m1 m4 m5)) h) (bU (zAd2 i1 m1 m4 m5)) rfl (r:=[.slice a1 so.length c1,.bool true]) kr (fun X' hM hC=>⟨(so,true,ao),hm,a1,c1,a2,c2,a3,c3,a4,c4,rfl,(OS.out (f:=(bU (zAd2 i1 m1 m4 m5))) h1 hM hC kr),h2.m0 hM,h3.m0 hM,(OS.out (f:=(bU (zAd2 i1 m1 m4 m5))) h4 hM hC kr),((hS.cell (id:=901) (t:=161) (cs:=[I ao.o.au,I ao.o.az,I ao.o.aH,Sl a2 ao.o.Rows c2,Sl a3 ao.l c3,Sl a4 ao.done c4,V (.map (some r5))]) kr).out (f:=(bU (zAd2 i1 m1 m4 m5))) hC kr kr (hP.at 0 rfl)),(h108.out (f:=(bU (zAd2 i1 m1 m4 m5))) hM hC kr kr)⟩)
 replace hm:=hm.2 hb
 refine aM ?_
 refine bq ?_
 refine oPe T hS 2 [15] [(17,Pt 901 0),(18,I state)] fun a hS=>?_
 have hb113:=(hS.cell (id:=901) (t:=161) (cs:=[I ao.o.au,I ao.o.az,I ao.o.aH,Sl a2 ao.o.Rows c2,Sl a3 ao.l c3,Sl a4 ao.done c4,V (.map (some r5))]) kr)
 have Fs:=h108
 refine op1 (ma hS kr kr hb101 kr (Ret.tp kr (G2 _ (fb 2004 _) state ao a2 c2 a3 c3 a4 c4 r5 2005 (Z 901) 901 (h2.m0 (M0.fb 2004)) (h3.m0 (M0.fb 2004)) h4.fb (h108.Fg kr) (hb113.fb kr) ⟨by decide,by decide⟩)) ?_)
 intro v109 a Gk HI hE hp hS
 clear h108
 replace hO:=hO.m2 hE
 replace h1:=h1.m2 hE
 replace h2:=h2.m1 hE
 replace h3:=h3.m1 hE
 replace h4:=h4.m2 hE
 obtain ⟨l8,_,hp⟩:=hp
 obtain ⟨hp,zg,h116⟩:=hp
 replace zg:=zg.back hb113 l8
 replace h116:=h116.back Fs l8 (fun h=>h)
 clear l8 hb113 Fs
 obtain ⟨bN,hr⟩:∃ r,dI state ao=r:=⟨_,rfl⟩
 replace hm:=hm bN hr
 rw [hr] at hp
 clear hr
 subst hp
 replace hS:=hS.cQ (id:=901) (t:=161) (cs:=[I ao.o.au,I ao.o.az,I ao.o.aH,Sl a2 ao.o.Rows c2,Sl a3 ao.l c3,Sl a4 ao.done c4,V (.map (some r5))]) kr zg
 clear zg
 refine eM T hS ⟨[(3,Pt 4 0),(4,Pt 5 0),(5,Pt 6 0),(8,Pt 9 0)],[(4,(147,[Pt 901 0])),(5,(3,[I state])),(6,(26,[Sl a1 so c1])),(9,(164,[V (.int .u32 bN.done),I bN.state])),(901,(161,[I ao.o.au,I ao.o.az,I ao.o.aH,Sl a2 ao.o.Rows c2,Sl a3 ao.l c3,Sl a4 ao.done c4,V (.map (some r5))]))]⟩ fun Z a Pl RB hS hE hr=>?_
 replace hO:=hO.m2 hE
 replace h1:=h1.m2 hE
 replace h2:=h2.m1 hE
 replace h3:=h3.m1 hE
 replace h4:=h4.m2 hE
 replace h116:=h116.m2 hE
 replace hP:=hP.mv hr kr
 clear hE hr
 refine bg ?_
 refine dG [4,5,6,9,901] mixed hS ?_
 intro Bs E5 hS hE hD hH
 replace hO:=hO.m2 hE
 replace h1:=h1.m2 hE
 replace h2:=h2.m1 hE
 replace h3:=h3.m1 hE
 replace h4:=h4.m2 hE
 replace h116:=h116.m2 hE
 refine tke T [0,4,1,2,3] [4,5,6,9,901] hS hH #[true,true,true,true,true,false,false] 2 [] [(23,V (.map (some r5))),(24,V (.agg #[.int .u32 bN.done,.int .i64 bN.state]))] fun a hS=>?_
 refine only 5 kr (by rfl) (B2 aU tI false (zv:=.int .i64 0) (z:=0) bN hS kr kr kr kr Tryz.underlying159 gh kr rfl h116 ?_)
 intro v119 a hv hS
 replace hv:tI.R _ _ [v119] _:=hv
 cases hv
 refine di (bP.of hS (bks:=[4,5,6,9,901]) kr hD) ?_
 intro hH
 refine tke T [6] [4,5,6,9,901] hS hH (tts 7) 0 [23,24,25] [(26,B (decide (((aF ao.failed bN).getD 0) > 0)))] fun a hS=>?_
 refine aX kr ?_
 replace hS:=hS.sle [] []
 refine aJ hS (b:=decide (((aF ao.failed bN).getD 0) > 0)) kr (fun hb=>?_) fun hb=>?_
 ·replace hm:=hm.1 hb
  refine rP T hS ⟨[(6,V (.slice none 0 0)),(7,B false)],[(901,(161,[I ao.o.au,I ao.o.az,I ao.o.aH,Sl a2 ao.o.Rows c2,Sl a3 ao.l c3,Sl a4 ao.done c4,V (.map (some r5))]))]⟩ fun a hS=>?_
  refine aY ?_
  exact gW T hS hO (fun c h=>b0 kr h) (fun c h=>b5 (l:=(zAd2 i1 m1 m4 m5)) h) (bU (zAd2 i1 m1 m4 m5)) rfl (r:=[.slice none 0 0,.bool false]) kr (fun X' hM hC=>⟨([],false,ao),hm,none,0,a2,c2,a3,c3,a4,c4,rfl,OS.nil _ _ _ _ _,h2.m0 hM,h3.m0 hM,(OS.out (f:=(bU (zAd2 i1 m1 m4 m5))) h4 hM hC kr),((hS.cell (id:=901) (t:=161) (cs:=[I ao.o.au,I ao.o.az,I ao.o.aH,Sl a2 ao.o.Rows c2,Sl a3 ao.l c3,Sl a4 ao.done c4,V (.map (some r5))]) kr).out (f:=(bU (zAd2 i1 m1 m4 m5))) hC kr kr (hP.at 0 rfl)),(h116.out (f:=(bU (zAd2 i1 m1 m4 m5))) hM hC kr kr)⟩)
 replace hm:=hm.2 hb
 refine aM ?_
 refine rPe T hS [5,26] [(9,.f (.func 102) [] [.p 4 0,.p 5 0,.p 6 0])] fun a hS=>?_
 refine cb (fun a w=>∃ (Z:Nat->Nat) (X:Nat->Nat) (eI:Int) (iK:Int) (aV:Int) (eL:List bb) (c9:List ab) (fW:List Bool) (gq:List (b8 × Int)) (ia:Option Addr) (hY:Nat) (iH:Option Addr) (iG:Nat) (g8:Option Addr) (gZ:Nat),VC90_J1 N state Q bN eI iK aV eL c9 fW gq/\St Tryz.f90.ntmps ⟨[(3,Pt 4 0),(8,Pt 9 0)],[(4,(147,[Pt 901 0])),(9,(164,[V (.int .u32 bN.done),I bN.state])),(901,(161,[I eI,I iK,I aV,Sl ia eL hY,Sl iH c9 iG,Sl g8 fW gZ,V (.map (some r5))]))]⟩ Z a w X/\gj (dL (zAd2 i1 m1 m4 m5)) w0 X0 w X/\Pin [(901,b1)] Z/\RS aC w X ia eL hY/\RS ar w X iH c9 iG/\OS dP 4 w X 2004 g8 fW gZ/\OMS aU tI false w X 2005 r5 gq) ?_ ?_
 ·refine dG [4,5,6,9] mixed hS ?_
  intro Bk Dh hS hE hD hH
  replace hO:=hO.m2 hE
  replace h1:=h1.m2 hE
  replace h2:=h2.m1 hE
  replace h3:=h3.m1 hE
  replace h4:=h4.m2 hE
  replace h116:=h116.m2 hE
  refine tke T [0,4,8,9,15,1,5,10,2,6,11] [4,5,6,9] hS hH #[true,true,true,false,true,true,true,false,true,true,true,true,false,false,false,true] 5 [4] [(30,Pt 901 0),(34,Pt 901 4),(36,I state),(39,Pt 901 5),(43,I 0)] fun a hS=>?_
  refine zt (fun a w=>∃ X,St Tryz.f90.ntmps ⟨[(3,Pt 4 0),(8,Pt 9 0),(9,.f (.func 102) [] [.p 4 0,.p 5 0,.p 6 0]),(31,V (.agg #[.int .i64 ao.o.au,.int .i64 ao.o.az,.int .i64 ao.o.aH,.slice a2 ao.o.Rows.length c2])),(35,Sl a3 ao.l c3),(36,I state),(40,Sl a4 ao.done c4),(43,I 0)],[(4,(147,[Pt 901 0])),(5,(3,[I state])),(6,(26,[Sl a1 so c1])),(9,(164,[V (.int .u32 bN.done),I bN.state])),(901,(161,[I ao.o.au,I ao.o.az,I ao.o.aH,Sl a2 ao.o.Rows c2,Sl a3 ao.l c3,Sl a4 ao.done c4,V (.map (some r5))]))]⟩ Z a w X/\gj (dL (zAd2 i1 m1 m4 m5)) w0 X0 w X/\M0 Bk Dh w X/\bP Bk Dh (mX [4,5,6,9] ⟨[(3,Pt 4 0),(4,Pt 5 0),(8,Pt 9 0),(9,.f (.func 102) [] [.p 4 0,.p 5 0,.p 6 0])],[(4,(147,[Pt 901 0])),(5,(3,[I state])),(6,(26,[Sl a1 so c1])),(9,(164,[V (.int .u32 bN.done),I bN.state])),(901,(161,[I ao.o.au,I ao.o.az,I ao.o.aH,Sl a2 ao.o.Rows c2,Sl a3 ao.l c3,Sl a4 ao.done c4,V (.map (some r5))]))]⟩) Z w/\RS aC w X a2 ao.o.Rows c2/\RS ar w X a3 ao.l c3/\OS dP 4 w X 2004 a4 ao.done c4/\OS av 56 w X 2001 a1 so c1/\OMS aU tI false w X 2005 r5 ao.failed) #[true,true,true,true,true,true,true,true,true,true,true,true,true,false,false,true] 2 ?_ (fun H=>?_)
  ·rintro a F9 ⟨RU,hS,hO,hD,hH,h180,h181,h182,h183,h184⟩
   obtain ⟨hq,hm⟩:=hm
   refine only 13 kr (by rfl) (call hS kr kr hb105 kr (fun _ _=>rfl) (Ret.DW (G0 _ (fb 2004 _) ao.o ao.l state ao.done a2 c2 a3 c3 a4 c4 4193 hq (h180.m0 (M0.fb 2004)) (h181.m0 (M0.fb 2004)) h182.fb)) ?_)
   intro v187 a PD RT hE hp hS
   replace hO:=hO.m2 hE
   replace hD:=hD.ev hE rfl
   replace h180:=h180.m1 hE
   replace h181:=h181.m1 hE
   replace h182:=h182.m2 hE
   replace h183:=h183.m2 hE
   replace h184:=h184.m2 hE
   obtain ⟨_,FR,hp⟩:=hp
   obtain ⟨J0,JL,hp,h193⟩:=hp
   replace h193:=h193.JS FR kr (fun h=>h)
   clear FR
   obtain ⟨nB,hr⟩:∃ r,bM ao.o ao.l state ao.done=r:=⟨_,rfl⟩
   replace hm:=hm nB hr
   rw [hr] at hp h193
   clear hr
   subst hp
   replace hm:=hm (h193.sm kr)
   replace hS:=hS.sle [] [(41,Sl J0 nB JL)]
   refine di (bP.of hS (bks:=[4,5,6,9]) kr hD) ?_
   intro hH
   refine tke T [14] [4,5,6,9] hS hH (tts 16) 0 [31,35,36,40] [(42,I (lN nB))] fun a hS=>?_
   refine aX kr ?_
   replace hS:=hS.sle [] []
   refine aN ?_
   obtain ⟨RR,hE,hF⟩:=h183.freeze (by decide)
   replace hS:=hS.ev hE (cA kr)
   replace hO:=hO.m2 hE
   replace h180:=h180.m1 hE
   replace h181:=h181.m1 hE
   replace h182:=h182.m2 hE
   replace h184:=h184.m2 hE
   replace h193:=h193.m2 hE
   have h195:=hF; clear hE hF
   obtain ⟨I1,μ1,cx,hm⟩:=hm
   refine ct (σ:=(List aa) × Int × Int × Int × Int × (List bb) × (List ab) × (List Bool) × (List (b8 × Int))) (fun s a w=>∃ Z X nR nN oJ oE wq wb wo wa,I1 s.1 s.2.1 s.2.2.1 s.2.2.2.1 s.2.2.2.2.1 s.2.2.2.2.2.1 s.2.2.2.2.2.2.1 s.2.2.2.2.2.2.2.1 s.2.2.2.2.2.2.2.2/\St Tryz.f90.ntmps ⟨[(3,Pt 4 0),(8,Pt 9 0),(9,.f (.func 102) [] [.p 4 0,.p 5 0,.p 6 0]),(41,Sl nR s.1 nN),(42,I (lN nB)),(43,I s.2.1)],[(4,(147,[Pt 901 0])),(5,(3,[I state])),(6,(26,[Sl a1 so c1])),(9,(164,[V (.int .u32 bN.done),I bN.state])),(901,(161,[I s.2.2.1,I s.2.2.2.1,I s.2.2.2.2.1,Sl oJ s.2.2.2.2.2.1 oE,Sl wq s.2.2.2.2.2.2.1 wb,Sl wo s.2.2.2.2.2.2.2.1 wa,V (.map (some r5))]))]⟩ Z a w X/\gj (dL (zAd2 i1 m1 m4 m5)) w0 X0 w X/\Pin [(901,b1)] Z/\OS av 56 w X 4193 nR s.1 nN/\RS av w X a1 so c1/\RS aC w X oJ s.2.2.2.2.2.1 oE/\RS ar w X wq s.2.2.2.2.2.2.1 wb/\OS dP 4 w X 2004 wo s.2.2.2.2.2.2.2.1 wa/\OMS aU tI false w X 2005 r5 s.2.2.2.2.2.2.2.2) (fun s=>μ1 s.1 s.2.1 s.2.2.1 s.2.2.2.1 s.2.2.2.2.1 s.2.2.2.2.2.1 s.2.2.2.2.2.2.1 s.2.2.2.2.2.2.2.1 s.2.2.2.2.2.2.2.2) (⟨nB,0,ao.o.au,ao.o.az,ao.o.aH,ao.o.Rows,ao.l,ao.done,ao.failed⟩) ?_ ?_
   ·exact ⟨Z,_,J0,JL,a2,c2,a3,c3,a4,c4,cx,hS.sl _,hO,hP,h193,h195,h180,h181,h182,h184⟩
   rintro ⟨nV,iI,jy,wN,wM,wL,wK,jY,DJ⟩ a KT ⟨Z,RC,nR,nN,oJ,oE,wq,wb,wo,wa,hI,hS,hO,hP,h199,h201,h208,h212,h216,h218⟩
   replace hm:=hm nV iI jy wN wM wL wK jY DJ hI
   clear hI cx
   refine rPe T hS [] [(44,B (decide (iI < (lN nB))))] fun a hS=>?_
   refine bg ?_
   refine aJ hS (b:=decide (iI < (lN nB))) kr (fun hb=>?_) fun hb=>?_
   ·replace hm:=hm.1 hb
    refine aM (bg ?_)
    refine aN ?_
    refine bq ?_
    obtain ⟨Fo,hm⟩:=hm
    refine op1 (lQ (E:=56) (k:=.i64) T hS kr kr kr kr h199 kr kr Fo.1 Fo.2 ?_)
    intro N0 a h221 h220 hS
    refine op1 (B8 T hS kr kr kr h220 kr kr ?_)
    intro v223 a hv hS
    subst hv
    refine eM T hS ⟨[(3,Pt 4 0),(8,Pt 9 0),(9,.f (.func 102) [] [.p 4 0,.p 5 0,.p 6 0]),(11,Pt 12 0),(41,Sl nR nV nN),(42,I (lN nB)),(43,I iI)],[(4,(147,[Pt 901 0])),(5,(3,[I state])),(6,(26,[Sl a1 so c1])),(9,(164,[V (.int .u32 bN.done),I bN.state])),(12,(56,(cK (gi nV iI)))),(901,(161,[I jy,I wN,I wM,Sl oJ wL oE,Sl wq wK wb,Sl wo jY wa,V (.map (some r5))]))]⟩ fun Z a KU NA hS hE hr=>?_
    replace hO:=hO.m2 hE
    replace h199:=h199.m2 hE
    replace h201:=h201.m1 hE
    replace h208:=h208.m1 hE
    replace h212:=h212.m1 hE
    replace h216:=h216.m2 hE
    replace h218:=h218.m2 hE
    replace hP:=hP.mv hr kr
    clear hE hr
    refine bq ?_
    refine oP T hS 2 ⟨[(3,Pt 4 0),(8,Pt 9 0),(9,.f (.func 102) [] [.p 4 0,.p 5 0,.p 6 0]),(41,Sl nR nV nN),(42,I (lN nB)),(43,I iI),(48,.f (.func 102) [] [.p 4 0,.p 5 0,.p 6 0]),(49,V (.agg #[.int .i64 ((gi nV iI).Oper),.int .i64 ((gi nV iI).Result)]))],[(4,(147,[Pt 901 0])),(5,(3,[I state])),(6,(26,[Sl a1 so c1])),(9,(164,[V (.int .u32 bN.done),I bN.state])),(901,(161,[I jy,I wN,I wM,Sl oJ wL oE,Sl wq wK wb,Sl wo jY wa,V (.map (some r5))]))]⟩ fun a hS=>?_
    obtain ⟨hq,hm⟩:=hm
    refine op1 (kx (fi:=[]) (cp:=[.p 4 0,.p 5 0,.p 6 0]) hS kr kr hb102 kr kr (G1 _ _ (gi nV iI) (⟨(⟨jy,wN,wM,wL⟩:aj),wK,jY,DJ⟩:a8) state so oJ oE wq wb wo wa 2004 r5 2005 a1 c1 2001 (Z 4) 4 (Z 901) 901 (Z 5) 5 (Z 6) 6 hq.1 hq.2 h208 h212 h216 h218 h201 (hS.cell (id:=4) (t:=147) (cs:=[Pt 901 0]) kr) (hS.cell (id:=901) (t:=161) (cs:=[I jy,I wN,I wM,Sl oJ wL oE,Sl wq wK wb,Sl wo jY wa,V (.map (some r5))]) kr) (hS.cell (id:=5) (t:=3) (cs:=[I state]) kr) (hS.cell (id:=6) (t:=26) (cs:=[Sl a1 so c1]) kr) ⟨by decide,by decide⟩) ?_)
    intro v224 a Pw RM hE hp hS
    clear h218
    clear h216
    replace hO:=hO.m2 hE
    replace h199:=h199.m2 hE
    replace h201:=h201.m1 hE
    replace h208:=h208.m1 hE
    replace h212:=h212.m1 hE
    obtain ⟨ES,EF,C5,CR,C4,CQ,C3,CP,hp,h230,h233,h236,h239,Fy,Cr,h240,Fx,Fw⟩:=hp
    obtain ⟨eJ,hr⟩:∃ r,bj (gi nV iI) (⟨(⟨jy,wN,wM,wL⟩:aj),wK,jY,DJ⟩:a8) state so=r:=⟨_,rfl⟩
    replace hm:=hm eJ hr
    rw [hr] at hp h230 h233 h236 h239 Cr h240
    clear hr
    subst hp
    replace hm:=hm (h230.sm kr)
    replace hm:=hm (h233.sm kr)
    replace hm:=hm (h236.sm kr)
    replace hm:=hm (h239.sm kr)
    replace hS:=hS.cQ (id:=4) (t:=147) (cs:=[Pt 901 0]) kr Fy
    replace hS:=hS.cQ (id:=901) (t:=161) (cs:=[I eJ.2.2.o.au,I eJ.2.2.o.az,I eJ.2.2.o.aH,Sl C5 eJ.2.2.o.Rows CR,Sl C4 eJ.2.2.l CQ,Sl C3 eJ.2.2.done CP,V (.map (some r5))]) kr Cr
    replace hS:=hS.cQ (id:=5) (t:=3) (cs:=[I state]) kr Fx
    replace hS:=hS.cQ (id:=6) (t:=26) (cs:=[Sl a1 so c1]) kr Fw
    clear Fy Cr Fx Fw
    refine ePe T hS [48,49,50] [(12,Sl ES eJ.1 EF),(13,B eJ.2.1)] fun a hS=>?_
    refine rPe T hS [13] [(53,B eJ.2.1)] fun a hS=>?_
    refine aJ hS (b:=eJ.2.1) kr (fun hb=>?_) fun hb=>?_
    ·replace hm:=hm.1 hb
     refine rP T hS ⟨[(6,Sl ES eJ.1 EF),(7,B true)],[(901,(161,[I eJ.2.2.o.au,I eJ.2.2.o.az,I eJ.2.2.o.aH,Sl C5 eJ.2.2.o.Rows CR,Sl C4 eJ.2.2.l CQ,Sl C3 eJ.2.2.done CP,V (.map (some r5))]))]⟩ fun a hS=>?_
     refine aY ?_
     exact gW T hS hO (fun c h=>b0 kr h) (fun c h=>b5 (l:=(zAd2 i1 m1 m4 m5)) h) (bU (zAd2 i1 m1 m4 m5)) rfl (r:=[.slice ES eJ.1.length EF,.bool true]) kr (fun X' hM hC=>⟨(eJ.1,true,eJ.2.2),hm,ES,EF,C5,CR,C4,CQ,C3,CP,rfl,(OS.out (f:=(bU (zAd2 i1 m1 m4 m5))) h230 hM hC kr),h233.m0 hM,h236.m0 hM,(OS.out (f:=(bU (zAd2 i1 m1 m4 m5))) h239 hM hC kr),((hS.cell (id:=901) (t:=161) (cs:=[I eJ.2.2.o.au,I eJ.2.2.o.az,I eJ.2.2.o.aH,Sl C5 eJ.2.2.o.Rows CR,Sl C4 eJ.2.2.l CQ,Sl C3 eJ.2.2.done CP,V (.map (some r5))]) kr).out (f:=(bU (zAd2 i1 m1 m4 m5))) hC kr kr (hP.at 0 rfl)),(h240.out (f:=(bU (zAd2 i1 m1 m4 m5))) hM hC kr kr)⟩)
    replace hm:=hm.2 hb
    refine aM ?_
    refine region (ePe T hS [12,53] [(43,I (wR (iI+1)))] fun a hS=>?_)
    exact ⟨⟨nV,wR (iI+1),eJ.2.2.o.au,eJ.2.2.o.az,eJ.2.2.o.aH,eJ.2.2.o.Rows,eJ.2.2.l,eJ.2.2.done,eJ.2.2.failed⟩,⟨Z,_,nR,nN,C5,CR,C4,CQ,C3,CP,hm.1,hS.sl _,hO,hP,h199,h201,h233,h236,h239,h240⟩,hm.2⟩
   replace hm:=hm.2 hb
   refine cm (by rfl) ?_
   exact ⟨Z,_,jy,wN,wM,wL,wK,jY,DJ,oJ,oE,wq,wb,wo,wa,hm,hS.sl _,hO,hP,h208,h212,h216,h218⟩
  clear hm
  refine rG (is:=[3,7,12]) kr (by decide) ?_
  intro i hi
  rcases Lp hi with rfl | rfl | rfl
  ·refine kd (by rfl) (gU T hS kr kr kr (sv:=V (.agg #[.int .i64 ao.o.au,.int .i64 ao.o.az,.int .i64 ao.o.aH,.slice a2 ao.o.Rows.length c2])) kr ?_)
   intro a hS
   refine di (bP.of hS (bks:=[4,5,6,9]) kr hD) ?_
   intro hH
   refine rG (is:=[7,12]) kr (by decide) ?_
   intro i hi
   rcases Af hi with rfl | rfl
   ·refine kd (by rfl) (gU T hS kr kr kr (sv:=Sl a3 ao.l c3) kr ?_)
    intro a hS
    refine di (bP.of hS (bks:=[4,5,6,9]) kr hD) ?_
    intro hH
    refine only 12 kr (by rfl) (gU T hS kr kr kr (sv:=Sl a4 ao.done c4) kr ?_)
    intro a hS
    refine di (bP.of hS (bks:=[4,5,6,9]) kr hD) ?_
    intro hH
    exact H _ _ ⟨_,hS.sl _,hO,hD,hH,h2,h3,h4,h1,h116⟩
   refine kd (by rfl) (gU T hS kr kr kr (sv:=Sl a4 ao.done c4) kr ?_)
   intro a hS
   refine di (bP.of hS (bks:=[4,5,6,9]) kr hD) ?_
   intro hH
   refine only 7 kr (by rfl) (gU T hS kr kr kr (sv:=Sl a3 ao.l c3) kr ?_)
   intro a hS
   refine di (bP.of hS (bks:=[4,5,6,9]) kr hD) ?_
   intro hH
   exact H _ _ ⟨_,hS.sl _,hO,hD,hH,h2,h3,h4,h1,h116⟩
  ·refine kd (by rfl) (gU T hS kr kr kr (sv:=Sl a3 ao.l c3) kr ?_)
   intro a hS
   refine di (bP.of hS (bks:=[4,5,6,9]) kr hD) ?_
   intro hH
   refine rG (is:=[3,12]) kr (by decide) ?_
   intro i hi
   rcases Af hi with rfl | rfl
   ·refine kd (by rfl) (gU T hS kr kr kr (sv:=V (.agg #[.int .i64 ao.o.au,.int .i64 ao.o.az,.int .i64 ao.o.aH,.slice a2 ao.o.Rows.length c2])) kr ?_)
    intro a hS
    refine di (bP.of hS (bks:=[4,5,6,9]) kr hD) ?_
    intro hH
    refine only 12 kr (by rfl) (gU T hS kr kr kr (sv:=Sl a4 ao.done c4) kr ?_)
    intro a hS
    refine di (bP.of hS (bks:=[4,5,6,9]) kr hD) ?_
    intro hH
    exact H _ _ ⟨_,hS.sl _,hO,hD,hH,h2,h3,h4,h1,h116⟩
   refine kd (by rfl) (gU T hS kr kr kr (sv:=Sl a4 ao.done c4) kr ?_)
   intro a hS
   refine di (bP.of hS (bks:=[4,5,6,9]) kr hD) ?_
   intro hH
   refine only 3 kr (by rfl) (gU T hS kr kr kr (sv:=V (.agg #[.int .i64 ao.o.au,.int .i64 ao.o.az,.int .i64 ao.o.aH,.slice a2 ao.o.Rows.length c2])) kr ?_)
   intro a hS
   refine di (bP.of hS (bks:=[4,5,6,9]) kr hD) ?_
   intro hH
   exact H _ _ ⟨_,hS.sl _,hO,hD,hH,h2,h3,h4,h1,h116⟩
  refine kd (by rfl) (gU T hS kr kr kr (sv:=Sl a4 ao.done c4) kr ?_)
  intro a hS
  refine di (bP.of hS (bks:=[4,5,6,9]) kr hD) ?_
  intro hH
  refine rG (is:=[3,7]) kr (by decide) ?_
  intro i hi
  rcases Af hi with rfl | rfl
  ·refine kd (by rfl) (gU T hS kr kr kr (sv:=V (.agg #[.int .i64 ao.o.au,.int .i64 ao.o.az,.int .i64 ao.o.aH,.slice a2 ao.o.Rows.length c2])) kr ?_)
   intro a hS
   refine di (bP.of hS (bks:=[4,5,6,9]) kr hD) ?_
   intro hH
   refine only 7 kr (by rfl) (gU T hS kr kr kr (sv:=Sl a3 ao.l c3) kr ?_)
   intro a hS
   refine di (bP.of hS (bks:=[4,5,6,9]) kr hD) ?_
   intro hH
   exact H _ _ ⟨_,hS.sl _,hO,hD,hH,h2,h3,h4,h1,h116⟩
  refine kd (by rfl) (gU T hS kr kr kr (sv:=Sl a3 ao.l c3) kr ?_)
  intro a hS
  refine di (bP.of hS (bks:=[4,5,6,9]) kr hD) ?_
  intro hH
  refine only 3 kr (by rfl) (gU T hS kr kr kr (sv:=V (.agg #[.int .i64 ao.o.au,.int .i64 ao.o.az,.int .i64 ao.o.aH,.slice a2 ao.o.Rows.length c2])) kr ?_)
  intro a hS
  refine di (bP.of hS (bks:=[4,5,6,9]) kr hD) ?_
  intro hH
  exact H _ _ ⟨_,hS.sl _,hO,hD,hH,h2,h3,h4,h1,h116⟩
 rintro a Pm ⟨Z,Nz,eI,iK,aV,eL,c9,fW,gq,ia,hY,iH,iG,g8,gZ,hm,hS,hO,hP,h126,h130,h134,h136⟩
 unfold VC90_J1 at hm
 refine cb (fun a w=>∃ (Z:Nat->Nat) (X:Nat->Nat) (jN:List Bool) (mj:List (b8 × Int)) (nS:Option Addr) (nO:Nat),VC90_J2 N Q eI iK aV eL c9 jN mj/\St Tryz.f90.ntmps ⟨[],[(901,(161,[I eI,I iK,I aV,Sl ia eL hY,Sl iH c9 iG,Sl nS jN nO,V (.map (some r5))]))]⟩ Z a w X/\gj (dL (zAd2 i1 m1 m4 m5)) w0 X0 w X/\Pin [(901,b1)] Z/\RS aC w X ia eL hY/\RS ar w X iH c9 iG/\OS dP 4 w X 2004 nS jN nO/\OMS aU tI false w X 2005 r5 mj) ?_ ?_
 ·refine bq ?_
  refine oPe T hS 2 [] [(56,V (.agg #[.int .u32 bN.done,.int .i64 bN.state])),(57,V (.agg #[.int .u32 0,.int .i64 0]))] fun a hS=>?_
  refine op1 (structEq (op:=.neq) (xs:=[.int .u32 bN.done,.int .i64 bN.state]) (ys:=[.int .u32 0,.int .i64 0]) (r:=(bN.done == 0 && (bN.state == 0 && true))) (b:=(!(bN.done == 0 && (bN.state == 0 && true)))) T hS kr kr kr kr kr kr kr kr ?_)
  intro a hS
  refine gY ?_
  refine aJ hS (b:=(!(bN.done == 0 && (bN.state == 0 && true)))) kr (fun hb=>?_) fun hb=>?_
  ·replace hm:=hm.1 hb
   refine iB [4,9,901] mixed hS ?_
   intro DT AZ hS hE hD hH
   replace hO:=hO.m2 hE
   replace h126:=h126.m1 hE
   replace h130:=h130.m1 hE
   replace h134:=h134.m2 hE
   replace h136:=h136.m2 hE
   refine tke T [0,4,1,2,3] [4,9,901] hS hH #[true,true,true,true,true,false,false,false,false,false] 5 [3,8] [(62,V (.map (some r5))),(63,V (.agg #[.int .u32 bN.done,.int .i64 bN.state]))] fun a hS=>?_
   refine zt (fun a w=>∃ X b158,St Tryz.f90.ntmps ⟨[(62,V (.map (some r5))),(65,I (wR (((aF gq bN).getD 0)+1))),(67,I ((b158:Nat):Int))],[(4,(147,[Pt 901 0])),(9,(164,[V (.int .u32 bN.done),I bN.state])),(901,(161,[I eI,I iK,I aV,Sl ia eL hY,Sl iH c9 iG,Sl g8 fW gZ,V (.map (some r5))]))]⟩ Z a w X/\gj (dL (zAd2 i1 m1 m4 m5)) w0 X0 w X/\M0 DT AZ w X/\bP DT AZ (mX [4,9,901] ⟨[(3,Pt 4 0),(8,Pt 9 0)],[(4,(147,[Pt 901 0])),(9,(164,[V (.int .u32 bN.done),I bN.state])),(901,(161,[I eI,I iK,I aV,Sl ia eL hY,Sl iH c9 iG,Sl g8 fW gZ,V (.map (some r5))]))]⟩) Z w/\OME aU tI false w X 2005 r5 gq bN 0 b158/\RS aC w X ia eL hY/\RS ar w X iH c9 iG/\OS dP 4 w X 2004 g8 fW gZ) #[true,true,true,true,true,true,true,true,true,false] 1 ?_ (fun H=>?_)
   ·rintro a La ⟨Ke,b158,hS,hO,hD,hH,h157,h159,h160,h161⟩
    refine only 9 kr (by rfl) (Lq aU tI false (v:=I (wR (((aF gq bN).getD 0)+1))) (u:=wR (((aF gq bN).getD 0)+1)) bN hS kr kr kr kr gh kr h157 (fun _=>rfl) ?_)
    intro a Ih hE h175 hS
    clear h157
    replace hO:=hO.m2 hE
    replace hD:=hD.ev hE rfl
    replace h159:=h159.m1 hE
    replace h160:=h160.m1 hE
    replace h161:=h161.m2 hE
    refine di (bP.of hS (bks:=[4,9,901]) kr hD) ?_
    intro hH
    refine aX kr ?_
    replace hS:=hS.sl ⟨[],[(901,(161,[I eI,I iK,I aV,Sl ia eL hY,Sl iH c9 iG,Sl g8 fW gZ,V (.map (some r5))]))]⟩
    exact ⟨Z,_,fW,dv gq bN (wR (((aF gq bN).getD 0)+1)),g8,gZ,hm,hS.sl _,hO,hP,h159,h160,h161,h175⟩
   clear hm
   refine rG (is:=[5,7]) kr (by decide) ?_
   intro i hi
   rcases Af hi with rfl | rfl
   ·refine kd (by rfl) (B2 aU tI false (zv:=.int .i64 0) (z:=0) bN hS kr kr kr kr Tryz.underlying159 gh kr rfl h136 ?_)
    intro v162 a hv hS
    replace hv:tI.R _ _ [v162] _:=hv
    cases hv
    refine di (bP.of hS (bks:=[4,9,901]) kr hD) ?_
    intro hH
    refine tke T [6] [4,9,901] hS hH #[true,true,true,true,true,true,true,false,false,false] 3 [64] [(65,I (wR (((aF gq bN).getD 0)+1)))] fun a hS=>?_
    refine only 7 kr (by rfl) (Ff aU tI false (zv:=.int .i64 0) (z:=0) bN hS kr kr kr kr Tryz.underlying159 gh kr rfl kr h136 ?_)
    intro v163 b164 a DP hE h166 hv hS
    clear h136
    replace hv:tI.R _ _ [v163] _:=hv
    cases hv
    replace hO:=hO.m2 hE
    replace hD:=hD.ev hE rfl
    replace h126:=h126.m1 hE
    replace h130:=h130.m1 hE
    replace h134:=h134.m2 hE
    refine di (bP.of hS (bks:=[4,9,901]) kr hD) ?_
    intro hH
    refine tke T [8] [4,9,901] hS hH #[true,true,true,true,true,true,true,true,true,false] 1 [63,66] [(67,I ((b164:Nat):Int))] fun a hS=>?_
    exact H _ _ ⟨_,b164,hS.sl _,hO,hD,hH,h166,h126,h130,h134⟩
   refine kd (by rfl) (Ff aU tI false (zv:=.int .i64 0) (z:=0) bN hS kr kr kr kr Tryz.underlying159 gh kr rfl kr h136 ?_)
   intro v167 b168 a Ii hE h170 hv hS
   clear h136
   replace hv:tI.R _ _ [v167] _:=hv
   cases hv
   replace hO:=hO.m2 hE
   replace hD:=hD.ev hE rfl
   replace h126:=h126.m1 hE
   replace h130:=h130.m1 hE
   replace h134:=h134.m2 hE
   refine di (bP.of hS (bks:=[4,9,901]) kr hD) ?_
   intro hH
   refine tke T [8] [4,9,901] hS hH #[true,true,true,true,true,false,false,true,true,false] 3 [66] [(67,I ((b168:Nat):Int))] fun a hS=>?_
   refine only 5 kr (by rfl) (GA aU tI false bN hS kr kr kr kr Tryz.underlying159 gh h170 ?_)
   intro v171 a hv hS
   replace hv:tI.R _ _ [v171] _:=hv
   cases hv
   refine di (bP.of hS (bks:=[4,9,901]) kr hD) ?_
   intro hH
   refine tke T [6] [4,9,901] hS hH #[true,true,true,true,true,true,true,true,true,false] 1 [63,64] [(65,I (wR (((aF gq bN).getD 0)+1)))] fun a hS=>?_
   exact H _ _ ⟨_,b168,hS.sl _,hO,hD,hH,h170,h126,h130,h134⟩
  replace hm:=hm.2 hb
  refine aM ?_
  exact ⟨Z,_,fW,gq,g8,gZ,hm,hS.sl _,hO,hP,h126,h130,h134,h136⟩
 rintro a K9 ⟨Z,Hy,jN,mj,nS,nO,hm,hS,hO,hP,h137,h138,h142,h144⟩
 unfold VC90_J2 at hm
 refine rPe T hS [] [(6,V (.slice none 0 0)),(7,B false)] fun a hS=>?_
 refine aY ?_
 exact gW T hS hO (fun c h=>b0 kr h) (fun c h=>b5 (l:=(zAd2 i1 m1 m4 m5)) h) (bU (zAd2 i1 m1 m4 m5)) rfl (r:=[.slice none 0 0,.bool false]) kr (fun X' hM hC=>⟨([],false,(⟨(⟨eI,iK,aV,eL⟩:aj),c9,jN,mj⟩:a8)),hm,none,0,ia,hY,iH,iG,nS,nO,rfl,OS.nil _ _ _ _ _,h137.m0 hM,h138.m0 hM,(OS.out (f:=(bU (zAd2 i1 m1 m4 m5))) h142 hM hC kr),((hS.cell (id:=901) (t:=161) (cs:=[I eI,I iK,I aV,Sl ia eL hY,Sl iH c9 iG,Sl nS jN nO,V (.map (some r5))]) kr).out (f:=(bU (zAd2 i1 m1 m4 m5))) hC kr kr (hP.at 0 rfl)),(h144.out (f:=(bU (zAd2 i1 m1 m4 m5))) hM hC kr kr)⟩)
theorem C90 (N:Nat) (G3:S100) (G2:S101) (G1:S102N N) (G0:S105) (v:∀ (state:Int) (so:List aa) (ao:a8),sx state so ao->o3 state so ao < N+1->VC90 N state so ao (fun r=>r=aK state so ao)):S90N (N+1):=by
 intro w X state so ao a1 c1 m1 a2 c2 a3 c3 a4 c4 m4 r5 m5  b1 i1 hp MB h1 h2 h3 h4 h5 fB hA
 refine (W90 N G3 G2 G1 G0 w X state so ao a1 c1 m1 a2 c2 a3 c3 a4 c4 m4 r5 m5  b1 i1 _ (v state so ao hp MB) h1 h2 h3 h4 h5 fB hA).mono ?_
 rintro _ _ _ _ ⟨r,rfl,h⟩
 exact h
theorem W89 (w0) (X0) (o_:aj) (l_:List ab) (a1) (c1) (a2) (c2) (cU) (dV) (jI) (Q:a8->Prop) (hm:VC89 o_ l_ Q) (h1:RS aC w0 X0 a1 o_.Rows c1) (h2:RS ar w0 X0 a2 l_ c2) :
  Ret Tryz.prog 89 #[.agg #[.int .i64 o_.au,.int .i64 o_.az,.int .i64 o_.aH,.slice a1 o_.Rows.length c1],.slice a2 l_.length c2] aL w0 X0 (fun w X' v=>∃ r,Q r/\∃ cz cy jd jc pC pB Iu u5,v=.pointer (some ⟨u5,0,none⟩)/\RS aC w X' cz r.o.Rows cy/\RS ar w X' jd r.l jc/\OS dP 4 w X' cU pC r.done pB/\Cell w X' u5 jI 161 [.int .i64 r.o.au,.int .i64 r.o.az,.int .i64 r.o.aH,.slice cz r.o.Rows.length cy,.slice jd r.l.length jc,.slice pC r.done.length pB,.map (some Iu)]/\OMS aU tI false w X' dV Iu r.failed):=by
 unfold VC89 at hm
 replace hm:=hm (h1.sm kr)
 replace hm:=hm (h2.sm kr)
 refine enter Tryz.func89 rfl (vals:=[.agg #[.int .i64 o_.au,.int .i64 o_.az,.int .i64 o_.aH,.slice a1 o_.Rows.length c1],.slice a2 l_.length c2]) kr ?_
 intro Z a hS hO hM
 replace h1:=h1.m0 hM
 replace h2:=h2.m0 hM
 refine rM T hS ⟨[(1,Sl a2 l_ c2),(2,Pt 3 0)],[(3,(48,(cO o_ a1 c1)))]⟩ fun Z a wQ AY hS hE hr=>?_
 replace hO:=hO.m2 hE
 replace h1:=h1.m1 hE
 replace h2:=h2.m1 hE
 clear hE hr
 refine dG [3] mixed hS ?_
 intro oO pw hS hE hD hH
 replace hO:=hO.m2 hE
 replace h1:=h1.m1 hE
 replace h2:=h2.m1 hE
 refine tke T [0,1,2,3] [3] hS hH #[true,true,true,true,false,false,false,false,false] 5 [1,2] [(5,V (.agg #[.int .i64 o_.au,.int .i64 o_.az,.int .i64 o_.aH,.slice a1 o_.Rows.length c1])),(6,Sl a2 l_ c2),(8,I (lN l_))] fun a hS=>?_
 obtain ⟨Hi,hm⟩:=hm
 refine zt (fun a w=>∃ X kF kB dK,St Tryz.f89.ntmps ⟨[(11,V (.agg #[.int .i64 o_.au,.int .i64 o_.az,.int .i64 o_.aH,.slice a1 o_.Rows.length c1,.slice a2 l_.length c2,.slice kF (List.replicate (lN l_).toNat (false:Bool)).length kB,.map (some dK)]))],[(3,(48,(cO o_ a1 c1)))]⟩ Z a w X/\Old w0 X0 w X/\M0 oO pw w X/\bP oO pw (mX [3] ⟨[(1,Sl a2 l_ c2),(2,Pt 3 0)],[(3,(48,(cO o_ a1 c1)))]⟩) Z w/\RS aC w X a1 o_.Rows c1/\RS ar w X a2 l_ c2/\OS dP 4 w X 1010 kF (List.replicate (lN l_).toNat (false:Bool)) kB/\OMS aU tI false w X 1011 dK ([]:List (b8 × Int))) #[true,true,true,true,true,true,true,false,false] 2 ?_ (fun H=>?_)
 ·rintro a Gh ⟨NX,kF,kB,dK,hS,hO,hD,hH,h119,h120,h121,h125⟩
  clear Hi
  replace hS:=hS.sl ⟨[(11,V (.agg #[.int .i64 o_.au,.int .i64 o_.az,.int .i64 o_.aH,.slice a1 o_.Rows.length c1,.slice a2 l_.length c2,.slice kF (List.replicate (lN l_).toNat (false:Bool)).length kB,.map (some dK)]))],[(3,(48,(cO o_ a1 c1)))]⟩
  refine only 7 kr (by rfl) (JR (cs:=#[.int .i64 o_.au,.int .i64 o_.az,.int .i64 o_.aH,.slice a1 o_.Rows.length c1,.slice a2 l_.length c2,.slice kF (List.replicate (lN l_).toNat (false:Bool)).length kB,.map (some dK)]) hS kr kr kr kr (sy':=⟨[(12,Pt 13 0),(11,V (.agg #[.int .i64 o_.au,.int .i64 o_.az,.int .i64 o_.aH,.slice a1 o_.Rows.length c1,.slice a2 l_.length c2,.slice kF (List.replicate (lN l_).toNat (false:Bool)).length kB,.map (some dK)]))],[(13,(161,[I o_.au,I o_.az,I o_.aH,Sl a1 o_.Rows c1,Sl a2 l_ c2,Sl kF (List.replicate (lN l_).toNat (false:Bool)) kB,V (.map (some dK))])),(3,(48,(cO o_ a1 c1)))]⟩) kr ?_)
  intro Z a Bp xZ hS hE Fk
  replace hO:=hO.m2 hE
  replace hD:=hD.ev hE rfl
  replace h119:=h119.m1 hE
  replace h120:=h120.m1 hE
  replace h121:=h121.m2 hE
  replace h125:=h125.m2 hE
  replace hS:=hS.sl ⟨[(11,V (.agg #[.int .i64 o_.au,.int .i64 o_.az,.int .i64 o_.aH,.slice a1 o_.Rows.length c1,.slice a2 l_.length c2,.slice kF (List.replicate (lN l_).toNat (false:Bool)).length kB,.map (some dK)])),(12,Pt 13 0)],[(3,(48,(cO o_ a1 c1))),(13,(161,[I o_.au,I o_.az,I o_.aH,Sl a1 o_.Rows c1,Sl a2 l_ c2,Sl kF (List.replicate (lN l_).toNat (false:Bool)) kB,V (.map (some dK))]))]⟩
  refine di ((bP.of hS (bks:=[3]) kr hD).rho Fk kr) ?_
  intro hH
  refine Fa T Fk kr [8] [3] [4] hS kr kr kr hH (listed':=#[true,true,true,true,true,true,true,true,true]) (fuel:=0) (sy':=⟨[(4,Pt 13 0)],[(3,(48,(cO o_ a1 c1))),(13,(161,[I o_.au,I o_.az,I o_.aH,Sl a1 o_.Rows c1,Sl a2 l_ c2,Sl kF (List.replicate (lN l_).toNat (false:Bool)) kB,V (.map (some dK))]))]⟩) kr (by rfl) ?_
  intro a hS
  refine aX kr ?_
  replace hS:=hS.sl ⟨[(4,Pt 13 0)],[(13,(161,[I o_.au,I o_.az,I o_.aH,Sl a1 o_.Rows c1,Sl a2 l_ c2,Sl kF (List.replicate (lN l_).toNat (false:Bool)) kB,V (.map (some dK))]))]⟩
  refine aY ?_
  exact fin T hS hO (zAd0 jI dV cU) rfl (r:=[.pointer (some ⟨Z 13,0,none⟩)]) kr (fun X' hM hC=>⟨(⟨o_,l_,List.replicate (lN l_).toNat (false:Bool),([]:List (b8 × Int))⟩:a8),hm,a1,c1,a2,c2,kF,kB,dK,(Z 13),rfl,h119.m0 hM,h120.m0 hM,(OS.out (f:=(zAd0 jI dV cU)) h121 hM hC kr),((hS.cell (id:=13) (t:=161) (cs:=[I o_.au,I o_.az,I o_.aH,Sl a1 o_.Rows c1,Sl a2 l_ c2,Sl kF (List.replicate (lN l_).toNat (false:Bool)) kB,V (.map (some dK))]) kr).out (f:=(zAd0 jI dV cU)) hC kr kr rfl),(h125.out (f:=(zAd0 jI dV cU)) hM hC kr kr)⟩)
 clear hm
 refine rG (is:=[4,5]) kr (by decide) ?_
 intro i hi
 rcases Af hi with rfl | rfl
 ·have hq:=Hi
  refine kd (by rfl) (make (E:=4) (kl:=.i64) (kc:=.i64) (col:=1010) (T:=dP) T false hS kr kr kr kr kr kr hq.1 hq.2.1 (by have:=hq.2.2; have e_:((dP.bytes:Nat):Int)=1:=rfl; rw [e_]; omega) (by have:=hq.2.2; omega) (fun _ _=>rfl) ?_)
  intro b126 a uJ Dm hE h129 hN hS
  clear hq hN
  replace hO:=hO.m2 hE
  replace hD:=hD.ev hE rfl
  replace h1:=h1.m1 hE
  replace h2:=h2.m1 hE
  replace hS:=hS.conv (t:=9) (y:=.slice (some ⟨b126,0,none⟩) (List.replicate (lN l_).toNat (false:Bool)).length (lN l_).toNat) kr (by rw [List.length_replicate])
  refine di (bP.of hS (bks:=[3]) kr hD) ?_
  intro hH
  refine only 5 kr (by rfl) (B3 aU tI false 1011 hS kr kr ?_)
  intro tJ a pU pq hE h133 hS
  replace hO:=hO.m2 hE
  replace hD:=hD.ev hE rfl
  replace h1:=h1.m1 hE
  replace h2:=h2.m1 hE
  replace h129:=h129.m2 hE
  refine di (bP.of hS (bks:=[3]) kr hD) ?_
  intro hH
  refine tke T [6] [3] hS hH #[true,true,true,true,true,true,true,false,false] 2 [5,6,8,9,10] [(11,V (.agg #[.int .i64 o_.au,.int .i64 o_.az,.int .i64 o_.aH,.slice a1 o_.Rows.length c1,.slice a2 l_.length c2,.slice (some ⟨b126,0,none⟩) (List.replicate (lN l_).toNat (false:Bool)).length (lN l_).toNat,.map (some tJ)]))] fun a hS=>?_
  exact H _ _ ⟨_,(some ⟨b126,0,none⟩),(lN l_).toNat,tJ,hS.sl _,hO,hD,hH,h1,h2,h129,h133⟩
 refine kd (by rfl) (B3 aU tI false 1011 hS kr kr ?_)
 intro IB a DU Kk hE h137 hS
 replace hO:=hO.m2 hE
 replace hD:=hD.ev hE rfl
 replace h1:=h1.m1 hE
 replace h2:=h2.m1 hE
 refine di (bP.of hS (bks:=[3]) kr hD) ?_
 intro hH
 have hq:=Hi
 refine only 4 kr (by rfl) (make (E:=4) (kl:=.i64) (kc:=.i64) (col:=1010) (T:=dP) T false hS kr kr kr kr kr kr hq.1 hq.2.1 (by have:=hq.2.2; have e_:((dP.bytes:Nat):Int)=1:=rfl; rw [e_]; omega) (by have:=hq.2.2; omega) (fun _ _=>rfl) ?_)
 intro b138 a tj wA hE h141 hN hS
 clear hq hN
 replace hO:=hO.m2 hE
 replace hD:=hD.ev hE rfl
 replace h1:=h1.m1 hE
 replace h2:=h2.m1 hE
 replace h137:=h137.m2 hE
 replace hS:=hS.conv (t:=9) (y:=.slice (some ⟨b138,0,none⟩) (List.replicate (lN l_).toNat (false:Bool)).length (lN l_).toNat) kr (by rw [List.length_replicate])
 refine di (bP.of hS (bks:=[3]) kr hD) ?_
 intro hH
 refine tke T [6] [3] hS hH #[true,true,true,true,true,true,true,false,false] 2 [5,6,8,10,9] [(11,V (.agg #[.int .i64 o_.au,.int .i64 o_.az,.int .i64 o_.aH,.slice a1 o_.Rows.length c1,.slice a2 l_.length c2,.slice (some ⟨b138,0,none⟩) (List.replicate (lN l_).toNat (false:Bool)).length (lN l_).toNat,.map (some IB)]))] fun a hS=>?_
 exact H _ _ ⟨_,(some ⟨b138,0,none⟩),(lN l_).toNat,IB,hS.sl _,hO,hD,hH,h1,h2,h141,h137⟩
theorem C89 (v:∀ (o_:aj) (l_:List ab),yG o_ l_->VC89 o_ l_ (fun r=>r=bH o_ l_)):S89:=by
 intro w X o_ l_ a1 c1 a2 c2 cU dV jI  hp h1 h2
 refine (W89 w X o_ l_ a1 c1 a2 c2 cU dV jI  _ (v o_ l_ hp) h1 h2).mono ?_
 rintro _ _ _ _ ⟨r,rfl,h⟩
 exact h
theorem W70 (Mi:S20) (LC:S88) (LB:S89) (GG:S90) (w0) (X0) (o_:aj) (l_:List ab) (a1) (c1) (a2) (c2) (cU) (Q:(List aa) × Int->Prop) (hm:VC70 o_ l_ Q) (h1:RS aC w0 X0 a1 o_.Rows c1) (h2:RS ar w0 X0 a2 l_ c2) :
  Ret Tryz.prog 70 #[.agg #[.int .i64 o_.au,.int .i64 o_.az,.int .i64 o_.aH,.slice a1 o_.Rows.length c1],.slice a2 l_.length c2] aL w0 X0 (fun w X' v=>∃ r,Q r/\∃ cz cy,v=.tuple #[.slice cz r.1.length cy,.int .i64 r.2]/\OS av 56 w X' cU cz r.1 cy):=by
 unfold VC70 at hm
 replace hm:=hm (h1.sm kr)
 replace hm:=hm (h2.sm kr)
 refine enter Tryz.func70 rfl (vals:=[.agg #[.int .i64 o_.au,.int .i64 o_.az,.int .i64 o_.aH,.slice a1 o_.Rows.length c1],.slice a2 l_.length c2]) kr ?_
 intro Z a hS hO hM
 replace h1:=h1.m0 hM
 replace h2:=h2.m0 hM
 refine rM T hS ⟨[(1,Sl a2 l_ c2),(2,Pt 3 0)],[(3,(48,(cO o_ a1 c1)))]⟩ fun Z a ti xW hS hE hr=>?_
 replace hO:=hO.m2 hE
 replace h1:=h1.m1 hE
 replace h2:=h2.m1 hE
 clear hE hr
 refine bg ?_
 refine bq ?_
 refine oPe T hS 2 [] [(9,V (.agg #[.int .i64 o_.au,.int .i64 o_.az,.int .i64 o_.aH,.slice a1 o_.Rows.length c1])),(10,Sl a2 l_ c2)] fun a hS=>?_
 obtain ⟨hq,hm⟩:=hm
 refine op1 (call hS kr kr hb88 kr (fun _ _=>rfl) (LC _ _ o_ l_ 20 a1 c1 a2 c2 hq h1 h2) ?_)
 intro v101 a fp fx hE hp hS
 replace hO:=hO.m2 hE
 replace h1:=h1.m1 hE
 replace h2:=h2.m1 hE
 obtain ⟨ax,hr⟩:∃ r,cD o_ l_ 20=r:=⟨_,rfl⟩
 replace hm:=hm ax hr
 rw [hr] at hp
 clear hr
 subst hp
 refine ePe T hS [9,10,11] [(6,I ax)] fun a hS=>?_
 refine rPe T hS [] [(13,B (ax != 0))] fun a hS=>?_
 refine aJ hS (b:=(ax != 0)) kr (fun hb=>?_) fun hb=>?_
 ·replace hm:=hm.1 hb
  refine rP T hS ⟨[(4,V (.slice none 0 0)),(5,I ax)],[]⟩ fun a hS=>?_
  refine aY ?_
  exact fin T hS hO (fun c=>c) rfl (r:=[.slice none 0 0,.int .i64 ax]) kr (fun X' hM hC=>⟨([],ax),hm,none,0,rfl,OS.nil _ _ _ _ _⟩)
 replace hm:=hm.2 hb
 refine aM ?_
 refine dG [3] mixed hS ?_
 intro nz mi hS hE hD hH
 replace hO:=hO.m2 hE
 replace h1:=h1.m1 hE
 replace h2:=h2.m1 hE
 refine tke T [0,1,3,4] [3] hS hH #[true,true,false,true,true,false,false,false,false,false,false] 7 [] [(16,V (.agg #[.int .i64 o_.au,.int .i64 o_.az,.int .i64 o_.aH,.slice a1 o_.Rows.length c1])),(17,Sl a2 l_ c2),(20,I o_.aH)] fun a hS=>?_
 obtain ⟨hq,hm⟩:=hm
 refine only 2 kr (by rfl) (call hS kr kr hb89 kr (fun _ _=>rfl) (LB _ _ o_ l_ a1 c1 a2 c2 4119 2121 702 hq h1 h2) ?_)
 intro v107 a Gl Dq hE hp hS
 replace hO:=hO.m2 hE
 replace hD:=hD.ev hE rfl
 replace h1:=h1.m1 hE
 replace h2:=h2.m1 hE
 obtain ⟨jb,iZ,mh,mg,lE,lD,e8,b122,hp,h113,h116,h119,rl,h120⟩:=hp
 obtain ⟨fu,hr⟩:∃ r,bH o_ l_=r:=⟨_,rfl⟩
 replace hm:=hm fu hr
 rw [hr] at h113 h116 h119 rl h120
 clear hr
 subst hp
 replace hm:=hm (h113.sm kr)
 replace hm:=hm (h116.sm kr)
 replace hm:=hm (h119.sm kr)
 replace hS:=hS.oX (id:=702) (t:=161) (cs:=[I fu.o.au,I fu.o.az,I fu.o.aH,Sl jb fu.o.Rows iZ,Sl mh fu.l mg,Sl lE fu.done lD,V (.map (some e8))]) kr kr rl rfl
 replace hS:=hS.CJ (t:=18) (x:=V (.pointer (some ⟨b122,0,none⟩))) (y:=Pt 702 0) kr rfl
 have yW:∀ id,id≠702->(upd Z 702 b122) id=Z id:=fun id h=>wV _ h
 generalize (upd Z 702 b122)=Z at hS yW
 clear rl
 replace hS:=hS.sl ⟨[(1,Sl a2 l_ c2),(2,Pt 3 0),(16,V (.agg #[.int .i64 o_.au,.int .i64 o_.az,.int .i64 o_.aH,.slice a1 o_.Rows.length c1])),(17,Sl a2 l_ c2),(20,I o_.aH),(18,Pt 702 0)],[(3,(48,(cO o_ a1 c1))),(702,(161,[I fu.o.au,I fu.o.az,I fu.o.aH,Sl jb fu.o.Rows iZ,Sl mh fu.l mg,Sl lE fu.done lD,V (.map (some e8))]))]⟩
 refine di ((bP.of hS (bks:=[3]) kr hD).rho yW kr) ?_
 intro hH
 obtain ⟨hq,hm⟩:=hm
 refine only 5 kr (by rfl) (ma hS kr kr hb90 kr (GG _ _ o_.aH [] fu none 0 1005 jb iZ mh mg lE lD 4119 e8 2121 (Z 702) 702 hq (OS.nil _ _ _ _ _) h113 h116 h119 h120 (hS.cell (id:=702) (t:=161) (cs:=[I fu.o.au,I fu.o.az,I fu.o.aH,Sl jb fu.o.Rows iZ,Sl mh fu.l mg,Sl lE fu.done lD,V (.map (some e8))]) kr) ⟨by decide,by decide⟩) ?_)
 intro v125 a tm p9 hE hp hS
 clear h120
 clear h119
 replace hO:=hO.m2 hE
 replace hD:=hD.ev hE rfl
 replace h1:=h1.m1 hE
 replace h2:=h2.m1 hE
 replace h113:=h113.m1 hE
 replace h116:=h116.m1 hE
 obtain ⟨lX,lW,g8,gZ,Hw,Hr,Hv,Hq,hp,h131,h134,h137,h140,Ct,h141⟩:=hp
 obtain ⟨bO,hr⟩:∃ r,aK o_.aH [] fu=r:=⟨_,rfl⟩
 replace hm:=hm bO hr
 rw [hr] at hp h131 h134 h137 h140 Ct h141
 clear hr
 subst hp
 replace hm:=hm (h131.sm kr)
 replace hm:=hm (h134.sm kr)
 replace hm:=hm (h137.sm kr)
 replace hm:=hm (h140.sm kr)
 replace hS:=hS.cQ (id:=702) (t:=161) (cs:=[I bO.2.2.o.au,I bO.2.2.o.az,I bO.2.2.o.aH,Sl g8 bO.2.2.o.Rows gZ,Sl Hw bO.2.2.l Hr,Sl Hv bO.2.2.done Hq,V (.map (some e8))]) kr Ct
 clear Ct
 replace hS:=hS.sl ⟨[(1,Sl a2 l_ c2),(2,Pt 3 0),(16,V (.agg #[.int .i64 o_.au,.int .i64 o_.az,.int .i64 o_.aH,.slice a1 o_.Rows.length c1])),(17,Sl a2 l_ c2),(20,I o_.aH),(18,Pt 702 0),(21,V (.tuple #[.slice lX bO.1.length lW,.bool bO.2.1]))],[(3,(48,(cO o_ a1 c1))),(702,(161,[I bO.2.2.o.au,I bO.2.2.o.az,I bO.2.2.o.aH,Sl g8 bO.2.2.o.Rows gZ,Sl Hw bO.2.2.l Hr,Sl Hv bO.2.2.done Hq,V (.map (some e8))]))]⟩
 refine di ((bP.of hS (bks:=[3]) kr hD).rho yW kr) ?_
 intro hH
 refine Fa T yW kr [6,7,8,9,10] [3] [1,2,7,8] hS kr kr kr hH (listed':=#[true,true,true,true,true,true,true,true,true,true,true]) (fuel:=0) (sy':=⟨[(1,Sl a2 l_ c2),(2,Pt 3 0),(7,Sl lX bO.1 lW),(8,B bO.2.1)],[(3,(48,(cO o_ a1 c1))),(702,(161,[I bO.2.2.o.au,I bO.2.2.o.az,I bO.2.2.o.aH,Sl g8 bO.2.2.o.Rows gZ,Sl Hw bO.2.2.l Hr,Sl Hv bO.2.2.done Hq,V (.map (some e8))]))]⟩) kr (by rfl) ?_
 intro a hS
 refine aX kr ?_
 replace hS:=hS.sl ⟨[(1,Sl a2 l_ c2),(2,Pt 3 0),(7,Sl lX bO.1 lW),(8,B bO.2.1)],[(3,(48,(cO o_ a1 c1)))]⟩
 refine bg ?_
 refine cb (fun a w=>∃ (Z:Nat->Nat) (X:Nat->Nat) (mj:List aa) (ep:Bool) (oL:Option Addr) (oG:Nat),VC70_J1 Q mj ep/\St Tryz.f70.ntmps ⟨[(7,Sl oL mj oG),(32,B ep)],[]⟩ Z a w X/\Old w0 X0 w X/\OS av 56 w X 1005 oL mj oG) ?_ ?_
 ·refine region ?_
  refine oPe T hS 3 [8] [(26,B (!bO.2.1))] fun a hS=>?_
  rcases bft (!bO.2.1) with hb | hb
  ·replace hS:=hS.lit (t:=26) kr hb
   replace hm:=hm.1 hb
   refine eP T hS ⟨[(7,Sl lX bO.1 lW),(32,B true)],[]⟩ fun a hS=>?_
   exact ⟨Z,_,bO.1,true,lX,lW,hm,hS.sl _,hO,h131⟩
  replace hS:=hS.lit (t:=26) kr hb
  replace hm:=hm.2 hb
  refine oP T hS 3 ⟨[(7,Sl lX bO.1 lW),(26,B false),(27,V (.agg #[.int .i64 o_.au,.int .i64 o_.az,.int .i64 o_.aH,.slice a1 o_.Rows.length c1])),(28,Sl a2 l_ c2),(29,Sl lX bO.1 lW)],[]⟩ fun a hS=>?_
  obtain ⟨hq,hm⟩:=hm
  refine op1 (call hS kr kr hb20 kr (fun _ _=>rfl) (Ret.oQ (Mi _ (fb 1005 _) o_ l_ bO.1 a1 c1 a2 c2 lX lW hq (h1.m0 (M0.fb 1005)) (h2.m0 (M0.fb 1005)) h131.fb)) ?_)
  intro v148 a Gg HE hE hp hS
  replace hO:=hO.m2 hE
  replace h1:=h1.m1 hE
  replace h2:=h2.m1 hE
  replace h131:=h131.m2 hE
  obtain ⟨_,hp⟩:=hp
  obtain ⟨oV,hr⟩:∃ r,dt o_ l_ bO.1=r:=⟨_,rfl⟩
  replace hm:=hm oV hr
  rw [hr] at hp
  clear hr
  subst hp
  refine ePe T hS [26,27,28,29,30] [(32,B (!oV))] fun a hS=>?_
  exact ⟨Z,_,bO.1,(!oV),lX,lW,hm,hS.sl _,hO,h131⟩
 rintro a Bm ⟨Z,xX,mj,ep,oL,oG,hm,hS,hO,h146⟩
 unfold VC70_J1 at hm
 refine aJ hS (b:=ep) kr (fun hb=>?_) fun hb=>?_
 ·replace hm:=hm.1 hb
  refine rPe T hS [7,32] [(4,V (.slice none 0 0)),(5,I 41)] fun a hS=>?_
  refine aY ?_
  exact fin T hS hO (fun c=>c) rfl (r:=[.slice none 0 0,.int .i64 41]) kr (fun X' hM hC=>⟨([],41),hm,none,0,rfl,OS.nil _ _ _ _ _⟩)
 replace hm:=hm.2 hb
 refine aM ?_
 refine rPe T hS [7,32] [(4,Sl oL mj oG),(5,I 0)] fun a hS=>?_
 refine aY ?_
 exact fin T hS hO (zAd1 cU) rfl (r:=[.slice oL mj.length oG,.int .i64 0]) kr (fun X' hM hC=>⟨(mj,0),hm,oL,oG,rfl,(OS.out (f:=(zAd1 cU)) h146 hM hC kr)⟩)
theorem C70 (Mi:S20) (LC:S88) (LB:S89) (GG:S90) (v:∀ (o_:aj) (l_:List ab),ym o_ l_->VC70 o_ l_ (fun r=>r=bn o_ l_)):S70:=by
 intro w X o_ l_ a1 c1 a2 c2 cU  hp h1 h2
 refine (W70 Mi LC LB GG w X o_ l_ a1 c1 a2 c2 cU  _ (v o_ l_ hp) h1 h2).mono ?_
 rintro _ _ _ _ ⟨r,rfl,h⟩
 exact h
theorem W84 (w0) (X0) (x_:aw) (Q:Int->Prop) (hm:VC84 x_ Q) :
  Ret Tryz.prog 84 #[.agg #[.int .i64 x_.bo,.int .i64 x_.ak,.int .i64 x_.N]] aL w0 X0 (fun w X' v=>∃ r,Q r/\v=.int .i64 r):=by
 unfold VC84 at hm
 refine enter Tryz.func84 rfl (vals:=[.agg #[.int .i64 x_.bo,.int .i64 x_.ak,.int .i64 x_.N]]) kr ?_
 intro Z a hS hO hM
 refine rM T hS ⟨[(1,Pt 2 0)],[(2,(61,(cE x_)))]⟩ fun Z a oO pw hS hE hr=>?_
 replace hO:=hO.m2 hE
 clear hE hr
 refine bg ?_
 refine aN ?_
 refine rPe T hS [] [(3,B ((x_.bo != 1) && (x_.bo != 2)))] (sp:=[7]) fun a hS=>?_
 refine aJ hS (b:=((x_.bo != 1) && (x_.bo != 2))) kr (fun hb=>?_) fun hb=>?_
 ·replace hm:=hm.1 hb
  refine rP T hS ⟨[(2,I 8)],[]⟩ fun a hS=>?_
  refine aY ?_
  exact fin T hS hO (fun c=>c) rfl (r:=[.int .i64 8]) kr (fun X' hM hC=>⟨8,hm,rfl⟩)
 replace hm:=hm.2 hb
 refine rPe T hS [3] [(12,B ((decide (x_.ak < 1)) || (decide (x_.ak > 1000))))] (sp:=[16]) fun a hS=>?_
 refine aJ hS (b:=((decide (x_.ak < 1)) || (decide (x_.ak > 1000)))) kr (fun hb=>?_) fun hb=>?_
 ·replace hm:=hm.1 hb
  refine rP T hS ⟨[(2,I 2)],[]⟩ fun a hS=>?_
  refine aY ?_
  exact fin T hS hO (fun c=>c) rfl (r:=[.int .i64 2]) kr (fun X' hM hC=>⟨2,hm,rfl⟩)
 replace hm:=hm.2 hb
 refine rPe T hS [12] [(21,B ((x_.bo == 1) && ((decide (x_.N < 0)) || (decide (x_.N≥64)))))] (sp:=[25,29]) fun a hS=>?_
 refine aJ hS (b:=((x_.bo == 1) && ((decide (x_.N < 0)) || (decide (x_.N≥64))))) kr (fun hb=>?_) fun hb=>?_
 ·replace hm:=hm.1 hb
  refine rP T hS ⟨[(2,I 31)],[]⟩ fun a hS=>?_
  refine aY ?_
  exact fin T hS hO (fun c=>c) rfl (r:=[.int .i64 31]) kr (fun X' hM hC=>⟨31,hm,rfl⟩)
 replace hm:=hm.2 hb
 refine rP T hS ⟨[(35,B ((x_.bo == 2) && ((decide (x_.N < 0)) || (decide (x_.N > 1000000)))))],[]⟩ (sp:=[39,43]) fun a hS=>?_
 refine aJ hS (b:=((x_.bo == 2) && ((decide (x_.N < 0)) || (decide (x_.N > 1000000))))) kr (fun hb=>?_) fun hb=>?_
 ·replace hm:=hm.1 hb
  refine rPe T hS [35] [(2,I 7)] fun a hS=>?_
  refine aY ?_
  exact fin T hS hO (fun c=>c) rfl (r:=[.int .i64 7]) kr (fun X' hM hC=>⟨7,hm,rfl⟩)
 replace hm:=hm.2 hb
 refine aM ?_
 refine rPe T hS [35] [(2,I 0)] fun a hS=>?_
 refine aY ?_
 exact fin T hS hO (fun c=>c) rfl (r:=[.int .i64 0]) kr (fun X' hM hC=>⟨0,hm,rfl⟩)
theorem C84 (v:∀ (x_:aw),VC84 x_ (fun r=>r=gp x_)):S84:=by
 intro w X x_    
 refine (W84 w X x_    _ (v x_)).mono ?_
 rintro _ _ _ _ ⟨r,rfl,h⟩
 exact h
theorem W55 (LH:S84) (w0) (X0) (l_:List aw) (a1) (c1) (Q:Int × Int->Prop) (hm:VC55 l_ Q) (h1:RS aR w0 X0 a1 l_ c1) :
  Ret Tryz.prog 55 #[.slice a1 l_.length c1] aL w0 X0 (fun w X' v=>∃ r,Q r/\v=.tuple #[.int .i64 r.1,.int .i64 r.2]):=by
 unfold VC55 at hm
 replace hm:=hm (h1.sm kr)
 refine enter Tryz.func55 rfl (vals:=[.slice a1 l_.length c1]) kr ?_
 intro Z a hS hO hM
 replace h1:=h1.m0 hM
 refine rPe T hS [] [] fun a hS=>?_
 refine bg ?_
 refine rPe T hS [] [(10,B (decide ((lN l_) > 10000)))] fun a hS=>?_
 refine aJ hS (b:=decide ((lN l_) > 10000)) kr (fun hb=>?_) fun hb=>?_
 ·replace hm:=hm.1 hb
  refine rPe T hS [0,10] [(2,I 0),(3,I 3)] fun a hS=>?_
  refine aY ?_
  exact fin T hS hO (fun c=>c) rfl (r:=[.int .i64 0,.int .i64 3]) kr (fun X' hM hC=>⟨(0,3),hm,rfl⟩)
 replace hm:=hm.2 hb
 refine aM ?_
 refine bq ?_
 refine op1 (pF kI tI false 1012 hS kr kr ?_)
 intro eB a fp fx hE h104 hS
 replace hO:=hO.m2 hE
 replace h1:=h1.m1 hE
 refine ePe T hS [10,11] [(4,V (.map (some eB)))] fun a hS=>?_
 refine cb (fun a w=>∃ Z X,VC55_J1 l_ Q/\St Tryz.f55.ntmps ⟨[(0,Sl a1 l_ c1)],[]⟩ Z a w X/\Old w0 X0 w X/\RS aR w X a1 l_ c1) ?_ ?_
 ·refine rPe T hS [] [(12,Sl a1 l_ c1),(13,I (lN l_)),(14,I 0)] fun a hS=>?_
  refine aN ?_
  obtain ⟨I1,μ1,cx,hm⟩:=hm
  refine ct (σ:=(List (Int × Int)) × Int) (fun s a w=>∃ Z X,I1 s.1 s.2/\St Tryz.f55.ntmps ⟨[(0,Sl a1 l_ c1),(4,V (.map (some eB))),(12,Sl a1 l_ c1),(13,I (lN l_)),(14,I s.2)],[]⟩ Z a w X/\Old w0 X0 w X/\RS aR w X a1 l_ c1/\OM kI tI false w X 1012 eB s.1/\RS aR w X a1 l_ c1) (fun s=>μ1 s.1 s.2) (⟨([]:List (Int × Int)),0⟩) ?_ ?_
  ·exact ⟨Z,_,cx,hS.sl _,hO,h1,h104,h1⟩
  rintro ⟨gS,bL⟩ a Le ⟨Z,uA,hI,hS,hO,h106,h108,h109⟩
  replace hm:=hm gS bL hI
  clear hI cx
  refine rPe T hS [] [(15,B (decide (bL < (lN l_))))] fun a hS=>?_
  refine bg ?_
  refine aJ hS (b:=decide (bL < (lN l_))) kr (fun hb=>?_) fun hb=>?_
  ·replace hm:=hm.1 hb
   refine aM (bg ?_)
   refine aN ?_
   refine bq ?_
   refine oPe T hS 1 [15] [(16,I bL)] fun a hS=>?_
   obtain ⟨hq,hm⟩:=hm
   refine op1 (index (e:=61) (k:=.i64) T hS kr kr kr kr h109 kr kr hq.1 hq.2 ?_)
   intro Dv a h112 hS
   refine op1 (eU T hS kr kr kr h112 kr kr ?_)
   intro v113 a hv hS
   subst hv
   refine eM T hS ⟨[(0,Sl a1 l_ c1),(4,V (.map (some eB))),(5,I bL),(6,Pt 7 0),(12,Sl a1 l_ c1),(13,I (lN l_)),(14,I bL)],[(7,(61,(cE (gi l_ bL))))]⟩ fun Z a wS Dn hS hE hr=>?_
   replace hO:=hO.m2 hE
   replace h106:=h106.m1 hE
   replace h108:=h108.m2 hE
   replace h109:=h109.m1 hE
   clear hE hr
   refine bg ?_
   refine bq ?_
   refine oPe T hS 1 [] [(19,V (.agg #[.int .i64 ((gi l_ bL).bo),.int .i64 ((gi l_ bL).ak),.int .i64 ((gi l_ bL).N)]))] fun a hS=>?_
   refine op1 (call hS kr kr hb84 kr (fun _ _=>rfl) (LH _ _ (gi l_ bL)) ?_)
   intro v114 a pV uB hE hp hS
   replace hO:=hO.m2 hE
   replace h106:=h106.m1 hE
   replace h108:=h108.m2 hE
   replace h109:=h109.m1 hE
   obtain ⟨eN,hr⟩:∃ r,gp (gi l_ bL)=r:=⟨_,rfl⟩
   replace hm:=hm eN hr
   rw [hr] at hp
   clear hr
   subst hp
   refine ePe T hS [19,20] [(7,I eN)] fun a hS=>?_
   refine rPe T hS [] [(22,B (eN != 0))] fun a hS=>?_
   refine aJ hS (b:=(eN != 0)) kr (fun hb=>?_) fun hb=>?_
   ·replace hm:=hm.1 hb
    refine rP T hS ⟨[(2,I bL),(3,I eN)],[]⟩ fun a hS=>?_
    refine aY ?_
    exact fin T hS hO (fun c=>c) rfl (r:=[.int .i64 bL,.int .i64 eN]) kr (fun X' hM hC=>⟨(bL,eN),hm,rfl⟩)
   replace hm:=hm.2 hb
   refine aM (bg ?_)
   refine bq ?_
   refine oPe T hS 3 [7,22] [(25,V (.map (some eB))),(27,I ((gi l_ bL).ak))] fun a hS=>?_
   refine op1 (kf kI tI false (zv:=.int .i64 0) (z:=0) ((gi l_ bL).ak) hS kr kr kr kr Tryz.underlying113 Tryz.underlying3 kr rfl h108 ?_)
   intro v118 a hv hS
   replace hv:tI.R _ _ [v118] _:=hv
   cases hv
   refine ePe T hS [25,27,28] [(33,B ((((aF gS ((gi l_ bL).ak)).getD 0) == 1) == (((gi l_ bL).bo) == 1)))] fun a hS=>?_
   refine aJ hS (b:=((((aF gS ((gi l_ bL).ak)).getD 0) == 1) == (((gi l_ bL).bo) == 1))) kr (fun hb=>?_) fun hb=>?_
   ·replace hm:=hm.1 hb
    refine rP T hS ⟨[(2,I bL),(3,I 33)],[]⟩ fun a hS=>?_
    refine aY ?_
    exact fin T hS hO (fun c=>c) rfl (r:=[.int .i64 bL,.int .i64 33]) kr (fun X' hM hC=>⟨(bL,33),hm,rfl⟩)
   replace hm:=hm.2 hb
   refine aM ?_
   refine region ?_
   refine oP T hS 5 ⟨[(0,Sl a1 l_ c1),(4,V (.map (some eB))),(12,Sl a1 l_ c1),(13,I (lN l_)),(14,I bL),(35,V (.map (some eB))),(37,I ((gi l_ bL).ak)),(39,I ((gi l_ bL).bo))],[]⟩ fun a hS=>?_
   refine op1 (tU kI tI false (v:=I ((gi l_ bL).bo)) (u:=(gi l_ bL).bo) ((gi l_ bL).ak) hS kr kr kr kr Tryz.underlying113 Tryz.underlying3 kr h108 rfl ?_)
   intro a uL hE h120 hS
   clear h108
   replace hO:=hO.m2 hE
   replace h106:=h106.m1 hE
   replace h109:=h109.m1 hE
   refine gY ?_
   refine region (ePe T hS [] [(14,I (wR (bL+1)))] fun a hS=>?_)
   exact ⟨⟨dv gS ((gi l_ bL).ak) ((gi l_ bL).bo),wR (bL+1)⟩,⟨Z,_,hm.1,hS.sl _,hO,h106,h120,h109⟩,hm.2⟩
  replace hm:=hm.2 hb
  refine cm (by rfl) ?_
  exact ⟨Z,_,hm,hS.sl _,hO,h106⟩
 rintro a tm ⟨Z,R1,hm,hS,hO,h105⟩
 unfold VC55_J1 at hm
 refine rPe T hS [0] [(2,I (lN l_)),(3,I 0)] fun a hS=>?_
 refine aY ?_
 exact fin T hS hO (fun c=>c) rfl (r:=[.int .i64 (lN l_),.int .i64 0]) kr (fun X' hM hC=>⟨((lN l_),0),hm,rfl⟩)
theorem C55 (LH:S84) (v:∀ (l_:List aw),VC55 l_ (fun r=>r=bV l_)):S55:=by
 intro w X l_ a1 c1   h1
 refine (W55 LH w X l_ a1 c1   _ (v l_) h1).mono ?_
 rintro _ _ _ _ ⟨r,rfl,h⟩
 exact h
theorem W94 (w0) (X0) (l_:List aw) (process:Int) (a1) (c1) (Q:Int->Prop) (hm:VC94 l_ process Q) (h1:RS aR w0 X0 a1 l_ c1) :
  Ret Tryz.prog 94 #[.slice a1 l_.length c1,.int .i64 process] aL w0 X0 (fun w X' v=>∃ r,Q r/\v=.int .i64 r):=by
 unfold VC94 at hm
 replace hm:=hm (h1.sm kr)
 refine enter Tryz.func94 rfl (vals:=[.slice a1 l_.length c1,.int .i64 process]) kr ?_
 intro Z a hS hO hM
 replace h1:=h1.m0 hM
 refine rPe T hS [] [] fun a hS=>?_
 refine rPe T hS [] [(5,I (-1))] fun a hS=>?_
 refine cb (fun a w=>∃ (Z:Nat->Nat) (X:Nat->Nat) (bE:Int),VC94_J1 Q bE/\St Tryz.f94.ntmps ⟨[(5,I bE)],[]⟩ Z a w X/\Old w0 X0 w X) ?_ ?_
 ·refine rPe T hS [] [(6,I 0)] fun a hS=>?_
  refine aN ?_
  obtain ⟨I1,μ1,cx,hm⟩:=hm
  refine ct (σ:=Int × Int) (fun s a w=>∃ Z X,I1 s.1 s.2/\St Tryz.f94.ntmps ⟨[(0,Sl a1 l_ c1),(1,I process),(5,I s.1),(6,I s.2)],[]⟩ Z a w X/\Old w0 X0 w X/\RS aR w X a1 l_ c1) (fun s=>μ1 s.1 s.2) (⟨(-1),0⟩) ?_ ?_
  ·exact ⟨Z,_,cx,hS.sl _,hO,h1⟩
  rintro ⟨bm,ir⟩ a pV ⟨Z,wC,hI,hS,hO,h102⟩
  replace hm:=hm bm ir hI
  clear hI cx
  refine bg ?_
  refine rPe T hS [] [(10,B (decide (ir < (lN l_))))] fun a hS=>?_
  refine aJ hS (b:=decide (ir < (lN l_))) kr (fun hb=>?_) fun hb=>?_
  ·replace hm:=hm.1 hb
   refine aM ?_
   refine cb (fun a w=>∃ (Z:Nat->Nat) (X:Nat->Nat) (fE:Int),VC94_J2 I1 μ1 bm ir fE/\St Tryz.f94.ntmps ⟨[(0,Sl a1 l_ c1),(1,I process),(5,I fE),(6,I ir)],[]⟩ Z a w X/\Old w0 X0 w X/\RS aR w X a1 l_ c1) ?_ ?_
   ·refine aN ?_
    refine bq ?_
    refine oPe T hS 2 [10] [(13,Sl a1 l_ c1),(14,I ir)] fun a hS=>?_
    obtain ⟨hq,hm⟩:=hm
    refine op1 (index (e:=61) (k:=.i64) T hS kr kr kr kr h102 kr kr hq.1 hq.2 ?_)
    intro HQ a h108 hS
    refine op1 (fw (off:=1) (fsz:=1) (ft:=3) (TF:=tI) (y:=(gi l_ ir).ak) T hS kr kr kr h108 kr kr kr (fun cs h=>ig h) ?_)
    intro A4 a h110 hS
    refine op1 (dW T hS kr kr kr h110 rfl kr ?_)
    intro v111 a hv hS
    cases hv
    refine ePe T hS [13,14,15,16,17] [(19,B (((gi l_ ir).ak) == process))] fun a hS=>?_
    refine aJ hS (b:=(((gi l_ ir).ak) == process)) kr (fun hb=>?_) fun hb=>?_
    ·replace hm:=hm.1 hb
     refine region (ePe T hS [19] [(5,I ir)] fun a hS=>?_)
     exact ⟨Z,_,ir,hm,hS.sl _,hO,h102⟩
    replace hm:=hm.2 hb
    refine aM ?_
    exact ⟨Z,_,bm,hm,hS.sl _,hO,h102⟩
   rintro a uM ⟨Z,uC,fE,hm,hS,hO,h105⟩
   unfold VC94_J2 at hm
   refine region (ePe T hS [] [(6,I (wR (ir+1)))] fun a hS=>?_)
   exact ⟨⟨fE,wR (ir+1)⟩,⟨Z,_,hm.1,hS.sl _,hO,h105⟩,hm.2⟩
  replace hm:=hm.2 hb
  refine cm (by rfl) ?_
  exact ⟨Z,_,bm,hm,hS.sl _,hO⟩
 rintro a Bs ⟨Z,uB,bE,hm,hS,hO⟩
 unfold VC94_J1 at hm
 refine rPe T hS [5] [(4,I bE)] fun a hS=>?_
 refine aY ?_
 exact fin T hS hO (fun c=>c) rfl (r:=[.int .i64 bE]) kr (fun X' hM hC=>⟨bE,hm,rfl⟩)
theorem C94 (v:∀ (l_:List aw) (process:Int),VC94 l_ process (fun r=>r=iv l_ process)):S94:=by
 intro w X l_ process a1 c1   h1
 refine (W94 w X l_ process a1 c1   _ (v l_ process) h1).mono ?_
 rintro _ _ _ _ ⟨r,rfl,h⟩
 exact h
theorem W79 (Ly:S94) (w0) (X0) (l_:List aw) (process:Int) (a1) (c1) (Q:Bool->Prop) (hm:VC79 l_ process Q) (h1:RS aR w0 X0 a1 l_ c1) :
  Ret Tryz.prog 79 #[.slice a1 l_.length c1,.int .i64 process] aL w0 X0 (fun w X' v=>∃ r,Q r/\v=.bool r):=by
 unfold VC79 at hm
 replace hm:=hm (h1.sm kr)
 refine enter Tryz.func79 rfl (vals:=[.slice a1 l_.length c1,.int .i64 process]) kr ?_
 intro Z a hS hO hM
 replace h1:=h1.m0 hM
 refine rPe T hS [] [] fun a hS=>?_
 refine bq ?_
 refine oPe T hS 2 [1] [(6,Sl a1 l_ c1),(7,I process)] fun a hS=>?_
 refine op1 (call hS kr kr hb94 kr (fun _ _=>rfl) (Ly _ _ l_ process a1 c1 h1) ?_)
 intro v101 a fp fx hE hp hS
 replace hO:=hO.m2 hE
 replace h1:=h1.m1 hE
 obtain ⟨ax,hr⟩:∃ r,iv l_ process=r:=⟨_,rfl⟩
 replace hm:=hm ax hr
 rw [hr] at hp
 clear hr
 subst hp
 refine ePe T hS [6,7,8] [(5,I ax)] fun a hS=>?_
 refine bq ?_
 refine oPe T hS 3 [] [(11,B (decide (ax≥0)))] fun a hS=>?_
 rcases bft (decide (ax≥0)) with hb | hb
 ·replace hS:=hS.lit (t:=11) kr hb
  replace hm:=hm.1 hb
  refine oPe T hS 2 [0,5] [(12,Sl a1 l_ c1),(13,I ax)] fun a hS=>?_
  obtain ⟨hq,hm⟩:=hm
  refine op1 (index (e:=61) (k:=.i64) T hS kr kr kr kr h1 kr kr hq.1 hq.2 ?_)
  intro ya a h106 hS
  refine op1 (fw (off:=0) (fsz:=1) (ft:=3) (TF:=tI) (y:=(gi l_ ax).bo) T hS kr kr kr h106 kr kr kr (fun cs h=>lY h) ?_)
  intro HQ a h108 hS
  refine op1 (dW T hS kr kr kr h108 rfl kr ?_)
  intro v109 a hv hS
  cases hv
  refine ePe T hS [11,12,13,14,15,16] [(4,B (((gi l_ ax).bo) == 1))] fun a hS=>?_
  refine aY ?_
  exact fin T hS hO (fun c=>c) rfl (r:=[.bool (((gi l_ ax).bo) == 1)]) kr (fun X' hM hC=>⟨(((gi l_ ax).bo) == 1),hm,rfl⟩)
 replace hS:=hS.lit (t:=11) kr hb
 replace hm:=hm.2 hb
 refine ePe T hS [0,5,11] [(4,B false)] fun a hS=>?_
 refine aY ?_
 exact fin T hS hO (fun c=>c) rfl (r:=[.bool false]) kr (fun X' hM hC=>⟨false,hm,rfl⟩)
theorem C79 (Ly:S94) (v:∀ (l_:List aw) (process:Int),VC79 l_ process (fun r=>r=fq l_ process)):S79:=by
 intro w X l_ process a1 c1   h1
 refine (W79 Ly w X l_ process a1 c1   _ (v l_ process) h1).mono ?_
 rintro _ _ _ _ ⟨r,rfl,h⟩
 exact h
theorem W50 (IJ:S79) (w0) (X0) (l_:List aw) (a1) (c1) (Q:Int × Int->Prop) (hm:VC50 l_ Q) (h1:RS aR w0 X0 a1 l_ c1) :
  Ret Tryz.prog 50 #[.slice a1 l_.length c1] aL w0 X0 (fun w X' v=>∃ r,Q r/\v=.tuple #[.int .i64 r.1,.int .i64 r.2]):=by
 unfold VC50 at hm
 replace hm:=hm (h1.sm kr)
 refine enter Tryz.func50 rfl (vals:=[.slice a1 l_.length c1]) kr ?_
 intro Z a hS hO hM
 replace h1:=h1.m0 hM
 refine rPe T hS [] [] fun a hS=>?_
 refine bg ?_
 refine rPe T hS [] [(8,B (decide ((lN l_) > 10000)))] fun a hS=>?_
 refine aJ hS (b:=decide ((lN l_) > 10000)) kr (fun hb=>?_) fun hb=>?_
 ·replace hm:=hm.1 hb
  refine rPe T hS [0,8] [(2,I 0),(3,I 3)] fun a hS=>?_
  refine aY ?_
  exact fin T hS hO (fun c=>c) rfl (r:=[.int .i64 0,.int .i64 3]) kr (fun X' hM hC=>⟨(0,3),hm,rfl⟩)
 replace hm:=hm.2 hb
 refine aM ?_
 refine cb (fun a w=>∃ Z X,VC50_J1 l_ Q/\St Tryz.f50.ntmps ⟨[(0,Sl a1 l_ c1)],[]⟩ Z a w X/\Old w0 X0 w X/\RS aR w X a1 l_ c1) ?_ ?_
 ·refine rPe T hS [8] [(4,I 0)] fun a hS=>?_
  refine aN ?_
  obtain ⟨I1,μ1,cx,hm⟩:=hm
  refine ct (σ:=Int) (fun s a w=>∃ Z X,I1 s/\St Tryz.f50.ntmps ⟨[(0,Sl a1 l_ c1),(4,I s)],[]⟩ Z a w X/\Old w0 X0 w X/\RS aR w X a1 l_ c1) (fun s=>μ1 s) (0) ?_ ?_
  ·exact ⟨Z,_,cx,hS.sl _,hO,h1⟩
  rintro bm a Io ⟨Z,Kk,hI,hS,hO,h102⟩
  replace hm:=hm bm hI
  clear hI cx
  refine bg ?_
  refine rPe T hS [] [(12,B (decide (bm < (lN l_))))] fun a hS=>?_
  refine aJ hS (b:=decide (bm < (lN l_))) kr (fun hb=>?_) fun hb=>?_
  ·replace hm:=hm.1 hb
   refine aM (bg ?_)
   refine aN ?_
   refine bq ?_
   refine oPe T hS 2 [12] [(15,Sl a1 l_ c1),(16,I bm)] fun a hS=>?_
   obtain ⟨hq,hm⟩:=hm
   refine op1 (index (e:=61) (k:=.i64) T hS kr kr kr kr h102 kr kr hq.1 hq.2 ?_)
   intro Kw a h105 hS
   refine op1 (eU T hS kr kr kr h105 kr kr ?_)
   intro v106 a hv hS
   subst hv
   refine eM T hS ⟨[(0,Sl a1 l_ c1),(4,I bm),(5,Pt 6 0)],[(6,(61,(cE (gi l_ bm))))]⟩ fun Z a uH uz hS hE hr=>?_
   replace hO:=hO.m2 hE
   replace h102:=h102.m1 hE
   clear hE hr
   refine bg ?_
   refine rPe T hS [] [(26,B ((((gi l_ bm).bo) != 1) && (((gi l_ bm).bo) != 2)))] (sp:=[22]) fun a hS=>?_
   refine aJ hS (b:=((((gi l_ bm).bo) != 1) && (((gi l_ bm).bo) != 2))) kr (fun hb=>?_) fun hb=>?_
   ·replace hm:=hm.1 hb
    refine rP T hS ⟨[(2,I bm),(3,I 8)],[]⟩ fun a hS=>?_
    refine aY ?_
    exact fin T hS hO (fun c=>c) rfl (r:=[.int .i64 bm,.int .i64 8]) kr (fun X' hM hC=>⟨(bm,8),hm,rfl⟩)
   replace hm:=hm.2 hb
   refine aM (bg ?_)
   refine rPe T hS [26] [(35,B ((decide (((gi l_ bm).ak) < 1)) || (decide (((gi l_ bm).ak) > 1000))))] (sp:=[31]) fun a hS=>?_
   refine aJ hS (b:=((decide (((gi l_ bm).ak) < 1)) || (decide (((gi l_ bm).ak) > 1000)))) kr (fun hb=>?_) fun hb=>?_
   ·replace hm:=hm.1 hb
    refine rP T hS ⟨[(2,I bm),(3,I 2)],[]⟩ fun a hS=>?_
    refine aY ?_
    exact fin T hS hO (fun c=>c) rfl (r:=[.int .i64 bm,.int .i64 2]) kr (fun X' hM hC=>⟨(bm,2),hm,rfl⟩)
   replace hm:=hm.2 hb
   refine aM (bg ?_)
   refine rPe T hS [35] [(49,B ((((gi l_ bm).bo) == 1) && ((decide (((gi l_ bm).N) < 0)) || (decide (((gi l_ bm).N) > 63)))))] (sp:=[40,44]) fun a hS=>?_
   refine aJ hS (b:=((((gi l_ bm).bo) == 1) && ((decide (((gi l_ bm).N) < 0)) || (decide (((gi l_ bm).N) > 63))))) kr (fun hb=>?_) fun hb=>?_
   ·replace hm:=hm.1 hb
    refine rP T hS ⟨[(2,I bm),(3,I 31)],[]⟩ fun a hS=>?_
    refine aY ?_
    exact fin T hS hO (fun c=>c) rfl (r:=[.int .i64 bm,.int .i64 31]) kr (fun X' hM hC=>⟨(bm,31),hm,rfl⟩)
   replace hm:=hm.2 hb
   refine aM (bg ?_)
   refine rPe T hS [49] [(63,B ((((gi l_ bm).bo) == 2) && ((decide (((gi l_ bm).N) < 0)) || (decide (((gi l_ bm).N) > 1000000)))))] (sp:=[54,58]) fun a hS=>?_
   refine aJ hS (b:=((((gi l_ bm).bo) == 2) && ((decide (((gi l_ bm).N) < 0)) || (decide (((gi l_ bm).N) > 1000000))))) kr (fun hb=>?_) fun hb=>?_
   ·replace hm:=hm.1 hb
    refine rP T hS ⟨[(2,I bm),(3,I 7)],[]⟩ fun a hS=>?_
    refine aY ?_
    exact fin T hS hO (fun c=>c) rfl (r:=[.int .i64 bm,.int .i64 7]) kr (fun X' hM hC=>⟨(bm,7),hm,rfl⟩)
   replace hm:=hm.2 hb
   refine aM ?_
   refine cb (fun a w=>∃ (Z:Nat->Nat) (X:Nat->Nat) (dD:Bool),VC50_J2 Q I1 μ1 bm dD/\St Tryz.f50.ntmps ⟨[(0,Sl a1 l_ c1),(4,I bm),(89,B dD)],[]⟩ Z a w X/\Old w0 X0 w X/\RS aR w X a1 l_ c1) ?_ ?_
   ·refine iB [6] mixed hS ?_
    intro qo sc hS hE hD hH
    replace hO:=hO.m2 hE
    replace h102:=h102.m1 hE
    refine tke T [0,1,2,3] [6] hS hH #[true,true,true,true,false,false,false,false,false,false,false,false,false,false,false,false,false,false,false,false,false,false,false,false,false] 21 [] [(68,B (((gi l_ bm).bo) == 1))] fun a hS=>?_
    rcases bft (((gi l_ bm).bo) == 1) with hb | hb
    ·replace hS:=hS.lit (t:=68) kr hb
     replace hm:=hm.1 hb
     refine tke T [4,5,7,8] [6] hS hH #[true,true,true,true,true,true,false,true,true,false,false,false,false,false,false,false,false,false,false,false,false,false,false,false,false] 17 [] [(69,Sl a1 l_ c1),(70,I bm),(73,I ((gi l_ bm).ak))] fun a hS=>?_
     obtain ⟨hq,hm⟩:=hm
     refine um (E:=61) (kh:=.i64) T 6 hS kr kr kr (by rfl) kr hH kr kr h102 kr kr hq.1 hq.2 ?_
     intro jb iZ a h113 hS
     refine only 9 kr (by rfl) (call hS kr kr hb79 kr (fun _ _=>rfl) (IJ _ _ (l_.take bm.toNat) ((gi l_ bm).ak) jb iZ h113) ?_)
     intro v114 a pV uB hE hp hS
     replace hO:=hO.m2 hE
     replace hD:=hD.ev hE rfl
     replace h102:=h102.m1 hE
     replace h113:=h113.m1 hE
     obtain ⟨eN,hr⟩:∃ r,fq (l_.take bm.toNat) ((gi l_ bm).ak)=r:=⟨_,rfl⟩
     replace hm:=hm eN hr
     rw [hr] at hp
     clear hr
     subst hp
     replace hS:=hS.sle [] [(74,B eN)]
     refine di (bP.of hS (bks:=[6]) kr hD) ?_
     intro hH
     refine tke T [10,11] [6] hS hH #[true,true,true,true,true,true,true,true,true,true,true,true,false,false,false,false,false,false,false,false,false,false,false,false,false] 13 [68,69,70,73,71,74] [(76,B eN)] fun a hS=>?_
     rcases bft eN with hb | hb
     ·replace hS:=hS.lit (t:=76) kr hb
      replace hm:=hm.1 hb
      refine tke T [12,13,14,15,16,17,19,18,20,21,22,23,24] [6] hS hH (tts 25) 0 [5,76] [(89,B true)] fun a hS=>?_
      refine aX kr ?_
      replace hS:=hS.sl ⟨[(0,Sl a1 l_ c1),(4,I bm),(89,B true)],[]⟩
      exact ⟨Z,_,true,hm,hS.sl _,hO,h102⟩
     replace hS:=hS.lit (t:=76) kr hb
     replace hm:=hm.2 hb
     refine tke T [12,13,14,15] [6] hS hH #[true,true,true,true,true,true,true,true,true,true,true,true,true,true,true,true,false,false,false,false,false,false,false,false,false] 9 [] [(80,B (((gi l_ bm).bo) == 2))] fun a hS=>?_
     rcases bft (((gi l_ bm).bo) == 2) with hb | hb
     ·replace hS:=hS.lit (t:=80) kr hb
      replace hm:=hm.1 hb
      refine tke T [16,17,19,20] [6] hS hH #[true,true,true,true,true,true,true,true,true,true,true,true,true,true,true,true,true,true,false,true,true,false,false,false,false] 5 [5] [(81,Sl a1 l_ c1),(82,I bm),(85,I ((gi l_ bm).ak))] fun a hS=>?_
      obtain ⟨hq,hm⟩:=hm
      refine um (E:=61) (kh:=.i64) T 18 hS kr kr kr (by rfl) kr hH kr kr h102 kr kr hq.1 hq.2 ?_
      intro ic h8 a h120 hS
      refine only 21 kr (by rfl) (call hS kr kr hb79 kr (fun _ _=>rfl) (IJ _ _ (l_.take bm.toNat) ((gi l_ bm).ak) ic h8 h120) ?_)
      intro v121 a uK uA hE hp hS
      replace hO:=hO.m2 hE
      replace hD:=hD.ev hE rfl
      replace h102:=h102.m1 hE
      replace h113:=h113.m1 hE
      replace h120:=h120.m1 hE
      obtain ⟨dK,hr⟩:∃ r,fq (l_.take bm.toNat) ((gi l_ bm).ak)=r:=⟨_,rfl⟩
      replace hm:=hm dK hr
      rw [hr] at hp
      clear hr
      subst hp
      replace hS:=hS.sle [] [(86,B dK)]
      refine di (bP.of hS (bks:=[6]) kr hD) ?_
      intro hH
      refine tke T [22,23,24] [6] hS hH (tts 25) 0 [76,80,81,82,85,83,86] [(89,B (!dK))] fun a hS=>?_
      refine aX kr ?_
      replace hS:=hS.sl ⟨[(0,Sl a1 l_ c1),(4,I bm),(89,B (!dK))],[]⟩
      exact ⟨Z,_,(!dK),hm,hS.sl _,hO,h102⟩
     replace hS:=hS.lit (t:=80) kr hb
     replace hm:=hm.2 hb
     refine tke T [16,17,19,18,20,21,22,23,24] [6] hS hH (tts 25) 0 [5,76,80] [(89,B false)] fun a hS=>?_
     refine aX kr ?_
     replace hS:=hS.sl ⟨[(0,Sl a1 l_ c1),(4,I bm),(89,B false)],[]⟩
     exact ⟨Z,_,false,hm,hS.sl _,hO,h102⟩
    replace hS:=hS.lit (t:=68) kr hb
    replace hm:=hm.2 hb
    refine tke T [4,5,7,6,8,9,10,11,12,13,14,15] [6] hS hH #[true,true,true,true,true,true,true,true,true,true,true,true,true,true,true,true,false,false,false,false,false,false,false,false,false] 9 [68] [(76,B false),(80,B (((gi l_ bm).bo) == 2))] fun a hS=>?_
    rcases bft (((gi l_ bm).bo) == 2) with hb | hb
    ·replace hS:=hS.lit (t:=80) kr hb
     replace hm:=hm.1 hb
     refine tke T [16,17,19,20] [6] hS hH #[true,true,true,true,true,true,true,true,true,true,true,true,true,true,true,true,true,true,false,true,true,false,false,false,false] 5 [5] [(81,Sl a1 l_ c1),(82,I bm),(85,I ((gi l_ bm).ak))] fun a hS=>?_
     obtain ⟨hq,hm⟩:=hm
     refine um (E:=61) (kh:=.i64) T 18 hS kr kr kr (by rfl) kr hH kr kr h102 kr kr hq.1 hq.2 ?_
     intro ja iY a h127 hS
     refine only 21 kr (by rfl) (call hS kr kr hb79 kr (fun _ _=>rfl) (IJ _ _ (l_.take bm.toNat) ((gi l_ bm).ak) ja iY h127) ?_)
     intro v128 a Ld E4 hE hp hS
     replace hO:=hO.m2 hE
     replace hD:=hD.ev hE rfl
     replace h102:=h102.m1 hE
     replace h127:=h127.m1 hE
     obtain ⟨gg,hr⟩:∃ r,fq (l_.take bm.toNat) ((gi l_ bm).ak)=r:=⟨_,rfl⟩
     replace hm:=hm gg hr
     rw [hr] at hp
     clear hr
     subst hp
     replace hS:=hS.sle [] [(86,B gg)]
     refine di (bP.of hS (bks:=[6]) kr hD) ?_
     intro hH
     refine tke T [22,23,24] [6] hS hH (tts 25) 0 [76,80,81,82,85,83,86] [(89,B (!gg))] fun a hS=>?_
     refine aX kr ?_
     replace hS:=hS.sl ⟨[(0,Sl a1 l_ c1),(4,I bm),(89,B (!gg))],[]⟩
     exact ⟨Z,_,(!gg),hm,hS.sl _,hO,h102⟩
    replace hS:=hS.lit (t:=80) kr hb
    replace hm:=hm.2 hb
    refine tke T [16,17,19,18,20,21,22,23,24] [6] hS hH (tts 25) 0 [5,76,80] [(89,B false)] fun a hS=>?_
    refine aX kr ?_
    replace hS:=hS.sl ⟨[(0,Sl a1 l_ c1),(4,I bm),(89,B false)],[]⟩
    exact ⟨Z,_,false,hm,hS.sl _,hO,h102⟩
   rintro a zI ⟨Z,pq,dD,hm,hS,hO,h107⟩
   unfold VC50_J2 at hm
   refine aJ hS (b:=dD) kr (fun hb=>?_) fun hb=>?_
   ·replace hm:=hm.1 hb
    refine rPe T hS [0,4,89] [(2,I bm),(3,I 33)] fun a hS=>?_
    refine aY ?_
    exact fin T hS hO (fun c=>c) rfl (r:=[.int .i64 bm,.int .i64 33]) kr (fun X' hM hC=>⟨(bm,33),hm,rfl⟩)
   replace hm:=hm.2 hb
   refine aM ?_
   refine region (ePe T hS [89] [(4,I (wR (bm+1)))] fun a hS=>?_)
   exact ⟨wR (bm+1),⟨Z,_,hm.1,hS.sl _,hO,h107⟩,hm.2⟩
  replace hm:=hm.2 hb
  refine cm (by rfl) ?_
  exact ⟨Z,_,hm,hS.sl _,hO,h102⟩
 rintro a tj ⟨Z,Kj,hm,hS,hO,h101⟩
 unfold VC50_J1 at hm
 refine rPe T hS [0] [(2,I (lN l_)),(3,I 0)] fun a hS=>?_
 refine aY ?_
 exact fin T hS hO (fun c=>c) rfl (r:=[.int .i64 (lN l_),.int .i64 0]) kr (fun X' hM hC=>⟨((lN l_),0),hm,rfl⟩)
theorem C50 (IJ:S79) (v:∀ (l_:List aw),VC50 l_ (fun r=>r=e6 l_)):S50:=by
 intro w X l_ a1 c1   h1
 refine (W50 IJ w X l_ a1 c1   _ (v l_) h1).mono ?_
 rintro _ _ _ _ ⟨r,rfl,h⟩
 exact h
theorem W57 (w0) (X0) (a_:List bb) (b_:List bb) (a1) (c1) (a2) (c2) (Q:Bool->Prop) (hm:VC57 a_ b_ Q) (h1:RS aC w0 X0 a1 a_ c1) (h2:RS aC w0 X0 a2 b_ c2) :
  Ret Tryz.prog 57 #[.slice a1 a_.length c1,.slice a2 b_.length c2] aL w0 X0 (fun w X' v=>∃ r,Q r/\v=.bool r):=by
 unfold VC57 at hm
 replace hm:=hm (h1.sm kr)
 replace hm:=hm (h2.sm kr)
 refine enter Tryz.func57 rfl (vals:=[.slice a1 a_.length c1,.slice a2 b_.length c2]) kr ?_
 intro Z a hS hO hM
 replace h1:=h1.m0 hM
 replace h2:=h2.m0 hM
 refine rPe T hS [] [] fun a hS=>?_
 refine bg ?_
 refine rPe T hS [] [(10,B ((lN a_) != (lN b_)))] fun a hS=>?_
 refine aJ hS (b:=((lN a_) != (lN b_))) kr (fun hb=>?_) fun hb=>?_
 ·replace hm:=hm.1 hb
  refine rPe T hS [0,1,10] [(4,B false)] fun a hS=>?_
  refine aY ?_
  exact fin T hS hO (fun c=>c) rfl (r:=[.bool false]) kr (fun X' hM hC=>⟨false,hm,rfl⟩)
 replace hm:=hm.2 hb
 refine aM ?_
 refine cb (fun a w=>∃ Z X,VC57_J1 Q/\St Tryz.f57.ntmps ⟨[],[]⟩ Z a w X/\Old w0 X0 w X) ?_ ?_
 ·refine rPe T hS [10] [(5,I 0)] fun a hS=>?_
  refine aN ?_
  obtain ⟨I1,μ1,cx,hm⟩:=hm
  refine ct (σ:=Int) (fun s a w=>∃ Z X,I1 s/\St Tryz.f57.ntmps ⟨[(0,Sl a1 a_ c1),(1,Sl a2 b_ c2),(5,I s)],[]⟩ Z a w X/\Old w0 X0 w X/\RS aC w X a1 a_ c1/\RS aC w X a2 b_ c2) (fun s=>μ1 s) (0) ?_ ?_
  ·exact ⟨Z,_,cx,hS.sl _,hO,h1,h2⟩
  rintro bm a uM ⟨Z,uC,hI,hS,hO,h101,h102⟩
  replace hm:=hm bm hI
  clear hI cx
  refine bg ?_
  refine rPe T hS [] [(14,B (decide (bm < (lN a_))))] fun a hS=>?_
  refine aJ hS (b:=decide (bm < (lN a_))) kr (fun hb=>?_) fun hb=>?_
  ·replace hm:=hm.1 hb
   refine aM (bg ?_)
   refine aN ?_
   refine dG [] mixed hS ?_
   intro zL pt hS hE hD hH
   replace hO:=hO.m2 hE
   replace h101:=h101.m1 hE
   replace h102:=h102.m1 hE
   refine tke T [0,1,4,5] [] hS hH #[true,true,false,false,true,true,false,false,false] 5 [] [(17,Sl a1 a_ c1),(18,I bm),(21,Sl a2 b_ c2),(22,I bm)] fun a hS=>?_
   obtain ⟨hq,hm⟩:=hm
   refine dm (e:=107) (k:=.i64) T 2 hS kr kr kr (by rfl) kr hH kr kr h101 kr kr hq.1 hq.2 ?_
   intro Kv a h107 hS
   have CA:=h107.here
   refine ku T 3 hS kr kr kr (by rfl) kr hH kr h107 CA kr kr ?_
   intro v108 a hv hS
   subst hv
   obtain ⟨hq,hm⟩:=hm
   refine dm (e:=107) (k:=.i64) T 6 hS kr kr kr (by rfl) kr hH kr kr h102 kr kr hq.1 hq.2 ?_
   intro A4 a h110 hS
   have mC:=h110.here
   refine ku T 7 hS kr kr kr (by rfl) kr hH kr h110 mC kr kr ?_
   intro v111 a hv hS
   subst hv
   refine AB (op:=.neq) (xs:=[.int .i64 ((gi a_ bm).State),.int .i64 ((gi a_ bm).Kind),.int .i64 ((gi a_ bm).Next),.int .i64 ((gi a_ bm).Result)]) (ys:=[.int .i64 ((gi b_ bm).State),.int .i64 ((gi b_ bm).Kind),.int .i64 ((gi b_ bm).Next),.int .i64 ((gi b_ bm).Result)]) (r:=(((gi a_ bm).State) == ((gi b_ bm).State) && (((gi a_ bm).Kind) == ((gi b_ bm).Kind) && (((gi a_ bm).Next) == ((gi b_ bm).Next) && (((gi a_ bm).Result) == ((gi b_ bm).Result) && true))))) (b:=(!(((gi a_ bm).State) == ((gi b_ bm).State) && (((gi a_ bm).Kind) == ((gi b_ bm).Kind) && (((gi a_ bm).Next) == ((gi b_ bm).Next) && (((gi a_ bm).Result) == ((gi b_ bm).Result) && true)))))) 8 T hS kr kr kr (by rfl) kr hH kr kr kr kr kr kr ?_
   intro a hS
   refine aX kr ?_
   replace hS:=hS.sle [17,18,21,22,19,20,23,24] []
   refine aJ hS (b:=(!(((gi a_ bm).State) == ((gi b_ bm).State) && (((gi a_ bm).Kind) == ((gi b_ bm).Kind) && (((gi a_ bm).Next) == ((gi b_ bm).Next) && (((gi a_ bm).Result) == ((gi b_ bm).Result) && true)))))) kr (fun hb=>?_) fun hb=>?_
   ·replace hm:=hm.1 hb
    refine rPe T hS [0,1,5,25] [(4,B false)] fun a hS=>?_
    refine aY ?_
    exact fin T hS hO (fun c=>c) rfl (r:=[.bool false]) kr (fun X' hM hC=>⟨false,hm,rfl⟩)
   replace hm:=hm.2 hb
   refine aM ?_
   refine region (ePe T hS [25] [(5,I (wR (bm+1)))] fun a hS=>?_)
   exact ⟨wR (bm+1),⟨Z,_,hm.1,hS.sl _,hO,h101,h102⟩,hm.2⟩
  replace hm:=hm.2 hb
  refine cm (by rfl) ?_
  exact ⟨Z,_,hm,hS.sl _,hO⟩
 rintro a pV ⟨Z,wC,hm,hS,hO⟩
 unfold VC57_J1 at hm
 refine rPe T hS [] [(4,B true)] fun a hS=>?_
 refine aY ?_
 exact fin T hS hO (fun c=>c) rfl (r:=[.bool true]) kr (fun X' hM hC=>⟨true,hm,rfl⟩)
theorem C57 (v:∀ (a_:List bb) (b_:List bb),VC57 a_ b_ (fun r=>r=eE a_ b_)):S57:=by
 intro w X a_ b_ a1 c1 a2 c2   h1 h2
 refine (W57 w X a_ b_ a1 c1 a2 c2   _ (v a_ b_) h1 h2).mono ?_
 rintro _ _ _ _ ⟨r,rfl,h⟩
 exact h
theorem W26 (LX:S57) (w0) (X0) (a_:aj) (b_:aj) (a1) (c1) (a2) (c2) (Q:Bool->Prop) (hm:VC26 a_ b_ Q) (h1:RS aC w0 X0 a1 a_.Rows c1) (h2:RS aC w0 X0 a2 b_.Rows c2) :
  Ret Tryz.prog 26 #[.agg #[.int .i64 a_.au,.int .i64 a_.az,.int .i64 a_.aH,.slice a1 a_.Rows.length c1],.agg #[.int .i64 b_.au,.int .i64 b_.az,.int .i64 b_.aH,.slice a2 b_.Rows.length c2]] aL w0 X0 (fun w X' v=>∃ r,Q r/\v=.bool r):=by
 unfold VC26 at hm
 replace hm:=hm (h1.sm kr)
 replace hm:=hm (h2.sm kr)
 refine enter Tryz.func26 rfl (vals:=[.agg #[.int .i64 a_.au,.int .i64 a_.az,.int .i64 a_.aH,.slice a1 a_.Rows.length c1],.agg #[.int .i64 b_.au,.int .i64 b_.az,.int .i64 b_.aH,.slice a2 b_.Rows.length c2]]) kr ?_
 intro Z a hS hO hM
 replace h1:=h1.m0 hM
 replace h2:=h2.m0 hM
 refine rM T hS ⟨[(2,Pt 3 0),(3,Pt 4 0)],[(3,(48,(cO a_ a1 c1))),(4,(48,(cO b_ a2 c2)))]⟩ fun Z a nz mi hS hE hr=>?_
 replace hO:=hO.m2 hE
 replace h1:=h1.m1 hE
 replace h2:=h2.m1 hE
 clear hE hr
 refine bq ?_
 refine oPe T hS 20 [] [(24,B (((a_.au == b_.au) && (a_.az == b_.az)) && (a_.aH == b_.aH)))] (sp:=[10,17]) fun a hS=>?_
 rcases bft (((a_.au == b_.au) && (a_.az == b_.az)) && (a_.aH == b_.aH)) with hb | hb
 ·replace hS:=hS.lit (t:=24) kr hb
  replace hm:=hm.1 hb
  refine oP T hS 4 ⟨[(24,B true),(26,Sl a1 a_.Rows c1),(28,Sl a2 b_.Rows c2)],[]⟩ fun a hS=>?_
  refine op1 (call hS kr kr hb57 kr (fun _ _=>rfl) (LX _ _ a_.Rows b_.Rows a1 c1 a2 c2 h1 h2) ?_)
  intro v101 a fp fx hE hp hS
  replace hO:=hO.m2 hE
  replace h1:=h1.m1 hE
  replace h2:=h2.m1 hE
  obtain ⟨ax,hr⟩:∃ r,eE a_.Rows b_.Rows=r:=⟨_,rfl⟩
  replace hm:=hm ax hr
  rw [hr] at hp
  clear hr
  subst hp
  refine ePe T hS [24,26,28,29] [(4,B ax)] fun a hS=>?_
  refine aY ?_
  exact fin T hS hO (fun c=>c) rfl (r:=[.bool ax]) kr (fun X' hM hC=>⟨ax,hm,rfl⟩)
 replace hS:=hS.lit (t:=24) kr hb
 replace hm:=hm.2 hb
 refine eP T hS ⟨[(4,B false)],[]⟩ fun a hS=>?_
 refine aY ?_
 exact fin T hS hO (fun c=>c) rfl (r:=[.bool false]) kr (fun X' hM hC=>⟨false,hm,rfl⟩)
theorem C26 (LX:S57) (v:∀ (a_:aj) (b_:aj),VC26 a_ b_ (fun r=>r=jf a_ b_)):S26:=by
 intro w X a_ b_ a1 c1 a2 c2   h1 h2
 refine (W26 LX w X a_ b_ a1 c1 a2 c2   _ (v a_ b_) h1 h2).mono ?_
 rintro _ _ _ _ ⟨r,rfl,h⟩
 exact h
theorem W56 (GM:S55) (w0) (X0) (l_:List aw) (a1) (c1) (Q:(List ab) × Int->Prop) (hm:VC56 l_ Q) (h1:RS aR w0 X0 a1 l_ c1) :
  Ret Tryz.prog 56 #[.slice a1 l_.length c1] aL w0 X0 (fun w X' v=>∃ r,Q r/\∃ cz cy,v=.tuple #[.slice cz r.1.length cy,.int .i64 r.2]/\RS ar w X' cz r.1 cy):=by
 unfold VC56 at hm
 replace hm:=hm (h1.sm kr)
 refine enter Tryz.func56 rfl (vals:=[.slice a1 l_.length c1]) kr ?_
 intro Z a hS hO hM
 replace h1:=h1.m0 hM
 refine rPe T hS [] [] fun a hS=>?_
 refine bg ?_
 refine bq ?_
 refine oPe T hS 1 [] [(12,Sl a1 l_ c1)] fun a hS=>?_
 refine op1 (call hS kr kr hb55 kr (fun _ _=>rfl) (GM _ _ l_ a1 c1 h1) ?_)
 intro v101 a fp fx hE hp hS
 replace hO:=hO.m2 hE
 replace h1:=h1.m1 hE
 obtain ⟨ax,hr⟩:∃ r,bV l_=r:=⟨_,rfl⟩
 replace hm:=hm ax hr
 rw [hr] at hp
 clear hr
 subst hp
 refine ePe T hS [12,13] [(5,I ax.2)] fun a hS=>?_
 refine rPe T hS [] [(17,B (ax.2 != 0))] fun a hS=>?_
 refine aJ hS (b:=(ax.2 != 0)) kr (fun hb=>?_) fun hb=>?_
 ·replace hm:=hm.1 hb
  refine rPe T hS [0,5,17] [(2,V (.slice none 0 0)),(3,I ax.2)] fun a hS=>?_
  refine aY ?_
  exact fin T hS hO (fun c=>c) rfl (r:=[.slice none 0 0,.int .i64 ax.2]) kr (fun X' hM hC=>⟨([],ax.2),hm,none,0,rfl,RS.empty _ _ _⟩)
 replace hm:=hm.2 hb
 refine aM ?_
 refine rPe T hS [5,17] [(6,V (.slice none 0 0))] fun a hS=>?_
 refine bq ?_
 refine op1 (pF kI tI false 1020 hS kr kr ?_)
 intro jh a ny m9 hE h108 hS
 replace hO:=hO.m2 hE
 replace h1:=h1.m1 hE
 refine ePe T hS [19] [(7,V (.map (some jh)))] fun a hS=>?_
 refine cb (fun a w=>∃ (Z:Nat->Nat) (X:Nat->Nat) (cr:List ab) (fg:Option Addr) (ff:Nat),VC56_J1 Q cr/\St Tryz.f56.ntmps ⟨[(6,Sl fg cr ff)],[]⟩ Z a w X/\Old w0 X0 w X/\OS ar 102 w X 1003 fg cr ff) ?_ ?_
 ·refine rPe T hS [0] [(20,Sl a1 l_ c1),(21,I (lN l_)),(22,I 0)] fun a hS=>?_
  refine aN ?_
  obtain ⟨I1,μ1,cx,hm⟩:=hm
  refine ct (σ:=(List ab) × (List (Int × Int)) × Int) (fun s a w=>∃ Z X dY dX,I1 s.1 s.2.1 s.2.2/\St Tryz.f56.ntmps ⟨[(6,Sl dY s.1 dX),(7,V (.map (some jh))),(20,Sl a1 l_ c1),(21,I (lN l_)),(22,I s.2.2)],[]⟩ Z a w X/\Old w0 X0 w X/\OS ar 102 w X 1003 dY s.1 dX/\OM kI tI false w X 1020 jh s.2.1/\RS aR w X a1 l_ c1) (fun s=>μ1 s.1 s.2.1 s.2.2) (⟨[],([]:List (Int × Int)),0⟩) ?_ ?_
  ·exact ⟨Z,_,none,0,cx,hS.sl _,hO,(OS.nil _ _ _ _ _),h108,h1⟩
  rintro ⟨bw,bp,aV⟩ a DP ⟨Z,HB,dY,dX,hI,hS,hO,h118,h120,h121⟩
  replace hm:=hm bw bp aV hI
  clear hI cx
  refine rPe T hS [] [(23,B (decide (aV < (lN l_))))] fun a hS=>?_
  refine bg ?_
  refine aJ hS (b:=decide (aV < (lN l_))) kr (fun hb=>?_) fun hb=>?_
  ·replace hm:=hm.1 hb
   refine aM ?_
   refine cb (fun a w=>∃ (Z:Nat->Nat) (X:Nat->Nat) (eL:List ab) (c9:List (Int × Int)) (ia:Option Addr) (hY:Nat),VC56_J2 I1 μ1 bw bp aV eL c9/\St Tryz.f56.ntmps ⟨[(6,Sl ia eL hY),(7,V (.map (some jh))),(20,Sl a1 l_ c1),(21,I (lN l_)),(22,I aV)],[]⟩ Z a w X/\Old w0 X0 w X/\OS ar 102 w X 1003 ia eL hY/\OM kI tI false w X 1020 jh c9/\RS aR w X a1 l_ c1) ?_ ?_
   ·refine aN ?_
    refine bq ?_
    refine oPe T hS 1 [23] [(24,I aV)] fun a hS=>?_
    obtain ⟨hq,hm⟩:=hm
    refine op1 (index (e:=61) (k:=.i64) T hS kr kr kr kr h121 kr kr hq.1 hq.2 ?_)
    intro SN a h131 hS
    refine op1 (eU T hS kr kr kr h131 kr kr ?_)
    intro v132 a hv hS
    subst hv
    refine eM T hS ⟨[(6,Sl dY bw dX),(7,V (.map (some jh))),(8,I aV),(9,Pt 10 0),(20,Sl a1 l_ c1),(21,I (lN l_)),(22,I aV)],[(10,(61,(cE (gi l_ aV))))]⟩ fun Z a Bl Di hS hE hr=>?_
    replace hO:=hO.m2 hE
    replace h118:=h118.m2 hE
    replace h120:=h120.m2 hE
    replace h121:=h121.m1 hE
    clear hE hr
    refine bg ?_
    refine rPe T hS [] [(29,B (((gi l_ aV).bo) == 1))] fun a hS=>?_
    refine aJ hS (b:=(((gi l_ aV).bo) == 1)) kr (fun hb=>?_) fun hb=>?_
    ·replace hm:=hm.1 hb
     refine bq ?_
     refine oPe T hS 5 [29] [(30,V (.map (some jh))),(32,I ((gi l_ aV).ak)),(34,I (lN bw))] fun a hS=>?_
     refine op1 (tU kI tI false (v:=I (lN bw)) (u:=(lN bw)) ((gi l_ aV).ak) hS kr kr kr kr Tryz.underlying113 Tryz.underlying3 kr h120 rfl ?_)
     intro a zI hE h134 hS
     clear h120
     replace hO:=hO.m2 hE
     replace h118:=h118.m2 hE
     replace h121:=h121.m1 hE
     refine gY ?_
     refine bq ?_
     refine oP T hS 7 ⟨[(6,Sl dY bw dX),(7,V (.map (some jh))),(20,Sl a1 l_ c1),(21,I (lN l_)),(22,I aV),(35,Sl dY bw dX),(41,V (.agg #[.int .i64 ((gi l_ aV).ak),.int .i64 ((gi l_ aV).N),.int .i64 aV,.int .i64 (-1),.int .i64 (-1)]))],[]⟩ fun a hS=>?_
     refine op1 (lit (E:=102) (col:=0) (T:=ar) (vals:=[.agg #[.int .i64 ((gi l_ aV).ak),.int .i64 ((gi l_ aV).N),.int .i64 aV,.int .i64 (-1),.int .i64 (-1)]]) (ys:=[(⟨(gi l_ aV).ak,(gi l_ aV).N,aV,(-1),(-1)⟩:ab)]) T hS kr kr kr kr (by exact ⟨rfl,trivial⟩) rfl kr kr kr kr ?_)
     intro b135 a tl wB hE h138 hN hS
     clear hN
     replace hO:=hO.m2 hE
     replace h118:=h118.m2 hE
     replace h121:=h121.m1 hE
     replace h134:=h134.m2 hE
     replace h138:=h138.rs0
     obtain ⟨hq,hm⟩:=hm
     obtain ⟨news,hN⟩:=h138.src
     refine op1 (append (E:=102) (T:=ar) (col:=1003) (xs:=bw) T hS kr kr kr kr h118 hN kr kr kr kr hq ?_)
     intro kE kA a tj wA hE h141 hS
     clear hq hN
     clear h118
     replace hO:=hO.m2 hE
     replace h121:=h121.m1 hE
     replace h134:=h134.m2 hE
     replace h138:=h138.m1 hE
     refine ePe T hS [41,42,43] [(6,Sl kE (bw++[(⟨(gi l_ aV).ak,(gi l_ aV).N,aV,(-1),(-1)⟩:ab)]) kA)] fun a hS=>?_
     refine cm (by rfl) ?_
     exact ⟨Z,_,bw++[(⟨(gi l_ aV).ak,(gi l_ aV).N,aV,(-1),(-1)⟩:ab)],dv bp ((gi l_ aV).ak) (lN bw),kE,kA,hm,hS.sl _,hO,h141,h134,h121⟩
    replace hm:=hm.2 hb
    refine aM ?_
    refine bq ?_
    refine oPe T hS 4 [29] [(44,Sl dY bw dX),(45,V (.map (some jh))),(47,I ((gi l_ aV).ak))] fun a hS=>?_
    refine op1 (kf kI tI false (zv:=.int .i64 0) (z:=0) ((gi l_ aV).ak) hS kr kr kr kr Tryz.underlying113 Tryz.underlying3 kr rfl h120 ?_)
    intro v144 a hv hS
    replace hv:tI.R _ _ [v144] _:=hv
    cases hv
    obtain ⟨sP,hm⟩:=hm
    refine op1 (lQ (E:=102) (k:=.i64) T hS kr kr kr kr h118 kr kr sP.1 sP.2 ?_)
    intro A3 a h147 h146 hS
    have h148:=h147.ad
    clear h147 h146
    refine ePe T hS [44,45,47,48,49] [(10,V (.pointer (some A3)))] fun a hS=>?_
    refine iB [10] mixed hS ?_
    intro Bn HD hS hE hD hH
    replace hO:=hO.m2 hE
    replace h118:=h118.m2 hE
    replace h120:=h120.m2 hE
    replace h121:=h121.m1 hE
    refine tke T [0,1,2,3,4] [10] hS hH #[true,true,true,true,true,false,false,false,false,false,false] 6 [8,9,10] [(50,V (.pointer (some A3))),(51,V (.pointer (some A3))),(52,I aV),(54,I ((gi l_ aV).N))] fun a hS=>?_
    refine only 5 kr (by rfl) (IG (A:=A3) hS kr kr kr ?_)
    intro a hS
    refine di (bP.of hS (bks:=[10]) kr hD) ?_
    intro hH
    refine only 6 kr (by rfl) (ui (off:=3) (fsz:=1) (ft:=3) T hS kr kr kr h148 kr kr ?_)
    intro N4 a h153 hS
    refine di (bP.of hS (bks:=[10]) kr hD) ?_
    intro hH
    refine only 7 kr (by rfl) (tu (m:=1) (off:=3) (x:=(⟨(gi bw ((aF bp ((gi l_ aV).ak)).getD 0)).ak,(gi bw ((aF bp ((gi l_ aV).ak)).getD 0)).Kind,(gi bw ((aF bp ((gi l_ aV).ak)).getD 0)).aI,aV,(gi bw ((aF bp ((gi l_ aV).ak)).getD 0)).Result⟩:ab)) (v:=I aV) (i:=((aF bp ((gi l_ aV).ak)).getD 0).toNat) (E:=102) (xs:=bw) T hS kr kr kr kr h118 h153 (by have:=sP.1; have:=sP.2; (try simp only [List.length_set]); omega) kr kr rfl (fun _ _ _ h=>by cases h; rfl) ?_)
    intro a ti hE h155 hS
    clear h118
    replace hO:=hO.m2 hE
    replace hD:=hD.ev hE rfl
    replace h120:=h120.m2 hE
    replace h121:=h121.m1 hE
    replace hS:=hS.conv (t:=6) (y:=.slice dY (bw.set ((aF bp ((gi l_ aV).ak)).getD 0).toNat (⟨(gi bw ((aF bp ((gi l_ aV).ak)).getD 0)).ak,(gi bw ((aF bp ((gi l_ aV).ak)).getD 0)).Kind,(gi bw ((aF bp ((gi l_ aV).ak)).getD 0)).aI,aV,(gi bw ((aF bp ((gi l_ aV).ak)).getD 0)).Result⟩:ab)).length dX) kr (by rw [List.length_set])
    refine di (bP.of hS (bks:=[10]) kr hD) ?_
    intro hH
    refine only 8 kr (by rfl) (IG (A:=A3) hS kr kr kr ?_)
    intro a hS
    refine di (bP.of hS (bks:=[10]) kr hD) ?_
    intro hH
    refine only 9 kr (by rfl) (ui (off:=4) (fsz:=1) (ft:=3) T hS kr kr kr h148 kr kr ?_)
    intro N3 a h157 hS
    refine di (bP.of hS (bks:=[10]) kr hD) ?_
    intro hH
    refine only 10 kr (by rfl) (tu (m:=1) (off:=4) (x:=(⟨(gi (bw.set ((aF bp ((gi l_ aV).ak)).getD 0).toNat (⟨(gi bw ((aF bp ((gi l_ aV).ak)).getD 0)).ak,(gi bw ((aF bp ((gi l_ aV).ak)).getD 0)).Kind,(gi bw ((aF bp ((gi l_ aV).ak)).getD 0)).aI,aV,(gi bw ((aF bp ((gi l_ aV).ak)).getD 0)).Result⟩:ab)) ((aF bp ((gi l_ aV).ak)).getD 0)).ak,(gi (bw.set ((aF bp ((gi l_ aV).ak)).getD 0).toNat (⟨(gi bw ((aF bp ((gi l_ aV).ak)).getD 0)).ak,(gi bw ((aF bp ((gi l_ aV).ak)).getD 0)).Kind,(gi bw ((aF bp ((gi l_ aV).ak)).getD 0)).aI,aV,(gi bw ((aF bp ((gi l_ aV).ak)).getD 0)).Result⟩:ab)) ((aF bp ((gi l_ aV).ak)).getD 0)).Kind,(gi (bw.set ((aF bp ((gi l_ aV).ak)).getD 0).toNat (⟨(gi bw ((aF bp ((gi l_ aV).ak)).getD 0)).ak,(gi bw ((aF bp ((gi l_ aV).ak)).getD 0)).Kind,(gi bw ((aF bp ((gi l_ aV).ak)).getD 0)).aI,aV,(gi bw ((aF bp ((gi l_ aV).ak)).getD 0)).Result⟩:ab)) ((aF bp ((gi l_ aV).ak)).getD 0)).aI,(gi (bw.set ((aF bp ((gi l_ aV).ak)).getD 0).toNat (⟨(gi bw ((aF bp ((gi l_ aV).ak)).getD 0)).ak,(gi bw ((aF bp ((gi l_ aV).ak)).getD 0)).Kind,(gi bw ((aF bp ((gi l_ aV).ak)).getD 0)).aI,aV,(gi bw ((aF bp ((gi l_ aV).ak)).getD 0)).Result⟩:ab)) ((aF bp ((gi l_ aV).ak)).getD 0)).End,(gi l_ aV).N⟩:ab)) (v:=I ((gi l_ aV).N)) (i:=((aF bp ((gi l_ aV).ak)).getD 0).toNat) (E:=102) (xs:=(bw.set ((aF bp ((gi l_ aV).ak)).getD 0).toNat (⟨(gi bw ((aF bp ((gi l_ aV).ak)).getD 0)).ak,(gi bw ((aF bp ((gi l_ aV).ak)).getD 0)).Kind,(gi bw ((aF bp ((gi l_ aV).ak)).getD 0)).aI,aV,(gi bw ((aF bp ((gi l_ aV).ak)).getD 0)).Result⟩:ab))) T hS kr kr kr kr h155 h157 (by have:=sP.1; have:=sP.2; (try simp only [List.length_set]); omega) kr kr rfl (fun _ _ _ h=>by cases h; rfl) ?_)
    intro a DR hE h159 hS
    clear h155
    replace hO:=hO.m2 hE
    replace hD:=hD.ev hE rfl
    replace h120:=h120.m2 hE
    replace h121:=h121.m1 hE
    replace hS:=hS.conv (t:=6) (y:=.slice dY ((bw.set ((aF bp ((gi l_ aV).ak)).getD 0).toNat (⟨(gi bw ((aF bp ((gi l_ aV).ak)).getD 0)).ak,(gi bw ((aF bp ((gi l_ aV).ak)).getD 0)).Kind,(gi bw ((aF bp ((gi l_ aV).ak)).getD 0)).aI,aV,(gi bw ((aF bp ((gi l_ aV).ak)).getD 0)).Result⟩:ab)).set ((aF bp ((gi l_ aV).ak)).getD 0).toNat (⟨(gi (bw.set ((aF bp ((gi l_ aV).ak)).getD 0).toNat (⟨(gi bw ((aF bp ((gi l_ aV).ak)).getD 0)).ak,(gi bw ((aF bp ((gi l_ aV).ak)).getD 0)).Kind,(gi bw ((aF bp ((gi l_ aV).ak)).getD 0)).aI,aV,(gi bw ((aF bp ((gi l_ aV).ak)).getD 0)).Result⟩:ab)) ((aF bp ((gi l_ aV).ak)).getD 0)).ak,(gi (bw.set ((aF bp ((gi l_ aV).ak)).getD 0).toNat (⟨(gi bw ((aF bp ((gi l_ aV).ak)).getD 0)).ak,(gi bw ((aF bp ((gi l_ aV).ak)).getD 0)).Kind,(gi bw ((aF bp ((gi l_ aV).ak)).getD 0)).aI,aV,(gi bw ((aF bp ((gi l_ aV).ak)).getD 0)).Result⟩:ab)) ((aF bp ((gi l_ aV).ak)).getD 0)).Kind,(gi (bw.set ((aF bp ((gi l_ aV).ak)).getD 0).toNat (⟨(gi bw ((aF bp ((gi l_ aV).ak)).getD 0)).ak,(gi bw ((aF bp ((gi l_ aV).ak)).getD 0)).Kind,(gi bw ((aF bp ((gi l_ aV).ak)).getD 0)).aI,aV,(gi bw ((aF bp ((gi l_ aV).ak)).getD 0)).Result⟩:ab)) ((aF bp ((gi l_ aV).ak)).getD 0)).aI,(gi (bw.set ((aF bp ((gi l_ aV).ak)).getD 0).toNat (⟨(gi bw ((aF bp ((gi l_ aV).ak)).getD 0)).ak,(gi bw ((aF bp ((gi l_ aV).ak)).getD 0)).Kind,(gi bw ((aF bp ((gi l_ aV).ak)).getD 0)).aI,aV,(gi bw ((aF bp ((gi l_ aV).ak)).getD 0)).Result⟩:ab)) ((aF bp ((gi l_ aV).ak)).getD 0)).End,(gi l_ aV).N⟩:ab)).length dX) kr (by rw [List.length_set])
    refine di (bP.of hS (bks:=[10]) kr hD) ?_
    intro hH
    refine aX kr ?_
    replace hS:=hS.sl ⟨[(6,Sl dY ((bw.set ((aF bp ((gi l_ aV).ak)).getD 0).toNat (⟨(gi bw ((aF bp ((gi l_ aV).ak)).getD 0)).ak,(gi bw ((aF bp ((gi l_ aV).ak)).getD 0)).Kind,(gi bw ((aF bp ((gi l_ aV).ak)).getD 0)).aI,aV,(gi bw ((aF bp ((gi l_ aV).ak)).getD 0)).Result⟩:ab)).set ((aF bp ((gi l_ aV).ak)).getD 0).toNat (⟨(gi (bw.set ((aF bp ((gi l_ aV).ak)).getD 0).toNat (⟨(gi bw ((aF bp ((gi l_ aV).ak)).getD 0)).ak,(gi bw ((aF bp ((gi l_ aV).ak)).getD 0)).Kind,(gi bw ((aF bp ((gi l_ aV).ak)).getD 0)).aI,aV,(gi bw ((aF bp ((gi l_ aV).ak)).getD 0)).Result⟩:ab)) ((aF bp ((gi l_ aV).ak)).getD 0)).ak,(gi (bw.set ((aF bp ((gi l_ aV).ak)).getD 0).toNat (⟨(gi bw ((aF bp ((gi l_ aV).ak)).getD 0)).ak,(gi bw ((aF bp ((gi l_ aV).ak)).getD 0)).Kind,(gi bw ((aF bp ((gi l_ aV).ak)).getD 0)).aI,aV,(gi bw ((aF bp ((gi l_ aV).ak)).getD 0)).Result⟩:ab)) ((aF bp ((gi l_ aV).ak)).getD 0)).Kind,(gi (bw.set ((aF bp ((gi l_ aV).ak)).getD 0).toNat (⟨(gi bw ((aF bp ((gi l_ aV).ak)).getD 0)).ak,(gi bw ((aF bp ((gi l_ aV).ak)).getD 0)).Kind,(gi bw ((aF bp ((gi l_ aV).ak)).getD 0)).aI,aV,(gi bw ((aF bp ((gi l_ aV).ak)).getD 0)).Result⟩:ab)) ((aF bp ((gi l_ aV).ak)).getD 0)).aI,(gi (bw.set ((aF bp ((gi l_ aV).ak)).getD 0).toNat (⟨(gi bw ((aF bp ((gi l_ aV).ak)).getD 0)).ak,(gi bw ((aF bp ((gi l_ aV).ak)).getD 0)).Kind,(gi bw ((aF bp ((gi l_ aV).ak)).getD 0)).aI,aV,(gi bw ((aF bp ((gi l_ aV).ak)).getD 0)).Result⟩:ab)) ((aF bp ((gi l_ aV).ak)).getD 0)).End,(gi l_ aV).N⟩:ab)) dX),(7,V (.map (some jh))),(20,Sl a1 l_ c1),(21,I (lN l_)),(22,I aV)],[]⟩
    exact ⟨Z,_,((bw.set ((aF bp ((gi l_ aV).ak)).getD 0).toNat (⟨(gi bw ((aF bp ((gi l_ aV).ak)).getD 0)).ak,(gi bw ((aF bp ((gi l_ aV).ak)).getD 0)).Kind,(gi bw ((aF bp ((gi l_ aV).ak)).getD 0)).aI,aV,(gi bw ((aF bp ((gi l_ aV).ak)).getD 0)).Result⟩:ab)).set ((aF bp ((gi l_ aV).ak)).getD 0).toNat (⟨(gi (bw.set ((aF bp ((gi l_ aV).ak)).getD 0).toNat (⟨(gi bw ((aF bp ((gi l_ aV).ak)).getD 0)).ak,(gi bw ((aF bp ((gi l_ aV).ak)).getD 0)).Kind,(gi bw ((aF bp ((gi l_ aV).ak)).getD 0)).aI,aV,(gi bw ((aF bp ((gi l_ aV).ak)).getD 0)).Result⟩:ab)) ((aF bp ((gi l_ aV).ak)).getD 0)).ak,(gi (bw.set ((aF bp ((gi l_ aV).ak)).getD 0).toNat (⟨(gi bw ((aF bp ((gi l_ aV).ak)).getD 0)).ak,(gi bw ((aF bp ((gi l_ aV).ak)).getD 0)).Kind,(gi bw ((aF bp ((gi l_ aV).ak)).getD 0)).aI,aV,(gi bw ((aF bp ((gi l_ aV).ak)).getD 0)).Result⟩:ab)) ((aF bp ((gi l_ aV).ak)).getD 0)).Kind,(gi (bw.set ((aF bp ((gi l_ aV).ak)).getD 0).toNat (⟨(gi bw ((aF bp ((gi l_ aV).ak)).getD 0)).ak,(gi bw ((aF bp ((gi l_ aV).ak)).getD 0)).Kind,(gi bw ((aF bp ((gi l_ aV).ak)).getD 0)).aI,aV,(gi bw ((aF bp ((gi l_ aV).ak)).getD 0)).Result⟩:ab)) ((aF bp ((gi l_ aV).ak)).getD 0)).aI,(gi (bw.set ((aF bp ((gi l_ aV).ak)).getD 0).toNat (⟨(gi bw ((aF bp ((gi l_ aV).ak)).getD 0)).ak,(gi bw ((aF bp ((gi l_ aV).ak)).getD 0)).Kind,(gi bw ((aF bp ((gi l_ aV).ak)).getD 0)).aI,aV,(gi bw ((aF bp ((gi l_ aV).ak)).getD 0)).Result⟩:ab)) ((aF bp ((gi l_ aV).ak)).getD 0)).End,(gi l_ aV).N⟩:ab)),bp,dY,dX,hm,hS.sl _,hO,h159,h120,h121⟩
   rintro a Ik ⟨Z,NU,eL,c9,ia,hY,hm,hS,hO,h126,h128,h129⟩
   unfold VC56_J2 at hm
   refine region (ePe T hS [] [(22,I (wR (aV+1)))] fun a hS=>?_)
   exact ⟨⟨eL,c9,wR (aV+1)⟩,⟨Z,_,ia,hY,hm.1,hS.sl _,hO,h126,h128,h129⟩,hm.2⟩
  replace hm:=hm.2 hb
  refine cm (by rfl) ?_
  exact ⟨Z,_,bw,dY,dX,hm,hS.sl _,hO,h118⟩
 rintro a Ij ⟨Z,Kg,cr,fg,ff,hm,hS,hO,h112⟩
 unfold VC56_J1 at hm
 refine rPe T hS [6] [(2,Sl fg cr ff),(3,I 0)] fun a hS=>?_
 refine aY ?_
 obtain ⟨rN,hE,hF⟩:=h112.freeze (by decide)
 replace hS:=hS.ev hE (cA kr)
 replace hO:=hO.m2 hE
 have h114:=hF; clear hE hF
 exact fin T hS hO (fun c=>c) rfl (r:=[.slice fg cr.length ff,.int .i64 0]) kr (fun X' hM hC=>⟨(cr,0),hm,fg,ff,rfl,h114.m0 hM⟩)
theorem C56 (GM:S55) (v:∀ (l_:List aw),VC56 l_ (fun r=>r=gL l_)):S56:=by
 intro w X l_ a1 c1   h1
 refine (W56 GM w X l_ a1 c1   _ (v l_) h1).mono ?_
 rintro _ _ _ _ ⟨r,rfl,h⟩
 exact h
end Go.Proofs.YteahldlmkheleaaGreat
