/- Walks. -/
import Derived.Test.YteahldlmkheleaaGreatLWalksS
set_option linter.all false
namespace Go.Proofs.YteahldlmkheleaaGreat
open Go Go.Sv
abbrev zAd0 (jp dS cG:Nat):Nat->Nat:=fun c=>(bif Nat.beq c 13 then jp else (bif Nat.beq c 1011 then dS else (bif Nat.beq c 1010 then cG else c)))
abbrev zAd1 (cG:Nat):Nat->Nat:=fun c=>(bif Nat.beq c 1005 then cG else c)
abbrev zAd2 (i1 m1 m4 m5:Nat):List (Nat × Nat):=[(i1,901),(m1,2001),(m4,2004),(m5,2005)]
set_option maxHeartbeats 1000000
theorem W90 (N) (GP:S100) (GO:S101) (GN:S102N N) (GM:S105) (w0) (X0) (state:Int) (so:List aa) (am:a9) (a1) (c1) (m1) (a2) (c2) (a3) (c3) (a4) (c4) (m4) (r5) (m5) (b1) (i1) (Q:(List aa) × Bool × a9->Prop) (hm:VC90 N state so am Q) (h1:OS aq 56 w0 X0 m1 a1 so c1) (h2:RS ay w0 X0 a2 am.o.Rows c2) (h3:RS ao w0 X0 a3 am.l c3) (h4:OS dL 4 w0 X0 m4 a4 am.done c4) (h5:OMS aQ tI false w0 X0 m5 r5 am.failed) (fw:Cell w0 X0 b1 i1 161 [.int .i64 am.o.ar,.int .i64 am.o.aw,.int .i64 am.o.aC,.slice a2 am.o.Rows.length c2,.slice a3 am.l.length c3,.slice a4 am.done.length c4,.map (some r5)]) (hA:dW [i1,m1,m4,m5]) :
  Ret Tryz.prog 90 #[.pointer (some ⟨b1,0,none⟩),.int .i64 state,.slice a1 so.length c1] (pR [i1,m1,m4,m5]) w0 X0 (fun w X' v=>∃ r,Q r/\∃ cn cm iO iM o9 o8 xU xT,v=.tuple #[.slice cn r.1.length cm,.bool r.2.1]/\OS aq 56 w X' m1 cn r.1 cm/\RS ay w X' iO r.2.2.o.Rows iM/\RS ao w X' o9 r.2.2.l o8/\OS dL 4 w X' m4 xU r.2.2.done xT/\Cell w X' b1 i1 161 [.int .i64 r.2.2.o.ar,.int .i64 r.2.2.o.aw,.int .i64 r.2.2.o.aC,.slice iO r.2.2.o.Rows.length iM,.slice o9 r.2.2.l.length o8,.slice xU r.2.2.done.length xT,.map (some r5)]/\OMS aQ tI false w X' m5 r5 r.2.2.failed):=by
 unfold VC90 at hm
 replace hm:=hm (h1.sm kr)
 replace hm:=hm (h2.sm kr)
 replace hm:=hm (h3.sm kr)
 replace hm:=hm (h4.sm kr)
 refine fM Tryz.func90 rfl (dH (zAd2 i1 m1 m4 m5)) (fun id=>(bif Nat.beq id 901 then b1 else 0)) (args:=[Pt 901 0,I state,Sl a1 so c1]) (bxs:=[(901,(161,[I am.o.ar,I am.o.aw,I am.o.aC,Sl a2 am.o.Rows c2,Sl a3 am.l c3,Sl a4 am.done c4,V (.map (some r5))]))]) kr rfl (bn.cons kr (fw.map (bM 0 hA.1 rfl)) bn.nil) (fA (fun q hq=>(hA.2 q.1 (List.mem_map.2 ⟨q,hq,rfl⟩)).1)) ?_
 intro a hS hO hM
 have hP:Pin [(901,b1)] (fun id=>(bif Nat.beq id 901 then b1 else 0)):=by intro q hq; simp at hq; rcases hq with rfl <;> rfl
 generalize (fun id=>(bif Nat.beq id 901 then b1 else 0))=Z at hS hP
 clear fw
 replace h1:=h1.map (f:=dH (zAd2 i1 m1 m4 m5)) (bM 1 hA.1 rfl) hM
 replace h2:=h2.m0 hM
 replace h3:=h3.m0 hM
 replace h4:=h4.map (f:=dH (zAd2 i1 m1 m4 m5)) (bM 2 hA.1 rfl) hM
 replace h5:=h5.map (f:=dH (zAd2 i1 m1 m4 m5)) (bM 3 hA.1 rfl) hM
 refine rM T hS ⟨[(3,Pt 4 0),(4,Pt 5 0),(5,Pt 6 0)],[(4,(147,[Pt 901 0])),(5,(3,[I state])),(6,(26,[Sl a1 so c1])),(901,(161,[I am.o.ar,I am.o.aw,I am.o.aC,Sl a2 am.o.Rows c2,Sl a3 am.l c3,Sl a4 am.done c4,V (.map (some r5))]))]⟩ fun Z a OU QV hS hE hr=>?_
 replace hO:=hO.m2 hE
 replace h1:=h1.m2 hE
 replace h2:=h2.m1 hE
 replace h3:=h3.m1 hE
 replace h4:=h4.m2 hE
 replace h5:=h5.m2 hE
 replace hP:=hP.mv hr kr
 clear hE hr
 refine bc ?_
 refine bj ?_
 refine oPe T hS 1 [] [(14,Pt 901 0)] fun a hS=>?_
 have hb105:=(hS.cell (id:=901) (t:=161) (cs:=[I am.o.ar,I am.o.aw,I am.o.aC,Sl a2 am.o.Rows c2,Sl a3 am.l c3,Sl a4 am.done c4,V (.map (some r5))]) kr)
 have Fk:=h5
 obtain ⟨hq,hm⟩:=hm
 refine op1 (l5 hS kr kr hb100 kr (Ret.sV kr (GP _ (eD 2004 _) am a2 c2 a3 c3 a4 c4 r5 2005 (Z 901) 901 hq (h2.m0 (M0.eD 2004)) (h3.m0 (M0.eD 2004)) h4.eD (h5.E9 kr) (hb105.eD kr) ⟨by decide,by decide⟩)) ?_)
 intro v101 a eZ fa hE hp hS
 clear h5
 replace hO:=hO.m2 hE
 replace h1:=h1.m2 hE
 replace h2:=h2.m1 hE
 replace h3:=h3.m1 hE
 replace h4:=h4.m2 hE
 obtain ⟨l0,_,hp⟩:=hp
 obtain ⟨hp,qR,h108⟩:=hp
 replace qR:=qR.back hb105 l0
 replace h108:=h108.back Fk l0 (fun h=>h)
 clear l0 hb105 Fk
 obtain ⟨ap,hr⟩:∃ r,dQ am=r:=⟨_,rfl⟩
 replace hm:=hm ap hr
 rw [hr] at hp
 clear hr
 subst hp
 replace hS:=hS.cD (id:=901) (t:=161) (cs:=[I am.o.ar,I am.o.aw,I am.o.aC,Sl a2 am.o.Rows c2,Sl a3 am.l c3,Sl a4 am.done c4,V (.map (some r5))]) kr qR
 clear qR
 refine gX ?_
 refine aG hS (b:=ap) kr (fun hb=>?_) fun hb=>?_
 ·replace hm:=hm.1 hb
  refine rP T hS ⟨[(6,Sl a1 so c1),(7,B true)],[(901,(161,[I am.o.ar,I am.o.aw,I am.o.aC,Sl a2 am.o.Rows c2,Sl a3 am.l c3,Sl a4 am.done c4,V (.map (some r5))]))]⟩ fun a hS=>?_
  refine aY ?_
  exact gG T hS hO (fun c h=>bW kr h) (fun c h=>bX (l:=(zAd2 i1 m1 m4 m5)) h) (bR (zAd2 i1 m1 m4 m5)) rfl (r:=[.slice a1 so.length c1,.bool true]) kr (fun X' hM hC=>⟨(so,true,am),hm,a1,c1,a2,c2,a3,c3,a4,c4,rfl,(OS.out (f:=(bR (zAd2 i1 m1 m4 m5))) h1 hM hC kr),h2.m0 hM,h3.m0 hM,(OS.out (f:=(bR (zAd2 i1 m1 m4 m5))) h4 hM hC kr),((hS.cell (id:=901) (t:=161) (cs:=[I am.o.ar,I am.o.aw,I am.o.aC,Sl a2 am.o.Rows c2,Sl a3 am.l c3,Sl a4 am.done c4,V (.map (some r5))]) kr).out (f:=(bR (zAd2 i1 m1 m4 m5))) hC kr kr (hP.at 0 rfl)),(h108.out (f:=(bR (zAd2 i1 m1 m4 m5))) hM hC kr kr)⟩)
 replace hm:=hm.2 hb
 refine aH ?_
 refine bj ?_
 refine oPe T hS 2 [15] [(17,Pt 901 0),(18,I state)] fun a hS=>?_
 have hb113:=(hS.cell (id:=901) (t:=161) (cs:=[I am.o.ar,I am.o.aw,I am.o.aC,Sl a2 am.o.Rows c2,Sl a3 am.l c3,Sl a4 am.done c4,V (.map (some r5))]) kr)
 have Fj:=h108
 refine op1 (l5 hS kr kr hb101 kr (Ret.sV kr (GO _ (eD 2004 _) state am a2 c2 a3 c3 a4 c4 r5 2005 (Z 901) 901 (h2.m0 (M0.eD 2004)) (h3.m0 (M0.eD 2004)) h4.eD (h108.E9 kr) (hb113.eD kr) ⟨by decide,by decide⟩)) ?_)
 intro v109 a DL EX hE hp hS
 clear h108
 replace hO:=hO.m2 hE
 replace h1:=h1.m2 hE
 replace h2:=h2.m1 hE
 replace h3:=h3.m1 hE
 replace h4:=h4.m2 hE
 obtain ⟨l0,_,hp⟩:=hp
 obtain ⟨hp,yM,h116⟩:=hp
 replace yM:=yM.back hb113 l0
 replace h116:=h116.back Fj l0 (fun h=>h)
 clear l0 hb113 Fj
 obtain ⟨bv,hr⟩:∃ r,dE state am=r:=⟨_,rfl⟩
 replace hm:=hm bv hr
 rw [hr] at hp
 clear hr
 subst hp
 replace hS:=hS.cD (id:=901) (t:=161) (cs:=[I am.o.ar,I am.o.aw,I am.o.aC,Sl a2 am.o.Rows c2,Sl a3 am.l c3,Sl a4 am.done c4,V (.map (some r5))]) kr yM
 clear yM
 refine eM T hS ⟨[(3,Pt 4 0),(4,Pt 5 0),(5,Pt 6 0),(8,Pt 9 0)],[(4,(147,[Pt 901 0])),(5,(3,[I state])),(6,(26,[Sl a1 so c1])),(9,(164,[V (.int .u32 bv.done),I bv.state])),(901,(161,[I am.o.ar,I am.o.aw,I am.o.aC,Sl a2 am.o.Rows c2,Sl a3 am.l c3,Sl a4 am.done c4,V (.map (some r5))]))]⟩ fun Z a OV QW hS hE hr=>?_
 replace hO:=hO.m2 hE
 replace h1:=h1.m2 hE
 replace h2:=h2.m1 hE
 replace h3:=h3.m1 hE
 replace h4:=h4.m2 hE
 replace h116:=h116.m2 hE
 replace hP:=hP.mv hr kr
 clear hE hr
 refine bc ?_
 refine dv [4,5,6,9,901] mixed hS ?_
 intro zq Dh hS hE hD hH
 replace hO:=hO.m2 hE
 replace h1:=h1.m2 hE
 replace h2:=h2.m1 hE
 replace h3:=h3.m1 hE
 replace h4:=h4.m2 hE
 replace h116:=h116.m2 hE
 refine tke T [0,4,1,2,3] [4,5,6,9,901] hS hH #[true,true,true,true,true,false,false] 2 [] [(23,V (.map (some r5))),(24,V (.agg #[.int .u32 bv.done,.int .i64 bv.state]))] fun a hS=>?_
 refine only 5 kr (by rfl) (BQ aQ tI false (zv:=.int .i64 0) (z:=0) bv hS kr kr kr kr Tryz.underlying159 gd kr rfl h116 ?_)
 intro v119 a hv hS
 replace hv:tI.R _ _ [v119] _:=hv
 cases hv
 refine cW (bH.of hS (bks:=[4,5,6,9,901]) kr hD) ?_
 intro hH
 refine tke T [6] [4,5,6,9,901] hS hH (tts 7) 0 [23,24,25] [(26,B (decide (((aF am.failed bv).getD 0) > 0)))] fun a hS=>?_
 refine aS kr ?_
 replace hS:=hS.sle [] []
 refine aG hS (b:=decide (((aF am.failed bv).getD 0) > 0)) kr (fun hb=>?_) fun hb=>?_
 ·replace hm:=hm.1 hb
  refine rP T hS ⟨[(6,V (.slice none 0 0)),(7,B false)],[(901,(161,[I am.o.ar,I am.o.aw,I am.o.aC,Sl a2 am.o.Rows c2,Sl a3 am.l c3,Sl a4 am.done c4,V (.map (some r5))]))]⟩ fun a hS=>?_
  refine aY ?_
  exact gG T hS hO (fun c h=>bW kr h) (fun c h=>bX (l:=(zAd2 i1 m1 m4 m5)) h) (bR (zAd2 i1 m1 m4 m5)) rfl (r:=[.slice none 0 0,.bool false]) kr (fun X' hM hC=>⟨([],false,am),hm,none,0,a2,c2,a3,c3,a4,c4,rfl,OS.nil _ _ _ _ _,h2.m0 hM,h3.m0 hM,(OS.out (f:=(bR (zAd2 i1 m1 m4 m5))) h4 hM hC kr),((hS.cell (id:=901) (t:=161) (cs:=[I am.o.ar,I am.o.aw,I am.o.aC,Sl a2 am.o.Rows c2,Sl a3 am.l c3,Sl a4 am.done c4,V (.map (some r5))]) kr).out (f:=(bR (zAd2 i1 m1 m4 m5))) hC kr kr (hP.at 0 rfl)),(h116.out (f:=(bR (zAd2 i1 m1 m4 m5))) hM hC kr kr)⟩)
 replace hm:=hm.2 hb
 refine aH ?_
 refine rPe T hS [5,26] [(9,.f (.func 102) [] [.p 4 0,.p 5 0,.p 6 0])] fun a hS=>?_
 refine bT (fun a w=>∃ (Z:Nat->Nat) (X:Nat->Nat) (dB:Int) (il:Int) (aW:Int) (fx:List ba) (dX:List ab) (fW:List Bool) (f8:List (b6 × Int)) (gZ:Option Addr) (gY:Nat) (ig:Option Addr) (ie:Nat) (gK:Option Addr) (gJ:Nat),VC90_J1 N state Q bv dB il aW fx dX fW f8/\St Tryz.f90.ntmps ⟨[(3,Pt 4 0),(8,Pt 9 0)],[(4,(147,[Pt 901 0])),(9,(164,[V (.int .u32 bv.done),I bv.state])),(901,(161,[I dB,I il,I aW,Sl gZ fx gY,Sl ig dX ie,Sl gK fW gJ,V (.map (some r5))]))]⟩ Z a w X/\gf (dH (zAd2 i1 m1 m4 m5)) w0 X0 w X/\Pin [(901,b1)] Z/\RS ay w X gZ fx gY/\RS ao w X ig dX ie/\OS dL 4 w X 2004 gK fW gJ/\OMS aQ tI false w X 2005 r5 f8) ?_ ?_
 ·refine dv [4,5,6,9] mixed hS ?_
  intro A8 Dd hS hE hD hH
  replace hO:=hO.m2 hE
  replace h1:=h1.m2 hE
  replace h2:=h2.m1 hE
  replace h3:=h3.m1 hE
  replace h4:=h4.m2 hE
  replace h116:=h116.m2 hE
  refine tke T [0,4,8,9,15,1,5,10,2,6,11] [4,5,6,9] hS hH #[true,true,true,false,true,true,true,false,true,true,true,true,false,false,false,true] 5 [4] [(30,Pt 901 0),(34,Pt 901 4),(36,I state),(39,Pt 901 5),(43,I 0)] fun a hS=>?_
  refine yW (fun a w=>∃ X,St Tryz.f90.ntmps ⟨[(3,Pt 4 0),(8,Pt 9 0),(9,.f (.func 102) [] [.p 4 0,.p 5 0,.p 6 0]),(31,V (.agg #[.int .i64 am.o.ar,.int .i64 am.o.aw,.int .i64 am.o.aC,.slice a2 am.o.Rows.length c2])),(35,Sl a3 am.l c3),(36,I state),(40,Sl a4 am.done c4),(43,I 0)],[(4,(147,[Pt 901 0])),(5,(3,[I state])),(6,(26,[Sl a1 so c1])),(9,(164,[V (.int .u32 bv.done),I bv.state])),(901,(161,[I am.o.ar,I am.o.aw,I am.o.aC,Sl a2 am.o.Rows c2,Sl a3 am.l c3,Sl a4 am.done c4,V (.map (some r5))]))]⟩ Z a w X/\gf (dH (zAd2 i1 m1 m4 m5)) w0 X0 w X/\M0 A8 Dd w X/\bH A8 Dd (mG [4,5,6,9] ⟨[(3,Pt 4 0),(4,Pt 5 0),(8,Pt 9 0),(9,.f (.func 102) [] [.p 4 0,.p 5 0,.p 6 0])],[(4,(147,[Pt 901 0])),(5,(3,[I state])),(6,(26,[Sl a1 so c1])),(9,(164,[V (.int .u32 bv.done),I bv.state])),(901,(161,[I am.o.ar,I am.o.aw,I am.o.aC,Sl a2 am.o.Rows c2,Sl a3 am.l c3,Sl a4 am.done c4,V (.map (some r5))]))]⟩) Z w/\RS ay w X a2 am.o.Rows c2/\RS ao w X a3 am.l c3/\OS dL 4 w X 2004 a4 am.done c4/\OS aq 56 w X 2001 a1 so c1/\OMS aQ tI false w X 2005 r5 am.failed) #[true,true,true,true,true,true,true,true,true,true,true,true,true,false,false,true] 2 ?_ (fun H=>?_)
  ·rintro a F2 ⟨Nq,hS,hO,hD,hH,h180,h181,h182,h183,h184⟩
   obtain ⟨hq,hm⟩:=hm
   refine only 13 kr (by rfl) (call hS kr kr hb105 kr (fun _ _=>rfl) (Ret.DM (GM _ (eD 2004 _) am.o am.l state am.done a2 c2 a3 c3 a4 c4 4193 hq (h180.m0 (M0.eD 2004)) (h181.m0 (M0.eD 2004)) h182.eD)) ?_)
   intro v187 a Pa Rd hE hp hS
   replace hO:=hO.m2 hE
   replace hD:=hD.ev hE rfl
   replace h180:=h180.m1 hE
   replace h181:=h181.m1 hE
   replace h182:=h182.m2 hE
   replace h183:=h183.m2 hE
   replace h184:=h184.m2 hE
   obtain ⟨_,FJ,hp⟩:=hp
   obtain ⟨JP,JB,hp,h193⟩:=hp
   replace h193:=h193.JI FJ kr (fun h=>h)
   clear FJ
   obtain ⟨nc,hr⟩:∃ r,bK am.o am.l state am.done=r:=⟨_,rfl⟩
   replace hm:=hm nc hr
   rw [hr] at hp h193
   clear hr
   subst hp
   replace hm:=hm (h193.sm kr)
   replace hS:=hS.sle [] [(41,Sl JP nc JB)]
   refine cW (bH.of hS (bks:=[4,5,6,9]) kr hD) ?_
   intro hH
   refine tke T [14] [4,5,6,9] hS hH (tts 16) 0 [31,35,36,40] [(42,I (lN nc))] fun a hS=>?_
   refine aS kr ?_
   replace hS:=hS.sle [] []
   refine aL ?_
   obtain ⟨Rc,hE,hF⟩:=h183.freeze (by decide)
   replace hS:=hS.ev hE (cr kr)
   replace hO:=hO.m2 hE
   replace h180:=h180.m1 hE
   replace h181:=h181.m1 hE
   replace h182:=h182.m2 hE
   replace h184:=h184.m2 hE
   replace h193:=h193.m2 hE
   have h195:=hF; clear hE hF
   obtain ⟨I1,μ1,co,hm⟩:=hm
   refine cl (σ:=(List aa) × Int × Int × Int × Int × (List ba) × (List ab) × (List Bool) × (List (b6 × Int))) (fun s a w=>∃ Z X nA nl ow oh vW vL vV vK,I1 s.1 s.2.1 s.2.2.1 s.2.2.2.1 s.2.2.2.2.1 s.2.2.2.2.2.1 s.2.2.2.2.2.2.1 s.2.2.2.2.2.2.2.1 s.2.2.2.2.2.2.2.2/\St Tryz.f90.ntmps ⟨[(3,Pt 4 0),(8,Pt 9 0),(9,.f (.func 102) [] [.p 4 0,.p 5 0,.p 6 0]),(41,Sl nA s.1 nl),(42,I (lN nc)),(43,I s.2.1)],[(4,(147,[Pt 901 0])),(5,(3,[I state])),(6,(26,[Sl a1 so c1])),(9,(164,[V (.int .u32 bv.done),I bv.state])),(901,(161,[I s.2.2.1,I s.2.2.2.1,I s.2.2.2.2.1,Sl ow s.2.2.2.2.2.1 oh,Sl vW s.2.2.2.2.2.2.1 vL,Sl vV s.2.2.2.2.2.2.2.1 vK,V (.map (some r5))]))]⟩ Z a w X/\gf (dH (zAd2 i1 m1 m4 m5)) w0 X0 w X/\Pin [(901,b1)] Z/\OS aq 56 w X 4193 nA s.1 nl/\RS aq w X a1 so c1/\RS ay w X ow s.2.2.2.2.2.1 oh/\RS ao w X vW s.2.2.2.2.2.2.1 vL/\OS dL 4 w X 2004 vV s.2.2.2.2.2.2.2.1 vK/\OMS aQ tI false w X 2005 r5 s.2.2.2.2.2.2.2.2) (fun s=>μ1 s.1 s.2.1 s.2.2.1 s.2.2.2.1 s.2.2.2.2.1 s.2.2.2.2.2.1 s.2.2.2.2.2.2.1 s.2.2.2.2.2.2.2.1 s.2.2.2.2.2.2.2.2) (⟨nc,0,am.o.ar,am.o.aw,am.o.aC,am.o.Rows,am.l,am.done,am.failed⟩) ?_ ?_
   ·exact ⟨Z,_,JP,JB,a2,c2,a3,c3,a4,c4,co,hS.sl _,hO,hP,h193,h195,h180,h181,h182,h184⟩
   rintro ⟨nE,ii,jf,wl,wk,wj,wi,jN,Dx⟩ a KI ⟨Z,QX,nA,nl,ow,oh,vW,vL,vV,vK,hI,hS,hO,hP,h199,h201,h208,h212,h216,h218⟩
   replace hm:=hm nE ii jf wl wk wj wi jN Dx hI
   clear hI co
   refine rPe T hS [] [(44,B (decide (ii < (lN nc))))] fun a hS=>?_
   refine bc ?_
   refine aG hS (b:=decide (ii < (lN nc))) kr (fun hb=>?_) fun hb=>?_
   ·replace hm:=hm.1 hb
    refine aH (bc ?_)
    refine aL ?_
    refine bj ?_
    obtain ⟨Fh,hm⟩:=hm
    refine op1 (nr (E:=56) (k:=.i64) T hS kr kr kr kr h199 kr kr Fh.1 Fh.2 ?_)
    intro NA a h221 h220 hS
    refine op1 (BZ T hS kr kr kr h220 kr kr ?_)
    intro v223 a hv hS
    subst hv
    refine eM T hS ⟨[(3,Pt 4 0),(8,Pt 9 0),(9,.f (.func 102) [] [.p 4 0,.p 5 0,.p 6 0]),(11,Pt 12 0),(41,Sl nA nE nl),(42,I (lN nc)),(43,I ii)],[(4,(147,[Pt 901 0])),(5,(3,[I state])),(6,(26,[Sl a1 so c1])),(9,(164,[V (.int .u32 bv.done),I bv.state])),(12,(56,(cK (gi nE ii)))),(901,(161,[I jf,I wl,I wk,Sl ow wj oh,Sl vW wi vL,Sl vV jN vK,V (.map (some r5))]))]⟩ fun Z a KJ Nc hS hE hr=>?_
    replace hO:=hO.m2 hE
    replace h199:=h199.m2 hE
    replace h201:=h201.m1 hE
    replace h208:=h208.m1 hE
    replace h212:=h212.m1 hE
    replace h216:=h216.m2 hE
    replace h218:=h218.m2 hE
    replace hP:=hP.mv hr kr
    clear hE hr
    refine bj ?_
    refine oP T hS 2 ⟨[(3,Pt 4 0),(8,Pt 9 0),(9,.f (.func 102) [] [.p 4 0,.p 5 0,.p 6 0]),(41,Sl nA nE nl),(42,I (lN nc)),(43,I ii),(48,.f (.func 102) [] [.p 4 0,.p 5 0,.p 6 0]),(49,V (.agg #[.int .i64 ((gi nE ii).Oper),.int .i64 ((gi nE ii).Result)]))],[(4,(147,[Pt 901 0])),(5,(3,[I state])),(6,(26,[Sl a1 so c1])),(9,(164,[V (.int .u32 bv.done),I bv.state])),(901,(161,[I jf,I wl,I wk,Sl ow wj oh,Sl vW wi vL,Sl vV jN vK,V (.map (some r5))]))]⟩ fun a hS=>?_
    obtain ⟨hq,hm⟩:=hm
    refine op1 (kd (fi:=[]) (cp:=[.p 4 0,.p 5 0,.p 6 0]) hS kr kr hb102 kr kr (GN _ _ (gi nE ii) (⟨(⟨jf,wl,wk,wj⟩:ae),wi,jN,Dx⟩:a9) state so ow oh vW vL vV vK 2004 r5 2005 a1 c1 2001 (Z 4) 4 (Z 901) 901 (Z 5) 5 (Z 6) 6 hq.1 hq.2 h208 h212 h216 h218 h201 (hS.cell (id:=4) (t:=147) (cs:=[Pt 901 0]) kr) (hS.cell (id:=901) (t:=161) (cs:=[I jf,I wl,I wk,Sl ow wj oh,Sl vW wi vL,Sl vV jN vK,V (.map (some r5))]) kr) (hS.cell (id:=5) (t:=3) (cs:=[I state]) kr) (hS.cell (id:=6) (t:=26) (cs:=[Sl a1 so c1]) kr) ⟨by decide,by decide⟩) ?_)
    intro v224 a O4 Q5 hE hp hS
    clear h218
    clear h216
    replace hO:=hO.m2 hE
    replace h199:=h199.m2 hE
    replace h201:=h201.m1 hE
    replace h208:=h208.m1 hE
    replace h212:=h212.m1 hE
    obtain ⟨EK,Ez,C1,CN,C0,CM,CZ,CL,hp,h230,h233,h236,h239,Fq,Cn,h240,Fp,Fo⟩:=hp
    obtain ⟨d6,hr⟩:∃ r,bf (gi nE ii) (⟨(⟨jf,wl,wk,wj⟩:ae),wi,jN,Dx⟩:a9) state so=r:=⟨_,rfl⟩
    replace hm:=hm d6 hr
    rw [hr] at hp h230 h233 h236 h239 Cn h240
    clear hr
    subst hp
    replace hm:=hm (h230.sm kr)
    replace hm:=hm (h233.sm kr)
    replace hm:=hm (h236.sm kr)
    replace hm:=hm (h239.sm kr)
    replace hS:=hS.cD (id:=4) (t:=147) (cs:=[Pt 901 0]) kr Fq
    replace hS:=hS.cD (id:=901) (t:=161) (cs:=[I d6.2.2.o.ar,I d6.2.2.o.aw,I d6.2.2.o.aC,Sl C1 d6.2.2.o.Rows CN,Sl C0 d6.2.2.l CM,Sl CZ d6.2.2.done CL,V (.map (some r5))]) kr Cn
    replace hS:=hS.cD (id:=5) (t:=3) (cs:=[I state]) kr Fp
    replace hS:=hS.cD (id:=6) (t:=26) (cs:=[Sl a1 so c1]) kr Fo
    clear Fq Cn Fp Fo
    refine ePe T hS [48,49,50] [(12,Sl EK d6.1 Ez),(13,B d6.2.1)] fun a hS=>?_
    refine rPe T hS [13] [(53,B d6.2.1)] fun a hS=>?_
    refine aG hS (b:=d6.2.1) kr (fun hb=>?_) fun hb=>?_
    ·replace hm:=hm.1 hb
     refine rP T hS ⟨[(6,Sl EK d6.1 Ez),(7,B true)],[(901,(161,[I d6.2.2.o.ar,I d6.2.2.o.aw,I d6.2.2.o.aC,Sl C1 d6.2.2.o.Rows CN,Sl C0 d6.2.2.l CM,Sl CZ d6.2.2.done CL,V (.map (some r5))]))]⟩ fun a hS=>?_
     refine aY ?_
     exact gG T hS hO (fun c h=>bW kr h) (fun c h=>bX (l:=(zAd2 i1 m1 m4 m5)) h) (bR (zAd2 i1 m1 m4 m5)) rfl (r:=[.slice EK d6.1.length Ez,.bool true]) kr (fun X' hM hC=>⟨(d6.1,true,d6.2.2),hm,EK,Ez,C1,CN,C0,CM,CZ,CL,rfl,(OS.out (f:=(bR (zAd2 i1 m1 m4 m5))) h230 hM hC kr),h233.m0 hM,h236.m0 hM,(OS.out (f:=(bR (zAd2 i1 m1 m4 m5))) h239 hM hC kr),((hS.cell (id:=901) (t:=161) (cs:=[I d6.2.2.o.ar,I d6.2.2.o.aw,I d6.2.2.o.aC,Sl C1 d6.2.2.o.Rows CN,Sl C0 d6.2.2.l CM,Sl CZ d6.2.2.done CL,V (.map (some r5))]) kr).out (f:=(bR (zAd2 i1 m1 m4 m5))) hC kr kr (hP.at 0 rfl)),(h240.out (f:=(bR (zAd2 i1 m1 m4 m5))) hM hC kr kr)⟩)
    replace hm:=hm.2 hb
    refine aH ?_
    refine region (ePe T hS [12,53] [(43,I (wR (ii+1)))] fun a hS=>?_)
    exact ⟨⟨nE,wR (ii+1),d6.2.2.o.ar,d6.2.2.o.aw,d6.2.2.o.aC,d6.2.2.o.Rows,d6.2.2.l,d6.2.2.done,d6.2.2.failed⟩,⟨Z,_,nA,nl,C1,CN,C0,CM,CZ,CL,hm.1,hS.sl _,hO,hP,h199,h201,h233,h236,h239,h240⟩,hm.2⟩
   replace hm:=hm.2 hb
   refine cb (by rfl) ?_
   exact ⟨Z,_,jf,wl,wk,wj,wi,jN,Dx,ow,oh,vW,vL,vV,vK,hm,hS.sl _,hO,hP,h208,h212,h216,h218⟩
  clear hm
  refine rh (is:=[3,7,12]) kr (by decide) ?_
  intro i hi
  rcases Lf hi with rfl | rfl | rfl
  ·refine jV (by rfl) (gD T hS kr kr kr (sv:=V (.agg #[.int .i64 am.o.ar,.int .i64 am.o.aw,.int .i64 am.o.aC,.slice a2 am.o.Rows.length c2])) kr ?_)
   intro a hS
   refine cW (bH.of hS (bks:=[4,5,6,9]) kr hD) ?_
   intro hH
   refine rh (is:=[7,12]) kr (by decide) ?_
   intro i hi
   rcases z1 hi with rfl | rfl
   ·refine jV (by rfl) (gD T hS kr kr kr (sv:=Sl a3 am.l c3) kr ?_)
    intro a hS
    refine cW (bH.of hS (bks:=[4,5,6,9]) kr hD) ?_
    intro hH
    refine only 12 kr (by rfl) (gD T hS kr kr kr (sv:=Sl a4 am.done c4) kr ?_)
    intro a hS
    refine cW (bH.of hS (bks:=[4,5,6,9]) kr hD) ?_
    intro hH
    exact H _ _ ⟨_,hS.sl _,hO,hD,hH,h2,h3,h4,h1,h116⟩
   refine jV (by rfl) (gD T hS kr kr kr (sv:=Sl a4 am.done c4) kr ?_)
   intro a hS
   refine cW (bH.of hS (bks:=[4,5,6,9]) kr hD) ?_
   intro hH
   refine only 7 kr (by rfl) (gD T hS kr kr kr (sv:=Sl a3 am.l c3) kr ?_)
   intro a hS
   refine cW (bH.of hS (bks:=[4,5,6,9]) kr hD) ?_
   intro hH
   exact H _ _ ⟨_,hS.sl _,hO,hD,hH,h2,h3,h4,h1,h116⟩
  ·refine jV (by rfl) (gD T hS kr kr kr (sv:=Sl a3 am.l c3) kr ?_)
   intro a hS
   refine cW (bH.of hS (bks:=[4,5,6,9]) kr hD) ?_
   intro hH
   refine rh (is:=[3,12]) kr (by decide) ?_
   intro i hi
   rcases z1 hi with rfl | rfl
   ·refine jV (by rfl) (gD T hS kr kr kr (sv:=V (.agg #[.int .i64 am.o.ar,.int .i64 am.o.aw,.int .i64 am.o.aC,.slice a2 am.o.Rows.length c2])) kr ?_)
    intro a hS
    refine cW (bH.of hS (bks:=[4,5,6,9]) kr hD) ?_
    intro hH
    refine only 12 kr (by rfl) (gD T hS kr kr kr (sv:=Sl a4 am.done c4) kr ?_)
    intro a hS
    refine cW (bH.of hS (bks:=[4,5,6,9]) kr hD) ?_
    intro hH
    exact H _ _ ⟨_,hS.sl _,hO,hD,hH,h2,h3,h4,h1,h116⟩
   refine jV (by rfl) (gD T hS kr kr kr (sv:=Sl a4 am.done c4) kr ?_)
   intro a hS
   refine cW (bH.of hS (bks:=[4,5,6,9]) kr hD) ?_
   intro hH
   refine only 3 kr (by rfl) (gD T hS kr kr kr (sv:=V (.agg #[.int .i64 am.o.ar,.int .i64 am.o.aw,.int .i64 am.o.aC,.slice a2 am.o.Rows.length c2])) kr ?_)
   intro a hS
   refine cW (bH.of hS (bks:=[4,5,6,9]) kr hD) ?_
   intro hH
   exact H _ _ ⟨_,hS.sl _,hO,hD,hH,h2,h3,h4,h1,h116⟩
  refine jV (by rfl) (gD T hS kr kr kr (sv:=Sl a4 am.done c4) kr ?_)
  intro a hS
  refine cW (bH.of hS (bks:=[4,5,6,9]) kr hD) ?_
  intro hH
  refine rh (is:=[3,7]) kr (by decide) ?_
  intro i hi
  rcases z1 hi with rfl | rfl
  ·refine jV (by rfl) (gD T hS kr kr kr (sv:=V (.agg #[.int .i64 am.o.ar,.int .i64 am.o.aw,.int .i64 am.o.aC,.slice a2 am.o.Rows.length c2])) kr ?_)
   intro a hS
   refine cW (bH.of hS (bks:=[4,5,6,9]) kr hD) ?_
   intro hH
   refine only 7 kr (by rfl) (gD T hS kr kr kr (sv:=Sl a3 am.l c3) kr ?_)
   intro a hS
   refine cW (bH.of hS (bks:=[4,5,6,9]) kr hD) ?_
   intro hH
   exact H _ _ ⟨_,hS.sl _,hO,hD,hH,h2,h3,h4,h1,h116⟩
  refine jV (by rfl) (gD T hS kr kr kr (sv:=Sl a3 am.l c3) kr ?_)
  intro a hS
  refine cW (bH.of hS (bks:=[4,5,6,9]) kr hD) ?_
  intro hH
  refine only 3 kr (by rfl) (gD T hS kr kr kr (sv:=V (.agg #[.int .i64 am.o.ar,.int .i64 am.o.aw,.int .i64 am.o.aC,.slice a2 am.o.Rows.length c2])) kr ?_)
  intro a hS
  refine cW (bH.of hS (bks:=[4,5,6,9]) kr hD) ?_
  intro hH
  exact H _ _ ⟨_,hS.sl _,hO,hD,hH,h2,h3,h4,h1,h116⟩
 rintro a OW ⟨Z,Nb,dB,il,aW,fx,dX,fW,f8,gZ,gY,ig,ie,gK,gJ,hm,hS,hO,hP,h126,h130,h134,h136⟩
 unfold VC90_J1 at hm
 refine bT (fun a w=>∃ (Z:Nat->Nat) (X:Nat->Nat) (jw:List Bool) (md:List (b6 × Int)) (nC:Option Addr) (ny:Nat),VC90_J2 N Q dB il aW fx dX jw md/\St Tryz.f90.ntmps ⟨[],[(901,(161,[I dB,I il,I aW,Sl gZ fx gY,Sl ig dX ie,Sl nC jw ny,V (.map (some r5))]))]⟩ Z a w X/\gf (dH (zAd2 i1 m1 m4 m5)) w0 X0 w X/\Pin [(901,b1)] Z/\RS ay w X gZ fx gY/\RS ao w X ig dX ie/\OS dL 4 w X 2004 nC jw ny/\OMS aQ tI false w X 2005 r5 md) ?_ ?_
 ·refine bj ?_
  refine oPe T hS 2 [] [(56,V (.agg #[.int .u32 bv.done,.int .i64 bv.state])),(57,V (.agg #[.int .u32 0,.int .i64 0]))] fun a hS=>?_
  refine op1 (structEq (op:=.neq) (xs:=[.int .u32 bv.done,.int .i64 bv.state]) (ys:=[.int .u32 0,.int .i64 0]) (r:=(bv.done == 0 && (bv.state == 0 && true))) (b:=(!(bv.done == 0 && (bv.state == 0 && true)))) T hS kr kr kr kr kr kr kr kr ?_)
  intro a hS
  refine gX ?_
  refine aG hS (b:=(!(bv.done == 0 && (bv.state == 0 && true)))) kr (fun hb=>?_) fun hb=>?_
  ·replace hm:=hm.1 hb
   refine gI [4,9,901] mixed hS ?_
   intro DI AH hS hE hD hH
   replace hO:=hO.m2 hE
   replace h126:=h126.m1 hE
   replace h130:=h130.m1 hE
   replace h134:=h134.m2 hE
   replace h136:=h136.m2 hE
   refine tke T [0,4,1,2,3] [4,9,901] hS hH #[true,true,true,true,true,false,false,false,false,false] 5 [3,8] [(62,V (.map (some r5))),(63,V (.agg #[.int .u32 bv.done,.int .i64 bv.state]))] fun a hS=>?_
   refine yW (fun a w=>∃ X b158,St Tryz.f90.ntmps ⟨[(62,V (.map (some r5))),(65,I (wR (((aF f8 bv).getD 0)+1))),(67,I ((b158:Nat):Int))],[(4,(147,[Pt 901 0])),(9,(164,[V (.int .u32 bv.done),I bv.state])),(901,(161,[I dB,I il,I aW,Sl gZ fx gY,Sl ig dX ie,Sl gK fW gJ,V (.map (some r5))]))]⟩ Z a w X/\gf (dH (zAd2 i1 m1 m4 m5)) w0 X0 w X/\M0 DI AH w X/\bH DI AH (mG [4,9,901] ⟨[(3,Pt 4 0),(8,Pt 9 0)],[(4,(147,[Pt 901 0])),(9,(164,[V (.int .u32 bv.done),I bv.state])),(901,(161,[I dB,I il,I aW,Sl gZ fx gY,Sl ig dX ie,Sl gK fW gJ,V (.map (some r5))]))]⟩) Z w/\OME aQ tI false w X 2005 r5 f8 bv 0 b158/\RS ay w X gZ fx gY/\RS ao w X ig dX ie/\OS dL 4 w X 2004 gK fW gJ) #[true,true,true,true,true,true,true,true,true,false] 1 ?_ (fun H=>?_)
   ·rintro a H0 ⟨Hj,b158,hS,hO,hD,hH,h157,h159,h160,h161⟩
    refine only 9 kr (by rfl) (Lg aQ tI false (v:=I (wR (((aF f8 bv).getD 0)+1))) (u:=wR (((aF f8 bv).getD 0)+1)) bv hS kr kr kr kr gd kr h157 (fun _=>rfl) ?_)
    intro a F4 hE h175 hS
    clear h157
    replace hO:=hO.m2 hE
    replace hD:=hD.ev hE rfl
    replace h159:=h159.m1 hE
    replace h160:=h160.m1 hE
    replace h161:=h161.m2 hE
    refine cW (bH.of hS (bks:=[4,9,901]) kr hD) ?_
    intro hH
    refine aS kr ?_
    replace hS:=hS.sl ⟨[],[(901,(161,[I dB,I il,I aW,Sl gZ fx gY,Sl ig dX ie,Sl gK fW gJ,V (.map (some r5))]))]⟩
    exact ⟨Z,_,fW,dk f8 bv (wR (((aF f8 bv).getD 0)+1)),gK,gJ,hm,hS.sl _,hO,hP,h159,h160,h161,h175⟩
   clear hm
   refine rh (is:=[5,7]) kr (by decide) ?_
   intro i hi
   rcases z1 hi with rfl | rfl
   ·refine jV (by rfl) (BQ aQ tI false (zv:=.int .i64 0) (z:=0) bv hS kr kr kr kr Tryz.underlying159 gd kr rfl h136 ?_)
    intro v162 a hv hS
    replace hv:tI.R _ _ [v162] _:=hv
    cases hv
    refine cW (bH.of hS (bks:=[4,9,901]) kr hD) ?_
    intro hH
    refine tke T [6] [4,9,901] hS hH #[true,true,true,true,true,true,true,false,false,false] 3 [64] [(65,I (wR (((aF f8 bv).getD 0)+1)))] fun a hS=>?_
    refine only 7 kr (by rfl) (E8 aQ tI false (zv:=.int .i64 0) (z:=0) bv hS kr kr kr kr Tryz.underlying159 gd kr rfl kr h136 ?_)
    intro v163 b164 a DB hE h166 hv hS
    clear h136
    replace hv:tI.R _ _ [v163] _:=hv
    cases hv
    replace hO:=hO.m2 hE
    replace hD:=hD.ev hE rfl
    replace h126:=h126.m1 hE
    replace h130:=h130.m1 hE
    replace h134:=h134.m2 hE
    refine cW (bH.of hS (bks:=[4,9,901]) kr hD) ?_
    intro hH
    refine tke T [8] [4,9,901] hS hH #[true,true,true,true,true,true,true,true,true,false] 1 [63,66] [(67,I ((b164:Nat):Int))] fun a hS=>?_
    exact H _ _ ⟨_,b164,hS.sl _,hO,hD,hH,h166,h126,h130,h134⟩
   refine jV (by rfl) (E8 aQ tI false (zv:=.int .i64 0) (z:=0) bv hS kr kr kr kr Tryz.underlying159 gd kr rfl kr h136 ?_)
   intro v167 b168 a H4 hE h170 hv hS
   clear h136
   replace hv:tI.R _ _ [v167] _:=hv
   cases hv
   replace hO:=hO.m2 hE
   replace hD:=hD.ev hE rfl
   replace h126:=h126.m1 hE
   replace h130:=h130.m1 hE
   replace h134:=h134.m2 hE
   refine cW (bH.of hS (bks:=[4,9,901]) kr hD) ?_
   intro hH
   refine tke T [8] [4,9,901] hS hH #[true,true,true,true,true,false,false,true,true,false] 3 [66] [(67,I ((b168:Nat):Int))] fun a hS=>?_
   refine only 5 kr (by rfl) (Gq aQ tI false bv hS kr kr kr kr Tryz.underlying159 gd h170 ?_)
   intro v171 a hv hS
   replace hv:tI.R _ _ [v171] _:=hv
   cases hv
   refine cW (bH.of hS (bks:=[4,9,901]) kr hD) ?_
   intro hH
   refine tke T [6] [4,9,901] hS hH #[true,true,true,true,true,true,true,true,true,false] 1 [63,64] [(65,I (wR (((aF f8 bv).getD 0)+1)))] fun a hS=>?_
   exact H _ _ ⟨_,b168,hS.sl _,hO,hD,hH,h170,h126,h130,h134⟩
  replace hm:=hm.2 hb
  refine aH ?_
  exact ⟨Z,_,fW,f8,gK,gJ,hm,hS.sl _,hO,hP,h126,h130,h134,h136⟩
 rintro a HZ ⟨Z,ER,jw,md,nC,ny,hm,hS,hO,hP,h137,h138,h142,h144⟩
 unfold VC90_J2 at hm
 refine rPe T hS [] [(6,V (.slice none 0 0)),(7,B false)] fun a hS=>?_
 refine aY ?_
 exact gG T hS hO (fun c h=>bW kr h) (fun c h=>bX (l:=(zAd2 i1 m1 m4 m5)) h) (bR (zAd2 i1 m1 m4 m5)) rfl (r:=[.slice none 0 0,.bool false]) kr (fun X' hM hC=>⟨([],false,(⟨(⟨dB,il,aW,fx⟩:ae),dX,jw,md⟩:a9)),hm,none,0,gZ,gY,ig,ie,nC,ny,rfl,OS.nil _ _ _ _ _,h137.m0 hM,h138.m0 hM,(OS.out (f:=(bR (zAd2 i1 m1 m4 m5))) h142 hM hC kr),((hS.cell (id:=901) (t:=161) (cs:=[I dB,I il,I aW,Sl gZ fx gY,Sl ig dX ie,Sl nC jw ny,V (.map (some r5))]) kr).out (f:=(bR (zAd2 i1 m1 m4 m5))) hC kr kr (hP.at 0 rfl)),(h144.out (f:=(bR (zAd2 i1 m1 m4 m5))) hM hC kr kr)⟩)
theorem C90 (N:Nat) (GP:S100) (GO:S101) (GN:S102N N) (GM:S105) (v:∀ (state:Int) (so:List aa) (am:a9),r8 state so am->oN state so am < N+1->VC90 N state so am (fun r=>r=aK state so am)):S90N (N+1):=by
 intro w X state so am a1 c1 m1 a2 c2 a3 c3 a4 c4 m4 r5 m5  b1 i1 hp Mk h1 h2 h3 h4 h5 fw hA
 refine (W90 N GP GO GN GM w X state so am a1 c1 m1 a2 c2 a3 c3 a4 c4 m4 r5 m5  b1 i1 _ (v state so am hp Mk) h1 h2 h3 h4 h5 fw hA).mono ?_
 rintro _ _ _ _ ⟨r,rfl,h⟩
 exact h
theorem W89 (w0) (X0) (o_:ae) (l_:List ab) (a1) (c1) (a2) (c2) (cG) (dS) (jp) (Q:a9->Prop) (hm:VC89 o_ l_ Q) (h1:RS ay w0 X0 a1 o_.Rows c1) (h2:RS ao w0 X0 a2 l_ c2) :
  Ret Tryz.prog 89 #[.agg #[.int .i64 o_.ar,.int .i64 o_.aw,.int .i64 o_.aC,.slice a1 o_.Rows.length c1],.slice a2 l_.length c2] aJ w0 X0 (fun w X' v=>∃ r,Q r/\∃ cn cm iO iM o9 o8 Ig ut,v=.pointer (some ⟨ut,0,none⟩)/\RS ay w X' cn r.o.Rows cm/\RS ao w X' iO r.l iM/\OS dL 4 w X' cG o9 r.done o8/\Cell w X' ut jp 161 [.int .i64 r.o.ar,.int .i64 r.o.aw,.int .i64 r.o.aC,.slice cn r.o.Rows.length cm,.slice iO r.l.length iM,.slice o9 r.done.length o8,.map (some Ig)]/\OMS aQ tI false w X' dS Ig r.failed):=by
 unfold VC89 at hm
 replace hm:=hm (h1.sm kr)
 replace hm:=hm (h2.sm kr)
 refine enter Tryz.func89 rfl (vals:=[.agg #[.int .i64 o_.ar,.int .i64 o_.aw,.int .i64 o_.aC,.slice a1 o_.Rows.length c1],.slice a2 l_.length c2]) kr ?_
 intro Z a hS hO hM
 replace h1:=h1.m0 hM
 replace h2:=h2.m0 hM
 refine rM T hS ⟨[(1,Sl a2 l_ c2),(2,Pt 3 0)],[(3,(48,(cO o_ a1 c1)))]⟩ fun Z a wq AG hS hE hr=>?_
 replace hO:=hO.m2 hE
 replace h1:=h1.m1 hE
 replace h2:=h2.m1 hE
 clear hE hr
 refine dv [3] mixed hS ?_
 intro oE o3 hS hE hD hH
 replace hO:=hO.m2 hE
 replace h1:=h1.m1 hE
 replace h2:=h2.m1 hE
 refine tke T [0,1,2,3] [3] hS hH #[true,true,true,true,false,false,false,false,false] 5 [1,2] [(5,V (.agg #[.int .i64 o_.ar,.int .i64 o_.aw,.int .i64 o_.aC,.slice a1 o_.Rows.length c1])),(6,Sl a2 l_ c2),(8,I (lN l_))] fun a hS=>?_
 obtain ⟨G4,hm⟩:=hm
 refine yW (fun a w=>∃ X jJ jG dF,St Tryz.f89.ntmps ⟨[(11,V (.agg #[.int .i64 o_.ar,.int .i64 o_.aw,.int .i64 o_.aC,.slice a1 o_.Rows.length c1,.slice a2 l_.length c2,.slice jJ (List.replicate (lN l_).toNat (false:Bool)).length jG,.map (some dF)]))],[(3,(48,(cO o_ a1 c1)))]⟩ Z a w X/\Old w0 X0 w X/\M0 oE o3 w X/\bH oE o3 (mG [3] ⟨[(1,Sl a2 l_ c2),(2,Pt 3 0)],[(3,(48,(cO o_ a1 c1)))]⟩) Z w/\RS ay w X a1 o_.Rows c1/\RS ao w X a2 l_ c2/\OS dL 4 w X 1010 jJ (List.replicate (lN l_).toNat (false:Bool)) jG/\OMS aQ tI false w X 1011 dF ([]:List (b6 × Int))) #[true,true,true,true,true,true,true,false,false] 2 ?_ (fun H=>?_)
 ·rintro a H8 ⟨J7,jJ,jG,dF,hS,hO,hD,hH,h119,h120,h121,h125⟩
  clear G4
  replace hS:=hS.sl ⟨[(11,V (.agg #[.int .i64 o_.ar,.int .i64 o_.aw,.int .i64 o_.aC,.slice a1 o_.Rows.length c1,.slice a2 l_.length c2,.slice jJ (List.replicate (lN l_).toNat (false:Bool)).length jG,.map (some dF)]))],[(3,(48,(cO o_ a1 c1)))]⟩
  refine only 7 kr (by rfl) (JH (cs:=#[.int .i64 o_.ar,.int .i64 o_.aw,.int .i64 o_.aC,.slice a1 o_.Rows.length c1,.slice a2 l_.length c2,.slice jJ (List.replicate (lN l_).toNat (false:Bool)).length jG,.map (some dF)]) hS kr kr kr kr (sy':=⟨[(12,Pt 13 0),(11,V (.agg #[.int .i64 o_.ar,.int .i64 o_.aw,.int .i64 o_.aC,.slice a1 o_.Rows.length c1,.slice a2 l_.length c2,.slice jJ (List.replicate (lN l_).toNat (false:Bool)).length jG,.map (some dF)]))],[(13,(161,[I o_.ar,I o_.aw,I o_.aC,Sl a1 o_.Rows c1,Sl a2 l_ c2,Sl jJ (List.replicate (lN l_).toNat (false:Bool)) jG,V (.map (some dF))])),(3,(48,(cO o_ a1 c1)))]⟩) kr ?_)
  intro Z a zm ua hS hE Ff
  replace hO:=hO.m2 hE
  replace hD:=hD.ev hE rfl
  replace h119:=h119.m1 hE
  replace h120:=h120.m1 hE
  replace h121:=h121.m2 hE
  replace h125:=h125.m2 hE
  replace hS:=hS.sl ⟨[(11,V (.agg #[.int .i64 o_.ar,.int .i64 o_.aw,.int .i64 o_.aC,.slice a1 o_.Rows.length c1,.slice a2 l_.length c2,.slice jJ (List.replicate (lN l_).toNat (false:Bool)).length jG,.map (some dF)])),(12,Pt 13 0)],[(3,(48,(cO o_ a1 c1))),(13,(161,[I o_.ar,I o_.aw,I o_.aC,Sl a1 o_.Rows c1,Sl a2 l_ c2,Sl jJ (List.replicate (lN l_).toNat (false:Bool)) jG,V (.map (some dF))]))]⟩
  refine cW ((bH.of hS (bks:=[3]) kr hD).rho Ff kr) ?_
  intro hH
  refine E3 T Ff kr [8] [3] [4] hS kr kr kr hH (listed':=#[true,true,true,true,true,true,true,true,true]) (fuel:=0) (sy':=⟨[(4,Pt 13 0)],[(3,(48,(cO o_ a1 c1))),(13,(161,[I o_.ar,I o_.aw,I o_.aC,Sl a1 o_.Rows c1,Sl a2 l_ c2,Sl jJ (List.replicate (lN l_).toNat (false:Bool)) jG,V (.map (some dF))]))]⟩) kr (by rfl) ?_
  intro a hS
  refine aS kr ?_
  replace hS:=hS.sl ⟨[(4,Pt 13 0)],[(13,(161,[I o_.ar,I o_.aw,I o_.aC,Sl a1 o_.Rows c1,Sl a2 l_ c2,Sl jJ (List.replicate (lN l_).toNat (false:Bool)) jG,V (.map (some dF))]))]⟩
  refine aY ?_
  exact fin T hS hO (zAd0 jp dS cG) rfl (r:=[.pointer (some ⟨Z 13,0,none⟩)]) kr (fun X' hM hC=>⟨(⟨o_,l_,List.replicate (lN l_).toNat (false:Bool),([]:List (b6 × Int))⟩:a9),hm,a1,c1,a2,c2,jJ,jG,dF,(Z 13),rfl,h119.m0 hM,h120.m0 hM,(OS.out (f:=(zAd0 jp dS cG)) h121 hM hC kr),((hS.cell (id:=13) (t:=161) (cs:=[I o_.ar,I o_.aw,I o_.aC,Sl a1 o_.Rows c1,Sl a2 l_ c2,Sl jJ (List.replicate (lN l_).toNat (false:Bool)) jG,V (.map (some dF))]) kr).out (f:=(zAd0 jp dS cG)) hC kr kr rfl),(h125.out (f:=(zAd0 jp dS cG)) hM hC kr kr)⟩)
 clear hm
 refine rh (is:=[4,5]) kr (by decide) ?_
 intro i hi
 rcases z1 hi with rfl | rfl
 ·have hq:=G4
  refine jV (by rfl) (make (E:=4) (kl:=.i64) (kc:=.i64) (col:=1010) (T:=dL) T false hS kr kr kr kr kr kr hq.1 hq.2.1 (by have:=hq.2.2; have e_:((dL.bytes:Nat):Int)=1:=rfl; rw [e_]; omega) (by have:=hq.2.2; omega) (fun _ _=>rfl) ?_)
  intro b126 a sS AJ hE h129 hN hS
  clear hq hN
  replace hO:=hO.m2 hE
  replace hD:=hD.ev hE rfl
  replace h1:=h1.m1 hE
  replace h2:=h2.m1 hE
  replace hS:=hS.conv (t:=9) (y:=.slice (some ⟨b126,0,none⟩) (List.replicate (lN l_).toNat (false:Bool)).length (lN l_).toNat) kr (by rw [List.length_replicate])
  refine cW (bH.of hS (bks:=[3]) kr hD) ?_
  intro hH
  refine only 5 kr (by rfl) (BR aQ tI false 1011 hS kr kr ?_)
  intro tp a p4 pH hE h133 hS
  replace hO:=hO.m2 hE
  replace hD:=hD.ev hE rfl
  replace h1:=h1.m1 hE
  replace h2:=h2.m1 hE
  replace h129:=h129.m2 hE
  refine cW (bH.of hS (bks:=[3]) kr hD) ?_
  intro hH
  refine tke T [6] [3] hS hH #[true,true,true,true,true,true,true,false,false] 2 [5,6,8,9,10] [(11,V (.agg #[.int .i64 o_.ar,.int .i64 o_.aw,.int .i64 o_.aC,.slice a1 o_.Rows.length c1,.slice a2 l_.length c2,.slice (some ⟨b126,0,none⟩) (List.replicate (lN l_).toNat (false:Bool)).length (lN l_).toNat,.map (some tp)]))] fun a hS=>?_
  exact H _ _ ⟨_,(some ⟨b126,0,none⟩),(lN l_).toNat,tp,hS.sl _,hO,hD,hH,h1,h2,h129,h133⟩
 refine jV (by rfl) (BR aQ tI false 1011 hS kr kr ?_)
 intro Io a Ba Hq hE h137 hS
 replace hO:=hO.m2 hE
 replace hD:=hD.ev hE rfl
 replace h1:=h1.m1 hE
 replace h2:=h2.m1 hE
 refine cW (bH.of hS (bks:=[3]) kr hD) ?_
 intro hH
 have hq:=G4
 refine only 4 kr (by rfl) (make (E:=4) (kl:=.i64) (kc:=.i64) (col:=1010) (T:=dL) T false hS kr kr kr kr kr kr hq.1 hq.2.1 (by have:=hq.2.2; have e_:((dL.bytes:Nat):Int)=1:=rfl; rw [e_]; omega) (by have:=hq.2.2; omega) (fun _ _=>rfl) ?_)
 intro b138 a rt uc hE h141 hN hS
 clear hq hN
 replace hO:=hO.m2 hE
 replace hD:=hD.ev hE rfl
 replace h1:=h1.m1 hE
 replace h2:=h2.m1 hE
 replace h137:=h137.m2 hE
 replace hS:=hS.conv (t:=9) (y:=.slice (some ⟨b138,0,none⟩) (List.replicate (lN l_).toNat (false:Bool)).length (lN l_).toNat) kr (by rw [List.length_replicate])
 refine cW (bH.of hS (bks:=[3]) kr hD) ?_
 intro hH
 refine tke T [6] [3] hS hH #[true,true,true,true,true,true,true,false,false] 2 [5,6,8,10,9] [(11,V (.agg #[.int .i64 o_.ar,.int .i64 o_.aw,.int .i64 o_.aC,.slice a1 o_.Rows.length c1,.slice a2 l_.length c2,.slice (some ⟨b138,0,none⟩) (List.replicate (lN l_).toNat (false:Bool)).length (lN l_).toNat,.map (some Io)]))] fun a hS=>?_
 exact H _ _ ⟨_,(some ⟨b138,0,none⟩),(lN l_).toNat,Io,hS.sl _,hO,hD,hH,h1,h2,h141,h137⟩
theorem C89 (v:∀ (o_:ae) (l_:List ab),ym o_ l_->VC89 o_ l_ (fun r=>r=bE o_ l_)):S89:=by
 intro w X o_ l_ a1 c1 a2 c2 cG dS jp  hp h1 h2
 refine (W89 w X o_ l_ a1 c1 a2 c2 cG dS jp  _ (v o_ l_ hp) h1 h2).mono ?_
 rintro _ _ _ _ ⟨r,rfl,h⟩
 exact h
theorem W70 (L6:S20) (Lr:S88) (Lq:S89) (Gt:S90) (w0) (X0) (o_:ae) (l_:List ab) (a1) (c1) (a2) (c2) (cG) (Q:(List aa) × Int->Prop) (hm:VC70 o_ l_ Q) (h1:RS ay w0 X0 a1 o_.Rows c1) (h2:RS ao w0 X0 a2 l_ c2) :
  Ret Tryz.prog 70 #[.agg #[.int .i64 o_.ar,.int .i64 o_.aw,.int .i64 o_.aC,.slice a1 o_.Rows.length c1],.slice a2 l_.length c2] aJ w0 X0 (fun w X' v=>∃ r,Q r/\∃ cn cm,v=.tuple #[.slice cn r.1.length cm,.int .i64 r.2]/\OS aq 56 w X' cG cn r.1 cm):=by
 unfold VC70 at hm
 replace hm:=hm (h1.sm kr)
 replace hm:=hm (h2.sm kr)
 refine enter Tryz.func70 rfl (vals:=[.agg #[.int .i64 o_.ar,.int .i64 o_.aw,.int .i64 o_.aC,.slice a1 o_.Rows.length c1],.slice a2 l_.length c2]) kr ?_
 intro Z a hS hO hM
 replace h1:=h1.m0 hM
 replace h2:=h2.m0 hM
 refine rM T hS ⟨[(1,Sl a2 l_ c2),(2,Pt 3 0)],[(3,(48,(cO o_ a1 c1)))]⟩ fun Z a rr t9 hS hE hr=>?_
 replace hO:=hO.m2 hE
 replace h1:=h1.m1 hE
 replace h2:=h2.m1 hE
 clear hE hr
 refine bc ?_
 refine bj ?_
 refine oPe T hS 2 [] [(9,V (.agg #[.int .i64 o_.ar,.int .i64 o_.aw,.int .i64 o_.aC,.slice a1 o_.Rows.length c1])),(10,Sl a2 l_ c2)] fun a hS=>?_
 obtain ⟨hq,hm⟩:=hm
 refine op1 (call hS kr kr hb88 kr (fun _ _=>rfl) (Lr _ _ o_ l_ 20 a1 c1 a2 c2 hq h1 h2) ?_)
 intro v101 a eZ fa hE hp hS
 replace hO:=hO.m2 hE
 replace h1:=h1.m1 hE
 replace h2:=h2.m1 hE
 obtain ⟨ap,hr⟩:∃ r,cy o_ l_ 20=r:=⟨_,rfl⟩
 replace hm:=hm ap hr
 rw [hr] at hp
 clear hr
 subst hp
 refine ePe T hS [9,10,11] [(6,I ap)] fun a hS=>?_
 refine rPe T hS [] [(13,B (ap != 0))] fun a hS=>?_
 refine aG hS (b:=(ap != 0)) kr (fun hb=>?_) fun hb=>?_
 ·replace hm:=hm.1 hb
  refine rP T hS ⟨[(4,V (.slice none 0 0)),(5,I ap)],[]⟩ fun a hS=>?_
  refine aY ?_
  exact fin T hS hO (fun c=>c) rfl (r:=[.slice none 0 0,.int .i64 ap]) kr (fun X' hM hC=>⟨([],ap),hm,none,0,rfl,OS.nil _ _ _ _ _⟩)
 replace hm:=hm.2 hb
 refine aH ?_
 refine dv [3] mixed hS ?_
 intro nG ms hS hE hD hH
 replace hO:=hO.m2 hE
 replace h1:=h1.m1 hE
 replace h2:=h2.m1 hE
 refine tke T [0,1,3,4] [3] hS hH #[true,true,false,true,true,false,false,false,false,false,false] 7 [] [(16,V (.agg #[.int .i64 o_.ar,.int .i64 o_.aw,.int .i64 o_.aC,.slice a1 o_.Rows.length c1])),(17,Sl a2 l_ c2),(20,I o_.aC)] fun a hS=>?_
 obtain ⟨hq,hm⟩:=hm
 refine only 2 kr (by rfl) (call hS kr kr hb89 kr (fun _ _=>rfl) (Lq _ _ o_ l_ a1 c1 a2 c2 4119 2121 702 hq h1 h2) ?_)
 intro v107 a Gb xG hE hp hS
 replace hO:=hO.m2 hE
 replace hD:=hD.ev hE rfl
 replace h1:=h1.m1 hE
 replace h2:=h2.m1 hE
 obtain ⟨iG,iD,je,i9,lw,lm,d8,b122,hp,h113,h116,h119,qQ,h120⟩:=hp
 obtain ⟨fp,hr⟩:∃ r,bE o_ l_=r:=⟨_,rfl⟩
 replace hm:=hm fp hr
 rw [hr] at h113 h116 h119 qQ h120
 clear hr
 subst hp
 replace hm:=hm (h113.sm kr)
 replace hm:=hm (h116.sm kr)
 replace hm:=hm (h119.sm kr)
 replace hS:=hS.oK (id:=702) (t:=161) (cs:=[I fp.o.ar,I fp.o.aw,I fp.o.aC,Sl iG fp.o.Rows iD,Sl je fp.l i9,Sl lw fp.done lm,V (.map (some d8))]) kr kr qQ rfl
 replace hS:=hS.CF (t:=18) (x:=V (.pointer (some ⟨b122,0,none⟩))) (y:=Pt 702 0) kr rfl
 have yC:∀ id,id≠702->(upd Z 702 b122) id=Z id:=fun id h=>wv _ h
 generalize (upd Z 702 b122)=Z at hS yC
 clear qQ
 replace hS:=hS.sl ⟨[(1,Sl a2 l_ c2),(2,Pt 3 0),(16,V (.agg #[.int .i64 o_.ar,.int .i64 o_.aw,.int .i64 o_.aC,.slice a1 o_.Rows.length c1])),(17,Sl a2 l_ c2),(20,I o_.aC),(18,Pt 702 0)],[(3,(48,(cO o_ a1 c1))),(702,(161,[I fp.o.ar,I fp.o.aw,I fp.o.aC,Sl iG fp.o.Rows iD,Sl je fp.l i9,Sl lw fp.done lm,V (.map (some d8))]))]⟩
 refine cW ((bH.of hS (bks:=[3]) kr hD).rho yC kr) ?_
 intro hH
 obtain ⟨hq,hm⟩:=hm
 refine only 5 kr (by rfl) (l5 hS kr kr hb90 kr (Gt _ _ o_.aC [] fp none 0 1005 iG iD je i9 lw lm 4119 d8 2121 (Z 702) 702 hq (OS.nil _ _ _ _ _) h113 h116 h119 h120 (hS.cell (id:=702) (t:=161) (cs:=[I fp.o.ar,I fp.o.aw,I fp.o.aC,Sl iG fp.o.Rows iD,Sl je fp.l i9,Sl lw fp.done lm,V (.map (some d8))]) kr) ⟨by decide,by decide⟩) ?_)
 intro v125 a rx oZ hE hp hS
 clear h120
 clear h119
 replace hO:=hO.m2 hE
 replace hD:=hD.ev hE rfl
 replace h1:=h1.m1 hE
 replace h2:=h2.m1 hE
 replace h113:=h113.m1 hE
 replace h116:=h116.m1 hE
 obtain ⟨ko,kg,gK,gJ,Dc,CU,v5,vR,hp,h131,h134,h137,h140,Cp,h141⟩:=hp
 obtain ⟨bI,hr⟩:∃ r,aK o_.aC [] fp=r:=⟨_,rfl⟩
 replace hm:=hm bI hr
 rw [hr] at hp h131 h134 h137 h140 Cp h141
 clear hr
 subst hp
 replace hm:=hm (h131.sm kr)
 replace hm:=hm (h134.sm kr)
 replace hm:=hm (h137.sm kr)
 replace hm:=hm (h140.sm kr)
 replace hS:=hS.cD (id:=702) (t:=161) (cs:=[I bI.2.2.o.ar,I bI.2.2.o.aw,I bI.2.2.o.aC,Sl gK bI.2.2.o.Rows gJ,Sl Dc bI.2.2.l CU,Sl v5 bI.2.2.done vR,V (.map (some d8))]) kr Cp
 clear Cp
 replace hS:=hS.sl ⟨[(1,Sl a2 l_ c2),(2,Pt 3 0),(16,V (.agg #[.int .i64 o_.ar,.int .i64 o_.aw,.int .i64 o_.aC,.slice a1 o_.Rows.length c1])),(17,Sl a2 l_ c2),(20,I o_.aC),(18,Pt 702 0),(21,V (.tuple #[.slice ko bI.1.length kg,.bool bI.2.1]))],[(3,(48,(cO o_ a1 c1))),(702,(161,[I bI.2.2.o.ar,I bI.2.2.o.aw,I bI.2.2.o.aC,Sl gK bI.2.2.o.Rows gJ,Sl Dc bI.2.2.l CU,Sl v5 bI.2.2.done vR,V (.map (some d8))]))]⟩
 refine cW ((bH.of hS (bks:=[3]) kr hD).rho yC kr) ?_
 intro hH
 refine E3 T yC kr [6,7,8,9,10] [3] [1,2,7,8] hS kr kr kr hH (listed':=#[true,true,true,true,true,true,true,true,true,true,true]) (fuel:=0) (sy':=⟨[(1,Sl a2 l_ c2),(2,Pt 3 0),(7,Sl ko bI.1 kg),(8,B bI.2.1)],[(3,(48,(cO o_ a1 c1))),(702,(161,[I bI.2.2.o.ar,I bI.2.2.o.aw,I bI.2.2.o.aC,Sl gK bI.2.2.o.Rows gJ,Sl Dc bI.2.2.l CU,Sl v5 bI.2.2.done vR,V (.map (some d8))]))]⟩) kr (by rfl) ?_
 intro a hS
 refine aS kr ?_
 replace hS:=hS.sl ⟨[(1,Sl a2 l_ c2),(2,Pt 3 0),(7,Sl ko bI.1 kg),(8,B bI.2.1)],[(3,(48,(cO o_ a1 c1)))]⟩
 refine bc ?_
 refine bT (fun a w=>∃ (Z:Nat->Nat) (X:Nat->Nat) (md:List aa) (dZ:Bool) (oy:Option Addr) (om:Nat),VC70_J1 Q md dZ/\St Tryz.f70.ntmps ⟨[(7,Sl oy md om),(32,B dZ)],[]⟩ Z a w X/\Old w0 X0 w X/\OS aq 56 w X 1005 oy md om) ?_ ?_
 ·refine region ?_
  refine oPe T hS 3 [8] [(26,B (!bI.2.1))] fun a hS=>?_
  rcases bft (!bI.2.1) with hb | hb
  ·replace hS:=hS.lit (t:=26) kr hb
   replace hm:=hm.1 hb
   refine eP T hS ⟨[(7,Sl ko bI.1 kg),(32,B true)],[]⟩ fun a hS=>?_
   exact ⟨Z,_,bI.1,true,ko,kg,hm,hS.sl _,hO,h131⟩
  replace hS:=hS.lit (t:=26) kr hb
  replace hm:=hm.2 hb
  refine oP T hS 3 ⟨[(7,Sl ko bI.1 kg),(26,B false),(27,V (.agg #[.int .i64 o_.ar,.int .i64 o_.aw,.int .i64 o_.aC,.slice a1 o_.Rows.length c1])),(28,Sl a2 l_ c2),(29,Sl ko bI.1 kg)],[]⟩ fun a hS=>?_
  obtain ⟨hq,hm⟩:=hm
  refine op1 (call hS kr kr hb20 kr (fun _ _=>rfl) (Ret.m8 (L6 _ (eD 1005 _) o_ l_ bI.1 a1 c1 a2 c2 ko kg hq (h1.m0 (M0.eD 1005)) (h2.m0 (M0.eD 1005)) h131.eD)) ?_)
  intro v148 a DH EV hE hp hS
  replace hO:=hO.m2 hE
  replace h1:=h1.m1 hE
  replace h2:=h2.m1 hE
  replace h131:=h131.m2 hE
  obtain ⟨_,hp⟩:=hp
  obtain ⟨lc,hr⟩:∃ r,c9 o_ l_ bI.1=r:=⟨_,rfl⟩
  replace hm:=hm lc hr
  rw [hr] at hp
  clear hr
  subst hp
  refine ePe T hS [26,27,28,29,30] [(32,B (!lc))] fun a hS=>?_
  exact ⟨Z,_,bI.1,(!lc),ko,kg,hm,hS.sl _,hO,h131⟩
 rintro a zj ⟨Z,wa,md,dZ,oy,om,hm,hS,hO,h146⟩
 unfold VC70_J1 at hm
 refine aG hS (b:=dZ) kr (fun hb=>?_) fun hb=>?_
 ·replace hm:=hm.1 hb
  refine rPe T hS [7,32] [(4,V (.slice none 0 0)),(5,I 41)] fun a hS=>?_
  refine aY ?_
  exact fin T hS hO (fun c=>c) rfl (r:=[.slice none 0 0,.int .i64 41]) kr (fun X' hM hC=>⟨([],41),hm,none,0,rfl,OS.nil _ _ _ _ _⟩)
 replace hm:=hm.2 hb
 refine aH ?_
 refine rPe T hS [7,32] [(4,Sl oy md om),(5,I 0)] fun a hS=>?_
 refine aY ?_
 exact fin T hS hO (zAd1 cG) rfl (r:=[.slice oy md.length om,.int .i64 0]) kr (fun X' hM hC=>⟨(md,0),hm,oy,om,rfl,(OS.out (f:=(zAd1 cG)) h146 hM hC kr)⟩)
theorem C70 (L6:S20) (Lr:S88) (Lq:S89) (Gt:S90) (v:∀ (o_:ae) (l_:List ab),xX o_ l_->VC70 o_ l_ (fun r=>r=bk o_ l_)):S70:=by
 intro w X o_ l_ a1 c1 a2 c2 cG  hp h1 h2
 refine (W70 L6 Lr Lq Gt w X o_ l_ a1 c1 a2 c2 cG  _ (v o_ l_ hp) h1 h2).mono ?_
 rintro _ _ _ _ ⟨r,rfl,h⟩
 exact h
theorem W84 (w0) (X0) (x_:au) (Q:Int->Prop) (hm:VC84 x_ Q) :
  Ret Tryz.prog 84 #[.agg #[.int .i64 x_.bh,.int .i64 x_.aj,.int .i64 x_.N]] aJ w0 X0 (fun w X' v=>∃ r,Q r/\v=.int .i64 r):=by
 unfold VC84 at hm
 refine enter Tryz.func84 rfl (vals:=[.agg #[.int .i64 x_.bh,.int .i64 x_.aj,.int .i64 x_.N]]) kr ?_
 intro Z a hS hO hM
 refine rM T hS ⟨[(1,Pt 2 0)],[(2,(61,(cE x_)))]⟩ fun Z a oE o3 hS hE hr=>?_
 replace hO:=hO.m2 hE
 clear hE hr
 refine bc ?_
 refine aL ?_
 refine rPe T hS [] [(3,B ((x_.bh != 1) && (x_.bh != 2)))] (sp:=[7]) fun a hS=>?_
 refine aG hS (b:=((x_.bh != 1) && (x_.bh != 2))) kr (fun hb=>?_) fun hb=>?_
 ·replace hm:=hm.1 hb
  refine rP T hS ⟨[(2,I 8)],[]⟩ fun a hS=>?_
  refine aY ?_
  exact fin T hS hO (fun c=>c) rfl (r:=[.int .i64 8]) kr (fun X' hM hC=>⟨8,hm,rfl⟩)
 replace hm:=hm.2 hb
 refine rPe T hS [3] [(12,B ((decide (x_.aj < 1)) || (decide (x_.aj > 1000))))] (sp:=[16]) fun a hS=>?_
 refine aG hS (b:=((decide (x_.aj < 1)) || (decide (x_.aj > 1000)))) kr (fun hb=>?_) fun hb=>?_
 ·replace hm:=hm.1 hb
  refine rP T hS ⟨[(2,I 2)],[]⟩ fun a hS=>?_
  refine aY ?_
  exact fin T hS hO (fun c=>c) rfl (r:=[.int .i64 2]) kr (fun X' hM hC=>⟨2,hm,rfl⟩)
 replace hm:=hm.2 hb
 refine rPe T hS [12] [(21,B ((x_.bh == 1) && ((decide (x_.N < 0)) || (decide (x_.N≥64)))))] (sp:=[25,29]) fun a hS=>?_
 refine aG hS (b:=((x_.bh == 1) && ((decide (x_.N < 0)) || (decide (x_.N≥64))))) kr (fun hb=>?_) fun hb=>?_
 ·replace hm:=hm.1 hb
  refine rP T hS ⟨[(2,I 31)],[]⟩ fun a hS=>?_
  refine aY ?_
  exact fin T hS hO (fun c=>c) rfl (r:=[.int .i64 31]) kr (fun X' hM hC=>⟨31,hm,rfl⟩)
 replace hm:=hm.2 hb
 refine rP T hS ⟨[(35,B ((x_.bh == 2) && ((decide (x_.N < 0)) || (decide (x_.N > 1000000)))))],[]⟩ (sp:=[39,43]) fun a hS=>?_
 refine aG hS (b:=((x_.bh == 2) && ((decide (x_.N < 0)) || (decide (x_.N > 1000000))))) kr (fun hb=>?_) fun hb=>?_
 ·replace hm:=hm.1 hb
  refine rPe T hS [35] [(2,I 7)] fun a hS=>?_
  refine aY ?_
  exact fin T hS hO (fun c=>c) rfl (r:=[.int .i64 7]) kr (fun X' hM hC=>⟨7,hm,rfl⟩)
 replace hm:=hm.2 hb
 refine aH ?_
 refine rPe T hS [35] [(2,I 0)] fun a hS=>?_
 refine aY ?_
 exact fin T hS hO (fun c=>c) rfl (r:=[.int .i64 0]) kr (fun X' hM hC=>⟨0,hm,rfl⟩)
theorem C84 (v:∀ (x_:au),VC84 x_ (fun r=>r=gh x_)):S84:=by
 intro w X x_    
 refine (W84 w X x_    _ (v x_)).mono ?_
 rintro _ _ _ _ ⟨r,rfl,h⟩
 exact h
theorem W55 (Lv:S84) (w0) (X0) (l_:List au) (a1) (c1) (Q:Int × Int->Prop) (hm:VC55 l_ Q) (h1:RS aM w0 X0 a1 l_ c1) :
  Ret Tryz.prog 55 #[.slice a1 l_.length c1] aJ w0 X0 (fun w X' v=>∃ r,Q r/\v=.tuple #[.int .i64 r.1,.int .i64 r.2]):=by
 unfold VC55 at hm
 replace hm:=hm (h1.sm kr)
 refine enter Tryz.func55 rfl (vals:=[.slice a1 l_.length c1]) kr ?_
 intro Z a hS hO hM
 replace h1:=h1.m0 hM
 refine rPe T hS [] [] fun a hS=>?_
 refine bc ?_
 refine rPe T hS [] [(10,B (decide ((lN l_) > 10000)))] fun a hS=>?_
 refine aG hS (b:=decide ((lN l_) > 10000)) kr (fun hb=>?_) fun hb=>?_
 ·replace hm:=hm.1 hb
  refine rPe T hS [0,10] [(2,I 0),(3,I 3)] fun a hS=>?_
  refine aY ?_
  exact fin T hS hO (fun c=>c) rfl (r:=[.int .i64 0,.int .i64 3]) kr (fun X' hM hC=>⟨(0,3),hm,rfl⟩)
 replace hm:=hm.2 hb
 refine aH ?_
 refine bj ?_
 refine op1 (pc kI tI false 1012 hS kr kr ?_)
 intro d4 a eZ fa hE h104 hS
 replace hO:=hO.m2 hE
 replace h1:=h1.m1 hE
 refine ePe T hS [10,11] [(4,V (.map (some d4)))] fun a hS=>?_
 refine bT (fun a w=>∃ Z X,VC55_J1 l_ Q/\St Tryz.f55.ntmps ⟨[(0,Sl a1 l_ c1)],[]⟩ Z a w X/\Old w0 X0 w X/\RS aM w X a1 l_ c1) ?_ ?_
 ·refine rPe T hS [] [(12,Sl a1 l_ c1),(13,I (lN l_)),(14,I 0)] fun a hS=>?_
  refine aL ?_
  obtain ⟨I1,μ1,co,hm⟩:=hm
  refine cl (σ:=(List (Int × Int)) × Int) (fun s a w=>∃ Z X,I1 s.1 s.2/\St Tryz.f55.ntmps ⟨[(0,Sl a1 l_ c1),(4,V (.map (some d4))),(12,Sl a1 l_ c1),(13,I (lN l_)),(14,I s.2)],[]⟩ Z a w X/\Old w0 X0 w X/\RS aM w X a1 l_ c1/\OM kI tI false w X 1012 d4 s.1/\RS aM w X a1 l_ c1) (fun s=>μ1 s.1 s.2) (⟨([]:List (Int × Int)),0⟩) ?_ ?_
  ·exact ⟨Z,_,co,hS.sl _,hO,h1,h104,h1⟩
  rintro ⟨d3,bJ⟩ a K3 ⟨Z,ud,hI,hS,hO,h106,h108,h109⟩
  replace hm:=hm d3 bJ hI
  clear hI co
  refine rPe T hS [] [(15,B (decide (bJ < (lN l_))))] fun a hS=>?_
  refine bc ?_
  refine aG hS (b:=decide (bJ < (lN l_))) kr (fun hb=>?_) fun hb=>?_
  ·replace hm:=hm.1 hb
   refine aH (bc ?_)
   refine aL ?_
   refine bj ?_
   refine oPe T hS 1 [15] [(16,I bJ)] fun a hS=>?_
   obtain ⟨hq,hm⟩:=hm
   refine op1 (index (e:=61) (k:=.i64) T hS kr kr kr kr h109 kr kr hq.1 hq.2 ?_)
   intro Dk a h112 hS
   refine op1 (eC T hS kr kr kr h112 kr kr ?_)
   intro v113 a hv hS
   subst hv
   refine eM T hS ⟨[(0,Sl a1 l_ c1),(4,V (.map (some d4))),(5,I bJ),(6,Pt 7 0),(12,Sl a1 l_ c1),(13,I (lN l_)),(14,I bJ)],[(7,(61,(cE (gi l_ bJ))))]⟩ fun Z a up AK hS hE hr=>?_
   replace hO:=hO.m2 hE
   replace h106:=h106.m1 hE
   replace h108:=h108.m2 hE
   replace h109:=h109.m1 hE
   clear hE hr
   refine bc ?_
   refine bj ?_
   refine oPe T hS 1 [] [(19,V (.agg #[.int .i64 ((gi l_ bJ).bh),.int .i64 ((gi l_ bJ).aj),.int .i64 ((gi l_ bJ).N)]))] fun a hS=>?_
   refine op1 (call hS kr kr hb84 kr (fun _ _=>rfl) (Lv _ _ (gi l_ bJ)) ?_)
   intro v114 a pt ue hE hp hS
   replace hO:=hO.m2 hE
   replace h106:=h106.m1 hE
   replace h108:=h108.m2 hE
   replace h109:=h109.m1 hE
   obtain ⟨d7,hr⟩:∃ r,gh (gi l_ bJ)=r:=⟨_,rfl⟩
   replace hm:=hm d7 hr
   rw [hr] at hp
   clear hr
   subst hp
   refine ePe T hS [19,20] [(7,I d7)] fun a hS=>?_
   refine rPe T hS [] [(22,B (d7 != 0))] fun a hS=>?_
   refine aG hS (b:=(d7 != 0)) kr (fun hb=>?_) fun hb=>?_
   ·replace hm:=hm.1 hb
    refine rP T hS ⟨[(2,I bJ),(3,I d7)],[]⟩ fun a hS=>?_
    refine aY ?_
    exact fin T hS hO (fun c=>c) rfl (r:=[.int .i64 bJ,.int .i64 d7]) kr (fun X' hM hC=>⟨(bJ,d7),hm,rfl⟩)
   replace hm:=hm.2 hb
   refine aH (bc ?_)
   refine bj ?_
   refine oPe T hS 3 [7,22] [(25,V (.map (some d4))),(27,I ((gi l_ bJ).aj))] fun a hS=>?_
   refine op1 (j6 kI tI false (zv:=.int .i64 0) (z:=0) ((gi l_ bJ).aj) hS kr kr kr kr Tryz.underlying113 Tryz.underlying3 kr rfl h108 ?_)
   intro v118 a hv hS
   replace hv:tI.R _ _ [v118] _:=hv
   cases hv
   refine ePe T hS [25,27,28] [(33,B ((((aF d3 ((gi l_ bJ).aj)).getD 0) == 1) == (((gi l_ bJ).bh) == 1)))] fun a hS=>?_
   refine aG hS (b:=((((aF d3 ((gi l_ bJ).aj)).getD 0) == 1) == (((gi l_ bJ).bh) == 1))) kr (fun hb=>?_) fun hb=>?_
   ·replace hm:=hm.1 hb
    refine rP T hS ⟨[(2,I bJ),(3,I 33)],[]⟩ fun a hS=>?_
    refine aY ?_
    exact fin T hS hO (fun c=>c) rfl (r:=[.int .i64 bJ,.int .i64 33]) kr (fun X' hM hC=>⟨(bJ,33),hm,rfl⟩)
   replace hm:=hm.2 hb
   refine aH ?_
   refine region ?_
   refine oP T hS 5 ⟨[(0,Sl a1 l_ c1),(4,V (.map (some d4))),(12,Sl a1 l_ c1),(13,I (lN l_)),(14,I bJ),(35,V (.map (some d4))),(37,I ((gi l_ bJ).aj)),(39,I ((gi l_ bJ).bh))],[]⟩ fun a hS=>?_
   refine op1 (tD kI tI false (v:=I ((gi l_ bJ).bh)) (u:=(gi l_ bJ).bh) ((gi l_ bJ).aj) hS kr kr kr kr Tryz.underlying113 Tryz.underlying3 kr h108 rfl ?_)
   intro a uq hE h120 hS
   clear h108
   replace hO:=hO.m2 hE
   replace h106:=h106.m1 hE
   replace h109:=h109.m1 hE
   refine gX ?_
   refine region (ePe T hS [] [(14,I (wR (bJ+1)))] fun a hS=>?_)
   exact ⟨⟨dk d3 ((gi l_ bJ).aj) ((gi l_ bJ).bh),wR (bJ+1)⟩,⟨Z,_,hm.1,hS.sl _,hO,h106,h120,h109⟩,hm.2⟩
  replace hm:=hm.2 hb
  refine cb (by rfl) ?_
  exact ⟨Z,_,hm,hS.sl _,hO,h106⟩
 rintro a rx ⟨Z,Rg,hm,hS,hO,h105⟩
 unfold VC55_J1 at hm
 refine rPe T hS [0] [(2,I (lN l_)),(3,I 0)] fun a hS=>?_
 refine aY ?_
 exact fin T hS hO (fun c=>c) rfl (r:=[.int .i64 (lN l_),.int .i64 0]) kr (fun X' hM hC=>⟨((lN l_),0),hm,rfl⟩)
theorem C55 (Lv:S84) (v:∀ (l_:List au),VC55 l_ (fun r=>r=bA l_)):S55:=by
 intro w X l_ a1 c1   h1
 refine (W55 Lv w X l_ a1 c1   _ (v l_) h1).mono ?_
 rintro _ _ _ _ ⟨r,rfl,h⟩
 exact h
theorem W94 (w0) (X0) (l_:List au) (process:Int) (a1) (c1) (Q:Int->Prop) (hm:VC94 l_ process Q) (h1:RS aM w0 X0 a1 l_ c1) :
  Ret Tryz.prog 94 #[.slice a1 l_.length c1,.int .i64 process] aJ w0 X0 (fun w X' v=>∃ r,Q r/\v=.int .i64 r):=by
 unfold VC94 at hm
 replace hm:=hm (h1.sm kr)
 refine enter Tryz.func94 rfl (vals:=[.slice a1 l_.length c1,.int .i64 process]) kr ?_
 intro Z a hS hO hM
 replace h1:=h1.m0 hM
 refine rPe T hS [] [] fun a hS=>?_
 refine rPe T hS [] [(5,I (-1))] fun a hS=>?_
 refine bT (fun a w=>∃ (Z:Nat->Nat) (X:Nat->Nat) (bD:Int),VC94_J1 Q bD/\St Tryz.f94.ntmps ⟨[(5,I bD)],[]⟩ Z a w X/\Old w0 X0 w X) ?_ ?_
 ·refine rPe T hS [] [(6,I 0)] fun a hS=>?_
  refine aL ?_
  obtain ⟨I1,μ1,co,hm⟩:=hm
  refine cl (σ:=Int × Int) (fun s a w=>∃ Z X,I1 s.1 s.2/\St Tryz.f94.ntmps ⟨[(0,Sl a1 l_ c1),(1,I process),(5,I s.1),(6,I s.2)],[]⟩ Z a w X/\Old w0 X0 w X/\RS aM w X a1 l_ c1) (fun s=>μ1 s.1 s.2) (⟨(-1),0⟩) ?_ ?_
  ·exact ⟨Z,_,co,hS.sl _,hO,h1⟩
  rintro ⟨bi,hJ⟩ a pt ⟨Z,wc,hI,hS,hO,h102⟩
  replace hm:=hm bi hJ hI
  clear hI co
  refine bc ?_
  refine rPe T hS [] [(10,B (decide (hJ < (lN l_))))] fun a hS=>?_
  refine aG hS (b:=decide (hJ < (lN l_))) kr (fun hb=>?_) fun hb=>?_
  ·replace hm:=hm.1 hb
   refine aH ?_
   refine bT (fun a w=>∃ (Z:Nat->Nat) (X:Nat->Nat) (fB:Int),VC94_J2 I1 μ1 bi hJ fB/\St Tryz.f94.ntmps ⟨[(0,Sl a1 l_ c1),(1,I process),(5,I fB),(6,I hJ)],[]⟩ Z a w X/\Old w0 X0 w X/\RS aM w X a1 l_ c1) ?_ ?_
   ·refine aL ?_
    refine bj ?_
    refine oPe T hS 2 [10] [(13,Sl a1 l_ c1),(14,I hJ)] fun a hS=>?_
    obtain ⟨hq,hm⟩:=hm
    refine op1 (index (e:=61) (k:=.i64) T hS kr kr kr kr h102 kr kr hq.1 hq.2 ?_)
    intro HC a h108 hS
    refine op1 (e9 (off:=1) (fsz:=1) (ft:=3) (TF:=tI) (y:=(gi l_ hJ).aj) T hS kr kr kr h108 kr kr kr (fun cs h=>gV h) ?_)
    intro AQ a h110 hS
    refine op1 (dU T hS kr kr kr h110 rfl kr ?_)
    intro v111 a hv hS
    cases hv
    refine ePe T hS [13,14,15,16,17] [(19,B (((gi l_ hJ).aj) == process))] fun a hS=>?_
    refine aG hS (b:=(((gi l_ hJ).aj) == process)) kr (fun hb=>?_) fun hb=>?_
    ·replace hm:=hm.1 hb
     refine region (ePe T hS [19] [(5,I hJ)] fun a hS=>?_)
     exact ⟨Z,_,hJ,hm,hS.sl _,hO,h102⟩
    replace hm:=hm.2 hb
    refine aH ?_
    exact ⟨Z,_,bi,hm,hS.sl _,hO,h102⟩
   rintro a ur ⟨Z,rJ,fB,hm,hS,hO,h105⟩
   unfold VC94_J2 at hm
   refine region (ePe T hS [] [(6,I (wR (hJ+1)))] fun a hS=>?_)
   exact ⟨⟨fB,wR (hJ+1)⟩,⟨Z,_,hm.1,hS.sl _,hO,h105⟩,hm.2⟩
  replace hm:=hm.2 hb
  refine cb (by rfl) ?_
  exact ⟨Z,_,bi,hm,hS.sl _,hO⟩
 rintro a zq ⟨Z,ue,bD,hm,hS,hO⟩
 unfold VC94_J1 at hm
 refine rPe T hS [5] [(4,I bD)] fun a hS=>?_
 refine aY ?_
 exact fin T hS hO (fun c=>c) rfl (r:=[.int .i64 bD]) kr (fun X' hM hC=>⟨bD,hm,rfl⟩)
theorem C94 (v:∀ (l_:List au) (process:Int),VC94 l_ process (fun r=>r=hU l_ process)):S94:=by
 intro w X l_ process a1 c1   h1
 refine (W94 w X l_ process a1 c1   _ (v l_ process) h1).mono ?_
 rintro _ _ _ _ ⟨r,rfl,h⟩
 exact h
theorem W79 (Ln:S94) (w0) (X0) (l_:List au) (process:Int) (a1) (c1) (Q:Bool->Prop) (hm:VC79 l_ process Q) (h1:RS aM w0 X0 a1 l_ c1) :
  Ret Tryz.prog 79 #[.slice a1 l_.length c1,.int .i64 process] aJ w0 X0 (fun w X' v=>∃ r,Q r/\v=.bool r):=by
 unfold VC79 at hm
 replace hm:=hm (h1.sm kr)
 refine enter Tryz.func79 rfl (vals:=[.slice a1 l_.length c1,.int .i64 process]) kr ?_
 intro Z a hS hO hM
 replace h1:=h1.m0 hM
 refine rPe T hS [] [] fun a hS=>?_
 refine bj ?_
 refine oPe T hS 2 [1] [(6,Sl a1 l_ c1),(7,I process)] fun a hS=>?_
 refine op1 (call hS kr kr hb94 kr (fun _ _=>rfl) (Ln _ _ l_ process a1 c1 h1) ?_)
 intro v101 a eZ fa hE hp hS
 replace hO:=hO.m2 hE
 replace h1:=h1.m1 hE
 obtain ⟨ap,hr⟩:∃ r,hU l_ process=r:=⟨_,rfl⟩
 replace hm:=hm ap hr
 rw [hr] at hp
 clear hr
 subst hp
 refine ePe T hS [6,7,8] [(5,I ap)] fun a hS=>?_
 refine bj ?_
 refine oPe T hS 3 [] [(11,B (decide (ap≥0)))] fun a hS=>?_
 rcases bft (decide (ap≥0)) with hb | hb
 ·replace hS:=hS.lit (t:=11) kr hb
  replace hm:=hm.1 hb
  refine oPe T hS 2 [0,5] [(12,Sl a1 l_ c1),(13,I ap)] fun a hS=>?_
  obtain ⟨hq,hm⟩:=hm
  refine op1 (index (e:=61) (k:=.i64) T hS kr kr kr kr h1 kr kr hq.1 hq.2 ?_)
  intro xI a h106 hS
  refine op1 (e9 (off:=0) (fsz:=1) (ft:=3) (TF:=tI) (y:=(gi l_ ap).bh) T hS kr kr kr h106 kr kr kr (fun cs h=>lU h) ?_)
  intro HC a h108 hS
  refine op1 (dU T hS kr kr kr h108 rfl kr ?_)
  intro v109 a hv hS
  cases hv
  refine ePe T hS [11,12,13,14,15,16] [(4,B (((gi l_ ap).bh) == 1))] fun a hS=>?_
  refine aY ?_
  exact fin T hS hO (fun c=>c) rfl (r:=[.bool (((gi l_ ap).bh) == 1)]) kr (fun X' hM hC=>⟨(((gi l_ ap).bh) == 1),hm,rfl⟩)
 replace hS:=hS.lit (t:=11) kr hb
 replace hm:=hm.2 hb
 refine ePe T hS [0,5,11] [(4,B false)] fun a hS=>?_
 refine aY ?_
 exact fin T hS hO (fun c=>c) rfl (r:=[.bool false]) kr (fun X' hM hC=>⟨false,hm,rfl⟩)
theorem C79 (Ln:S94) (v:∀ (l_:List au) (process:Int),VC79 l_ process (fun r=>r=fo l_ process)):S79:=by
 intro w X l_ process a1 c1   h1
 refine (W79 Ln w X l_ process a1 c1   _ (v l_ process) h1).mono ?_
 rintro _ _ _ _ ⟨r,rfl,h⟩
 exact h
theorem W50 (Iw:S79) (w0) (X0) (l_:List au) (a1) (c1) (Q:Int × Int->Prop) (hm:VC50 l_ Q) (h1:RS aM w0 X0 a1 l_ c1) :
  Ret Tryz.prog 50 #[.slice a1 l_.length c1] aJ w0 X0 (fun w X' v=>∃ r,Q r/\v=.tuple #[.int .i64 r.1,.int .i64 r.2]):=by
 unfold VC50 at hm
 replace hm:=hm (h1.sm kr)
 refine enter Tryz.func50 rfl (vals:=[.slice a1 l_.length c1]) kr ?_
 intro Z a hS hO hM
 replace h1:=h1.m0 hM
 refine rPe T hS [] [] fun a hS=>?_
 refine bc ?_
 refine rPe T hS [] [(8,B (decide ((lN l_) > 10000)))] fun a hS=>?_
 refine aG hS (b:=decide ((lN l_) > 10000)) kr (fun hb=>?_) fun hb=>?_
 ·replace hm:=hm.1 hb
  refine rPe T hS [0,8] [(2,I 0),(3,I 3)] fun a hS=>?_
  refine aY ?_
  exact fin T hS hO (fun c=>c) rfl (r:=[.int .i64 0,.int .i64 3]) kr (fun X' hM hC=>⟨(0,3),hm,rfl⟩)
 replace hm:=hm.2 hb
 refine aH ?_
 refine bT (fun a w=>∃ Z X,VC50_J1 l_ Q/\St Tryz.f50.ntmps ⟨[(0,Sl a1 l_ c1)],[]⟩ Z a w X/\Old w0 X0 w X/\RS aM w X a1 l_ c1) ?_ ?_
 ·refine rPe T hS [8] [(4,I 0)] fun a hS=>?_
  refine aL ?_
  obtain ⟨I1,μ1,co,hm⟩:=hm
  refine cl (σ:=Int) (fun s a w=>∃ Z X,I1 s/\St Tryz.f50.ntmps ⟨[(0,Sl a1 l_ c1),(4,I s)],[]⟩ Z a w X/\Old w0 X0 w X/\RS aM w X a1 l_ c1) (fun s=>μ1 s) (0) ?_ ?_
  ·exact ⟨Z,_,co,hS.sl _,hO,h1⟩
  rintro bi a H9 ⟨Z,Hq,hI,hS,hO,h102⟩
  replace hm:=hm bi hI
  clear hI co
  refine bc ?_
  refine rPe T hS [] [(12,B (decide (bi < (lN l_))))] fun a hS=>?_
  refine aG hS (b:=decide (bi < (lN l_))) kr (fun hb=>?_) fun hb=>?_
  ·replace hm:=hm.1 hb
   refine aH (bc ?_)
   refine aL ?_
   refine bj ?_
   refine oPe T hS 2 [12] [(15,Sl a1 l_ c1),(16,I bi)] fun a hS=>?_
   obtain ⟨hq,hm⟩:=hm
   refine op1 (index (e:=61) (k:=.i64) T hS kr kr kr kr h102 kr kr hq.1 hq.2 ?_)
   intro Kk a h105 hS
   refine op1 (eC T hS kr kr kr h105 kr kr ?_)
   intro v106 a hv hS
   subst hv
   refine eM T hS ⟨[(0,Sl a1 l_ c1),(4,I bi),(5,Pt 6 0)],[(6,(61,(cE (gi l_ bi))))]⟩ fun Z a zn xD hS hE hr=>?_
   replace hO:=hO.m2 hE
   replace h102:=h102.m1 hE
   clear hE hr
   refine bc ?_
   refine rPe T hS [] [(26,B ((((gi l_ bi).bh) != 1) && (((gi l_ bi).bh) != 2)))] (sp:=[22]) fun a hS=>?_
   refine aG hS (b:=((((gi l_ bi).bh) != 1) && (((gi l_ bi).bh) != 2))) kr (fun hb=>?_) fun hb=>?_
   ·replace hm:=hm.1 hb
    refine rP T hS ⟨[(2,I bi),(3,I 8)],[]⟩ fun a hS=>?_
    refine aY ?_
    exact fin T hS hO (fun c=>c) rfl (r:=[.int .i64 bi,.int .i64 8]) kr (fun X' hM hC=>⟨(bi,8),hm,rfl⟩)
   replace hm:=hm.2 hb
   refine aH (bc ?_)
   refine rPe T hS [26] [(35,B ((decide (((gi l_ bi).aj) < 1)) || (decide (((gi l_ bi).aj) > 1000))))] (sp:=[31]) fun a hS=>?_
   refine aG hS (b:=((decide (((gi l_ bi).aj) < 1)) || (decide (((gi l_ bi).aj) > 1000)))) kr (fun hb=>?_) fun hb=>?_
   ·replace hm:=hm.1 hb
    refine rP T hS ⟨[(2,I bi),(3,I 2)],[]⟩ fun a hS=>?_
    refine aY ?_
    exact fin T hS hO (fun c=>c) rfl (r:=[.int .i64 bi,.int .i64 2]) kr (fun X' hM hC=>⟨(bi,2),hm,rfl⟩)
   replace hm:=hm.2 hb
   refine aH (bc ?_)
   refine rPe T hS [35] [(49,B ((((gi l_ bi).bh) == 1) && ((decide (((gi l_ bi).N) < 0)) || (decide (((gi l_ bi).N) > 63)))))] (sp:=[40,44]) fun a hS=>?_
   refine aG hS (b:=((((gi l_ bi).bh) == 1) && ((decide (((gi l_ bi).N) < 0)) || (decide (((gi l_ bi).N) > 63))))) kr (fun hb=>?_) fun hb=>?_
   ·replace hm:=hm.1 hb
    refine rP T hS ⟨[(2,I bi),(3,I 31)],[]⟩ fun a hS=>?_
    refine aY ?_
    exact fin T hS hO (fun c=>c) rfl (r:=[.int .i64 bi,.int .i64 31]) kr (fun X' hM hC=>⟨(bi,31),hm,rfl⟩)
   replace hm:=hm.2 hb
   refine aH (bc ?_)
   refine rPe T hS [49] [(63,B ((((gi l_ bi).bh) == 2) && ((decide (((gi l_ bi).N) < 0)) || (decide (((gi l_ bi).N) > 1000000)))))] (sp:=[54,58]) fun a hS=>?_
   refine aG hS (b:=((((gi l_ bi).bh) == 2) && ((decide (((gi l_ bi).N) < 0)) || (decide (((gi l_ bi).N) > 1000000))))) kr (fun hb=>?_) fun hb=>?_
   ·replace hm:=hm.1 hb
    refine rP T hS ⟨[(2,I bi),(3,I 7)],[]⟩ fun a hS=>?_
    refine aY ?_
    exact fin T hS hO (fun c=>c) rfl (r:=[.int .i64 bi,.int .i64 7]) kr (fun X' hM hC=>⟨(bi,7),hm,rfl⟩)
   replace hm:=hm.2 hb
   refine aH ?_
   refine bT (fun a w=>∃ (Z:Nat->Nat) (X:Nat->Nat) (di:Bool),VC50_J2 Q I1 μ1 bi di/\St Tryz.f50.ntmps ⟨[(0,Sl a1 l_ c1),(4,I bi),(89,B di)],[]⟩ Z a w X/\Old w0 X0 w X/\RS aM w X a1 l_ c1) ?_ ?_
   ·refine gI [6] mixed hS ?_
    intro ry ug hS hE hD hH
    replace hO:=hO.m2 hE
    replace h102:=h102.m1 hE
    refine tke T [0,1,2,3] [6] hS hH #[true,true,true,true,false,false,false,false,false,false,false,false,false,false,false,false,false,false,false,false,false,false,false,false,false] 21 [] [(68,B (((gi l_ bi).bh) == 1))] fun a hS=>?_
    rcases bft (((gi l_ bi).bh) == 1) with hb | hb
    ·replace hS:=hS.lit (t:=68) kr hb
     replace hm:=hm.1 hb
     refine tke T [4,5,7,8] [6] hS hH #[true,true,true,true,true,true,false,true,true,false,false,false,false,false,false,false,false,false,false,false,false,false,false,false,false] 17 [] [(69,Sl a1 l_ c1),(70,I bi),(73,I ((gi l_ bi).aj))] fun a hS=>?_
     obtain ⟨hq,hm⟩:=hm
     refine tT (E:=61) (kh:=.i64) T 6 hS kr kr kr (by rfl) kr hH kr kr h102 kr kr hq.1 hq.2 ?_
     intro iG iD a h113 hS
     refine only 9 kr (by rfl) (call hS kr kr hb79 kr (fun _ _=>rfl) (Iw _ _ (l_.take bi.toNat) ((gi l_ bi).aj) iG iD h113) ?_)
     intro v114 a pt ue hE hp hS
     replace hO:=hO.m2 hE
     replace hD:=hD.ev hE rfl
     replace h102:=h102.m1 hE
     replace h113:=h113.m1 hE
     obtain ⟨d7,hr⟩:∃ r,fo (l_.take bi.toNat) ((gi l_ bi).aj)=r:=⟨_,rfl⟩
     replace hm:=hm d7 hr
     rw [hr] at hp
     clear hr
     subst hp
     replace hS:=hS.sle [] [(74,B d7)]
     refine cW (bH.of hS (bks:=[6]) kr hD) ?_
     intro hH
     refine tke T [10,11] [6] hS hH #[true,true,true,true,true,true,true,true,true,true,true,true,false,false,false,false,false,false,false,false,false,false,false,false,false] 13 [68,69,70,73,71,74] [(76,B d7)] fun a hS=>?_
     rcases bft d7 with hb | hb
     ·replace hS:=hS.lit (t:=76) kr hb
      replace hm:=hm.1 hb
      refine tke T [12,13,14,15,16,17,19,18,20,21,22,23,24] [6] hS hH (tts 25) 0 [5,76] [(89,B true)] fun a hS=>?_
      refine aS kr ?_
      replace hS:=hS.sl ⟨[(0,Sl a1 l_ c1),(4,I bi),(89,B true)],[]⟩
      exact ⟨Z,_,true,hm,hS.sl _,hO,h102⟩
     replace hS:=hS.lit (t:=76) kr hb
     replace hm:=hm.2 hb
     refine tke T [12,13,14,15] [6] hS hH #[true,true,true,true,true,true,true,true,true,true,true,true,true,true,true,true,false,false,false,false,false,false,false,false,false] 9 [] [(80,B (((gi l_ bi).bh) == 2))] fun a hS=>?_
     rcases bft (((gi l_ bi).bh) == 2) with hb | hb
     ·replace hS:=hS.lit (t:=80) kr hb
      replace hm:=hm.1 hb
      refine tke T [16,17,19,20] [6] hS hH #[true,true,true,true,true,true,true,true,true,true,true,true,true,true,true,true,true,true,false,true,true,false,false,false,false] 5 [5] [(81,Sl a1 l_ c1),(82,I bi),(85,I ((gi l_ bi).aj))] fun a hS=>?_
      obtain ⟨hq,hm⟩:=hm
      refine tT (E:=61) (kh:=.i64) T 18 hS kr kr kr (by rfl) kr hH kr kr h102 kr kr hq.1 hq.2 ?_
      intro gT gS a h120 hS
      refine only 21 kr (by rfl) (call hS kr kr hb79 kr (fun _ _=>rfl) (Iw _ _ (l_.take bi.toNat) ((gi l_ bi).aj) gT gS h120) ?_)
      intro v121 a uo ud hE hp hS
      replace hO:=hO.m2 hE
      replace hD:=hD.ev hE rfl
      replace h102:=h102.m1 hE
      replace h113:=h113.m1 hE
      replace h120:=h120.m1 hE
      obtain ⟨dF,hr⟩:∃ r,fo (l_.take bi.toNat) ((gi l_ bi).aj)=r:=⟨_,rfl⟩
      replace hm:=hm dF hr
      rw [hr] at hp
      clear hr
      subst hp
      replace hS:=hS.sle [] [(86,B dF)]
      refine cW (bH.of hS (bks:=[6]) kr hD) ?_
      intro hH
      refine tke T [22,23,24] [6] hS hH (tts 25) 0 [76,80,81,82,85,83,86] [(89,B (!dF))] fun a hS=>?_
      refine aS kr ?_
      replace hS:=hS.sl ⟨[(0,Sl a1 l_ c1),(4,I bi),(89,B (!dF))],[]⟩
      exact ⟨Z,_,(!dF),hm,hS.sl _,hO,h102⟩
     replace hS:=hS.lit (t:=80) kr hb
     replace hm:=hm.2 hb
     refine tke T [16,17,19,18,20,21,22,23,24] [6] hS hH (tts 25) 0 [5,76,80] [(89,B false)] fun a hS=>?_
     refine aS kr ?_
     replace hS:=hS.sl ⟨[(0,Sl a1 l_ c1),(4,I bi),(89,B false)],[]⟩
     exact ⟨Z,_,false,hm,hS.sl _,hO,h102⟩
    replace hS:=hS.lit (t:=68) kr hb
    replace hm:=hm.2 hb
    refine tke T [4,5,7,6,8,9,10,11,12,13,14,15] [6] hS hH #[true,true,true,true,true,true,true,true,true,true,true,true,true,true,true,true,false,false,false,false,false,false,false,false,false] 9 [68] [(76,B false),(80,B (((gi l_ bi).bh) == 2))] fun a hS=>?_
    rcases bft (((gi l_ bi).bh) == 2) with hb | hb
    ·replace hS:=hS.lit (t:=80) kr hb
     replace hm:=hm.1 hb
     refine tke T [16,17,19,20] [6] hS hH #[true,true,true,true,true,true,true,true,true,true,true,true,true,true,true,true,true,true,false,true,true,false,false,false,false] 5 [5] [(81,Sl a1 l_ c1),(82,I bi),(85,I ((gi l_ bi).aj))] fun a hS=>?_
     obtain ⟨hq,hm⟩:=hm
     refine tT (E:=61) (kh:=.i64) T 18 hS kr kr kr (by rfl) kr hH kr kr h102 kr kr hq.1 hq.2 ?_
     intro iE iC a h127 hS
     refine only 21 kr (by rfl) (call hS kr kr hb79 kr (fun _ _=>rfl) (Iw _ _ (l_.take bi.toNat) ((gi l_ bi).aj) iE iC h127) ?_)
     intro v128 a F9 AI hE hp hS
     replace hO:=hO.m2 hE
     replace hD:=hD.ev hE rfl
     replace h102:=h102.m1 hE
     replace h127:=h127.m1 hE
     obtain ⟨fb,hr⟩:∃ r,fo (l_.take bi.toNat) ((gi l_ bi).aj)=r:=⟨_,rfl⟩
     replace hm:=hm fb hr
     rw [hr] at hp
     clear hr
     subst hp
     replace hS:=hS.sle [] [(86,B fb)]
     refine cW (bH.of hS (bks:=[6]) kr hD) ?_
     intro hH
     refine tke T [22,23,24] [6] hS hH (tts 25) 0 [76,80,81,82,85,83,86] [(89,B (!fb))] fun a hS=>?_
     refine aS kr ?_
     replace hS:=hS.sl ⟨[(0,Sl a1 l_ c1),(4,I bi),(89,B (!fb))],[]⟩
     exact ⟨Z,_,(!fb),hm,hS.sl _,hO,h102⟩
    replace hS:=hS.lit (t:=80) kr hb
    replace hm:=hm.2 hb
    refine tke T [16,17,19,18,20,21,22,23,24] [6] hS hH (tts 25) 0 [5,76,80] [(89,B false)] fun a hS=>?_
    refine aS kr ?_
    replace hS:=hS.sl ⟨[(0,Sl a1 l_ c1),(4,I bi),(89,B false)],[]⟩
    exact ⟨Z,_,false,hm,hS.sl _,hO,h102⟩
   rintro a um ⟨Z,pH,di,hm,hS,hO,h107⟩
   unfold VC50_J2 at hm
   refine aG hS (b:=di) kr (fun hb=>?_) fun hb=>?_
   ·replace hm:=hm.1 hb
    refine rPe T hS [0,4,89] [(2,I bi),(3,I 33)] fun a hS=>?_
    refine aY ?_
    exact fin T hS hO (fun c=>c) rfl (r:=[.int .i64 bi,.int .i64 33]) kr (fun X' hM hC=>⟨(bi,33),hm,rfl⟩)
   replace hm:=hm.2 hb
   refine aH ?_
   refine region (ePe T hS [89] [(4,I (wR (bi+1)))] fun a hS=>?_)
   exact ⟨wR (bi+1),⟨Z,_,hm.1,hS.sl _,hO,h107⟩,hm.2⟩
  replace hm:=hm.2 hb
  refine cb (by rfl) ?_
  exact ⟨Z,_,hm,hS.sl _,hO,h102⟩
 rintro a rt ⟨Z,J8,hm,hS,hO,h101⟩
 unfold VC50_J1 at hm
 refine rPe T hS [0] [(2,I (lN l_)),(3,I 0)] fun a hS=>?_
 refine aY ?_
 exact fin T hS hO (fun c=>c) rfl (r:=[.int .i64 (lN l_),.int .i64 0]) kr (fun X' hM hC=>⟨((lN l_),0),hm,rfl⟩)
theorem C50 (Iw:S79) (v:∀ (l_:List au),VC50 l_ (fun r=>r=eR l_)):S50:=by
 intro w X l_ a1 c1   h1
 refine (W50 Iw w X l_ a1 c1   _ (v l_) h1).mono ?_
 rintro _ _ _ _ ⟨r,rfl,h⟩
 exact h
theorem W57 (w0) (X0) (a_:List ba) (b_:List ba) (a1) (c1) (a2) (c2) (Q:Bool->Prop) (hm:VC57 a_ b_ Q) (h1:RS ay w0 X0 a1 a_ c1) (h2:RS ay w0 X0 a2 b_ c2) :
  Ret Tryz.prog 57 #[.slice a1 a_.length c1,.slice a2 b_.length c2] aJ w0 X0 (fun w X' v=>∃ r,Q r/\v=.bool r):=by
 unfold VC57 at hm
 replace hm:=hm (h1.sm kr)
 replace hm:=hm (h2.sm kr)
 refine enter Tryz.func57 rfl (vals:=[.slice a1 a_.length c1,.slice a2 b_.length c2]) kr ?_
 intro Z a hS hO hM
 replace h1:=h1.m0 hM
 replace h2:=h2.m0 hM
 refine rPe T hS [] [] fun a hS=>?_
 refine bc ?_
 refine rPe T hS [] [(10,B ((lN a_) != (lN b_)))] fun a hS=>?_
 refine aG hS (b:=((lN a_) != (lN b_))) kr (fun hb=>?_) fun hb=>?_
 ·replace hm:=hm.1 hb
  refine rPe T hS [0,1,10] [(4,B false)] fun a hS=>?_
  refine aY ?_
  exact fin T hS hO (fun c=>c) rfl (r:=[.bool false]) kr (fun X' hM hC=>⟨false,hm,rfl⟩)
 replace hm:=hm.2 hb
 refine aH ?_
 refine bT (fun a w=>∃ Z X,VC57_J1 Q/\St Tryz.f57.ntmps ⟨[],[]⟩ Z a w X/\Old w0 X0 w X) ?_ ?_
 ·refine rPe T hS [10] [(5,I 0)] fun a hS=>?_
  refine aL ?_
  obtain ⟨I1,μ1,co,hm⟩:=hm
  refine cl (σ:=Int) (fun s a w=>∃ Z X,I1 s/\St Tryz.f57.ntmps ⟨[(0,Sl a1 a_ c1),(1,Sl a2 b_ c2),(5,I s)],[]⟩ Z a w X/\Old w0 X0 w X/\RS ay w X a1 a_ c1/\RS ay w X a2 b_ c2) (fun s=>μ1 s) (0) ?_ ?_
  ·exact ⟨Z,_,co,hS.sl _,hO,h1,h2⟩
  rintro bi a ur ⟨Z,rJ,hI,hS,hO,h101,h102⟩
  replace hm:=hm bi hI
  clear hI co
  refine bc ?_
  refine rPe T hS [] [(14,B (decide (bi < (lN a_))))] fun a hS=>?_
  refine aG hS (b:=decide (bi < (lN a_))) kr (fun hb=>?_) fun hb=>?_
  ·replace hm:=hm.1 hb
   refine aH (bc ?_)
   refine aL ?_
   refine dv [] mixed hS ?_
   intro zr o1 hS hE hD hH
   replace hO:=hO.m2 hE
   replace h101:=h101.m1 hE
   replace h102:=h102.m1 hE
   refine tke T [0,1,4,5] [] hS hH #[true,true,false,false,true,true,false,false,false] 5 [] [(17,Sl a1 a_ c1),(18,I bi),(21,Sl a2 b_ c2),(22,I bi)] fun a hS=>?_
   obtain ⟨hq,hm⟩:=hm
   refine c7 (e:=107) (k:=.i64) T 2 hS kr kr kr (by rfl) kr hH kr kr h101 kr kr hq.1 hq.2 ?_
   intro Kj a h107 hS
   have Cv:=h107.here
   refine jr T 3 hS kr kr kr (by rfl) kr hH kr h107 Cv kr kr ?_
   intro v108 a hv hS
   subst hv
   obtain ⟨hq,hm⟩:=hm
   refine c7 (e:=107) (k:=.i64) T 6 hS kr kr kr (by rfl) kr hH kr kr h102 kr kr hq.1 hq.2 ?_
   intro AQ a h110 hS
   have mr:=h110.here
   refine jr T 7 hS kr kr kr (by rfl) kr hH kr h110 mr kr kr ?_
   intro v111 a hv hS
   subst hv
   refine Al (op:=.neq) (xs:=[.int .i64 ((gi a_ bi).State),.int .i64 ((gi a_ bi).Kind),.int .i64 ((gi a_ bi).Next),.int .i64 ((gi a_ bi).Result)]) (ys:=[.int .i64 ((gi b_ bi).State),.int .i64 ((gi b_ bi).Kind),.int .i64 ((gi b_ bi).Next),.int .i64 ((gi b_ bi).Result)]) (r:=(((gi a_ bi).State) == ((gi b_ bi).State) && (((gi a_ bi).Kind) == ((gi b_ bi).Kind) && (((gi a_ bi).Next) == ((gi b_ bi).Next) && (((gi a_ bi).Result) == ((gi b_ bi).Result) && true))))) (b:=(!(((gi a_ bi).State) == ((gi b_ bi).State) && (((gi a_ bi).Kind) == ((gi b_ bi).Kind) && (((gi a_ bi).Next) == ((gi b_ bi).Next) && (((gi a_ bi).Result) == ((gi b_ bi).Result) && true)))))) 8 T hS kr kr kr (by rfl) kr hH kr kr kr kr kr kr ?_
   intro a hS
   refine aS kr ?_
   replace hS:=hS.sle [17,18,21,22,19,20,23,24] []
   refine aG hS (b:=(!(((gi a_ bi).State) == ((gi b_ bi).State) && (((gi a_ bi).Kind) == ((gi b_ bi).Kind) && (((gi a_ bi).Next) == ((gi b_ bi).Next) && (((gi a_ bi).Result) == ((gi b_ bi).Result) && true)))))) kr (fun hb=>?_) fun hb=>?_
   ·replace hm:=hm.1 hb
    refine rPe T hS [0,1,5,25] [(4,B false)] fun a hS=>?_
    refine aY ?_
    exact fin T hS hO (fun c=>c) rfl (r:=[.bool false]) kr (fun X' hM hC=>⟨false,hm,rfl⟩)
   replace hm:=hm.2 hb
   refine aH ?_
   refine region (ePe T hS [25] [(5,I (wR (bi+1)))] fun a hS=>?_)
   exact ⟨wR (bi+1),⟨Z,_,hm.1,hS.sl _,hO,h101,h102⟩,hm.2⟩
  replace hm:=hm.2 hb
  refine cb (by rfl) ?_
  exact ⟨Z,_,hm,hS.sl _,hO⟩
 rintro a pt ⟨Z,wc,hm,hS,hO⟩
 unfold VC57_J1 at hm
 refine rPe T hS [] [(4,B true)] fun a hS=>?_
 refine aY ?_
 exact fin T hS hO (fun c=>c) rfl (r:=[.bool true]) kr (fun X' hM hC=>⟨true,hm,rfl⟩)
theorem C57 (v:∀ (a_:List ba) (b_:List ba),VC57 a_ b_ (fun r=>r=ew a_ b_)):S57:=by
 intro w X a_ b_ a1 c1 a2 c2   h1 h2
 refine (W57 w X a_ b_ a1 c1 a2 c2   _ (v a_ b_) h1 h2).mono ?_
 rintro _ _ _ _ ⟨r,rfl,h⟩
 exact h
theorem W26 (LK:S57) (w0) (X0) (a_:ae) (b_:ae) (a1) (c1) (a2) (c2) (Q:Bool->Prop) (hm:VC26 a_ b_ Q) (h1:RS ay w0 X0 a1 a_.Rows c1) (h2:RS ay w0 X0 a2 b_.Rows c2) :
  Ret Tryz.prog 26 #[.agg #[.int .i64 a_.ar,.int .i64 a_.aw,.int .i64 a_.aC,.slice a1 a_.Rows.length c1],.agg #[.int .i64 b_.ar,.int .i64 b_.aw,.int .i64 b_.aC,.slice a2 b_.Rows.length c2]] aJ w0 X0 (fun w X' v=>∃ r,Q r/\v=.bool r):=by
 unfold VC26 at hm
 replace hm:=hm (h1.sm kr)
 replace hm:=hm (h2.sm kr)
 refine enter Tryz.func26 rfl (vals:=[.agg #[.int .i64 a_.ar,.int .i64 a_.aw,.int .i64 a_.aC,.slice a1 a_.Rows.length c1],.agg #[.int .i64 b_.ar,.int .i64 b_.aw,.int .i64 b_.aC,.slice a2 b_.Rows.length c2]]) kr ?_
 intro Z a hS hO hM
 replace h1:=h1.m0 hM
 replace h2:=h2.m0 hM
 refine rM T hS ⟨[(2,Pt 3 0),(3,Pt 4 0)],[(3,(48,(cO a_ a1 c1))),(4,(48,(cO b_ a2 c2)))]⟩ fun Z a nG ms hS hE hr=>?_
 replace hO:=hO.m2 hE
 replace h1:=h1.m1 hE
 replace h2:=h2.m1 hE
 clear hE hr
 refine bj ?_
 refine oPe T hS 20 [] [(24,B (((a_.ar == b_.ar) && (a_.aw == b_.aw)) && (a_.aC == b_.aC)))] (sp:=[10,17]) fun a hS=>?_
 rcases bft (((a_.ar == b_.ar) && (a_.aw == b_.aw)) && (a_.aC == b_.aC)) with hb | hb
 ·replace hS:=hS.lit (t:=24) kr hb
  replace hm:=hm.1 hb
  refine oP T hS 4 ⟨[(24,B true),(26,Sl a1 a_.Rows c1),(28,Sl a2 b_.Rows c2)],[]⟩ fun a hS=>?_
  refine op1 (call hS kr kr hb57 kr (fun _ _=>rfl) (LK _ _ a_.Rows b_.Rows a1 c1 a2 c2 h1 h2) ?_)
  intro v101 a eZ fa hE hp hS
  replace hO:=hO.m2 hE
  replace h1:=h1.m1 hE
  replace h2:=h2.m1 hE
  obtain ⟨ap,hr⟩:∃ r,ew a_.Rows b_.Rows=r:=⟨_,rfl⟩
  replace hm:=hm ap hr
  rw [hr] at hp
  clear hr
  subst hp
  refine ePe T hS [24,26,28,29] [(4,B ap)] fun a hS=>?_
  refine aY ?_
  exact fin T hS hO (fun c=>c) rfl (r:=[.bool ap]) kr (fun X' hM hC=>⟨ap,hm,rfl⟩)
 replace hS:=hS.lit (t:=24) kr hb
 replace hm:=hm.2 hb
 refine eP T hS ⟨[(4,B false)],[]⟩ fun a hS=>?_
 refine aY ?_
 exact fin T hS hO (fun c=>c) rfl (r:=[.bool false]) kr (fun X' hM hC=>⟨false,hm,rfl⟩)
theorem C26 (LK:S57) (v:∀ (a_:ae) (b_:ae),VC26 a_ b_ (fun r=>r=iR a_ b_)):S26:=by
 intro w X a_ b_ a1 c1 a2 c2   h1 h2
 refine (W26 LK w X a_ b_ a1 c1 a2 c2   _ (v a_ b_) h1 h2).mono ?_
 rintro _ _ _ _ ⟨r,rfl,h⟩
 exact h
theorem W56 (Gz:S55) (w0) (X0) (l_:List au) (a1) (c1) (Q:(List ab) × Int->Prop) (hm:VC56 l_ Q) (h1:RS aM w0 X0 a1 l_ c1) :
  Ret Tryz.prog 56 #[.slice a1 l_.length c1] aJ w0 X0 (fun w X' v=>∃ r,Q r/\∃ cn cm,v=.tuple #[.slice cn r.1.length cm,.int .i64 r.2]/\RS ao w X' cn r.1 cm):=by
 unfold VC56 at hm
 replace hm:=hm (h1.sm kr)
 refine enter Tryz.func56 rfl (vals:=[.slice a1 l_.length c1]) kr ?_
 intro Z a hS hO hM
 replace h1:=h1.m0 hM
 refine rPe T hS [] [] fun a hS=>?_
 refine bc ?_
 refine bj ?_
 refine oPe T hS 1 [] [(12,Sl a1 l_ c1)] fun a hS=>?_
 refine op1 (call hS kr kr hb55 kr (fun _ _=>rfl) (Gz _ _ l_ a1 c1 h1) ?_)
 intro v101 a eZ fa hE hp hS
 replace hO:=hO.m2 hE
 replace h1:=h1.m1 hE
 obtain ⟨ap,hr⟩:∃ r,bA l_=r:=⟨_,rfl⟩
 replace hm:=hm ap hr
 rw [hr] at hp
 clear hr
 subst hp
 refine ePe T hS [12,13] [(5,I ap.2)] fun a hS=>?_
 refine rPe T hS [] [(17,B (ap.2 != 0))] fun a hS=>?_
 refine aG hS (b:=(ap.2 != 0)) kr (fun hb=>?_) fun hb=>?_
 ·replace hm:=hm.1 hb
  refine rPe T hS [0,5,17] [(2,V (.slice none 0 0)),(3,I ap.2)] fun a hS=>?_
  refine aY ?_
  exact fin T hS hO (fun c=>c) rfl (r:=[.slice none 0 0,.int .i64 ap.2]) kr (fun X' hM hC=>⟨([],ap.2),hm,none,0,rfl,RS.empty _ _ _⟩)
 replace hm:=hm.2 hb
 refine aH ?_
 refine rPe T hS [5,17] [(6,V (.slice none 0 0))] fun a hS=>?_
 refine bj ?_
 refine op1 (pc kI tI false 1020 hS kr kr ?_)
 intro iV a mg mc hE h108 hS
 replace hO:=hO.m2 hE
 replace h1:=h1.m1 hE
 refine ePe T hS [19] [(7,V (.map (some iV)))] fun a hS=>?_
 refine bT (fun a w=>∃ (Z:Nat->Nat) (X:Nat->Nat) (cH:List ab) (fH:Option Addr) (fG:Nat),VC56_J1 Q cH/\St Tryz.f56.ntmps ⟨[(6,Sl fH cH fG)],[]⟩ Z a w X/\Old w0 X0 w X/\OS ao 102 w X 1003 fH cH fG) ?_ ?_
 ·refine rPe T hS [0] [(20,Sl a1 l_ c1),(21,I (lN l_)),(22,I 0)] fun a hS=>?_
  refine aL ?_
  obtain ⟨I1,μ1,co,hm⟩:=hm
  refine cl (σ:=(List ab) × (List (Int × Int)) × Int) (fun s a w=>∃ Z X dA dz,I1 s.1 s.2.1 s.2.2/\St Tryz.f56.ntmps ⟨[(6,Sl dA s.1 dz),(7,V (.map (some iV))),(20,Sl a1 l_ c1),(21,I (lN l_)),(22,I s.2.2)],[]⟩ Z a w X/\Old w0 X0 w X/\OS ao 102 w X 1003 dA s.1 dz/\OM kI tI false w X 1020 iV s.2.1/\RS aM w X a1 l_ c1) (fun s=>μ1 s.1 s.2.1 s.2.2) (⟨[],([]:List (Int × Int)),0⟩) ?_ ?_
  ·exact ⟨Z,_,none,0,co,hS.sl _,hO,(OS.nil _ _ _ _ _),h108,h1⟩
  rintro ⟨be,bq,aW⟩ a DB ⟨Z,De,dA,dz,hI,hS,hO,h118,h120,h121⟩
  replace hm:=hm be bq aW hI
  clear hI co
  refine rPe T hS [] [(23,B (decide (aW < (lN l_))))] fun a hS=>?_
  refine bc ?_
  refine aG hS (b:=decide (aW < (lN l_))) kr (fun hb=>?_) fun hb=>?_
  ·replace hm:=hm.1 hb
   refine aH ?_
   refine bT (fun a w=>∃ (Z:Nat->Nat) (X:Nat->Nat) (fx:List ab) (dX:List (Int × Int)) (gZ:Option Addr) (gY:Nat),VC56_J2 I1 μ1 be bq aW fx dX/\St Tryz.f56.ntmps ⟨[(6,Sl gZ fx gY),(7,V (.map (some iV))),(20,Sl a1 l_ c1),(21,I (lN l_)),(22,I aW)],[]⟩ Z a w X/\Old w0 X0 w X/\OS ao 102 w X 1003 gZ fx gY/\OM kI tI false w X 1020 iV dX/\RS aM w X a1 l_ c1) ?_ ?_
   ·refine aL ?_
    refine bj ?_
    refine oPe T hS 1 [23] [(24,I aW)] fun a hS=>?_
    obtain ⟨hq,hm⟩:=hm
    refine op1 (index (e:=61) (k:=.i64) T hS kr kr kr kr h121 kr kr hq.1 hq.2 ?_)
    intro R5 a h131 hS
    refine op1 (eC T hS kr kr kr h131 kr kr ?_)
    intro v132 a hv hS
    subst hv
    refine eM T hS ⟨[(6,Sl dA be dz),(7,V (.map (some iV))),(8,I aW),(9,Pt 10 0),(20,Sl a1 l_ c1),(21,I (lN l_)),(22,I aW)],[(10,(61,(cE (gi l_ aW))))]⟩ fun Z a zi AE hS hE hr=>?_
    replace hO:=hO.m2 hE
    replace h118:=h118.m2 hE
    replace h120:=h120.m2 hE
    replace h121:=h121.m1 hE
    clear hE hr
    refine bc ?_
    refine rPe T hS [] [(29,B (((gi l_ aW).bh) == 1))] fun a hS=>?_
    refine aG hS (b:=(((gi l_ aW).bh) == 1)) kr (fun hb=>?_) fun hb=>?_
    ·replace hm:=hm.1 hb
     refine bj ?_
     refine oPe T hS 5 [29] [(30,V (.map (some iV))),(32,I ((gi l_ aW).aj)),(34,I (lN be))] fun a hS=>?_
     refine op1 (tD kI tI false (v:=I (lN be)) (u:=(lN be)) ((gi l_ aW).aj) hS kr kr kr kr Tryz.underlying113 Tryz.underlying3 kr h120 rfl ?_)
     intro a um hE h134 hS
     clear h120
     replace hO:=hO.m2 hE
     replace h118:=h118.m2 hE
     replace h121:=h121.m1 hE
     refine gX ?_
     refine bj ?_
     refine oP T hS 7 ⟨[(6,Sl dA be dz),(7,V (.map (some iV))),(20,Sl a1 l_ c1),(21,I (lN l_)),(22,I aW),(35,Sl dA be dz),(41,V (.agg #[.int .i64 ((gi l_ aW).aj),.int .i64 ((gi l_ aW).N),.int .i64 aW,.int .i64 (-1),.int .i64 (-1)]))],[]⟩ fun a hS=>?_
     refine op1 (lit (E:=102) (col:=0) (T:=ao) (vals:=[.agg #[.int .i64 ((gi l_ aW).aj),.int .i64 ((gi l_ aW).N),.int .i64 aW,.int .i64 (-1),.int .i64 (-1)]]) (ys:=[(⟨(gi l_ aW).aj,(gi l_ aW).N,aW,(-1),(-1)⟩:ab)]) T hS kr kr kr kr (by exact ⟨rfl,trivial⟩) rfl kr kr kr kr ?_)
     intro b135 a p3 rH hE h138 hN hS
     clear hN
     replace hO:=hO.m2 hE
     replace h118:=h118.m2 hE
     replace h121:=h121.m1 hE
     replace h134:=h134.m2 hE
     replace h138:=h138.rs0
     obtain ⟨hq,hm⟩:=hm
     obtain ⟨news,hN⟩:=h138.src
     refine op1 (append (E:=102) (T:=ao) (col:=1003) (xs:=be) T hS kr kr kr kr h118 hN kr kr kr kr hq ?_)
     intro jI jF a rt uc hE h141 hS
     clear hq hN
     clear h118
     replace hO:=hO.m2 hE
     replace h121:=h121.m1 hE
     replace h134:=h134.m2 hE
     replace h138:=h138.m1 hE
     refine ePe T hS [41,42,43] [(6,Sl jI (be++[(⟨(gi l_ aW).aj,(gi l_ aW).N,aW,(-1),(-1)⟩:ab)]) jF)] fun a hS=>?_
     refine cb (by rfl) ?_
     exact ⟨Z,_,be++[(⟨(gi l_ aW).aj,(gi l_ aW).N,aW,(-1),(-1)⟩:ab)],dk bq ((gi l_ aW).aj) (lN be),jI,jF,hm,hS.sl _,hO,h141,h134,h121⟩
    replace hm:=hm.2 hb
    refine aH ?_
    refine bj ?_
    refine oPe T hS 4 [29] [(44,Sl dA be dz),(45,V (.map (some iV))),(47,I ((gi l_ aW).aj))] fun a hS=>?_
    refine op1 (j6 kI tI false (zv:=.int .i64 0) (z:=0) ((gi l_ aW).aj) hS kr kr kr kr Tryz.underlying113 Tryz.underlying3 kr rfl h120 ?_)
    intro v144 a hv hS
    replace hv:tI.R _ _ [v144] _:=hv
    cases hv
    obtain ⟨sq,hm⟩:=hm
    refine op1 (nr (E:=102) (k:=.i64) T hS kr kr kr kr h118 kr kr sq.1 sq.2 ?_)
    intro AO a h147 h146 hS
    have h148:=h147.ad
    clear h147 h146
    refine ePe T hS [44,45,47,48,49] [(10,V (.pointer (some AO)))] fun a hS=>?_
    refine gI [10] mixed hS ?_
    intro DG J6 hS hE hD hH
    replace hO:=hO.m2 hE
    replace h118:=h118.m2 hE
    replace h120:=h120.m2 hE
    replace h121:=h121.m1 hE
    refine tke T [0,1,2,3,4] [10] hS hH #[true,true,true,true,true,false,false,false,false,false,false] 6 [8,9,10] [(50,V (.pointer (some AO))),(51,V (.pointer (some AO))),(52,I aW),(54,I ((gi l_ aW).N))] fun a hS=>?_
    refine only 5 kr (by rfl) (Is (A:=AO) hS kr kr kr ?_)
    intro a hS
    refine cW (bH.of hS (bks:=[10]) kr hD) ?_
    intro hH
    refine only 6 kr (by rfl) (tS (off:=3) (fsz:=1) (ft:=3) T hS kr kr kr h148 kr kr ?_)
    intro NF a h153 hS
    refine cW (bH.of hS (bks:=[10]) kr hD) ?_
    intro hH
    refine only 7 kr (by rfl) (sZ (m:=1) (off:=3) (x:=(⟨(gi be ((aF bq ((gi l_ aW).aj)).getD 0)).aj,(gi be ((aF bq ((gi l_ aW).aj)).getD 0)).Kind,(gi be ((aF bq ((gi l_ aW).aj)).getD 0)).aE,aW,(gi be ((aF bq ((gi l_ aW).aj)).getD 0)).Result⟩:ab)) (v:=I aW) (i:=((aF bq ((gi l_ aW).aj)).getD 0).toNat) (E:=102) (xs:=be) T hS kr kr kr kr h118 h153 (by have:=sq.1; have:=sq.2; (try simp only [List.length_set]); omega) kr kr rfl (fun _ _ _ h=>by cases h; rfl) ?_)
    intro a rr hE h155 hS
    clear h118
    replace hO:=hO.m2 hE
    replace hD:=hD.ev hE rfl
    replace h120:=h120.m2 hE
    replace h121:=h121.m1 hE
    replace hS:=hS.conv (t:=6) (y:=.slice dA (be.set ((aF bq ((gi l_ aW).aj)).getD 0).toNat (⟨(gi be ((aF bq ((gi l_ aW).aj)).getD 0)).aj,(gi be ((aF bq ((gi l_ aW).aj)).getD 0)).Kind,(gi be ((aF bq ((gi l_ aW).aj)).getD 0)).aE,aW,(gi be ((aF bq ((gi l_ aW).aj)).getD 0)).Result⟩:ab)).length dz) kr (by rw [List.length_set])
    refine cW (bH.of hS (bks:=[10]) kr hD) ?_
    intro hH
    refine only 8 kr (by rfl) (Is (A:=AO) hS kr kr kr ?_)
    intro a hS
    refine cW (bH.of hS (bks:=[10]) kr hD) ?_
    intro hH
    refine only 9 kr (by rfl) (tS (off:=4) (fsz:=1) (ft:=3) T hS kr kr kr h148 kr kr ?_)
    intro NE a h157 hS
    refine cW (bH.of hS (bks:=[10]) kr hD) ?_
    intro hH
    refine only 10 kr (by rfl) (sZ (m:=1) (off:=4) (x:=(⟨(gi (be.set ((aF bq ((gi l_ aW).aj)).getD 0).toNat (⟨(gi be ((aF bq ((gi l_ aW).aj)).getD 0)).aj,(gi be ((aF bq ((gi l_ aW).aj)).getD 0)).Kind,(gi be ((aF bq ((gi l_ aW).aj)).getD 0)).aE,aW,(gi be ((aF bq ((gi l_ aW).aj)).getD 0)).Result⟩:ab)) ((aF bq ((gi l_ aW).aj)).getD 0)).aj,(gi (be.set ((aF bq ((gi l_ aW).aj)).getD 0).toNat (⟨(gi be ((aF bq ((gi l_ aW).aj)).getD 0)).aj,(gi be ((aF bq ((gi l_ aW).aj)).getD 0)).Kind,(gi be ((aF bq ((gi l_ aW).aj)).getD 0)).aE,aW,(gi be ((aF bq ((gi l_ aW).aj)).getD 0)).Result⟩:ab)) ((aF bq ((gi l_ aW).aj)).getD 0)).Kind,(gi (be.set ((aF bq ((gi l_ aW).aj)).getD 0).toNat (⟨(gi be ((aF bq ((gi l_ aW).aj)).getD 0)).aj,(gi be ((aF bq ((gi l_ aW).aj)).getD 0)).Kind,(gi be ((aF bq ((gi l_ aW).aj)).getD 0)).aE,aW,(gi be ((aF bq ((gi l_ aW).aj)).getD 0)).Result⟩:ab)) ((aF bq ((gi l_ aW).aj)).getD 0)).aE,(gi (be.set ((aF bq ((gi l_ aW).aj)).getD 0).toNat (⟨(gi be ((aF bq ((gi l_ aW).aj)).getD 0)).aj,(gi be ((aF bq ((gi l_ aW).aj)).getD 0)).Kind,(gi be ((aF bq ((gi l_ aW).aj)).getD 0)).aE,aW,(gi be ((aF bq ((gi l_ aW).aj)).getD 0)).Result⟩:ab)) ((aF bq ((gi l_ aW).aj)).getD 0)).End,(gi l_ aW).N⟩:ab)) (v:=I ((gi l_ aW).N)) (i:=((aF bq ((gi l_ aW).aj)).getD 0).toNat) (E:=102) (xs:=(be.set ((aF bq ((gi l_ aW).aj)).getD 0).toNat (⟨(gi be ((aF bq ((gi l_ aW).aj)).getD 0)).aj,(gi be ((aF bq ((gi l_ aW).aj)).getD 0)).Kind,(gi be ((aF bq ((gi l_ aW).aj)).getD 0)).aE,aW,(gi be ((aF bq ((gi l_ aW).aj)).getD 0)).Result⟩:ab))) T hS kr kr kr kr h155 h157 (by have:=sq.1; have:=sq.2; (try simp only [List.length_set]); omega) kr kr rfl (fun _ _ _ h=>by cases h; rfl) ?_)
    intro a DD hE h159 hS
    clear h155
    replace hO:=hO.m2 hE
    replace hD:=hD.ev hE rfl
    replace h120:=h120.m2 hE
    replace h121:=h121.m1 hE
    replace hS:=hS.conv (t:=6) (y:=.slice dA ((be.set ((aF bq ((gi l_ aW).aj)).getD 0).toNat (⟨(gi be ((aF bq ((gi l_ aW).aj)).getD 0)).aj,(gi be ((aF bq ((gi l_ aW).aj)).getD 0)).Kind,(gi be ((aF bq ((gi l_ aW).aj)).getD 0)).aE,aW,(gi be ((aF bq ((gi l_ aW).aj)).getD 0)).Result⟩:ab)).set ((aF bq ((gi l_ aW).aj)).getD 0).toNat (⟨(gi (be.set ((aF bq ((gi l_ aW).aj)).getD 0).toNat (⟨(gi be ((aF bq ((gi l_ aW).aj)).getD 0)).aj,(gi be ((aF bq ((gi l_ aW).aj)).getD 0)).Kind,(gi be ((aF bq ((gi l_ aW).aj)).getD 0)).aE,aW,(gi be ((aF bq ((gi l_ aW).aj)).getD 0)).Result⟩:ab)) ((aF bq ((gi l_ aW).aj)).getD 0)).aj,(gi (be.set ((aF bq ((gi l_ aW).aj)).getD 0).toNat (⟨(gi be ((aF bq ((gi l_ aW).aj)).getD 0)).aj,(gi be ((aF bq ((gi l_ aW).aj)).getD 0)).Kind,(gi be ((aF bq ((gi l_ aW).aj)).getD 0)).aE,aW,(gi be ((aF bq ((gi l_ aW).aj)).getD 0)).Result⟩:ab)) ((aF bq ((gi l_ aW).aj)).getD 0)).Kind,(gi (be.set ((aF bq ((gi l_ aW).aj)).getD 0).toNat (⟨(gi be ((aF bq ((gi l_ aW).aj)).getD 0)).aj,(gi be ((aF bq ((gi l_ aW).aj)).getD 0)).Kind,(gi be ((aF bq ((gi l_ aW).aj)).getD 0)).aE,aW,(gi be ((aF bq ((gi l_ aW).aj)).getD 0)).Result⟩:ab)) ((aF bq ((gi l_ aW).aj)).getD 0)).aE,(gi (be.set ((aF bq ((gi l_ aW).aj)).getD 0).toNat (⟨(gi be ((aF bq ((gi l_ aW).aj)).getD 0)).aj,(gi be ((aF bq ((gi l_ aW).aj)).getD 0)).Kind,(gi be ((aF bq ((gi l_ aW).aj)).getD 0)).aE,aW,(gi be ((aF bq ((gi l_ aW).aj)).getD 0)).Result⟩:ab)) ((aF bq ((gi l_ aW).aj)).getD 0)).End,(gi l_ aW).N⟩:ab)).length dz) kr (by rw [List.length_set])
    refine cW (bH.of hS (bks:=[10]) kr hD) ?_
    intro hH
    refine aS kr ?_
    replace hS:=hS.sl ⟨[(6,Sl dA ((be.set ((aF bq ((gi l_ aW).aj)).getD 0).toNat (⟨(gi be ((aF bq ((gi l_ aW).aj)).getD 0)).aj,(gi be ((aF bq ((gi l_ aW).aj)).getD 0)).Kind,(gi be ((aF bq ((gi l_ aW).aj)).getD 0)).aE,aW,(gi be ((aF bq ((gi l_ aW).aj)).getD 0)).Result⟩:ab)).set ((aF bq ((gi l_ aW).aj)).getD 0).toNat (⟨(gi (be.set ((aF bq ((gi l_ aW).aj)).getD 0).toNat (⟨(gi be ((aF bq ((gi l_ aW).aj)).getD 0)).aj,(gi be ((aF bq ((gi l_ aW).aj)).getD 0)).Kind,(gi be ((aF bq ((gi l_ aW).aj)).getD 0)).aE,aW,(gi be ((aF bq ((gi l_ aW).aj)).getD 0)).Result⟩:ab)) ((aF bq ((gi l_ aW).aj)).getD 0)).aj,(gi (be.set ((aF bq ((gi l_ aW).aj)).getD 0).toNat (⟨(gi be ((aF bq ((gi l_ aW).aj)).getD 0)).aj,(gi be ((aF bq ((gi l_ aW).aj)).getD 0)).Kind,(gi be ((aF bq ((gi l_ aW).aj)).getD 0)).aE,aW,(gi be ((aF bq ((gi l_ aW).aj)).getD 0)).Result⟩:ab)) ((aF bq ((gi l_ aW).aj)).getD 0)).Kind,(gi (be.set ((aF bq ((gi l_ aW).aj)).getD 0).toNat (⟨(gi be ((aF bq ((gi l_ aW).aj)).getD 0)).aj,(gi be ((aF bq ((gi l_ aW).aj)).getD 0)).Kind,(gi be ((aF bq ((gi l_ aW).aj)).getD 0)).aE,aW,(gi be ((aF bq ((gi l_ aW).aj)).getD 0)).Result⟩:ab)) ((aF bq ((gi l_ aW).aj)).getD 0)).aE,(gi (be.set ((aF bq ((gi l_ aW).aj)).getD 0).toNat (⟨(gi be ((aF bq ((gi l_ aW).aj)).getD 0)).aj,(gi be ((aF bq ((gi l_ aW).aj)).getD 0)).Kind,(gi be ((aF bq ((gi l_ aW).aj)).getD 0)).aE,aW,(gi be ((aF bq ((gi l_ aW).aj)).getD 0)).Result⟩:ab)) ((aF bq ((gi l_ aW).aj)).getD 0)).End,(gi l_ aW).N⟩:ab)) dz),(7,V (.map (some iV))),(20,Sl a1 l_ c1),(21,I (lN l_)),(22,I aW)],[]⟩
    exact ⟨Z,_,((be.set ((aF bq ((gi l_ aW).aj)).getD 0).toNat (⟨(gi be ((aF bq ((gi l_ aW).aj)).getD 0)).aj,(gi be ((aF bq ((gi l_ aW).aj)).getD 0)).Kind,(gi be ((aF bq ((gi l_ aW).aj)).getD 0)).aE,aW,(gi be ((aF bq ((gi l_ aW).aj)).getD 0)).Result⟩:ab)).set ((aF bq ((gi l_ aW).aj)).getD 0).toNat (⟨(gi (be.set ((aF bq ((gi l_ aW).aj)).getD 0).toNat (⟨(gi be ((aF bq ((gi l_ aW).aj)).getD 0)).aj,(gi be ((aF bq ((gi l_ aW).aj)).getD 0)).Kind,(gi be ((aF bq ((gi l_ aW).aj)).getD 0)).aE,aW,(gi be ((aF bq ((gi l_ aW).aj)).getD 0)).Result⟩:ab)) ((aF bq ((gi l_ aW).aj)).getD 0)).aj,(gi (be.set ((aF bq ((gi l_ aW).aj)).getD 0).toNat (⟨(gi be ((aF bq ((gi l_ aW).aj)).getD 0)).aj,(gi be ((aF bq ((gi l_ aW).aj)).getD 0)).Kind,(gi be ((aF bq ((gi l_ aW).aj)).getD 0)).aE,aW,(gi be ((aF bq ((gi l_ aW).aj)).getD 0)).Result⟩:ab)) ((aF bq ((gi l_ aW).aj)).getD 0)).Kind,(gi (be.set ((aF bq ((gi l_ aW).aj)).getD 0).toNat (⟨(gi be ((aF bq ((gi l_ aW).aj)).getD 0)).aj,(gi be ((aF bq ((gi l_ aW).aj)).getD 0)).Kind,(gi be ((aF bq ((gi l_ aW).aj)).getD 0)).aE,aW,(gi be ((aF bq ((gi l_ aW).aj)).getD 0)).Result⟩:ab)) ((aF bq ((gi l_ aW).aj)).getD 0)).aE,(gi (be.set ((aF bq ((gi l_ aW).aj)).getD 0).toNat (⟨(gi be ((aF bq ((gi l_ aW).aj)).getD 0)).aj,(gi be ((aF bq ((gi l_ aW).aj)).getD 0)).Kind,(gi be ((aF bq ((gi l_ aW).aj)).getD 0)).aE,aW,(gi be ((aF bq ((gi l_ aW).aj)).getD 0)).Result⟩:ab)) ((aF bq ((gi l_ aW).aj)).getD 0)).End,(gi l_ aW).N⟩:ab)),bq,dA,dz,hm,hS.sl _,hO,h159,h120,h121⟩
   rintro a F7 ⟨Z,Ny,fx,dX,gZ,gY,hm,hS,hO,h126,h128,h129⟩
   unfold VC56_J2 at hm
   refine region (ePe T hS [] [(22,I (wR (aW+1)))] fun a hS=>?_)
   exact ⟨⟨fx,dX,wR (aW+1)⟩,⟨Z,_,gZ,gY,hm.1,hS.sl _,hO,h126,h128,h129⟩,hm.2⟩
  replace hm:=hm.2 hb
  refine cb (by rfl) ?_
  exact ⟨Z,_,be,dA,dz,hm,hS.sl _,hO,h118⟩
 rintro a F5 ⟨Z,Hm,cH,fH,fG,hm,hS,hO,h112⟩
 unfold VC56_J1 at hm
 refine rPe T hS [6] [(2,Sl fH cH fG),(3,I 0)] fun a hS=>?_
 refine aY ?_
 obtain ⟨uf,hE,hF⟩:=h112.freeze (by decide)
 replace hS:=hS.ev hE (cr kr)
 replace hO:=hO.m2 hE
 have h114:=hF; clear hE hF
 exact fin T hS hO (fun c=>c) rfl (r:=[.slice fH cH.length fG,.int .i64 0]) kr (fun X' hM hC=>⟨(cH,0),hm,fH,fG,rfl,h114.m0 hM⟩)
theorem C56 (Gz:S55) (v:∀ (l_:List au),VC56 l_ (fun r=>r=fD l_)):S56:=by
 intro w X l_ a1 c1   h1
 refine (W56 Gz w X l_ a1 c1   _ (v l_) h1).mono ?_
 rintro _ _ _ _ ⟨r,rfl,h⟩
 exact h
end Go.Proofs.YteahldlmkheleaaGreat
