import Derived.Test.YteahldlmkheleaaGreatLWalksS
set_option linter.all false
namespace Go.Proofs.YteahldlmkheleaaGreat
open Go Go.Sv
abbrev zAd0 (i5 dJ cz:Nat):Nat->Nat:=fun c=>(bif Nat.beq c 13 then i5 else (bif Nat.beq c 1011 then dJ else (bif Nat.beq c 1010 then cz else c)))
abbrev zAd1 (cz:Nat):Nat->Nat:=fun c=>(bif Nat.beq c 1005 then cz else c)
abbrev zAd2 (i1 m1 m4 m5:Nat):List (Nat × Nat):=[(i1,901),(m1,2001),(m4,2004),(m5,2005)]
set_option maxHeartbeats 1000000
theorem W90 (N) (Fs:S100) (Fr:S101) (Fq:S102N N) (Fp:S105) (w0) (X0) (state:Int) (so:List aa) (am:aX) (a1) (c1) (m1) (a2) (c2) (a3) (c3) (a4) (c4) (m4) (r5) (m5) (b1) (i1) (Q:(List aa) × Bool × aX->Prop) (hm:VC90 N state so am Q) (h1:OS ar 56 w0 X0 m1 a1 so c1) (h2:RS ay w0 X0 a2 am.o.Rows c2) (h3:RS ao w0 X0 a3 am.l c3) (h4:OS dz 4 w0 X0 m4 a4 am.done c4) (h5:OMS aQ tI false w0 X0 m5 r5 am.failed) (ff:Cell w0 X0 b1 i1 161 [.int .i64 am.o.aq,.int .i64 am.o.ax,.int .i64 am.o.aE,.slice a2 am.o.Rows.length c2,.slice a3 am.l.length c3,.slice a4 am.done.length c4,.map (some r5)]) (hA:dH [i1,m1,m4,m5]) :
  Ret Tryz.prog 90 #[.pointer (some ⟨b1,0,none⟩),.int .i64 state,.slice a1 so.length c1] (pR [i1,m1,m4,m5]) w0 X0 (fun w X' v=>∃ r,Q r/\∃ cB cA iE iD oO oN xk xj,v=.tuple #[.slice cB r.1.length cA,.bool r.2.1]/\OS ar 56 w X' m1 cB r.1 cA/\RS ay w X' iE r.2.2.o.Rows iD/\RS ao w X' oO r.2.2.l oN/\OS dz 4 w X' m4 xk r.2.2.done xj/\Cell w X' b1 i1 161 [.int .i64 r.2.2.o.aq,.int .i64 r.2.2.o.ax,.int .i64 r.2.2.o.aE,.slice iE r.2.2.o.Rows.length iD,.slice oO r.2.2.l.length oN,.slice xk r.2.2.done.length xj,.map (some r5)]/\OMS aQ tI false w X' m5 r5 r.2.2.failed):=by
 unfold VC90 at hm
 replace hm:=hm (h1.sm kr)
 replace hm:=hm (h2.sm kr)
 replace hm:=hm (h3.sm kr)
 replace hm:=hm (h4.sm kr)
 refine fB Tryz.func90 rfl (dx (zAd2 i1 m1 m4 m5)) (fun id=>(bif Nat.beq id 901 then b1 else 0)) (args:=[Pt 901 0,I state,Sl a1 so c1]) (bxs:=[(901,(161,[I am.o.aq,I am.o.ax,I am.o.aE,Sl a2 am.o.Rows c2,Sl a3 am.l c3,Sl a4 am.done c4,V (.map (some r5))]))]) kr rfl (bm.cons kr (ff.map (bK 0 hA.1 rfl)) bm.nil) (fm (fun q hq=>(hA.2 q.1 (List.mem_map.2 ⟨q,hq,rfl⟩)).1)) ?_
 intro a hS hO hM
 have hP:Pin [(901,b1)] (fun id=>(bif Nat.beq id 901 then b1 else 0)):=by intro q hq; simp at hq; rcases hq with rfl <;> rfl
 generalize (fun id=>(bif Nat.beq id 901 then b1 else 0))=Z at hS hP
 clear ff
 replace h1:=h1.map (f:=dx (zAd2 i1 m1 m4 m5)) (bK 1 hA.1 rfl) hM
 replace h2:=h2.m0 hM
 replace h3:=h3.m0 hM
 replace h4:=h4.map (f:=dx (zAd2 i1 m1 m4 m5)) (bK 2 hA.1 rfl) hM
 replace h5:=h5.map (f:=dx (zAd2 i1 m1 m4 m5)) (bK 3 hA.1 rfl) hM
 refine rM T hS ⟨[(3,Pt 4 0),(4,Pt 5 0),(5,Pt 6 0)],[(4,(147,[Pt 901 0])),(5,(3,[I state])),(6,(26,[Sl a1 so c1])),(901,(161,[I am.o.aq,I am.o.ax,I am.o.aE,Sl a2 am.o.Rows c2,Sl a3 am.l c3,Sl a4 am.done c4,V (.map (some r5))]))]⟩ fun Z a Ne Pw hS hE hr=>?_
 replace hO:=hO.m2 hE
 replace h1:=h1.m2 hE
 replace h2:=h2.m1 hE
 replace h3:=h3.m1 hE
 replace h4:=h4.m2 hE
 replace h5:=h5.m2 hE
 replace hP:=hP.mv hr kr
 clear hE hr
 refine bd ?_
 refine bn ?_
 refine oPe T hS 1 [] [(14,Pt 901 0)] fun a hS=>?_
 have hb105:=(hS.cell (id:=901) (t:=161) (cs:=[I am.o.aq,I am.o.ax,I am.o.aE,Sl a2 am.o.Rows c2,Sl a3 am.l c3,Sl a4 am.done c4,V (.map (some r5))]) kr)
 have DU:=h5
 obtain ⟨hq,hm⟩:=hm
 refine op1 (lv hS kr kr hb100 kr (Ret.sk kr (Fs _ (eu 2004 _) am a2 c2 a3 c3 a4 c4 r5 2005 (Z 901) 901 hq (h2.m0 (M0.eu 2004)) (h3.m0 (M0.eu 2004)) h4.eu (h5.DK kr) (hb105.eu kr) ⟨by decide,by decide⟩)) ?_)
 intro v101 a fh fo hE hp hS
 clear h5
 replace hO:=hO.m2 hE
 replace h1:=h1.m2 hE
 replace h2:=h2.m1 hE
 replace h3:=h3.m1 hE
 replace h4:=h4.m2 hE
 obtain ⟨lm,_,hp⟩:=hp
 obtain ⟨hp,qr,h108⟩:=hp
 replace qr:=qr.back hb105 lm
 replace h108:=h108.back DU lm (fun h=>h)
 clear lm hb105 DU
 obtain ⟨av,hr⟩:∃ r,dE am=r:=⟨_,rfl⟩
 replace hm:=hm av hr
 rw [hr] at hp
 clear hr
 subst hp
 replace hS:=hS.cx (id:=901) (t:=161) (cs:=[I am.o.aq,I am.o.ax,I am.o.aE,Sl a2 am.o.Rows c2,Sl a3 am.l c3,Sl a4 am.done c4,V (.map (some r5))]) kr qr
 clear qr
 refine g8 ?_
 refine aF hS (b:=av) kr (fun hb=>?_) fun hb=>?_
 ·replace hm:=hm.1 hb
  refine rP T hS ⟨[(6,Sl a1 so c1),(7,B true)],[(901,(161,[I am.o.aq,I am.o.ax,I am.o.aE,Sl a2 am.o.Rows c2,Sl a3 am.l c3,Sl a4 am.done c4,V (.map (some r5))]))]⟩ fun a hS=>?_
  refine aZ ?_
  exact gF T hS hO (fun c h=>bS kr h) (fun c h=>bT (l:=(zAd2 i1 m1 m4 m5)) h) (bN (zAd2 i1 m1 m4 m5)) rfl (r:=[.slice a1 so.length c1,.bool true]) kr (fun X' hM hC=>⟨(so,true,am),hm,a1,c1,a2,c2,a3,c3,a4,c4,rfl,(OS.out (f:=(bN (zAd2 i1 m1 m4 m5))) h1 hM hC kr),h2.m0 hM,h3.m0 hM,(OS.out (f:=(bN (zAd2 i1 m1 m4 m5))) h4 hM hC kr),((hS.cell (id:=901) (t:=161) (cs:=[I am.o.aq,I am.o.ax,I am.o.aE,Sl a2 am.o.Rows c2,Sl a3 am.l c3,Sl a4 am.done c4,V (.map (some r5))]) kr).out (f:=(bN (zAd2 i1 m1 m4 m5))) hC kr kr (hP.at 0 rfl)),(h108.out (f:=(bN (zAd2 i1 m1 m4 m5))) hM hC kr kr)⟩)
 replace hm:=hm.2 hb
 refine aL ?_
 refine bn ?_
 refine oPe T hS 2 [15] [(17,Pt 901 0),(18,I state)] fun a hS=>?_
 have hb113:=(hS.cell (id:=901) (t:=161) (cs:=[I am.o.aq,I am.o.ax,I am.o.aE,Sl a2 am.o.Rows c2,Sl a3 am.l c3,Sl a4 am.done c4,V (.map (some r5))]) kr)
 have DT:=h108
 refine op1 (lv hS kr kr hb101 kr (Ret.sk kr (Fr _ (eu 2004 _) state am a2 c2 a3 c3 a4 c4 r5 2005 (Z 901) 901 (h2.m0 (M0.eu 2004)) (h3.m0 (M0.eu 2004)) h4.eu (h108.DK kr) (hb113.eu kr) ⟨by decide,by decide⟩)) ?_)
 intro v109 a EJ F7 hE hp hS
 clear h108
 replace hO:=hO.m2 hE
 replace h1:=h1.m2 hE
 replace h2:=h2.m1 hE
 replace h3:=h3.m1 hE
 replace h4:=h4.m2 hE
 obtain ⟨lm,_,hp⟩:=hp
 obtain ⟨hp,x7,h116⟩:=hp
 replace x7:=x7.back hb113 lm
 replace h116:=h116.back DT lm (fun h=>h)
 clear lm hb113 DT
 obtain ⟨bG,hr⟩:∃ r,dt state am=r:=⟨_,rfl⟩
 replace hm:=hm bG hr
 rw [hr] at hp
 clear hr
 subst hp
 replace hS:=hS.cx (id:=901) (t:=161) (cs:=[I am.o.aq,I am.o.ax,I am.o.aE,Sl a2 am.o.Rows c2,Sl a3 am.l c3,Sl a4 am.done c4,V (.map (some r5))]) kr x7
 clear x7
 refine eM T hS ⟨[(3,Pt 4 0),(4,Pt 5 0),(5,Pt 6 0),(8,Pt 9 0)],[(4,(147,[Pt 901 0])),(5,(3,[I state])),(6,(26,[Sl a1 so c1])),(9,(164,[V (.int .u32 bG.done),I bG.state])),(901,(161,[I am.o.aq,I am.o.ax,I am.o.aE,Sl a2 am.o.Rows c2,Sl a3 am.l c3,Sl a4 am.done c4,V (.map (some r5))]))]⟩ fun Z a Ng Py hS hE hr=>?_
 replace hO:=hO.m2 hE
 replace h1:=h1.m2 hE
 replace h2:=h2.m1 hE
 replace h3:=h3.m1 hE
 replace h4:=h4.m2 hE
 replace h116:=h116.m2 hE
 replace hP:=hP.mv hr kr
 clear hE hr
 refine bd ?_
 refine dq [4,5,6,9,901] mixed hS ?_
 intro Af DA hS hE hD hH
 replace hO:=hO.m2 hE
 replace h1:=h1.m2 hE
 replace h2:=h2.m1 hE
 replace h3:=h3.m1 hE
 replace h4:=h4.m2 hE
 replace h116:=h116.m2 hE
 refine tke T [0,4,1,2,3] [4,5,6,9,901] hS hH #[true,true,true,true,true,false,false] 2 [] [(23,V (.map (some r5))),(24,V (.agg #[.int .u32 bG.done,.int .i64 bG.state]))] fun a hS=>?_
 refine only 5 kr (by rfl) (AS aQ tI false (zv:=.int .i64 0) (z:=0) bG hS kr kr kr kr Tryz.underlying159 fT kr rfl h116 ?_)
 intro v119 a hv hS
 replace hv:tI.R _ _ [v119] _:=hv
 cases hv
 refine cV (bI.of hS (bks:=[4,5,6,9,901]) kr hD) ?_
 intro hH
 refine tke T [6] [4,5,6,9,901] hS hH (tts 7) 0 [23,24,25] [(26,B (decide (((aC am.failed bG).getD 0) > 0)))] fun a hS=>?_
 refine aV kr ?_
 replace hS:=hS.sle [] []
 refine aF hS (b:=decide (((aC am.failed bG).getD 0) > 0)) kr (fun hb=>?_) fun hb=>?_
 ·replace hm:=hm.1 hb
  refine rP T hS ⟨[(6,V (.slice none 0 0)),(7,B false)],[(901,(161,[I am.o.aq,I am.o.ax,I am.o.aE,Sl a2 am.o.Rows c2,Sl a3 am.l c3,Sl a4 am.done c4,V (.map (some r5))]))]⟩ fun a hS=>?_
  refine aZ ?_
  exact gF T hS hO (fun c h=>bS kr h) (fun c h=>bT (l:=(zAd2 i1 m1 m4 m5)) h) (bN (zAd2 i1 m1 m4 m5)) rfl (r:=[.slice none 0 0,.bool false]) kr (fun X' hM hC=>⟨([],false,am),hm,none,0,a2,c2,a3,c3,a4,c4,rfl,OS.nil _ _ _ _ _,h2.m0 hM,h3.m0 hM,(OS.out (f:=(bN (zAd2 i1 m1 m4 m5))) h4 hM hC kr),((hS.cell (id:=901) (t:=161) (cs:=[I am.o.aq,I am.o.ax,I am.o.aE,Sl a2 am.o.Rows c2,Sl a3 am.l c3,Sl a4 am.done c4,V (.map (some r5))]) kr).out (f:=(bN (zAd2 i1 m1 m4 m5))) hC kr kr (hP.at 0 rfl)),(h116.out (f:=(bN (zAd2 i1 m1 m4 m5))) hM hC kr kr)⟩)
 replace hm:=hm.2 hb
 refine aL ?_
 refine rPe T hS [5,26] [(9,.f (.func 102) [] [.p 4 0,.p 5 0,.p 6 0])] fun a hS=>?_
 refine b5 (fun a w=>∃ (Z:Nat->Nat) (X:Nat->Nat) (d1:Int) (ig:Int) (aU:Int) (ib:List a9) (d7:List ab) (fK:List Bool) (fX:List (bW × Int)) (jP:Option Addr) (jL:Nat) (j6:Option Addr) (jY:Nat) (gJ:Option Addr) (gI:Nat),VC90_J1 N state Q bG d1 ig aU ib d7 fK fX/\St Tryz.f90.ntmps ⟨[(3,Pt 4 0),(8,Pt 9 0)],[(4,(147,[Pt 901 0])),(9,(164,[V (.int .u32 bG.done),I bG.state])),(901,(161,[I d1,I ig,I aU,Sl jP ib jL,Sl j6 d7 jY,Sl gJ fK gI,V (.map (some r5))]))]⟩ Z a w X/\fU (dx (zAd2 i1 m1 m4 m5)) w0 X0 w X/\Pin [(901,b1)] Z/\RS ay w X jP ib jL/\RS ao w X j6 d7 jY/\OS dz 4 w X 2004 gJ fK gI/\OMS aQ tI false w X 2005 r5 fX) ?_ ?_
 ·refine dq [4,5,6,9] mixed hS ?_
  intro Co Du hS hE hD hH
  replace hO:=hO.m2 hE
  replace h1:=h1.m2 hE
  replace h2:=h2.m1 hE
  replace h3:=h3.m1 hE
  replace h4:=h4.m2 hE
  replace h116:=h116.m2 hE
  refine tke T [0,4,8,9,15,1,5,10,2,6,11] [4,5,6,9] hS hH #[true,true,true,false,true,true,true,false,true,true,true,true,false,false,false,true] 5 [4] [(30,Pt 901 0),(34,Pt 901 4),(36,I state),(39,Pt 901 5),(43,I 0)] fun a hS=>?_
  refine yi (fun a w=>∃ X,St Tryz.f90.ntmps ⟨[(3,Pt 4 0),(8,Pt 9 0),(9,.f (.func 102) [] [.p 4 0,.p 5 0,.p 6 0]),(31,V (.agg #[.int .i64 am.o.aq,.int .i64 am.o.ax,.int .i64 am.o.aE,.slice a2 am.o.Rows.length c2])),(35,Sl a3 am.l c3),(36,I state),(40,Sl a4 am.done c4),(43,I 0)],[(4,(147,[Pt 901 0])),(5,(3,[I state])),(6,(26,[Sl a1 so c1])),(9,(164,[V (.int .u32 bG.done),I bG.state])),(901,(161,[I am.o.aq,I am.o.ax,I am.o.aE,Sl a2 am.o.Rows c2,Sl a3 am.l c3,Sl a4 am.done c4,V (.map (some r5))]))]⟩ Z a w X/\fU (dx (zAd2 i1 m1 m4 m5)) w0 X0 w X/\M0 Co Du w X/\bI Co Du (mg [4,5,6,9] ⟨[(3,Pt 4 0),(4,Pt 5 0),(8,Pt 9 0),(9,.f (.func 102) [] [.p 4 0,.p 5 0,.p 6 0])],[(4,(147,[Pt 901 0])),(5,(3,[I state])),(6,(26,[Sl a1 so c1])),(9,(164,[V (.int .u32 bG.done),I bG.state])),(901,(161,[I am.o.aq,I am.o.ax,I am.o.aE,Sl a2 am.o.Rows c2,Sl a3 am.l c3,Sl a4 am.done c4,V (.map (some r5))]))]⟩) Z w/\RS ay w X a2 am.o.Rows c2/\RS ao w X a3 am.l c3/\OS dz 4 w X 2004 a4 am.done c4/\OS ar 56 w X 2001 a1 so c1/\OMS aQ tI false w X 2005 r5 am.failed) #[true,true,true,true,true,true,true,true,true,true,true,true,true,false,false,true] 2 ?_ (fun H=>?_)
  ·rintro a EC ⟨LM,hS,hO,hD,hH,h180,h181,h182,h183,h184⟩
   obtain ⟨hq,hm⟩:=hm
   refine only 13 kr (by rfl) (call hS kr kr hb105 kr (fun _ _=>rfl) (Ret.CB (Fp _ (eu 2004 _) am.o am.l state am.done a2 c2 a3 c3 a4 c4 4193 hq (h180.m0 (M0.eu 2004)) (h181.m0 (M0.eu 2004)) h182.eu)) ?_)
   intro v187 a NF PU hE hp hS
   replace hO:=hO.m2 hE
   replace hD:=hD.ev hE rfl
   replace h180:=h180.m1 hE
   replace h181:=h181.m1 hE
   replace h182:=h182.m2 hE
   replace h183:=h183.m2 hE
   replace h184:=h184.m2 hE
   obtain ⟨_,Eg,hp⟩:=hp
   obtain ⟨tz,tq,hp,h193⟩:=hp
   replace h193:=h193.Ie Eg kr (fun h=>h)
   clear Eg
   obtain ⟨mK,hr⟩:∃ r,bF am.o am.l state am.done=r:=⟨_,rfl⟩
   replace hm:=hm mK hr
   rw [hr] at hp h193
   clear hr
   subst hp
   replace hm:=hm (h193.sm kr)
   replace hS:=hS.sle [] [(41,Sl tz mK tq)]
   refine cV (bI.of hS (bks:=[4,5,6,9]) kr hD) ?_
   intro hH
   refine tke T [14] [4,5,6,9] hS hH (tts 16) 0 [31,35,36,40] [(42,I (lN mK))] fun a hS=>?_
   refine aV kr ?_
   replace hS:=hS.sle [] []
   refine aN ?_
   obtain ⟨PT,hE,hF⟩:=h183.freeze (by decide)
   replace hS:=hS.ev hE (cN kr)
   replace hO:=hO.m2 hE
   replace h180:=h180.m1 hE
   replace h181:=h181.m1 hE
   replace h182:=h182.m2 hE
   replace h184:=h184.m2 hE
   replace h193:=h193.m2 hE
   have h195:=hF; clear hE hF
   obtain ⟨I1,μ1,cy,hm⟩:=hm
   refine cw (σ:=(List aa) × Int × Int × Int × Int × (List a9) × (List ab) × (List Bool) × (List (bW × Int))) (fun s a w=>∃ Z X na m6 nZ nT vq vf vp ve,I1 s.1 s.2.1 s.2.2.1 s.2.2.2.1 s.2.2.2.2.1 s.2.2.2.2.2.1 s.2.2.2.2.2.2.1 s.2.2.2.2.2.2.2.1 s.2.2.2.2.2.2.2.2/\St Tryz.f90.ntmps ⟨[(3,Pt 4 0),(8,Pt 9 0),(9,.f (.func 102) [] [.p 4 0,.p 5 0,.p 6 0]),(41,Sl na s.1 m6),(42,I (lN mK)),(43,I s.2.1)],[(4,(147,[Pt 901 0])),(5,(3,[I state])),(6,(26,[Sl a1 so c1])),(9,(164,[V (.int .u32 bG.done),I bG.state])),(901,(161,[I s.2.2.1,I s.2.2.2.1,I s.2.2.2.2.1,Sl nZ s.2.2.2.2.2.1 nT,Sl vq s.2.2.2.2.2.2.1 vf,Sl vp s.2.2.2.2.2.2.2.1 ve,V (.map (some r5))]))]⟩ Z a w X/\fU (dx (zAd2 i1 m1 m4 m5)) w0 X0 w X/\Pin [(901,b1)] Z/\OS ar 56 w X 4193 na s.1 m6/\RS ar w X a1 so c1/\RS ay w X nZ s.2.2.2.2.2.1 nT/\RS ao w X vq s.2.2.2.2.2.2.1 vf/\OS dz 4 w X 2004 vp s.2.2.2.2.2.2.2.1 ve/\OMS aQ tI false w X 2005 r5 s.2.2.2.2.2.2.2.2) (fun s=>μ1 s.1 s.2.1 s.2.2.1 s.2.2.2.1 s.2.2.2.2.1 s.2.2.2.2.2.1 s.2.2.2.2.2.2.1 s.2.2.2.2.2.2.2.1 s.2.2.2.2.2.2.2.2) (⟨mK,0,am.o.aq,am.o.ax,am.o.aE,am.o.Rows,am.l,am.done,am.failed⟩) ?_ ?_
   ·exact ⟨Z,_,tz,tq,a2,c2,a3,c3,a4,c4,cy,hS.sl _,hO,hP,h193,h195,h180,h181,h182,h184⟩
   rintro ⟨ni,ie,g9,vN,vM,vL,vK,jo,Ck⟩ a Gw ⟨Z,Lv,na,m6,nZ,nT,vq,vf,vp,ve,hI,hS,hO,hP,h199,h201,h208,h212,h216,h218⟩
   replace hm:=hm ni ie g9 vN vM vL vK jo Ck hI
   clear hI cy
   refine rPe T hS [] [(44,B (decide (ie < (lN mK))))] fun a hS=>?_
   refine bd ?_
   refine aF hS (b:=decide (ie < (lN mK))) kr (fun hb=>?_) fun hb=>?_
   ·replace hm:=hm.1 hb
    refine aL (bd ?_)
    refine aN ?_
    refine bn ?_
    obtain ⟨DQ,hm⟩:=hm
    refine op1 (mV (E:=56) (k:=.i64) T hS kr kr kr kr h199 kr kr DQ.1 DQ.2 ?_)
    intro LX a h221 h220 hS
    refine op1 (AZ T hS kr kr kr h220 kr kr ?_)
    intro v223 a hv hS
    subst hv
    refine eM T hS ⟨[(3,Pt 4 0),(8,Pt 9 0),(9,.f (.func 102) [] [.p 4 0,.p 5 0,.p 6 0]),(11,Pt 12 0),(41,Sl na ni m6),(42,I (lN mK)),(43,I ie)],[(4,(147,[Pt 901 0])),(5,(3,[I state])),(6,(26,[Sl a1 so c1])),(9,(164,[V (.int .u32 bG.done),I bG.state])),(12,(56,(cK (gi ni ie)))),(901,(161,[I g9,I vN,I vM,Sl nZ vL nT,Sl vq vK vf,Sl vp jo ve,V (.map (some r5))]))]⟩ fun Z a I7 Lw hS hE hr=>?_
    replace hO:=hO.m2 hE
    replace h199:=h199.m2 hE
    replace h201:=h201.m1 hE
    replace h208:=h208.m1 hE
    replace h212:=h212.m1 hE
    replace h216:=h216.m2 hE
    replace h218:=h218.m2 hE
    replace hP:=hP.mv hr kr
    clear hE hr
    refine bn ?_
    refine oP T hS 2 ⟨[(3,Pt 4 0),(8,Pt 9 0),(9,.f (.func 102) [] [.p 4 0,.p 5 0,.p 6 0]),(41,Sl na ni m6),(42,I (lN mK)),(43,I ie),(48,.f (.func 102) [] [.p 4 0,.p 5 0,.p 6 0]),(49,V (.agg #[.int .i64 ((gi ni ie).Oper),.int .i64 ((gi ni ie).Result)]))],[(4,(147,[Pt 901 0])),(5,(3,[I state])),(6,(26,[Sl a1 so c1])),(9,(164,[V (.int .u32 bG.done),I bG.state])),(901,(161,[I g9,I vN,I vM,Sl nZ vL nT,Sl vq vK vf,Sl vp jo ve,V (.map (some r5))]))]⟩ fun a hS=>?_
    obtain ⟨hq,hm⟩:=hm
    refine op1 (jI (fi:=[]) (cp:=[.p 4 0,.p 5 0,.p 6 0]) hS kr kr hb102 kr kr (Fq _ _ (gi ni ie) (⟨(⟨g9,vN,vM,vL⟩:al),vK,jo,Ck⟩:aX) state so nZ nT vq vf vp ve 2004 r5 2005 a1 c1 2001 (Z 4) 4 (Z 901) 901 (Z 5) 5 (Z 6) 6 hq.1 hq.2 h208 h212 h216 h218 h201 (hS.cell (id:=4) (t:=147) (cs:=[Pt 901 0]) kr) (hS.cell (id:=901) (t:=161) (cs:=[I g9,I vN,I vM,Sl nZ vL nT,Sl vq vK vf,Sl vp jo ve,V (.map (some r5))]) kr) (hS.cell (id:=5) (t:=3) (cs:=[I state]) kr) (hS.cell (id:=6) (t:=26) (cs:=[Sl a1 so c1]) kr) ⟨by decide,by decide⟩) ?_)
    intro v224 a Nu PL hE hp hS
    clear h218
    clear h216
    replace hO:=hO.m2 hE
    replace h199:=h199.m2 hE
    replace h201:=h201.m1 hE
    replace h208:=h208.m1 hE
    replace h212:=h212.m1 hE
    obtain ⟨Dp,Dg,BS,BH,BR,BG,BQ,BF,hp,h230,h233,h236,h239,DX,Bi,h240,DW,DV⟩:=hp
    obtain ⟨d3,hr⟩:∃ r,bf (gi ni ie) (⟨(⟨g9,vN,vM,vL⟩:al),vK,jo,Ck⟩:aX) state so=r:=⟨_,rfl⟩
    replace hm:=hm d3 hr
    rw [hr] at hp h230 h233 h236 h239 Bi h240
    clear hr
    subst hp
    replace hm:=hm (h230.sm kr)
    replace hm:=hm (h233.sm kr)
    replace hm:=hm (h236.sm kr)
    replace hm:=hm (h239.sm kr)
    replace hS:=hS.cx (id:=4) (t:=147) (cs:=[Pt 901 0]) kr DX
    replace hS:=hS.cx (id:=901) (t:=161) (cs:=[I d3.2.2.o.aq,I d3.2.2.o.ax,I d3.2.2.o.aE,Sl BS d3.2.2.o.Rows BH,Sl BR d3.2.2.l BG,Sl BQ d3.2.2.done BF,V (.map (some r5))]) kr Bi
    replace hS:=hS.cx (id:=5) (t:=3) (cs:=[I state]) kr DW
    replace hS:=hS.cx (id:=6) (t:=26) (cs:=[Sl a1 so c1]) kr DV
    clear DX Bi DW DV
    refine ePe T hS [48,49,50] [(12,Sl Dp d3.1 Dg),(13,B d3.2.1)] fun a hS=>?_
    refine rPe T hS [13] [(53,B d3.2.1)] fun a hS=>?_
    refine aF hS (b:=d3.2.1) kr (fun hb=>?_) fun hb=>?_
    ·replace hm:=hm.1 hb
     refine rP T hS ⟨[(6,Sl Dp d3.1 Dg),(7,B true)],[(901,(161,[I d3.2.2.o.aq,I d3.2.2.o.ax,I d3.2.2.o.aE,Sl BS d3.2.2.o.Rows BH,Sl BR d3.2.2.l BG,Sl BQ d3.2.2.done BF,V (.map (some r5))]))]⟩ fun a hS=>?_
     refine aZ ?_
     exact gF T hS hO (fun c h=>bS kr h) (fun c h=>bT (l:=(zAd2 i1 m1 m4 m5)) h) (bN (zAd2 i1 m1 m4 m5)) rfl (r:=[.slice Dp d3.1.length Dg,.bool true]) kr (fun X' hM hC=>⟨(d3.1,true,d3.2.2),hm,Dp,Dg,BS,BH,BR,BG,BQ,BF,rfl,(OS.out (f:=(bN (zAd2 i1 m1 m4 m5))) h230 hM hC kr),h233.m0 hM,h236.m0 hM,(OS.out (f:=(bN (zAd2 i1 m1 m4 m5))) h239 hM hC kr),((hS.cell (id:=901) (t:=161) (cs:=[I d3.2.2.o.aq,I d3.2.2.o.ax,I d3.2.2.o.aE,Sl BS d3.2.2.o.Rows BH,Sl BR d3.2.2.l BG,Sl BQ d3.2.2.done BF,V (.map (some r5))]) kr).out (f:=(bN (zAd2 i1 m1 m4 m5))) hC kr kr (hP.at 0 rfl)),(h240.out (f:=(bN (zAd2 i1 m1 m4 m5))) hM hC kr kr)⟩)
    replace hm:=hm.2 hb
    refine aL ?_
    refine region (ePe T hS [12,53] [(43,I (wR (ie+1)))] fun a hS=>?_)
    exact ⟨⟨ni,wR (ie+1),d3.2.2.o.aq,d3.2.2.o.ax,d3.2.2.o.aE,d3.2.2.o.Rows,d3.2.2.l,d3.2.2.done,d3.2.2.failed⟩,⟨Z,_,na,m6,BS,BH,BR,BG,BQ,BF,hm.1,hS.sl _,hO,hP,h199,h201,h233,h236,h239,h240⟩,hm.2⟩
   replace hm:=hm.2 hb
   refine cl (by rfl) ?_
   exact ⟨Z,_,g9,vN,vM,vL,vK,jo,Ck,nZ,nT,vq,vf,vp,ve,hm,hS.sl _,hO,hP,h208,h212,h216,h218⟩
  clear hm
  refine qJ (is:=[3,7,12]) kr (by decide) ?_
  intro i hi
  rcases JE hi with rfl | rfl | rfl
  ·refine jy (by rfl) (gX T hS kr kr kr (sv:=V (.agg #[.int .i64 am.o.aq,.int .i64 am.o.ax,.int .i64 am.o.aE,.slice a2 am.o.Rows.length c2])) kr ?_)
   intro a hS
   refine cV (bI.of hS (bks:=[4,5,6,9]) kr hD) ?_
   intro hH
   refine qJ (is:=[7,12]) kr (by decide) ?_
   intro i hi
   rcases zi hi with rfl | rfl
   ·refine jy (by rfl) (gX T hS kr kr kr (sv:=Sl a3 am.l c3) kr ?_)
    intro a hS
    refine cV (bI.of hS (bks:=[4,5,6,9]) kr hD) ?_
    intro hH
    refine only 12 kr (by rfl) (gX T hS kr kr kr (sv:=Sl a4 am.done c4) kr ?_)
    intro a hS
    refine cV (bI.of hS (bks:=[4,5,6,9]) kr hD) ?_
    intro hH
    exact H _ _ ⟨_,hS.sl _,hO,hD,hH,h2,h3,h4,h1,h116⟩
   refine jy (by rfl) (gX T hS kr kr kr (sv:=Sl a4 am.done c4) kr ?_)
   intro a hS
   refine cV (bI.of hS (bks:=[4,5,6,9]) kr hD) ?_
   intro hH
   refine only 7 kr (by rfl) (gX T hS kr kr kr (sv:=Sl a3 am.l c3) kr ?_)
   intro a hS
   refine cV (bI.of hS (bks:=[4,5,6,9]) kr hD) ?_
   intro hH
   exact H _ _ ⟨_,hS.sl _,hO,hD,hH,h2,h3,h4,h1,h116⟩
  ·refine jy (by rfl) (gX T hS kr kr kr (sv:=Sl a3 am.l c3) kr ?_)
   intro a hS
   refine cV (bI.of hS (bks:=[4,5,6,9]) kr hD) ?_
   intro hH
   refine qJ (is:=[3,12]) kr (by decide) ?_
   intro i hi
   rcases zi hi with rfl | rfl
   ·refine jy (by rfl) (gX T hS kr kr kr (sv:=V (.agg #[.int .i64 am.o.aq,.int .i64 am.o.ax,.int .i64 am.o.aE,.slice a2 am.o.Rows.length c2])) kr ?_)
    intro a hS
    refine cV (bI.of hS (bks:=[4,5,6,9]) kr hD) ?_
    intro hH
    refine only 12 kr (by rfl) (gX T hS kr kr kr (sv:=Sl a4 am.done c4) kr ?_)
    intro a hS
    refine cV (bI.of hS (bks:=[4,5,6,9]) kr hD) ?_
    intro hH
    exact H _ _ ⟨_,hS.sl _,hO,hD,hH,h2,h3,h4,h1,h116⟩
   refine jy (by rfl) (gX T hS kr kr kr (sv:=Sl a4 am.done c4) kr ?_)
   intro a hS
   refine cV (bI.of hS (bks:=[4,5,6,9]) kr hD) ?_
   intro hH
   refine only 3 kr (by rfl) (gX T hS kr kr kr (sv:=V (.agg #[.int .i64 am.o.aq,.int .i64 am.o.ax,.int .i64 am.o.aE,.slice a2 am.o.Rows.length c2])) kr ?_)
   intro a hS
   refine cV (bI.of hS (bks:=[4,5,6,9]) kr hD) ?_
   intro hH
   exact H _ _ ⟨_,hS.sl _,hO,hD,hH,h2,h3,h4,h1,h116⟩
  refine jy (by rfl) (gX T hS kr kr kr (sv:=Sl a4 am.done c4) kr ?_)
  intro a hS
  refine cV (bI.of hS (bks:=[4,5,6,9]) kr hD) ?_
  intro hH
  refine qJ (is:=[3,7]) kr (by decide) ?_
  intro i hi
  rcases zi hi with rfl | rfl
  ·refine jy (by rfl) (gX T hS kr kr kr (sv:=V (.agg #[.int .i64 am.o.aq,.int .i64 am.o.ax,.int .i64 am.o.aE,.slice a2 am.o.Rows.length c2])) kr ?_)
   intro a hS
   refine cV (bI.of hS (bks:=[4,5,6,9]) kr hD) ?_
   intro hH
   refine only 7 kr (by rfl) (gX T hS kr kr kr (sv:=Sl a3 am.l c3) kr ?_)
   intro a hS
   refine cV (bI.of hS (bks:=[4,5,6,9]) kr hD) ?_
   intro hH
   exact H _ _ ⟨_,hS.sl _,hO,hD,hH,h2,h3,h4,h1,h116⟩
  refine jy (by rfl) (gX T hS kr kr kr (sv:=Sl a3 am.l c3) kr ?_)
  intro a hS
  refine cV (bI.of hS (bks:=[4,5,6,9]) kr hD) ?_
  intro hH
  refine only 3 kr (by rfl) (gX T hS kr kr kr (sv:=V (.agg #[.int .i64 am.o.aq,.int .i64 am.o.ax,.int .i64 am.o.aE,.slice a2 am.o.Rows.length c2])) kr ?_)
  intro a hS
  refine cV (bI.of hS (bks:=[4,5,6,9]) kr hD) ?_
  intro hH
  exact H _ _ ⟨_,hS.sl _,hO,hD,hH,h2,h3,h4,h1,h116⟩
 rintro a Nh ⟨Z,Lu,d1,ig,aU,ib,d7,fK,fX,jP,jL,j6,jY,gJ,gI,hm,hS,hO,hP,h126,h130,h134,h136⟩
 unfold VC90_J1 at hm
 refine b5 (fun a w=>∃ (Z:Nat->Nat) (X:Nat->Nat) (jd:List Bool) (o4:List (bW × Int)) (lV:Option Addr) (lT:Nat),VC90_J2 N Q d1 ig aU ib d7 jd o4/\St Tryz.f90.ntmps ⟨[],[(901,(161,[I d1,I ig,I aU,Sl jP ib jL,Sl j6 d7 jY,Sl lV jd lT,V (.map (some r5))]))]⟩ Z a w X/\fU (dx (zAd2 i1 m1 m4 m5)) w0 X0 w X/\Pin [(901,b1)] Z/\RS ay w X jP ib jL/\RS ao w X j6 d7 jY/\OS dz 4 w X 2004 lV jd lT/\OMS aQ tI false w X 2005 r5 o4) ?_ ?_
 ·refine bn ?_
  refine oPe T hS 2 [] [(56,V (.agg #[.int .u32 bG.done,.int .i64 bG.state])),(57,V (.agg #[.int .u32 0,.int .i64 0]))] fun a hS=>?_
  refine op1 (structEq (op:=.neq) (xs:=[.int .u32 bG.done,.int .i64 bG.state]) (ys:=[.int .u32 0,.int .i64 0]) (r:=(bG.done == 0 && (bG.state == 0 && true))) (b:=(!(bG.done == 0 && (bG.state == 0 && true)))) T hS kr kr kr kr kr kr kr kr ?_)
  intro a hS
  refine g8 ?_
  refine aF hS (b:=(!(bG.done == 0 && (bG.state == 0 && true)))) kr (fun hb=>?_) fun hb=>?_
  ·replace hm:=hm.1 hb
   refine gH [4,9,901] mixed hS ?_
   intro Cw zV hS hE hD hH
   replace hO:=hO.m2 hE
   replace h126:=h126.m1 hE
   replace h130:=h130.m1 hE
   replace h134:=h134.m2 hE
   replace h136:=h136.m2 hE
   refine tke T [0,4,1,2,3] [4,9,901] hS hH #[true,true,true,true,true,false,false,false,false,false] 5 [3,8] [(62,V (.map (some r5))),(63,V (.agg #[.int .u32 bG.done,.int .i64 bG.state]))] fun a hS=>?_
   refine yi (fun a w=>∃ X b158,St Tryz.f90.ntmps ⟨[(62,V (.map (some r5))),(65,I (wR (((aC fX bG).getD 0)+1))),(67,I ((b158:Nat):Int))],[(4,(147,[Pt 901 0])),(9,(164,[V (.int .u32 bG.done),I bG.state])),(901,(161,[I d1,I ig,I aU,Sl jP ib jL,Sl j6 d7 jY,Sl gJ fK gI,V (.map (some r5))]))]⟩ Z a w X/\fU (dx (zAd2 i1 m1 m4 m5)) w0 X0 w X/\M0 Cw zV w X/\bI Cw zV (mg [4,9,901] ⟨[(3,Pt 4 0),(8,Pt 9 0)],[(4,(147,[Pt 901 0])),(9,(164,[V (.int .u32 bG.done),I bG.state])),(901,(161,[I d1,I ig,I aU,Sl jP ib jL,Sl j6 d7 jY,Sl gJ fK gI,V (.map (some r5))]))]⟩) Z w/\OME aQ tI false w X 2005 r5 fX bG 0 b158/\RS ay w X jP ib jL/\RS ao w X j6 d7 jY/\OS dz 4 w X 2004 gJ fK gI) #[true,true,true,true,true,true,true,true,true,false] 1 ?_ (fun H=>?_)
   ·rintro a Jo ⟨Iy,b158,hS,hO,hD,hH,h157,h159,h160,h161⟩
    refine only 9 kr (by rfl) (JF aQ tI false (v:=I (wR (((aC fX bG).getD 0)+1))) (u:=wR (((aC fX bG).getD 0)+1)) bG hS kr kr kr kr fT kr h157 (fun _=>rfl) ?_)
    intro a GD hE h175 hS
    clear h157
    replace hO:=hO.m2 hE
    replace hD:=hD.ev hE rfl
    replace h159:=h159.m1 hE
    replace h160:=h160.m1 hE
    replace h161:=h161.m2 hE
    refine cV (bI.of hS (bks:=[4,9,901]) kr hD) ?_
    intro hH
    refine aV kr ?_
    replace hS:=hS.sl ⟨[],[(901,(161,[I d1,I ig,I aU,Sl jP ib jL,Sl j6 d7 jY,Sl gJ fK gI,V (.map (some r5))]))]⟩
    exact ⟨Z,_,fK,de fX bG (wR (((aC fX bG).getD 0)+1)),gJ,gI,hm,hS.sl _,hO,hP,h159,h160,h161,h175⟩
   clear hm
   refine qJ (is:=[5,7]) kr (by decide) ?_
   intro i hi
   rcases zi hi with rfl | rfl
   ·refine jy (by rfl) (AS aQ tI false (zv:=.int .i64 0) (z:=0) bG hS kr kr kr kr Tryz.underlying159 fT kr rfl h136 ?_)
    intro v162 a hv hS
    replace hv:tI.R _ _ [v162] _:=hv
    cases hv
    refine cV (bI.of hS (bks:=[4,9,901]) kr hD) ?_
    intro hH
    refine tke T [6] [4,9,901] hS hH #[true,true,true,true,true,true,true,false,false,false] 3 [64] [(65,I (wR (((aC fX bG).getD 0)+1)))] fun a hS=>?_
    refine only 7 kr (by rfl) (DJ aQ tI false (zv:=.int .i64 0) (z:=0) bG hS kr kr kr kr Tryz.underlying159 fT kr rfl kr h136 ?_)
    intro v163 b164 a Cq hE h166 hv hS
    clear h136
    replace hv:tI.R _ _ [v163] _:=hv
    cases hv
    replace hO:=hO.m2 hE
    replace hD:=hD.ev hE rfl
    replace h126:=h126.m1 hE
    replace h130:=h130.m1 hE
    replace h134:=h134.m2 hE
    refine cV (bI.of hS (bks:=[4,9,901]) kr hD) ?_
    intro hH
    refine tke T [8] [4,9,901] hS hH #[true,true,true,true,true,true,true,true,true,false] 1 [63,66] [(67,I ((b164:Nat):Int))] fun a hS=>?_
    exact H _ _ ⟨_,b164,hS.sl _,hO,hD,hH,h166,h126,h130,h134⟩
   refine jy (by rfl) (DJ aQ tI false (zv:=.int .i64 0) (z:=0) bG hS kr kr kr kr Tryz.underlying159 fT kr rfl kr h136 ?_)
   intro v167 b168 a Jq hE h170 hv hS
   clear h136
   replace hv:tI.R _ _ [v167] _:=hv
   cases hv
   replace hO:=hO.m2 hE
   replace hD:=hD.ev hE rfl
   replace h126:=h126.m1 hE
   replace h130:=h130.m1 hE
   replace h134:=h134.m2 hE
   refine cV (bI.of hS (bks:=[4,9,901]) kr hD) ?_
   intro hH
   refine tke T [8] [4,9,901] hS hH #[true,true,true,true,true,false,false,true,true,false] 3 [66] [(67,I ((b168:Nat):Int))] fun a hS=>?_
   refine only 5 kr (by rfl) (E0 aQ tI false bG hS kr kr kr kr Tryz.underlying159 fT h170 ?_)
   intro v171 a hv hS
   replace hv:tI.R _ _ [v171] _:=hv
   cases hv
   refine cV (bI.of hS (bks:=[4,9,901]) kr hD) ?_
   intro hH
   refine tke T [6] [4,9,901] hS hH #[true,true,true,true,true,true,true,true,true,false] 1 [63,64] [(65,I (wR (((aC fX bG).getD 0)+1)))] fun a hS=>?_
   exact H _ _ ⟨_,b168,hS.sl _,hO,hD,hH,h170,h126,h130,h134⟩
  replace hm:=hm.2 hb
  refine aL ?_
  exact ⟨Z,_,fK,fX,gJ,gI,hm,hS.sl _,hO,hP,h126,h130,h134,h136⟩
 rintro a Jn ⟨Z,FZ,jd,o4,lV,lT,hm,hS,hO,hP,h137,h138,h142,h144⟩
 unfold VC90_J2 at hm
 refine rPe T hS [] [(6,V (.slice none 0 0)),(7,B false)] fun a hS=>?_
 refine aZ ?_
 exact gF T hS hO (fun c h=>bS kr h) (fun c h=>bT (l:=(zAd2 i1 m1 m4 m5)) h) (bN (zAd2 i1 m1 m4 m5)) rfl (r:=[.slice none 0 0,.bool false]) kr (fun X' hM hC=>⟨([],false,(⟨(⟨d1,ig,aU,ib⟩:al),d7,jd,o4⟩:aX)),hm,none,0,jP,jL,j6,jY,lV,lT,rfl,OS.nil _ _ _ _ _,h137.m0 hM,h138.m0 hM,(OS.out (f:=(bN (zAd2 i1 m1 m4 m5))) h142 hM hC kr),((hS.cell (id:=901) (t:=161) (cs:=[I d1,I ig,I aU,Sl jP ib jL,Sl j6 d7 jY,Sl lV jd lT,V (.map (some r5))]) kr).out (f:=(bN (zAd2 i1 m1 m4 m5))) hC kr kr (hP.at 0 rfl)),(h144.out (f:=(bN (zAd2 i1 m1 m4 m5))) hM hC kr kr)⟩)
theorem C90 (N:Nat) (Fs:S100) (Fr:S101) (Fq:S102N N) (Fp:S105) (v:∀ (state:Int) (so:List aa) (am:aX),rC state so am->oh state so am < N+1->VC90 N state so am (fun r=>r=aG state so am)):S90N (N+1):=by
 intro w X state so am a1 c1 m1 a2 c2 a3 c3 a4 c4 m4 r5 m5  b1 i1 hp KG h1 h2 h3 h4 h5 ff hA
 refine (W90 N Fs Fr Fq Fp w X state so am a1 c1 m1 a2 c2 a3 c3 a4 c4 m4 r5 m5  b1 i1 _ (v state so am hp KG) h1 h2 h3 h4 h5 ff hA).mono ?_
 rintro _ _ _ _ ⟨r,rfl,h⟩
 exact h
theorem W89 (w0) (X0) (o_:al) (l_:List ab) (a1) (c1) (a2) (c2) (cz) (dJ) (i5) (Q:aX->Prop) (hm:VC89 o_ l_ Q) (h1:RS ay w0 X0 a1 o_.Rows c1) (h2:RS ao w0 X0 a2 l_ c2) :
  Ret Tryz.prog 89 #[.agg #[.int .i64 o_.aq,.int .i64 o_.ax,.int .i64 o_.aE,.slice a1 o_.Rows.length c1],.slice a2 l_.length c2] aJ w0 X0 (fun w X' v=>∃ r,Q r/\∃ cB cA iE iD oO oN GQ t0,v=.pointer (some ⟨t0,0,none⟩)/\RS ay w X' cB r.o.Rows cA/\RS ao w X' iE r.l iD/\OS dz 4 w X' cz oO r.done oN/\Cell w X' t0 i5 161 [.int .i64 r.o.aq,.int .i64 r.o.ax,.int .i64 r.o.aE,.slice cB r.o.Rows.length cA,.slice iE r.l.length iD,.slice oO r.done.length oN,.map (some GQ)]/\OMS aQ tI false w X' dJ GQ r.failed):=by
 unfold VC89 at hm
 replace hm:=hm (h1.sm kr)
 replace hm:=hm (h2.sm kr)
 refine enter Tryz.func89 rfl (vals:=[.agg #[.int .i64 o_.aq,.int .i64 o_.ax,.int .i64 o_.aE,.slice a1 o_.Rows.length c1],.slice a2 l_.length c2]) kr ?_
 intro Z a hS hO hM
 replace h1:=h1.m0 hM
 replace h2:=h2.m0 hM
 refine rM T hS ⟨[(1,Sl a2 l_ c2),(2,Pt 3 0)],[(3,(48,(cO o_ a1 c1)))]⟩ fun Z a tO wV hS hE hr=>?_
 replace hO:=hO.m2 hE
 replace h1:=h1.m1 hE
 replace h2:=h2.m1 hE
 clear hE hr
 refine dq [3] mixed hS ?_
 intro n5 oI hS hE hD hH
 replace hO:=hO.m2 hE
 replace h1:=h1.m1 hE
 replace h2:=h2.m1 hE
 refine tke T [0,1,2,3] [3] hS hH #[true,true,true,true,false,false,false,false,false] 5 [1,2] [(5,V (.agg #[.int .i64 o_.aq,.int .i64 o_.ax,.int .i64 o_.aE,.slice a1 o_.Rows.length c1])),(6,Sl a2 l_ c2),(8,I (lN l_))] fun a hS=>?_
 obtain ⟨FH,hm⟩:=hm
 refine yi (fun a w=>∃ X kT kQ dv,St Tryz.f89.ntmps ⟨[(11,V (.agg #[.int .i64 o_.aq,.int .i64 o_.ax,.int .i64 o_.aE,.slice a1 o_.Rows.length c1,.slice a2 l_.length c2,.slice kT (List.replicate (lN l_).toNat (false:Bool)).length kQ,.map (some dv)]))],[(3,(48,(cO o_ a1 c1)))]⟩ Z a w X/\Old w0 X0 w X/\M0 n5 oI w X/\bI n5 oI (mg [3] ⟨[(1,Sl a2 l_ c2),(2,Pt 3 0)],[(3,(48,(cO o_ a1 c1)))]⟩) Z w/\RS ay w X a1 o_.Rows c1/\RS ao w X a2 l_ c2/\OS dz 4 w X 1010 kT (List.replicate (lN l_).toNat (false:Bool)) kQ/\OMS aQ tI false w X 1011 dv ([]:List (bW × Int))) #[true,true,true,true,true,true,true,false,false] 2 ?_ (fun H=>?_)
 ·rintro a GK ⟨LT,kT,kQ,dv,hS,hO,hD,hH,h119,h120,h121,h125⟩
  clear FH
  replace hS:=hS.sl ⟨[(11,V (.agg #[.int .i64 o_.aq,.int .i64 o_.ax,.int .i64 o_.aE,.slice a1 o_.Rows.length c1,.slice a2 l_.length c2,.slice kT (List.replicate (lN l_).toNat (false:Bool)).length kQ,.map (some dv)]))],[(3,(48,(cO o_ a1 c1)))]⟩
  refine only 7 kr (by rfl) (Ic (cs:=#[.int .i64 o_.aq,.int .i64 o_.ax,.int .i64 o_.aE,.slice a1 o_.Rows.length c1,.slice a2 l_.length c2,.slice kT (List.replicate (lN l_).toNat (false:Bool)).length kQ,.map (some dv)]) hS kr kr kr kr (sy':=⟨[(12,Pt 13 0),(11,V (.agg #[.int .i64 o_.aq,.int .i64 o_.ax,.int .i64 o_.aE,.slice a1 o_.Rows.length c1,.slice a2 l_.length c2,.slice kT (List.replicate (lN l_).toNat (false:Bool)).length kQ,.map (some dv)]))],[(13,(161,[I o_.aq,I o_.ax,I o_.aE,Sl a1 o_.Rows c1,Sl a2 l_ c2,Sl kT (List.replicate (lN l_).toNat (false:Bool)) kQ,V (.map (some dv))])),(3,(48,(cO o_ a1 c1)))]⟩) kr ?_)
  intro Z a Cx zW hS hE DN
  replace hO:=hO.m2 hE
  replace hD:=hD.ev hE rfl
  replace h119:=h119.m1 hE
  replace h120:=h120.m1 hE
  replace h121:=h121.m2 hE
  replace h125:=h125.m2 hE
  replace hS:=hS.sl ⟨[(11,V (.agg #[.int .i64 o_.aq,.int .i64 o_.ax,.int .i64 o_.aE,.slice a1 o_.Rows.length c1,.slice a2 l_.length c2,.slice kT (List.replicate (lN l_).toNat (false:Bool)).length kQ,.map (some dv)])),(12,Pt 13 0)],[(3,(48,(cO o_ a1 c1))),(13,(161,[I o_.aq,I o_.ax,I o_.aE,Sl a1 o_.Rows c1,Sl a2 l_ c2,Sl kT (List.replicate (lN l_).toNat (false:Bool)) kQ,V (.map (some dv))]))]⟩
  refine cV ((bI.of hS (bks:=[3]) kr hD).rho DN kr) ?_
  intro hH
  refine DE T DN kr [8] [3] [4] hS kr kr kr hH (listed':=#[true,true,true,true,true,true,true,true,true]) (fuel:=0) (sy':=⟨[(4,Pt 13 0)],[(3,(48,(cO o_ a1 c1))),(13,(161,[I o_.aq,I o_.ax,I o_.aE,Sl a1 o_.Rows c1,Sl a2 l_ c2,Sl kT (List.replicate (lN l_).toNat (false:Bool)) kQ,V (.map (some dv))]))]⟩) kr (by rfl) ?_
  intro a hS
  refine aV kr ?_
  replace hS:=hS.sl ⟨[(4,Pt 13 0)],[(13,(161,[I o_.aq,I o_.ax,I o_.aE,Sl a1 o_.Rows c1,Sl a2 l_ c2,Sl kT (List.replicate (lN l_).toNat (false:Bool)) kQ,V (.map (some dv))]))]⟩
  refine aZ ?_
  exact fin T hS hO (zAd0 i5 dJ cz) rfl (r:=[.pointer (some ⟨Z 13,0,none⟩)]) kr (fun X' hM hC=>⟨(⟨o_,l_,List.replicate (lN l_).toNat (false:Bool),([]:List (bW × Int))⟩:aX),hm,a1,c1,a2,c2,kT,kQ,dv,(Z 13),rfl,h119.m0 hM,h120.m0 hM,(OS.out (f:=(zAd0 i5 dJ cz)) h121 hM hC kr),((hS.cell (id:=13) (t:=161) (cs:=[I o_.aq,I o_.ax,I o_.aE,Sl a1 o_.Rows c1,Sl a2 l_ c2,Sl kT (List.replicate (lN l_).toNat (false:Bool)) kQ,V (.map (some dv))]) kr).out (f:=(zAd0 i5 dJ cz)) hC kr kr rfl),(h125.out (f:=(zAd0 i5 dJ cz)) hM hC kr kr)⟩)
 clear hm
 refine qJ (is:=[4,5]) kr (by decide) ?_
 intro i hi
 rcases zi hi with rfl | rfl
 ·have hq:=FH
  refine jy (by rfl) (make (E:=4) (kl:=.i64) (kc:=.i64) (col:=1010) (T:=dz) T false hS kr kr kr kr kr kr hq.1 hq.2.1 (by have:=hq.2.2; have e_:((dz.bytes:Nat):Int)=1:=rfl; rw [e_]; omega) (by have:=hq.2.2; omega) (fun _ _=>rfl) ?_)
  intro b126 a si zY hE h129 hN hS
  clear hq hN
  replace hO:=hO.m2 hE
  replace hD:=hD.ev hE rfl
  replace h1:=h1.m1 hE
  replace h2:=h2.m1 hE
  replace hS:=hS.conv (t:=9) (y:=.slice (some ⟨b126,0,none⟩) (List.replicate (lN l_).toNat (false:Bool)).length (lN l_).toNat) kr (by rw [List.length_replicate])
  refine cV (bI.of hS (bks:=[3]) kr hD) ?_
  intro hH
  refine only 5 kr (by rfl) (AU aQ tI false 1011 hS kr kr ?_)
  intro sJ a qZ qQ hE h133 hS
  replace hO:=hO.m2 hE
  replace hD:=hD.ev hE rfl
  replace h1:=h1.m1 hE
  replace h2:=h2.m1 hE
  replace h129:=h129.m2 hE
  refine cV (bI.of hS (bks:=[3]) kr hD) ?_
  intro hH
  refine tke T [6] [3] hS hH #[true,true,true,true,true,true,true,false,false] 2 [5,6,8,9,10] [(11,V (.agg #[.int .i64 o_.aq,.int .i64 o_.ax,.int .i64 o_.aE,.slice a1 o_.Rows.length c1,.slice a2 l_.length c2,.slice (some ⟨b126,0,none⟩) (List.replicate (lN l_).toNat (false:Bool)).length (lN l_).toNat,.map (some sJ)]))] fun a hS=>?_
  exact H _ _ ⟨_,(some ⟨b126,0,none⟩),(lN l_).toNat,sJ,hS.sl _,hO,hD,hH,h1,h2,h129,h133⟩
 refine jy (by rfl) (AU aQ tI false 1011 hS kr kr ?_)
 intro GX a Cz LU hE h137 hS
 replace hO:=hO.m2 hE
 replace hD:=hD.ev hE rfl
 replace h1:=h1.m1 hE
 replace h2:=h2.m1 hE
 refine cV (bI.of hS (bks:=[3]) kr hD) ?_
 intro hH
 have hq:=FH
 refine only 4 kr (by rfl) (make (E:=4) (kl:=.i64) (kc:=.i64) (col:=1010) (T:=dz) T false hS kr kr kr kr kr kr hq.1 hq.2.1 (by have:=hq.2.2; have e_:((dz.bytes:Nat):Int)=1:=rfl; rw [e_]; omega) (by have:=hq.2.2; omega) (fun _ _=>rfl) ?_)
 intro b138 a sg vy hE h141 hN hS
 clear hq hN
 replace hO:=hO.m2 hE
 replace hD:=hD.ev hE rfl
 replace h1:=h1.m1 hE
 replace h2:=h2.m1 hE
 replace h137:=h137.m2 hE
 replace hS:=hS.conv (t:=9) (y:=.slice (some ⟨b138,0,none⟩) (List.replicate (lN l_).toNat (false:Bool)).length (lN l_).toNat) kr (by rw [List.length_replicate])
 refine cV (bI.of hS (bks:=[3]) kr hD) ?_
 intro hH
 refine tke T [6] [3] hS hH #[true,true,true,true,true,true,true,false,false] 2 [5,6,8,10,9] [(11,V (.agg #[.int .i64 o_.aq,.int .i64 o_.ax,.int .i64 o_.aE,.slice a1 o_.Rows.length c1,.slice a2 l_.length c2,.slice (some ⟨b138,0,none⟩) (List.replicate (lN l_).toNat (false:Bool)).length (lN l_).toNat,.map (some GX)]))] fun a hS=>?_
 exact H _ _ ⟨_,(some ⟨b138,0,none⟩),(lN l_).toNat,GX,hS.sl _,hO,hD,hH,h1,h2,h141,h137⟩
theorem C89 (v:∀ (o_:al) (l_:List ab),xI o_ l_->VC89 o_ l_ (fun r=>r=bB o_ l_)):S89:=by
 intro w X o_ l_ a1 c1 a2 c2 cz dJ i5  hp h1 h2
 refine (W89 w X o_ l_ a1 c1 a2 c2 cz dJ i5  _ (v o_ l_ hp) h1 h2).mono ?_
 rintro _ _ _ _ ⟨r,rfl,h⟩
 exact h
theorem W70 (G5:S20) (JR:S88) (JQ:S89) (E6:S90) (w0) (X0) (o_:al) (l_:List ab) (a1) (c1) (a2) (c2) (cz) (Q:(List aa) × Int->Prop) (hm:VC70 o_ l_ Q) (h1:RS ay w0 X0 a1 o_.Rows c1) (h2:RS ao w0 X0 a2 l_ c2) :
  Ret Tryz.prog 70 #[.agg #[.int .i64 o_.aq,.int .i64 o_.ax,.int .i64 o_.aE,.slice a1 o_.Rows.length c1],.slice a2 l_.length c2] aJ w0 X0 (fun w X' v=>∃ r,Q r/\∃ cB cA,v=.tuple #[.slice cB r.1.length cA,.int .i64 r.2]/\OS ar 56 w X' cz cB r.1 cA):=by
 unfold VC70 at hm
 replace hm:=hm (h1.sm kr)
 replace hm:=hm (h2.sm kr)
 refine enter Tryz.func70 rfl (vals:=[.agg #[.int .i64 o_.aq,.int .i64 o_.ax,.int .i64 o_.aE,.slice a1 o_.Rows.length c1],.slice a2 l_.length c2]) kr ?_
 intro Z a hS hO hM
 replace h1:=h1.m0 hM
 replace h2:=h2.m0 hM
 refine rM T hS ⟨[(1,Sl a2 l_ c2),(2,Pt 3 0)],[(3,(48,(cO o_ a1 c1)))]⟩ fun Z a sf wT hS hE hr=>?_
 replace hO:=hO.m2 hE
 replace h1:=h1.m1 hE
 replace h2:=h2.m1 hE
 clear hE hr
 refine bd ?_
 refine bn ?_
 refine oPe T hS 2 [] [(9,V (.agg #[.int .i64 o_.aq,.int .i64 o_.ax,.int .i64 o_.aE,.slice a1 o_.Rows.length c1])),(10,Sl a2 l_ c2)] fun a hS=>?_
 obtain ⟨hq,hm⟩:=hm
 refine op1 (call hS kr kr hb88 kr (fun _ _=>rfl) (JR _ _ o_ l_ 20 a1 c1 a2 c2 hq h1 h2) ?_)
 intro v101 a fh fo hE hp hS
 replace hO:=hO.m2 hE
 replace h1:=h1.m1 hE
 replace h2:=h2.m1 hE
 obtain ⟨av,hr⟩:∃ r,cq o_ l_ 20=r:=⟨_,rfl⟩
 replace hm:=hm av hr
 rw [hr] at hp
 clear hr
 subst hp
 refine ePe T hS [9,10,11] [(6,I av)] fun a hS=>?_
 refine rPe T hS [] [(13,B (av != 0))] fun a hS=>?_
 refine aF hS (b:=(av != 0)) kr (fun hb=>?_) fun hb=>?_
 ·replace hm:=hm.1 hb
  refine rP T hS ⟨[(4,V (.slice none 0 0)),(5,I av)],[]⟩ fun a hS=>?_
  refine aZ ?_
  exact fin T hS hO (fun c=>c) rfl (r:=[.slice none 0 0,.int .i64 av]) kr (fun X' hM hC=>⟨([],av),hm,none,0,rfl,OS.nil _ _ _ _ _⟩)
 replace hm:=hm.2 hb
 refine aL ?_
 refine dq [3] mixed hS ?_
 intro mH lB hS hE hD hH
 replace hO:=hO.m2 hE
 replace h1:=h1.m1 hE
 replace h2:=h2.m1 hE
 refine tke T [0,1,3,4] [3] hS hH #[true,true,false,true,true,false,false,false,false,false,false] 7 [] [(16,V (.agg #[.int .i64 o_.aq,.int .i64 o_.ax,.int .i64 o_.aE,.slice a1 o_.Rows.length c1])),(17,Sl a2 l_ c2),(20,I o_.aE)] fun a hS=>?_
 obtain ⟨hq,hm⟩:=hm
 refine only 2 kr (by rfl) (call hS kr kr hb89 kr (fun _ _=>rfl) (JQ _ _ o_ l_ a1 c1 a2 c2 4119 2121 702 hq h1 h2) ?_)
 intro v107 a EK B2 hE hp hS
 replace hO:=hO.m2 hE
 replace hD:=hD.ev hE rfl
 replace h1:=h1.m1 hE
 replace h2:=h2.m1 hE
 obtain ⟨iz,ip,lA,lz,kU,kR,fy,b122,hp,h113,h116,h119,qq,h120⟩:=hp
 obtain ⟨fa,hr⟩:∃ r,bB o_ l_=r:=⟨_,rfl⟩
 replace hm:=hm fa hr
 rw [hr] at h113 h116 h119 qq h120
 clear hr
 subst hp
 replace hm:=hm (h113.sm kr)
 replace hm:=hm (h116.sm kr)
 replace hm:=hm (h119.sm kr)
 replace hS:=hS.oe (id:=702) (t:=161) (cs:=[I fa.o.aq,I fa.o.ax,I fa.o.aE,Sl iz fa.o.Rows ip,Sl lA fa.l lz,Sl kU fa.done kR,V (.map (some fy))]) kr kr qq rfl
 replace hS:=hS.Bz (t:=18) (x:=V (.pointer (some ⟨b122,0,none⟩))) (y:=Pt 702 0) kr rfl
 have xV:∀ id,id≠702->(upd Z 702 b122) id=Z id:=fun id h=>vU _ h
 generalize (upd Z 702 b122)=Z at hS xV
 clear qq
 replace hS:=hS.sl ⟨[(1,Sl a2 l_ c2),(2,Pt 3 0),(16,V (.agg #[.int .i64 o_.aq,.int .i64 o_.ax,.int .i64 o_.aE,.slice a1 o_.Rows.length c1])),(17,Sl a2 l_ c2),(20,I o_.aE),(18,Pt 702 0)],[(3,(48,(cO o_ a1 c1))),(702,(161,[I fa.o.aq,I fa.o.ax,I fa.o.aE,Sl iz fa.o.Rows ip,Sl lA fa.l lz,Sl kU fa.done kR,V (.map (some fy))]))]⟩
 refine cV ((bI.of hS (bks:=[3]) kr hD).rho xV kr) ?_
 intro hH
 obtain ⟨hq,hm⟩:=hm
 refine only 5 kr (by rfl) (lv hS kr kr hb90 kr (E6 _ _ o_.aE [] fa none 0 1005 iz ip lA lz kU kR 4119 fy 2121 (Z 702) 702 hq (OS.nil _ _ _ _ _) h113 h116 h119 h120 (hS.cell (id:=702) (t:=161) (cs:=[I fa.o.aq,I fa.o.ax,I fa.o.aE,Sl iz fa.o.Rows ip,Sl lA fa.l lz,Sl kU fa.done kR,V (.map (some fy))]) kr) ⟨by decide,by decide⟩) ?_)
 intro v125 a tQ qR hE hp hS
 clear h120
 clear h119
 replace hO:=hO.m2 hE
 replace hD:=hD.ev hE rfl
 replace h1:=h1.m1 hE
 replace h2:=h2.m1 hE
 replace h113:=h113.m1 hE
 replace h116:=h116.m1 hE
 obtain ⟨lj,li,gJ,gI,FX,FR,FW,FQ,hp,h131,h134,h137,h140,Bk,h141⟩:=hp
 obtain ⟨bO,hr⟩:∃ r,aG o_.aE [] fa=r:=⟨_,rfl⟩
 replace hm:=hm bO hr
 rw [hr] at hp h131 h134 h137 h140 Bk h141
 clear hr
 subst hp
 replace hm:=hm (h131.sm kr)
 replace hm:=hm (h134.sm kr)
 replace hm:=hm (h137.sm kr)
 replace hm:=hm (h140.sm kr)
 replace hS:=hS.cx (id:=702) (t:=161) (cs:=[I bO.2.2.o.aq,I bO.2.2.o.ax,I bO.2.2.o.aE,Sl gJ bO.2.2.o.Rows gI,Sl FX bO.2.2.l FR,Sl FW bO.2.2.done FQ,V (.map (some fy))]) kr Bk
 clear Bk
 replace hS:=hS.sl ⟨[(1,Sl a2 l_ c2),(2,Pt 3 0),(16,V (.agg #[.int .i64 o_.aq,.int .i64 o_.ax,.int .i64 o_.aE,.slice a1 o_.Rows.length c1])),(17,Sl a2 l_ c2),(20,I o_.aE),(18,Pt 702 0),(21,V (.tuple #[.slice lj bO.1.length li,.bool bO.2.1]))],[(3,(48,(cO o_ a1 c1))),(702,(161,[I bO.2.2.o.aq,I bO.2.2.o.ax,I bO.2.2.o.aE,Sl gJ bO.2.2.o.Rows gI,Sl FX bO.2.2.l FR,Sl FW bO.2.2.done FQ,V (.map (some fy))]))]⟩
 refine cV ((bI.of hS (bks:=[3]) kr hD).rho xV kr) ?_
 intro hH
 refine DE T xV kr [6,7,8,9,10] [3] [1,2,7,8] hS kr kr kr hH (listed':=#[true,true,true,true,true,true,true,true,true,true,true]) (fuel:=0) (sy':=⟨[(1,Sl a2 l_ c2),(2,Pt 3 0),(7,Sl lj bO.1 li),(8,B bO.2.1)],[(3,(48,(cO o_ a1 c1))),(702,(161,[I bO.2.2.o.aq,I bO.2.2.o.ax,I bO.2.2.o.aE,Sl gJ bO.2.2.o.Rows gI,Sl FX bO.2.2.l FR,Sl FW bO.2.2.done FQ,V (.map (some fy))]))]⟩) kr (by rfl) ?_
 intro a hS
 refine aV kr ?_
 replace hS:=hS.sl ⟨[(1,Sl a2 l_ c2),(2,Pt 3 0),(7,Sl lj bO.1 li),(8,B bO.2.1)],[(3,(48,(cO o_ a1 c1)))]⟩
 refine bd ?_
 refine b5 (fun a w=>∃ (Z:Nat->Nat) (X:Nat->Nat) (o4:List aa) (gm:Bool) (vw:Option Addr) (vk:Nat),VC70_J1 Q o4 gm/\St Tryz.f70.ntmps ⟨[(7,Sl vw o4 vk),(32,B gm)],[]⟩ Z a w X/\Old w0 X0 w X/\OS ar 56 w X 1005 vw o4 vk) ?_ ?_
 ·refine region ?_
  refine oPe T hS 3 [8] [(26,B (!bO.2.1))] fun a hS=>?_
  rcases bft (!bO.2.1) with hb | hb
  ·replace hS:=hS.lit (t:=26) kr hb
   replace hm:=hm.1 hb
   refine eP T hS ⟨[(7,Sl lj bO.1 li),(32,B true)],[]⟩ fun a hS=>?_
   exact ⟨Z,_,bO.1,true,lj,li,hm,hS.sl _,hO,h131⟩
  replace hS:=hS.lit (t:=26) kr hb
  replace hm:=hm.2 hb
  refine oP T hS 3 ⟨[(7,Sl lj bO.1 li),(26,B false),(27,V (.agg #[.int .i64 o_.aq,.int .i64 o_.ax,.int .i64 o_.aE,.slice a1 o_.Rows.length c1])),(28,Sl a2 l_ c2),(29,Sl lj bO.1 li)],[]⟩ fun a hS=>?_
  obtain ⟨hq,hm⟩:=hm
  refine op1 (call hS kr kr hb20 kr (fun _ _=>rfl) (Ret.mI (G5 _ (eu 1005 _) o_ l_ bO.1 a1 c1 a2 c2 lj li hq (h1.m0 (M0.eu 1005)) (h2.m0 (M0.eu 1005)) h131.eu)) ?_)
  intro v148 a EG F4 hE hp hS
  replace hO:=hO.m2 hE
  replace h1:=h1.m1 hE
  replace h2:=h2.m1 hE
  replace h131:=h131.m2 hE
  obtain ⟨_,hp⟩:=hp
  obtain ⟨oa,hr⟩:∃ r,cY o_ l_ bO.1=r:=⟨_,rfl⟩
  replace hm:=hm oa hr
  rw [hr] at hp
  clear hr
  subst hp
  refine ePe T hS [26,27,28,29,30] [(32,B (!oa))] fun a hS=>?_
  exact ⟨Z,_,bO.1,(!oa),lj,li,hm,hS.sl _,hO,h131⟩
 rintro a Ad ⟨Z,wU,o4,gm,vw,vk,hm,hS,hO,h146⟩
 unfold VC70_J1 at hm
 refine aF hS (b:=gm) kr (fun hb=>?_) fun hb=>?_
 ·replace hm:=hm.1 hb
  refine rPe T hS [7,32] [(4,V (.slice none 0 0)),(5,I 41)] fun a hS=>?_
  refine aZ ?_
  exact fin T hS hO (fun c=>c) rfl (r:=[.slice none 0 0,.int .i64 41]) kr (fun X' hM hC=>⟨([],41),hm,none,0,rfl,OS.nil _ _ _ _ _⟩)
 replace hm:=hm.2 hb
 refine aL ?_
 refine rPe T hS [7,32] [(4,Sl vw o4 vk),(5,I 0)] fun a hS=>?_
 refine aZ ?_
 exact fin T hS hO (zAd1 cz) rfl (r:=[.slice vw o4.length vk,.int .i64 0]) kr (fun X' hM hC=>⟨(o4,0),hm,vw,vk,rfl,(OS.out (f:=(zAd1 cz)) h146 hM hC kr)⟩)
theorem C70 (G5:S20) (JR:S88) (JQ:S89) (E6:S90) (v:∀ (o_:al) (l_:List ab),xp o_ l_->VC70 o_ l_ (fun r=>r=bj o_ l_)):S70:=by
 intro w X o_ l_ a1 c1 a2 c2 cz  hp h1 h2
 refine (W70 G5 JR JQ E6 w X o_ l_ a1 c1 a2 c2 cz  _ (v o_ l_ hp) h1 h2).mono ?_
 rintro _ _ _ _ ⟨r,rfl,h⟩
 exact h
theorem W84 (w0) (X0) (x_:au) (Q:Int->Prop) (hm:VC84 x_ Q) :
  Ret Tryz.prog 84 #[.agg #[.int .i64 x_.bh,.int .i64 x_.ah,.int .i64 x_.N]] aJ w0 X0 (fun w X' v=>∃ r,Q r/\v=.int .i64 r):=by
 unfold VC84 at hm
 refine enter Tryz.func84 rfl (vals:=[.agg #[.int .i64 x_.bh,.int .i64 x_.ah,.int .i64 x_.N]]) kr ?_
 intro Z a hS hO hM
 refine rM T hS ⟨[(1,Pt 2 0)],[(2,(61,(cE x_)))]⟩ fun Z a n5 oI hS hE hr=>?_
 replace hO:=hO.m2 hE
 clear hE hr
 refine bd ?_
 refine aN ?_
 refine rPe T hS [] [(3,B ((x_.bh != 1) && (x_.bh != 2)))] (sp:=[7]) fun a hS=>?_
 refine aF hS (b:=((x_.bh != 1) && (x_.bh != 2))) kr (fun hb=>?_) fun hb=>?_
 ·replace hm:=hm.1 hb
  refine rP T hS ⟨[(2,I 8)],[]⟩ fun a hS=>?_
  refine aZ ?_
  exact fin T hS hO (fun c=>c) rfl (r:=[.int .i64 8]) kr (fun X' hM hC=>⟨8,hm,rfl⟩)
 replace hm:=hm.2 hb
 refine rPe T hS [3] [(12,B ((decide (x_.ah < 1)) || (decide (x_.ah > 1000))))] (sp:=[16]) fun a hS=>?_
 refine aF hS (b:=((decide (x_.ah < 1)) || (decide (x_.ah > 1000)))) kr (fun hb=>?_) fun hb=>?_
 ·replace hm:=hm.1 hb
  refine rP T hS ⟨[(2,I 2)],[]⟩ fun a hS=>?_
  refine aZ ?_
  exact fin T hS hO (fun c=>c) rfl (r:=[.int .i64 2]) kr (fun X' hM hC=>⟨2,hm,rfl⟩)
 replace hm:=hm.2 hb
 refine rPe T hS [12] [(21,B ((x_.bh == 1) && ((decide (x_.N < 0)) || (decide (x_.N≥64)))))] (sp:=[25,29]) fun a hS=>?_
 refine aF hS (b:=((x_.bh == 1) && ((decide (x_.N < 0)) || (decide (x_.N≥64))))) kr (fun hb=>?_) fun hb=>?_
 ·replace hm:=hm.1 hb
  refine rP T hS ⟨[(2,I 31)],[]⟩ fun a hS=>?_
  refine aZ ?_
  exact fin T hS hO (fun c=>c) rfl (r:=[.int .i64 31]) kr (fun X' hM hC=>⟨31,hm,rfl⟩)
 replace hm:=hm.2 hb
 refine rP T hS ⟨[(35,B ((x_.bh == 2) && ((decide (x_.N < 0)) || (decide (x_.N > 1000000)))))],[]⟩ (sp:=[39,43]) fun a hS=>?_
 refine aF hS (b:=((x_.bh == 2) && ((decide (x_.N < 0)) || (decide (x_.N > 1000000))))) kr (fun hb=>?_) fun hb=>?_
 ·replace hm:=hm.1 hb
  refine rPe T hS [35] [(2,I 7)] fun a hS=>?_
  refine aZ ?_
  exact fin T hS hO (fun c=>c) rfl (r:=[.int .i64 7]) kr (fun X' hM hC=>⟨7,hm,rfl⟩)
 replace hm:=hm.2 hb
 refine aL ?_
 refine rPe T hS [35] [(2,I 0)] fun a hS=>?_
 refine aZ ?_
 exact fin T hS hO (fun c=>c) rfl (r:=[.int .i64 0]) kr (fun X' hM hC=>⟨0,hm,rfl⟩)
theorem C84 (v:∀ (x_:au),VC84 x_ (fun r=>r=fW x_)):S84:=by
 intro w X x_    
 refine (W84 w X x_    _ (v x_)).mono ?_
 rintro _ _ _ _ ⟨r,rfl,h⟩
 exact h
theorem W55 (JV:S84) (w0) (X0) (l_:List au) (a1) (c1) (Q:Int × Int->Prop) (hm:VC55 l_ Q) (h1:RS aO w0 X0 a1 l_ c1) :
  Ret Tryz.prog 55 #[.slice a1 l_.length c1] aJ w0 X0 (fun w X' v=>∃ r,Q r/\v=.tuple #[.int .i64 r.1,.int .i64 r.2]):=by
 unfold VC55 at hm
 replace hm:=hm (h1.sm kr)
 refine enter Tryz.func55 rfl (vals:=[.slice a1 l_.length c1]) kr ?_
 intro Z a hS hO hM
 replace h1:=h1.m0 hM
 refine rPe T hS [] [] fun a hS=>?_
 refine bd ?_
 refine rPe T hS [] [(10,B (decide ((lN l_) > 10000)))] fun a hS=>?_
 refine aF hS (b:=decide ((lN l_) > 10000)) kr (fun hb=>?_) fun hb=>?_
 ·replace hm:=hm.1 hb
  refine rPe T hS [0,10] [(2,I 0),(3,I 3)] fun a hS=>?_
  refine aZ ?_
  exact fin T hS hO (fun c=>c) rfl (r:=[.int .i64 0,.int .i64 3]) kr (fun X' hM hC=>⟨(0,3),hm,rfl⟩)
 replace hm:=hm.2 hb
 refine aL ?_
 refine bn ?_
 refine op1 (oR kI tI false 1012 hS kr kr ?_)
 intro dN a fh fo hE h104 hS
 replace hO:=hO.m2 hE
 replace h1:=h1.m1 hE
 refine ePe T hS [10,11] [(4,V (.map (some dN)))] fun a hS=>?_
 refine b5 (fun a w=>∃ Z X,VC55_J1 l_ Q/\St Tryz.f55.ntmps ⟨[(0,Sl a1 l_ c1)],[]⟩ Z a w X/\Old w0 X0 w X/\RS aO w X a1 l_ c1) ?_ ?_
 ·refine rPe T hS [] [(12,Sl a1 l_ c1),(13,I (lN l_)),(14,I 0)] fun a hS=>?_
  refine aN ?_
  obtain ⟨I1,μ1,cy,hm⟩:=hm
  refine cw (σ:=(List (Int × Int)) × Int) (fun s a w=>∃ Z X,I1 s.1 s.2/\St Tryz.f55.ntmps ⟨[(0,Sl a1 l_ c1),(4,V (.map (some dN))),(12,Sl a1 l_ c1),(13,I (lN l_)),(14,I s.2)],[]⟩ Z a w X/\Old w0 X0 w X/\RS aO w X a1 l_ c1/\OM kI tI false w X 1012 dN s.1/\RS aO w X a1 l_ c1) (fun s=>μ1 s.1 s.2) (⟨([]:List (Int × Int)),0⟩) ?_ ?_
  ·exact ⟨Z,_,cy,hS.sl _,hO,h1,h104,h1⟩
  rintro ⟨gB,bE⟩ a Jt ⟨Z,tE,hI,hS,hO,h106,h108,h109⟩
  replace hm:=hm gB bE hI
  clear hI cy
  refine rPe T hS [] [(15,B (decide (bE < (lN l_))))] fun a hS=>?_
  refine bd ?_
  refine aF hS (b:=decide (bE < (lN l_))) kr (fun hb=>?_) fun hb=>?_
  ·replace hm:=hm.1 hb
   refine aL (bd ?_)
   refine aN ?_
   refine bn ?_
   refine oPe T hS 1 [15] [(16,I bE)] fun a hS=>?_
   obtain ⟨hq,hm⟩:=hm
   refine op1 (index (e:=61) (k:=.i64) T hS kr kr kr kr h109 kr kr hq.1 hq.2 ?_)
   intro B7 a h112 hS
   refine op1 (eB T hS kr kr kr h112 kr kr ?_)
   intro v113 a hv hS
   subst hv
   refine eM T hS ⟨[(0,Sl a1 l_ c1),(4,V (.map (some dN))),(5,I bE),(6,Pt 7 0),(12,Sl a1 l_ c1),(13,I (lN l_)),(14,I bE)],[(7,(61,(cE (gi l_ bE))))]⟩ fun Z a vQ B0 hS hE hr=>?_
   replace hO:=hO.m2 hE
   replace h106:=h106.m1 hE
   replace h108:=h108.m2 hE
   replace h109:=h109.m1 hE
   clear hE hr
   refine bd ?_
   refine bn ?_
   refine oPe T hS 1 [] [(19,V (.agg #[.int .i64 ((gi l_ bE).bh),.int .i64 ((gi l_ bE).ah),.int .i64 ((gi l_ bE).N)]))] fun a hS=>?_
   refine op1 (call hS kr kr hb84 kr (fun _ _=>rfl) (JV _ _ (gi l_ bE)) ?_)
   intro v114 a o5 tF hE hp hS
   replace hO:=hO.m2 hE
   replace h106:=h106.m1 hE
   replace h108:=h108.m2 hE
   replace h109:=h109.m1 hE
   obtain ⟨d4,hr⟩:∃ r,fW (gi l_ bE)=r:=⟨_,rfl⟩
   replace hm:=hm d4 hr
   rw [hr] at hp
   clear hr
   subst hp
   refine ePe T hS [19,20] [(7,I d4)] fun a hS=>?_
   refine rPe T hS [] [(22,B (d4 != 0))] fun a hS=>?_
   refine aF hS (b:=(d4 != 0)) kr (fun hb=>?_) fun hb=>?_
   ·replace hm:=hm.1 hb
    refine rP T hS ⟨[(2,I bE),(3,I d4)],[]⟩ fun a hS=>?_
    refine aZ ?_
    exact fin T hS hO (fun c=>c) rfl (r:=[.int .i64 bE,.int .i64 d4]) kr (fun X' hM hC=>⟨(bE,d4),hm,rfl⟩)
   replace hm:=hm.2 hb
   refine aL (bd ?_)
   refine bn ?_
   refine oPe T hS 3 [7,22] [(25,V (.map (some dN))),(27,I ((gi l_ bE).ah))] fun a hS=>?_
   refine op1 (jB kI tI false (zv:=.int .i64 0) (z:=0) ((gi l_ bE).ah) hS kr kr kr kr Tryz.underlying113 Tryz.underlying3 kr rfl h108 ?_)
   intro v118 a hv hS
   replace hv:tI.R _ _ [v118] _:=hv
   cases hv
   refine ePe T hS [25,27,28] [(33,B ((((aC gB ((gi l_ bE).ah)).getD 0) == 1) == (((gi l_ bE).bh) == 1)))] fun a hS=>?_
   refine aF hS (b:=((((aC gB ((gi l_ bE).ah)).getD 0) == 1) == (((gi l_ bE).bh) == 1))) kr (fun hb=>?_) fun hb=>?_
   ·replace hm:=hm.1 hb
    refine rP T hS ⟨[(2,I bE),(3,I 33)],[]⟩ fun a hS=>?_
    refine aZ ?_
    exact fin T hS hO (fun c=>c) rfl (r:=[.int .i64 bE,.int .i64 33]) kr (fun X' hM hC=>⟨(bE,33),hm,rfl⟩)
   replace hm:=hm.2 hb
   refine aL ?_
   refine region ?_
   refine oP T hS 5 ⟨[(0,Sl a1 l_ c1),(4,V (.map (some dN))),(12,Sl a1 l_ c1),(13,I (lN l_)),(14,I bE),(35,V (.map (some dN))),(37,I ((gi l_ bE).ah)),(39,I ((gi l_ bE).bh))],[]⟩ fun a hS=>?_
   refine op1 (sZ kI tI false (v:=I ((gi l_ bE).bh)) (u:=(gi l_ bE).bh) ((gi l_ bE).ah) hS kr kr kr kr Tryz.underlying113 Tryz.underlying3 kr h108 rfl ?_)
   intro a vR hE h120 hS
   clear h108
   replace hO:=hO.m2 hE
   replace h106:=h106.m1 hE
   replace h109:=h109.m1 hE
   refine g8 ?_
   refine region (ePe T hS [] [(14,I (wR (bE+1)))] fun a hS=>?_)
   exact ⟨⟨de gB ((gi l_ bE).ah) ((gi l_ bE).bh),wR (bE+1)⟩,⟨Z,_,hm.1,hS.sl _,hO,h106,h120,h109⟩,hm.2⟩
  replace hm:=hm.2 hb
  refine cl (by rfl) ?_
  exact ⟨Z,_,hm,hS.sl _,hO,h106⟩
 rintro a tQ ⟨Z,P2,hm,hS,hO,h105⟩
 unfold VC55_J1 at hm
 refine rPe T hS [0] [(2,I (lN l_)),(3,I 0)] fun a hS=>?_
 refine aZ ?_
 exact fin T hS hO (fun c=>c) rfl (r:=[.int .i64 (lN l_),.int .i64 0]) kr (fun X' hM hC=>⟨((lN l_),0),hm,rfl⟩)
theorem C55 (JV:S84) (v:∀ (l_:List au),VC55 l_ (fun r=>r=bw l_)):S55:=by
 intro w X l_ a1 c1   h1
 refine (W55 JV w X l_ a1 c1   _ (v l_) h1).mono ?_
 rintro _ _ _ _ ⟨r,rfl,h⟩
 exact h
theorem W94 (w0) (X0) (l_:List au) (process:Int) (a1) (c1) (Q:Int->Prop) (hm:VC94 l_ process Q) (h1:RS aO w0 X0 a1 l_ c1) :
  Ret Tryz.prog 94 #[.slice a1 l_.length c1,.int .i64 process] aJ w0 X0 (fun w X' v=>∃ r,Q r/\v=.int .i64 r):=by
 unfold VC94 at hm
 replace hm:=hm (h1.sm kr)
 refine enter Tryz.func94 rfl (vals:=[.slice a1 l_.length c1,.int .i64 process]) kr ?_
 intro Z a hS hO hM
 replace h1:=h1.m0 hM
 refine rPe T hS [] [] fun a hS=>?_
 refine rPe T hS [] [(5,I (-1))] fun a hS=>?_
 refine b5 (fun a w=>∃ (Z:Nat->Nat) (X:Nat->Nat) (bv:Int),VC94_J1 Q bv/\St Tryz.f94.ntmps ⟨[(5,I bv)],[]⟩ Z a w X/\Old w0 X0 w X) ?_ ?_
 ·refine rPe T hS [] [(6,I 0)] fun a hS=>?_
  refine aN ?_
  obtain ⟨I1,μ1,cy,hm⟩:=hm
  refine cw (σ:=Int × Int) (fun s a w=>∃ Z X,I1 s.1 s.2/\St Tryz.f94.ntmps ⟨[(0,Sl a1 l_ c1),(1,I process),(5,I s.1),(6,I s.2)],[]⟩ Z a w X/\Old w0 X0 w X/\RS aO w X a1 l_ c1) (fun s=>μ1 s.1 s.2) (⟨(-1),0⟩) ?_ ?_
  ·exact ⟨Z,_,cy,hS.sl _,hO,h1⟩
  rintro ⟨be,fD⟩ a o5 ⟨Z,w6,hI,hS,hO,h102⟩
  replace hm:=hm be fD hI
  clear hI cy
  refine bd ?_
  refine rPe T hS [] [(10,B (decide (fD < (lN l_))))] fun a hS=>?_
  refine aF hS (b:=decide (fD < (lN l_))) kr (fun hb=>?_) fun hb=>?_
  ·replace hm:=hm.1 hb
   refine aL ?_
   refine b5 (fun a w=>∃ (Z:Nat->Nat) (X:Nat->Nat) (d9:Int),VC94_J2 I1 μ1 be fD d9/\St Tryz.f94.ntmps ⟨[(0,Sl a1 l_ c1),(1,I process),(5,I d9),(6,I fD)],[]⟩ Z a w X/\Old w0 X0 w X/\RS aO w X a1 l_ c1) ?_ ?_
   ·refine aN ?_
    refine bn ?_
    refine oPe T hS 2 [10] [(13,Sl a1 l_ c1),(14,I fD)] fun a hS=>?_
    obtain ⟨hq,hm⟩:=hm
    refine op1 (index (e:=61) (k:=.i64) T hS kr kr kr kr h102 kr kr hq.1 hq.2 ?_)
    intro Gh a h108 hS
    refine op1 (fc (off:=1) (fsz:=1) (ft:=3) (TF:=tI) (y:=(gi l_ fD).ah) T hS kr kr kr h108 kr kr kr (fun cs h=>gV h) ?_)
    intro w8 a h110 hS
    refine op1 (eC T hS kr kr kr h110 rfl kr ?_)
    intro v111 a hv hS
    cases hv
    refine ePe T hS [13,14,15,16,17] [(19,B (((gi l_ fD).ah) == process))] fun a hS=>?_
    refine aF hS (b:=(((gi l_ fD).ah) == process)) kr (fun hb=>?_) fun hb=>?_
    ·replace hm:=hm.1 hb
     refine region (ePe T hS [19] [(5,I fD)] fun a hS=>?_)
     exact ⟨Z,_,fD,hm,hS.sl _,hO,h102⟩
    replace hm:=hm.2 hb
    refine aL ?_
    exact ⟨Z,_,be,hm,hS.sl _,hO,h102⟩
   rintro a vS ⟨Z,tG,d9,hm,hS,hO,h105⟩
   unfold VC94_J2 at hm
   refine region (ePe T hS [] [(6,I (wR (fD+1)))] fun a hS=>?_)
   exact ⟨⟨d9,wR (fD+1)⟩,⟨Z,_,hm.1,hS.sl _,hO,h105⟩,hm.2⟩
  replace hm:=hm.2 hb
  refine cl (by rfl) ?_
  exact ⟨Z,_,be,hm,hS.sl _,hO⟩
 rintro a Af ⟨Z,tF,bv,hm,hS,hO⟩
 unfold VC94_J1 at hm
 refine rPe T hS [5] [(4,I bv)] fun a hS=>?_
 refine aZ ?_
 exact fin T hS hO (fun c=>c) rfl (r:=[.int .i64 bv]) kr (fun X' hM hC=>⟨bv,hm,rfl⟩)
theorem C94 (v:∀ (l_:List au) (process:Int),VC94 l_ process (fun r=>r=hJ l_ process)):S94:=by
 intro w X l_ process a1 c1   h1
 refine (W94 w X l_ process a1 c1   _ (v l_ process) h1).mono ?_
 rintro _ _ _ _ ⟨r,rfl,h⟩
 exact h
theorem W79 (JN:S94) (w0) (X0) (l_:List au) (process:Int) (a1) (c1) (Q:Bool->Prop) (hm:VC79 l_ process Q) (h1:RS aO w0 X0 a1 l_ c1) :
  Ret Tryz.prog 79 #[.slice a1 l_.length c1,.int .i64 process] aJ w0 X0 (fun w X' v=>∃ r,Q r/\v=.bool r):=by
 unfold VC79 at hm
 replace hm:=hm (h1.sm kr)
 refine enter Tryz.func79 rfl (vals:=[.slice a1 l_.length c1,.int .i64 process]) kr ?_
 intro Z a hS hO hM
 replace h1:=h1.m0 hM
 refine rPe T hS [] [] fun a hS=>?_
 refine bn ?_
 refine oPe T hS 2 [1] [(6,Sl a1 l_ c1),(7,I process)] fun a hS=>?_
 refine op1 (call hS kr kr hb94 kr (fun _ _=>rfl) (JN _ _ l_ process a1 c1 h1) ?_)
 intro v101 a fh fo hE hp hS
 replace hO:=hO.m2 hE
 replace h1:=h1.m1 hE
 obtain ⟨av,hr⟩:∃ r,hJ l_ process=r:=⟨_,rfl⟩
 replace hm:=hm av hr
 rw [hr] at hp
 clear hr
 subst hp
 refine ePe T hS [6,7,8] [(5,I av)] fun a hS=>?_
 refine bn ?_
 refine oPe T hS 3 [] [(11,B (decide (av≥0)))] fun a hS=>?_
 rcases bft (decide (av≥0)) with hb | hb
 ·replace hS:=hS.lit (t:=11) kr hb
  replace hm:=hm.1 hb
  refine oPe T hS 2 [0,5] [(12,Sl a1 l_ c1),(13,I av)] fun a hS=>?_
  obtain ⟨hq,hm⟩:=hm
  refine op1 (index (e:=61) (k:=.i64) T hS kr kr kr kr h1 kr kr hq.1 hq.2 ?_)
  intro w9 a h106 hS
  refine op1 (fc (off:=0) (fsz:=1) (ft:=3) (TF:=tI) (y:=(gi l_ av).bh) T hS kr kr kr h106 kr kr kr (fun cs h=>lk h) ?_)
  intro Gh a h108 hS
  refine op1 (eC T hS kr kr kr h108 rfl kr ?_)
  intro v109 a hv hS
  cases hv
  refine ePe T hS [11,12,13,14,15,16] [(4,B (((gi l_ av).bh) == 1))] fun a hS=>?_
  refine aZ ?_
  exact fin T hS hO (fun c=>c) rfl (r:=[.bool (((gi l_ av).bh) == 1)]) kr (fun X' hM hC=>⟨(((gi l_ av).bh) == 1),hm,rfl⟩)
 replace hS:=hS.lit (t:=11) kr hb
 replace hm:=hm.2 hb
 refine ePe T hS [0,5,11] [(4,B false)] fun a hS=>?_
 refine aZ ?_
 exact fin T hS hO (fun c=>c) rfl (r:=[.bool false]) kr (fun X' hM hC=>⟨false,hm,rfl⟩)
theorem C79 (JN:S94) (v:∀ (l_:List au) (process:Int),VC79 l_ process (fun r=>r=e9 l_ process)):S79:=by
 intro w X l_ process a1 c1   h1
 refine (W79 JN w X l_ process a1 c1   _ (v l_ process) h1).mono ?_
 rintro _ _ _ _ ⟨r,rfl,h⟩
 exact h
theorem W50 (G4:S79) (w0) (X0) (l_:List au) (a1) (c1) (Q:Int × Int->Prop) (hm:VC50 l_ Q) (h1:RS aO w0 X0 a1 l_ c1) :
  Ret Tryz.prog 50 #[.slice a1 l_.length c1] aJ w0 X0 (fun w X' v=>∃ r,Q r/\v=.tuple #[.int .i64 r.1,.int .i64 r.2]):=by
 unfold VC50 at hm
 replace hm:=hm (h1.sm kr)
 refine enter Tryz.func50 rfl (vals:=[.slice a1 l_.length c1]) kr ?_
 intro Z a hS hO hM
 replace h1:=h1.m0 hM
 refine rPe T hS [] [] fun a hS=>?_
 refine bd ?_
 refine rPe T hS [] [(8,B (decide ((lN l_) > 10000)))] fun a hS=>?_
 refine aF hS (b:=decide ((lN l_) > 10000)) kr (fun hb=>?_) fun hb=>?_
 ·replace hm:=hm.1 hb
  refine rPe T hS [0,8] [(2,I 0),(3,I 3)] fun a hS=>?_
  refine aZ ?_
  exact fin T hS hO (fun c=>c) rfl (r:=[.int .i64 0,.int .i64 3]) kr (fun X' hM hC=>⟨(0,3),hm,rfl⟩)
 replace hm:=hm.2 hb
 refine aL ?_
 refine b5 (fun a w=>∃ Z X,VC50_J1 l_ Q/\St Tryz.f50.ntmps ⟨[(0,Sl a1 l_ c1)],[]⟩ Z a w X/\Old w0 X0 w X/\RS aO w X a1 l_ c1) ?_ ?_
 ·refine rPe T hS [8] [(4,I 0)] fun a hS=>?_
  refine aN ?_
  obtain ⟨I1,μ1,cy,hm⟩:=hm
  refine cw (σ:=Int) (fun s a w=>∃ Z X,I1 s/\St Tryz.f50.ntmps ⟨[(0,Sl a1 l_ c1),(4,I s)],[]⟩ Z a w X/\Old w0 X0 w X/\RS aO w X a1 l_ c1) (fun s=>μ1 s) (0) ?_ ?_
  ·exact ⟨Z,_,cy,hS.sl _,hO,h1⟩
  rintro be a EH ⟨Z,LU,hI,hS,hO,h102⟩
  replace hm:=hm be hI
  clear hI cy
  refine bd ?_
  refine rPe T hS [] [(12,B (decide (be < (lN l_))))] fun a hS=>?_
  refine aF hS (b:=decide (be < (lN l_))) kr (fun hb=>?_) fun hb=>?_
  ·replace hm:=hm.1 hb
   refine aL (bd ?_)
   refine aN ?_
   refine bn ?_
   refine oPe T hS 2 [12] [(15,Sl a1 l_ c1),(16,I be)] fun a hS=>?_
   obtain ⟨hq,hm⟩:=hm
   refine op1 (index (e:=61) (k:=.i64) T hS kr kr kr kr h102 kr kr hq.1 hq.2 ?_)
   intro IO a h105 hS
   refine op1 (eB T hS kr kr kr h105 kr kr ?_)
   intro v106 a hv hS
   subst hv
   refine eM T hS ⟨[(0,Sl a1 l_ c1),(4,I be),(5,Pt 6 0)],[(6,(61,(cE (gi l_ be))))]⟩ fun Z a yC wW hS hE hr=>?_
   replace hO:=hO.m2 hE
   replace h102:=h102.m1 hE
   clear hE hr
   refine bd ?_
   refine rPe T hS [] [(26,B ((((gi l_ be).bh) != 1) && (((gi l_ be).bh) != 2)))] (sp:=[22]) fun a hS=>?_
   refine aF hS (b:=((((gi l_ be).bh) != 1) && (((gi l_ be).bh) != 2))) kr (fun hb=>?_) fun hb=>?_
   ·replace hm:=hm.1 hb
    refine rP T hS ⟨[(2,I be),(3,I 8)],[]⟩ fun a hS=>?_
    refine aZ ?_
    exact fin T hS hO (fun c=>c) rfl (r:=[.int .i64 be,.int .i64 8]) kr (fun X' hM hC=>⟨(be,8),hm,rfl⟩)
   replace hm:=hm.2 hb
   refine aL (bd ?_)
   refine rPe T hS [26] [(35,B ((decide (((gi l_ be).ah) < 1)) || (decide (((gi l_ be).ah) > 1000))))] (sp:=[31]) fun a hS=>?_
   refine aF hS (b:=((decide (((gi l_ be).ah) < 1)) || (decide (((gi l_ be).ah) > 1000)))) kr (fun hb=>?_) fun hb=>?_
   ·replace hm:=hm.1 hb
    refine rP T hS ⟨[(2,I be),(3,I 2)],[]⟩ fun a hS=>?_
    refine aZ ?_
    exact fin T hS hO (fun c=>c) rfl (r:=[.int .i64 be,.int .i64 2]) kr (fun X' hM hC=>⟨(be,2),hm,rfl⟩)
   replace hm:=hm.2 hb
   refine aL (bd ?_)
   refine rPe T hS [35] [(49,B ((((gi l_ be).bh) == 1) && ((decide (((gi l_ be).N) < 0)) || (decide (((gi l_ be).N) > 63)))))] (sp:=[40,44]) fun a hS=>?_
   refine aF hS (b:=((((gi l_ be).bh) == 1) && ((decide (((gi l_ be).N) < 0)) || (decide (((gi l_ be).N) > 63))))) kr (fun hb=>?_) fun hb=>?_
   ·replace hm:=hm.1 hb
    refine rP T hS ⟨[(2,I be),(3,I 31)],[]⟩ fun a hS=>?_
    refine aZ ?_
    exact fin T hS hO (fun c=>c) rfl (r:=[.int .i64 be,.int .i64 31]) kr (fun X' hM hC=>⟨(be,31),hm,rfl⟩)
   replace hm:=hm.2 hb
   refine aL (bd ?_)
   refine rPe T hS [49] [(63,B ((((gi l_ be).bh) == 2) && ((decide (((gi l_ be).N) < 0)) || (decide (((gi l_ be).N) > 1000000)))))] (sp:=[54,58]) fun a hS=>?_
   refine aF hS (b:=((((gi l_ be).bh) == 2) && ((decide (((gi l_ be).N) < 0)) || (decide (((gi l_ be).N) > 1000000))))) kr (fun hb=>?_) fun hb=>?_
   ·replace hm:=hm.1 hb
    refine rP T hS ⟨[(2,I be),(3,I 7)],[]⟩ fun a hS=>?_
    refine aZ ?_
    exact fin T hS hO (fun c=>c) rfl (r:=[.int .i64 be,.int .i64 7]) kr (fun X' hM hC=>⟨(be,7),hm,rfl⟩)
   replace hm:=hm.2 hb
   refine aL ?_
   refine b5 (fun a w=>∃ (Z:Nat->Nat) (X:Nat->Nat) (dn:Bool),VC50_J2 Q I1 μ1 be dn/\St Tryz.f50.ntmps ⟨[(0,Sl a1 l_ c1),(4,I be),(89,B dn)],[]⟩ Z a w X/\Old w0 X0 w X/\RS aO w X a1 l_ c1) ?_ ?_
   ·refine gH [6] mixed hS ?_
    intro pm rc hS hE hD hH
    replace hO:=hO.m2 hE
    replace h102:=h102.m1 hE
    refine tke T [0,1,2,3] [6] hS hH #[true,true,true,true,false,false,false,false,false,false,false,false,false,false,false,false,false,false,false,false,false,false,false,false,false] 21 [] [(68,B (((gi l_ be).bh) == 1))] fun a hS=>?_
    rcases bft (((gi l_ be).bh) == 1) with hb | hb
    ·replace hS:=hS.lit (t:=68) kr hb
     replace hm:=hm.1 hb
     refine tke T [4,5,7,8] [6] hS hH #[true,true,true,true,true,true,false,true,true,false,false,false,false,false,false,false,false,false,false,false,false,false,false,false,false] 17 [] [(69,Sl a1 l_ c1),(70,I be),(73,I ((gi l_ be).ah))] fun a hS=>?_
     obtain ⟨hq,hm⟩:=hm
     refine tp (E:=61) (kh:=.i64) T 6 hS kr kr kr (by rfl) kr hH kr kr h102 kr kr hq.1 hq.2 ?_
     intro iz ip a h113 hS
     refine only 9 kr (by rfl) (call hS kr kr hb79 kr (fun _ _=>rfl) (G4 _ _ (l_.take be.toNat) ((gi l_ be).ah) iz ip h113) ?_)
     intro v114 a o5 tF hE hp hS
     replace hO:=hO.m2 hE
     replace hD:=hD.ev hE rfl
     replace h102:=h102.m1 hE
     replace h113:=h113.m1 hE
     obtain ⟨d4,hr⟩:∃ r,e9 (l_.take be.toNat) ((gi l_ be).ah)=r:=⟨_,rfl⟩
     replace hm:=hm d4 hr
     rw [hr] at hp
     clear hr
     subst hp
     replace hS:=hS.sle [] [(74,B d4)]
     refine cV (bI.of hS (bks:=[6]) kr hD) ?_
     intro hH
     refine tke T [10,11] [6] hS hH #[true,true,true,true,true,true,true,true,true,true,true,true,false,false,false,false,false,false,false,false,false,false,false,false,false] 13 [68,69,70,73,71,74] [(76,B d4)] fun a hS=>?_
     rcases bft d4 with hb | hb
     ·replace hS:=hS.lit (t:=76) kr hb
      replace hm:=hm.1 hb
      refine tke T [12,13,14,15,16,17,19,18,20,21,22,23,24] [6] hS hH (tts 25) 0 [5,76] [(89,B true)] fun a hS=>?_
      refine aV kr ?_
      replace hS:=hS.sl ⟨[(0,Sl a1 l_ c1),(4,I be),(89,B true)],[]⟩
      exact ⟨Z,_,true,hm,hS.sl _,hO,h102⟩
     replace hS:=hS.lit (t:=76) kr hb
     replace hm:=hm.2 hb
     refine tke T [12,13,14,15] [6] hS hH #[true,true,true,true,true,true,true,true,true,true,true,true,true,true,true,true,false,false,false,false,false,false,false,false,false] 9 [] [(80,B (((gi l_ be).bh) == 2))] fun a hS=>?_
     rcases bft (((gi l_ be).bh) == 2) with hb | hb
     ·replace hS:=hS.lit (t:=80) kr hb
      replace hm:=hm.1 hb
      refine tke T [16,17,19,20] [6] hS hH #[true,true,true,true,true,true,true,true,true,true,true,true,true,true,true,true,true,true,false,true,true,false,false,false,false] 5 [5] [(81,Sl a1 l_ c1),(82,I be),(85,I ((gi l_ be).ah))] fun a hS=>?_
      obtain ⟨hq,hm⟩:=hm
      refine tp (E:=61) (kh:=.i64) T 18 hS kr kr kr (by rfl) kr hH kr kr h102 kr kr hq.1 hq.2 ?_
      intro gT gS a h120 hS
      refine only 21 kr (by rfl) (call hS kr kr hb79 kr (fun _ _=>rfl) (G4 _ _ (l_.take be.toNat) ((gi l_ be).ah) gT gS h120) ?_)
      intro v121 a tR tE hE hp hS
      replace hO:=hO.m2 hE
      replace hD:=hD.ev hE rfl
      replace h102:=h102.m1 hE
      replace h113:=h113.m1 hE
      replace h120:=h120.m1 hE
      obtain ⟨dv,hr⟩:∃ r,e9 (l_.take be.toNat) ((gi l_ be).ah)=r:=⟨_,rfl⟩
      replace hm:=hm dv hr
      rw [hr] at hp
      clear hr
      subst hp
      replace hS:=hS.sle [] [(86,B dv)]
      refine cV (bI.of hS (bks:=[6]) kr hD) ?_
      intro hH
      refine tke T [22,23,24] [6] hS hH (tts 25) 0 [76,80,81,82,85,83,86] [(89,B (!dv))] fun a hS=>?_
      refine aV kr ?_
      replace hS:=hS.sl ⟨[(0,Sl a1 l_ c1),(4,I be),(89,B (!dv))],[]⟩
      exact ⟨Z,_,(!dv),hm,hS.sl _,hO,h102⟩
     replace hS:=hS.lit (t:=80) kr hb
     replace hm:=hm.2 hb
     refine tke T [16,17,19,18,20,21,22,23,24] [6] hS hH (tts 25) 0 [5,76,80] [(89,B false)] fun a hS=>?_
     refine aV kr ?_
     replace hS:=hS.sl ⟨[(0,Sl a1 l_ c1),(4,I be),(89,B false)],[]⟩
     exact ⟨Z,_,false,hm,hS.sl _,hO,h102⟩
    replace hS:=hS.lit (t:=68) kr hb
    replace hm:=hm.2 hb
    refine tke T [4,5,7,6,8,9,10,11,12,13,14,15] [6] hS hH #[true,true,true,true,true,true,true,true,true,true,true,true,true,true,true,true,false,false,false,false,false,false,false,false,false] 9 [68] [(76,B false),(80,B (((gi l_ be).bh) == 2))] fun a hS=>?_
    rcases bft (((gi l_ be).bh) == 2) with hb | hb
    ·replace hS:=hS.lit (t:=80) kr hb
     replace hm:=hm.1 hb
     refine tke T [16,17,19,20] [6] hS hH #[true,true,true,true,true,true,true,true,true,true,true,true,true,true,true,true,true,true,false,true,true,false,false,false,false] 5 [5] [(81,Sl a1 l_ c1),(82,I be),(85,I ((gi l_ be).ah))] fun a hS=>?_
     obtain ⟨hq,hm⟩:=hm
     refine tp (E:=61) (kh:=.i64) T 18 hS kr kr kr (by rfl) kr hH kr kr h102 kr kr hq.1 hq.2 ?_
     intro iy io a h127 hS
     refine only 21 kr (by rfl) (call hS kr kr hb79 kr (fun _ _=>rfl) (G4 _ _ (l_.take be.toNat) ((gi l_ be).ah) iy io h127) ?_)
     intro v128 a Js Dy hE hp hS
     replace hO:=hO.m2 hE
     replace hD:=hD.ev hE rfl
     replace h102:=h102.m1 hE
     replace h127:=h127.m1 hE
     obtain ⟨fR,hr⟩:∃ r,e9 (l_.take be.toNat) ((gi l_ be).ah)=r:=⟨_,rfl⟩
     replace hm:=hm fR hr
     rw [hr] at hp
     clear hr
     subst hp
     replace hS:=hS.sle [] [(86,B fR)]
     refine cV (bI.of hS (bks:=[6]) kr hD) ?_
     intro hH
     refine tke T [22,23,24] [6] hS hH (tts 25) 0 [76,80,81,82,85,83,86] [(89,B (!fR))] fun a hS=>?_
     refine aV kr ?_
     replace hS:=hS.sl ⟨[(0,Sl a1 l_ c1),(4,I be),(89,B (!fR))],[]⟩
     exact ⟨Z,_,(!fR),hm,hS.sl _,hO,h102⟩
    replace hS:=hS.lit (t:=80) kr hb
    replace hm:=hm.2 hb
    refine tke T [16,17,19,18,20,21,22,23,24] [6] hS hH (tts 25) 0 [5,76,80] [(89,B false)] fun a hS=>?_
    refine aV kr ?_
    replace hS:=hS.sl ⟨[(0,Sl a1 l_ c1),(4,I be),(89,B false)],[]⟩
    exact ⟨Z,_,false,hm,hS.sl _,hO,h102⟩
   rintro a yD ⟨Z,qQ,dn,hm,hS,hO,h107⟩
   unfold VC50_J2 at hm
   refine aF hS (b:=dn) kr (fun hb=>?_) fun hb=>?_
   ·replace hm:=hm.1 hb
    refine rPe T hS [0,4,89] [(2,I be),(3,I 33)] fun a hS=>?_
    refine aZ ?_
    exact fin T hS hO (fun c=>c) rfl (r:=[.int .i64 be,.int .i64 33]) kr (fun X' hM hC=>⟨(be,33),hm,rfl⟩)
   replace hm:=hm.2 hb
   refine aL ?_
   refine region (ePe T hS [89] [(4,I (wR (be+1)))] fun a hS=>?_)
   exact ⟨wR (be+1),⟨Z,_,hm.1,hS.sl _,hO,h107⟩,hm.2⟩
  replace hm:=hm.2 hb
  refine cl (by rfl) ?_
  exact ⟨Z,_,hm,hS.sl _,hO,h102⟩
 rintro a sg ⟨Z,F6,hm,hS,hO,h101⟩
 unfold VC50_J1 at hm
 refine rPe T hS [0] [(2,I (lN l_)),(3,I 0)] fun a hS=>?_
 refine aZ ?_
 exact fin T hS hO (fun c=>c) rfl (r:=[.int .i64 (lN l_),.int .i64 0]) kr (fun X' hM hC=>⟨((lN l_),0),hm,rfl⟩)
theorem C50 (G4:S79) (v:∀ (l_:List au),VC50 l_ (fun r=>r=eJ l_)):S50:=by
 intro w X l_ a1 c1   h1
 refine (W50 G4 w X l_ a1 c1   _ (v l_) h1).mono ?_
 rintro _ _ _ _ ⟨r,rfl,h⟩
 exact h
theorem W57 (w0) (X0) (a_:List a9) (b_:List a9) (a1) (c1) (a2) (c2) (Q:Bool->Prop) (hm:VC57 a_ b_ Q) (h1:RS ay w0 X0 a1 a_ c1) (h2:RS ay w0 X0 a2 b_ c2) :
  Ret Tryz.prog 57 #[.slice a1 a_.length c1,.slice a2 b_.length c2] aJ w0 X0 (fun w X' v=>∃ r,Q r/\v=.bool r):=by
 unfold VC57 at hm
 replace hm:=hm (h1.sm kr)
 replace hm:=hm (h2.sm kr)
 refine enter Tryz.func57 rfl (vals:=[.slice a1 a_.length c1,.slice a2 b_.length c2]) kr ?_
 intro Z a hS hO hM
 replace h1:=h1.m0 hM
 replace h2:=h2.m0 hM
 refine rPe T hS [] [] fun a hS=>?_
 refine bd ?_
 refine rPe T hS [] [(10,B ((lN a_) != (lN b_)))] fun a hS=>?_
 refine aF hS (b:=((lN a_) != (lN b_))) kr (fun hb=>?_) fun hb=>?_
 ·replace hm:=hm.1 hb
  refine rPe T hS [0,1,10] [(4,B false)] fun a hS=>?_
  refine aZ ?_
  exact fin T hS hO (fun c=>c) rfl (r:=[.bool false]) kr (fun X' hM hC=>⟨false,hm,rfl⟩)
 replace hm:=hm.2 hb
 refine aL ?_
 refine b5 (fun a w=>∃ Z X,VC57_J1 Q/\St Tryz.f57.ntmps ⟨[],[]⟩ Z a w X/\Old w0 X0 w X) ?_ ?_
 ·refine rPe T hS [10] [(5,I 0)] fun a hS=>?_
  refine aN ?_
  obtain ⟨I1,μ1,cy,hm⟩:=hm
  refine cw (σ:=Int) (fun s a w=>∃ Z X,I1 s/\St Tryz.f57.ntmps ⟨[(0,Sl a1 a_ c1),(1,Sl a2 b_ c2),(5,I s)],[]⟩ Z a w X/\Old w0 X0 w X/\RS ay w X a1 a_ c1/\RS ay w X a2 b_ c2) (fun s=>μ1 s) (0) ?_ ?_
  ·exact ⟨Z,_,cy,hS.sl _,hO,h1,h2⟩
  rintro be a vS ⟨Z,tG,hI,hS,hO,h101,h102⟩
  replace hm:=hm be hI
  clear hI cy
  refine bd ?_
  refine rPe T hS [] [(14,B (decide (be < (lN a_))))] fun a hS=>?_
  refine aF hS (b:=decide (be < (lN a_))) kr (fun hb=>?_) fun hb=>?_
  ·replace hm:=hm.1 hb
   refine aL (bd ?_)
   refine aN ?_
   refine dq [] mixed hS ?_
   intro yG oH hS hE hD hH
   replace hO:=hO.m2 hE
   replace h101:=h101.m1 hE
   replace h102:=h102.m1 hE
   refine tke T [0,1,4,5] [] hS hH #[true,true,false,false,true,true,false,false,false] 5 [] [(17,Sl a1 a_ c1),(18,I be),(21,Sl a2 b_ c2),(22,I be)] fun a hS=>?_
   obtain ⟨hq,hm⟩:=hm
   refine c6 (e:=107) (k:=.i64) T 2 hS kr kr kr (by rfl) kr hH kr kr h101 kr kr hq.1 hq.2 ?_
   intro IM a h107 hS
   have Bq:=h107.here
   refine ku T 3 hS kr kr kr (by rfl) kr hH kr h107 Bq kr kr ?_
   intro v108 a hv hS
   subst hv
   obtain ⟨hq,hm⟩:=hm
   refine c6 (e:=107) (k:=.i64) T 6 hS kr kr kr (by rfl) kr hH kr kr h102 kr kr hq.1 hq.2 ?_
   intro w8 a h110 hS
   have kM:=h110.here
   refine ku T 7 hS kr kr kr (by rfl) kr hH kr h110 kM kr kr ?_
   intro v111 a hv hS
   subst hv
   refine zA (op:=.neq) (xs:=[.int .i64 ((gi a_ be).State),.int .i64 ((gi a_ be).Kind),.int .i64 ((gi a_ be).Next),.int .i64 ((gi a_ be).Result)]) (ys:=[.int .i64 ((gi b_ be).State),.int .i64 ((gi b_ be).Kind),.int .i64 ((gi b_ be).Next),.int .i64 ((gi b_ be).Result)]) (r:=(((gi a_ be).State) == ((gi b_ be).State) && (((gi a_ be).Kind) == ((gi b_ be).Kind) && (((gi a_ be).Next) == ((gi b_ be).Next) && (((gi a_ be).Result) == ((gi b_ be).Result) && true))))) (b:=(!(((gi a_ be).State) == ((gi b_ be).State) && (((gi a_ be).Kind) == ((gi b_ be).Kind) && (((gi a_ be).Next) == ((gi b_ be).Next) && (((gi a_ be).Result) == ((gi b_ be).Result) && true)))))) 8 T hS kr kr kr (by rfl) kr hH kr kr kr kr kr kr ?_
   intro a hS
   refine aV kr ?_
   replace hS:=hS.sle [17,18,21,22,19,20,23,24] []
   refine aF hS (b:=(!(((gi a_ be).State) == ((gi b_ be).State) && (((gi a_ be).Kind) == ((gi b_ be).Kind) && (((gi a_ be).Next) == ((gi b_ be).Next) && (((gi a_ be).Result) == ((gi b_ be).Result) && true)))))) kr (fun hb=>?_) fun hb=>?_
   ·replace hm:=hm.1 hb
    refine rPe T hS [0,1,5,25] [(4,B false)] fun a hS=>?_
    refine aZ ?_
    exact fin T hS hO (fun c=>c) rfl (r:=[.bool false]) kr (fun X' hM hC=>⟨false,hm,rfl⟩)
   replace hm:=hm.2 hb
   refine aL ?_
   refine region (ePe T hS [25] [(5,I (wR (be+1)))] fun a hS=>?_)
   exact ⟨wR (be+1),⟨Z,_,hm.1,hS.sl _,hO,h101,h102⟩,hm.2⟩
  replace hm:=hm.2 hb
  refine cl (by rfl) ?_
  exact ⟨Z,_,hm,hS.sl _,hO⟩
 rintro a o5 ⟨Z,w6,hm,hS,hO⟩
 unfold VC57_J1 at hm
 refine rPe T hS [] [(4,B true)] fun a hS=>?_
 refine aZ ?_
 exact fin T hS hO (fun c=>c) rfl (r:=[.bool true]) kr (fun X' hM hC=>⟨true,hm,rfl⟩)
theorem C57 (v:∀ (a_:List a9) (b_:List a9),VC57 a_ b_ (fun r=>r=dT a_ b_)):S57:=by
 intro w X a_ b_ a1 c1 a2 c2   h1 h2
 refine (W57 w X a_ b_ a1 c1 a2 c2   _ (v a_ b_) h1 h2).mono ?_
 rintro _ _ _ _ ⟨r,rfl,h⟩
 exact h
theorem W26 (Ka:S57) (w0) (X0) (a_:al) (b_:al) (a1) (c1) (a2) (c2) (Q:Bool->Prop) (hm:VC26 a_ b_ Q) (h1:RS ay w0 X0 a1 a_.Rows c1) (h2:RS ay w0 X0 a2 b_.Rows c2) :
  Ret Tryz.prog 26 #[.agg #[.int .i64 a_.aq,.int .i64 a_.ax,.int .i64 a_.aE,.slice a1 a_.Rows.length c1],.agg #[.int .i64 b_.aq,.int .i64 b_.ax,.int .i64 b_.aE,.slice a2 b_.Rows.length c2]] aJ w0 X0 (fun w X' v=>∃ r,Q r/\v=.bool r):=by
 unfold VC26 at hm
 replace hm:=hm (h1.sm kr)
 replace hm:=hm (h2.sm kr)
 refine enter Tryz.func26 rfl (vals:=[.agg #[.int .i64 a_.aq,.int .i64 a_.ax,.int .i64 a_.aE,.slice a1 a_.Rows.length c1],.agg #[.int .i64 b_.aq,.int .i64 b_.ax,.int .i64 b_.aE,.slice a2 b_.Rows.length c2]]) kr ?_
 intro Z a hS hO hM
 replace h1:=h1.m0 hM
 replace h2:=h2.m0 hM
 refine rM T hS ⟨[(2,Pt 3 0),(3,Pt 4 0)],[(3,(48,(cO a_ a1 c1))),(4,(48,(cO b_ a2 c2)))]⟩ fun Z a mH lB hS hE hr=>?_
 replace hO:=hO.m2 hE
 replace h1:=h1.m1 hE
 replace h2:=h2.m1 hE
 clear hE hr
 refine bn ?_
 refine oPe T hS 20 [] [(24,B (((a_.aq == b_.aq) && (a_.ax == b_.ax)) && (a_.aE == b_.aE)))] (sp:=[10,17]) fun a hS=>?_
 rcases bft (((a_.aq == b_.aq) && (a_.ax == b_.ax)) && (a_.aE == b_.aE)) with hb | hb
 ·replace hS:=hS.lit (t:=24) kr hb
  replace hm:=hm.1 hb
  refine oP T hS 4 ⟨[(24,B true),(26,Sl a1 a_.Rows c1),(28,Sl a2 b_.Rows c2)],[]⟩ fun a hS=>?_
  refine op1 (call hS kr kr hb57 kr (fun _ _=>rfl) (Ka _ _ a_.Rows b_.Rows a1 c1 a2 c2 h1 h2) ?_)
  intro v101 a fh fo hE hp hS
  replace hO:=hO.m2 hE
  replace h1:=h1.m1 hE
  replace h2:=h2.m1 hE
  obtain ⟨av,hr⟩:∃ r,dT a_.Rows b_.Rows=r:=⟨_,rfl⟩
  replace hm:=hm av hr
  rw [hr] at hp
  clear hr
  subst hp
  refine ePe T hS [24,26,28,29] [(4,B av)] fun a hS=>?_
  refine aZ ?_
  exact fin T hS hO (fun c=>c) rfl (r:=[.bool av]) kr (fun X' hM hC=>⟨av,hm,rfl⟩)
 replace hS:=hS.lit (t:=24) kr hb
 replace hm:=hm.2 hb
 refine eP T hS ⟨[(4,B false)],[]⟩ fun a hS=>?_
 refine aZ ?_
 exact fin T hS hO (fun c=>c) rfl (r:=[.bool false]) kr (fun X' hM hC=>⟨false,hm,rfl⟩)
theorem C26 (Ka:S57) (v:∀ (a_:al) (b_:al),VC26 a_ b_ (fun r=>r=iH a_ b_)):S26:=by
 intro w X a_ b_ a1 c1 a2 c2   h1 h2
 refine (W26 Ka w X a_ b_ a1 c1 a2 c2   _ (v a_ b_) h1 h2).mono ?_
 rintro _ _ _ _ ⟨r,rfl,h⟩
 exact h
theorem W56 (Fb:S55) (w0) (X0) (l_:List au) (a1) (c1) (Q:(List ab) × Int->Prop) (hm:VC56 l_ Q) (h1:RS aO w0 X0 a1 l_ c1) :
  Ret Tryz.prog 56 #[.slice a1 l_.length c1] aJ w0 X0 (fun w X' v=>∃ r,Q r/\∃ cB cA,v=.tuple #[.slice cB r.1.length cA,.int .i64 r.2]/\RS ao w X' cB r.1 cA):=by
 unfold VC56 at hm
 replace hm:=hm (h1.sm kr)
 refine enter Tryz.func56 rfl (vals:=[.slice a1 l_.length c1]) kr ?_
 intro Z a hS hO hM
 replace h1:=h1.m0 hM
 refine rPe T hS [] [] fun a hS=>?_
 refine bd ?_
 refine bn ?_
 refine oPe T hS 1 [] [(12,Sl a1 l_ c1)] fun a hS=>?_
 refine op1 (call hS kr kr hb55 kr (fun _ _=>rfl) (Fb _ _ l_ a1 c1 h1) ?_)
 intro v101 a fh fo hE hp hS
 replace hO:=hO.m2 hE
 replace h1:=h1.m1 hE
 obtain ⟨av,hr⟩:∃ r,bw l_=r:=⟨_,rfl⟩
 replace hm:=hm av hr
 rw [hr] at hp
 clear hr
 subst hp
 refine ePe T hS [12,13] [(5,I av.2)] fun a hS=>?_
 refine rPe T hS [] [(17,B (av.2 != 0))] fun a hS=>?_
 refine aF hS (b:=(av.2 != 0)) kr (fun hb=>?_) fun hb=>?_
 ·replace hm:=hm.1 hb
  refine rPe T hS [0,5,17] [(2,V (.slice none 0 0)),(3,I av.2)] fun a hS=>?_
  refine aZ ?_
  exact fin T hS hO (fun c=>c) rfl (r:=[.slice none 0 0,.int .i64 av.2]) kr (fun X' hM hC=>⟨([],av.2),hm,none,0,rfl,RS.empty _ _ _⟩)
 replace hm:=hm.2 hb
 refine aL ?_
 refine rPe T hS [5,17] [(6,V (.slice none 0 0))] fun a hS=>?_
 refine bn ?_
 refine op1 (oR kI tI false 1020 hS kr kr ?_)
 intro iJ a nk ne hE h108 hS
 replace hO:=hO.m2 hE
 replace h1:=h1.m1 hE
 refine ePe T hS [19] [(7,V (.map (some iJ)))] fun a hS=>?_
 refine b5 (fun a w=>∃ (Z:Nat->Nat) (X:Nat->Nat) (cQ:List ab) (gu:Option Addr) (gt:Nat),VC56_J1 Q cQ/\St Tryz.f56.ntmps ⟨[(6,Sl gu cQ gt)],[]⟩ Z a w X/\Old w0 X0 w X/\OS ao 102 w X 1003 gu cQ gt) ?_ ?_
 ·refine rPe T hS [0] [(20,Sl a1 l_ c1),(21,I (lN l_)),(22,I 0)] fun a hS=>?_
  refine aN ?_
  obtain ⟨I1,μ1,cy,hm⟩:=hm
  refine cw (σ:=(List ab) × (List (Int × Int)) × Int) (fun s a w=>∃ Z X dZ dY,I1 s.1 s.2.1 s.2.2/\St Tryz.f56.ntmps ⟨[(6,Sl dZ s.1 dY),(7,V (.map (some iJ))),(20,Sl a1 l_ c1),(21,I (lN l_)),(22,I s.2.2)],[]⟩ Z a w X/\Old w0 X0 w X/\OS ao 102 w X 1003 dZ s.1 dY/\OM kI tI false w X 1020 iJ s.2.1/\RS aO w X a1 l_ c1) (fun s=>μ1 s.1 s.2.1 s.2.2) (⟨[],([]:List (Int × Int)),0⟩) ?_ ?_
  ·exact ⟨Z,_,none,0,cy,hS.sl _,hO,(OS.nil _ _ _ _ _),h108,h1⟩
  rintro ⟨bi,bH,aU⟩ a Cq ⟨Z,F2,dZ,dY,hI,hS,hO,h118,h120,h121⟩
  replace hm:=hm bi bH aU hI
  clear hI cy
  refine rPe T hS [] [(23,B (decide (aU < (lN l_))))] fun a hS=>?_
  refine bd ?_
  refine aF hS (b:=decide (aU < (lN l_))) kr (fun hb=>?_) fun hb=>?_
  ·replace hm:=hm.1 hb
   refine aL ?_
   refine b5 (fun a w=>∃ (Z:Nat->Nat) (X:Nat->Nat) (ib:List ab) (d7:List (Int × Int)) (jP:Option Addr) (jL:Nat),VC56_J2 I1 μ1 bi bH aU ib d7/\St Tryz.f56.ntmps ⟨[(6,Sl jP ib jL),(7,V (.map (some iJ))),(20,Sl a1 l_ c1),(21,I (lN l_)),(22,I aU)],[]⟩ Z a w X/\Old w0 X0 w X/\OS ao 102 w X 1003 jP ib jL/\OM kI tI false w X 1020 iJ d7/\RS aO w X a1 l_ c1) ?_ ?_
   ·refine aN ?_
    refine bn ?_
    refine oPe T hS 1 [23] [(24,I aU)] fun a hS=>?_
    obtain ⟨hq,hm⟩:=hm
    refine op1 (index (e:=61) (k:=.i64) T hS kr kr kr kr h121 kr kr hq.1 hq.2 ?_)
    intro QL a h131 hS
    refine op1 (eB T hS kr kr kr h131 kr kr ?_)
    intro v132 a hv hS
    subst hv
    refine eM T hS ⟨[(6,Sl dZ bi dY),(7,V (.map (some iJ))),(8,I aU),(9,Pt 10 0),(20,Sl a1 l_ c1),(21,I (lN l_)),(22,I aU)],[(10,(61,(cE (gi l_ aU))))]⟩ fun Z a Ac BV hS hE hr=>?_
    replace hO:=hO.m2 hE
    replace h118:=h118.m2 hE
    replace h120:=h120.m2 hE
    replace h121:=h121.m1 hE
    clear hE hr
    refine bd ?_
    refine rPe T hS [] [(29,B (((gi l_ aU).bh) == 1))] fun a hS=>?_
    refine aF hS (b:=(((gi l_ aU).bh) == 1)) kr (fun hb=>?_) fun hb=>?_
    ·replace hm:=hm.1 hb
     refine bn ?_
     refine oPe T hS 5 [29] [(30,V (.map (some iJ))),(32,I ((gi l_ aU).ah)),(34,I (lN bi))] fun a hS=>?_
     refine op1 (sZ kI tI false (v:=I (lN bi)) (u:=(lN bi)) ((gi l_ aU).ah) hS kr kr kr kr Tryz.underlying113 Tryz.underlying3 kr h120 rfl ?_)
     intro a yD hE h134 hS
     clear h120
     replace hO:=hO.m2 hE
     replace h118:=h118.m2 hE
     replace h121:=h121.m1 hE
     refine g8 ?_
     refine bn ?_
     refine oP T hS 7 ⟨[(6,Sl dZ bi dY),(7,V (.map (some iJ))),(20,Sl a1 l_ c1),(21,I (lN l_)),(22,I aU),(35,Sl dZ bi dY),(41,V (.agg #[.int .i64 ((gi l_ aU).ah),.int .i64 ((gi l_ aU).N),.int .i64 aU,.int .i64 (-1),.int .i64 (-1)]))],[]⟩ fun a hS=>?_
     refine op1 (lit (E:=102) (col:=0) (T:=ao) (vals:=[.agg #[.int .i64 ((gi l_ aU).ah),.int .i64 ((gi l_ aU).N),.int .i64 aU,.int .i64 (-1),.int .i64 (-1)]]) (ys:=[(⟨(gi l_ aU).ah,(gi l_ aU).N,aU,(-1),(-1)⟩:ab)]) T hS kr kr kr kr (by exact ⟨rfl,trivial⟩) rfl kr kr kr kr ?_)
     intro b135 a sh vz hE h138 hN hS
     clear hN
     replace hO:=hO.m2 hE
     replace h118:=h118.m2 hE
     replace h121:=h121.m1 hE
     replace h134:=h134.m2 hE
     replace h138:=h138.rs0
     obtain ⟨hq,hm⟩:=hm
     obtain ⟨news,hN⟩:=h138.src
     refine op1 (append (E:=102) (T:=ao) (col:=1003) (xs:=bi) T hS kr kr kr kr h118 hN kr kr kr kr hq ?_)
     intro jO jK a sg vy hE h141 hS
     clear hq hN
     clear h118
     replace hO:=hO.m2 hE
     replace h121:=h121.m1 hE
     replace h134:=h134.m2 hE
     replace h138:=h138.m1 hE
     refine ePe T hS [41,42,43] [(6,Sl jO (bi++[(⟨(gi l_ aU).ah,(gi l_ aU).N,aU,(-1),(-1)⟩:ab)]) jK)] fun a hS=>?_
     refine cl (by rfl) ?_
     exact ⟨Z,_,bi++[(⟨(gi l_ aU).ah,(gi l_ aU).N,aU,(-1),(-1)⟩:ab)],de bH ((gi l_ aU).ah) (lN bi),jO,jK,hm,hS.sl _,hO,h141,h134,h121⟩
    replace hm:=hm.2 hb
    refine aL ?_
    refine bn ?_
    refine oPe T hS 4 [29] [(44,Sl dZ bi dY),(45,V (.map (some iJ))),(47,I ((gi l_ aU).ah))] fun a hS=>?_
    refine op1 (jB kI tI false (zv:=.int .i64 0) (z:=0) ((gi l_ aU).ah) hS kr kr kr kr Tryz.underlying113 Tryz.underlying3 kr rfl h120 ?_)
    intro v144 a hv hS
    replace hv:tI.R _ _ [v144] _:=hv
    cases hv
    obtain ⟨rd,hm⟩:=hm
    refine op1 (mV (E:=102) (k:=.i64) T hS kr kr kr kr h118 kr kr rd.1 rd.2 ?_)
    intro B5 a h147 h146 hS
    have h148:=h147.ad
    clear h147 h146
    refine ePe T hS [44,45,47,48,49] [(10,V (.pointer (some B5)))] fun a hS=>?_
    refine gH [10] mixed hS ?_
    intro Ct IC hS hE hD hH
    replace hO:=hO.m2 hE
    replace h118:=h118.m2 hE
    replace h120:=h120.m2 hE
    replace h121:=h121.m1 hE
    refine tke T [0,1,2,3,4] [10] hS hH #[true,true,true,true,true,false,false,false,false,false,false] 6 [8,9,10] [(50,V (.pointer (some B5))),(51,V (.pointer (some B5))),(52,I aU),(54,I ((gi l_ aU).N))] fun a hS=>?_
    refine only 5 kr (by rfl) (G1 (A:=B5) hS kr kr kr ?_)
    intro a hS
    refine cV (bI.of hS (bks:=[10]) kr hD) ?_
    intro hH
    refine only 6 kr (by rfl) (tn (off:=3) (fsz:=1) (ft:=3) T hS kr kr kr h148 kr kr ?_)
    intro L1 a h153 hS
    refine cV (bI.of hS (bks:=[10]) kr hD) ?_
    intro hH
    refine only 7 kr (by rfl) (ss (m:=1) (off:=3) (x:=(⟨(gi bi ((aC bH ((gi l_ aU).ah)).getD 0)).ah,(gi bi ((aC bH ((gi l_ aU).ah)).getD 0)).Kind,(gi bi ((aC bH ((gi l_ aU).ah)).getD 0)).aD,aU,(gi bi ((aC bH ((gi l_ aU).ah)).getD 0)).Result⟩:ab)) (v:=I aU) (i:=((aC bH ((gi l_ aU).ah)).getD 0).toNat) (E:=102) (xs:=bi) T hS kr kr kr kr h118 h153 (by have:=rd.1; have:=rd.2; (try simp only [List.length_set]); omega) kr kr rfl (fun _ _ _ h=>by cases h; rfl) ?_)
    intro a sf hE h155 hS
    clear h118
    replace hO:=hO.m2 hE
    replace hD:=hD.ev hE rfl
    replace h120:=h120.m2 hE
    replace h121:=h121.m1 hE
    replace hS:=hS.conv (t:=6) (y:=.slice dZ (bi.set ((aC bH ((gi l_ aU).ah)).getD 0).toNat (⟨(gi bi ((aC bH ((gi l_ aU).ah)).getD 0)).ah,(gi bi ((aC bH ((gi l_ aU).ah)).getD 0)).Kind,(gi bi ((aC bH ((gi l_ aU).ah)).getD 0)).aD,aU,(gi bi ((aC bH ((gi l_ aU).ah)).getD 0)).Result⟩:ab)).length dY) kr (by rw [List.length_set])
    refine cV (bI.of hS (bks:=[10]) kr hD) ?_
    intro hH
    refine only 8 kr (by rfl) (G1 (A:=B5) hS kr kr kr ?_)
    intro a hS
    refine cV (bI.of hS (bks:=[10]) kr hD) ?_
    intro hH
    refine only 9 kr (by rfl) (tn (off:=4) (fsz:=1) (ft:=3) T hS kr kr kr h148 kr kr ?_)
    intro L0 a h157 hS
    refine cV (bI.of hS (bks:=[10]) kr hD) ?_
    intro hH
    refine only 10 kr (by rfl) (ss (m:=1) (off:=4) (x:=(⟨(gi (bi.set ((aC bH ((gi l_ aU).ah)).getD 0).toNat (⟨(gi bi ((aC bH ((gi l_ aU).ah)).getD 0)).ah,(gi bi ((aC bH ((gi l_ aU).ah)).getD 0)).Kind,(gi bi ((aC bH ((gi l_ aU).ah)).getD 0)).aD,aU,(gi bi ((aC bH ((gi l_ aU).ah)).getD 0)).Result⟩:ab)) ((aC bH ((gi l_ aU).ah)).getD 0)).ah,(gi (bi.set ((aC bH ((gi l_ aU).ah)).getD 0).toNat (⟨(gi bi ((aC bH ((gi l_ aU).ah)).getD 0)).ah,(gi bi ((aC bH ((gi l_ aU).ah)).getD 0)).Kind,(gi bi ((aC bH ((gi l_ aU).ah)).getD 0)).aD,aU,(gi bi ((aC bH ((gi l_ aU).ah)).getD 0)).Result⟩:ab)) ((aC bH ((gi l_ aU).ah)).getD 0)).Kind,(gi (bi.set ((aC bH ((gi l_ aU).ah)).getD 0).toNat (⟨(gi bi ((aC bH ((gi l_ aU).ah)).getD 0)).ah,(gi bi ((aC bH ((gi l_ aU).ah)).getD 0)).Kind,(gi bi ((aC bH ((gi l_ aU).ah)).getD 0)).aD,aU,(gi bi ((aC bH ((gi l_ aU).ah)).getD 0)).Result⟩:ab)) ((aC bH ((gi l_ aU).ah)).getD 0)).aD,(gi (bi.set ((aC bH ((gi l_ aU).ah)).getD 0).toNat (⟨(gi bi ((aC bH ((gi l_ aU).ah)).getD 0)).ah,(gi bi ((aC bH ((gi l_ aU).ah)).getD 0)).Kind,(gi bi ((aC bH ((gi l_ aU).ah)).getD 0)).aD,aU,(gi bi ((aC bH ((gi l_ aU).ah)).getD 0)).Result⟩:ab)) ((aC bH ((gi l_ aU).ah)).getD 0)).End,(gi l_ aU).N⟩:ab)) (v:=I ((gi l_ aU).N)) (i:=((aC bH ((gi l_ aU).ah)).getD 0).toNat) (E:=102) (xs:=(bi.set ((aC bH ((gi l_ aU).ah)).getD 0).toNat (⟨(gi bi ((aC bH ((gi l_ aU).ah)).getD 0)).ah,(gi bi ((aC bH ((gi l_ aU).ah)).getD 0)).Kind,(gi bi ((aC bH ((gi l_ aU).ah)).getD 0)).aD,aU,(gi bi ((aC bH ((gi l_ aU).ah)).getD 0)).Result⟩:ab))) T hS kr kr kr kr h155 h157 (by have:=rd.1; have:=rd.2; (try simp only [List.length_set]); omega) kr kr rfl (fun _ _ _ h=>by cases h; rfl) ?_)
    intro a Cs hE h159 hS
    clear h155
    replace hO:=hO.m2 hE
    replace hD:=hD.ev hE rfl
    replace h120:=h120.m2 hE
    replace h121:=h121.m1 hE
    replace hS:=hS.conv (t:=6) (y:=.slice dZ ((bi.set ((aC bH ((gi l_ aU).ah)).getD 0).toNat (⟨(gi bi ((aC bH ((gi l_ aU).ah)).getD 0)).ah,(gi bi ((aC bH ((gi l_ aU).ah)).getD 0)).Kind,(gi bi ((aC bH ((gi l_ aU).ah)).getD 0)).aD,aU,(gi bi ((aC bH ((gi l_ aU).ah)).getD 0)).Result⟩:ab)).set ((aC bH ((gi l_ aU).ah)).getD 0).toNat (⟨(gi (bi.set ((aC bH ((gi l_ aU).ah)).getD 0).toNat (⟨(gi bi ((aC bH ((gi l_ aU).ah)).getD 0)).ah,(gi bi ((aC bH ((gi l_ aU).ah)).getD 0)).Kind,(gi bi ((aC bH ((gi l_ aU).ah)).getD 0)).aD,aU,(gi bi ((aC bH ((gi l_ aU).ah)).getD 0)).Result⟩:ab)) ((aC bH ((gi l_ aU).ah)).getD 0)).ah,(gi (bi.set ((aC bH ((gi l_ aU).ah)).getD 0).toNat (⟨(gi bi ((aC bH ((gi l_ aU).ah)).getD 0)).ah,(gi bi ((aC bH ((gi l_ aU).ah)).getD 0)).Kind,(gi bi ((aC bH ((gi l_ aU).ah)).getD 0)).aD,aU,(gi bi ((aC bH ((gi l_ aU).ah)).getD 0)).Result⟩:ab)) ((aC bH ((gi l_ aU).ah)).getD 0)).Kind,(gi (bi.set ((aC bH ((gi l_ aU).ah)).getD 0).toNat (⟨(gi bi ((aC bH ((gi l_ aU).ah)).getD 0)).ah,(gi bi ((aC bH ((gi l_ aU).ah)).getD 0)).Kind,(gi bi ((aC bH ((gi l_ aU).ah)).getD 0)).aD,aU,(gi bi ((aC bH ((gi l_ aU).ah)).getD 0)).Result⟩:ab)) ((aC bH ((gi l_ aU).ah)).getD 0)).aD,(gi (bi.set ((aC bH ((gi l_ aU).ah)).getD 0).toNat (⟨(gi bi ((aC bH ((gi l_ aU).ah)).getD 0)).ah,(gi bi ((aC bH ((gi l_ aU).ah)).getD 0)).Kind,(gi bi ((aC bH ((gi l_ aU).ah)).getD 0)).aD,aU,(gi bi ((aC bH ((gi l_ aU).ah)).getD 0)).Result⟩:ab)) ((aC bH ((gi l_ aU).ah)).getD 0)).End,(gi l_ aU).N⟩:ab)).length dY) kr (by rw [List.length_set])
    refine cV (bI.of hS (bks:=[10]) kr hD) ?_
    intro hH
    refine aV kr ?_
    replace hS:=hS.sl ⟨[(6,Sl dZ ((bi.set ((aC bH ((gi l_ aU).ah)).getD 0).toNat (⟨(gi bi ((aC bH ((gi l_ aU).ah)).getD 0)).ah,(gi bi ((aC bH ((gi l_ aU).ah)).getD 0)).Kind,(gi bi ((aC bH ((gi l_ aU).ah)).getD 0)).aD,aU,(gi bi ((aC bH ((gi l_ aU).ah)).getD 0)).Result⟩:ab)).set ((aC bH ((gi l_ aU).ah)).getD 0).toNat (⟨(gi (bi.set ((aC bH ((gi l_ aU).ah)).getD 0).toNat (⟨(gi bi ((aC bH ((gi l_ aU).ah)).getD 0)).ah,(gi bi ((aC bH ((gi l_ aU).ah)).getD 0)).Kind,(gi bi ((aC bH ((gi l_ aU).ah)).getD 0)).aD,aU,(gi bi ((aC bH ((gi l_ aU).ah)).getD 0)).Result⟩:ab)) ((aC bH ((gi l_ aU).ah)).getD 0)).ah,(gi (bi.set ((aC bH ((gi l_ aU).ah)).getD 0).toNat (⟨(gi bi ((aC bH ((gi l_ aU).ah)).getD 0)).ah,(gi bi ((aC bH ((gi l_ aU).ah)).getD 0)).Kind,(gi bi ((aC bH ((gi l_ aU).ah)).getD 0)).aD,aU,(gi bi ((aC bH ((gi l_ aU).ah)).getD 0)).Result⟩:ab)) ((aC bH ((gi l_ aU).ah)).getD 0)).Kind,(gi (bi.set ((aC bH ((gi l_ aU).ah)).getD 0).toNat (⟨(gi bi ((aC bH ((gi l_ aU).ah)).getD 0)).ah,(gi bi ((aC bH ((gi l_ aU).ah)).getD 0)).Kind,(gi bi ((aC bH ((gi l_ aU).ah)).getD 0)).aD,aU,(gi bi ((aC bH ((gi l_ aU).ah)).getD 0)).Result⟩:ab)) ((aC bH ((gi l_ aU).ah)).getD 0)).aD,(gi (bi.set ((aC bH ((gi l_ aU).ah)).getD 0).toNat (⟨(gi bi ((aC bH ((gi l_ aU).ah)).getD 0)).ah,(gi bi ((aC bH ((gi l_ aU).ah)).getD 0)).Kind,(gi bi ((aC bH ((gi l_ aU).ah)).getD 0)).aD,aU,(gi bi ((aC bH ((gi l_ aU).ah)).getD 0)).Result⟩:ab)) ((aC bH ((gi l_ aU).ah)).getD 0)).End,(gi l_ aU).N⟩:ab)) dY),(7,V (.map (some iJ))),(20,Sl a1 l_ c1),(21,I (lN l_)),(22,I aU)],[]⟩
    exact ⟨Z,_,((bi.set ((aC bH ((gi l_ aU).ah)).getD 0).toNat (⟨(gi bi ((aC bH ((gi l_ aU).ah)).getD 0)).ah,(gi bi ((aC bH ((gi l_ aU).ah)).getD 0)).Kind,(gi bi ((aC bH ((gi l_ aU).ah)).getD 0)).aD,aU,(gi bi ((aC bH ((gi l_ aU).ah)).getD 0)).Result⟩:ab)).set ((aC bH ((gi l_ aU).ah)).getD 0).toNat (⟨(gi (bi.set ((aC bH ((gi l_ aU).ah)).getD 0).toNat (⟨(gi bi ((aC bH ((gi l_ aU).ah)).getD 0)).ah,(gi bi ((aC bH ((gi l_ aU).ah)).getD 0)).Kind,(gi bi ((aC bH ((gi l_ aU).ah)).getD 0)).aD,aU,(gi bi ((aC bH ((gi l_ aU).ah)).getD 0)).Result⟩:ab)) ((aC bH ((gi l_ aU).ah)).getD 0)).ah,(gi (bi.set ((aC bH ((gi l_ aU).ah)).getD 0).toNat (⟨(gi bi ((aC bH ((gi l_ aU).ah)).getD 0)).ah,(gi bi ((aC bH ((gi l_ aU).ah)).getD 0)).Kind,(gi bi ((aC bH ((gi l_ aU).ah)).getD 0)).aD,aU,(gi bi ((aC bH ((gi l_ aU).ah)).getD 0)).Result⟩:ab)) ((aC bH ((gi l_ aU).ah)).getD 0)).Kind,(gi (bi.set ((aC bH ((gi l_ aU).ah)).getD 0).toNat (⟨(gi bi ((aC bH ((gi l_ aU).ah)).getD 0)).ah,(gi bi ((aC bH ((gi l_ aU).ah)).getD 0)).Kind,(gi bi ((aC bH ((gi l_ aU).ah)).getD 0)).aD,aU,(gi bi ((aC bH ((gi l_ aU).ah)).getD 0)).Result⟩:ab)) ((aC bH ((gi l_ aU).ah)).getD 0)).aD,(gi (bi.set ((aC bH ((gi l_ aU).ah)).getD 0).toNat (⟨(gi bi ((aC bH ((gi l_ aU).ah)).getD 0)).ah,(gi bi ((aC bH ((gi l_ aU).ah)).getD 0)).Kind,(gi bi ((aC bH ((gi l_ aU).ah)).getD 0)).aD,aU,(gi bi ((aC bH ((gi l_ aU).ah)).getD 0)).Result⟩:ab)) ((aC bH ((gi l_ aU).ah)).getD 0)).End,(gi l_ aU).N⟩:ab)),bH,dZ,dY,hm,hS.sl _,hO,h159,h120,h121⟩
   rintro a Jr ⟨Z,LR,ib,d7,jP,jL,hm,hS,hO,h126,h128,h129⟩
   unfold VC56_J2 at hm
   refine region (ePe T hS [] [(22,I (wR (aU+1)))] fun a hS=>?_)
   exact ⟨⟨ib,d7,wR (aU+1)⟩,⟨Z,_,jP,jL,hm.1,hS.sl _,hO,h126,h128,h129⟩,hm.2⟩
  replace hm:=hm.2 hb
  refine cl (by rfl) ?_
  exact ⟨Z,_,bi,dZ,dY,hm,hS.sl _,hO,h118⟩
 rintro a GF ⟨Z,Iz,cQ,gu,gt,hm,hS,hO,h112⟩
 unfold VC56_J1 at hm
 refine rPe T hS [6] [(2,Sl gu cQ gt),(3,I 0)] fun a hS=>?_
 refine aZ ?_
 obtain ⟨vA,hE,hF⟩:=h112.freeze (by decide)
 replace hS:=hS.ev hE (cN kr)
 replace hO:=hO.m2 hE
 have h114:=hF; clear hE hF
 exact fin T hS hO (fun c=>c) rfl (r:=[.slice gu cQ.length gt,.int .i64 0]) kr (fun X' hM hC=>⟨(cQ,0),hm,gu,gt,rfl,h114.m0 hM⟩)
theorem C56 (Fb:S55) (v:∀ (l_:List au),VC56 l_ (fun r=>r=gw l_)):S56:=by
 intro w X l_ a1 c1   h1
 refine (W56 Fb w X l_ a1 c1   _ (v l_) h1).mono ?_
 rintro _ _ _ _ ⟨r,rfl,h⟩
 exact h
end Go.Proofs.YteahldlmkheleaaGreat
