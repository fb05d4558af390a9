import Derived.Test.YteahldlmkheleaaGreatLWalksS
set_option linter.all false
namespace Go.Proofs.YteahldlmkheleaaGreat
open Go Go.Sv
abbrev zAd0 (i7 dK cD:Nat):Nat->Nat:=fun c=>(bif Nat.beq c 13 then i7 else (bif Nat.beq c 1011 then dK else (bif Nat.beq c 1010 then cD else c)))
abbrev zAd1 (cD:Nat):Nat->Nat:=fun c=>(bif Nat.beq c 1005 then cD else c)
abbrev zAd2 (i1 m1 m4 m5:Nat):List (Nat × Nat):=[(i1,901),(m1,2001),(m4,2004),(m5,2005)]
set_option maxHeartbeats 1000000
theorem W90 (N) (FL:S100) (FK:S101) (FJ:S102N N) (FI:S105) (w0) (X0) (state:Int) (so:List aa) (al:aX) (a1) (c1) (m1) (a2) (c2) (a3) (c3) (a4) (c4) (m4) (r5) (m5) (b1) (i1) (Q:(List aa) × Bool × aX->Prop) (hm:VC90 N state so al Q) (h1:OS au 56 w0 X0 m1 a1 so c1) (h2:RS az w0 X0 a2 al.o.Rows c2) (h3:RS aq w0 X0 a3 al.l c3) (h4:OS dE 4 w0 X0 m4 a4 al.done c4) (h5:OMS aQ tI false w0 X0 m5 r5 al.failed) (fb:Cell w0 X0 b1 i1 161 [.int .i64 al.o.ar,.int .i64 al.o.aw,.int .i64 al.o.aE,.slice a2 al.o.Rows.length c2,.slice a3 al.l.length c3,.slice a4 al.done.length c4,.map (some r5)]) (hA:dP [i1,m1,m4,m5]) :
  Ret Tryz.prog 90 #[.pointer (some ⟨b1,0,none⟩),.int .i64 state,.slice a1 so.length c1] (pR [i1,m1,m4,m5]) w0 X0 (fun w X' v=>∃ r,Q r/\∃ co cn iA iz oE oD wV wU,v=.tuple #[.slice co r.1.length cn,.bool r.2.1]/\OS au 56 w X' m1 co r.1 cn/\RS az w X' iA r.2.2.o.Rows iz/\RS aq w X' oE r.2.2.l oD/\OS dE 4 w X' m4 wV r.2.2.done wU/\Cell w X' b1 i1 161 [.int .i64 r.2.2.o.ar,.int .i64 r.2.2.o.aw,.int .i64 r.2.2.o.aE,.slice iA r.2.2.o.Rows.length iz,.slice oE r.2.2.l.length oD,.slice wV r.2.2.done.length wU,.map (some r5)]/\OMS aQ tI false w X' m5 r5 r.2.2.failed):=by
 unfold VC90 at hm
 replace hm:=hm (h1.sm kr)
 replace hm:=hm (h2.sm kr)
 replace hm:=hm (h3.sm kr)
 replace hm:=hm (h4.sm kr)
 refine fv Tryz.func90 rfl (dB (zAd2 i1 m1 m4 m5)) (fun id=>(bif Nat.beq id 901 then b1 else 0)) (args:=[Pt 901 0,I state,Sl a1 so c1]) (bxs:=[(901,(161,[I al.o.ar,I al.o.aw,I al.o.aE,Sl a2 al.o.Rows c2,Sl a3 al.l c3,Sl a4 al.done c4,V (.map (some r5))]))]) kr rfl (bn.cons kr (fb.map (bK 0 hA.1 rfl)) bn.nil) (fe (fun q hq=>(hA.2 q.1 (List.mem_map.2 ⟨q,hq,rfl⟩)).1)) ?_
 intro a hS hO hM
 have hP:Pin [(901,b1)] (fun id=>(bif Nat.beq id 901 then b1 else 0)):=by intro q hq; simp at hq; rcases hq with rfl <;> rfl
 generalize (fun id=>(bif Nat.beq id 901 then b1 else 0))=Z at hS hP
 clear fb
 replace h1:=h1.map (f:=dB (zAd2 i1 m1 m4 m5)) (bK 1 hA.1 rfl) hM
 replace h2:=h2.m0 hM
 replace h3:=h3.m0 hM
 replace h4:=h4.map (f:=dB (zAd2 i1 m1 m4 m5)) (bK 2 hA.1 rfl) hM
 replace h5:=h5.map (f:=dB (zAd2 i1 m1 m4 m5)) (bK 3 hA.1 rfl) hM
 refine rM T hS ⟨[(3,Pt 4 0),(4,Pt 5 0),(5,Pt 6 0)],[(4,(147,[Pt 901 0])),(5,(3,[I state])),(6,(26,[Sl a1 so c1])),(901,(161,[I al.o.ar,I al.o.aw,I al.o.aE,Sl a2 al.o.Rows c2,Sl a3 al.l c3,Sl a4 al.done c4,V (.map (some r5))]))]⟩ fun Z a NP P9 hS hE hr=>?_
 replace hO:=hO.m2 hE
 replace h1:=h1.m2 hE
 replace h2:=h2.m1 hE
 replace h3:=h3.m1 hE
 replace h4:=h4.m2 hE
 replace h5:=h5.m2 hE
 replace hP:=hP.mv hr kr
 clear hE hr
 refine bc ?_
 refine bl ?_
 refine oPe T hS 1 [] [(14,Pt 901 0)] fun a hS=>?_
 have hb105:=(hS.cell (id:=901) (t:=161) (cs:=[I al.o.ar,I al.o.aw,I al.o.aE,Sl a2 al.o.Rows c2,Sl a3 al.l c3,Sl a4 al.done c4,V (.map (some r5))]) kr)
 have D8:=h5
 obtain ⟨hq,hm⟩:=hm
 refine op1 (lx hS kr kr hb100 kr (Ret.sb kr (FL _ (eN 2004 _) al a2 c2 a3 c3 a4 c4 r5 2005 (Z 901) 901 hq (h2.m0 (M0.eN 2004)) (h3.m0 (M0.eN 2004)) h4.eN (h5.DY kr) (hb105.eN kr) ⟨by decide,by decide⟩)) ?_)
 intro v101 a eX e8 hE hp hS
 clear h5
 replace hO:=hO.m2 hE
 replace h1:=h1.m2 hE
 replace h2:=h2.m1 hE
 replace h3:=h3.m1 hE
 replace h4:=h4.m2 hE
 obtain ⟨li,_,hp⟩:=hp
 obtain ⟨hp,qq,h108⟩:=hp
 replace qq:=qq.back hb105 li
 replace h108:=h108.back D8 li (fun h=>h)
 clear li hb105 D8
 obtain ⟨am,hr⟩:∃ r,dJ al=r:=⟨_,rfl⟩
 replace hm:=hm am hr
 rw [hr] at hp
 clear hr
 subst hp
 replace hS:=hS.cB (id:=901) (t:=161) (cs:=[I al.o.ar,I al.o.aw,I al.o.aE,Sl a2 al.o.Rows c2,Sl a3 al.l c3,Sl a4 al.done c4,V (.map (some r5))]) kr qq
 clear qq
 refine gA ?_
 refine aG hS (b:=am) kr (fun hb=>?_) fun hb=>?_
 ·replace hm:=hm.1 hb
  refine rP T hS ⟨[(6,Sl a1 so c1),(7,B true)],[(901,(161,[I al.o.ar,I al.o.aw,I al.o.aE,Sl a2 al.o.Rows c2,Sl a3 al.l c3,Sl a4 al.done c4,V (.map (some r5))]))]⟩ fun a hS=>?_
  refine aV ?_
  exact gy T hS hO (fun c h=>bT kr h) (fun c h=>bU (l:=(zAd2 i1 m1 m4 m5)) h) (bO (zAd2 i1 m1 m4 m5)) rfl (r:=[.slice a1 so.length c1,.bool true]) kr (fun X' hM hC=>⟨(so,true,al),hm,a1,c1,a2,c2,a3,c3,a4,c4,rfl,(OS.out (f:=(bO (zAd2 i1 m1 m4 m5))) h1 hM hC kr),h2.m0 hM,h3.m0 hM,(OS.out (f:=(bO (zAd2 i1 m1 m4 m5))) h4 hM hC kr),((hS.cell (id:=901) (t:=161) (cs:=[I al.o.ar,I al.o.aw,I al.o.aE,Sl a2 al.o.Rows c2,Sl a3 al.l c3,Sl a4 al.done c4,V (.map (some r5))]) kr).out (f:=(bO (zAd2 i1 m1 m4 m5))) hC kr kr (hP.at 0 rfl)),(h108.out (f:=(bO (zAd2 i1 m1 m4 m5))) hM hC kr kr)⟩)
 replace hm:=hm.2 hb
 refine aJ ?_
 refine bl ?_
 refine oPe T hS 2 [15] [(17,Pt 901 0),(18,I state)] fun a hS=>?_
 have hb113:=(hS.cell (id:=901) (t:=161) (cs:=[I al.o.ar,I al.o.aw,I al.o.aE,Sl a2 al.o.Rows c2,Sl a3 al.l c3,Sl a4 al.done c4,V (.map (some r5))]) kr)
 have D7:=h108
 refine op1 (lx hS kr kr hb101 kr (Ret.sb kr (FK _ (eN 2004 _) state al a2 c2 a3 c3 a4 c4 r5 2005 (Z 901) 901 (h2.m0 (M0.eN 2004)) (h3.m0 (M0.eN 2004)) h4.eN (h108.DY kr) (hb113.eN kr) ⟨by decide,by decide⟩)) ?_)
 intro v109 a E3 Gr hE hp hS
 clear h108
 replace hO:=hO.m2 hE
 replace h1:=h1.m2 hE
 replace h2:=h2.m1 hE
 replace h3:=h3.m1 hE
 replace h4:=h4.m2 hE
 obtain ⟨li,_,hp⟩:=hp
 obtain ⟨hp,xO,h116⟩:=hp
 replace xO:=xO.back hb113 li
 replace h116:=h116.back D7 li (fun h=>h)
 clear li hb113 D7
 obtain ⟨bH,hr⟩:∃ r,dy state al=r:=⟨_,rfl⟩
 replace hm:=hm bH hr
 rw [hr] at hp
 clear hr
 subst hp
 replace hS:=hS.cB (id:=901) (t:=161) (cs:=[I al.o.ar,I al.o.aw,I al.o.aE,Sl a2 al.o.Rows c2,Sl a3 al.l c3,Sl a4 al.done c4,V (.map (some r5))]) kr xO
 clear xO
 refine eM T hS ⟨[(3,Pt 4 0),(4,Pt 5 0),(5,Pt 6 0),(8,Pt 9 0)],[(4,(147,[Pt 901 0])),(5,(3,[I state])),(6,(26,[Sl a1 so c1])),(9,(164,[V (.int .u32 bH.done),I bH.state])),(901,(161,[I al.o.ar,I al.o.aw,I al.o.aE,Sl a2 al.o.Rows c2,Sl a3 al.l c3,Sl a4 al.done c4,V (.map (some r5))]))]⟩ fun Z a NQ Qa hS hE hr=>?_
 replace hO:=hO.m2 hE
 replace h1:=h1.m2 hE
 replace h2:=h2.m1 hE
 replace h3:=h3.m1 hE
 replace h4:=h4.m2 hE
 replace h116:=h116.m2 hE
 replace hP:=hP.mv hr kr
 clear hE hr
 refine bc ?_
 refine dw [4,5,6,9,901] mixed hS ?_
 intro Af DN hS hE hD hH
 replace hO:=hO.m2 hE
 replace h1:=h1.m2 hE
 replace h2:=h2.m1 hE
 replace h3:=h3.m1 hE
 replace h4:=h4.m2 hE
 replace h116:=h116.m2 hE
 refine tke T [0,4,1,2,3] [4,5,6,9,901] hS hH #[true,true,true,true,true,false,false] 2 [] [(23,V (.map (some r5))),(24,V (.agg #[.int .u32 bH.done,.int .i64 bH.state]))] fun a hS=>?_
 refine only 5 kr (by rfl) (AN aQ tI false (zv:=.int .i64 0) (z:=0) bH hS kr kr kr kr Tryz.underlying159 fN kr rfl h116 ?_)
 intro v119 a hv hS
 replace hv:tI.R _ _ [v119] _:=hv
 cases hv
 refine c8 (bJ.of hS (bks:=[4,5,6,9,901]) kr hD) ?_
 intro hH
 refine tke T [6] [4,5,6,9,901] hS hH (tts 7) 0 [23,24,25] [(26,B (decide (((aC al.failed bH).getD 0) > 0)))] fun a hS=>?_
 refine aU kr ?_
 replace hS:=hS.sle [] []
 refine aG hS (b:=decide (((aC al.failed bH).getD 0) > 0)) kr (fun hb=>?_) fun hb=>?_
 ·replace hm:=hm.1 hb
  refine rP T hS ⟨[(6,V (.slice none 0 0)),(7,B false)],[(901,(161,[I al.o.ar,I al.o.aw,I al.o.aE,Sl a2 al.o.Rows c2,Sl a3 al.l c3,Sl a4 al.done c4,V (.map (some r5))]))]⟩ fun a hS=>?_
  refine aV ?_
  exact gy T hS hO (fun c h=>bT kr h) (fun c h=>bU (l:=(zAd2 i1 m1 m4 m5)) h) (bO (zAd2 i1 m1 m4 m5)) rfl (r:=[.slice none 0 0,.bool false]) kr (fun X' hM hC=>⟨([],false,al),hm,none,0,a2,c2,a3,c3,a4,c4,rfl,OS.nil _ _ _ _ _,h2.m0 hM,h3.m0 hM,(OS.out (f:=(bO (zAd2 i1 m1 m4 m5))) h4 hM hC kr),((hS.cell (id:=901) (t:=161) (cs:=[I al.o.ar,I al.o.aw,I al.o.aE,Sl a2 al.o.Rows c2,Sl a3 al.l c3,Sl a4 al.done c4,V (.map (some r5))]) kr).out (f:=(bO (zAd2 i1 m1 m4 m5))) hC kr kr (hP.at 0 rfl)),(h116.out (f:=(bO (zAd2 i1 m1 m4 m5))) hM hC kr kr)⟩)
 replace hm:=hm.2 hb
 refine aJ ?_
 refine rPe T hS [5,26] [(9,.f (.func 102) [] [.p 4 0,.p 5 0,.p 6 0])] fun a hS=>?_
 refine b5 (fun a w=>∃ (Z:Nat->Nat) (X:Nat->Nat) (d3:Int) (ib:Int) (aR:Int) (d5:List a8) (cU:List ab) (fE:List Bool) (fU:List (bX × Int)) (gN:Option Addr) (gK:Nat) (hZ:Option Addr) (hY:Nat) (gD:Option Addr) (gB:Nat),VC90_J1 N state Q bH d3 ib aR d5 cU fE fU/\St Tryz.f90.ntmps ⟨[(3,Pt 4 0),(8,Pt 9 0)],[(4,(147,[Pt 901 0])),(9,(164,[V (.int .u32 bH.done),I bH.state])),(901,(161,[I d3,I ib,I aR,Sl gN d5 gK,Sl hZ cU hY,Sl gD fE gB,V (.map (some r5))]))]⟩ Z a w X/\fO (dB (zAd2 i1 m1 m4 m5)) w0 X0 w X/\Pin [(901,b1)] Z/\RS az w X gN d5 gK/\RS aq w X hZ cU hY/\OS dE 4 w X 2004 gD fE gB/\OMS aQ tI false w X 2005 r5 fU) ?_ ?_
 ·refine dw [4,5,6,9] mixed hS ?_
  intro z7 B2 hS hE hD hH
  replace hO:=hO.m2 hE
  replace h1:=h1.m2 hE
  replace h2:=h2.m1 hE
  replace h3:=h3.m1 hE
  replace h4:=h4.m2 hE
  replace h116:=h116.m2 hE
  refine tke T [0,4,8,9,15,1,5,10,2,6,11] [4,5,6,9] hS hH #[true,true,true,false,true,true,true,false,true,true,true,true,false,false,false,true] 5 [4] [(30,Pt 901 0),(34,Pt 901 4),(36,I state),(39,Pt 901 5),(43,I 0)] fun a hS=>?_
  refine xZ (fun a w=>∃ X,St Tryz.f90.ntmps ⟨[(3,Pt 4 0),(8,Pt 9 0),(9,.f (.func 102) [] [.p 4 0,.p 5 0,.p 6 0]),(31,V (.agg #[.int .i64 al.o.ar,.int .i64 al.o.aw,.int .i64 al.o.aE,.slice a2 al.o.Rows.length c2])),(35,Sl a3 al.l c3),(36,I state),(40,Sl a4 al.done c4),(43,I 0)],[(4,(147,[Pt 901 0])),(5,(3,[I state])),(6,(26,[Sl a1 so c1])),(9,(164,[V (.int .u32 bH.done),I bH.state])),(901,(161,[I al.o.ar,I al.o.aw,I al.o.aE,Sl a2 al.o.Rows c2,Sl a3 al.l c3,Sl a4 al.done c4,V (.map (some r5))]))]⟩ Z a w X/\fO (dB (zAd2 i1 m1 m4 m5)) w0 X0 w X/\M0 z7 B2 w X/\bJ z7 B2 (me [4,5,6,9] ⟨[(3,Pt 4 0),(4,Pt 5 0),(8,Pt 9 0),(9,.f (.func 102) [] [.p 4 0,.p 5 0,.p 6 0])],[(4,(147,[Pt 901 0])),(5,(3,[I state])),(6,(26,[Sl a1 so c1])),(9,(164,[V (.int .u32 bH.done),I bH.state])),(901,(161,[I al.o.ar,I al.o.aw,I al.o.aE,Sl a2 al.o.Rows c2,Sl a3 al.l c3,Sl a4 al.done c4,V (.map (some r5))]))]⟩) Z w/\RS az w X a2 al.o.Rows c2/\RS aq w X a3 al.l c3/\OS dE 4 w X 2004 a4 al.done c4/\OS au 56 w X 2001 a1 so c1/\OMS aQ tI false w X 2005 r5 al.failed) #[true,true,true,true,true,true,true,true,true,true,true,true,true,false,false,true] 2 ?_ (fun H=>?_)
  ·rintro a EQ ⟨Qq,hS,hO,hD,hH,h180,h181,h182,h183,h184⟩
   obtain ⟨hq,hm⟩:=hm
   refine only 13 kr (by rfl) (call hS kr kr hb105 kr (fun _ _=>rfl) (Ret.CE (FI _ (eN 2004 _) al.o al.l state al.done a2 c2 a3 c3 a4 c4 4193 hq (h180.m0 (M0.eN 2004)) (h181.m0 (M0.eN 2004)) h182.eN)) ?_)
   intro v187 a N6 Qp hE hp hS
   replace hO:=hO.m2 hE
   replace hD:=hD.ev hE rfl
   replace h180:=h180.m1 hE
   replace h181:=h181.m1 hE
   replace h182:=h182.m2 hE
   replace h183:=h183.m2 hE
   replace h184:=h184.m2 hE
   obtain ⟨_,Ey,hp⟩:=hp
   obtain ⟨IA,Ik,hp,h193⟩:=hp
   replace h193:=h193.Is Ey kr (fun h=>h)
   clear Ey
   obtain ⟨mG,hr⟩:∃ r,bG al.o al.l state al.done=r:=⟨_,rfl⟩
   replace hm:=hm mG hr
   rw [hr] at hp h193
   clear hr
   subst hp
   replace hm:=hm (h193.sm kr)
   replace hS:=hS.sle [] [(41,Sl IA mG Ik)]
   refine c8 (bJ.of hS (bks:=[4,5,6,9]) kr hD) ?_
   intro hH
   refine tke T [14] [4,5,6,9] hS hH (tts 16) 0 [31,35,36,40] [(42,I (lN mG))] fun a hS=>?_
   refine aU kr ?_
   replace hS:=hS.sle [] []
   refine aK ?_
   obtain ⟨Qo,hE,hF⟩:=h183.freeze (by decide)
   replace hS:=hS.ev hE (cq kr)
   replace hO:=hO.m2 hE
   replace h180:=h180.m1 hE
   replace h181:=h181.m1 hE
   replace h182:=h182.m2 hE
   replace h184:=h184.m2 hE
   replace h193:=h193.m2 hE
   have h195:=hF; clear hE hF
   obtain ⟨I1,μ1,ci,hm⟩:=hm
   refine cg (σ:=(List aa) × Int × Int × Int × Int × (List a8) × (List ab) × (List Bool) × (List (bX × Int))) (fun s a w=>∃ Z X mW mS nN nI vb uW va uV,I1 s.1 s.2.1 s.2.2.1 s.2.2.2.1 s.2.2.2.2.1 s.2.2.2.2.2.1 s.2.2.2.2.2.2.1 s.2.2.2.2.2.2.2.1 s.2.2.2.2.2.2.2.2/\St Tryz.f90.ntmps ⟨[(3,Pt 4 0),(8,Pt 9 0),(9,.f (.func 102) [] [.p 4 0,.p 5 0,.p 6 0]),(41,Sl mW s.1 mS),(42,I (lN mG)),(43,I s.2.1)],[(4,(147,[Pt 901 0])),(5,(3,[I state])),(6,(26,[Sl a1 so c1])),(9,(164,[V (.int .u32 bH.done),I bH.state])),(901,(161,[I s.2.2.1,I s.2.2.2.1,I s.2.2.2.2.1,Sl nN s.2.2.2.2.2.1 nI,Sl vb s.2.2.2.2.2.2.1 uW,Sl va s.2.2.2.2.2.2.2.1 uV,V (.map (some r5))]))]⟩ Z a w X/\fO (dB (zAd2 i1 m1 m4 m5)) w0 X0 w X/\Pin [(901,b1)] Z/\OS au 56 w X 4193 mW s.1 mS/\RS au w X a1 so c1/\RS az w X nN s.2.2.2.2.2.1 nI/\RS aq w X vb s.2.2.2.2.2.2.1 uW/\OS dE 4 w X 2004 va s.2.2.2.2.2.2.2.1 uV/\OMS aQ tI false w X 2005 r5 s.2.2.2.2.2.2.2.2) (fun s=>μ1 s.1 s.2.1 s.2.2.1 s.2.2.2.1 s.2.2.2.2.1 s.2.2.2.2.2.1 s.2.2.2.2.2.2.1 s.2.2.2.2.2.2.2.1 s.2.2.2.2.2.2.2.2) (⟨mG,0,al.o.ar,al.o.aw,al.o.aE,al.o.Rows,al.l,al.done,al.failed⟩) ?_ ?_
   ·exact ⟨Z,_,IA,Ik,a2,c2,a3,c3,a4,c4,ci,hS.sl _,hO,hP,h193,h195,h180,h181,h182,h184⟩
   rintro ⟨m6,h8,iW,vv,vu,vt,vr,jp,Cs⟩ a Jz ⟨Z,Qb,mW,mS,nN,nI,vb,uW,va,uV,hI,hS,hO,hP,h199,h201,h208,h212,h216,h218⟩
   replace hm:=hm m6 h8 iW vv vu vt vr jp Cs hI
   clear hI ci
   refine rPe T hS [] [(44,B (decide (h8 < (lN mG))))] fun a hS=>?_
   refine bc ?_
   refine aG hS (b:=decide (h8 < (lN mG))) kr (fun hb=>?_) fun hb=>?_
   ·replace hm:=hm.1 hb
    refine aJ (bc ?_)
    refine aK ?_
    refine bl ?_
    obtain ⟨D4,hm⟩:=hm
    refine op1 (k5 (E:=56) (k:=.i64) T hS kr kr kr kr h199 kr kr D4.1 D4.2 ?_)
    intro My a h221 h220 hS
    refine op1 (AU T hS kr kr kr h220 kr kr ?_)
    intro v223 a hv hS
    subst hv
    refine eM T hS ⟨[(3,Pt 4 0),(8,Pt 9 0),(9,.f (.func 102) [] [.p 4 0,.p 5 0,.p 6 0]),(11,Pt 12 0),(41,Sl mW m6 mS),(42,I (lN mG)),(43,I h8)],[(4,(147,[Pt 901 0])),(5,(3,[I state])),(6,(26,[Sl a1 so c1])),(9,(164,[V (.int .u32 bH.done),I bH.state])),(12,(56,(cK (gi m6 h8)))),(901,(161,[I iW,I vv,I vu,Sl nN vt nI,Sl vb vr uW,Sl va jp uV,V (.map (some r5))]))]⟩ fun Z a JA L9 hS hE hr=>?_
    replace hO:=hO.m2 hE
    replace h199:=h199.m2 hE
    replace h201:=h201.m1 hE
    replace h208:=h208.m1 hE
    replace h212:=h212.m1 hE
    replace h216:=h216.m2 hE
    replace h218:=h218.m2 hE
    replace hP:=hP.mv hr kr
    clear hE hr
    refine bl ?_
    refine oP T hS 2 ⟨[(3,Pt 4 0),(8,Pt 9 0),(9,.f (.func 102) [] [.p 4 0,.p 5 0,.p 6 0]),(41,Sl mW m6 mS),(42,I (lN mG)),(43,I h8),(48,.f (.func 102) [] [.p 4 0,.p 5 0,.p 6 0]),(49,V (.agg #[.int .i64 ((gi m6 h8).Oper),.int .i64 ((gi m6 h8).Result)]))],[(4,(147,[Pt 901 0])),(5,(3,[I state])),(6,(26,[Sl a1 so c1])),(9,(164,[V (.int .u32 bH.done),I bH.state])),(901,(161,[I iW,I vv,I vu,Sl nN vt nI,Sl vb vr uW,Sl va jp uV,V (.map (some r5))]))]⟩ fun a hS=>?_
    obtain ⟨hq,hm⟩:=hm
    refine op1 (jK (fi:=[]) (cp:=[.p 4 0,.p 5 0,.p 6 0]) hS kr kr hb102 kr kr (FJ _ _ (gi m6 h8) (⟨(⟨iW,vv,vu,vt⟩:ah),vr,jp,Cs⟩:aX) state so nN nI vb uW va uV 2004 r5 2005 a1 c1 2001 (Z 4) 4 (Z 901) 901 (Z 5) 5 (Z 6) 6 hq.1 hq.2 h208 h212 h216 h218 h201 (hS.cell (id:=4) (t:=147) (cs:=[Pt 901 0]) kr) (hS.cell (id:=901) (t:=161) (cs:=[I iW,I vv,I vu,Sl nN vt nI,Sl vb vr uW,Sl va jp uV,V (.map (some r5))]) kr) (hS.cell (id:=5) (t:=3) (cs:=[I state]) kr) (hS.cell (id:=6) (t:=26) (cs:=[Sl a1 so c1]) kr) ⟨by decide,by decide⟩) ?_)
    intro v224 a NZ Qj hE hp hS
    clear h218
    clear h216
    replace hO:=hO.m2 hE
    replace h199:=h199.m2 hE
    replace h201:=h201.m1 hE
    replace h208:=h208.m1 hE
    replace h212:=h212.m1 hE
    obtain ⟨DC,Dq,BT,BD,BS,BC,BR,BB,hp,h230,h233,h236,h239,Ed,Bc,h240,Ec,Eb⟩:=hp
    obtain ⟨d4,hr⟩:∃ r,bf (gi m6 h8) (⟨(⟨iW,vv,vu,vt⟩:ah),vr,jp,Cs⟩:aX) state so=r:=⟨_,rfl⟩
    replace hm:=hm d4 hr
    rw [hr] at hp h230 h233 h236 h239 Bc h240
    clear hr
    subst hp
    replace hm:=hm (h230.sm kr)
    replace hm:=hm (h233.sm kr)
    replace hm:=hm (h236.sm kr)
    replace hm:=hm (h239.sm kr)
    replace hS:=hS.cB (id:=4) (t:=147) (cs:=[Pt 901 0]) kr Ed
    replace hS:=hS.cB (id:=901) (t:=161) (cs:=[I d4.2.2.o.ar,I d4.2.2.o.aw,I d4.2.2.o.aE,Sl BT d4.2.2.o.Rows BD,Sl BS d4.2.2.l BC,Sl BR d4.2.2.done BB,V (.map (some r5))]) kr Bc
    replace hS:=hS.cB (id:=5) (t:=3) (cs:=[I state]) kr Ec
    replace hS:=hS.cB (id:=6) (t:=26) (cs:=[Sl a1 so c1]) kr Eb
    clear Ed Bc Ec Eb
    refine ePe T hS [48,49,50] [(12,Sl DC d4.1 Dq),(13,B d4.2.1)] fun a hS=>?_
    refine rPe T hS [13] [(53,B d4.2.1)] fun a hS=>?_
    refine aG hS (b:=d4.2.1) kr (fun hb=>?_) fun hb=>?_
    ·replace hm:=hm.1 hb
     refine rP T hS ⟨[(6,Sl DC d4.1 Dq),(7,B true)],[(901,(161,[I d4.2.2.o.ar,I d4.2.2.o.aw,I d4.2.2.o.aE,Sl BT d4.2.2.o.Rows BD,Sl BS d4.2.2.l BC,Sl BR d4.2.2.done BB,V (.map (some r5))]))]⟩ fun a hS=>?_
     refine aV ?_
     exact gy T hS hO (fun c h=>bT kr h) (fun c h=>bU (l:=(zAd2 i1 m1 m4 m5)) h) (bO (zAd2 i1 m1 m4 m5)) rfl (r:=[.slice DC d4.1.length Dq,.bool true]) kr (fun X' hM hC=>⟨(d4.1,true,d4.2.2),hm,DC,Dq,BT,BD,BS,BC,BR,BB,rfl,(OS.out (f:=(bO (zAd2 i1 m1 m4 m5))) h230 hM hC kr),h233.m0 hM,h236.m0 hM,(OS.out (f:=(bO (zAd2 i1 m1 m4 m5))) h239 hM hC kr),((hS.cell (id:=901) (t:=161) (cs:=[I d4.2.2.o.ar,I d4.2.2.o.aw,I d4.2.2.o.aE,Sl BT d4.2.2.o.Rows BD,Sl BS d4.2.2.l BC,Sl BR d4.2.2.done BB,V (.map (some r5))]) kr).out (f:=(bO (zAd2 i1 m1 m4 m5))) hC kr kr (hP.at 0 rfl)),(h240.out (f:=(bO (zAd2 i1 m1 m4 m5))) hM hC kr kr)⟩)
    replace hm:=hm.2 hb
    refine aJ ?_
    refine region (ePe T hS [12,53] [(43,I (wR (h8+1)))] fun a hS=>?_)
    exact ⟨⟨m6,wR (h8+1),d4.2.2.o.ar,d4.2.2.o.aw,d4.2.2.o.aE,d4.2.2.o.Rows,d4.2.2.l,d4.2.2.done,d4.2.2.failed⟩,⟨Z,_,mW,mS,BT,BD,BS,BC,BR,BB,hm.1,hS.sl _,hO,hP,h199,h201,h233,h236,h239,h240⟩,hm.2⟩
   replace hm:=hm.2 hb
   refine cb (by rfl) ?_
   exact ⟨Z,_,iW,vv,vu,vt,vr,jp,Cs,nN,nI,vb,uW,va,uV,hm,hS.sl _,hO,hP,h208,h212,h216,h218⟩
  clear hm
  refine qF (is:=[3,7,12]) kr (by decide) ?_
  intro i hi
  rcases J5 hi with rfl | rfl | rfl
  ·refine jA (by rfl) (gw T hS kr kr kr (sv:=V (.agg #[.int .i64 al.o.ar,.int .i64 al.o.aw,.int .i64 al.o.aE,.slice a2 al.o.Rows.length c2])) kr ?_)
   intro a hS
   refine c8 (bJ.of hS (bks:=[4,5,6,9]) kr hD) ?_
   intro hH
   refine qF (is:=[7,12]) kr (by decide) ?_
   intro i hi
   rcases yP hi with rfl | rfl
   ·refine jA (by rfl) (gw T hS kr kr kr (sv:=Sl a3 al.l c3) kr ?_)
    intro a hS
    refine c8 (bJ.of hS (bks:=[4,5,6,9]) kr hD) ?_
    intro hH
    refine only 12 kr (by rfl) (gw T hS kr kr kr (sv:=Sl a4 al.done c4) kr ?_)
    intro a hS
    refine c8 (bJ.of hS (bks:=[4,5,6,9]) kr hD) ?_
    intro hH
    exact H _ _ ⟨_,hS.sl _,hO,hD,hH,h2,h3,h4,h1,h116⟩
   refine jA (by rfl) (gw T hS kr kr kr (sv:=Sl a4 al.done c4) kr ?_)
   intro a hS
   refine c8 (bJ.of hS (bks:=[4,5,6,9]) kr hD) ?_
   intro hH
   refine only 7 kr (by rfl) (gw T hS kr kr kr (sv:=Sl a3 al.l c3) kr ?_)
   intro a hS
   refine c8 (bJ.of hS (bks:=[4,5,6,9]) kr hD) ?_
   intro hH
   exact H _ _ ⟨_,hS.sl _,hO,hD,hH,h2,h3,h4,h1,h116⟩
  ·refine jA (by rfl) (gw T hS kr kr kr (sv:=Sl a3 al.l c3) kr ?_)
   intro a hS
   refine c8 (bJ.of hS (bks:=[4,5,6,9]) kr hD) ?_
   intro hH
   refine qF (is:=[3,12]) kr (by decide) ?_
   intro i hi
   rcases yP hi with rfl | rfl
   ·refine jA (by rfl) (gw T hS kr kr kr (sv:=V (.agg #[.int .i64 al.o.ar,.int .i64 al.o.aw,.int .i64 al.o.aE,.slice a2 al.o.Rows.length c2])) kr ?_)
    intro a hS
    refine c8 (bJ.of hS (bks:=[4,5,6,9]) kr hD) ?_
    intro hH
    refine only 12 kr (by rfl) (gw T hS kr kr kr (sv:=Sl a4 al.done c4) kr ?_)
    intro a hS
    refine c8 (bJ.of hS (bks:=[4,5,6,9]) kr hD) ?_
    intro hH
    exact H _ _ ⟨_,hS.sl _,hO,hD,hH,h2,h3,h4,h1,h116⟩
   refine jA (by rfl) (gw T hS kr kr kr (sv:=Sl a4 al.done c4) kr ?_)
   intro a hS
   refine c8 (bJ.of hS (bks:=[4,5,6,9]) kr hD) ?_
   intro hH
   refine only 3 kr (by rfl) (gw T hS kr kr kr (sv:=V (.agg #[.int .i64 al.o.ar,.int .i64 al.o.aw,.int .i64 al.o.aE,.slice a2 al.o.Rows.length c2])) kr ?_)
   intro a hS
   refine c8 (bJ.of hS (bks:=[4,5,6,9]) kr hD) ?_
   intro hH
   exact H _ _ ⟨_,hS.sl _,hO,hD,hH,h2,h3,h4,h1,h116⟩
  refine jA (by rfl) (gw T hS kr kr kr (sv:=Sl a4 al.done c4) kr ?_)
  intro a hS
  refine c8 (bJ.of hS (bks:=[4,5,6,9]) kr hD) ?_
  intro hH
  refine qF (is:=[3,7]) kr (by decide) ?_
  intro i hi
  rcases yP hi with rfl | rfl
  ·refine jA (by rfl) (gw T hS kr kr kr (sv:=V (.agg #[.int .i64 al.o.ar,.int .i64 al.o.aw,.int .i64 al.o.aE,.slice a2 al.o.Rows.length c2])) kr ?_)
   intro a hS
   refine c8 (bJ.of hS (bks:=[4,5,6,9]) kr hD) ?_
   intro hH
   refine only 7 kr (by rfl) (gw T hS kr kr kr (sv:=Sl a3 al.l c3) kr ?_)
   intro a hS
   refine c8 (bJ.of hS (bks:=[4,5,6,9]) kr hD) ?_
   intro hH
   exact H _ _ ⟨_,hS.sl _,hO,hD,hH,h2,h3,h4,h1,h116⟩
  refine jA (by rfl) (gw T hS kr kr kr (sv:=Sl a3 al.l c3) kr ?_)
  intro a hS
  refine c8 (bJ.of hS (bks:=[4,5,6,9]) kr hD) ?_
  intro hH
  refine only 3 kr (by rfl) (gw T hS kr kr kr (sv:=V (.agg #[.int .i64 al.o.ar,.int .i64 al.o.aw,.int .i64 al.o.aE,.slice a2 al.o.Rows.length c2])) kr ?_)
  intro a hS
  refine c8 (bJ.of hS (bks:=[4,5,6,9]) kr hD) ?_
  intro hH
  exact H _ _ ⟨_,hS.sl _,hO,hD,hH,h2,h3,h4,h1,h116⟩
 rintro a NR ⟨Z,L8,d3,ib,aR,d5,cU,fE,fU,gN,gK,hZ,hY,gD,gB,hm,hS,hO,hP,h126,h130,h134,h136⟩
 unfold VC90_J1 at hm
 refine b5 (fun a w=>∃ (Z:Nat->Nat) (X:Nat->Nat) (jh:List Bool) (lC:List (bX × Int)) (mX:Option Addr) (mT:Nat),VC90_J2 N Q d3 ib aR d5 cU jh lC/\St Tryz.f90.ntmps ⟨[],[(901,(161,[I d3,I ib,I aR,Sl gN d5 gK,Sl hZ cU hY,Sl mX jh mT,V (.map (some r5))]))]⟩ Z a w X/\fO (dB (zAd2 i1 m1 m4 m5)) w0 X0 w X/\Pin [(901,b1)] Z/\RS az w X gN d5 gK/\RS aq w X hZ cU hY/\OS dE 4 w X 2004 mX jh mT/\OMS aQ tI false w X 2005 r5 lC) ?_ ?_
 ·refine bl ?_
  refine oPe T hS 2 [] [(56,V (.agg #[.int .u32 bH.done,.int .i64 bH.state])),(57,V (.agg #[.int .u32 0,.int .i64 0]))] fun a hS=>?_
  refine op1 (structEq (op:=.neq) (xs:=[.int .u32 bH.done,.int .i64 bH.state]) (ys:=[.int .u32 0,.int .i64 0]) (r:=(bH.done == 0 && (bH.state == 0 && true))) (b:=(!(bH.done == 0 && (bH.state == 0 && true)))) T hS kr kr kr kr kr kr kr kr ?_)
  intro a hS
  refine gA ?_
  refine aG hS (b:=(!(bH.done == 0 && (bH.state == 0 && true)))) kr (fun hb=>?_) fun hb=>?_
  ·replace hm:=hm.1 hb
   refine hJ [4,9,901] mixed hS ?_
   intro CB zK hS hE hD hH
   replace hO:=hO.m2 hE
   replace h126:=h126.m1 hE
   replace h130:=h130.m1 hE
   replace h134:=h134.m2 hE
   replace h136:=h136.m2 hE
   refine tke T [0,4,1,2,3] [4,9,901] hS hH #[true,true,true,true,true,false,false,false,false,false] 5 [3,8] [(62,V (.map (some r5))),(63,V (.agg #[.int .u32 bH.done,.int .i64 bH.state]))] fun a hS=>?_
   refine xZ (fun a w=>∃ X b158,St Tryz.f90.ntmps ⟨[(62,V (.map (some r5))),(65,I (wR (((aC fU bH).getD 0)+1))),(67,I ((b158:Nat):Int))],[(4,(147,[Pt 901 0])),(9,(164,[V (.int .u32 bH.done),I bH.state])),(901,(161,[I d3,I ib,I aR,Sl gN d5 gK,Sl hZ cU hY,Sl gD fE gB,V (.map (some r5))]))]⟩ Z a w X/\fO (dB (zAd2 i1 m1 m4 m5)) w0 X0 w X/\M0 CB zK w X/\bJ CB zK (me [4,9,901] ⟨[(3,Pt 4 0),(8,Pt 9 0)],[(4,(147,[Pt 901 0])),(9,(164,[V (.int .u32 bH.done),I bH.state])),(901,(161,[I d3,I ib,I aR,Sl gN d5 gK,Sl hZ cU hY,Sl gD fE gB,V (.map (some r5))]))]⟩) Z w/\OME aQ tI false w X 2005 r5 fU bH 0 b158/\RS az w X gN d5 gK/\RS aq w X hZ cU hY/\OS dE 4 w X 2004 gD fE gB) #[true,true,true,true,true,true,true,true,true,false] 1 ?_ (fun H=>?_)
   ·rintro a JQ ⟨IQ,b158,hS,hO,hD,hH,h157,h159,h160,h161⟩
    refine only 9 kr (by rfl) (J6 aQ tI false (v:=I (wR (((aC fU bH).getD 0)+1))) (u:=wR (((aC fU bH).getD 0)+1)) bH hS kr kr kr kr fN kr h157 (fun _=>rfl) ?_)
    intro a GW hE h175 hS
    clear h157
    replace hO:=hO.m2 hE
    replace hD:=hD.ev hE rfl
    replace h159:=h159.m1 hE
    replace h160:=h160.m1 hE
    replace h161:=h161.m2 hE
    refine c8 (bJ.of hS (bks:=[4,9,901]) kr hD) ?_
    intro hH
    refine aU kr ?_
    replace hS:=hS.sl ⟨[],[(901,(161,[I d3,I ib,I aR,Sl gN d5 gK,Sl hZ cU hY,Sl gD fE gB,V (.map (some r5))]))]⟩
    exact ⟨Z,_,fE,dj fU bH (wR (((aC fU bH).getD 0)+1)),gD,gB,hm,hS.sl _,hO,hP,h159,h160,h161,h175⟩
   clear hm
   refine qF (is:=[5,7]) kr (by decide) ?_
   intro i hi
   rcases yP hi with rfl | rfl
   ·refine jA (by rfl) (AN aQ tI false (zv:=.int .i64 0) (z:=0) bH hS kr kr kr kr Tryz.underlying159 fN kr rfl h136 ?_)
    intro v162 a hv hS
    replace hv:tI.R _ _ [v162] _:=hv
    cases hv
    refine c8 (bJ.of hS (bks:=[4,9,901]) kr hD) ?_
    intro hH
    refine tke T [6] [4,9,901] hS hH #[true,true,true,true,true,true,true,false,false,false] 3 [64] [(65,I (wR (((aC fU bH).getD 0)+1)))] fun a hS=>?_
    refine only 7 kr (by rfl) (DX aQ tI false (zv:=.int .i64 0) (z:=0) bH hS kr kr kr kr Tryz.underlying159 fN kr rfl kr h136 ?_)
    intro v163 b164 a Cx hE h166 hv hS
    clear h136
    replace hv:tI.R _ _ [v163] _:=hv
    cases hv
    replace hO:=hO.m2 hE
    replace hD:=hD.ev hE rfl
    replace h126:=h126.m1 hE
    replace h130:=h130.m1 hE
    replace h134:=h134.m2 hE
    refine c8 (bJ.of hS (bks:=[4,9,901]) kr hD) ?_
    intro hH
    refine tke T [8] [4,9,901] hS hH #[true,true,true,true,true,true,true,true,true,false] 1 [63,66] [(67,I ((b164:Nat):Int))] fun a hS=>?_
    exact H _ _ ⟨_,b164,hS.sl _,hO,hD,hH,h166,h126,h130,h134⟩
   refine jA (by rfl) (DX aQ tI false (zv:=.int .i64 0) (z:=0) bH hS kr kr kr kr Tryz.underlying159 fN kr rfl kr h136 ?_)
   intro v167 b168 a GX hE h170 hv hS
   clear h136
   replace hv:tI.R _ _ [v167] _:=hv
   cases hv
   replace hO:=hO.m2 hE
   replace hD:=hD.ev hE rfl
   replace h126:=h126.m1 hE
   replace h130:=h130.m1 hE
   replace h134:=h134.m2 hE
   refine c8 (bJ.of hS (bks:=[4,9,901]) kr hD) ?_
   intro hH
   refine tke T [8] [4,9,901] hS hH #[true,true,true,true,true,false,false,true,true,false] 3 [66] [(67,I ((b168:Nat):Int))] fun a hS=>?_
   refine only 5 kr (by rfl) (Fi aQ tI false bH hS kr kr kr kr Tryz.underlying159 fN h170 ?_)
   intro v171 a hv hS
   replace hv:tI.R _ _ [v171] _:=hv
   cases hv
   refine c8 (bJ.of hS (bks:=[4,9,901]) kr hD) ?_
   intro hH
   refine tke T [6] [4,9,901] hS hH #[true,true,true,true,true,true,true,true,true,false] 1 [63,64] [(65,I (wR (((aC fU bH).getD 0)+1)))] fun a hS=>?_
   exact H _ _ ⟨_,b168,hS.sl _,hO,hD,hH,h170,h126,h130,h134⟩
  replace hm:=hm.2 hb
  refine aJ ?_
  exact ⟨Z,_,fE,fU,gD,gB,hm,hS.sl _,hO,hP,h126,h130,h134,h136⟩
 rintro a JP ⟨Z,Gg,jh,lC,mX,mT,hm,hS,hO,hP,h137,h138,h142,h144⟩
 unfold VC90_J2 at hm
 refine rPe T hS [] [(6,V (.slice none 0 0)),(7,B false)] fun a hS=>?_
 refine aV ?_
 exact gy T hS hO (fun c h=>bT kr h) (fun c h=>bU (l:=(zAd2 i1 m1 m4 m5)) h) (bO (zAd2 i1 m1 m4 m5)) rfl (r:=[.slice none 0 0,.bool false]) kr (fun X' hM hC=>⟨([],false,(⟨(⟨d3,ib,aR,d5⟩:ah),cU,jh,lC⟩:aX)),hm,none,0,gN,gK,hZ,hY,mX,mT,rfl,OS.nil _ _ _ _ _,h137.m0 hM,h138.m0 hM,(OS.out (f:=(bO (zAd2 i1 m1 m4 m5))) h142 hM hC kr),((hS.cell (id:=901) (t:=161) (cs:=[I d3,I ib,I aR,Sl gN d5 gK,Sl hZ cU hY,Sl mX jh mT,V (.map (some r5))]) kr).out (f:=(bO (zAd2 i1 m1 m4 m5))) hC kr kr (hP.at 0 rfl)),(h144.out (f:=(bO (zAd2 i1 m1 m4 m5))) hM hC kr kr)⟩)
theorem C90 (N:Nat) (FL:S100) (FK:S101) (FJ:S102N N) (FI:S105) (v:∀ (state:Int) (so:List aa) (al:aX),rr state so al->n7 state so al < N+1->VC90 N state so al (fun r=>r=aH state so al)):S90N (N+1):=by
 intro w X state so al a1 c1 m1 a2 c2 a3 c3 a4 c4 m4 r5 m5  b1 i1 hp Lc h1 h2 h3 h4 h5 fb hA
 refine (W90 N FL FK FJ FI w X state so al a1 c1 m1 a2 c2 a3 c3 a4 c4 m4 r5 m5  b1 i1 _ (v state so al hp Lc) h1 h2 h3 h4 h5 fb hA).mono ?_
 rintro _ _ _ _ ⟨r,rfl,h⟩
 exact h
theorem W89 (w0) (X0) (o_:ah) (l_:List ab) (a1) (c1) (a2) (c2) (cD) (dK) (i7) (Q:aX->Prop) (hm:VC89 o_ l_ Q) (h1:RS az w0 X0 a1 o_.Rows c1) (h2:RS aq w0 X0 a2 l_ c2) :
  Ret Tryz.prog 89 #[.agg #[.int .i64 o_.ar,.int .i64 o_.aw,.int .i64 o_.aE,.slice a1 o_.Rows.length c1],.slice a2 l_.length c2] aI w0 X0 (fun w X' v=>∃ r,Q r/\∃ co cn iA iz oE oD G8 tU,v=.pointer (some ⟨tU,0,none⟩)/\RS az w X' co r.o.Rows cn/\RS aq w X' iA r.l iz/\OS dE 4 w X' cD oE r.done oD/\Cell w X' tU i7 161 [.int .i64 r.o.ar,.int .i64 r.o.aw,.int .i64 r.o.aE,.slice co r.o.Rows.length cn,.slice iA r.l.length iz,.slice oE r.done.length oD,.map (some G8)]/\OMS aQ tI false w X' dK G8 r.failed):=by
 unfold VC89 at hm
 replace hm:=hm (h1.sm kr)
 replace hm:=hm (h2.sm kr)
 refine enter Tryz.func89 rfl (vals:=[.agg #[.int .i64 o_.ar,.int .i64 o_.aw,.int .i64 o_.aE,.slice a1 o_.Rows.length c1],.slice a2 l_.length c2]) kr ?_
 intro Z a hS hO hM
 replace h1:=h1.m0 hM
 replace h2:=h2.m0 hM
 refine rM T hS ⟨[(1,Sl a2 l_ c2),(2,Pt 3 0)],[(3,(48,(cO o_ a1 c1)))]⟩ fun Z a vy zJ hS hE hr=>?_
 replace hO:=hO.m2 hE
 replace h1:=h1.m1 hE
 replace h2:=h2.m1 hE
 clear hE hr
 refine dw [3] mixed hS ?_
 intro nS oy hS hE hD hH
 replace hO:=hO.m2 hE
 replace h1:=h1.m1 hE
 replace h2:=h2.m1 hE
 refine tke T [0,1,2,3] [3] hS hH #[true,true,true,true,false,false,false,false,false] 5 [1,2] [(5,V (.agg #[.int .i64 o_.ar,.int .i64 o_.aw,.int .i64 o_.aE,.slice a1 o_.Rows.length c1])),(6,Sl a2 l_ c2),(8,I (lN l_))] fun a hS=>?_
 obtain ⟨F0,hm⟩:=hm
 refine xZ (fun a w=>∃ X jR jN dA,St Tryz.f89.ntmps ⟨[(11,V (.agg #[.int .i64 o_.ar,.int .i64 o_.aw,.int .i64 o_.aE,.slice a1 o_.Rows.length c1,.slice a2 l_.length c2,.slice jR (List.replicate (lN l_).toNat (false:Bool)).length jN,.map (some dA)]))],[(3,(48,(cO o_ a1 c1)))]⟩ Z a w X/\Old w0 X0 w X/\M0 nS oy w X/\bJ nS oy (me [3] ⟨[(1,Sl a2 l_ c2),(2,Pt 3 0)],[(3,(48,(cO o_ a1 c1)))]⟩) Z w/\RS az w X a1 o_.Rows c1/\RS aq w X a2 l_ c2/\OS dE 4 w X 1010 jR (List.replicate (lN l_).toNat (false:Bool)) jN/\OMS aQ tI false w X 1011 dA ([]:List (bX × Int))) #[true,true,true,true,true,true,true,false,false] 2 ?_ (fun H=>?_)
 ·rintro a EY ⟨Mv,jR,jN,dA,hS,hO,hD,hH,h119,h120,h121,h125⟩
  clear F0
  replace hS:=hS.sl ⟨[(11,V (.agg #[.int .i64 o_.ar,.int .i64 o_.aw,.int .i64 o_.aE,.slice a1 o_.Rows.length c1,.slice a2 l_.length c2,.slice jR (List.replicate (lN l_).toNat (false:Bool)).length jN,.map (some dA)]))],[(3,(48,(cO o_ a1 c1)))]⟩
  refine only 7 kr (by rfl) (Ir (cs:=#[.int .i64 o_.ar,.int .i64 o_.aw,.int .i64 o_.aE,.slice a1 o_.Rows.length c1,.slice a2 l_.length c2,.slice jR (List.replicate (lN l_).toNat (false:Bool)).length jN,.map (some dA)]) hS kr kr kr kr (sy':=⟨[(12,Pt 13 0),(11,V (.agg #[.int .i64 o_.ar,.int .i64 o_.aw,.int .i64 o_.aE,.slice a1 o_.Rows.length c1,.slice a2 l_.length c2,.slice jR (List.replicate (lN l_).toNat (false:Bool)).length jN,.map (some dA)]))],[(13,(161,[I o_.ar,I o_.aw,I o_.aE,Sl a1 o_.Rows c1,Sl a2 l_ c2,Sl jR (List.replicate (lN l_).toNat (false:Bool)) jN,V (.map (some dA))])),(3,(48,(cO o_ a1 c1)))]⟩) kr ?_)
  intro Z a Ac wG hS hE D2
  replace hO:=hO.m2 hE
  replace hD:=hD.ev hE rfl
  replace h119:=h119.m1 hE
  replace h120:=h120.m1 hE
  replace h121:=h121.m2 hE
  replace h125:=h125.m2 hE
  replace hS:=hS.sl ⟨[(11,V (.agg #[.int .i64 o_.ar,.int .i64 o_.aw,.int .i64 o_.aE,.slice a1 o_.Rows.length c1,.slice a2 l_.length c2,.slice jR (List.replicate (lN l_).toNat (false:Bool)).length jN,.map (some dA)])),(12,Pt 13 0)],[(3,(48,(cO o_ a1 c1))),(13,(161,[I o_.ar,I o_.aw,I o_.aE,Sl a1 o_.Rows c1,Sl a2 l_ c2,Sl jR (List.replicate (lN l_).toNat (false:Bool)) jN,V (.map (some dA))]))]⟩
  refine c8 ((bJ.of hS (bks:=[3]) kr hD).rho D2 kr) ?_
  intro hH
  refine DT T D2 kr [8] [3] [4] hS kr kr kr hH (listed':=#[true,true,true,true,true,true,true,true,true]) (fuel:=0) (sy':=⟨[(4,Pt 13 0)],[(3,(48,(cO o_ a1 c1))),(13,(161,[I o_.ar,I o_.aw,I o_.aE,Sl a1 o_.Rows c1,Sl a2 l_ c2,Sl jR (List.replicate (lN l_).toNat (false:Bool)) jN,V (.map (some dA))]))]⟩) kr (by rfl) ?_
  intro a hS
  refine aU kr ?_
  replace hS:=hS.sl ⟨[(4,Pt 13 0)],[(13,(161,[I o_.ar,I o_.aw,I o_.aE,Sl a1 o_.Rows c1,Sl a2 l_ c2,Sl jR (List.replicate (lN l_).toNat (false:Bool)) jN,V (.map (some dA))]))]⟩
  refine aV ?_
  exact fin T hS hO (zAd0 i7 dK cD) rfl (r:=[.pointer (some ⟨Z 13,0,none⟩)]) kr (fun X' hM hC=>⟨(⟨o_,l_,List.replicate (lN l_).toNat (false:Bool),([]:List (bX × Int))⟩:aX),hm,a1,c1,a2,c2,jR,jN,dA,(Z 13),rfl,h119.m0 hM,h120.m0 hM,(OS.out (f:=(zAd0 i7 dK cD)) h121 hM hC kr),((hS.cell (id:=13) (t:=161) (cs:=[I o_.ar,I o_.aw,I o_.aE,Sl a1 o_.Rows c1,Sl a2 l_ c2,Sl jR (List.replicate (lN l_).toNat (false:Bool)) jN,V (.map (some dA))]) kr).out (f:=(zAd0 i7 dK cD)) hC kr kr rfl),(h125.out (f:=(zAd0 i7 dK cD)) hM hC kr kr)⟩)
 clear hm
 refine qF (is:=[4,5]) kr (by decide) ?_
 intro i hi
 rcases yP hi with rfl | rfl
 ·have hq:=F0
  refine jA (by rfl) (make (E:=4) (kl:=.i64) (kc:=.i64) (col:=1010) (T:=dE) T false hS kr kr kr kr kr kr hq.1 hq.2.1 (by have:=hq.2.2; have e_:((dE.bytes:Nat):Int)=1:=rfl; rw [e_]; omega) (by have:=hq.2.2; omega) (fun _ _=>rfl) ?_)
  intro b126 a tB B7 hE h129 hN hS
  clear hq hN
  replace hO:=hO.m2 hE
  replace hD:=hD.ev hE rfl
  replace h1:=h1.m1 hE
  replace h2:=h2.m1 hE
  replace hS:=hS.conv (t:=9) (y:=.slice (some ⟨b126,0,none⟩) (List.replicate (lN l_).toNat (false:Bool)).length (lN l_).toNat) kr (by rw [List.length_replicate])
  refine c8 (bJ.of hS (bks:=[3]) kr hD) ?_
  intro hH
  refine only 5 kr (by rfl) (AO aQ tI false 1011 hS kr kr ?_)
  intro sA a oW ow hE h133 hS
  replace hO:=hO.m2 hE
  replace hD:=hD.ev hE rfl
  replace h1:=h1.m1 hE
  replace h2:=h2.m1 hE
  replace h129:=h129.m2 hE
  refine c8 (bJ.of hS (bks:=[3]) kr hD) ?_
  intro hH
  refine tke T [6] [3] hS hH #[true,true,true,true,true,true,true,false,false] 2 [5,6,8,9,10] [(11,V (.agg #[.int .i64 o_.ar,.int .i64 o_.aw,.int .i64 o_.aE,.slice a1 o_.Rows.length c1,.slice a2 l_.length c2,.slice (some ⟨b126,0,none⟩) (List.replicate (lN l_).toNat (false:Bool)).length (lN l_).toNat,.map (some sA)]))] fun a hS=>?_
  exact H _ _ ⟨_,(some ⟨b126,0,none⟩),(lN l_).toNat,sA,hS.sl _,hO,hD,hH,h1,h2,h129,h133⟩
 refine jA (by rfl) (AO aQ tI false 1011 hS kr kr ?_)
 intro Hf a CC IW hE h137 hS
 replace hO:=hO.m2 hE
 replace hD:=hD.ev hE rfl
 replace h1:=h1.m1 hE
 replace h2:=h2.m1 hE
 refine c8 (bJ.of hS (bks:=[3]) kr hD) ?_
 intro hH
 have hq:=F0
 refine only 4 kr (by rfl) (make (E:=4) (kl:=.i64) (kc:=.i64) (col:=1010) (T:=dE) T false hS kr kr kr kr kr kr hq.1 hq.2.1 (by have:=hq.2.2; have e_:((dE.bytes:Nat):Int)=1:=rfl; rw [e_]; omega) (by have:=hq.2.2; omega) (fun _ _=>rfl) ?_)
 intro b138 a r7 vh hE h141 hN hS
 clear hq hN
 replace hO:=hO.m2 hE
 replace hD:=hD.ev hE rfl
 replace h1:=h1.m1 hE
 replace h2:=h2.m1 hE
 replace h137:=h137.m2 hE
 replace hS:=hS.conv (t:=9) (y:=.slice (some ⟨b138,0,none⟩) (List.replicate (lN l_).toNat (false:Bool)).length (lN l_).toNat) kr (by rw [List.length_replicate])
 refine c8 (bJ.of hS (bks:=[3]) kr hD) ?_
 intro hH
 refine tke T [6] [3] hS hH #[true,true,true,true,true,true,true,false,false] 2 [5,6,8,10,9] [(11,V (.agg #[.int .i64 o_.ar,.int .i64 o_.aw,.int .i64 o_.aE,.slice a1 o_.Rows.length c1,.slice a2 l_.length c2,.slice (some ⟨b138,0,none⟩) (List.replicate (lN l_).toNat (false:Bool)).length (lN l_).toNat,.map (some Hf)]))] fun a hS=>?_
 exact H _ _ ⟨_,(some ⟨b138,0,none⟩),(lN l_).toNat,Hf,hS.sl _,hO,hD,hH,h1,h2,h141,h137⟩
theorem C89 (v:∀ (o_:ah) (l_:List ab),xn o_ l_->VC89 o_ l_ (fun r=>r=bB o_ l_)):S89:=by
 intro w X o_ l_ a1 c1 a2 c2 cD dK i7  hp h1 h2
 refine (W89 w X o_ l_ a1 c1 a2 c2 cD dK i7  _ (v o_ l_ hp) h1 h2).mono ?_
 rintro _ _ _ _ ⟨r,rfl,h⟩
 exact h
theorem W70 (KT:S20) (Ki:S88) (Kh:S89) (Fp:S90) (w0) (X0) (o_:ah) (l_:List ab) (a1) (c1) (a2) (c2) (cD) (Q:(List aa) × Int->Prop) (hm:VC70 o_ l_ Q) (h1:RS az w0 X0 a1 o_.Rows c1) (h2:RS aq w0 X0 a2 l_ c2) :
  Ret Tryz.prog 70 #[.agg #[.int .i64 o_.ar,.int .i64 o_.aw,.int .i64 o_.aE,.slice a1 o_.Rows.length c1],.slice a2 l_.length c2] aI w0 X0 (fun w X' v=>∃ r,Q r/\∃ co cn,v=.tuple #[.slice co r.1.length cn,.int .i64 r.2]/\OS au 56 w X' cD co r.1 cn):=by
 unfold VC70 at hm
 replace hm:=hm (h1.sm kr)
 replace hm:=hm (h2.sm kr)
 refine enter Tryz.func70 rfl (vals:=[.agg #[.int .i64 o_.ar,.int .i64 o_.aw,.int .i64 o_.aE,.slice a1 o_.Rows.length c1],.slice a2 l_.length c2]) kr ?_
 intro Z a hS hO hM
 replace h1:=h1.m0 hM
 replace h2:=h2.m0 hM
 refine rM T hS ⟨[(1,Sl a2 l_ c2),(2,Pt 3 0)],[(3,(48,(cO o_ a1 c1)))]⟩ fun Z a r6 wD hS hE hr=>?_
 replace hO:=hO.m2 hE
 replace h1:=h1.m1 hE
 replace h2:=h2.m1 hE
 clear hE hr
 refine bc ?_
 refine bl ?_
 refine oPe T hS 2 [] [(9,V (.agg #[.int .i64 o_.ar,.int .i64 o_.aw,.int .i64 o_.aE,.slice a1 o_.Rows.length c1])),(10,Sl a2 l_ c2)] fun a hS=>?_
 obtain ⟨hq,hm⟩:=hm
 refine op1 (call hS kr kr hb88 kr (fun _ _=>rfl) (Ki _ _ o_ l_ 20 a1 c1 a2 c2 hq h1 h2) ?_)
 intro v101 a eX e8 hE hp hS
 replace hO:=hO.m2 hE
 replace h1:=h1.m1 hE
 replace h2:=h2.m1 hE
 obtain ⟨am,hr⟩:∃ r,cu o_ l_ 20=r:=⟨_,rfl⟩
 replace hm:=hm am hr
 rw [hr] at hp
 clear hr
 subst hp
 refine ePe T hS [9,10,11] [(6,I am)] fun a hS=>?_
 refine rPe T hS [] [(13,B (am != 0))] fun a hS=>?_
 refine aG hS (b:=(am != 0)) kr (fun hb=>?_) fun hb=>?_
 ·replace hm:=hm.1 hb
  refine rP T hS ⟨[(4,V (.slice none 0 0)),(5,I am)],[]⟩ fun a hS=>?_
  refine aV ?_
  exact fin T hS hO (fun c=>c) rfl (r:=[.slice none 0 0,.int .i64 am]) kr (fun X' hM hC=>⟨([],am),hm,none,0,rfl,OS.nil _ _ _ _ _⟩)
 replace hm:=hm.2 hb
 refine aJ ?_
 refine dw [3] mixed hS ?_
 intro mE lB hS hE hD hH
 replace hO:=hO.m2 hE
 replace h1:=h1.m1 hE
 replace h2:=h2.m1 hE
 refine tke T [0,1,3,4] [3] hS hH #[true,true,false,true,true,false,false,false,false,false,false] 7 [] [(16,V (.agg #[.int .i64 o_.ar,.int .i64 o_.aw,.int .i64 o_.aE,.slice a1 o_.Rows.length c1])),(17,Sl a2 l_ c2),(20,I o_.aE)] fun a hS=>?_
 obtain ⟨hq,hm⟩:=hm
 refine only 2 kr (by rfl) (call hS kr kr hb89 kr (fun _ _=>rfl) (Kh _ _ o_ l_ a1 c1 a2 c2 4119 2121 702 hq h1 h2) ?_)
 intro v107 a E4 Ca hE hp hS
 replace hO:=hO.m2 hE
 replace hD:=hD.ev hE rfl
 replace h1:=h1.m1 hE
 replace h2:=h2.m1 hE
 obtain ⟨iy,io,lA,lw,kQ,kP,d7,b122,hp,h113,h116,h119,qp,h120⟩:=hp
 obtain ⟨eZ,hr⟩:∃ r,bB o_ l_=r:=⟨_,rfl⟩
 replace hm:=hm eZ hr
 rw [hr] at h113 h116 h119 qp h120
 clear hr
 subst hp
 replace hm:=hm (h113.sm kr)
 replace hm:=hm (h116.sm kr)
 replace hm:=hm (h119.sm kr)
 replace hS:=hS.n3 (id:=702) (t:=161) (cs:=[I eZ.o.ar,I eZ.o.aw,I eZ.o.aE,Sl iy eZ.o.Rows io,Sl lA eZ.l lw,Sl kQ eZ.done kP,V (.map (some d7))]) kr kr qp rfl
 replace hS:=hS.Bu (t:=18) (x:=V (.pointer (some ⟨b122,0,none⟩))) (y:=Pt 702 0) kr rfl
 have xE:∀ id,id≠702->(upd Z 702 b122) id=Z id:=fun id h=>vC _ h
 generalize (upd Z 702 b122)=Z at hS xE
 clear qp
 replace hS:=hS.sl ⟨[(1,Sl a2 l_ c2),(2,Pt 3 0),(16,V (.agg #[.int .i64 o_.ar,.int .i64 o_.aw,.int .i64 o_.aE,.slice a1 o_.Rows.length c1])),(17,Sl a2 l_ c2),(20,I o_.aE),(18,Pt 702 0)],[(3,(48,(cO o_ a1 c1))),(702,(161,[I eZ.o.ar,I eZ.o.aw,I eZ.o.aE,Sl iy eZ.o.Rows io,Sl lA eZ.l lw,Sl kQ eZ.done kP,V (.map (some d7))]))]⟩
 refine c8 ((bJ.of hS (bks:=[3]) kr hD).rho xE kr) ?_
 intro hH
 obtain ⟨hq,hm⟩:=hm
 refine only 5 kr (by rfl) (lx hS kr kr hb90 kr (Fp _ _ o_.aE [] eZ none 0 1005 iy io lA lw kQ kP 4119 d7 2121 (Z 702) 702 hq (OS.nil _ _ _ _ _) h113 h116 h119 h120 (hS.cell (id:=702) (t:=161) (cs:=[I eZ.o.ar,I eZ.o.aw,I eZ.o.aE,Sl iy eZ.o.Rows io,Sl lA eZ.l lw,Sl kQ eZ.done kP,V (.map (some d7))]) kr) ⟨by decide,by decide⟩) ?_)
 intro v125 a r9 pc hE hp hS
 clear h120
 clear h119
 replace hO:=hO.m2 hE
 replace hD:=hD.ev hE rfl
 replace h1:=h1.m1 hE
 replace h2:=h2.m1 hE
 replace h113:=h113.m1 hE
 replace h116:=h116.m1 hE
 obtain ⟨lh,le,gD,gB,Ge,F9,Gd,F8,hp,h131,h134,h137,h140,Be,h141⟩:=hp
 obtain ⟨bI,hr⟩:∃ r,aH o_.aE [] eZ=r:=⟨_,rfl⟩
 replace hm:=hm bI hr
 rw [hr] at hp h131 h134 h137 h140 Be h141
 clear hr
 subst hp
 replace hm:=hm (h131.sm kr)
 replace hm:=hm (h134.sm kr)
 replace hm:=hm (h137.sm kr)
 replace hm:=hm (h140.sm kr)
 replace hS:=hS.cB (id:=702) (t:=161) (cs:=[I bI.2.2.o.ar,I bI.2.2.o.aw,I bI.2.2.o.aE,Sl gD bI.2.2.o.Rows gB,Sl Ge bI.2.2.l F9,Sl Gd bI.2.2.done F8,V (.map (some d7))]) kr Be
 clear Be
 replace hS:=hS.sl ⟨[(1,Sl a2 l_ c2),(2,Pt 3 0),(16,V (.agg #[.int .i64 o_.ar,.int .i64 o_.aw,.int .i64 o_.aE,.slice a1 o_.Rows.length c1])),(17,Sl a2 l_ c2),(20,I o_.aE),(18,Pt 702 0),(21,V (.tuple #[.slice lh bI.1.length le,.bool bI.2.1]))],[(3,(48,(cO o_ a1 c1))),(702,(161,[I bI.2.2.o.ar,I bI.2.2.o.aw,I bI.2.2.o.aE,Sl gD bI.2.2.o.Rows gB,Sl Ge bI.2.2.l F9,Sl Gd bI.2.2.done F8,V (.map (some d7))]))]⟩
 refine c8 ((bJ.of hS (bks:=[3]) kr hD).rho xE kr) ?_
 intro hH
 refine DT T xE kr [6,7,8,9,10] [3] [1,2,7,8] hS kr kr kr hH (listed':=#[true,true,true,true,true,true,true,true,true,true,true]) (fuel:=0) (sy':=⟨[(1,Sl a2 l_ c2),(2,Pt 3 0),(7,Sl lh bI.1 le),(8,B bI.2.1)],[(3,(48,(cO o_ a1 c1))),(702,(161,[I bI.2.2.o.ar,I bI.2.2.o.aw,I bI.2.2.o.aE,Sl gD bI.2.2.o.Rows gB,Sl Ge bI.2.2.l F9,Sl Gd bI.2.2.done F8,V (.map (some d7))]))]⟩) kr (by rfl) ?_
 intro a hS
 refine aU kr ?_
 replace hS:=hS.sl ⟨[(1,Sl a2 l_ c2),(2,Pt 3 0),(7,Sl lh bI.1 le),(8,B bI.2.1)],[(3,(48,(cO o_ a1 c1)))]⟩
 refine bc ?_
 refine b5 (fun a w=>∃ (Z:Nat->Nat) (X:Nat->Nat) (lC:List aa) (dT:Bool) (nP:Option Addr) (nK:Nat),VC70_J1 Q lC dT/\St Tryz.f70.ntmps ⟨[(7,Sl nP lC nK),(32,B dT)],[]⟩ Z a w X/\Old w0 X0 w X/\OS au 56 w X 1005 nP lC nK) ?_ ?_
 ·refine region ?_
  refine oPe T hS 3 [8] [(26,B (!bI.2.1))] fun a hS=>?_
  rcases bft (!bI.2.1) with hb | hb
  ·replace hS:=hS.lit (t:=26) kr hb
   replace hm:=hm.1 hb
   refine eP T hS ⟨[(7,Sl lh bI.1 le),(32,B true)],[]⟩ fun a hS=>?_
   exact ⟨Z,_,bI.1,true,lh,le,hm,hS.sl _,hO,h131⟩
  replace hS:=hS.lit (t:=26) kr hb
  replace hm:=hm.2 hb
  refine oP T hS 3 ⟨[(7,Sl lh bI.1 le),(26,B false),(27,V (.agg #[.int .i64 o_.ar,.int .i64 o_.aw,.int .i64 o_.aE,.slice a1 o_.Rows.length c1])),(28,Sl a2 l_ c2),(29,Sl lh bI.1 le)],[]⟩ fun a hS=>?_
  obtain ⟨hq,hm⟩:=hm
  refine op1 (call hS kr kr hb20 kr (fun _ _=>rfl) (Ret.nT (KT _ (eN 1005 _) o_ l_ bI.1 a1 c1 a2 c2 lh le hq (h1.m0 (M0.eN 1005)) (h2.m0 (M0.eN 1005)) h131.eN)) ?_)
  intro v148 a EX Gm hE hp hS
  replace hO:=hO.m2 hE
  replace h1:=h1.m1 hE
  replace h2:=h2.m1 hE
  replace h131:=h131.m2 hE
  obtain ⟨_,hp⟩:=hp
  obtain ⟨nY,hr⟩:∃ r,dh o_ l_ bI.1=r:=⟨_,rfl⟩
  replace hm:=hm nY hr
  rw [hr] at hp
  clear hr
  subst hp
  refine ePe T hS [26,27,28,29,30] [(32,B (!nY))] fun a hS=>?_
  exact ⟨Z,_,bI.1,(!nY),lh,le,hm,hS.sl _,hO,h131⟩
 rintro a z9 ⟨Z,wE,lC,dT,nP,nK,hm,hS,hO,h146⟩
 unfold VC70_J1 at hm
 refine aG hS (b:=dT) kr (fun hb=>?_) fun hb=>?_
 ·replace hm:=hm.1 hb
  refine rPe T hS [7,32] [(4,V (.slice none 0 0)),(5,I 41)] fun a hS=>?_
  refine aV ?_
  exact fin T hS hO (fun c=>c) rfl (r:=[.slice none 0 0,.int .i64 41]) kr (fun X' hM hC=>⟨([],41),hm,none,0,rfl,OS.nil _ _ _ _ _⟩)
 replace hm:=hm.2 hb
 refine aJ ?_
 refine rPe T hS [7,32] [(4,Sl nP lC nK),(5,I 0)] fun a hS=>?_
 refine aV ?_
 exact fin T hS hO (zAd1 cD) rfl (r:=[.slice nP lC.length nK,.int .i64 0]) kr (fun X' hM hC=>⟨(lC,0),hm,nP,nK,rfl,(OS.out (f:=(zAd1 cD)) h146 hM hC kr)⟩)
theorem C70 (KT:S20) (Ki:S88) (Kh:S89) (Fp:S90) (v:∀ (o_:ah) (l_:List ab),wY o_ l_->VC70 o_ l_ (fun r=>r=bj o_ l_)):S70:=by
 intro w X o_ l_ a1 c1 a2 c2 cD  hp h1 h2
 refine (W70 KT Ki Kh Fp w X o_ l_ a1 c1 a2 c2 cD  _ (v o_ l_ hp) h1 h2).mono ?_
 rintro _ _ _ _ ⟨r,rfl,h⟩
 exact h
theorem W84 (w0) (X0) (x_:av) (Q:Int->Prop) (hm:VC84 x_ Q) :
  Ret Tryz.prog 84 #[.agg #[.int .i64 x_.bk,.int .i64 x_.aj,.int .i64 x_.N]] aI w0 X0 (fun w X' v=>∃ r,Q r/\v=.int .i64 r):=by
 unfold VC84 at hm
 refine enter Tryz.func84 rfl (vals:=[.agg #[.int .i64 x_.bk,.int .i64 x_.aj,.int .i64 x_.N]]) kr ?_
 intro Z a hS hO hM
 refine rM T hS ⟨[(1,Pt 2 0)],[(2,(61,(cE x_)))]⟩ fun Z a nS oy hS hE hr=>?_
 replace hO:=hO.m2 hE
 clear hE hr
 refine bc ?_
 refine aK ?_
 refine rPe T hS [] [(3,B ((x_.bk != 1) && (x_.bk != 2)))] (sp:=[7]) fun a hS=>?_
 refine aG hS (b:=((x_.bk != 1) && (x_.bk != 2))) kr (fun hb=>?_) fun hb=>?_
 ·replace hm:=hm.1 hb
  refine rP T hS ⟨[(2,I 8)],[]⟩ fun a hS=>?_
  refine aV ?_
  exact fin T hS hO (fun c=>c) rfl (r:=[.int .i64 8]) kr (fun X' hM hC=>⟨8,hm,rfl⟩)
 replace hm:=hm.2 hb
 refine rPe T hS [3] [(12,B ((decide (x_.aj < 1)) || (decide (x_.aj > 1000))))] (sp:=[16]) fun a hS=>?_
 refine aG hS (b:=((decide (x_.aj < 1)) || (decide (x_.aj > 1000)))) kr (fun hb=>?_) fun hb=>?_
 ·replace hm:=hm.1 hb
  refine rP T hS ⟨[(2,I 2)],[]⟩ fun a hS=>?_
  refine aV ?_
  exact fin T hS hO (fun c=>c) rfl (r:=[.int .i64 2]) kr (fun X' hM hC=>⟨2,hm,rfl⟩)
 replace hm:=hm.2 hb
 refine rPe T hS [12] [(21,B ((x_.bk == 1) && ((decide (x_.N < 0)) || (decide (x_.N≥64)))))] (sp:=[25,29]) fun a hS=>?_
 refine aG hS (b:=((x_.bk == 1) && ((decide (x_.N < 0)) || (decide (x_.N≥64))))) kr (fun hb=>?_) fun hb=>?_
 ·replace hm:=hm.1 hb
  refine rP T hS ⟨[(2,I 31)],[]⟩ fun a hS=>?_
  refine aV ?_
  exact fin T hS hO (fun c=>c) rfl (r:=[.int .i64 31]) kr (fun X' hM hC=>⟨31,hm,rfl⟩)
 replace hm:=hm.2 hb
 refine rP T hS ⟨[(35,B ((x_.bk == 2) && ((decide (x_.N < 0)) || (decide (x_.N > 1000000)))))],[]⟩ (sp:=[39,43]) fun a hS=>?_
 refine aG hS (b:=((x_.bk == 2) && ((decide (x_.N < 0)) || (decide (x_.N > 1000000))))) kr (fun hb=>?_) fun hb=>?_
 ·replace hm:=hm.1 hb
  refine rPe T hS [35] [(2,I 7)] fun a hS=>?_
  refine aV ?_
  exact fin T hS hO (fun c=>c) rfl (r:=[.int .i64 7]) kr (fun X' hM hC=>⟨7,hm,rfl⟩)
 replace hm:=hm.2 hb
 refine aJ ?_
 refine rPe T hS [35] [(2,I 0)] fun a hS=>?_
 refine aV ?_
 exact fin T hS hO (fun c=>c) rfl (r:=[.int .i64 0]) kr (fun X' hM hC=>⟨0,hm,rfl⟩)
theorem C84 (v:∀ (x_:av),VC84 x_ (fun r=>r=fT x_)):S84:=by
 intro w X x_    
 refine (W84 w X x_    _ (v x_)).mono ?_
 rintro _ _ _ _ ⟨r,rfl,h⟩
 exact h
theorem W55 (Km:S84) (w0) (X0) (l_:List av) (a1) (c1) (Q:Int × Int->Prop) (hm:VC55 l_ Q) (h1:RS aO w0 X0 a1 l_ c1) :
  Ret Tryz.prog 55 #[.slice a1 l_.length c1] aI w0 X0 (fun w X' v=>∃ r,Q r/\v=.tuple #[.int .i64 r.1,.int .i64 r.2]):=by
 unfold VC55 at hm
 replace hm:=hm (h1.sm kr)
 refine enter Tryz.func55 rfl (vals:=[.slice a1 l_.length c1]) kr ?_
 intro Z a hS hO hM
 replace h1:=h1.m0 hM
 refine rPe T hS [] [] fun a hS=>?_
 refine bc ?_
 refine rPe T hS [] [(10,B (decide ((lN l_) > 10000)))] fun a hS=>?_
 refine aG hS (b:=decide ((lN l_) > 10000)) kr (fun hb=>?_) fun hb=>?_
 ·replace hm:=hm.1 hb
  refine rPe T hS [0,10] [(2,I 0),(3,I 3)] fun a hS=>?_
  refine aV ?_
  exact fin T hS hO (fun c=>c) rfl (r:=[.int .i64 0,.int .i64 3]) kr (fun X' hM hC=>⟨(0,3),hm,rfl⟩)
 replace hm:=hm.2 hb
 refine aJ ?_
 refine bl ?_
 refine op1 (oH kI tI false 1012 hS kr kr ?_)
 intro dX a eX e8 hE h104 hS
 replace hO:=hO.m2 hE
 replace h1:=h1.m1 hE
 refine ePe T hS [10,11] [(4,V (.map (some dX)))] fun a hS=>?_
 refine b5 (fun a w=>∃ Z X,VC55_J1 l_ Q/\St Tryz.f55.ntmps ⟨[(0,Sl a1 l_ c1)],[]⟩ Z a w X/\Old w0 X0 w X/\RS aO w X a1 l_ c1) ?_ ?_
 ·refine rPe T hS [] [(12,Sl a1 l_ c1),(13,I (lN l_)),(14,I 0)] fun a hS=>?_
  refine aK ?_
  obtain ⟨I1,μ1,ci,hm⟩:=hm
  refine cg (σ:=(List (Int × Int)) × Int) (fun s a w=>∃ Z X,I1 s.1 s.2/\St Tryz.f55.ntmps ⟨[(0,Sl a1 l_ c1),(4,V (.map (some dX))),(12,Sl a1 l_ c1),(13,I (lN l_)),(14,I s.2)],[]⟩ Z a w X/\Old w0 X0 w X/\RS aO w X a1 l_ c1/\OM kI tI false w X 1012 dX s.1/\RS aO w X a1 l_ c1) (fun s=>μ1 s.1 s.2) (⟨([]:List (Int × Int)),0⟩) ?_ ?_
  ·exact ⟨Z,_,ci,hS.sl _,hO,h1,h104,h1⟩
  rintro ⟨gu,bF⟩ a JU ⟨Z,tq,hI,hS,hO,h106,h108,h109⟩
  replace hm:=hm gu bF hI
  clear hI ci
  refine rPe T hS [] [(15,B (decide (bF < (lN l_))))] fun a hS=>?_
  refine bc ?_
  refine aG hS (b:=decide (bF < (lN l_))) kr (fun hb=>?_) fun hb=>?_
  ·replace hm:=hm.1 hb
   refine aJ (bc ?_)
   refine aK ?_
   refine bl ?_
   refine oPe T hS 1 [15] [(16,I bF)] fun a hS=>?_
   obtain ⟨hq,hm⟩:=hm
   refine op1 (index (e:=61) (k:=.i64) T hS kr kr kr kr h109 kr kr hq.1 hq.2 ?_)
   intro Ce a h112 hS
   refine op1 (eD T hS kr kr kr h112 kr kr ?_)
   intro v113 a hv hS
   subst hv
   refine eM T hS ⟨[(0,Sl a1 l_ c1),(4,V (.map (some dX))),(5,I bF),(6,Pt 7 0),(12,Sl a1 l_ c1),(13,I (lN l_)),(14,I bF)],[(7,(61,(cE (gi l_ bF))))]⟩ fun Z a vz B8 hS hE hr=>?_
   replace hO:=hO.m2 hE
   replace h106:=h106.m1 hE
   replace h108:=h108.m2 hE
   replace h109:=h109.m1 hE
   clear hE hr
   refine bc ?_
   refine bl ?_
   refine oPe T hS 1 [] [(19,V (.agg #[.int .i64 ((gi l_ bF).bk),.int .i64 ((gi l_ bF).aj),.int .i64 ((gi l_ bF).N)]))] fun a hS=>?_
   refine op1 (call hS kr kr hb84 kr (fun _ _=>rfl) (Km _ _ (gi l_ bF)) ?_)
   intro v114 a oX tr hE hp hS
   replace hO:=hO.m2 hE
   replace h106:=h106.m1 hE
   replace h108:=h108.m2 hE
   replace h109:=h109.m1 hE
   obtain ⟨d6,hr⟩:∃ r,fT (gi l_ bF)=r:=⟨_,rfl⟩
   replace hm:=hm d6 hr
   rw [hr] at hp
   clear hr
   subst hp
   refine ePe T hS [19,20] [(7,I d6)] fun a hS=>?_
   refine rPe T hS [] [(22,B (d6 != 0))] fun a hS=>?_
   refine aG hS (b:=(d6 != 0)) kr (fun hb=>?_) fun hb=>?_
   ·replace hm:=hm.1 hb
    refine rP T hS ⟨[(2,I bF),(3,I d6)],[]⟩ fun a hS=>?_
    refine aV ?_
    exact fin T hS hO (fun c=>c) rfl (r:=[.int .i64 bF,.int .i64 d6]) kr (fun X' hM hC=>⟨(bF,d6),hm,rfl⟩)
   replace hm:=hm.2 hb
   refine aJ (bc ?_)
   refine bl ?_
   refine oPe T hS 3 [7,22] [(25,V (.map (some dX))),(27,I ((gi l_ bF).aj))] fun a hS=>?_
   refine op1 (jC kI tI false (zv:=.int .i64 0) (z:=0) ((gi l_ bF).aj) hS kr kr kr kr Tryz.underlying113 Tryz.underlying3 kr rfl h108 ?_)
   intro v118 a hv hS
   replace hv:tI.R _ _ [v118] _:=hv
   cases hv
   refine ePe T hS [25,27,28] [(33,B ((((aC gu ((gi l_ bF).aj)).getD 0) == 1) == (((gi l_ bF).bk) == 1)))] fun a hS=>?_
   refine aG hS (b:=((((aC gu ((gi l_ bF).aj)).getD 0) == 1) == (((gi l_ bF).bk) == 1))) kr (fun hb=>?_) fun hb=>?_
   ·replace hm:=hm.1 hb
    refine rP T hS ⟨[(2,I bF),(3,I 33)],[]⟩ fun a hS=>?_
    refine aV ?_
    exact fin T hS hO (fun c=>c) rfl (r:=[.int .i64 bF,.int .i64 33]) kr (fun X' hM hC=>⟨(bF,33),hm,rfl⟩)
   replace hm:=hm.2 hb
   refine aJ ?_
   refine region ?_
   refine oP T hS 5 ⟨[(0,Sl a1 l_ c1),(4,V (.map (some dX))),(12,Sl a1 l_ c1),(13,I (lN l_)),(14,I bF),(35,V (.map (some dX))),(37,I ((gi l_ bF).aj)),(39,I ((gi l_ bF).bk))],[]⟩ fun a hS=>?_
   refine op1 (sN kI tI false (v:=I ((gi l_ bF).bk)) (u:=(gi l_ bF).bk) ((gi l_ bF).aj) hS kr kr kr kr Tryz.underlying113 Tryz.underlying3 kr h108 rfl ?_)
   intro a tD hE h120 hS
   clear h108
   replace hO:=hO.m2 hE
   replace h106:=h106.m1 hE
   replace h109:=h109.m1 hE
   refine gA ?_
   refine region (ePe T hS [] [(14,I (wR (bF+1)))] fun a hS=>?_)
   exact ⟨⟨dj gu ((gi l_ bF).aj) ((gi l_ bF).bk),wR (bF+1)⟩,⟨Z,_,hm.1,hS.sl _,hO,h106,h120,h109⟩,hm.2⟩
  replace hm:=hm.2 hb
  refine cb (by rfl) ?_
  exact ⟨Z,_,hm,hS.sl _,hO,h106⟩
 rintro a r9 ⟨Z,Qw,hm,hS,hO,h105⟩
 unfold VC55_J1 at hm
 refine rPe T hS [0] [(2,I (lN l_)),(3,I 0)] fun a hS=>?_
 refine aV ?_
 exact fin T hS hO (fun c=>c) rfl (r:=[.int .i64 (lN l_),.int .i64 0]) kr (fun X' hM hC=>⟨((lN l_),0),hm,rfl⟩)
theorem C55 (Km:S84) (v:∀ (l_:List av),VC55 l_ (fun r=>r=bP l_)):S55:=by
 intro w X l_ a1 c1   h1
 refine (W55 Km w X l_ a1 c1   _ (v l_) h1).mono ?_
 rintro _ _ _ _ ⟨r,rfl,h⟩
 exact h
theorem W94 (w0) (X0) (l_:List av) (process:Int) (a1) (c1) (Q:Int->Prop) (hm:VC94 l_ process Q) (h1:RS aO w0 X0 a1 l_ c1) :
  Ret Tryz.prog 94 #[.slice a1 l_.length c1,.int .i64 process] aI w0 X0 (fun w X' v=>∃ r,Q r/\v=.int .i64 r):=by
 unfold VC94 at hm
 replace hm:=hm (h1.sm kr)
 refine enter Tryz.func94 rfl (vals:=[.slice a1 l_.length c1,.int .i64 process]) kr ?_
 intro Z a hS hO hM
 replace h1:=h1.m0 hM
 refine rPe T hS [] [] fun a hS=>?_
 refine rPe T hS [] [(5,I (-1))] fun a hS=>?_
 refine b5 (fun a w=>∃ (Z:Nat->Nat) (X:Nat->Nat) (bv:Int),VC94_J1 Q bv/\St Tryz.f94.ntmps ⟨[(5,I bv)],[]⟩ Z a w X/\Old w0 X0 w X) ?_ ?_
 ·refine rPe T hS [] [(6,I 0)] fun a hS=>?_
  refine aK ?_
  obtain ⟨I1,μ1,ci,hm⟩:=hm
  refine cg (σ:=Int × Int) (fun s a w=>∃ Z X,I1 s.1 s.2/\St Tryz.f94.ntmps ⟨[(0,Sl a1 l_ c1),(1,I process),(5,I s.1),(6,I s.2)],[]⟩ Z a w X/\Old w0 X0 w X/\RS aO w X a1 l_ c1) (fun s=>μ1 s.1 s.2) (⟨(-1),0⟩) ?_ ?_
  ·exact ⟨Z,_,ci,hS.sl _,hO,h1⟩
  rintro ⟨be,gW⟩ a oX ⟨Z,vj,hI,hS,hO,h102⟩
  replace hm:=hm be gW hI
  clear hI ci
  refine bc ?_
  refine rPe T hS [] [(10,B (decide (gW < (lN l_))))] fun a hS=>?_
  refine aG hS (b:=decide (gW < (lN l_))) kr (fun hb=>?_) fun hb=>?_
  ·replace hm:=hm.1 hb
   refine aJ ?_
   refine b5 (fun a w=>∃ (Z:Nat->Nat) (X:Nat->Nat) (ff:Int),VC94_J2 I1 μ1 be gW ff/\St Tryz.f94.ntmps ⟨[(0,Sl a1 l_ c1),(1,I process),(5,I ff),(6,I gW)],[]⟩ Z a w X/\Old w0 X0 w X/\RS aO w X a1 l_ c1) ?_ ?_
   ·refine aK ?_
    refine bl ?_
    refine oPe T hS 2 [10] [(13,Sl a1 l_ c1),(14,I gW)] fun a hS=>?_
    obtain ⟨hq,hm⟩:=hm
    refine op1 (index (e:=61) (k:=.i64) T hS kr kr kr kr h102 kr kr hq.1 hq.2 ?_)
    intro Gz a h108 hS
    refine op1 (e7 (off:=1) (fsz:=1) (ft:=3) (TF:=tI) (y:=(gi l_ gW).aj) T hS kr kr kr h108 kr kr kr (fun cs h=>gR h) ?_)
    intro zP a h110 hS
    refine op1 (dL T hS kr kr kr h110 rfl kr ?_)
    intro v111 a hv hS
    cases hv
    refine ePe T hS [13,14,15,16,17] [(19,B (((gi l_ gW).aj) == process))] fun a hS=>?_
    refine aG hS (b:=(((gi l_ gW).aj) == process)) kr (fun hb=>?_) fun hb=>?_
    ·replace hm:=hm.1 hb
     refine region (ePe T hS [19] [(5,I gW)] fun a hS=>?_)
     exact ⟨Z,_,gW,hm,hS.sl _,hO,h102⟩
    replace hm:=hm.2 hb
    refine aJ ?_
    exact ⟨Z,_,be,hm,hS.sl _,hO,h102⟩
   rintro a tE ⟨Z,tt,ff,hm,hS,hO,h105⟩
   unfold VC94_J2 at hm
   refine region (ePe T hS [] [(6,I (wR (gW+1)))] fun a hS=>?_)
   exact ⟨⟨ff,wR (gW+1)⟩,⟨Z,_,hm.1,hS.sl _,hO,h105⟩,hm.2⟩
  replace hm:=hm.2 hb
  refine cb (by rfl) ?_
  exact ⟨Z,_,be,hm,hS.sl _,hO⟩
 rintro a Af ⟨Z,tr,bv,hm,hS,hO⟩
 unfold VC94_J1 at hm
 refine rPe T hS [5] [(4,I bv)] fun a hS=>?_
 refine aV ?_
 exact fin T hS hO (fun c=>c) rfl (r:=[.int .i64 bv]) kr (fun X' hM hC=>⟨bv,hm,rfl⟩)
theorem C94 (v:∀ (l_:List av) (process:Int),VC94 l_ process (fun r=>r=gY l_ process)):S94:=by
 intro w X l_ process a1 c1   h1
 refine (W94 w X l_ process a1 c1   _ (v l_ process) h1).mono ?_
 rintro _ _ _ _ ⟨r,rfl,h⟩
 exact h
theorem W79 (Ke:S94) (w0) (X0) (l_:List av) (process:Int) (a1) (c1) (Q:Bool->Prop) (hm:VC79 l_ process Q) (h1:RS aO w0 X0 a1 l_ c1) :
  Ret Tryz.prog 79 #[.slice a1 l_.length c1,.int .i64 process] aI w0 X0 (fun w X' v=>∃ r,Q r/\v=.bool r):=by
 unfold VC79 at hm
 replace hm:=hm (h1.sm kr)
 refine enter Tryz.func79 rfl (vals:=[.slice a1 l_.length c1,.int .i64 process]) kr ?_
 intro Z a hS hO hM
 replace h1:=h1.m0 hM
 refine rPe T hS [] [] fun a hS=>?_
 refine bl ?_
 refine oPe T hS 2 [1] [(6,Sl a1 l_ c1),(7,I process)] fun a hS=>?_
 refine op1 (call hS kr kr hb94 kr (fun _ _=>rfl) (Ke _ _ l_ process a1 c1 h1) ?_)
 intro v101 a eX e8 hE hp hS
 replace hO:=hO.m2 hE
 replace h1:=h1.m1 hE
 obtain ⟨am,hr⟩:∃ r,gY l_ process=r:=⟨_,rfl⟩
 replace hm:=hm am hr
 rw [hr] at hp
 clear hr
 subst hp
 refine ePe T hS [6,7,8] [(5,I am)] fun a hS=>?_
 refine bl ?_
 refine oPe T hS 3 [] [(11,B (decide (am≥0)))] fun a hS=>?_
 rcases bft (decide (am≥0)) with hb | hb
 ·replace hS:=hS.lit (t:=11) kr hb
  replace hm:=hm.1 hb
  refine oPe T hS 2 [0,5] [(12,Sl a1 l_ c1),(13,I am)] fun a hS=>?_
  obtain ⟨hq,hm⟩:=hm
  refine op1 (index (e:=61) (k:=.i64) T hS kr kr kr kr h1 kr kr hq.1 hq.2 ?_)
  intro wL a h106 hS
  refine op1 (e7 (off:=0) (fsz:=1) (ft:=3) (TF:=tI) (y:=(gi l_ am).bk) T hS kr kr kr h106 kr kr kr (fun cs h=>lj h) ?_)
  intro Gz a h108 hS
  refine op1 (dL T hS kr kr kr h108 rfl kr ?_)
  intro v109 a hv hS
  cases hv
  refine ePe T hS [11,12,13,14,15,16] [(4,B (((gi l_ am).bk) == 1))] fun a hS=>?_
  refine aV ?_
  exact fin T hS hO (fun c=>c) rfl (r:=[.bool (((gi l_ am).bk) == 1)]) kr (fun X' hM hC=>⟨(((gi l_ am).bk) == 1),hm,rfl⟩)
 replace hS:=hS.lit (t:=11) kr hb
 replace hm:=hm.2 hb
 refine ePe T hS [0,5,11] [(4,B false)] fun a hS=>?_
 refine aV ?_
 exact fin T hS hO (fun c=>c) rfl (r:=[.bool false]) kr (fun X' hM hC=>⟨false,hm,rfl⟩)
theorem C79 (Ke:S94) (v:∀ (l_:List av) (process:Int),VC79 l_ process (fun r=>r=eY l_ process)):S79:=by
 intro w X l_ process a1 c1   h1
 refine (W79 Ke w X l_ process a1 c1   _ (v l_ process) h1).mono ?_
 rintro _ _ _ _ ⟨r,rfl,h⟩
 exact h
theorem W50 (Hm:S79) (w0) (X0) (l_:List av) (a1) (c1) (Q:Int × Int->Prop) (hm:VC50 l_ Q) (h1:RS aO w0 X0 a1 l_ c1) :
  Ret Tryz.prog 50 #[.slice a1 l_.length c1] aI w0 X0 (fun w X' v=>∃ r,Q r/\v=.tuple #[.int .i64 r.1,.int .i64 r.2]):=by
 unfold VC50 at hm
 replace hm:=hm (h1.sm kr)
 refine enter Tryz.func50 rfl (vals:=[.slice a1 l_.length c1]) kr ?_
 intro Z a hS hO hM
 replace h1:=h1.m0 hM
 refine rPe T hS [] [] fun a hS=>?_
 refine bc ?_
 refine rPe T hS [] [(8,B (decide ((lN l_) > 10000)))] fun a hS=>?_
 refine aG hS (b:=decide ((lN l_) > 10000)) kr (fun hb=>?_) fun hb=>?_
 ·replace hm:=hm.1 hb
  refine rPe T hS [0,8] [(2,I 0),(3,I 3)] fun a hS=>?_
  refine aV ?_
  exact fin T hS hO (fun c=>c) rfl (r:=[.int .i64 0,.int .i64 3]) kr (fun X' hM hC=>⟨(0,3),hm,rfl⟩)
 replace hm:=hm.2 hb
 refine aJ ?_
 refine b5 (fun a w=>∃ Z X,VC50_J1 l_ Q/\St Tryz.f50.ntmps ⟨[(0,Sl a1 l_ c1)],[]⟩ Z a w X/\Old w0 X0 w X/\RS aO w X a1 l_ c1) ?_ ?_
 ·refine rPe T hS [8] [(4,I 0)] fun a hS=>?_
  refine aK ?_
  obtain ⟨I1,μ1,ci,hm⟩:=hm
  refine cg (σ:=Int) (fun s a w=>∃ Z X,I1 s/\St Tryz.f50.ntmps ⟨[(0,Sl a1 l_ c1),(4,I s)],[]⟩ Z a w X/\Old w0 X0 w X/\RS aO w X a1 l_ c1) (fun s=>μ1 s) (0) ?_ ?_
  ·exact ⟨Z,_,ci,hS.sl _,hO,h1⟩
  rintro be a G2 ⟨Z,IW,hI,hS,hO,h102⟩
  replace hm:=hm be hI
  clear hI ci
  refine bc ?_
  refine rPe T hS [] [(12,B (decide (be < (lN l_))))] fun a hS=>?_
  refine aG hS (b:=decide (be < (lN l_))) kr (fun hb=>?_) fun hb=>?_
  ·replace hm:=hm.1 hb
   refine aJ (bc ?_)
   refine aK ?_
   refine bl ?_
   refine oPe T hS 2 [12] [(15,Sl a1 l_ c1),(16,I be)] fun a hS=>?_
   obtain ⟨hq,hm⟩:=hm
   refine op1 (index (e:=61) (k:=.i64) T hS kr kr kr kr h102 kr kr hq.1 hq.2 ?_)
   intro Jc a h105 hS
   refine op1 (eD T hS kr kr kr h105 kr kr ?_)
   intro v106 a hv hS
   subst hv
   refine eM T hS ⟨[(0,Sl a1 l_ c1),(4,I be),(5,Pt 6 0)],[(6,(61,(cE (gi l_ be))))]⟩ fun Z a tz tp hS hE hr=>?_
   replace hO:=hO.m2 hE
   replace h102:=h102.m1 hE
   clear hE hr
   refine bc ?_
   refine rPe T hS [] [(26,B ((((gi l_ be).bk) != 1) && (((gi l_ be).bk) != 2)))] (sp:=[22]) fun a hS=>?_
   refine aG hS (b:=((((gi l_ be).bk) != 1) && (((gi l_ be).bk) != 2))) kr (fun hb=>?_) fun hb=>?_
   ·replace hm:=hm.1 hb
    refine rP T hS ⟨[(2,I be),(3,I 8)],[]⟩ fun a hS=>?_
    refine aV ?_
    exact fin T hS hO (fun c=>c) rfl (r:=[.int .i64 be,.int .i64 8]) kr (fun X' hM hC=>⟨(be,8),hm,rfl⟩)
   replace hm:=hm.2 hb
   refine aJ (bc ?_)
   refine rPe T hS [26] [(35,B ((decide (((gi l_ be).aj) < 1)) || (decide (((gi l_ be).aj) > 1000))))] (sp:=[31]) fun a hS=>?_
   refine aG hS (b:=((decide (((gi l_ be).aj) < 1)) || (decide (((gi l_ be).aj) > 1000)))) kr (fun hb=>?_) fun hb=>?_
   ·replace hm:=hm.1 hb
    refine rP T hS ⟨[(2,I be),(3,I 2)],[]⟩ fun a hS=>?_
    refine aV ?_
    exact fin T hS hO (fun c=>c) rfl (r:=[.int .i64 be,.int .i64 2]) kr (fun X' hM hC=>⟨(be,2),hm,rfl⟩)
   replace hm:=hm.2 hb
   refine aJ (bc ?_)
   refine rPe T hS [35] [(49,B ((((gi l_ be).bk) == 1) && ((decide (((gi l_ be).N) < 0)) || (decide (((gi l_ be).N) > 63)))))] (sp:=[40,44]) fun a hS=>?_
   refine aG hS (b:=((((gi l_ be).bk) == 1) && ((decide (((gi l_ be).N) < 0)) || (decide (((gi l_ be).N) > 63))))) kr (fun hb=>?_) fun hb=>?_
   ·replace hm:=hm.1 hb
    refine rP T hS ⟨[(2,I be),(3,I 31)],[]⟩ fun a hS=>?_
    refine aV ?_
    exact fin T hS hO (fun c=>c) rfl (r:=[.int .i64 be,.int .i64 31]) kr (fun X' hM hC=>⟨(be,31),hm,rfl⟩)
   replace hm:=hm.2 hb
   refine aJ (bc ?_)
   refine rPe T hS [49] [(63,B ((((gi l_ be).bk) == 2) && ((decide (((gi l_ be).N) < 0)) || (decide (((gi l_ be).N) > 1000000)))))] (sp:=[54,58]) fun a hS=>?_
   refine aG hS (b:=((((gi l_ be).bk) == 2) && ((decide (((gi l_ be).N) < 0)) || (decide (((gi l_ be).N) > 1000000))))) kr (fun hb=>?_) fun hb=>?_
   ·replace hm:=hm.1 hb
    refine rP T hS ⟨[(2,I be),(3,I 7)],[]⟩ fun a hS=>?_
    refine aV ?_
    exact fin T hS hO (fun c=>c) rfl (r:=[.int .i64 be,.int .i64 7]) kr (fun X' hM hC=>⟨(be,7),hm,rfl⟩)
   replace hm:=hm.2 hb
   refine aJ ?_
   refine b5 (fun a w=>∃ (Z:Nat->Nat) (X:Nat->Nat) (dt:Bool),VC50_J2 Q I1 μ1 be dt/\St Tryz.f50.ntmps ⟨[(0,Sl a1 l_ c1),(4,I be),(89,B dt)],[]⟩ Z a w X/\Old w0 X0 w X/\RS aO w X a1 l_ c1) ?_ ?_
   ·refine hJ [6] mixed hS ?_
    intro pz q8 hS hE hD hH
    replace hO:=hO.m2 hE
    replace h102:=h102.m1 hE
    refine tke T [0,1,2,3] [6] hS hH #[true,true,true,true,false,false,false,false,false,false,false,false,false,false,false,false,false,false,false,false,false,false,false,false,false] 21 [] [(68,B (((gi l_ be).bk) == 1))] fun a hS=>?_
    rcases bft (((gi l_ be).bk) == 1) with hb | hb
    ·replace hS:=hS.lit (t:=68) kr hb
     replace hm:=hm.1 hb
     refine tke T [4,5,7,8] [6] hS hH #[true,true,true,true,true,true,false,true,true,false,false,false,false,false,false,false,false,false,false,false,false,false,false,false,false] 17 [] [(69,Sl a1 l_ c1),(70,I be),(73,I ((gi l_ be).aj))] fun a hS=>?_
     obtain ⟨hq,hm⟩:=hm
     refine te (E:=61) (kh:=.i64) T 6 hS kr kr kr (by rfl) kr hH kr kr h102 kr kr hq.1 hq.2 ?_
     intro iy io a h113 hS
     refine only 9 kr (by rfl) (call hS kr kr hb79 kr (fun _ _=>rfl) (Hm _ _ (l_.take be.toNat) ((gi l_ be).aj) iy io h113) ?_)
     intro v114 a oX tr hE hp hS
     replace hO:=hO.m2 hE
     replace hD:=hD.ev hE rfl
     replace h102:=h102.m1 hE
     replace h113:=h113.m1 hE
     obtain ⟨d6,hr⟩:∃ r,eY (l_.take be.toNat) ((gi l_ be).aj)=r:=⟨_,rfl⟩
     replace hm:=hm d6 hr
     rw [hr] at hp
     clear hr
     subst hp
     replace hS:=hS.sle [] [(74,B d6)]
     refine c8 (bJ.of hS (bks:=[6]) kr hD) ?_
     intro hH
     refine tke T [10,11] [6] hS hH #[true,true,true,true,true,true,true,true,true,true,true,true,false,false,false,false,false,false,false,false,false,false,false,false,false] 13 [68,69,70,73,71,74] [(76,B d6)] fun a hS=>?_
     rcases bft d6 with hb | hb
     ·replace hS:=hS.lit (t:=76) kr hb
      replace hm:=hm.1 hb
      refine tke T [12,13,14,15,16,17,19,18,20,21,22,23,24] [6] hS hH (tts 25) 0 [5,76] [(89,B true)] fun a hS=>?_
      refine aU kr ?_
      replace hS:=hS.sl ⟨[(0,Sl a1 l_ c1),(4,I be),(89,B true)],[]⟩
      exact ⟨Z,_,true,hm,hS.sl _,hO,h102⟩
     replace hS:=hS.lit (t:=76) kr hb
     replace hm:=hm.2 hb
     refine tke T [12,13,14,15] [6] hS hH #[true,true,true,true,true,true,true,true,true,true,true,true,true,true,true,true,false,false,false,false,false,false,false,false,false] 9 [] [(80,B (((gi l_ be).bk) == 2))] fun a hS=>?_
     rcases bft (((gi l_ be).bk) == 2) with hb | hb
     ·replace hS:=hS.lit (t:=80) kr hb
      replace hm:=hm.1 hb
      refine tke T [16,17,19,20] [6] hS hH #[true,true,true,true,true,true,true,true,true,true,true,true,true,true,true,true,true,true,false,true,true,false,false,false,false] 5 [5] [(81,Sl a1 l_ c1),(82,I be),(85,I ((gi l_ be).aj))] fun a hS=>?_
      obtain ⟨hq,hm⟩:=hm
      refine te (E:=61) (kh:=.i64) T 18 hS kr kr kr (by rfl) kr hH kr kr h102 kr kr hq.1 hq.2 ?_
      intro gP gM a h120 hS
      refine only 21 kr (by rfl) (call hS kr kr hb79 kr (fun _ _=>rfl) (Hm _ _ (l_.take be.toNat) ((gi l_ be).aj) gP gM h120) ?_)
      intro v121 a tC tq hE hp hS
      replace hO:=hO.m2 hE
      replace hD:=hD.ev hE rfl
      replace h102:=h102.m1 hE
      replace h113:=h113.m1 hE
      replace h120:=h120.m1 hE
      obtain ⟨dA,hr⟩:∃ r,eY (l_.take be.toNat) ((gi l_ be).aj)=r:=⟨_,rfl⟩
      replace hm:=hm dA hr
      rw [hr] at hp
      clear hr
      subst hp
      replace hS:=hS.sle [] [(86,B dA)]
      refine c8 (bJ.of hS (bks:=[6]) kr hD) ?_
      intro hH
      refine tke T [22,23,24] [6] hS hH (tts 25) 0 [76,80,81,82,85,83,86] [(89,B (!dA))] fun a hS=>?_
      refine aU kr ?_
      replace hS:=hS.sl ⟨[(0,Sl a1 l_ c1),(4,I be),(89,B (!dA))],[]⟩
      exact ⟨Z,_,(!dA),hm,hS.sl _,hO,h102⟩
     replace hS:=hS.lit (t:=80) kr hb
     replace hm:=hm.2 hb
     refine tke T [16,17,19,18,20,21,22,23,24] [6] hS hH (tts 25) 0 [5,76,80] [(89,B false)] fun a hS=>?_
     refine aU kr ?_
     replace hS:=hS.sl ⟨[(0,Sl a1 l_ c1),(4,I be),(89,B false)],[]⟩
     exact ⟨Z,_,false,hm,hS.sl _,hO,h102⟩
    replace hS:=hS.lit (t:=68) kr hb
    replace hm:=hm.2 hb
    refine tke T [4,5,7,6,8,9,10,11,12,13,14,15] [6] hS hH #[true,true,true,true,true,true,true,true,true,true,true,true,true,true,true,true,false,false,false,false,false,false,false,false,false] 9 [68] [(76,B false),(80,B (((gi l_ be).bk) == 2))] fun a hS=>?_
    rcases bft (((gi l_ be).bk) == 2) with hb | hb
    ·replace hS:=hS.lit (t:=80) kr hb
     replace hm:=hm.1 hb
     refine tke T [16,17,19,20] [6] hS hH #[true,true,true,true,true,true,true,true,true,true,true,true,true,true,true,true,true,true,false,true,true,false,false,false,false] 5 [5] [(81,Sl a1 l_ c1),(82,I be),(85,I ((gi l_ be).aj))] fun a hS=>?_
     obtain ⟨hq,hm⟩:=hm
     refine te (E:=61) (kh:=.i64) T 18 hS kr kr kr (by rfl) kr hH kr kr h102 kr kr hq.1 hq.2 ?_
     intro ip ii a h127 hS
     refine only 21 kr (by rfl) (call hS kr kr hb79 kr (fun _ _=>rfl) (Hm _ _ (l_.take be.toNat) ((gi l_ be).aj) ip ii h127) ?_)
     intro v128 a JT DM hE hp hS
     replace hO:=hO.m2 hE
     replace hD:=hD.ev hE rfl
     replace h102:=h102.m1 hE
     replace h127:=h127.m1 hE
     obtain ⟨fM,hr⟩:∃ r,eY (l_.take be.toNat) ((gi l_ be).aj)=r:=⟨_,rfl⟩
     replace hm:=hm fM hr
     rw [hr] at hp
     clear hr
     subst hp
     replace hS:=hS.sle [] [(86,B fM)]
     refine c8 (bJ.of hS (bks:=[6]) kr hD) ?_
     intro hH
     refine tke T [22,23,24] [6] hS hH (tts 25) 0 [76,80,81,82,85,83,86] [(89,B (!fM))] fun a hS=>?_
     refine aU kr ?_
     replace hS:=hS.sl ⟨[(0,Sl a1 l_ c1),(4,I be),(89,B (!fM))],[]⟩
     exact ⟨Z,_,(!fM),hm,hS.sl _,hO,h102⟩
    replace hS:=hS.lit (t:=80) kr hb
    replace hm:=hm.2 hb
    refine tke T [16,17,19,18,20,21,22,23,24] [6] hS hH (tts 25) 0 [5,76,80] [(89,B false)] fun a hS=>?_
    refine aU kr ?_
    replace hS:=hS.sl ⟨[(0,Sl a1 l_ c1),(4,I be),(89,B false)],[]⟩
    exact ⟨Z,_,false,hm,hS.sl _,hO,h102⟩
   rintro a yi ⟨Z,ow,dt,hm,hS,hO,h107⟩
   unfold VC50_J2 at hm
   refine aG hS (b:=dt) kr (fun hb=>?_) fun hb=>?_
   ·replace hm:=hm.1 hb
    refine rPe T hS [0,4,89] [(2,I be),(3,I 33)] fun a hS=>?_
    refine aV ?_
    exact fin T hS hO (fun c=>c) rfl (r:=[.int .i64 be,.int .i64 33]) kr (fun X' hM hC=>⟨(be,33),hm,rfl⟩)
   replace hm:=hm.2 hb
   refine aJ ?_
   refine region (ePe T hS [89] [(4,I (wR (be+1)))] fun a hS=>?_)
   exact ⟨wR (be+1),⟨Z,_,hm.1,hS.sl _,hO,h107⟩,hm.2⟩
  replace hm:=hm.2 hb
  refine cb (by rfl) ?_
  exact ⟨Z,_,hm,hS.sl _,hO,h102⟩
 rintro a r7 ⟨Z,IV,hm,hS,hO,h101⟩
 unfold VC50_J1 at hm
 refine rPe T hS [0] [(2,I (lN l_)),(3,I 0)] fun a hS=>?_
 refine aV ?_
 exact fin T hS hO (fun c=>c) rfl (r:=[.int .i64 (lN l_),.int .i64 0]) kr (fun X' hM hC=>⟨((lN l_),0),hm,rfl⟩)
theorem C50 (Hm:S79) (v:∀ (l_:List av),VC50 l_ (fun r=>r=eJ l_)):S50:=by
 intro w X l_ a1 c1   h1
 refine (W50 Hm w X l_ a1 c1   _ (v l_) h1).mono ?_
 rintro _ _ _ _ ⟨r,rfl,h⟩
 exact h
theorem W57 (w0) (X0) (a_:List a8) (b_:List a8) (a1) (c1) (a2) (c2) (Q:Bool->Prop) (hm:VC57 a_ b_ Q) (h1:RS az w0 X0 a1 a_ c1) (h2:RS az w0 X0 a2 b_ c2) :
  Ret Tryz.prog 57 #[.slice a1 a_.length c1,.slice a2 b_.length c2] aI w0 X0 (fun w X' v=>∃ r,Q r/\v=.bool r):=by
 unfold VC57 at hm
 replace hm:=hm (h1.sm kr)
 replace hm:=hm (h2.sm kr)
 refine enter Tryz.func57 rfl (vals:=[.slice a1 a_.length c1,.slice a2 b_.length c2]) kr ?_
 intro Z a hS hO hM
 replace h1:=h1.m0 hM
 replace h2:=h2.m0 hM
 refine rPe T hS [] [] fun a hS=>?_
 refine bc ?_
 refine rPe T hS [] [(10,B ((lN a_) != (lN b_)))] fun a hS=>?_
 refine aG hS (b:=((lN a_) != (lN b_))) kr (fun hb=>?_) fun hb=>?_
 ·replace hm:=hm.1 hb
  refine rPe T hS [0,1,10] [(4,B false)] fun a hS=>?_
  refine aV ?_
  exact fin T hS hO (fun c=>c) rfl (r:=[.bool false]) kr (fun X' hM hC=>⟨false,hm,rfl⟩)
 replace hm:=hm.2 hb
 refine aJ ?_
 refine b5 (fun a w=>∃ Z X,VC57_J1 Q/\St Tryz.f57.ntmps ⟨[],[]⟩ Z a w X/\Old w0 X0 w X) ?_ ?_
 ·refine rPe T hS [10] [(5,I 0)] fun a hS=>?_
  refine aK ?_
  obtain ⟨I1,μ1,ci,hm⟩:=hm
  refine cg (σ:=Int) (fun s a w=>∃ Z X,I1 s/\St Tryz.f57.ntmps ⟨[(0,Sl a1 a_ c1),(1,Sl a2 b_ c2),(5,I s)],[]⟩ Z a w X/\Old w0 X0 w X/\RS az w X a1 a_ c1/\RS az w X a2 b_ c2) (fun s=>μ1 s) (0) ?_ ?_
  ·exact ⟨Z,_,ci,hS.sl _,hO,h1,h2⟩
  rintro be a tE ⟨Z,tt,hI,hS,hO,h101,h102⟩
  replace hm:=hm be hI
  clear hI ci
  refine bc ?_
  refine rPe T hS [] [(14,B (decide (be < (lN a_))))] fun a hS=>?_
  refine aG hS (b:=decide (be < (lN a_))) kr (fun hb=>?_) fun hb=>?_
  ·replace hm:=hm.1 hb
   refine aJ (bc ?_)
   refine aK ?_
   refine dw [] mixed hS ?_
   intro yl ox hS hE hD hH
   replace hO:=hO.m2 hE
   replace h101:=h101.m1 hE
   replace h102:=h102.m1 hE
   refine tke T [0,1,4,5] [] hS hH #[true,true,false,false,true,true,false,false,false] 5 [] [(17,Sl a1 a_ c1),(18,I be),(21,Sl a2 b_ c2),(22,I be)] fun a hS=>?_
   obtain ⟨hq,hm⟩:=hm
   refine db (e:=107) (k:=.i64) T 2 hS kr kr kr (by rfl) kr hH kr kr h101 kr kr hq.1 hq.2 ?_
   intro Jb a h107 hS
   have Bl:=h107.here
   refine jJ T 3 hS kr kr kr (by rfl) kr hH kr h107 Bl kr kr ?_
   intro v108 a hv hS
   subst hv
   obtain ⟨hq,hm⟩:=hm
   refine db (e:=107) (k:=.i64) T 6 hS kr kr kr (by rfl) kr hH kr kr h102 kr kr hq.1 hq.2 ?_
   intro zP a h110 hS
   have lQ:=h110.here
   refine jJ T 7 hS kr kr kr (by rfl) kr hH kr h110 lQ kr kr ?_
   intro v111 a hv hS
   subst hv
   refine zk (op:=.neq) (xs:=[.int .i64 ((gi a_ be).State),.int .i64 ((gi a_ be).Kind),.int .i64 ((gi a_ be).Next),.int .i64 ((gi a_ be).Result)]) (ys:=[.int .i64 ((gi b_ be).State),.int .i64 ((gi b_ be).Kind),.int .i64 ((gi b_ be).Next),.int .i64 ((gi b_ be).Result)]) (r:=(((gi a_ be).State) == ((gi b_ be).State) && (((gi a_ be).Kind) == ((gi b_ be).Kind) && (((gi a_ be).Next) == ((gi b_ be).Next) && (((gi a_ be).Result) == ((gi b_ be).Result) && true))))) (b:=(!(((gi a_ be).State) == ((gi b_ be).State) && (((gi a_ be).Kind) == ((gi b_ be).Kind) && (((gi a_ be).Next) == ((gi b_ be).Next) && (((gi a_ be).Result) == ((gi b_ be).Result) && true)))))) 8 T hS kr kr kr (by rfl) kr hH kr kr kr kr kr kr ?_
   intro a hS
   refine aU kr ?_
   replace hS:=hS.sle [17,18,21,22,19,20,23,24] []
   refine aG hS (b:=(!(((gi a_ be).State) == ((gi b_ be).State) && (((gi a_ be).Kind) == ((gi b_ be).Kind) && (((gi a_ be).Next) == ((gi b_ be).Next) && (((gi a_ be).Result) == ((gi b_ be).Result) && true)))))) kr (fun hb=>?_) fun hb=>?_
   ·replace hm:=hm.1 hb
    refine rPe T hS [0,1,5,25] [(4,B false)] fun a hS=>?_
    refine aV ?_
    exact fin T hS hO (fun c=>c) rfl (r:=[.bool false]) kr (fun X' hM hC=>⟨false,hm,rfl⟩)
   replace hm:=hm.2 hb
   refine aJ ?_
   refine region (ePe T hS [25] [(5,I (wR (be+1)))] fun a hS=>?_)
   exact ⟨wR (be+1),⟨Z,_,hm.1,hS.sl _,hO,h101,h102⟩,hm.2⟩
  replace hm:=hm.2 hb
  refine cb (by rfl) ?_
  exact ⟨Z,_,hm,hS.sl _,hO⟩
 rintro a oX ⟨Z,vj,hm,hS,hO⟩
 unfold VC57_J1 at hm
 refine rPe T hS [] [(4,B true)] fun a hS=>?_
 refine aV ?_
 exact fin T hS hO (fun c=>c) rfl (r:=[.bool true]) kr (fun X' hM hC=>⟨true,hm,rfl⟩)
theorem C57 (v:∀ (a_:List a8) (b_:List a8),VC57 a_ b_ (fun r=>r=ea a_ b_)):S57:=by
 intro w X a_ b_ a1 c1 a2 c2   h1 h2
 refine (W57 w X a_ b_ a1 c1 a2 c2   _ (v a_ b_) h1 h2).mono ?_
 rintro _ _ _ _ ⟨r,rfl,h⟩
 exact h
theorem W26 (KA:S57) (w0) (X0) (a_:ah) (b_:ah) (a1) (c1) (a2) (c2) (Q:Bool->Prop) (hm:VC26 a_ b_ Q) (h1:RS az w0 X0 a1 a_.Rows c1) (h2:RS az w0 X0 a2 b_.Rows c2) :
  Ret Tryz.prog 26 #[.agg #[.int .i64 a_.ar,.int .i64 a_.aw,.int .i64 a_.aE,.slice a1 a_.Rows.length c1],.agg #[.int .i64 b_.ar,.int .i64 b_.aw,.int .i64 b_.aE,.slice a2 b_.Rows.length c2]] aI w0 X0 (fun w X' v=>∃ r,Q r/\v=.bool r):=by
 unfold VC26 at hm
 replace hm:=hm (h1.sm kr)
 replace hm:=hm (h2.sm kr)
 refine enter Tryz.func26 rfl (vals:=[.agg #[.int .i64 a_.ar,.int .i64 a_.aw,.int .i64 a_.aE,.slice a1 a_.Rows.length c1],.agg #[.int .i64 b_.ar,.int .i64 b_.aw,.int .i64 b_.aE,.slice a2 b_.Rows.length c2]]) kr ?_
 intro Z a hS hO hM
 replace h1:=h1.m0 hM
 replace h2:=h2.m0 hM
 refine rM T hS ⟨[(2,Pt 3 0),(3,Pt 4 0)],[(3,(48,(cO a_ a1 c1))),(4,(48,(cO b_ a2 c2)))]⟩ fun Z a mE lB hS hE hr=>?_
 replace hO:=hO.m2 hE
 replace h1:=h1.m1 hE
 replace h2:=h2.m1 hE
 clear hE hr
 refine bl ?_
 refine oPe T hS 20 [] [(24,B (((a_.ar == b_.ar) && (a_.aw == b_.aw)) && (a_.aE == b_.aE)))] (sp:=[10,17]) fun a hS=>?_
 rcases bft (((a_.ar == b_.ar) && (a_.aw == b_.aw)) && (a_.aE == b_.aE)) with hb | hb
 ·replace hS:=hS.lit (t:=24) kr hb
  replace hm:=hm.1 hb
  refine oP T hS 4 ⟨[(24,B true),(26,Sl a1 a_.Rows c1),(28,Sl a2 b_.Rows c2)],[]⟩ fun a hS=>?_
  refine op1 (call hS kr kr hb57 kr (fun _ _=>rfl) (KA _ _ a_.Rows b_.Rows a1 c1 a2 c2 h1 h2) ?_)
  intro v101 a eX e8 hE hp hS
  replace hO:=hO.m2 hE
  replace h1:=h1.m1 hE
  replace h2:=h2.m1 hE
  obtain ⟨am,hr⟩:∃ r,ea a_.Rows b_.Rows=r:=⟨_,rfl⟩
  replace hm:=hm am hr
  rw [hr] at hp
  clear hr
  subst hp
  refine ePe T hS [24,26,28,29] [(4,B am)] fun a hS=>?_
  refine aV ?_
  exact fin T hS hO (fun c=>c) rfl (r:=[.bool am]) kr (fun X' hM hC=>⟨am,hm,rfl⟩)
 replace hS:=hS.lit (t:=24) kr hb
 replace hm:=hm.2 hb
 refine eP T hS ⟨[(4,B false)],[]⟩ fun a hS=>?_
 refine aV ?_
 exact fin T hS hO (fun c=>c) rfl (r:=[.bool false]) kr (fun X' hM hC=>⟨false,hm,rfl⟩)
theorem C26 (KA:S57) (v:∀ (a_:ah) (b_:ah),VC26 a_ b_ (fun r=>r=iC a_ b_)):S26:=by
 intro w X a_ b_ a1 c1 a2 c2   h1 h2
 refine (W26 KA w X a_ b_ a1 c1 a2 c2   _ (v a_ b_) h1 h2).mono ?_
 rintro _ _ _ _ ⟨r,rfl,h⟩
 exact h
theorem W56 (Fv:S55) (w0) (X0) (l_:List av) (a1) (c1) (Q:(List ab) × Int->Prop) (hm:VC56 l_ Q) (h1:RS aO w0 X0 a1 l_ c1) :
  Ret Tryz.prog 56 #[.slice a1 l_.length c1] aI w0 X0 (fun w X' v=>∃ r,Q r/\∃ co cn,v=.tuple #[.slice co r.1.length cn,.int .i64 r.2]/\RS aq w X' co r.1 cn):=by
 unfold VC56 at hm
 replace hm:=hm (h1.sm kr)
 refine enter Tryz.func56 rfl (vals:=[.slice a1 l_.length c1]) kr ?_
 intro Z a hS hO hM
 replace h1:=h1.m0 hM
 refine rPe T hS [] [] fun a hS=>?_
 refine bc ?_
 refine bl ?_
 refine oPe T hS 1 [] [(12,Sl a1 l_ c1)] fun a hS=>?_
 refine op1 (call hS kr kr hb55 kr (fun _ _=>rfl) (Fv _ _ l_ a1 c1 h1) ?_)
 intro v101 a eX e8 hE hp hS
 replace hO:=hO.m2 hE
 replace h1:=h1.m1 hE
 obtain ⟨am,hr⟩:∃ r,bP l_=r:=⟨_,rfl⟩
 replace hm:=hm am hr
 rw [hr] at hp
 clear hr
 subst hp
 refine ePe T hS [12,13] [(5,I am.2)] fun a hS=>?_
 refine rPe T hS [] [(17,B (am.2 != 0))] fun a hS=>?_
 refine aG hS (b:=(am.2 != 0)) kr (fun hb=>?_) fun hb=>?_
 ·replace hm:=hm.1 hb
  refine rPe T hS [0,5,17] [(2,V (.slice none 0 0)),(3,I am.2)] fun a hS=>?_
  refine aV ?_
  exact fin T hS hO (fun c=>c) rfl (r:=[.slice none 0 0,.int .i64 am.2]) kr (fun X' hM hC=>⟨([],am.2),hm,none,0,rfl,RS.empty _ _ _⟩)
 replace hm:=hm.2 hb
 refine aJ ?_
 refine rPe T hS [5,17] [(6,V (.slice none 0 0))] fun a hS=>?_
 refine bl ?_
 refine op1 (oH kI tI false 1020 hS kr kr ?_)
 intro iE a mD mj hE h108 hS
 replace hO:=hO.m2 hE
 replace h1:=h1.m1 hE
 refine ePe T hS [19] [(7,V (.map (some iE)))] fun a hS=>?_
 refine b5 (fun a w=>∃ (Z:Nat->Nat) (X:Nat->Nat) (ce:List ab) (eR:Option Addr) (d9:Nat),VC56_J1 Q ce/\St Tryz.f56.ntmps ⟨[(6,Sl eR ce d9)],[]⟩ Z a w X/\Old w0 X0 w X/\OS aq 102 w X 1003 eR ce d9) ?_ ?_
 ·refine rPe T hS [0] [(20,Sl a1 l_ c1),(21,I (lN l_)),(22,I 0)] fun a hS=>?_
  refine aK ?_
  obtain ⟨I1,μ1,ci,hm⟩:=hm
  refine cg (σ:=(List ab) × (List (Int × Int)) × Int) (fun s a w=>∃ Z X dN dM,I1 s.1 s.2.1 s.2.2/\St Tryz.f56.ntmps ⟨[(6,Sl dN s.1 dM),(7,V (.map (some iE))),(20,Sl a1 l_ c1),(21,I (lN l_)),(22,I s.2.2)],[]⟩ Z a w X/\Old w0 X0 w X/\OS aq 102 w X 1003 dN s.1 dM/\OM kI tI false w X 1020 iE s.2.1/\RS aO w X a1 l_ c1) (fun s=>μ1 s.1 s.2.1 s.2.2) (⟨[],([]:List (Int × Int)),0⟩) ?_ ?_
  ·exact ⟨Z,_,none,0,ci,hS.sl _,hO,(OS.nil _ _ _ _ _),h108,h1⟩
  rintro ⟨bo,bi,aR⟩ a Cx ⟨Z,Gj,dN,dM,hI,hS,hO,h118,h120,h121⟩
  replace hm:=hm bo bi aR hI
  clear hI ci
  refine rPe T hS [] [(23,B (decide (aR < (lN l_))))] fun a hS=>?_
  refine bc ?_
  refine aG hS (b:=decide (aR < (lN l_))) kr (fun hb=>?_) fun hb=>?_
  ·replace hm:=hm.1 hb
   refine aJ ?_
   refine b5 (fun a w=>∃ (Z:Nat->Nat) (X:Nat->Nat) (d5:List ab) (cU:List (Int × Int)) (gN:Option Addr) (gK:Nat),VC56_J2 I1 μ1 bo bi aR d5 cU/\St Tryz.f56.ntmps ⟨[(6,Sl gN d5 gK),(7,V (.map (some iE))),(20,Sl a1 l_ c1),(21,I (lN l_)),(22,I aR)],[]⟩ Z a w X/\Old w0 X0 w X/\OS aq 102 w X 1003 gN d5 gK/\OM kI tI false w X 1020 iE cU/\RS aO w X a1 l_ c1) ?_ ?_
   ·refine aK ?_
    refine bl ?_
    refine oPe T hS 1 [23] [(24,I aR)] fun a hS=>?_
    obtain ⟨hq,hm⟩:=hm
    refine op1 (index (e:=61) (k:=.i64) T hS kr kr kr kr h121 kr kr hq.1 hq.2 ?_)
    intro Rd a h131 hS
    refine op1 (eD T hS kr kr kr h131 kr kr ?_)
    intro v132 a hv hS
    subst hv
    refine eM T hS ⟨[(6,Sl dN bo dM),(7,V (.map (some iE))),(8,I aR),(9,Pt 10 0),(20,Sl a1 l_ c1),(21,I (lN l_)),(22,I aR)],[(10,(61,(cE (gi l_ aR))))]⟩ fun Z a z8 B3 hS hE hr=>?_
    replace hO:=hO.m2 hE
    replace h118:=h118.m2 hE
    replace h120:=h120.m2 hE
    replace h121:=h121.m1 hE
    clear hE hr
    refine bc ?_
    refine rPe T hS [] [(29,B (((gi l_ aR).bk) == 1))] fun a hS=>?_
    refine aG hS (b:=(((gi l_ aR).bk) == 1)) kr (fun hb=>?_) fun hb=>?_
    ·replace hm:=hm.1 hb
     refine bl ?_
     refine oPe T hS 5 [29] [(30,V (.map (some iE))),(32,I ((gi l_ aR).aj)),(34,I (lN bo))] fun a hS=>?_
     refine op1 (sN kI tI false (v:=I (lN bo)) (u:=(lN bo)) ((gi l_ aR).aj) hS kr kr kr kr Tryz.underlying113 Tryz.underlying3 kr h120 rfl ?_)
     intro a yi hE h134 hS
     clear h120
     replace hO:=hO.m2 hE
     replace h118:=h118.m2 hE
     replace h121:=h121.m1 hE
     refine gA ?_
     refine bl ?_
     refine oP T hS 7 ⟨[(6,Sl dN bo dM),(7,V (.map (some iE))),(20,Sl a1 l_ c1),(21,I (lN l_)),(22,I aR),(35,Sl dN bo dM),(41,V (.agg #[.int .i64 ((gi l_ aR).aj),.int .i64 ((gi l_ aR).N),.int .i64 aR,.int .i64 (-1),.int .i64 (-1)]))],[]⟩ fun a hS=>?_
     refine op1 (lit (E:=102) (col:=0) (T:=aq) (vals:=[.agg #[.int .i64 ((gi l_ aR).aj),.int .i64 ((gi l_ aR).N),.int .i64 aR,.int .i64 (-1),.int .i64 (-1)]]) (ys:=[(⟨(gi l_ aR).aj,(gi l_ aR).N,aR,(-1),(-1)⟩:ab)]) T hS kr kr kr kr (by exact ⟨rfl,trivial⟩) rfl kr kr kr kr ?_)
     intro b135 a r8 vi hE h138 hN hS
     clear hN
     replace hO:=hO.m2 hE
     replace h118:=h118.m2 hE
     replace h121:=h121.m1 hE
     replace h134:=h134.m2 hE
     replace h138:=h138.rs0
     obtain ⟨hq,hm⟩:=hm
     obtain ⟨news,hN⟩:=h138.src
     refine op1 (append (E:=102) (T:=aq) (col:=1003) (xs:=bo) T hS kr kr kr kr h118 hN kr kr kr kr hq ?_)
     intro jQ jM a r7 vh hE h141 hS
     clear hq hN
     clear h118
     replace hO:=hO.m2 hE
     replace h121:=h121.m1 hE
     replace h134:=h134.m2 hE
     replace h138:=h138.m1 hE
     refine ePe T hS [41,42,43] [(6,Sl jQ (bo++[(⟨(gi l_ aR).aj,(gi l_ aR).N,aR,(-1),(-1)⟩:ab)]) jM)] fun a hS=>?_
     refine cb (by rfl) ?_
     exact ⟨Z,_,bo++[(⟨(gi l_ aR).aj,(gi l_ aR).N,aR,(-1),(-1)⟩:ab)],dj bi ((gi l_ aR).aj) (lN bo),jQ,jM,hm,hS.sl _,hO,h141,h134,h121⟩
    replace hm:=hm.2 hb
    refine aJ ?_
    refine bl ?_
    refine oPe T hS 4 [29] [(44,Sl dN bo dM),(45,V (.map (some iE))),(47,I ((gi l_ aR).aj))] fun a hS=>?_
    refine op1 (jC kI tI false (zv:=.int .i64 0) (z:=0) ((gi l_ aR).aj) hS kr kr kr kr Tryz.underlying113 Tryz.underlying3 kr rfl h120 ?_)
    intro v144 a hv hS
    replace hv:tI.R _ _ [v144] _:=hv
    cases hv
    obtain ⟨rc,hm⟩:=hm
    refine op1 (k5 (E:=102) (k:=.i64) T hS kr kr kr kr h118 kr kr rc.1 rc.2 ?_)
    intro zO a h147 h146 hS
    have h148:=h147.ad
    clear h147 h146
    refine ePe T hS [44,45,47,48,49] [(10,V (.pointer (some zO)))] fun a hS=>?_
    refine hJ [10] mixed hS ?_
    intro Aa Gl hS hE hD hH
    replace hO:=hO.m2 hE
    replace h118:=h118.m2 hE
    replace h120:=h120.m2 hE
    replace h121:=h121.m1 hE
    refine tke T [0,1,2,3,4] [10] hS hH #[true,true,true,true,true,false,false,false,false,false,false] 6 [8,9,10] [(50,V (.pointer (some zO))),(51,V (.pointer (some zO))),(52,I aR),(54,I ((gi l_ aR).N))] fun a hS=>?_
    refine only 5 kr (by rfl) (Hj (A:=zO) hS kr kr kr ?_)
    intro a hS
    refine c8 (bJ.of hS (bks:=[10]) kr hD) ?_
    intro hH
    refine only 6 kr (by rfl) (ta (off:=3) (fsz:=1) (ft:=3) T hS kr kr kr h148 kr kr ?_)
    intro MC a h153 hS
    refine c8 (bJ.of hS (bks:=[10]) kr hD) ?_
    intro hH
    refine only 7 kr (by rfl) (sf (m:=1) (off:=3) (x:=(⟨(gi bo ((aC bi ((gi l_ aR).aj)).getD 0)).aj,(gi bo ((aC bi ((gi l_ aR).aj)).getD 0)).Kind,(gi bo ((aC bi ((gi l_ aR).aj)).getD 0)).aF,aR,(gi bo ((aC bi ((gi l_ aR).aj)).getD 0)).Result⟩:ab)) (v:=I aR) (i:=((aC bi ((gi l_ aR).aj)).getD 0).toNat) (E:=102) (xs:=bo) T hS kr kr kr kr h118 h153 (by have:=rc.1; have:=rc.2; (try simp only [List.length_set]); omega) kr kr rfl (fun _ _ _ h=>by cases h; rfl) ?_)
    intro a r6 hE h155 hS
    clear h118
    replace hO:=hO.m2 hE
    replace hD:=hD.ev hE rfl
    replace h120:=h120.m2 hE
    replace h121:=h121.m1 hE
    replace hS:=hS.conv (t:=6) (y:=.slice dN (bo.set ((aC bi ((gi l_ aR).aj)).getD 0).toNat (⟨(gi bo ((aC bi ((gi l_ aR).aj)).getD 0)).aj,(gi bo ((aC bi ((gi l_ aR).aj)).getD 0)).Kind,(gi bo ((aC bi ((gi l_ aR).aj)).getD 0)).aF,aR,(gi bo ((aC bi ((gi l_ aR).aj)).getD 0)).Result⟩:ab)).length dM) kr (by rw [List.length_set])
    refine c8 (bJ.of hS (bks:=[10]) kr hD) ?_
    intro hH
    refine only 8 kr (by rfl) (Hj (A:=zO) hS kr kr kr ?_)
    intro a hS
    refine c8 (bJ.of hS (bks:=[10]) kr hD) ?_
    intro hH
    refine only 9 kr (by rfl) (ta (off:=4) (fsz:=1) (ft:=3) T hS kr kr kr h148 kr kr ?_)
    intro MB a h157 hS
    refine c8 (bJ.of hS (bks:=[10]) kr hD) ?_
    intro hH
    refine only 10 kr (by rfl) (sf (m:=1) (off:=4) (x:=(⟨(gi (bo.set ((aC bi ((gi l_ aR).aj)).getD 0).toNat (⟨(gi bo ((aC bi ((gi l_ aR).aj)).getD 0)).aj,(gi bo ((aC bi ((gi l_ aR).aj)).getD 0)).Kind,(gi bo ((aC bi ((gi l_ aR).aj)).getD 0)).aF,aR,(gi bo ((aC bi ((gi l_ aR).aj)).getD 0)).Result⟩:ab)) ((aC bi ((gi l_ aR).aj)).getD 0)).aj,(gi (bo.set ((aC bi ((gi l_ aR).aj)).getD 0).toNat (⟨(gi bo ((aC bi ((gi l_ aR).aj)).getD 0)).aj,(gi bo ((aC bi ((gi l_ aR).aj)).getD 0)).Kind,(gi bo ((aC bi ((gi l_ aR).aj)).getD 0)).aF,aR,(gi bo ((aC bi ((gi l_ aR).aj)).getD 0)).Result⟩:ab)) ((aC bi ((gi l_ aR).aj)).getD 0)).Kind,(gi (bo.set ((aC bi ((gi l_ aR).aj)).getD 0).toNat (⟨(gi bo ((aC bi ((gi l_ aR).aj)).getD 0)).aj,(gi bo ((aC bi ((gi l_ aR).aj)).getD 0)).Kind,(gi bo ((aC bi ((gi l_ aR).aj)).getD 0)).aF,aR,(gi bo ((aC bi ((gi l_ aR).aj)).getD 0)).Result⟩:ab)) ((aC bi ((gi l_ aR).aj)).getD 0)).aF,(gi (bo.set ((aC bi ((gi l_ aR).aj)).getD 0).toNat (⟨(gi bo ((aC bi ((gi l_ aR).aj)).getD 0)).aj,(gi bo ((aC bi ((gi l_ aR).aj)).getD 0)).Kind,(gi bo ((aC bi ((gi l_ aR).aj)).getD 0)).aF,aR,(gi bo ((aC bi ((gi l_ aR).aj)).getD 0)).Result⟩:ab)) ((aC bi ((gi l_ aR).aj)).getD 0)).End,(gi l_ aR).N⟩:ab)) (v:=I ((gi l_ aR).N)) (i:=((aC bi ((gi l_ aR).aj)).getD 0).toNat) (E:=102) (xs:=(bo.set ((aC bi ((gi l_ aR).aj)).getD 0).toNat (⟨(gi bo ((aC bi ((gi l_ aR).aj)).getD 0)).aj,(gi bo ((aC bi ((gi l_ aR).aj)).getD 0)).Kind,(gi bo ((aC bi ((gi l_ aR).aj)).getD 0)).aF,aR,(gi bo ((aC bi ((gi l_ aR).aj)).getD 0)).Result⟩:ab))) T hS kr kr kr kr h155 h157 (by have:=rc.1; have:=rc.2; (try simp only [List.length_set]); omega) kr kr rfl (fun _ _ _ h=>by cases h; rfl) ?_)
    intro a Cz hE h159 hS
    clear h155
    replace hO:=hO.m2 hE
    replace hD:=hD.ev hE rfl
    replace h120:=h120.m2 hE
    replace h121:=h121.m1 hE
    replace hS:=hS.conv (t:=6) (y:=.slice dN ((bo.set ((aC bi ((gi l_ aR).aj)).getD 0).toNat (⟨(gi bo ((aC bi ((gi l_ aR).aj)).getD 0)).aj,(gi bo ((aC bi ((gi l_ aR).aj)).getD 0)).Kind,(gi bo ((aC bi ((gi l_ aR).aj)).getD 0)).aF,aR,(gi bo ((aC bi ((gi l_ aR).aj)).getD 0)).Result⟩:ab)).set ((aC bi ((gi l_ aR).aj)).getD 0).toNat (⟨(gi (bo.set ((aC bi ((gi l_ aR).aj)).getD 0).toNat (⟨(gi bo ((aC bi ((gi l_ aR).aj)).getD 0)).aj,(gi bo ((aC bi ((gi l_ aR).aj)).getD 0)).Kind,(gi bo ((aC bi ((gi l_ aR).aj)).getD 0)).aF,aR,(gi bo ((aC bi ((gi l_ aR).aj)).getD 0)).Result⟩:ab)) ((aC bi ((gi l_ aR).aj)).getD 0)).aj,(gi (bo.set ((aC bi ((gi l_ aR).aj)).getD 0).toNat (⟨(gi bo ((aC bi ((gi l_ aR).aj)).getD 0)).aj,(gi bo ((aC bi ((gi l_ aR).aj)).getD 0)).Kind,(gi bo ((aC bi ((gi l_ aR).aj)).getD 0)).aF,aR,(gi bo ((aC bi ((gi l_ aR).aj)).getD 0)).Result⟩:ab)) ((aC bi ((gi l_ aR).aj)).getD 0)).Kind,(gi (bo.set ((aC bi ((gi l_ aR).aj)).getD 0).toNat (⟨(gi bo ((aC bi ((gi l_ aR).aj)).getD 0)).aj,(gi bo ((aC bi ((gi l_ aR).aj)).getD 0)).Kind,(gi bo ((aC bi ((gi l_ aR).aj)).getD 0)).aF,aR,(gi bo ((aC bi ((gi l_ aR).aj)).getD 0)).Result⟩:ab)) ((aC bi ((gi l_ aR).aj)).getD 0)).aF,(gi (bo.set ((aC bi ((gi l_ aR).aj)).getD 0).toNat (⟨(gi bo ((aC bi ((gi l_ aR).aj)).getD 0)).aj,(gi bo ((aC bi ((gi l_ aR).aj)).getD 0)).Kind,(gi bo ((aC bi ((gi l_ aR).aj)).getD 0)).aF,aR,(gi bo ((aC bi ((gi l_ aR).aj)).getD 0)).Result⟩:ab)) ((aC bi ((gi l_ aR).aj)).getD 0)).End,(gi l_ aR).N⟩:ab)).length dM) kr (by rw [List.length_set])
    refine c8 (bJ.of hS (bks:=[10]) kr hD) ?_
    intro hH
    refine aU kr ?_
    replace hS:=hS.sl ⟨[(6,Sl dN ((bo.set ((aC bi ((gi l_ aR).aj)).getD 0).toNat (⟨(gi bo ((aC bi ((gi l_ aR).aj)).getD 0)).aj,(gi bo ((aC bi ((gi l_ aR).aj)).getD 0)).Kind,(gi bo ((aC bi ((gi l_ aR).aj)).getD 0)).aF,aR,(gi bo ((aC bi ((gi l_ aR).aj)).getD 0)).Result⟩:ab)).set ((aC bi ((gi l_ aR).aj)).getD 0).toNat (⟨(gi (bo.set ((aC bi ((gi l_ aR).aj)).getD 0).toNat (⟨(gi bo ((aC bi ((gi l_ aR).aj)).getD 0)).aj,(gi bo ((aC bi ((gi l_ aR).aj)).getD 0)).Kind,(gi bo ((aC bi ((gi l_ aR).aj)).getD 0)).aF,aR,(gi bo ((aC bi ((gi l_ aR).aj)).getD 0)).Result⟩:ab)) ((aC bi ((gi l_ aR).aj)).getD 0)).aj,(gi (bo.set ((aC bi ((gi l_ aR).aj)).getD 0).toNat (⟨(gi bo ((aC bi ((gi l_ aR).aj)).getD 0)).aj,(gi bo ((aC bi ((gi l_ aR).aj)).getD 0)).Kind,(gi bo ((aC bi ((gi l_ aR).aj)).getD 0)).aF,aR,(gi bo ((aC bi ((gi l_ aR).aj)).getD 0)).Result⟩:ab)) ((aC bi ((gi l_ aR).aj)).getD 0)).Kind,(gi (bo.set ((aC bi ((gi l_ aR).aj)).getD 0).toNat (⟨(gi bo ((aC bi ((gi l_ aR).aj)).getD 0)).aj,(gi bo ((aC bi ((gi l_ aR).aj)).getD 0)).Kind,(gi bo ((aC bi ((gi l_ aR).aj)).getD 0)).aF,aR,(gi bo ((aC bi ((gi l_ aR).aj)).getD 0)).Result⟩:ab)) ((aC bi ((gi l_ aR).aj)).getD 0)).aF,(gi (bo.set ((aC bi ((gi l_ aR).aj)).getD 0).toNat (⟨(gi bo ((aC bi ((gi l_ aR).aj)).getD 0)).aj,(gi bo ((aC bi ((gi l_ aR).aj)).getD 0)).Kind,(gi bo ((aC bi ((gi l_ aR).aj)).getD 0)).aF,aR,(gi bo ((aC bi ((gi l_ aR).aj)).getD 0)).Result⟩:ab)) ((aC bi ((gi l_ aR).aj)).getD 0)).End,(gi l_ aR).N⟩:ab)) dM),(7,V (.map (some iE))),(20,Sl a1 l_ c1),(21,I (lN l_)),(22,I aR)],[]⟩
    exact ⟨Z,_,((bo.set ((aC bi ((gi l_ aR).aj)).getD 0).toNat (⟨(gi bo ((aC bi ((gi l_ aR).aj)).getD 0)).aj,(gi bo ((aC bi ((gi l_ aR).aj)).getD 0)).Kind,(gi bo ((aC bi ((gi l_ aR).aj)).getD 0)).aF,aR,(gi bo ((aC bi ((gi l_ aR).aj)).getD 0)).Result⟩:ab)).set ((aC bi ((gi l_ aR).aj)).getD 0).toNat (⟨(gi (bo.set ((aC bi ((gi l_ aR).aj)).getD 0).toNat (⟨(gi bo ((aC bi ((gi l_ aR).aj)).getD 0)).aj,(gi bo ((aC bi ((gi l_ aR).aj)).getD 0)).Kind,(gi bo ((aC bi ((gi l_ aR).aj)).getD 0)).aF,aR,(gi bo ((aC bi ((gi l_ aR).aj)).getD 0)).Result⟩:ab)) ((aC bi ((gi l_ aR).aj)).getD 0)).aj,(gi (bo.set ((aC bi ((gi l_ aR).aj)).getD 0).toNat (⟨(gi bo ((aC bi ((gi l_ aR).aj)).getD 0)).aj,(gi bo ((aC bi ((gi l_ aR).aj)).getD 0)).Kind,(gi bo ((aC bi ((gi l_ aR).aj)).getD 0)).aF,aR,(gi bo ((aC bi ((gi l_ aR).aj)).getD 0)).Result⟩:ab)) ((aC bi ((gi l_ aR).aj)).getD 0)).Kind,(gi (bo.set ((aC bi ((gi l_ aR).aj)).getD 0).toNat (⟨(gi bo ((aC bi ((gi l_ aR).aj)).getD 0)).aj,(gi bo ((aC bi ((gi l_ aR).aj)).getD 0)).Kind,(gi bo ((aC bi ((gi l_ aR).aj)).getD 0)).aF,aR,(gi bo ((aC bi ((gi l_ aR).aj)).getD 0)).Result⟩:ab)) ((aC bi ((gi l_ aR).aj)).getD 0)).aF,(gi (bo.set ((aC bi ((gi l_ aR).aj)).getD 0).toNat (⟨(gi bo ((aC bi ((gi l_ aR).aj)).getD 0)).aj,(gi bo ((aC bi ((gi l_ aR).aj)).getD 0)).Kind,(gi bo ((aC bi ((gi l_ aR).aj)).getD 0)).aF,aR,(gi bo ((aC bi ((gi l_ aR).aj)).getD 0)).Result⟩:ab)) ((aC bi ((gi l_ aR).aj)).getD 0)).End,(gi l_ aR).N⟩:ab)),bi,dN,dM,hm,hS.sl _,hO,h159,h120,h121⟩
   rintro a GZ ⟨Z,Ms,d5,cU,gN,gK,hm,hS,hO,h126,h128,h129⟩
   unfold VC56_J2 at hm
   refine region (ePe T hS [] [(22,I (wR (aR+1)))] fun a hS=>?_)
   exact ⟨⟨d5,cU,wR (aR+1)⟩,⟨Z,_,gN,gK,hm.1,hS.sl _,hO,h126,h128,h129⟩,hm.2⟩
  replace hm:=hm.2 hb
  refine cb (by rfl) ?_
  exact ⟨Z,_,bo,dN,dM,hm,hS.sl _,hO,h118⟩
 rintro a GY ⟨Z,IS,ce,eR,d9,hm,hS,hO,h112⟩
 unfold VC56_J1 at hm
 refine rPe T hS [6] [(2,Sl eR ce d9),(3,I 0)] fun a hS=>?_
 refine aV ?_
 obtain ⟨qL,hE,hF⟩:=h112.freeze (by decide)
 replace hS:=hS.ev hE (cq kr)
 replace hO:=hO.m2 hE
 have h114:=hF; clear hE hF
 exact fin T hS hO (fun c=>c) rfl (r:=[.slice eR ce.length d9,.int .i64 0]) kr (fun X' hM hC=>⟨(ce,0),hm,eR,d9,rfl,h114.m0 hM⟩)
theorem C56 (Fv:S55) (v:∀ (l_:List av),VC56 l_ (fun r=>r=gl l_)):S56:=by
 intro w X l_ a1 c1   h1
 refine (W56 Fv w X l_ a1 c1   _ (v l_) h1).mono ?_
 rintro _ _ _ _ ⟨r,rfl,h⟩
 exact h
end Go.Proofs.YteahldlmkheleaaGreat
