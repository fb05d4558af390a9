import Derived.Test.YteahldlmkheleaaGreatLWalksS
set_option linter.all false
namespace Go.Proofs.YteahldlmkheleaaGreat
open Go Go.Sv
set_option maxHeartbeats 1000000
theorem W8 (Ji:S12) (D0:S15) (KV:S17) (zR:S22) (qV:S23) (AY:S24) (KR:S25) (KQ:S26) (DZ:S27) (k9:S9) (w0) (X0) (Q:Bool->Prop) (hm:VC8 Q) :
  Ret Tryz.prog 8 #[] aI w0 X0 (fun w X' v=>∃ r,Q r/\v=.bool r):=by
 unfold VC8 at hm
 refine enter Tryz.func8 rfl (vals:=[]) kr ?_
 intro Z a hS hO hM
 refine rPe T hS [] [] fun a hS=>?_
 refine bl ?_
 refine op1 (call hS kr kr hb22 kr (fun _ _=>rfl) (zR _ _ 0 0) ?_)
 intro v101 a eX e8 hE hp hS
 replace hO:=hO.m2 hE
 obtain ⟨dH,dG,gr,gq,hp,h107,h110⟩:=hp
 obtain ⟨am,hr⟩:∃ r,cv 0=r:=⟨_,rfl⟩
 replace hm:=hm am hr
 rw [hr] at hp h107 h110
 clear hr
 subst hp
 replace h110:=h110.rs0
 replace hm:=hm (h107.sm kr)
 replace hm:=hm (h110.sm kr)
 obtain ⟨hq,hm⟩:=hm
 refine op1 (call hS kr kr hb9 kr (fun _ _=>rfl) (k9 _ _ am dH dG gr gq hq h107 h110) ?_)
 intro v111 a yk qL hE hp hS
 replace hO:=hO.m2 hE
 replace h107:=h107.m1 hE
 replace h110:=h110.m1 hE
 obtain ⟨cV,hr⟩:∃ r,dv am=r:=⟨_,rfl⟩
 replace hm:=hm cV hr
 rw [hr] at hp
 clear hr
 subst hp
 refine ePe T hS [20,21] [(1,B cV.1),(2,I cV.2)] fun a hS=>?_
 refine bl ?_
 refine op1 (call hS kr kr hb22 kr (fun _ _=>rfl) (zR _ _ 1 0) ?_)
 intro v115 a vA zM hE hp hS
 replace hO:=hO.m2 hE
 obtain ⟨qK,qD,jR,jN,hp,h121,h124⟩:=hp
 obtain ⟨kV,hr⟩:∃ r,cv 1=r:=⟨_,rfl⟩
 replace hm:=hm kV hr
 rw [hr] at hp h121 h124
 clear hr
 subst hp
 replace h124:=h124.rs0
 replace hm:=hm (h121.sm kr)
 replace hm:=hm (h124.sm kr)
 obtain ⟨hq,hm⟩:=hm
 refine op1 (call hS kr kr hb9 kr (fun _ _=>rfl) (k9 _ _ kV qK qD jR jN hq h121 h124) ?_)
 intro v125 a r9 pc hE hp hS
 replace hO:=hO.m2 hE
 replace h121:=h121.m1 hE
 replace h124:=h124.m1 hE
 obtain ⟨bI,hr⟩:∃ r,dv kV=r:=⟨_,rfl⟩
 replace hm:=hm bI hr
 rw [hr] at hp
 clear hr
 subst hp
 refine ePe T hS [25,26] [(3,B bI.1),(4,I bI.2)] fun a hS=>?_
 refine bl ?_
 refine op1 (call hS kr kr hb22 kr (fun _ _=>rfl) (zR _ _ 0 0) ?_)
 intro v129 a tA B6 hE hp hS
 replace hO:=hO.m2 hE
 obtain ⟨qZ,qX,mY,mU,hp,h135,h138⟩:=hp
 obtain ⟨gc,hr⟩:∃ r,cv 0=r:=⟨_,rfl⟩
 replace hm:=hm gc hr
 rw [hr] at hp h135 h138
 clear hr
 subst hp
 replace h138:=h138.rs0
 replace hm:=hm (h135.sm kr)
 replace hm:=hm (h138.sm kr)
 obtain ⟨hq,hm⟩:=hm
 refine op1 (call hS kr kr hb15 kr (fun _ _=>rfl) (D0 _ _ gc qZ qX mY mU hq h135 h138) ?_)
 intro v139 a yh wH hE hp hS
 replace hO:=hO.m2 hE
 replace h135:=h135.m1 hE
 replace h138:=h138.m1 hE
 obtain ⟨j7,jZ,hp,h145⟩:=hp
 obtain ⟨b6,hr⟩:∃ r,cG gc=r:=⟨_,rfl⟩
 replace hm:=hm b6 hr
 rw [hr] at hp h145
 clear hr
 subst hp
 replace hm:=hm (h145.sm kr)
 refine ePe T hS [30,31] [(5,Sl j7 b6.1 jZ),(6,I b6.2)] fun a hS=>?_
 refine bl ?_
 refine op1 (call hS kr kr hb22 kr (fun _ _=>rfl) (zR _ _ 1 0) ?_)
 intro v146 a vy zJ hE hp hS
 replace hO:=hO.m2 hE
 replace h145:=h145.m1 hE
 obtain ⟨tm,tg,L0,LS,hp,h152,h155⟩:=hp
 obtain ⟨sx,hr⟩:∃ r,cv 1=r:=⟨_,rfl⟩
 replace hm:=hm sx hr
 rw [hr] at hp h152 h155
 clear hr
 subst hp
 replace h155:=h155.rs0
 replace hm:=hm (h152.sm kr)
 replace hm:=hm (h155.sm kr)
 obtain ⟨hq,hm⟩:=hm
 refine op1 (call hS kr kr hb15 kr (fun _ _=>rfl) (D0 _ _ sx tm tg L0 LS hq h152 h155) ?_)
 intro v156 a yg zI hE hp hS
 replace hO:=hO.m2 hE
 replace h145:=h145.m1 hE
 replace h152:=h152.m1 hE
 replace h155:=h155.m1 hE
 obtain ⟨zF,zt,hp,h162⟩:=hp
 obtain ⟨hX,hr⟩:∃ r,cG sx=r:=⟨_,rfl⟩
 replace hm:=hm hX hr
 rw [hr] at hp h162
 clear hr
 subst hp
 replace hm:=hm (h162.sm kr)
 refine ePe T hS [35,36] [(8,I hX.2)] fun a hS=>?_
 refine bl ?_
 refine op1 (call hS kr kr hb22 kr (fun _ _=>rfl) (zR _ _ 0 0) ?_)
 intro v163 a ET IT hE hp hS
 replace hO:=hO.m2 hE
 replace h145:=h145.m1 hE
 obtain ⟨ve,uZ,pb,o8,hp,h169,h172⟩:=hp
 obtain ⟨sw,hr⟩:∃ r,cv 0=r:=⟨_,rfl⟩
 replace hm:=hm sw hr
 rw [hr] at hp h169 h172
 clear hr
 subst hp
 replace h172:=h172.rs0
 replace hm:=hm (h169.sm kr)
 replace hm:=hm (h172.sm kr)
 obtain ⟨hq,hm⟩:=hm
 refine op1 (call hS kr kr hb23 kr (fun _ _=>rfl) (qV _ _ sw ve uZ pb o8 hq h169 h172) ?_)
 intro v173 a GW Mp hE hp hS
 replace hO:=hO.m2 hE
 replace h145:=h145.m1 hE
 replace h169:=h169.m1 hE
 replace h172:=h172.m1 hE
 obtain ⟨d8,hr⟩:∃ r,aB sw=r:=⟨_,rfl⟩
 replace hm:=hm d8 hr
 rw [hr] at hp
 clear hr
 subst hp
 refine ePe T hS [40,41] [(9,I d8.1),(10,I d8.2)] fun a hS=>?_
 refine bl ?_
 refine oPe T hS 1 [] [(45,V (.agg #[.slice none 0 0,.slice none 0 0]))] fun a hS=>?_
 obtain ⟨hq,hm⟩:=hm
 refine op1 (call hS kr kr hb23 kr (fun _ _=>rfl) (qV _ _ (⟨[],[]⟩:ak) none 0 none 0 hq (RS.empty _ _ _) (RS.empty _ _ _)) ?_)
 intro v177 a z7 B2 hE hp hS
 replace hO:=hO.m2 hE
 replace h145:=h145.m1 hE
 obtain ⟨iQ,hr⟩:∃ r,aB (⟨[],[]⟩:ak)=r:=⟨_,rfl⟩
 replace hm:=hm iQ hr
 rw [hr] at hp
 clear hr
 subst hp
 refine ePe T hS [45,46] [(12,I iQ.2)] fun a hS=>?_
 refine bl ?_
 refine op1 (call hS kr kr hb22 kr (fun _ _=>rfl) (zR _ _ 0 1050) ?_)
 intro v181 a N8 Qr hE hp hS
 replace hO:=hO.m2 hE
 replace h145:=h145.m1 hE
 obtain ⟨zE,zr,vd,uY,hp,h187,h190⟩:=hp
 obtain ⟨gn,hr⟩:∃ r,cv 0=r:=⟨_,rfl⟩
 replace hm:=hm gn hr
 rw [hr] at hp h187 h190
 clear hr
 subst hp
 replace hm:=hm (h187.sm kr)
 replace hm:=hm (h190.sm kr)
 refine eM T hS ⟨[(1,B cV.1),(2,I cV.2),(3,B bI.1),(4,I bI.2),(5,Sl j7 b6.1 jZ),(6,I b6.2),(8,I hX.2),(9,I d8.1),(10,I d8.2),(12,I iQ.2),(13,Pt 14 0)],[(14,(25,[Sl zE gn.ae zr,Sl vd gn.ao uY]))]⟩ fun Z a NE PX hS hE hr=>?_
 replace hO:=hO.m2 hE
 replace h145:=h145.m1 hE
 replace h187:=h187.m1 hE
 replace h190:=h190.m2 hE
 clear hE hr
 refine bl ?_
 refine oPe T hS 2 [] [(51,Sl vd gn.ao uY)] fun a hS=>?_
 obtain ⟨xF,hm⟩:=hm
 refine op1 (k5 (E:=63) (k:=.i64) T hS kr kr kr kr h190 kr kr xF.1 xF.2 ?_)
 intro QP a h193 h192 hS
 have h194:=h193.ad
 clear h193 h192
 refine op1 (ta (off:=0) (fsz:=1) (ft:=3) T hS kr kr kr h194 kr kr ?_)
 intro QK a h197 hS
 refine op1 (sf (m:=1) (off:=0) (x:=(⟨1,(gi gn.ao 3).aS⟩:ba)) (v:=I 1) (i:=(3:Int).toNat) (E:=63) (xs:=gn.ao) T hS kr kr kr kr h190 h197 (by have:=xF.1; have:=xF.2; (try simp only [List.length_set]); omega) kr kr rfl (fun _ _ _ h=>by cases h; rfl) ?_)
 intro a GS hE h199 hS
 clear h190
 replace hO:=hO.m2 hE
 replace h145:=h145.m1 hE
 replace h187:=h187.m1 hE
 have xB:=hS.cell (id:=14) (t:=25) (cs:=[Sl zE gn.ae zr,Sl vd gn.ao uY]) kr
 replace xB:=xB.conv (vals':=[.slice zE gn.ae.length zr,.slice vd (gn.ao.set (3:Int).toNat (⟨1,(gi gn.ao 3).aS⟩:ba)).length uY]) (by rw [List.length_set]; rfl)
 replace hS:=hS.cB (id:=14) (t:=25) (cs:=[Sl zE gn.ae zr,Sl vd (gn.ao.set (3:Int).toNat (⟨1,(gi gn.ao 3).aS⟩:ba)) uY]) kr xB
 clear xB
 replace hS:=hS.conv (t:=51) (y:=.slice vd (gn.ao.set (3:Int).toNat (⟨1,(gi gn.ao 3).aS⟩:ba)).length uY) kr (by rw [List.length_set])
 refine gA ?_
 refine bl ?_
 refine oP T hS 1 ⟨[(1,B cV.1),(2,I cV.2),(3,B bI.1),(4,I bI.2),(5,Sl j7 b6.1 jZ),(6,I b6.2),(8,I hX.2),(9,I d8.1),(10,I d8.2),(12,I iQ.2),(55,V (.agg #[.slice zE gn.ae.length zr,.slice vd (gn.ao.set (3:Int).toNat (⟨1,(gi gn.ao 3).aS⟩:ba)).length uY]))],[]⟩ fun a hS=>?_
 obtain ⟨hq,hm⟩:=hm
 refine op1 (call hS kr kr hb23 kr (fun _ _=>rfl) (Ret.nT (qV _ (eN 1050 _) (⟨gn.ae,(gn.ao.set (3:Int).toNat (⟨1,(gi gn.ao 3).aS⟩:ba))⟩:ak) zE zr vd uY hq (h187.m0 (M0.eN 1050)) h199.eN)) ?_)
 intro v201 a GR II hE hp hS
 replace hO:=hO.m2 hE
 replace h145:=h145.m1 hE
 replace h187:=h187.m1 hE
 replace h199:=h199.m2 hE
 obtain ⟨_,hp⟩:=hp
 obtain ⟨fA,hr⟩:∃ r,aB (⟨gn.ae,(gn.ao.set (3:Int).toNat (⟨1,(gi gn.ao 3).aS⟩:ba))⟩:ak)=r:=⟨_,rfl⟩
 replace hm:=hm fA hr
 rw [hr] at hp
 clear hr
 subst hp
 refine ePe T hS [55,56] [(14,I fA.1),(15,I fA.2)] fun a hS=>?_
 refine bl ?_
 refine op1 (call hS kr kr hb22 kr (fun _ _=>rfl) (zR _ _ 1 0) ?_)
 intro v205 a JF Mf hE hp hS
 replace hO:=hO.m2 hE
 replace h145:=h145.m1 hE
 obtain ⟨LY,LQ,zD,zq,hp,h211,h214⟩:=hp
 obtain ⟨su,hr⟩:∃ r,cv 1=r:=⟨_,rfl⟩
 replace hm:=hm su hr
 rw [hr] at hp h211 h214
 clear hr
 subst hp
 replace h214:=h214.rs0
 replace hm:=hm (h211.sm kr)
 replace hm:=hm (h214.sm kr)
 obtain ⟨hq,hm⟩:=hm
 refine op1 (call hS kr kr hb24 kr (fun _ _=>rfl) (AY _ _ su LY LQ zD zq hq h211 h214) ?_)
 intro v215 a JD Mc hE hp hS
 replace hO:=hO.m2 hE
 replace h145:=h145.m1 hE
 replace h211:=h211.m1 hE
 replace h214:=h214.m1 hE
 obtain ⟨mh,md,jP,jL,hp,h221,h224⟩:=hp
 obtain ⟨fL,hr⟩:∃ r,cA su=r:=⟨_,rfl⟩
 replace hm:=hm fL hr
 rw [hr] at hp h221 h224
 clear hr
 subst hp
 replace hm:=hm (h221.sm kr)
 replace hm:=hm (h224.sm kr)
 refine ePe T hS [60,61] [(16,Sl mh fL.1 md),(17,Sl jP fL.2 jL)] fun a hS=>?_
 refine bl ?_
 refine op1 (call hS kr kr hb22 kr (fun _ _=>rfl) (zR _ _ 1 0) ?_)
 intro v225 a NY Qi hE hp hS
 replace hO:=hO.m2 hE
 replace h145:=h145.m1 hE
 replace h221:=h221.m1 hE
 replace h224:=h224.m1 hE
 obtain ⟨LX,LP,LW,LO,hp,h231,h234⟩:=hp
 obtain ⟨ss,hr⟩:∃ r,cv 1=r:=⟨_,rfl⟩
 replace hm:=hm ss hr
 rw [hr] at hp h231 h234
 clear hr
 subst hp
 replace h234:=h234.rs0
 replace hm:=hm (h231.sm kr)
 replace hm:=hm (h234.sm kr)
 obtain ⟨hq,hm⟩:=hm
 refine op1 (call hS kr kr hb17 kr (fun _ _=>rfl) (KV _ _ ss 1 LX LP LW LO hq h231 h234) ?_)
 intro v235 a JB Ma hE hp hS
 replace hO:=hO.m2 hE
 replace h145:=h145.m1 hE
 replace h221:=h221.m1 hE
 replace h224:=h224.m1 hE
 replace h231:=h231.m1 hE
 replace h234:=h234.m1 hE
 obtain ⟨kx,kw,nM,nH,hp,h241,h244⟩:=hp
 obtain ⟨da,hr⟩:∃ r,eB ss 1=r:=⟨_,rfl⟩
 replace hm:=hm da hr
 rw [hr] at hp h241 h244
 clear hr
 subst hp
 replace hm:=hm (h241.sm kr)
 replace hm:=hm (h244.sm kr)
 refine eM T hS ⟨[(1,B cV.1),(2,I cV.2),(3,B bI.1),(4,I bI.2),(5,Sl j7 b6.1 jZ),(6,I b6.2),(8,I hX.2),(9,I d8.1),(10,I d8.2),(12,I iQ.2),(14,I fA.1),(15,I fA.2),(16,Sl mh fL.1 md),(17,Sl jP fL.2 jL),(18,Pt 19 0)],[(19,(51,[I da.ax.ar,I da.ax.aw,I da.ax.aE,Sl kx da.ax.Rows kw,Sl nM da.ao nH]))]⟩ fun Z a NF PY hS hE hr=>?_
 replace hO:=hO.m2 hE
 replace h145:=h145.m1 hE
 replace h221:=h221.m1 hE
 replace h224:=h224.m1 hE
 replace h241:=h241.m1 hE
 replace h244:=h244.m1 hE
 clear hE hr
 refine dw [19] mixed hS ?_
 intro JA L9 hS hE hD hH
 replace hO:=hO.m2 hE
 replace h145:=h145.m1 hE
 replace h221:=h221.m1 hE
 replace h224:=h224.m1 hE
 replace h241:=h241.m1 hE
 replace h244:=h244.m1 hE
 refine tke T [0,1] [19] hS hH #[true,true,false,false,false,false,false,false,false,false,false,false,false,false,false,false,false,false,false,false,false,false,false,false,false,false,false,false,false,false,false,false,false,false,false,false,false,false,false,false,false,false,false,false,false,false,false,false,false,false,false,false,false,false,false,false,false,false,false,false,false,false,false,false,false,false,false,false,false,false,false,false,false,false,false,false,false,false,false] 77 [1] [(67,B cV.1)] fun a hS=>?_
 refine jv (tc:=67) (b:=cV.1) (f:=fun c=>⟨[(3,B bI.1),(4,I bI.2),(5,Sl j7 b6.1 jZ),(6,I b6.2),(8,I hX.2),(9,I d8.1),(10,I d8.2),(12,I iQ.2),(14,I fA.1),(15,I fA.2),(16,Sl mh fL.1 md),(17,Sl jP fL.2 jL),(18,Pt 19 0),(70,B (c && (cV.2 == 0)))],[(19,(51,[I da.ax.ar,I da.ax.aw,I da.ax.aE,Sl kx da.ax.Rows kw,Sl nM da.ao nH]))]⟩) T [2,3,4] [19] [3,4,5,6,8,9,10,12,14,15,16,17,18,70] hS kr kr kr kr hH (listed':=#[true,true,true,true,true,false,false,false,false,false,false,false,false,false,false,false,false,false,false,false,false,false,false,false,false,false,false,false,false,false,false,false,false,false,false,false,false,false,false,false,false,false,false,false,false,false,false,false,false,false,false,false,false,false,false,false,false,false,false,false,false,false,false,false,false,false,false,false,false,false,false,false,false,false,false,false,false,false,false]) (fuel:=74) kr kr (by rfl) ?_
 intro a hS
 refine tke T [5] [19] hS hH #[true,true,true,true,true,true,false,false,false,false,false,false,false,false,false,false,false,false,false,false,false,false,false,false,false,false,false,false,false,false,false,false,false,false,false,false,false,false,false,false,false,false,false,false,false,false,false,false,false,false,false,false,false,false,false,false,false,false,false,false,false,false,false,false,false,false,false,false,false,false,false,false,false,false,false,false,false,false,false] 73 [70] [(71,B (cV.1 && (cV.2 == 0)))] fun a hS=>?_
 refine jv (tc:=71) (b:=(cV.1 && (cV.2 == 0))) (f:=fun c=>⟨[(4,I bI.2),(5,Sl j7 b6.1 jZ),(6,I b6.2),(8,I hX.2),(9,I d8.1),(10,I d8.2),(12,I iQ.2),(14,I fA.1),(15,I fA.2),(16,Sl mh fL.1 md),(17,Sl jP fL.2 jL),(18,Pt 19 0),(74,B (c && (!bI.1)))],[(19,(51,[I da.ax.ar,I da.ax.aw,I da.ax.aE,Sl kx da.ax.Rows kw,Sl nM da.ao nH]))]⟩) T [6,7,8] [19] [4,5,6,8,9,10,12,14,15,16,17,18,74] hS kr kr kr kr hH (listed':=#[true,true,true,true,true,true,true,true,true,false,false,false,false,false,false,false,false,false,false,false,false,false,false,false,false,false,false,false,false,false,false,false,false,false,false,false,false,false,false,false,false,false,false,false,false,false,false,false,false,false,false,false,false,false,false,false,false,false,false,false,false,false,false,false,false,false,false,false,false,false,false,false,false,false,false,false,false,false,false]) (fuel:=70) kr kr (by rfl) ?_
 intro a hS
 refine tke T [9] [19] hS hH #[true,true,true,true,true,true,true,true,true,true,false,false,false,false,false,false,false,false,false,false,false,false,false,false,false,false,false,false,false,false,false,false,false,false,false,false,false,false,false,false,false,false,false,false,false,false,false,false,false,false,false,false,false,false,false,false,false,false,false,false,false,false,false,false,false,false,false,false,false,false,false,false,false,false,false,false,false,false,false] 69 [74] [(75,B ((cV.1 && (cV.2 == 0)) && (!bI.1)))] fun a hS=>?_
 refine jv (tc:=75) (b:=((cV.1 && (cV.2 == 0)) && (!bI.1))) (f:=fun c=>⟨[(5,Sl j7 b6.1 jZ),(6,I b6.2),(8,I hX.2),(9,I d8.1),(10,I d8.2),(12,I iQ.2),(14,I fA.1),(15,I fA.2),(16,Sl mh fL.1 md),(17,Sl jP fL.2 jL),(18,Pt 19 0),(78,B (c && (bI.2 == 0)))],[(19,(51,[I da.ax.ar,I da.ax.aw,I da.ax.aE,Sl kx da.ax.Rows kw,Sl nM da.ao nH]))]⟩) T [10,11,12] [19] [5,6,8,9,10,12,14,15,16,17,18,78] hS kr kr kr kr hH (listed':=#[true,true,true,true,true,true,true,true,true,true,true,true,true,false,false,false,false,false,false,false,false,false,false,false,false,false,false,false,false,false,false,false,false,false,false,false,false,false,false,false,false,false,false,false,false,false,false,false,false,false,false,false,false,false,false,false,false,false,false,false,false,false,false,false,false,false,false,false,false,false,false,false,false,false,false,false,false,false,false]) (fuel:=66) kr kr (by rfl) ?_
 intro a hS
 refine tke T [13] [19] hS hH #[true,true,true,true,true,true,true,true,true,true,true,true,true,true,false,false,false,false,false,false,false,false,false,false,false,false,false,false,false,false,false,false,false,false,false,false,false,false,false,false,false,false,false,false,false,false,false,false,false,false,false,false,false,false,false,false,false,false,false,false,false,false,false,false,false,false,false,false,false,false,false,false,false,false,false,false,false,false,false] 65 [78] [(79,B (((cV.1 && (cV.2 == 0)) && (!bI.1)) && (bI.2 == 0)))] fun a hS=>?_
 refine jv (tc:=79) (b:=(((cV.1 && (cV.2 == 0)) && (!bI.1)) && (bI.2 == 0))) (f:=fun c=>⟨[(5,Sl j7 b6.1 jZ),(8,I hX.2),(9,I d8.1),(10,I d8.2),(12,I iQ.2),(14,I fA.1),(15,I fA.2),(16,Sl mh fL.1 md),(17,Sl jP fL.2 jL),(18,Pt 19 0),(82,B (c && (b6.2 == 0)))],[(19,(51,[I da.ax.ar,I da.ax.aw,I da.ax.aE,Sl kx da.ax.Rows kw,Sl nM da.ao nH]))]⟩) T [14,15,16] [19] [5,8,9,10,12,14,15,16,17,18,82] hS kr kr kr kr hH (listed':=#[true,true,true,true,true,true,true,true,true,true,true,true,true,true,true,true,true,false,false,false,false,false,false,false,false,false,false,false,false,false,false,false,false,false,false,false,false,false,false,false,false,false,false,false,false,false,false,false,false,false,false,false,false,false,false,false,false,false,false,false,false,false,false,false,false,false,false,false,false,false,false,false,false,false,false,false,false,false,false]) (fuel:=62) kr kr (by rfl) ?_
 intro a hS
 refine tke T [17] [19] hS hH #[true,true,true,true,true,true,true,true,true,true,true,true,true,true,true,true,true,true,false,false,false,false,false,false,false,false,false,false,false,false,false,false,false,false,false,false,false,false,false,false,false,false,false,false,false,false,false,false,false,false,false,false,false,false,false,false,false,false,false,false,false,false,false,false,false,false,false,false,false,false,false,false,false,false,false,false,false,false,false] 61 [82] [(83,B ((((cV.1 && (cV.2 == 0)) && (!bI.1)) && (bI.2 == 0)) && (b6.2 == 0)))] fun a hS=>?_
 rcases bft ((((cV.1 && (cV.2 == 0)) && (!bI.1)) && (bI.2 == 0)) && (b6.2 == 0)) with hb | hb
 ·replace hS:=hS.lit (t:=83) kr hb
  replace hm:=hm.1 hb
  refine tke T [19] [19] hS hH #[true,true,true,true,true,true,true,true,true,true,true,true,true,true,true,true,true,true,false,true,false,false,false,false,false,false,false,false,false,false,false,false,false,false,false,false,false,false,false,false,false,false,false,false,false,false,false,false,false,false,false,false,false,false,false,false,false,false,false,false,false,false,false,false,false,false,false,false,false,false,false,false,false,false,false,false,false,false,false] 60 [] [(85,Sl j7 b6.1 jZ)] fun a hS=>?_
  refine only 18 kr (by rfl) (call hS kr kr hb22 kr (fun _ _=>rfl) (zR _ _ 0 0) ?_)
  intro v247 a Jz L8 hE hp hS
  replace hO:=hO.m2 hE
  replace hD:=hD.ev hE rfl
  replace h145:=h145.m1 hE
  replace h221:=h221.m1 hE
  replace h224:=h224.m1 hE
  replace h241:=h241.m1 hE
  replace h244:=h244.m1 hE
  obtain ⟨Gb,F6,Iw,Ig,hp,h253,h256⟩:=hp
  obtain ⟨pT,hr⟩:∃ r,cv 0=r:=⟨_,rfl⟩
  replace hm:=hm pT hr
  rw [hr] at hp h253 h256
  clear hr
  subst hp
  replace h256:=h256.rs0
  replace hm:=hm (h253.sm kr)
  replace hm:=hm (h256.sm kr)
  replace hS:=hS.sle [] [(84,V (.agg #[.slice Gb pT.ae.length F6,.slice Iw pT.ao.length Ig]))]
  refine c8 (bJ.of hS (bks:=[19]) kr hD) ?_
  intro hH
  obtain ⟨hq,hm⟩:=hm
  refine only 20 kr (by rfl) (call hS kr kr hb12 kr (fun _ _=>rfl) (Ji _ _ pT b6.1 Gb F6 Iw Ig j7 jZ hq h253 h256 h145) ?_)
  intro v257 a Jy L7 hE hp hS
  replace hO:=hO.m2 hE
  replace hD:=hD.ev hE rfl
  replace h145:=h145.m1 hE
  replace h221:=h221.m1 hE
  replace h224:=h224.m1 hE
  replace h241:=h241.m1 hE
  replace h244:=h244.m1 hE
  replace h253:=h253.m1 hE
  replace h256:=h256.m1 hE
  obtain ⟨jm,hr⟩:∃ r,fS pT b6.1=r:=⟨_,rfl⟩
  replace hm:=hm jm hr
  rw [hr] at hp
  clear hr
  subst hp
  replace hS:=hS.sle [] [(86,B jm)]
  refine c8 (bJ.of hS (bks:=[19]) kr hD) ?_
  intro hH
  refine tke T [21,22] [19] hS hH #[true,true,true,true,true,true,true,true,true,true,true,true,true,true,true,true,true,true,true,true,true,true,true,false,false,false,false,false,false,false,false,false,false,false,false,false,false,false,false,false,false,false,false,false,false,false,false,false,false,false,false,false,false,false,false,false,false,false,false,false,false,false,false,false,false,false,false,false,false,false,false,false,false,false,false,false,false,false,false] 56 [83,85,84,86] [(88,B jm)] fun a hS=>?_
  refine jv (tc:=88) (b:=jm) (f:=fun c=>⟨[(8,I hX.2),(9,I d8.1),(10,I d8.2),(12,I iQ.2),(14,I fA.1),(15,I fA.2),(16,Sl mh fL.1 md),(17,Sl jP fL.2 jL),(18,Pt 19 0),(92,B (c && ((lN b6.1) == 2)))],[(19,(51,[I da.ax.ar,I da.ax.aw,I da.ax.aE,Sl kx da.ax.Rows kw,Sl nM da.ao nH]))]⟩) T [23,24,25,26] [19] [8,9,10,12,14,15,16,17,18,92] hS kr kr kr kr hH (listed':=#[true,true,true,true,true,true,true,true,true,true,true,true,true,true,true,true,true,true,true,true,true,true,true,true,true,true,true,false,false,false,false,false,false,false,false,false,false,false,false,false,false,false,false,false,false,false,false,false,false,false,false,false,false,false,false,false,false,false,false,false,false,false,false,false,false,false,false,false,false,false,false,false,false,false,false,false,false,false,false]) (fuel:=52) kr kr (by rfl) ?_
  intro a hS
  refine tke T [27] [19] hS hH #[true,true,true,true,true,true,true,true,true,true,true,true,true,true,true,true,true,true,true,true,true,true,true,true,true,true,true,true,false,false,false,false,false,false,false,false,false,false,false,false,false,false,false,false,false,false,false,false,false,false,false,false,false,false,false,false,false,false,false,false,false,false,false,false,false,false,false,false,false,false,false,false,false,false,false,false,false,false,false] 51 [92] [(93,B (jm && ((lN b6.1) == 2)))] fun a hS=>?_
  refine jv (tc:=93) (b:=(jm && ((lN b6.1) == 2))) (f:=fun c=>⟨[(9,I d8.1),(10,I d8.2),(12,I iQ.2),(14,I fA.1),(15,I fA.2),(16,Sl mh fL.1 md),(17,Sl jP fL.2 jL),(18,Pt 19 0),(96,B (c && (hX.2 == 41)))],[(19,(51,[I da.ax.ar,I da.ax.aw,I da.ax.aE,Sl kx da.ax.Rows kw,Sl nM da.ao nH]))]⟩) T [28,29,30] [19] [9,10,12,14,15,16,17,18,96] hS kr kr kr kr hH (listed':=#[true,true,true,true,true,true,true,true,true,true,true,true,true,true,true,true,true,true,true,true,true,true,true,true,true,true,true,true,true,true,true,false,false,false,false,false,false,false,false,false,false,false,false,false,false,false,false,false,false,false,false,false,false,false,false,false,false,false,false,false,false,false,false,false,false,false,false,false,false,false,false,false,false,false,false,false,false,false,false]) (fuel:=48) kr kr (by rfl) ?_
  intro a hS
  refine tke T [31] [19] hS hH #[true,true,true,true,true,true,true,true,true,true,true,true,true,true,true,true,true,true,true,true,true,true,true,true,true,true,true,true,true,true,true,true,false,false,false,false,false,false,false,false,false,false,false,false,false,false,false,false,false,false,false,false,false,false,false,false,false,false,false,false,false,false,false,false,false,false,false,false,false,false,false,false,false,false,false,false,false,false,false] 47 [96] [(97,B ((jm && ((lN b6.1) == 2)) && (hX.2 == 41)))] fun a hS=>?_
  refine jv (tc:=97) (b:=((jm && ((lN b6.1) == 2)) && (hX.2 == 41))) (f:=fun c=>⟨[(10,I d8.2),(12,I iQ.2),(14,I fA.1),(15,I fA.2),(16,Sl mh fL.1 md),(17,Sl jP fL.2 jL),(18,Pt 19 0),(100,B (c && (d8.1 == 4)))],[(19,(51,[I da.ax.ar,I da.ax.aw,I da.ax.aE,Sl kx da.ax.Rows kw,Sl nM da.ao nH]))]⟩) T [32,33,34] [19] [10,12,14,15,16,17,18,100] hS kr kr kr kr hH (listed':=#[true,true,true,true,true,true,true,true,true,true,true,true,true,true,true,true,true,true,true,true,true,true,true,true,true,true,true,true,true,true,true,true,true,true,true,false,false,false,false,false,false,false,false,false,false,false,false,false,false,false,false,false,false,false,false,false,false,false,false,false,false,false,false,false,false,false,false,false,false,false,false,false,false,false,false,false,false,false,false]) (fuel:=44) kr kr (by rfl) ?_
  intro a hS
  refine tke T [35] [19] hS hH #[true,true,true,true,true,true,true,true,true,true,true,true,true,true,true,true,true,true,true,true,true,true,true,true,true,true,true,true,true,true,true,true,true,true,true,true,false,false,false,false,false,false,false,false,false,false,false,false,false,false,false,false,false,false,false,false,false,false,false,false,false,false,false,false,false,false,false,false,false,false,false,false,false,false,false,false,false,false,false] 43 [100] [(101,B (((jm && ((lN b6.1) == 2)) && (hX.2 == 41)) && (d8.1 == 4)))] fun a hS=>?_
  refine jv (tc:=101) (b:=(((jm && ((lN b6.1) == 2)) && (hX.2 == 41)) && (d8.1 == 4))) (f:=fun c=>⟨[(12,I iQ.2),(14,I fA.1),(15,I fA.2),(16,Sl mh fL.1 md),(17,Sl jP fL.2 jL),(18,Pt 19 0),(104,B (c && (d8.2 == 0)))],[(19,(51,[I da.ax.ar,I da.ax.aw,I da.ax.aE,Sl kx da.ax.Rows kw,Sl nM da.ao nH]))]⟩) T [36,37,38] [19] [12,14,15,16,17,18,104] hS kr kr kr kr hH (listed':=#[true,true,true,true,true,true,true,true,true,true,true,true,true,true,true,true,true,true,true,true,true,true,true,true,true,true,true,true,true,true,true,true,true,true,true,true,true,true,true,false,false,false,false,false,false,false,false,false,false,false,false,false,false,false,false,false,false,false,false,false,false,false,false,false,false,false,false,false,false,false,false,false,false,false,false,false,false,false,false]) (fuel:=40) kr kr (by rfl) ?_
  intro a hS
  refine tke T [39] [19] hS hH #[true,true,true,true,true,true,true,true,true,true,true,true,true,true,true,true,true,true,true,true,true,true,true,true,true,true,true,true,true,true,true,true,true,true,true,true,true,true,true,true,false,false,false,false,false,false,false,false,false,false,false,false,false,false,false,false,false,false,false,false,false,false,false,false,false,false,false,false,false,false,false,false,false,false,false,false,false,false,false] 39 [104] [(105,B ((((jm && ((lN b6.1) == 2)) && (hX.2 == 41)) && (d8.1 == 4)) && (d8.2 == 0)))] fun a hS=>?_
  refine jv (tc:=105) (b:=((((jm && ((lN b6.1) == 2)) && (hX.2 == 41)) && (d8.1 == 4)) && (d8.2 == 0))) (f:=fun c=>⟨[(14,I fA.1),(15,I fA.2),(16,Sl mh fL.1 md),(17,Sl jP fL.2 jL),(18,Pt 19 0),(108,B (c && (iQ.2 == 2)))],[(19,(51,[I da.ax.ar,I da.ax.aw,I da.ax.aE,Sl kx da.ax.Rows kw,Sl nM da.ao nH]))]⟩) T [40,41,42] [19] [14,15,16,17,18,108] hS kr kr kr kr hH (listed':=#[true,true,true,true,true,true,true,true,true,true,true,true,true,true,true,true,true,true,true,true,true,true,true,true,true,true,true,true,true,true,true,true,true,true,true,true,true,true,true,true,true,true,true,false,false,false,false,false,false,false,false,false,false,false,false,false,false,false,false,false,false,false,false,false,false,false,false,false,false,false,false,false,false,false,false,false,false,false,false]) (fuel:=36) kr kr (by rfl) ?_
  intro a hS
  refine tke T [43] [19] hS hH #[true,true,true,true,true,true,true,true,true,true,true,true,true,true,true,true,true,true,true,true,true,true,true,true,true,true,true,true,true,true,true,true,true,true,true,true,true,true,true,true,true,true,true,true,false,false,false,false,false,false,false,false,false,false,false,false,false,false,false,false,false,false,false,false,false,false,false,false,false,false,false,false,false,false,false,false,false,false,false] 35 [108] [(109,B (((((jm && ((lN b6.1) == 2)) && (hX.2 == 41)) && (d8.1 == 4)) && (d8.2 == 0)) && (iQ.2 == 2)))] fun a hS=>?_
  refine jv (tc:=109) (b:=(((((jm && ((lN b6.1) == 2)) && (hX.2 == 41)) && (d8.1 == 4)) && (d8.2 == 0)) && (iQ.2 == 2))) (f:=fun c=>⟨[(15,I fA.2),(16,Sl mh fL.1 md),(17,Sl jP fL.2 jL),(18,Pt 19 0),(112,B (c && (fA.1 == 3)))],[(19,(51,[I da.ax.ar,I da.ax.aw,I da.ax.aE,Sl kx da.ax.Rows kw,Sl nM da.ao nH]))]⟩) T [44,45,46] [19] [15,16,17,18,112] hS kr kr kr kr hH (listed':=#[true,true,true,true,true,true,true,true,true,true,true,true,true,true,true,true,true,true,true,true,true,true,true,true,true,true,true,true,true,true,true,true,true,true,true,true,true,true,true,true,true,true,true,true,true,true,true,false,false,false,false,false,false,false,false,false,false,false,false,false,false,false,false,false,false,false,false,false,false,false,false,false,false,false,false,false,false,false,false]) (fuel:=32) kr kr (by rfl) ?_
  intro a hS
  refine tke T [47] [19] hS hH #[true,true,true,true,true,true,true,true,true,true,true,true,true,true,true,true,true,true,true,true,true,true,true,true,true,true,true,true,true,true,true,true,true,true,true,true,true,true,true,true,true,true,true,true,true,true,true,true,false,false,false,false,false,false,false,false,false,false,false,false,false,false,false,false,false,false,false,false,false,false,false,false,false,false,false,false,false,false,false] 31 [112] [(113,B ((((((jm && ((lN b6.1) == 2)) && (hX.2 == 41)) && (d8.1 == 4)) && (d8.2 == 0)) && (iQ.2 == 2)) && (fA.1 == 3)))] fun a hS=>?_
  refine jv (tc:=113) (b:=((((((jm && ((lN b6.1) == 2)) && (hX.2 == 41)) && (d8.1 == 4)) && (d8.2 == 0)) && (iQ.2 == 2)) && (fA.1 == 3))) (f:=fun c=>⟨[(16,Sl mh fL.1 md),(17,Sl jP fL.2 jL),(18,Pt 19 0),(116,B (c && (fA.2 == 32)))],[(19,(51,[I da.ax.ar,I da.ax.aw,I da.ax.aE,Sl kx da.ax.Rows kw,Sl nM da.ao nH]))]⟩) T [48,49,50] [19] [16,17,18,116] hS kr kr kr kr hH (listed':=#[true,true,true,true,true,true,true,true,true,true,true,true,true,true,true,true,true,true,true,true,true,true,true,true,true,true,true,true,true,true,true,true,true,true,true,true,true,true,true,true,true,true,true,true,true,true,true,true,true,true,true,false,false,false,false,false,false,false,false,false,false,false,false,false,false,false,false,false,false,false,false,false,false,false,false,false,false,false,false]) (fuel:=28) kr kr (by rfl) ?_
  intro a hS
  refine tke T [51] [19] hS hH #[true,true,true,true,true,true,true,true,true,true,true,true,true,true,true,true,true,true,true,true,true,true,true,true,true,true,true,true,true,true,true,true,true,true,true,true,true,true,true,true,true,true,true,true,true,true,true,true,true,true,true,true,false,false,false,false,false,false,false,false,false,false,false,false,false,false,false,false,false,false,false,false,false,false,false,false,false,false,false] 27 [116] [(117,B (((((((jm && ((lN b6.1) == 2)) && (hX.2 == 41)) && (d8.1 == 4)) && (d8.2 == 0)) && (iQ.2 == 2)) && (fA.1 == 3)) && (fA.2 == 32)))] fun a hS=>?_
  refine jv (tc:=117) (b:=(((((((jm && ((lN b6.1) == 2)) && (hX.2 == 41)) && (d8.1 == 4)) && (d8.2 == 0)) && (iQ.2 == 2)) && (fA.1 == 3)) && (fA.2 == 32))) (f:=fun c=>⟨[(17,Sl jP fL.2 jL),(18,Pt 19 0),(121,B (c && ((lN fL.1) == 2)))],[(19,(51,[I da.ax.ar,I da.ax.aw,I da.ax.aE,Sl kx da.ax.Rows kw,Sl nM da.ao nH]))]⟩) T [52,53,54,55] [19] [17,18,121] hS kr kr kr kr hH (listed':=#[true,true,true,true,true,true,true,true,true,true,true,true,true,true,true,true,true,true,true,true,true,true,true,true,true,true,true,true,true,true,true,true,true,true,true,true,true,true,true,true,true,true,true,true,true,true,true,true,true,true,true,true,true,true,true,true,false,false,false,false,false,false,false,false,false,false,false,false,false,false,false,false,false,false,false,false,false,false,false]) (fuel:=23) kr kr (by rfl) ?_
  intro a hS
  refine tke T [56] [19] hS hH #[true,true,true,true,true,true,true,true,true,true,true,true,true,true,true,true,true,true,true,true,true,true,true,true,true,true,true,true,true,true,true,true,true,true,true,true,true,true,true,true,true,true,true,true,true,true,true,true,true,true,true,true,true,true,true,true,true,false,false,false,false,false,false,false,false,false,false,false,false,false,false,false,false,false,false,false,false,false,false] 22 [121] [(122,B ((((((((jm && ((lN b6.1) == 2)) && (hX.2 == 41)) && (d8.1 == 4)) && (d8.2 == 0)) && (iQ.2 == 2)) && (fA.1 == 3)) && (fA.2 == 32)) && ((lN fL.1) == 2)))] fun a hS=>?_
  rcases bft ((((((((jm && ((lN b6.1) == 2)) && (hX.2 == 41)) && (d8.1 == 4)) && (d8.2 == 0)) && (iQ.2 == 2)) && (fA.1 == 3)) && (fA.2 == 32)) && ((lN fL.1) == 2)) with hb | hb
  ·replace hS:=hS.lit (t:=122) kr hb
   replace hm:=hm.1 hb
   refine tke T [57] [19] hS hH #[true,true,true,true,true,true,true,true,true,true,true,true,true,true,true,true,true,true,true,true,true,true,true,true,true,true,true,true,true,true,true,true,true,true,true,true,true,true,true,true,true,true,true,true,true,true,true,true,true,true,true,true,true,true,true,true,true,true,false,false,false,false,false,false,false,false,false,false,false,false,false,false,false,false,false,false,false,false,false] 21 [17] [(123,Sl jP fL.2 jL)] fun a hS=>?_
   refine only 58 kr (by rfl) (lit (E:=3) (col:=0) (T:=tI) (vals:=[.int .i64 0,.int .i64 1]) (ys:=[0,1]) T hS kr kr kr kr (by exact ⟨rfl,rfl,trivial⟩) rfl kr kr kr kr ?_)
   intro b261 a Jx L6 hE h264 hN hS
   clear hN
   replace hO:=hO.m2 hE
   replace hD:=hD.ev hE rfl
   replace h145:=h145.m1 hE
   replace h221:=h221.m1 hE
   replace h224:=h224.m1 hE
   replace h241:=h241.m1 hE
   replace h244:=h244.m1 hE
   replace h253:=h253.m1 hE
   replace h256:=h256.m1 hE
   replace h264:=h264.rs0
   refine c8 (bJ.of hS (bks:=[19]) kr hD) ?_
   intro hH
   refine only 59 kr (by rfl) (call hS kr kr hb25 kr (fun _ _=>rfl) (KR _ _ fL.2 [0,1] jP jL (some ⟨b261,0,none⟩) 2 h224 h264) ?_)
   intro v265 a Jw L5 hE hp hS
   replace hO:=hO.m2 hE
   replace hD:=hD.ev hE rfl
   replace h145:=h145.m1 hE
   replace h221:=h221.m1 hE
   replace h224:=h224.m1 hE
   replace h241:=h241.m1 hE
   replace h244:=h244.m1 hE
   replace h253:=h253.m1 hE
   replace h256:=h256.m1 hE
   replace h264:=h264.m1 hE
   obtain ⟨qU,hr⟩:∃ r,eK fL.2 [0,1]=r:=⟨_,rfl⟩
   replace hm:=hm qU hr
   rw [hr] at hp
   clear hr
   subst hp
   replace hS:=hS.sle [] [(125,B qU)]
   refine c8 (bJ.of hS (bks:=[19]) kr hD) ?_
   intro hH
   refine tke T [60,61] [19] hS hH #[true,true,true,true,true,true,true,true,true,true,true,true,true,true,true,true,true,true,true,true,true,true,true,true,true,true,true,true,true,true,true,true,true,true,true,true,true,true,true,true,true,true,true,true,true,true,true,true,true,true,true,true,true,true,true,true,true,true,true,true,true,true,false,false,false,false,false,false,false,false,false,false,false,false,false,false,false,false,false] 17 [122,123,124,125] [(127,B qU)] fun a hS=>?_
   refine jv (tc:=127) (b:=qU) (f:=fun c=>⟨[(18,Pt 19 0),(132,B (c && ((lN da.ao) == 2)))],[(19,(51,[I da.ax.ar,I da.ax.aw,I da.ax.aE,Sl kx da.ax.Rows kw,Sl nM da.ao nH]))]⟩) T [62,63,64,65,66] [19] [18,132] hS kr kr kr kr hH (listed':=#[true,true,true,true,true,true,true,true,true,true,true,true,true,true,true,true,true,true,true,true,true,true,true,true,true,true,true,true,true,true,true,true,true,true,true,true,true,true,true,true,true,true,true,true,true,true,true,true,true,true,true,true,true,true,true,true,true,true,true,true,true,true,true,true,true,true,true,false,false,false,false,false,false,false,false,false,false,false,false]) (fuel:=12) kr kr (by rfl) ?_
   intro a hS
   refine tke T [67] [19] hS hH #[true,true,true,true,true,true,true,true,true,true,true,true,true,true,true,true,true,true,true,true,true,true,true,true,true,true,true,true,true,true,true,true,true,true,true,true,true,true,true,true,true,true,true,true,true,true,true,true,true,true,true,true,true,true,true,true,true,true,true,true,true,true,true,true,true,true,true,true,false,false,false,false,false,false,false,false,false,false,false] 11 [132] [(133,B (qU && ((lN da.ao) == 2)))] fun a hS=>?_
   rcases bft (qU && ((lN da.ao) == 2)) with hb | hb
   ·replace hS:=hS.lit (t:=133) kr hb
    replace hm:=hm.1 hb
    refine tke T [68,69] [19] hS hH #[true,true,true,true,true,true,true,true,true,true,true,true,true,true,true,true,true,true,true,true,true,true,true,true,true,true,true,true,true,true,true,true,true,true,true,true,true,true,true,true,true,true,true,true,true,true,true,true,true,true,true,true,true,true,true,true,true,true,true,true,true,true,true,true,true,true,true,true,true,true,false,false,false,false,false,false,false,false,false] 9 [18] [(135,V (.agg #[.int .i64 da.ax.ar,.int .i64 da.ax.aw,.int .i64 da.ax.aE,.slice kx da.ax.Rows.length kw]))] fun a hS=>?_
    refine only 70 kr (by rfl) (call hS kr kr hb27 kr (fun _ _=>rfl) (DZ _ _) ?_)
    intro v269 a Jv L4 hE hp hS
    replace hO:=hO.m2 hE
    replace hD:=hD.ev hE rfl
    replace h145:=h145.m1 hE
    replace h221:=h221.m1 hE
    replace h224:=h224.m1 hE
    replace h241:=h241.m1 hE
    replace h244:=h244.m1 hE
    replace h253:=h253.m1 hE
    replace h256:=h256.m1 hE
    replace h264:=h264.m1 hE
    obtain ⟨Iv,Ie,hp,h275⟩:=hp
    obtain ⟨pS,hr⟩:∃ r,dr=r:=⟨_,rfl⟩
    replace hm:=hm pS hr
    rw [hr] at hp h275
    clear hr
    subst hp
    replace hm:=hm (h275.sm kr)
    replace hS:=hS.sle [] [(136,V (.agg #[.int .i64 pS.ar,.int .i64 pS.aw,.int .i64 pS.aE,.slice Iv pS.Rows.length Ie]))]
    refine c8 (bJ.of hS (bks:=[19]) kr hD) ?_
    intro hH
    refine only 71 kr (by rfl) (call hS kr kr hb26 kr (fun _ _=>rfl) (KQ _ _ da.ax pS kx kw Iv Ie h241 h275) ?_)
    intro v276 a NI P2 hE hp hS
    replace hO:=hO.m2 hE
    replace hD:=hD.ev hE rfl
    replace h145:=h145.m1 hE
    replace h221:=h221.m1 hE
    replace h224:=h224.m1 hE
    replace h241:=h241.m1 hE
    replace h244:=h244.m1 hE
    replace h253:=h253.m1 hE
    replace h256:=h256.m1 hE
    replace h264:=h264.m1 hE
    replace h275:=h275.m1 hE
    obtain ⟨tY,hr⟩:∃ r,iC da.ax pS=r:=⟨_,rfl⟩
    replace hm:=hm tY hr
    rw [hr] at hp
    clear hr
    subst hp
    replace hS:=hS.sle [] [(137,B tY)]
    refine c8 (bJ.of hS (bks:=[19]) kr hD) ?_
    intro hH
    refine tke T [72,73] [19] hS hH #[true,true,true,true,true,true,true,true,true,true,true,true,true,true,true,true,true,true,true,true,true,true,true,true,true,true,true,true,true,true,true,true,true,true,true,true,true,true,true,true,true,true,true,true,true,true,true,true,true,true,true,true,true,true,true,true,true,true,true,true,true,true,true,true,true,true,true,true,true,true,true,true,true,true,false,false,false,false,false] 5 [133,135,136,137] [(139,B tY)] fun a hS=>?_
    rcases bft tY with hb | hb
    ·replace hS:=hS.lit (t:=139) kr hb
     replace hm:=hm.1 hb
     refine only 74 kr (by rfl) (call hS kr kr hb22 kr (fun _ _=>rfl) (zR _ _ 0 0) ?_)
     intro v280 a NH P1 hE hp hS
     replace hO:=hO.m2 hE
     replace hD:=hD.ev hE rfl
     replace h145:=h145.m1 hE
     replace h221:=h221.m1 hE
     replace h224:=h224.m1 hE
     replace h241:=h241.m1 hE
     replace h244:=h244.m1 hE
     replace h253:=h253.m1 hE
     replace h256:=h256.m1 hE
     replace h264:=h264.m1 hE
     replace h275:=h275.m1 hE
     obtain ⟨Iu,Id,It,Ic,hp,h286,h289⟩:=hp
     obtain ⟨pQ,hr⟩:∃ r,cv 0=r:=⟨_,rfl⟩
     replace hm:=hm pQ hr
     rw [hr] at hp h286 h289
     clear hr
     subst hp
     replace h289:=h289.rs0
     replace hm:=hm (h286.sm kr)
     replace hm:=hm (h289.sm kr)
     replace hS:=hS.sle [] [(140,V (.agg #[.slice Iu pQ.ae.length Id,.slice It pQ.ao.length Ic]))]
     refine c8 (bJ.of hS (bks:=[19]) kr hD) ?_
     intro hH
     obtain ⟨hq,hm⟩:=hm
     refine only 75 kr (by rfl) (call hS kr kr hb12 kr (fun _ _=>rfl) (Ji _ _ pQ [] Iu Id It Ic none 0 hq h286 h289 (RS.empty _ _ _)) ?_)
     intro v290 a NG PZ hE hp hS
     replace hO:=hO.m2 hE
     replace hD:=hD.ev hE rfl
     replace h145:=h145.m1 hE
     replace h221:=h221.m1 hE
     replace h224:=h224.m1 hE
     replace h241:=h241.m1 hE
     replace h244:=h244.m1 hE
     replace h253:=h253.m1 hE
     replace h256:=h256.m1 hE
     replace h264:=h264.m1 hE
     replace h275:=h275.m1 hE
     replace h286:=h286.m1 hE
     replace h289:=h289.m1 hE
     obtain ⟨sr,hr⟩:∃ r,fS pQ []=r:=⟨_,rfl⟩
     replace hm:=hm sr hr
     rw [hr] at hp
     clear hr
     subst hp
     replace hS:=hS.sle [] [(141,B sr)]
     refine c8 (bJ.of hS (bks:=[19]) kr hD) ?_
     intro hH
     refine tke T [76,77,78] [19] hS hH (tts 79) 0 [139,140,141] [(0,B (!sr))] fun a hS=>?_
     refine aU kr ?_
     replace hS:=hS.sl ⟨[(0,B (!sr))],[]⟩
     refine aV ?_
     exact fin T hS hO (fun c=>c) rfl (r:=[.bool (!sr)]) kr (fun X' hM hC=>⟨(!sr),hm,rfl⟩)
    replace hS:=hS.lit (t:=139) kr hb
    replace hm:=hm.2 hb
    refine tke T [74,75,76,77,78] [19] hS hH (tts 79) 0 [139] [(0,B false)] fun a hS=>?_
    refine aU kr ?_
    replace hS:=hS.sl ⟨[(0,B false)],[]⟩
    refine aV ?_
    exact fin T hS hO (fun c=>c) rfl (r:=[.bool false]) kr (fun X' hM hC=>⟨false,hm,rfl⟩)
   replace hS:=hS.lit (t:=133) kr hb
   replace hm:=hm.2 hb
   refine tke T [68,70,69,71,72,73,74,75,76,77,78] [19] hS hH (tts 79) 0 [18,133] [(0,B false)] fun a hS=>?_
   refine aU kr ?_
   replace hS:=hS.sl ⟨[(0,B false)],[]⟩
   refine aV ?_
   exact fin T hS hO (fun c=>c) rfl (r:=[.bool false]) kr (fun X' hM hC=>⟨false,hm,rfl⟩)
  replace hS:=hS.lit (t:=122) kr hb
  replace hm:=hm.2 hb
  refine tke T [57,58,59,60,61,62,63,64,65,66,67,68,70,69,71,72,73,74,75,76,77,78] [19] hS hH (tts 79) 0 [17,18,122] [(0,B false)] fun a hS=>?_
  refine aU kr ?_
  replace hS:=hS.sl ⟨[(0,B false)],[]⟩
  refine aV ?_
  exact fin T hS hO (fun c=>c) rfl (r:=[.bool false]) kr (fun X' hM hC=>⟨false,hm,rfl⟩)
 replace hS:=hS.lit (t:=83) kr hb
 replace hm:=hm.2 hb
 refine tke T [18,19,20,21,22,23,24,25,26,27,28,29,30,31,32,33,34,35,36,37,38,39,40,41,42,43,44,45,46,47,48,49,50,51,52,53,54,55,56,57,58,59,60,61,62,63,64,65,66,67,68,70,69,71,72,73,74,75,76,77,78] [19] hS hH (tts 79) 0 [5,8,9,10,12,14,15,16,17,18,83] [(0,B false)] fun a hS=>?_
 refine aU kr ?_
 replace hS:=hS.sl ⟨[(0,B false)],[]⟩
 refine aV ?_
 exact fin T hS hO (fun c=>c) rfl (r:=[.bool false]) kr (fun X' hM hC=>⟨false,hm,rfl⟩)
theorem C8 (Ji:S12) (D0:S15) (KV:S17) (zR:S22) (qV:S23) (AY:S24) (KR:S25) (KQ:S26) (DZ:S27) (k9:S9) (v:∀ (_:Unit),VC8 (fun r=>r=fk)):S8:=by
 intro w X     
 refine (W8 Ji D0 KV zR qV AY KR KQ DZ k9 w X     _ (v ())).mono ?_
 rintro _ _ _ _ ⟨r,rfl,h⟩
 exact h
end Go.Proofs.YteahldlmkheleaaGreat
