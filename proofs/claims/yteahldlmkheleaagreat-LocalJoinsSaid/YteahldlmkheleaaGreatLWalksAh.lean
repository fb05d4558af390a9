import Derived.Test.YteahldlmkheleaaGreatLWalksS
set_option linter.all false
namespace Go.Proofs.YteahldlmkheleaaGreat
open Go Go.Sv
set_option maxHeartbeats 1000000
theorem W8 (Gk:S12) (Cb:S15) (G7:S17) (z4:S22) (q8:S23) (A1:S24) (Kp:S25) (Ko:S26) (DL:S27) (k9:S9) (w0) (X0) (Q:Bool->Prop) (hm:VC8 Q) :
  Ret Tryz.prog 8 #[] aJ w0 X0 (fun w X' v=>∃ r,Q r/\v=.bool r):=by
 unfold VC8 at hm
 refine enter Tryz.func8 rfl (vals:=[]) kr ?_
 intro Z a hS hO hM
 refine rPe T hS [] [] fun a hS=>?_
 refine bn ?_
 refine op1 (call hS kr kr hb22 kr (fun _ _=>rfl) (z4 _ _ 0 0) ?_)
 intro v101 a fh fo hE hp hS
 replace hO:=hO.m2 hE
 obtain ⟨dQ,dP,iC,iB,hp,h107,h110⟩:=hp
 obtain ⟨av,hr⟩:∃ r,cr 0=r:=⟨_,rfl⟩
 replace hm:=hm av hr
 rw [hr] at hp h107 h110
 clear hr
 subst hp
 replace h110:=h110.rs0
 replace hm:=hm (h107.sm kr)
 replace hm:=hm (h110.sm kr)
 obtain ⟨hq,hm⟩:=hm
 refine op1 (call hS kr kr hb9 kr (fun _ _=>rfl) (k9 _ _ av dQ dP iC iB hq h107 h110) ?_)
 intro v111 a Ag vA hE hp hS
 replace hO:=hO.m2 hE
 replace h107:=h107.m1 hE
 replace h110:=h110.m1 hE
 obtain ⟨dp,hr⟩:∃ r,eQ av=r:=⟨_,rfl⟩
 replace hm:=hm dp hr
 rw [hr] at hp
 clear hr
 subst hp
 refine ePe T hS [20,21] [(1,B dp.1),(2,I dp.2)] fun a hS=>?_
 refine bn ?_
 refine op1 (call hS kr kr hb22 kr (fun _ _=>rfl) (z4 _ _ 1 0) ?_)
 intro v115 a tS wZ hE hp hS
 replace hO:=hO.m2 hE
 obtain ⟨qP,qH,kT,kQ,hp,h121,h124⟩:=hp
 obtain ⟨gW,hr⟩:∃ r,cr 1=r:=⟨_,rfl⟩
 replace hm:=hm gW hr
 rw [hr] at hp h121 h124
 clear hr
 subst hp
 replace h124:=h124.rs0
 replace hm:=hm (h121.sm kr)
 replace hm:=hm (h124.sm kr)
 obtain ⟨hq,hm⟩:=hm
 refine op1 (call hS kr kr hb9 kr (fun _ _=>rfl) (k9 _ _ gW qP qH kT kQ hq h121 h124) ?_)
 intro v125 a tQ qR hE hp hS
 replace hO:=hO.m2 hE
 replace h121:=h121.m1 hE
 replace h124:=h124.m1 hE
 obtain ⟨bO,hr⟩:∃ r,eQ gW=r:=⟨_,rfl⟩
 replace hm:=hm bO hr
 rw [hr] at hp
 clear hr
 subst hp
 refine ePe T hS [25,26] [(3,B bO.1),(4,I bO.2)] fun a hS=>?_
 refine bn ?_
 refine op1 (call hS kr kr hb22 kr (fun _ _=>rfl) (z4 _ _ 0 0) ?_)
 intro v129 a tP BZ hE hp hS
 replace hO:=hO.m2 hE
 obtain ⟨oE,oA,nc,m8,hp,h135,h138⟩:=hp
 obtain ⟨gr,hr⟩:∃ r,cr 0=r:=⟨_,rfl⟩
 replace hm:=hm gr hr
 rw [hr] at hp h135 h138
 clear hr
 subst hp
 replace h138:=h138.rs0
 replace hm:=hm (h135.sm kr)
 replace hm:=hm (h138.sm kr)
 obtain ⟨hq,hm⟩:=hm
 refine op1 (call hS kr kr hb15 kr (fun _ _=>rfl) (Cb _ _ gr oE oA nc m8 hq h135 h138) ?_)
 intro v139 a yB zX hE hp hS
 replace hO:=hO.m2 hE
 replace h135:=h135.m1 hE
 replace h138:=h138.m1 hE
 obtain ⟨gc,f9,hp,h145⟩:=hp
 obtain ⟨bZ,hr⟩:∃ r,bP gr=r:=⟨_,rfl⟩
 replace hm:=hm bZ hr
 rw [hr] at hp h145
 clear hr
 subst hp
 replace hm:=hm (h145.sm kr)
 refine ePe T hS [30,31] [(5,Sl gc bZ.1 f9),(6,I bZ.2)] fun a hS=>?_
 refine bn ?_
 refine op1 (call hS kr kr hb22 kr (fun _ _=>rfl) (z4 _ _ 1 0) ?_)
 intro v146 a tO wV hE hp hS
 replace hO:=hO.m2 hE
 replace h145:=h145.m1 hE
 obtain ⟨tC,tu,Lr,Lk,hp,h152,h155⟩:=hp
 obtain ⟨lJ,hr⟩:∃ r,cr 1=r:=⟨_,rfl⟩
 replace hm:=hm lJ hr
 rw [hr] at hp h152 h155
 clear hr
 subst hp
 replace h155:=h155.rs0
 replace hm:=hm (h152.sm kr)
 replace hm:=hm (h155.sm kr)
 obtain ⟨hq,hm⟩:=hm
 refine op1 (call hS kr kr hb15 kr (fun _ _=>rfl) (Cb _ _ lJ tC tu Lr Lk hq h152 h155) ?_)
 intro v156 a yA zT hE hp hS
 replace hO:=hO.m2 hE
 replace h145:=h145.m1 hE
 replace h152:=h152.m1 hE
 replace h155:=h155.m1 hE
 obtain ⟨zP,zG,hp,h162⟩:=hp
 obtain ⟨ic,hr⟩:∃ r,bP lJ=r:=⟨_,rfl⟩
 replace hm:=hm ic hr
 rw [hr] at hp h162
 clear hr
 subst hp
 replace hm:=hm (h162.sm kr)
 refine ePe T hS [35,36] [(8,I ic.2)] fun a hS=>?_
 refine bn ?_
 refine op1 (call hS kr kr hb22 kr (fun _ _=>rfl) (z4 _ _ 0 0) ?_)
 intro v163 a ED IA hE hp hS
 replace hO:=hO.m2 hE
 replace h145:=h145.m1 hE
 obtain ⟨vu,vi,pl,pf,hp,h169,h172⟩:=hp
 obtain ⟨sI,hr⟩:∃ r,cr 0=r:=⟨_,rfl⟩
 replace hm:=hm sI hr
 rw [hr] at hp h169 h172
 clear hr
 subst hp
 replace h172:=h172.rs0
 replace hm:=hm (h169.sm kr)
 replace hm:=hm (h172.sm kr)
 obtain ⟨hq,hm⟩:=hm
 refine op1 (call hS kr kr hb23 kr (fun _ _=>rfl) (q8 _ _ sI vu vi pl pf hq h169 h172) ?_)
 intro v173 a GD LP hE hp hS
 replace hO:=hO.m2 hE
 replace h145:=h145.m1 hE
 replace h169:=h169.m1 hE
 replace h172:=h172.m1 hE
 obtain ⟨d8,hr⟩:∃ r,aA sI=r:=⟨_,rfl⟩
 replace hm:=hm d8 hr
 rw [hr] at hp
 clear hr
 subst hp
 refine ePe T hS [40,41] [(9,I d8.1),(10,I d8.2)] fun a hS=>?_
 refine bn ?_
 refine oPe T hS 1 [] [(45,V (.agg #[.slice none 0 0,.slice none 0 0]))] fun a hS=>?_
 obtain ⟨hq,hm⟩:=hm
 refine op1 (call hS kr kr hb23 kr (fun _ _=>rfl) (q8 _ _ (⟨[],[]⟩:aj) none 0 none 0 hq (RS.empty _ _ _) (RS.empty _ _ _)) ?_)
 intro v177 a Co Du hE hp hS
 replace hO:=hO.m2 hE
 replace h145:=h145.m1 hE
 obtain ⟨iS,hr⟩:∃ r,aA (⟨[],[]⟩:aj)=r:=⟨_,rfl⟩
 replace hm:=hm iS hr
 rw [hr] at hp
 clear hr
 subst hp
 refine ePe T hS [45,46] [(12,I iS.2)] fun a hS=>?_
 refine bn ?_
 refine op1 (call hS kr kr hb22 kr (fun _ _=>rfl) (z4 _ _ 0 1050) ?_)
 intro v181 a NH PV hE hp hS
 replace hO:=hO.m2 hE
 replace h145:=h145.m1 hE
 obtain ⟨zO,zF,vt,vh,hp,h187,h190⟩:=hp
 obtain ⟨gz,hr⟩:∃ r,cr 0=r:=⟨_,rfl⟩
 replace hm:=hm gz hr
 rw [hr] at hp h187 h190
 clear hr
 subst hp
 replace hm:=hm (h187.sm kr)
 replace hm:=hm (h190.sm kr)
 refine eM T hS ⟨[(1,B dp.1),(2,I dp.2),(3,B bO.1),(4,I bO.2),(5,Sl gc bZ.1 f9),(6,I bZ.2),(8,I ic.2),(9,I d8.1),(10,I d8.2),(12,I iS.2),(13,Pt 14 0)],[(14,(25,[Sl zO gz.ae zF,Sl vt gz.ak vh]))]⟩ fun Z a MW Pg hS hE hr=>?_
 replace hO:=hO.m2 hE
 replace h145:=h145.m1 hE
 replace h187:=h187.m1 hE
 replace h190:=h190.m2 hE
 clear hE hr
 refine bn ?_
 refine oPe T hS 2 [] [(51,Sl vt gz.ak vh)] fun a hS=>?_
 obtain ⟨xW,hm⟩:=hm
 refine op1 (mV (E:=63) (k:=.i64) T hS kr kr kr kr h190 kr kr xW.1 xW.2 ?_)
 intro Qo a h193 h192 hS
 have h194:=h193.ad
 clear h193 h192
 refine op1 (tn (off:=0) (fsz:=1) (ft:=3) T hS kr kr kr h194 kr kr ?_)
 intro Qk a h197 hS
 refine op1 (ss (m:=1) (off:=0) (x:=(⟨1,(gi gz.ak 3).aK⟩:aR)) (v:=I 1) (i:=(3:Int).toNat) (E:=63) (xs:=gz.ak) T hS kr kr kr kr h190 h197 (by have:=xW.1; have:=xW.2; (try simp only [List.length_set]); omega) kr kr rfl (fun _ _ _ h=>by cases h; rfl) ?_)
 intro a Gz hE h199 hS
 clear h190
 replace hO:=hO.m2 hE
 replace h145:=h145.m1 hE
 replace h187:=h187.m1 hE
 have xT:=hS.cell (id:=14) (t:=25) (cs:=[Sl zO gz.ae zF,Sl vt gz.ak vh]) kr
 replace xT:=xT.conv (vals':=[.slice zO gz.ae.length zF,.slice vt (gz.ak.set (3:Int).toNat (⟨1,(gi gz.ak 3).aK⟩:aR)).length vh]) (by rw [List.length_set]; rfl)
 replace hS:=hS.cx (id:=14) (t:=25) (cs:=[Sl zO gz.ae zF,Sl vt (gz.ak.set (3:Int).toNat (⟨1,(gi gz.ak 3).aK⟩:aR)) vh]) kr xT
 clear xT
 replace hS:=hS.conv (t:=51) (y:=.slice vt (gz.ak.set (3:Int).toNat (⟨1,(gi gz.ak 3).aK⟩:aR)).length vh) kr (by rw [List.length_set])
 refine g8 ?_
 refine bn ?_
 refine oP T hS 1 ⟨[(1,B dp.1),(2,I dp.2),(3,B bO.1),(4,I bO.2),(5,Sl gc bZ.1 f9),(6,I bZ.2),(8,I ic.2),(9,I d8.1),(10,I d8.2),(12,I iS.2),(55,V (.agg #[.slice zO gz.ae.length zF,.slice vt (gz.ak.set (3:Int).toNat (⟨1,(gi gz.ak 3).aK⟩:aR)).length vh]))],[]⟩ fun a hS=>?_
 obtain ⟨hq,hm⟩:=hm
 refine op1 (call hS kr kr hb23 kr (fun _ _=>rfl) (Ret.mI (q8 _ (eu 1050 _) (⟨gz.ae,(gz.ak.set (3:Int).toNat (⟨1,(gi gz.ak 3).aK⟩:aR))⟩:aj) zO zF vt vh hq (h187.m0 (M0.eu 1050)) h199.eu)) ?_)
 intro v201 a Je LF hE hp hS
 replace hO:=hO.m2 hE
 replace h145:=h145.m1 hE
 replace h187:=h187.m1 hE
 replace h199:=h199.m2 hE
 obtain ⟨_,hp⟩:=hp
 obtain ⟨fE,hr⟩:∃ r,aA (⟨gz.ae,(gz.ak.set (3:Int).toNat (⟨1,(gi gz.ak 3).aK⟩:aR))⟩:aj)=r:=⟨_,rfl⟩
 replace hm:=hm fE hr
 rw [hr] at hp
 clear hr
 subst hp
 refine ePe T hS [55,56] [(14,I fE.1),(15,I fE.2)] fun a hS=>?_
 refine bn ?_
 refine op1 (call hS kr kr hb22 kr (fun _ _=>rfl) (z4 _ _ 1 0) ?_)
 intro v205 a Jc LB hE hp hS
 replace hO:=hO.m2 hE
 replace h145:=h145.m1 hE
 obtain ⟨Lp,Li,zN,zE,hp,h211,h214⟩:=hp
 obtain ⟨sH,hr⟩:∃ r,cr 1=r:=⟨_,rfl⟩
 replace hm:=hm sH hr
 rw [hr] at hp h211 h214
 clear hr
 subst hp
 replace h214:=h214.rs0
 replace hm:=hm (h211.sm kr)
 replace hm:=hm (h214.sm kr)
 obtain ⟨hq,hm⟩:=hm
 refine op1 (call hS kr kr hb24 kr (fun _ _=>rfl) (A1 _ _ sH Lp Li zN zE hq h211 h214) ?_)
 intro v215 a Nw PN hE hp hS
 replace hO:=hO.m2 hE
 replace h145:=h145.m1 hE
 replace h211:=h211.m1 hE
 replace h214:=h214.m1 hE
 obtain ⟨oD,oz,mq,mj,hp,h221,h224⟩:=hp
 obtain ⟨fQ,hr⟩:∃ r,cJ sH=r:=⟨_,rfl⟩
 replace hm:=hm fQ hr
 rw [hr] at hp h221 h224
 clear hr
 subst hp
 replace hm:=hm (h221.sm kr)
 replace hm:=hm (h224.sm kr)
 refine ePe T hS [60,61] [(16,Sl oD fQ.1 oz),(17,Sl mq fQ.2 mj)] fun a hS=>?_
 refine bn ?_
 refine op1 (call hS kr kr hb22 kr (fun _ _=>rfl) (z4 _ _ 1 0) ?_)
 intro v225 a Nt PK hE hp hS
 replace hO:=hO.m2 hE
 replace h145:=h145.m1 hE
 replace h221:=h221.m1 hE
 replace h224:=h224.m1 hE
 obtain ⟨Lo,Lh,Ln,Lg,hp,h231,h234⟩:=hp
 obtain ⟨sG,hr⟩:∃ r,cr 1=r:=⟨_,rfl⟩
 replace hm:=hm sG hr
 rw [hr] at hp h231 h234
 clear hr
 subst hp
 replace h234:=h234.rs0
 replace hm:=hm (h231.sm kr)
 replace hm:=hm (h234.sm kr)
 obtain ⟨hq,hm⟩:=hm
 refine op1 (call hS kr kr hb17 kr (fun _ _=>rfl) (G7 _ _ sG 1 Lo Lh Ln Lg hq h231 h234) ?_)
 intro v235 a I9 Ly hE hp hS
 replace hO:=hO.m2 hE
 replace h145:=h145.m1 hE
 replace h221:=h221.m1 hE
 replace h224:=h224.m1 hE
 replace h231:=h231.m1 hE
 replace h234:=h234.m1 hE
 obtain ⟨mo,mi,nY,nS,hp,h241,h244⟩:=hp
 obtain ⟨cZ,hr⟩:∃ r,dw sG 1=r:=⟨_,rfl⟩
 replace hm:=hm cZ hr
 rw [hr] at hp h241 h244
 clear hr
 subst hp
 replace hm:=hm (h241.sm kr)
 replace hm:=hm (h244.sm kr)
 refine eM T hS ⟨[(1,B dp.1),(2,I dp.2),(3,B bO.1),(4,I bO.2),(5,Sl gc bZ.1 f9),(6,I bZ.2),(8,I ic.2),(9,I d8.1),(10,I d8.2),(12,I iS.2),(14,I fE.1),(15,I fE.2),(16,Sl oD fQ.1 oz),(17,Sl mq fQ.2 mj),(18,Pt 19 0)],[(19,(51,[I cZ.aw.aq,I cZ.aw.ax,I cZ.aw.aE,Sl mo cZ.aw.Rows mi,Sl nY cZ.ak nS]))]⟩ fun Z a MX Ph hS hE hr=>?_
 replace hO:=hO.m2 hE
 replace h145:=h145.m1 hE
 replace h221:=h221.m1 hE
 replace h224:=h224.m1 hE
 replace h241:=h241.m1 hE
 replace h244:=h244.m1 hE
 clear hE hr
 refine dq [19] mixed hS ?_
 intro I7 Lw hS hE hD hH
 replace hO:=hO.m2 hE
 replace h145:=h145.m1 hE
 replace h221:=h221.m1 hE
 replace h224:=h224.m1 hE
 replace h241:=h241.m1 hE
 replace h244:=h244.m1 hE
 refine tke T [0,1] [19] hS hH #[true,true,false,false,false,false,false,false,false,false,false,false,false,false,false,false,false,false,false,false,false,false,false,false,false,false,false,false,false,false,false,false,false,false,false,false,false,false,false,false,false,false,false,false,false,false,false,false,false,false,false,false,false,false,false,false,false,false,false,false,false,false,false,false,false,false,false,false,false,false,false,false,false,false,false,false,false,false,false] 77 [1] [(67,B dp.1)] fun a hS=>?_
 refine js (tc:=67) (b:=dp.1) (f:=fun c=>⟨[(3,B bO.1),(4,I bO.2),(5,Sl gc bZ.1 f9),(6,I bZ.2),(8,I ic.2),(9,I d8.1),(10,I d8.2),(12,I iS.2),(14,I fE.1),(15,I fE.2),(16,Sl oD fQ.1 oz),(17,Sl mq fQ.2 mj),(18,Pt 19 0),(70,B (c && (dp.2 == 0)))],[(19,(51,[I cZ.aw.aq,I cZ.aw.ax,I cZ.aw.aE,Sl mo cZ.aw.Rows mi,Sl nY cZ.ak nS]))]⟩) T [2,3,4] [19] [3,4,5,6,8,9,10,12,14,15,16,17,18,70] hS kr kr kr kr hH (listed':=#[true,true,true,true,true,false,false,false,false,false,false,false,false,false,false,false,false,false,false,false,false,false,false,false,false,false,false,false,false,false,false,false,false,false,false,false,false,false,false,false,false,false,false,false,false,false,false,false,false,false,false,false,false,false,false,false,false,false,false,false,false,false,false,false,false,false,false,false,false,false,false,false,false,false,false,false,false,false,false]) (fuel:=74) kr kr (by rfl) ?_
 intro a hS
 refine tke T [5] [19] hS hH #[true,true,true,true,true,true,false,false,false,false,false,false,false,false,false,false,false,false,false,false,false,false,false,false,false,false,false,false,false,false,false,false,false,false,false,false,false,false,false,false,false,false,false,false,false,false,false,false,false,false,false,false,false,false,false,false,false,false,false,false,false,false,false,false,false,false,false,false,false,false,false,false,false,false,false,false,false,false,false] 73 [70] [(71,B (dp.1 && (dp.2 == 0)))] fun a hS=>?_
 refine js (tc:=71) (b:=(dp.1 && (dp.2 == 0))) (f:=fun c=>⟨[(4,I bO.2),(5,Sl gc bZ.1 f9),(6,I bZ.2),(8,I ic.2),(9,I d8.1),(10,I d8.2),(12,I iS.2),(14,I fE.1),(15,I fE.2),(16,Sl oD fQ.1 oz),(17,Sl mq fQ.2 mj),(18,Pt 19 0),(74,B (c && (!bO.1)))],[(19,(51,[I cZ.aw.aq,I cZ.aw.ax,I cZ.aw.aE,Sl mo cZ.aw.Rows mi,Sl nY cZ.ak nS]))]⟩) T [6,7,8] [19] [4,5,6,8,9,10,12,14,15,16,17,18,74] hS kr kr kr kr hH (listed':=#[true,true,true,true,true,true,true,true,true,false,false,false,false,false,false,false,false,false,false,false,false,false,false,false,false,false,false,false,false,false,false,false,false,false,false,false,false,false,false,false,false,false,false,false,false,false,false,false,false,false,false,false,false,false,false,false,false,false,false,false,false,false,false,false,false,false,false,false,false,false,false,false,false,false,false,false,false,false,false]) (fuel:=70) kr kr (by rfl) ?_
 intro a hS
 refine tke T [9] [19] hS hH #[true,true,true,true,true,true,true,true,true,true,false,false,false,false,false,false,false,false,false,false,false,false,false,false,false,false,false,false,false,false,false,false,false,false,false,false,false,false,false,false,false,false,false,false,false,false,false,false,false,false,false,false,false,false,false,false,false,false,false,false,false,false,false,false,false,false,false,false,false,false,false,false,false,false,false,false,false,false,false] 69 [74] [(75,B ((dp.1 && (dp.2 == 0)) && (!bO.1)))] fun a hS=>?_
 refine js (tc:=75) (b:=((dp.1 && (dp.2 == 0)) && (!bO.1))) (f:=fun c=>⟨[(5,Sl gc bZ.1 f9),(6,I bZ.2),(8,I ic.2),(9,I d8.1),(10,I d8.2),(12,I iS.2),(14,I fE.1),(15,I fE.2),(16,Sl oD fQ.1 oz),(17,Sl mq fQ.2 mj),(18,Pt 19 0),(78,B (c && (bO.2 == 0)))],[(19,(51,[I cZ.aw.aq,I cZ.aw.ax,I cZ.aw.aE,Sl mo cZ.aw.Rows mi,Sl nY cZ.ak nS]))]⟩) T [10,11,12] [19] [5,6,8,9,10,12,14,15,16,17,18,78] hS kr kr kr kr hH (listed':=#[true,true,true,true,true,true,true,true,true,true,true,true,true,false,false,false,false,false,false,false,false,false,false,false,false,false,false,false,false,false,false,false,false,false,false,false,false,false,false,false,false,false,false,false,false,false,false,false,false,false,false,false,false,false,false,false,false,false,false,false,false,false,false,false,false,false,false,false,false,false,false,false,false,false,false,false,false,false,false]) (fuel:=66) kr kr (by rfl) ?_
 intro a hS
 refine tke T [13] [19] hS hH #[true,true,true,true,true,true,true,true,true,true,true,true,true,true,false,false,false,false,false,false,false,false,false,false,false,false,false,false,false,false,false,false,false,false,false,false,false,false,false,false,false,false,false,false,false,false,false,false,false,false,false,false,false,false,false,false,false,false,false,false,false,false,false,false,false,false,false,false,false,false,false,false,false,false,false,false,false,false,false] 65 [78] [(79,B (((dp.1 && (dp.2 == 0)) && (!bO.1)) && (bO.2 == 0)))] fun a hS=>?_
 refine js (tc:=79) (b:=(((dp.1 && (dp.2 == 0)) && (!bO.1)) && (bO.2 == 0))) (f:=fun c=>⟨[(5,Sl gc bZ.1 f9),(8,I ic.2),(9,I d8.1),(10,I d8.2),(12,I iS.2),(14,I fE.1),(15,I fE.2),(16,Sl oD fQ.1 oz),(17,Sl mq fQ.2 mj),(18,Pt 19 0),(82,B (c && (bZ.2 == 0)))],[(19,(51,[I cZ.aw.aq,I cZ.aw.ax,I cZ.aw.aE,Sl mo cZ.aw.Rows mi,Sl nY cZ.ak nS]))]⟩) T [14,15,16] [19] [5,8,9,10,12,14,15,16,17,18,82] hS kr kr kr kr hH (listed':=#[true,true,true,true,true,true,true,true,true,true,true,true,true,true,true,true,true,false,false,false,false,false,false,false,false,false,false,false,false,false,false,false,false,false,false,false,false,false,false,false,false,false,false,false,false,false,false,false,false,false,false,false,false,false,false,false,false,false,false,false,false,false,false,false,false,false,false,false,false,false,false,false,false,false,false,false,false,false,false]) (fuel:=62) kr kr (by rfl) ?_
 intro a hS
 refine tke T [17] [19] hS hH #[true,true,true,true,true,true,true,true,true,true,true,true,true,true,true,true,true,true,false,false,false,false,false,false,false,false,false,false,false,false,false,false,false,false,false,false,false,false,false,false,false,false,false,false,false,false,false,false,false,false,false,false,false,false,false,false,false,false,false,false,false,false,false,false,false,false,false,false,false,false,false,false,false,false,false,false,false,false,false] 61 [82] [(83,B ((((dp.1 && (dp.2 == 0)) && (!bO.1)) && (bO.2 == 0)) && (bZ.2 == 0)))] fun a hS=>?_
 rcases bft ((((dp.1 && (dp.2 == 0)) && (!bO.1)) && (bO.2 == 0)) && (bZ.2 == 0)) with hb | hb
 ·replace hS:=hS.lit (t:=83) kr hb
  replace hm:=hm.1 hb
  refine tke T [19] [19] hS hH #[true,true,true,true,true,true,true,true,true,true,true,true,true,true,true,true,true,true,false,true,false,false,false,false,false,false,false,false,false,false,false,false,false,false,false,false,false,false,false,false,false,false,false,false,false,false,false,false,false,false,false,false,false,false,false,false,false,false,false,false,false,false,false,false,false,false,false,false,false,false,false,false,false,false,false,false,false,false,false] 60 [] [(85,Sl gc bZ.1 f9)] fun a hS=>?_
  refine only 18 kr (by rfl) (call hS kr kr hb22 kr (fun _ _=>rfl) (z4 _ _ 0 0) ?_)
  intro v247 a Gw Lu hE hp hS
  replace hO:=hO.m2 hE
  replace hD:=hD.ev hE rfl
  replace h145:=h145.m1 hE
  replace h221:=h221.m1 hE
  replace h224:=h224.m1 hE
  replace h241:=h241.m1 hE
  replace h244:=h244.m1 hE
  obtain ⟨Ik,H5,Ij,H4,hp,h253,h256⟩:=hp
  obtain ⟨pQ,hr⟩:∃ r,cr 0=r:=⟨_,rfl⟩
  replace hm:=hm pQ hr
  rw [hr] at hp h253 h256
  clear hr
  subst hp
  replace h256:=h256.rs0
  replace hm:=hm (h253.sm kr)
  replace hm:=hm (h256.sm kr)
  replace hS:=hS.sle [] [(84,V (.agg #[.slice Ik pQ.ae.length H5,.slice Ij pQ.ak.length H4]))]
  refine cV (bI.of hS (bks:=[19]) kr hD) ?_
  intro hH
  obtain ⟨hq,hm⟩:=hm
  refine only 20 kr (by rfl) (call hS kr kr hb12 kr (fun _ _=>rfl) (Gk _ _ pQ bZ.1 Ik H5 Ij H4 gc f9 hq h253 h256 h145) ?_)
  intro v257 a I6 Lt hE hp hS
  replace hO:=hO.m2 hE
  replace hD:=hD.ev hE rfl
  replace h145:=h145.m1 hE
  replace h221:=h221.m1 hE
  replace h224:=h224.m1 hE
  replace h241:=h241.m1 hE
  replace h244:=h244.m1 hE
  replace h253:=h253.m1 hE
  replace h256:=h256.m1 hE
  obtain ⟨gO,hr⟩:∃ r,ec pQ bZ.1=r:=⟨_,rfl⟩
  replace hm:=hm gO hr
  rw [hr] at hp
  clear hr
  subst hp
  replace hS:=hS.sle [] [(86,B gO)]
  refine cV (bI.of hS (bks:=[19]) kr hD) ?_
  intro hH
  refine tke T [21,22] [19] hS hH #[true,true,true,true,true,true,true,true,true,true,true,true,true,true,true,true,true,true,true,true,true,true,true,false,false,false,false,false,false,false,false,false,false,false,false,false,false,false,false,false,false,false,false,false,false,false,false,false,false,false,false,false,false,false,false,false,false,false,false,false,false,false,false,false,false,false,false,false,false,false,false,false,false,false,false,false,false,false,false] 56 [83,85,84,86] [(88,B gO)] fun a hS=>?_
  refine js (tc:=88) (b:=gO) (f:=fun c=>⟨[(8,I ic.2),(9,I d8.1),(10,I d8.2),(12,I iS.2),(14,I fE.1),(15,I fE.2),(16,Sl oD fQ.1 oz),(17,Sl mq fQ.2 mj),(18,Pt 19 0),(92,B (c && ((lN bZ.1) == 2)))],[(19,(51,[I cZ.aw.aq,I cZ.aw.ax,I cZ.aw.aE,Sl mo cZ.aw.Rows mi,Sl nY cZ.ak nS]))]⟩) T [23,24,25,26] [19] [8,9,10,12,14,15,16,17,18,92] hS kr kr kr kr hH (listed':=#[true,true,true,true,true,true,true,true,true,true,true,true,true,true,true,true,true,true,true,true,true,true,true,true,true,true,true,false,false,false,false,false,false,false,false,false,false,false,false,false,false,false,false,false,false,false,false,false,false,false,false,false,false,false,false,false,false,false,false,false,false,false,false,false,false,false,false,false,false,false,false,false,false,false,false,false,false,false,false]) (fuel:=52) kr kr (by rfl) ?_
  intro a hS
  refine tke T [27] [19] hS hH #[true,true,true,true,true,true,true,true,true,true,true,true,true,true,true,true,true,true,true,true,true,true,true,true,true,true,true,true,false,false,false,false,false,false,false,false,false,false,false,false,false,false,false,false,false,false,false,false,false,false,false,false,false,false,false,false,false,false,false,false,false,false,false,false,false,false,false,false,false,false,false,false,false,false,false,false,false,false,false] 51 [92] [(93,B (gO && ((lN bZ.1) == 2)))] fun a hS=>?_
  refine js (tc:=93) (b:=(gO && ((lN bZ.1) == 2))) (f:=fun c=>⟨[(9,I d8.1),(10,I d8.2),(12,I iS.2),(14,I fE.1),(15,I fE.2),(16,Sl oD fQ.1 oz),(17,Sl mq fQ.2 mj),(18,Pt 19 0),(96,B (c && (ic.2 == 41)))],[(19,(51,[I cZ.aw.aq,I cZ.aw.ax,I cZ.aw.aE,Sl mo cZ.aw.Rows mi,Sl nY cZ.ak nS]))]⟩) T [28,29,30] [19] [9,10,12,14,15,16,17,18,96] hS kr kr kr kr hH (listed':=#[true,true,true,true,true,true,true,true,true,true,true,true,true,true,true,true,true,true,true,true,true,true,true,true,true,true,true,true,true,true,true,false,false,false,false,false,false,false,false,false,false,false,false,false,false,false,false,false,false,false,false,false,false,false,false,false,false,false,false,false,false,false,false,false,false,false,false,false,false,false,false,false,false,false,false,false,false,false,false]) (fuel:=48) kr kr (by rfl) ?_
  intro a hS
  refine tke T [31] [19] hS hH #[true,true,true,true,true,true,true,true,true,true,true,true,true,true,true,true,true,true,true,true,true,true,true,true,true,true,true,true,true,true,true,true,false,false,false,false,false,false,false,false,false,false,false,false,false,false,false,false,false,false,false,false,false,false,false,false,false,false,false,false,false,false,false,false,false,false,false,false,false,false,false,false,false,false,false,false,false,false,false] 47 [96] [(97,B ((gO && ((lN bZ.1) == 2)) && (ic.2 == 41)))] fun a hS=>?_
  refine js (tc:=97) (b:=((gO && ((lN bZ.1) == 2)) && (ic.2 == 41))) (f:=fun c=>⟨[(10,I d8.2),(12,I iS.2),(14,I fE.1),(15,I fE.2),(16,Sl oD fQ.1 oz),(17,Sl mq fQ.2 mj),(18,Pt 19 0),(100,B (c && (d8.1 == 4)))],[(19,(51,[I cZ.aw.aq,I cZ.aw.ax,I cZ.aw.aE,Sl mo cZ.aw.Rows mi,Sl nY cZ.ak nS]))]⟩) T [32,33,34] [19] [10,12,14,15,16,17,18,100] hS kr kr kr kr hH (listed':=#[true,true,true,true,true,true,true,true,true,true,true,true,true,true,true,true,true,true,true,true,true,true,true,true,true,true,true,true,true,true,true,true,true,true,true,false,false,false,false,false,false,false,false,false,false,false,false,false,false,false,false,false,false,false,false,false,false,false,false,false,false,false,false,false,false,false,false,false,false,false,false,false,false,false,false,false,false,false,false]) (fuel:=44) kr kr (by rfl) ?_
  intro a hS
  refine tke T [35] [19] hS hH #[true,true,true,true,true,true,true,true,true,true,true,true,true,true,true,true,true,true,true,true,true,true,true,true,true,true,true,true,true,true,true,true,true,true,true,true,false,false,false,false,false,false,false,false,false,false,false,false,false,false,false,false,false,false,false,false,false,false,false,false,false,false,false,false,false,false,false,false,false,false,false,false,false,false,false,false,false,false,false] 43 [100] [(101,B (((gO && ((lN bZ.1) == 2)) && (ic.2 == 41)) && (d8.1 == 4)))] fun a hS=>?_
  refine js (tc:=101) (b:=(((gO && ((lN bZ.1) == 2)) && (ic.2 == 41)) && (d8.1 == 4))) (f:=fun c=>⟨[(12,I iS.2),(14,I fE.1),(15,I fE.2),(16,Sl oD fQ.1 oz),(17,Sl mq fQ.2 mj),(18,Pt 19 0),(104,B (c && (d8.2 == 0)))],[(19,(51,[I cZ.aw.aq,I cZ.aw.ax,I cZ.aw.aE,Sl mo cZ.aw.Rows mi,Sl nY cZ.ak nS]))]⟩) T [36,37,38] [19] [12,14,15,16,17,18,104] hS kr kr kr kr hH (listed':=#[true,true,true,true,true,true,true,true,true,true,true,true,true,true,true,true,true,true,true,true,true,true,true,true,true,true,true,true,true,true,true,true,true,true,true,true,true,true,true,false,false,false,false,false,false,false,false,false,false,false,false,false,false,false,false,false,false,false,false,false,false,false,false,false,false,false,false,false,false,false,false,false,false,false,false,false,false,false,false]) (fuel:=40) kr kr (by rfl) ?_
  intro a hS
  refine tke T [39] [19] hS hH #[true,true,true,true,true,true,true,true,true,true,true,true,true,true,true,true,true,true,true,true,true,true,true,true,true,true,true,true,true,true,true,true,true,true,true,true,true,true,true,true,false,false,false,false,false,false,false,false,false,false,false,false,false,false,false,false,false,false,false,false,false,false,false,false,false,false,false,false,false,false,false,false,false,false,false,false,false,false,false] 39 [104] [(105,B ((((gO && ((lN bZ.1) == 2)) && (ic.2 == 41)) && (d8.1 == 4)) && (d8.2 == 0)))] fun a hS=>?_
  refine js (tc:=105) (b:=((((gO && ((lN bZ.1) == 2)) && (ic.2 == 41)) && (d8.1 == 4)) && (d8.2 == 0))) (f:=fun c=>⟨[(14,I fE.1),(15,I fE.2),(16,Sl oD fQ.1 oz),(17,Sl mq fQ.2 mj),(18,Pt 19 0),(108,B (c && (iS.2 == 2)))],[(19,(51,[I cZ.aw.aq,I cZ.aw.ax,I cZ.aw.aE,Sl mo cZ.aw.Rows mi,Sl nY cZ.ak nS]))]⟩) T [40,41,42] [19] [14,15,16,17,18,108] hS kr kr kr kr hH (listed':=#[true,true,true,true,true,true,true,true,true,true,true,true,true,true,true,true,true,true,true,true,true,true,true,true,true,true,true,true,true,true,true,true,true,true,true,true,true,true,true,true,true,true,true,false,false,false,false,false,false,false,false,false,false,false,false,false,false,false,false,false,false,false,false,false,false,false,false,false,false,false,false,false,false,false,false,false,false,false,false]) (fuel:=36) kr kr (by rfl) ?_
  intro a hS
  refine tke T [43] [19] hS hH #[true,true,true,true,true,true,true,true,true,true,true,true,true,true,true,true,true,true,true,true,true,true,true,true,true,true,true,true,true,true,true,true,true,true,true,true,true,true,true,true,true,true,true,true,false,false,false,false,false,false,false,false,false,false,false,false,false,false,false,false,false,false,false,false,false,false,false,false,false,false,false,false,false,false,false,false,false,false,false] 35 [108] [(109,B (((((gO && ((lN bZ.1) == 2)) && (ic.2 == 41)) && (d8.1 == 4)) && (d8.2 == 0)) && (iS.2 == 2)))] fun a hS=>?_
  refine js (tc:=109) (b:=(((((gO && ((lN bZ.1) == 2)) && (ic.2 == 41)) && (d8.1 == 4)) && (d8.2 == 0)) && (iS.2 == 2))) (f:=fun c=>⟨[(15,I fE.2),(16,Sl oD fQ.1 oz),(17,Sl mq fQ.2 mj),(18,Pt 19 0),(112,B (c && (fE.1 == 3)))],[(19,(51,[I cZ.aw.aq,I cZ.aw.ax,I cZ.aw.aE,Sl mo cZ.aw.Rows mi,Sl nY cZ.ak nS]))]⟩) T [44,45,46] [19] [15,16,17,18,112] hS kr kr kr kr hH (listed':=#[true,true,true,true,true,true,true,true,true,true,true,true,true,true,true,true,true,true,true,true,true,true,true,true,true,true,true,true,true,true,true,true,true,true,true,true,true,true,true,true,true,true,true,true,true,true,true,false,false,false,false,false,false,false,false,false,false,false,false,false,false,false,false,false,false,false,false,false,false,false,false,false,false,false,false,false,false,false,false]) (fuel:=32) kr kr (by rfl) ?_
  intro a hS
  refine tke T [47] [19] hS hH #[true,true,true,true,true,true,true,true,true,true,true,true,true,true,true,true,true,true,true,true,true,true,true,true,true,true,true,true,true,true,true,true,true,true,true,true,true,true,true,true,true,true,true,true,true,true,true,true,false,false,false,false,false,false,false,false,false,false,false,false,false,false,false,false,false,false,false,false,false,false,false,false,false,false,false,false,false,false,false] 31 [112] [(113,B ((((((gO && ((lN bZ.1) == 2)) && (ic.2 == 41)) && (d8.1 == 4)) && (d8.2 == 0)) && (iS.2 == 2)) && (fE.1 == 3)))] fun a hS=>?_
  refine js (tc:=113) (b:=((((((gO && ((lN bZ.1) == 2)) && (ic.2 == 41)) && (d8.1 == 4)) && (d8.2 == 0)) && (iS.2 == 2)) && (fE.1 == 3))) (f:=fun c=>⟨[(16,Sl oD fQ.1 oz),(17,Sl mq fQ.2 mj),(18,Pt 19 0),(116,B (c && (fE.2 == 32)))],[(19,(51,[I cZ.aw.aq,I cZ.aw.ax,I cZ.aw.aE,Sl mo cZ.aw.Rows mi,Sl nY cZ.ak nS]))]⟩) T [48,49,50] [19] [16,17,18,116] hS kr kr kr kr hH (listed':=#[true,true,true,true,true,true,true,true,true,true,true,true,true,true,true,true,true,true,true,true,true,true,true,true,true,true,true,true,true,true,true,true,true,true,true,true,true,true,true,true,true,true,true,true,true,true,true,true,true,true,true,false,false,false,false,false,false,false,false,false,false,false,false,false,false,false,false,false,false,false,false,false,false,false,false,false,false,false,false]) (fuel:=28) kr kr (by rfl) ?_
  intro a hS
  refine tke T [51] [19] hS hH #[true,true,true,true,true,true,true,true,true,true,true,true,true,true,true,true,true,true,true,true,true,true,true,true,true,true,true,true,true,true,true,true,true,true,true,true,true,true,true,true,true,true,true,true,true,true,true,true,true,true,true,true,false,false,false,false,false,false,false,false,false,false,false,false,false,false,false,false,false,false,false,false,false,false,false,false,false,false,false] 27 [116] [(117,B (((((((gO && ((lN bZ.1) == 2)) && (ic.2 == 41)) && (d8.1 == 4)) && (d8.2 == 0)) && (iS.2 == 2)) && (fE.1 == 3)) && (fE.2 == 32)))] fun a hS=>?_
  refine js (tc:=117) (b:=(((((((gO && ((lN bZ.1) == 2)) && (ic.2 == 41)) && (d8.1 == 4)) && (d8.2 == 0)) && (iS.2 == 2)) && (fE.1 == 3)) && (fE.2 == 32))) (f:=fun c=>⟨[(17,Sl mq fQ.2 mj),(18,Pt 19 0),(121,B (c && ((lN fQ.1) == 2)))],[(19,(51,[I cZ.aw.aq,I cZ.aw.ax,I cZ.aw.aE,Sl mo cZ.aw.Rows mi,Sl nY cZ.ak nS]))]⟩) T [52,53,54,55] [19] [17,18,121] hS kr kr kr kr hH (listed':=#[true,true,true,true,true,true,true,true,true,true,true,true,true,true,true,true,true,true,true,true,true,true,true,true,true,true,true,true,true,true,true,true,true,true,true,true,true,true,true,true,true,true,true,true,true,true,true,true,true,true,true,true,true,true,true,true,false,false,false,false,false,false,false,false,false,false,false,false,false,false,false,false,false,false,false,false,false,false,false]) (fuel:=23) kr kr (by rfl) ?_
  intro a hS
  refine tke T [56] [19] hS hH #[true,true,true,true,true,true,true,true,true,true,true,true,true,true,true,true,true,true,true,true,true,true,true,true,true,true,true,true,true,true,true,true,true,true,true,true,true,true,true,true,true,true,true,true,true,true,true,true,true,true,true,true,true,true,true,true,true,false,false,false,false,false,false,false,false,false,false,false,false,false,false,false,false,false,false,false,false,false,false] 22 [121] [(122,B ((((((((gO && ((lN bZ.1) == 2)) && (ic.2 == 41)) && (d8.1 == 4)) && (d8.2 == 0)) && (iS.2 == 2)) && (fE.1 == 3)) && (fE.2 == 32)) && ((lN fQ.1) == 2)))] fun a hS=>?_
  rcases bft ((((((((gO && ((lN bZ.1) == 2)) && (ic.2 == 41)) && (d8.1 == 4)) && (d8.2 == 0)) && (iS.2 == 2)) && (fE.1 == 3)) && (fE.2 == 32)) && ((lN fQ.1) == 2)) with hb | hb
  ·replace hS:=hS.lit (t:=122) kr hb
   replace hm:=hm.1 hb
   refine tke T [57] [19] hS hH #[true,true,true,true,true,true,true,true,true,true,true,true,true,true,true,true,true,true,true,true,true,true,true,true,true,true,true,true,true,true,true,true,true,true,true,true,true,true,true,true,true,true,true,true,true,true,true,true,true,true,true,true,true,true,true,true,true,true,false,false,false,false,false,false,false,false,false,false,false,false,false,false,false,false,false,false,false,false,false] 21 [17] [(123,Sl mq fQ.2 mj)] fun a hS=>?_
   refine only 58 kr (by rfl) (lit (E:=3) (col:=0) (T:=tI) (vals:=[.int .i64 0,.int .i64 1]) (ys:=[0,1]) T hS kr kr kr kr (by exact ⟨rfl,rfl,trivial⟩) rfl kr kr kr kr ?_)
   intro b261 a Nb Ps hE h264 hN hS
   clear hN
   replace hO:=hO.m2 hE
   replace hD:=hD.ev hE rfl
   replace h145:=h145.m1 hE
   replace h221:=h221.m1 hE
   replace h224:=h224.m1 hE
   replace h241:=h241.m1 hE
   replace h244:=h244.m1 hE
   replace h253:=h253.m1 hE
   replace h256:=h256.m1 hE
   replace h264:=h264.rs0
   refine cV (bI.of hS (bks:=[19]) kr hD) ?_
   intro hH
   refine only 59 kr (by rfl) (call hS kr kr hb25 kr (fun _ _=>rfl) (Kp _ _ fQ.2 [0,1] mq mj (some ⟨b261,0,none⟩) 2 h224 h264) ?_)
   intro v265 a M9 Pq hE hp hS
   replace hO:=hO.m2 hE
   replace hD:=hD.ev hE rfl
   replace h145:=h145.m1 hE
   replace h221:=h221.m1 hE
   replace h224:=h224.m1 hE
   replace h241:=h241.m1 hE
   replace h244:=h244.m1 hE
   replace h253:=h253.m1 hE
   replace h256:=h256.m1 hE
   replace h264:=h264.m1 hE
   obtain ⟨q6,hr⟩:∃ r,eK fQ.2 [0,1]=r:=⟨_,rfl⟩
   replace hm:=hm q6 hr
   rw [hr] at hp
   clear hr
   subst hp
   replace hS:=hS.sle [] [(125,B q6)]
   refine cV (bI.of hS (bks:=[19]) kr hD) ?_
   intro hH
   refine tke T [60,61] [19] hS hH #[true,true,true,true,true,true,true,true,true,true,true,true,true,true,true,true,true,true,true,true,true,true,true,true,true,true,true,true,true,true,true,true,true,true,true,true,true,true,true,true,true,true,true,true,true,true,true,true,true,true,true,true,true,true,true,true,true,true,true,true,true,true,false,false,false,false,false,false,false,false,false,false,false,false,false,false,false,false,false] 17 [122,123,124,125] [(127,B q6)] fun a hS=>?_
   refine js (tc:=127) (b:=q6) (f:=fun c=>⟨[(18,Pt 19 0),(132,B (c && ((lN cZ.ak) == 2)))],[(19,(51,[I cZ.aw.aq,I cZ.aw.ax,I cZ.aw.aE,Sl mo cZ.aw.Rows mi,Sl nY cZ.ak nS]))]⟩) T [62,63,64,65,66] [19] [18,132] hS kr kr kr kr hH (listed':=#[true,true,true,true,true,true,true,true,true,true,true,true,true,true,true,true,true,true,true,true,true,true,true,true,true,true,true,true,true,true,true,true,true,true,true,true,true,true,true,true,true,true,true,true,true,true,true,true,true,true,true,true,true,true,true,true,true,true,true,true,true,true,true,true,true,true,true,false,false,false,false,false,false,false,false,false,false,false,false]) (fuel:=12) kr kr (by rfl) ?_
   intro a hS
   refine tke T [67] [19] hS hH #[true,true,true,true,true,true,true,true,true,true,true,true,true,true,true,true,true,true,true,true,true,true,true,true,true,true,true,true,true,true,true,true,true,true,true,true,true,true,true,true,true,true,true,true,true,true,true,true,true,true,true,true,true,true,true,true,true,true,true,true,true,true,true,true,true,true,true,true,false,false,false,false,false,false,false,false,false,false,false] 11 [132] [(133,B (q6 && ((lN cZ.ak) == 2)))] fun a hS=>?_
   rcases bft (q6 && ((lN cZ.ak) == 2)) with hb | hb
   ·replace hS:=hS.lit (t:=133) kr hb
    replace hm:=hm.1 hb
    refine tke T [68,69] [19] hS hH #[true,true,true,true,true,true,true,true,true,true,true,true,true,true,true,true,true,true,true,true,true,true,true,true,true,true,true,true,true,true,true,true,true,true,true,true,true,true,true,true,true,true,true,true,true,true,true,true,true,true,true,true,true,true,true,true,true,true,true,true,true,true,true,true,true,true,true,true,true,true,false,false,false,false,false,false,false,false,false] 9 [18] [(135,V (.agg #[.int .i64 cZ.aw.aq,.int .i64 cZ.aw.ax,.int .i64 cZ.aw.aE,.slice mo cZ.aw.Rows.length mi]))] fun a hS=>?_
    refine only 70 kr (by rfl) (call hS kr kr hb27 kr (fun _ _=>rfl) (DL _ _) ?_)
    intro v269 a M7 Po hE hp hS
    replace hO:=hO.m2 hE
    replace hD:=hD.ev hE rfl
    replace h145:=h145.m1 hE
    replace h221:=h221.m1 hE
    replace h224:=h224.m1 hE
    replace h241:=h241.m1 hE
    replace h244:=h244.m1 hE
    replace h253:=h253.m1 hE
    replace h256:=h256.m1 hE
    replace h264:=h264.m1 hE
    obtain ⟨Ih,H0,hp,h275⟩:=hp
    obtain ⟨pP,hr⟩:∃ r,dm=r:=⟨_,rfl⟩
    replace hm:=hm pP hr
    rw [hr] at hp h275
    clear hr
    subst hp
    replace hm:=hm (h275.sm kr)
    replace hS:=hS.sle [] [(136,V (.agg #[.int .i64 pP.aq,.int .i64 pP.ax,.int .i64 pP.aE,.slice Ih pP.Rows.length H0]))]
    refine cV (bI.of hS (bks:=[19]) kr hD) ?_
    intro hH
    refine only 71 kr (by rfl) (call hS kr kr hb26 kr (fun _ _=>rfl) (Ko _ _ cZ.aw pP mo mi Ih H0 h241 h275) ?_)
    intro v276 a M4 Pl hE hp hS
    replace hO:=hO.m2 hE
    replace hD:=hD.ev hE rfl
    replace h145:=h145.m1 hE
    replace h221:=h221.m1 hE
    replace h224:=h224.m1 hE
    replace h241:=h241.m1 hE
    replace h244:=h244.m1 hE
    replace h253:=h253.m1 hE
    replace h256:=h256.m1 hE
    replace h264:=h264.m1 hE
    replace h275:=h275.m1 hE
    obtain ⟨t6,hr⟩:∃ r,iH cZ.aw pP=r:=⟨_,rfl⟩
    replace hm:=hm t6 hr
    rw [hr] at hp
    clear hr
    subst hp
    replace hS:=hS.sle [] [(137,B t6)]
    refine cV (bI.of hS (bks:=[19]) kr hD) ?_
    intro hH
    refine tke T [72,73] [19] hS hH #[true,true,true,true,true,true,true,true,true,true,true,true,true,true,true,true,true,true,true,true,true,true,true,true,true,true,true,true,true,true,true,true,true,true,true,true,true,true,true,true,true,true,true,true,true,true,true,true,true,true,true,true,true,true,true,true,true,true,true,true,true,true,true,true,true,true,true,true,true,true,true,true,true,true,false,false,false,false,false] 5 [133,135,136,137] [(139,B t6)] fun a hS=>?_
    rcases bft t6 with hb | hb
    ·replace hS:=hS.lit (t:=139) kr hb
     replace hm:=hm.1 hb
     refine only 74 kr (by rfl) (call hS kr kr hb22 kr (fun _ _=>rfl) (z4 _ _ 0 0) ?_)
     intro v280 a M2 Ls hE hp hS
     replace hO:=hO.m2 hE
     replace hD:=hD.ev hE rfl
     replace h145:=h145.m1 hE
     replace h221:=h221.m1 hE
     replace h224:=h224.m1 hE
     replace h241:=h241.m1 hE
     replace h244:=h244.m1 hE
     replace h253:=h253.m1 hE
     replace h256:=h256.m1 hE
     replace h264:=h264.m1 hE
     replace h275:=h275.m1 hE
     obtain ⟨Ig,HZ,Id,HY,hp,h286,h289⟩:=hp
     obtain ⟨pO,hr⟩:∃ r,cr 0=r:=⟨_,rfl⟩
     replace hm:=hm pO hr
     rw [hr] at hp h286 h289
     clear hr
     subst hp
     replace h289:=h289.rs0
     replace hm:=hm (h286.sm kr)
     replace hm:=hm (h289.sm kr)
     replace hS:=hS.sle [] [(140,V (.agg #[.slice Ig pO.ae.length HZ,.slice Id pO.ak.length HY]))]
     refine cV (bI.of hS (bks:=[19]) kr hD) ?_
     intro hH
     obtain ⟨hq,hm⟩:=hm
     refine only 75 kr (by rfl) (call hS kr kr hb12 kr (fun _ _=>rfl) (Gk _ _ pO [] Ig HZ Id HY none 0 hq h286 h289 (RS.empty _ _ _)) ?_)
     intro v290 a MY Pi hE hp hS
     replace hO:=hO.m2 hE
     replace hD:=hD.ev hE rfl
     replace h145:=h145.m1 hE
     replace h221:=h221.m1 hE
     replace h224:=h224.m1 hE
     replace h241:=h241.m1 hE
     replace h244:=h244.m1 hE
     replace h253:=h253.m1 hE
     replace h256:=h256.m1 hE
     replace h264:=h264.m1 hE
     replace h275:=h275.m1 hE
     replace h286:=h286.m1 hE
     replace h289:=h289.m1 hE
     obtain ⟨sE,hr⟩:∃ r,ec pO []=r:=⟨_,rfl⟩
     replace hm:=hm sE hr
     rw [hr] at hp
     clear hr
     subst hp
     replace hS:=hS.sle [] [(141,B sE)]
     refine cV (bI.of hS (bks:=[19]) kr hD) ?_
     intro hH
     refine tke T [76,77,78] [19] hS hH (tts 79) 0 [139,140,141] [(0,B (!sE))] fun a hS=>?_
     refine aV kr ?_
     replace hS:=hS.sl ⟨[(0,B (!sE))],[]⟩
     refine aZ ?_
     exact fin T hS hO (fun c=>c) rfl (r:=[.bool (!sE)]) kr (fun X' hM hC=>⟨(!sE),hm,rfl⟩)
    replace hS:=hS.lit (t:=139) kr hb
    replace hm:=hm.2 hb
    refine tke T [74,75,76,77,78] [19] hS hH (tts 79) 0 [139] [(0,B false)] fun a hS=>?_
    refine aV kr ?_
    replace hS:=hS.sl ⟨[(0,B false)],[]⟩
    refine aZ ?_
    exact fin T hS hO (fun c=>c) rfl (r:=[.bool false]) kr (fun X' hM hC=>⟨false,hm,rfl⟩)
   replace hS:=hS.lit (t:=133) kr hb
   replace hm:=hm.2 hb
   refine tke T [68,70,69,71,72,73,74,75,76,77,78] [19] hS hH (tts 79) 0 [18,133] [(0,B false)] fun a hS=>?_
   refine aV kr ?_
   replace hS:=hS.sl ⟨[(0,B false)],[]⟩
   refine aZ ?_
   exact fin T hS hO (fun c=>c) rfl (r:=[.bool false]) kr (fun X' hM hC=>⟨false,hm,rfl⟩)
  replace hS:=hS.lit (t:=122) kr hb
  replace hm:=hm.2 hb
  refine tke T [57,58,59,60,61,62,63,64,65,66,67,68,70,69,71,72,73,74,75,76,77,78] [19] hS hH (tts 79) 0 [17,18,122] [(0,B false)] fun a hS=>?_
  refine aV kr ?_
  replace hS:=hS.sl ⟨[(0,B false)],[]⟩
  refine aZ ?_
  exact fin T hS hO (fun c=>c) rfl (r:=[.bool false]) kr (fun X' hM hC=>⟨false,hm,rfl⟩)
 replace hS:=hS.lit (t:=83) kr hb
 replace hm:=hm.2 hb
 refine tke T [18,19,20,21,22,23,24,25,26,27,28,29,30,31,32,33,34,35,36,37,38,39,40,41,42,43,44,45,46,47,48,49,50,51,52,53,54,55,56,57,58,59,60,61,62,63,64,65,66,67,68,70,69,71,72,73,74,75,76,77,78] [19] hS hH (tts 79) 0 [5,8,9,10,12,14,15,16,17,18,83] [(0,B false)] fun a hS=>?_
 refine aV kr ?_
 replace hS:=hS.sl ⟨[(0,B false)],[]⟩
 refine aZ ?_
 exact fin T hS hO (fun c=>c) rfl (r:=[.bool false]) kr (fun X' hM hC=>⟨false,hm,rfl⟩)
theorem C8 (Gk:S12) (Cb:S15) (G7:S17) (z4:S22) (q8:S23) (A1:S24) (Kp:S25) (Ko:S26) (DL:S27) (k9:S9) (v:∀ (_:Unit),VC8 (fun r=>r=fu)):S8:=by
 intro w X     
 refine (W8 Gk Cb G7 z4 q8 A1 Kp Ko DL k9 w X     _ (v ())).mono ?_
 rintro _ _ _ _ ⟨r,rfl,h⟩
 exact h
end Go.Proofs.YteahldlmkheleaaGreat
