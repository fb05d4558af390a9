/- Walks. -/
import Derived.Test.YteahldlmkheleaaGreatLWalksS
set_option linter.all false
namespace Go.Proofs.YteahldlmkheleaaGreat
open Go Go.Sv
set_option maxHeartbeats 1000000
theorem W8 (HF:S12) (Fb:S15) (L7:S17) (AU:S22) (rD:S23) (B3:S24) (L4:S25) (L3:S26) (Fa:S27) (k9:S9) (w0) (X0) (Q:Bool->Prop) (hm:VC8 Q) :
  Ret Tryz.prog 8 #[] aJ w0 X0 (fun w X' v=>∃ r,Q r/\v=.bool r):=by
 unfold VC8 at hm
 refine enter Tryz.func8 rfl (vals:=[]) kr ?_
 intro Z a hS hO hM
 refine rPe T hS [] [] fun a hS=>?_
 refine bj ?_
 refine op1 (call hS kr kr hb22 kr (fun _ _=>rfl) (AU _ _ 0 0) ?_)
 intro v101 a eZ fa hE hp hS
 replace hO:=hO.m2 hE
 obtain ⟨dK,dJ,iK,iJ,hp,h107,h110⟩:=hp
 obtain ⟨ap,hr⟩:∃ r,cz 0=r:=⟨_,rfl⟩
 replace hm:=hm ap hr
 rw [hr] at hp h107 h110
 clear hr
 subst hp
 replace h110:=h110.rs0
 replace hm:=hm (h107.sm kr)
 replace hm:=hm (h110.sm kr)
 obtain ⟨hq,hm⟩:=hm
 refine op1 (call hS kr kr hb9 kr (fun _ _=>rfl) (k9 _ _ ap dK dJ iK iJ hq h107 h110) ?_)
 intro v111 a Bc uf hE hp hS
 replace hO:=hO.m2 hE
 replace h107:=h107.m1 hE
 replace h110:=h110.m1 hE
 obtain ⟨dy,hr⟩:∃ r,dx ap=r:=⟨_,rfl⟩
 replace hm:=hm dy hr
 rw [hr] at hp
 clear hr
 subst hp
 refine ePe T hS [20,21] [(1,B dy.1),(2,I dy.2)] fun a hS=>?_
 refine bj ?_
 refine op1 (call hS kr kr hb22 kr (fun _ _=>rfl) (AU _ _ 1 0) ?_)
 intro v115 a wt AM hE hp hS
 replace hO:=hO.m2 hE
 obtain ⟨lT,lS,jJ,jG,hp,h121,h124⟩:=hp
 obtain ⟨ip,hr⟩:∃ r,cz 1=r:=⟨_,rfl⟩
 replace hm:=hm ip hr
 rw [hr] at hp h121 h124
 clear hr
 subst hp
 replace h124:=h124.rs0
 replace hm:=hm (h121.sm kr)
 replace hm:=hm (h124.sm kr)
 obtain ⟨hq,hm⟩:=hm
 refine op1 (call hS kr kr hb9 kr (fun _ _=>rfl) (k9 _ _ ip lT lS jJ jG hq h121 h124) ?_)
 intro v125 a rx oZ hE hp hS
 replace hO:=hO.m2 hE
 replace h121:=h121.m1 hE
 replace h124:=h124.m1 hE
 obtain ⟨bI,hr⟩:∃ r,dx ip=r:=⟨_,rfl⟩
 replace hm:=hm bI hr
 rw [hr] at hp
 clear hr
 subst hp
 refine ePe T hS [25,26] [(3,B bI.1),(4,I bI.2)] fun a hS=>?_
 refine bj ?_
 refine op1 (call hS kr kr hb22 kr (fun _ _=>rfl) (AU _ _ 0 0) ?_)
 intro v129 a ws EW hE hp hS
 replace hO:=hO.m2 hE
 obtain ⟨rG,rF,mb,ma,hp,h135,h138⟩:=hp
 obtain ⟨iT,hr⟩:∃ r,cz 0=r:=⟨_,rfl⟩
 replace hm:=hm iT hr
 rw [hr] at hp h135 h138
 clear hr
 subst hp
 replace h138:=h138.rs0
 replace hm:=hm (h135.sm kr)
 replace hm:=hm (h138.sm kr)
 obtain ⟨hq,hm⟩:=hm
 refine op1 (call hS kr kr hb15 kr (fun _ _=>rfl) (Fb _ _ iT rG rF mb ma hq h135 h138) ?_)
 intro v139 a ul ub hE hp hS
 replace hO:=hO.m2 hE
 replace h135:=h135.m1 hE
 replace h138:=h138.m1 hE
 obtain ⟨kD,kB,hp,h145⟩:=hp
 obtain ⟨bV,hr⟩:∃ r,cI iT=r:=⟨_,rfl⟩
 replace hm:=hm bV hr
 rw [hr] at hp h145
 clear hr
 subst hp
 replace hm:=hm (h145.sm kr)
 refine ePe T hS [30,31] [(5,Sl kD bV.1 kB),(6,I bV.2)] fun a hS=>?_
 refine bj ?_
 refine op1 (call hS kr kr hb22 kr (fun _ _=>rfl) (AU _ _ 1 0) ?_)
 intro v146 a wq AG hE hp hS
 replace hO:=hO.m2 hE
 replace h145:=h145.m1 hE
 obtain ⟨t6,tW,M6,MW,hp,h152,h155⟩:=hp
 obtain ⟨tj,hr⟩:∃ r,cz 1=r:=⟨_,rfl⟩
 replace hm:=hm tj hr
 rw [hr] at hp h152 h155
 clear hr
 subst hp
 replace h155:=h155.rs0
 replace hm:=hm (h152.sm kr)
 replace hm:=hm (h155.sm kr)
 obtain ⟨hq,hm⟩:=hm
 refine op1 (call hS kr kr hb15 kr (fun _ _=>rfl) (Fb _ _ tj t6 tW M6 MW hq h152 h155) ?_)
 intro v156 a sR t8 hE hp hS
 replace hO:=hO.m2 hE
 replace h145:=h145.m1 hE
 replace h152:=h152.m1 hE
 replace h155:=h155.m1 hE
 obtain ⟨t0,tV,hp,h162⟩:=hp
 obtain ⟨ib,hr⟩:∃ r,cI tj=r:=⟨_,rfl⟩
 replace hm:=hm ib hr
 rw [hr] at hp h162
 clear hr
 subst hp
 replace hm:=hm (h162.sm kr)
 refine ePe T hS [35,36] [(8,I ib.2)] fun a hS=>?_
 refine bj ?_
 refine op1 (call hS kr kr hb22 kr (fun _ _=>rfl) (AU _ _ 0 0) ?_)
 intro v163 a F6 J4 hE hp hS
 replace hO:=hO.m2 hE
 replace h145:=h145.m1 hE
 obtain ⟨vZ,vO,pG,pD,hp,h169,h172⟩:=hp
 obtain ⟨ti,hr⟩:∃ r,cz 0=r:=⟨_,rfl⟩
 replace hm:=hm ti hr
 rw [hr] at hp h169 h172
 clear hr
 subst hp
 replace h172:=h172.rs0
 replace hm:=hm (h169.sm kr)
 replace hm:=hm (h172.sm kr)
 obtain ⟨hq,hm⟩:=hm
 refine op1 (call hS kr kr hb23 kr (fun _ _=>rfl) (rD _ _ ti vZ vO pG pD hq h169 h172) ?_)
 intro v173 a F4 J2 hE hp hS
 replace hO:=hO.m2 hE
 replace h145:=h145.m1 hE
 replace h169:=h169.m1 hE
 replace h172:=h172.m1 hE
 obtain ⟨d9,hr⟩:∃ r,aB ti=r:=⟨_,rfl⟩
 replace hm:=hm d9 hr
 rw [hr] at hp
 clear hr
 subst hp
 refine ePe T hS [40,41] [(9,I d9.1),(10,I d9.2)] fun a hS=>?_
 refine bj ?_
 refine oPe T hS 1 [] [(45,V (.agg #[.slice none 0 0,.slice none 0 0]))] fun a hS=>?_
 obtain ⟨hq,hm⟩:=hm
 refine op1 (call hS kr kr hb23 kr (fun _ _=>rfl) (rD _ _ (⟨[],[]⟩:ak) none 0 none 0 hq (RS.empty _ _ _) (RS.empty _ _ _)) ?_)
 intro v177 a A8 Dd hE hp hS
 replace hO:=hO.m2 hE
 replace h145:=h145.m1 hE
 obtain ⟨i6,hr⟩:∃ r,aB (⟨[],[]⟩:ak)=r:=⟨_,rfl⟩
 replace hm:=hm i6 hr
 rw [hr] at hp
 clear hr
 subst hp
 refine ePe T hS [45,46] [(12,I i6.2)] fun a hS=>?_
 refine bj ?_
 refine op1 (call hS kr kr hb22 kr (fun _ _=>rfl) (AU _ _ 0 1050) ?_)
 intro v181 a Pd Re hE hp hS
 replace hO:=hO.m2 hE
 replace h145:=h145.m1 hE
 obtain ⟨AB,Aq,vY,vN,hp,h187,h190⟩:=hp
 obtain ⟨gt,hr⟩:∃ r,cz 0=r:=⟨_,rfl⟩
 replace hm:=hm gt hr
 rw [hr] at hp h187 h190
 clear hr
 subst hp
 replace hm:=hm (h187.sm kr)
 replace hm:=hm (h190.sm kr)
 refine eM T hS ⟨[(1,B dy.1),(2,I dy.2),(3,B bI.1),(4,I bI.2),(5,Sl kD bV.1 kB),(6,I bV.2),(8,I ib.2),(9,I d9.1),(10,I d9.2),(12,I i6.2),(13,Pt 14 0)],[(14,(25,[Sl AB gt.ah Aq,Sl vY gt.al vN]))]⟩ fun Z a OH QK hS hE hr=>?_
 replace hO:=hO.m2 hE
 replace h145:=h145.m1 hE
 replace h187:=h187.m1 hE
 replace h190:=h190.m2 hE
 clear hE hr
 refine bj ?_
 refine oPe T hS 2 [] [(51,Sl vY gt.al vN)] fun a hS=>?_
 obtain ⟨yD,hm⟩:=hm
 refine op1 (nr (E:=63) (k:=.i64) T hS kr kr kr kr h190 kr kr yD.1 yD.2 ?_)
 intro Rz a h193 h192 hS
 have h194:=h193.ad
 clear h193 h192
 refine op1 (tS (off:=0) (fsz:=1) (ft:=3) T hS kr kr kr h194 kr kr ?_)
 intro Rv a h197 hS
 refine op1 (sZ (m:=1) (off:=0) (x:=(⟨1,(gi gt.al 3).aI⟩:aR)) (v:=I 1) (i:=(3:Int).toNat) (E:=63) (xs:=gt.al) T hS kr kr kr kr h190 h197 (by have:=yD.1; have:=yD.2; (try simp only [List.length_set]); omega) kr kr rfl (fun _ _ _ h=>by cases h; rfl) ?_)
 intro a HU hE h199 hS
 clear h190
 replace hO:=hO.m2 hE
 replace h145:=h145.m1 hE
 replace h187:=h187.m1 hE
 have yA:=hS.cell (id:=14) (t:=25) (cs:=[Sl AB gt.ah Aq,Sl vY gt.al vN]) kr
 replace yA:=yA.conv (vals':=[.slice AB gt.ah.length Aq,.slice vY (gt.al.set (3:Int).toNat (⟨1,(gi gt.al 3).aI⟩:aR)).length vN]) (by rw [List.length_set]; rfl)
 replace hS:=hS.cD (id:=14) (t:=25) (cs:=[Sl AB gt.ah Aq,Sl vY (gt.al.set (3:Int).toNat (⟨1,(gi gt.al 3).aI⟩:aR)) vN]) kr yA
 clear yA
 replace hS:=hS.conv (t:=51) (y:=.slice vY (gt.al.set (3:Int).toNat (⟨1,(gi gt.al 3).aI⟩:aR)).length vN) kr (by rw [List.length_set])
 refine gX ?_
 refine bj ?_
 refine oP T hS 1 ⟨[(1,B dy.1),(2,I dy.2),(3,B bI.1),(4,I bI.2),(5,Sl kD bV.1 kB),(6,I bV.2),(8,I ib.2),(9,I d9.1),(10,I d9.2),(12,I i6.2),(55,V (.agg #[.slice AB gt.ah.length Aq,.slice vY (gt.al.set (3:Int).toNat (⟨1,(gi gt.al 3).aI⟩:aR)).length vN]))],[]⟩ fun a hS=>?_
 obtain ⟨hq,hm⟩:=hm
 refine op1 (call hS kr kr hb23 kr (fun _ _=>rfl) (Ret.m8 (rD _ (eD 1050 _) (⟨gt.ah,(gt.al.set (3:Int).toNat (⟨1,(gi gt.al 3).aI⟩:aR))⟩:ak) AB Aq vY vN hq (h187.m0 (M0.eD 1050)) h199.eD)) ?_)
 intro v201 a HT JW hE hp hS
 replace hO:=hO.m2 hE
 replace h145:=h145.m1 hE
 replace h187:=h187.m1 hE
 replace h199:=h199.m2 hE
 obtain ⟨_,hp⟩:=hp
 obtain ⟨fR,hr⟩:∃ r,aB (⟨gt.ah,(gt.al.set (3:Int).toNat (⟨1,(gi gt.al 3).aI⟩:aR))⟩:ak)=r:=⟨_,rfl⟩
 replace hm:=hm fR hr
 rw [hr] at hp
 clear hr
 subst hp
 refine ePe T hS [55,56] [(14,I fR.1),(15,I fR.2)] fun a hS=>?_
 refine bj ?_
 refine op1 (call hS kr kr hb22 kr (fun _ _=>rfl) (AU _ _ 1 0) ?_)
 intro v205 a KP Ni hE hp hS
 replace hO:=hO.m2 hE
 replace h145:=h145.m1 hE
 obtain ⟨M4,MU,AA,Ap,hp,h211,h214⟩:=hp
 obtain ⟨th,hr⟩:∃ r,cz 1=r:=⟨_,rfl⟩
 replace hm:=hm th hr
 rw [hr] at hp h211 h214
 clear hr
 subst hp
 replace h214:=h214.rs0
 replace hm:=hm (h211.sm kr)
 replace hm:=hm (h214.sm kr)
 obtain ⟨hq,hm⟩:=hm
 refine op1 (call hS kr kr hb24 kr (fun _ _=>rfl) (B3 _ _ th M4 MU AA Ap hq h211 h214) ?_)
 intro v215 a KM Nf hE hp hS
 replace hO:=hO.m2 hE
 replace h145:=h145.m1 hE
 replace h211:=h211.m1 hE
 replace h214:=h214.m1 hE
 obtain ⟨mL,mI,kj,ke,hp,h221,h224⟩:=hp
 obtain ⟨f5,hr⟩:∃ r,cV th=r:=⟨_,rfl⟩
 replace hm:=hm f5 hr
 rw [hr] at hp h221 h224
 clear hr
 subst hp
 replace hm:=hm (h221.sm kr)
 replace hm:=hm (h224.sm kr)
 refine ePe T hS [60,61] [(16,Sl mL f5.1 mI),(17,Sl kj f5.2 ke)] fun a hS=>?_
 refine bj ?_
 refine op1 (call hS kr kr hb22 kr (fun _ _=>rfl) (AU _ _ 1 0) ?_)
 intro v225 a O3 Q4 hE hp hS
 replace hO:=hO.m2 hE
 replace h145:=h145.m1 hE
 replace h221:=h221.m1 hE
 replace h224:=h224.m1 hE
 obtain ⟨M3,MT,M2,MS,hp,h231,h234⟩:=hp
 obtain ⟨tg,hr⟩:∃ r,cz 1=r:=⟨_,rfl⟩
 replace hm:=hm tg hr
 rw [hr] at hp h231 h234
 clear hr
 subst hp
 replace h234:=h234.rs0
 replace hm:=hm (h231.sm kr)
 replace hm:=hm (h234.sm kr)
 obtain ⟨hq,hm⟩:=hm
 refine op1 (call hS kr kr hb17 kr (fun _ _=>rfl) (L7 _ _ tg 1 M3 MT M2 MS hq h231 h234) ?_)
 intro v235 a KK Nd hE hp hS
 replace hO:=hO.m2 hE
 replace h145:=h145.m1 hE
 replace h221:=h221.m1 hE
 replace h224:=h224.m1 hE
 replace h231:=h231.m1 hE
 replace h234:=h234.m1 hE
 obtain ⟨kY,kX,ov,og,hp,h241,h244⟩:=hp
 obtain ⟨da,hr⟩:∃ r,eF tg 1=r:=⟨_,rfl⟩
 replace hm:=hm da hr
 rw [hr] at hp h241 h244
 clear hr
 subst hp
 replace hm:=hm (h241.sm kr)
 replace hm:=hm (h244.sm kr)
 refine eM T hS ⟨[(1,B dy.1),(2,I dy.2),(3,B bI.1),(4,I bI.2),(5,Sl kD bV.1 kB),(6,I bV.2),(8,I ib.2),(9,I d9.1),(10,I d9.2),(12,I i6.2),(14,I fR.1),(15,I fR.2),(16,Sl mL f5.1 mI),(17,Sl kj f5.2 ke),(18,Pt 19 0)],[(19,(51,[I da.ax.ar,I da.ax.aw,I da.ax.aC,Sl kY da.ax.Rows kX,Sl ov da.al og]))]⟩ fun Z a OI QL hS hE hr=>?_
 replace hO:=hO.m2 hE
 replace h145:=h145.m1 hE
 replace h221:=h221.m1 hE
 replace h224:=h224.m1 hE
 replace h241:=h241.m1 hE
 replace h244:=h244.m1 hE
 clear hE hr
 refine dv [19] mixed hS ?_
 intro KJ Nc hS hE hD hH
 replace hO:=hO.m2 hE
 replace h145:=h145.m1 hE
 replace h221:=h221.m1 hE
 replace h224:=h224.m1 hE
 replace h241:=h241.m1 hE
 replace h244:=h244.m1 hE
 refine tke T [0,1] [19] hS hH #[true,true,false,false,false,false,false,false,false,false,false,false,false,false,false,false,false,false,false,false,false,false,false,false,false,false,false,false,false,false,false,false,false,false,false,false,false,false,false,false,false,false,false,false,false,false,false,false,false,false,false,false,false,false,false,false,false,false,false,false,false,false,false,false,false,false,false,false,false,false,false,false,false,false,false,false,false,false,false] 77 [1] [(67,B dy.1)] fun a hS=>?_
 refine iL (tc:=67) (b:=dy.1) (f:=fun c=>⟨[(3,B bI.1),(4,I bI.2),(5,Sl kD bV.1 kB),(6,I bV.2),(8,I ib.2),(9,I d9.1),(10,I d9.2),(12,I i6.2),(14,I fR.1),(15,I fR.2),(16,Sl mL f5.1 mI),(17,Sl kj f5.2 ke),(18,Pt 19 0),(70,B (c && (dy.2 == 0)))],[(19,(51,[I da.ax.ar,I da.ax.aw,I da.ax.aC,Sl kY da.ax.Rows kX,Sl ov da.al og]))]⟩) T [2,3,4] [19] [3,4,5,6,8,9,10,12,14,15,16,17,18,70] hS kr kr kr kr hH (listed':=#[true,true,true,true,true,false,false,false,false,false,false,false,false,false,false,false,false,false,false,false,false,false,false,false,false,false,false,false,false,false,false,false,false,false,false,false,false,false,false,false,false,false,false,false,false,false,false,false,false,false,false,false,false,false,false,false,false,false,false,false,false,false,false,false,false,false,false,false,false,false,false,false,false,false,false,false,false,false,false]) (fuel:=74) kr kr (by rfl) ?_
 intro a hS
 refine tke T [5] [19] hS hH #[true,true,true,true,true,true,false,false,false,false,false,false,false,false,false,false,false,false,false,false,false,false,false,false,false,false,false,false,false,false,false,false,false,false,false,false,false,false,false,false,false,false,false,false,false,false,false,false,false,false,false,false,false,false,false,false,false,false,false,false,false,false,false,false,false,false,false,false,false,false,false,false,false,false,false,false,false,false,false] 73 [70] [(71,B (dy.1 && (dy.2 == 0)))] fun a hS=>?_
 refine iL (tc:=71) (b:=(dy.1 && (dy.2 == 0))) (f:=fun c=>⟨[(4,I bI.2),(5,Sl kD bV.1 kB),(6,I bV.2),(8,I ib.2),(9,I d9.1),(10,I d9.2),(12,I i6.2),(14,I fR.1),(15,I fR.2),(16,Sl mL f5.1 mI),(17,Sl kj f5.2 ke),(18,Pt 19 0),(74,B (c && (!bI.1)))],[(19,(51,[I da.ax.ar,I da.ax.aw,I da.ax.aC,Sl kY da.ax.Rows kX,Sl ov da.al og]))]⟩) T [6,7,8] [19] [4,5,6,8,9,10,12,14,15,16,17,18,74] hS kr kr kr kr hH (listed':=#[true,true,true,true,true,true,true,true,true,false,false,false,false,false,false,false,false,false,false,false,false,false,false,false,false,false,false,false,false,false,false,false,false,false,false,false,false,false,false,false,false,false,false,false,false,false,false,false,false,false,false,false,false,false,false,false,false,false,false,false,false,false,false,false,false,false,false,false,false,false,false,false,false,false,false,false,false,false,false]) (fuel:=70) kr kr (by rfl) ?_
 intro a hS
 refine tke T [9] [19] hS hH #[true,true,true,true,true,true,true,true,true,true,false,false,false,false,false,false,false,false,false,false,false,false,false,false,false,false,false,false,false,false,false,false,false,false,false,false,false,false,false,false,false,false,false,false,false,false,false,false,false,false,false,false,false,false,false,false,false,false,false,false,false,false,false,false,false,false,false,false,false,false,false,false,false,false,false,false,false,false,false] 69 [74] [(75,B ((dy.1 && (dy.2 == 0)) && (!bI.1)))] fun a hS=>?_
 refine iL (tc:=75) (b:=((dy.1 && (dy.2 == 0)) && (!bI.1))) (f:=fun c=>⟨[(5,Sl kD bV.1 kB),(6,I bV.2),(8,I ib.2),(9,I d9.1),(10,I d9.2),(12,I i6.2),(14,I fR.1),(15,I fR.2),(16,Sl mL f5.1 mI),(17,Sl kj f5.2 ke),(18,Pt 19 0),(78,B (c && (bI.2 == 0)))],[(19,(51,[I da.ax.ar,I da.ax.aw,I da.ax.aC,Sl kY da.ax.Rows kX,Sl ov da.al og]))]⟩) T [10,11,12] [19] [5,6,8,9,10,12,14,15,16,17,18,78] hS kr kr kr kr hH (listed':=#[true,true,true,true,true,true,true,true,true,true,true,true,true,false,false,false,false,false,false,false,false,false,false,false,false,false,false,false,false,false,false,false,false,false,false,false,false,false,false,false,false,false,false,false,false,false,false,false,false,false,false,false,false,false,false,false,false,false,false,false,false,false,false,false,false,false,false,false,false,false,false,false,false,false,false,false,false,false,false]) (fuel:=66) kr kr (by rfl) ?_
 intro a hS
 refine tke T [13] [19] hS hH #[true,true,true,true,true,true,true,true,true,true,true,true,true,true,false,false,false,false,false,false,false,false,false,false,false,false,false,false,false,false,false,false,false,false,false,false,false,false,false,false,false,false,false,false,false,false,false,false,false,false,false,false,false,false,false,false,false,false,false,false,false,false,false,false,false,false,false,false,false,false,false,false,false,false,false,false,false,false,false] 65 [78] [(79,B (((dy.1 && (dy.2 == 0)) && (!bI.1)) && (bI.2 == 0)))] fun a hS=>?_
 refine iL (tc:=79) (b:=(((dy.1 && (dy.2 == 0)) && (!bI.1)) && (bI.2 == 0))) (f:=fun c=>⟨[(5,Sl kD bV.1 kB),(8,I ib.2),(9,I d9.1),(10,I d9.2),(12,I i6.2),(14,I fR.1),(15,I fR.2),(16,Sl mL f5.1 mI),(17,Sl kj f5.2 ke),(18,Pt 19 0),(82,B (c && (bV.2 == 0)))],[(19,(51,[I da.ax.ar,I da.ax.aw,I da.ax.aC,Sl kY da.ax.Rows kX,Sl ov da.al og]))]⟩) T [14,15,16] [19] [5,8,9,10,12,14,15,16,17,18,82] hS kr kr kr kr hH (listed':=#[true,true,true,true,true,true,true,true,true,true,true,true,true,true,true,true,true,false,false,false,false,false,false,false,false,false,false,false,false,false,false,false,false,false,false,false,false,false,false,false,false,false,false,false,false,false,false,false,false,false,false,false,false,false,false,false,false,false,false,false,false,false,false,false,false,false,false,false,false,false,false,false,false,false,false,false,false,false,false]) (fuel:=62) kr kr (by rfl) ?_
 intro a hS
 refine tke T [17] [19] hS hH #[true,true,true,true,true,true,true,true,true,true,true,true,true,true,true,true,true,true,false,false,false,false,false,false,false,false,false,false,false,false,false,false,false,false,false,false,false,false,false,false,false,false,false,false,false,false,false,false,false,false,false,false,false,false,false,false,false,false,false,false,false,false,false,false,false,false,false,false,false,false,false,false,false,false,false,false,false,false,false] 61 [82] [(83,B ((((dy.1 && (dy.2 == 0)) && (!bI.1)) && (bI.2 == 0)) && (bV.2 == 0)))] fun a hS=>?_
 rcases bft ((((dy.1 && (dy.2 == 0)) && (!bI.1)) && (bI.2 == 0)) && (bV.2 == 0)) with hb | hb
 ·replace hS:=hS.lit (t:=83) kr hb
  replace hm:=hm.1 hb
  refine tke T [19] [19] hS hH #[true,true,true,true,true,true,true,true,true,true,true,true,true,true,true,true,true,true,false,true,false,false,false,false,false,false,false,false,false,false,false,false,false,false,false,false,false,false,false,false,false,false,false,false,false,false,false,false,false,false,false,false,false,false,false,false,false,false,false,false,false,false,false,false,false,false,false,false,false,false,false,false,false,false,false,false,false,false,false] 60 [] [(85,Sl kD bV.1 kB)] fun a hS=>?_
  refine only 18 kr (by rfl) (call hS kr kr hb22 kr (fun _ _=>rfl) (AU _ _ 0 0) ?_)
  intro v247 a KI Nb hE hp hS
  replace hO:=hO.m2 hE
  replace hD:=hD.ev hE rfl
  replace h145:=h145.m1 hE
  replace h221:=h221.m1 hE
  replace h224:=h224.m1 hE
  replace h241:=h241.m1 hE
  replace h244:=h244.m1 hE
  obtain ⟨Hf,Hb,JM,Jy,hp,h253,h256⟩:=hp
  obtain ⟨qk,hr⟩:∃ r,cz 0=r:=⟨_,rfl⟩
  replace hm:=hm qk hr
  rw [hr] at hp h253 h256
  clear hr
  subst hp
  replace h256:=h256.rs0
  replace hm:=hm (h253.sm kr)
  replace hm:=hm (h256.sm kr)
  replace hS:=hS.sle [] [(84,V (.agg #[.slice Hf qk.ah.length Hb,.slice JM qk.al.length Jy]))]
  refine cW (bH.of hS (bks:=[19]) kr hD) ?_
  intro hH
  obtain ⟨hq,hm⟩:=hm
  refine only 20 kr (by rfl) (call hS kr kr hb12 kr (fun _ _=>rfl) (HF _ _ qk bV.1 Hf Hb JM Jy kD kB hq h253 h256 h145) ?_)
  intro v257 a KH Na hE hp hS
  replace hO:=hO.m2 hE
  replace hD:=hD.ev hE rfl
  replace h145:=h145.m1 hE
  replace h221:=h221.m1 hE
  replace h224:=h224.m1 hE
  replace h241:=h241.m1 hE
  replace h244:=h244.m1 hE
  replace h253:=h253.m1 hE
  replace h256:=h256.m1 hE
  obtain ⟨jA,hr⟩:∃ r,dT qk bV.1=r:=⟨_,rfl⟩
  replace hm:=hm jA hr
  rw [hr] at hp
  clear hr
  subst hp
  replace hS:=hS.sle [] [(86,B jA)]
  refine cW (bH.of hS (bks:=[19]) kr hD) ?_
  intro hH
  refine tke T [21,22] [19] hS hH #[true,true,true,true,true,true,true,true,true,true,true,true,true,true,true,true,true,true,true,true,true,true,true,false,false,false,false,false,false,false,false,false,false,false,false,false,false,false,false,false,false,false,false,false,false,false,false,false,false,false,false,false,false,false,false,false,false,false,false,false,false,false,false,false,false,false,false,false,false,false,false,false,false,false,false,false,false,false,false] 56 [83,85,84,86] [(88,B jA)] fun a hS=>?_
  refine iL (tc:=88) (b:=jA) (f:=fun c=>⟨[(8,I ib.2),(9,I d9.1),(10,I d9.2),(12,I i6.2),(14,I fR.1),(15,I fR.2),(16,Sl mL f5.1 mI),(17,Sl kj f5.2 ke),(18,Pt 19 0),(92,B (c && ((lN bV.1) == 2)))],[(19,(51,[I da.ax.ar,I da.ax.aw,I da.ax.aC,Sl kY da.ax.Rows kX,Sl ov da.al og]))]⟩) T [23,24,25,26] [19] [8,9,10,12,14,15,16,17,18,92] hS kr kr kr kr hH (listed':=#[true,true,true,true,true,true,true,true,true,true,true,true,true,true,true,true,true,true,true,true,true,true,true,true,true,true,true,false,false,false,false,false,false,false,false,false,false,false,false,false,false,false,false,false,false,false,false,false,false,false,false,false,false,false,false,false,false,false,false,false,false,false,false,false,false,false,false,false,false,false,false,false,false,false,false,false,false,false,false]) (fuel:=52) kr kr (by rfl) ?_
  intro a hS
  refine tke T [27] [19] hS hH #[true,true,true,true,true,true,true,true,true,true,true,true,true,true,true,true,true,true,true,true,true,true,true,true,true,true,true,true,false,false,false,false,false,false,false,false,false,false,false,false,false,false,false,false,false,false,false,false,false,false,false,false,false,false,false,false,false,false,false,false,false,false,false,false,false,false,false,false,false,false,false,false,false,false,false,false,false,false,false] 51 [92] [(93,B (jA && ((lN bV.1) == 2)))] fun a hS=>?_
  refine iL (tc:=93) (b:=(jA && ((lN bV.1) == 2))) (f:=fun c=>⟨[(9,I d9.1),(10,I d9.2),(12,I i6.2),(14,I fR.1),(15,I fR.2),(16,Sl mL f5.1 mI),(17,Sl kj f5.2 ke),(18,Pt 19 0),(96,B (c && (ib.2 == 41)))],[(19,(51,[I da.ax.ar,I da.ax.aw,I da.ax.aC,Sl kY da.ax.Rows kX,Sl ov da.al og]))]⟩) T [28,29,30] [19] [9,10,12,14,15,16,17,18,96] hS kr kr kr kr hH (listed':=#[true,true,true,true,true,true,true,true,true,true,true,true,true,true,true,true,true,true,true,true,true,true,true,true,true,true,true,true,true,true,true,false,false,false,false,false,false,false,false,false,false,false,false,false,false,false,false,false,false,false,false,false,false,false,false,false,false,false,false,false,false,false,false,false,false,false,false,false,false,false,false,false,false,false,false,false,false,false,false]) (fuel:=48) kr kr (by rfl) ?_
  intro a hS
  refine tke T [31] [19] hS hH #[true,true,true,true,true,true,true,true,true,true,true,true,true,true,true,true,true,true,true,true,true,true,true,true,true,true,true,true,true,true,true,true,false,false,false,false,false,false,false,false,false,false,false,false,false,false,false,false,false,false,false,false,false,false,false,false,false,false,false,false,false,false,false,false,false,false,false,false,false,false,false,false,false,false,false,false,false,false,false] 47 [96] [(97,B ((jA && ((lN bV.1) == 2)) && (ib.2 == 41)))] fun a hS=>?_
  refine iL (tc:=97) (b:=((jA && ((lN bV.1) == 2)) && (ib.2 == 41))) (f:=fun c=>⟨[(10,I d9.2),(12,I i6.2),(14,I fR.1),(15,I fR.2),(16,Sl mL f5.1 mI),(17,Sl kj f5.2 ke),(18,Pt 19 0),(100,B (c && (d9.1 == 4)))],[(19,(51,[I da.ax.ar,I da.ax.aw,I da.ax.aC,Sl kY da.ax.Rows kX,Sl ov da.al og]))]⟩) T [32,33,34] [19] [10,12,14,15,16,17,18,100] hS kr kr kr kr hH (listed':=#[true,true,true,true,true,true,true,true,true,true,true,true,true,true,true,true,true,true,true,true,true,true,true,true,true,true,true,true,true,true,true,true,true,true,true,false,false,false,false,false,false,false,false,false,false,false,false,false,false,false,false,false,false,false,false,false,false,false,false,false,false,false,false,false,false,false,false,false,false,false,false,false,false,false,false,false,false,false,false]) (fuel:=44) kr kr (by rfl) ?_
  intro a hS
  refine tke T [35] [19] hS hH #[true,true,true,true,true,true,true,true,true,true,true,true,true,true,true,true,true,true,true,true,true,true,true,true,true,true,true,true,true,true,true,true,true,true,true,true,false,false,false,false,false,false,false,false,false,false,false,false,false,false,false,false,false,false,false,false,false,false,false,false,false,false,false,false,false,false,false,false,false,false,false,false,false,false,false,false,false,false,false] 43 [100] [(101,B (((jA && ((lN bV.1) == 2)) && (ib.2 == 41)) && (d9.1 == 4)))] fun a hS=>?_
  refine iL (tc:=101) (b:=(((jA && ((lN bV.1) == 2)) && (ib.2 == 41)) && (d9.1 == 4))) (f:=fun c=>⟨[(12,I i6.2),(14,I fR.1),(15,I fR.2),(16,Sl mL f5.1 mI),(17,Sl kj f5.2 ke),(18,Pt 19 0),(104,B (c && (d9.2 == 0)))],[(19,(51,[I da.ax.ar,I da.ax.aw,I da.ax.aC,Sl kY da.ax.Rows kX,Sl ov da.al og]))]⟩) T [36,37,38] [19] [12,14,15,16,17,18,104] hS kr kr kr kr hH (listed':=#[true,true,true,true,true,true,true,true,true,true,true,true,true,true,true,true,true,true,true,true,true,true,true,true,true,true,true,true,true,true,true,true,true,true,true,true,true,true,true,false,false,false,false,false,false,false,false,false,false,false,false,false,false,false,false,false,false,false,false,false,false,false,false,false,false,false,false,false,false,false,false,false,false,false,false,false,false,false,false]) (fuel:=40) kr kr (by rfl) ?_
  intro a hS
  refine tke T [39] [19] hS hH #[true,true,true,true,true,true,true,true,true,true,true,true,true,true,true,true,true,true,true,true,true,true,true,true,true,true,true,true,true,true,true,true,true,true,true,true,true,true,true,true,false,false,false,false,false,false,false,false,false,false,false,false,false,false,false,false,false,false,false,false,false,false,false,false,false,false,false,false,false,false,false,false,false,false,false,false,false,false,false] 39 [104] [(105,B ((((jA && ((lN bV.1) == 2)) && (ib.2 == 41)) && (d9.1 == 4)) && (d9.2 == 0)))] fun a hS=>?_
  refine iL (tc:=105) (b:=((((jA && ((lN bV.1) == 2)) && (ib.2 == 41)) && (d9.1 == 4)) && (d9.2 == 0))) (f:=fun c=>⟨[(14,I fR.1),(15,I fR.2),(16,Sl mL f5.1 mI),(17,Sl kj f5.2 ke),(18,Pt 19 0),(108,B (c && (i6.2 == 2)))],[(19,(51,[I da.ax.ar,I da.ax.aw,I da.ax.aC,Sl kY da.ax.Rows kX,Sl ov da.al og]))]⟩) T [40,41,42] [19] [14,15,16,17,18,108] hS kr kr kr kr hH (listed':=#[true,true,true,true,true,true,true,true,true,true,true,true,true,true,true,true,true,true,true,true,true,true,true,true,true,true,true,true,true,true,true,true,true,true,true,true,true,true,true,true,true,true,true,false,false,false,false,false,false,false,false,false,false,false,false,false,false,false,false,false,false,false,false,false,false,false,false,false,false,false,false,false,false,false,false,false,false,false,false]) (fuel:=36) kr kr (by rfl) ?_
  intro a hS
  refine tke T [43] [19] hS hH #[true,true,true,true,true,true,true,true,true,true,true,true,true,true,true,true,true,true,true,true,true,true,true,true,true,true,true,true,true,true,true,true,true,true,true,true,true,true,true,true,true,true,true,true,false,false,false,false,false,false,false,false,false,false,false,false,false,false,false,false,false,false,false,false,false,false,false,false,false,false,false,false,false,false,false,false,false,false,false] 35 [108] [(109,B (((((jA && ((lN bV.1) == 2)) && (ib.2 == 41)) && (d9.1 == 4)) && (d9.2 == 0)) && (i6.2 == 2)))] fun a hS=>?_
  refine iL (tc:=109) (b:=(((((jA && ((lN bV.1) == 2)) && (ib.2 == 41)) && (d9.1 == 4)) && (d9.2 == 0)) && (i6.2 == 2))) (f:=fun c=>⟨[(15,I fR.2),(16,Sl mL f5.1 mI),(17,Sl kj f5.2 ke),(18,Pt 19 0),(112,B (c && (fR.1 == 3)))],[(19,(51,[I da.ax.ar,I da.ax.aw,I da.ax.aC,Sl kY da.ax.Rows kX,Sl ov da.al og]))]⟩) T [44,45,46] [19] [15,16,17,18,112] hS kr kr kr kr hH (listed':=#[true,true,true,true,true,true,true,true,true,true,true,true,true,true,true,true,true,true,true,true,true,true,true,true,true,true,true,true,true,true,true,true,true,true,true,true,true,true,true,true,true,true,true,true,true,true,true,false,false,false,false,false,false,false,false,false,false,false,false,false,false,false,false,false,false,false,false,false,false,false,false,false,false,false,false,false,false,false,false]) (fuel:=32) kr kr (by rfl) ?_
  intro a hS
  refine tke T [47] [19] hS hH #[true,true,true,true,true,true,true,true,true,true,true,true,true,true,true,true,true,true,true,true,true,true,true,true,true,true,true,true,true,true,true,true,true,true,true,true,true,true,true,true,true,true,true,true,true,true,true,true,false,false,false,false,false,false,false,false,false,false,false,false,false,false,false,false,false,false,false,false,false,false,false,false,false,false,false,false,false,false,false] 31 [112] [(113,B ((((((jA && ((lN bV.1) == 2)) && (ib.2 == 41)) && (d9.1 == 4)) && (d9.2 == 0)) && (i6.2 == 2)) && (fR.1 == 3)))] fun a hS=>?_
  refine iL (tc:=113) (b:=((((((jA && ((lN bV.1) == 2)) && (ib.2 == 41)) && (d9.1 == 4)) && (d9.2 == 0)) && (i6.2 == 2)) && (fR.1 == 3))) (f:=fun c=>⟨[(16,Sl mL f5.1 mI),(17,Sl kj f5.2 ke),(18,Pt 19 0),(116,B (c && (fR.2 == 32)))],[(19,(51,[I da.ax.ar,I da.ax.aw,I da.ax.aC,Sl kY da.ax.Rows kX,Sl ov da.al og]))]⟩) T [48,49,50] [19] [16,17,18,116] hS kr kr kr kr hH (listed':=#[true,true,true,true,true,true,true,true,true,true,true,true,true,true,true,true,true,true,true,true,true,true,true,true,true,true,true,true,true,true,true,true,true,true,true,true,true,true,true,true,true,true,true,true,true,true,true,true,true,true,true,false,false,false,false,false,false,false,false,false,false,false,false,false,false,false,false,false,false,false,false,false,false,false,false,false,false,false,false]) (fuel:=28) kr kr (by rfl) ?_
  intro a hS
  refine tke T [51] [19] hS hH #[true,true,true,true,true,true,true,true,true,true,true,true,true,true,true,true,true,true,true,true,true,true,true,true,true,true,true,true,true,true,true,true,true,true,true,true,true,true,true,true,true,true,true,true,true,true,true,true,true,true,true,true,false,false,false,false,false,false,false,false,false,false,false,false,false,false,false,false,false,false,false,false,false,false,false,false,false,false,false] 27 [116] [(117,B (((((((jA && ((lN bV.1) == 2)) && (ib.2 == 41)) && (d9.1 == 4)) && (d9.2 == 0)) && (i6.2 == 2)) && (fR.1 == 3)) && (fR.2 == 32)))] fun a hS=>?_
  refine iL (tc:=117) (b:=(((((((jA && ((lN bV.1) == 2)) && (ib.2 == 41)) && (d9.1 == 4)) && (d9.2 == 0)) && (i6.2 == 2)) && (fR.1 == 3)) && (fR.2 == 32))) (f:=fun c=>⟨[(17,Sl kj f5.2 ke),(18,Pt 19 0),(121,B (c && ((lN f5.1) == 2)))],[(19,(51,[I da.ax.ar,I da.ax.aw,I da.ax.aC,Sl kY da.ax.Rows kX,Sl ov da.al og]))]⟩) T [52,53,54,55] [19] [17,18,121] hS kr kr kr kr hH (listed':=#[true,true,true,true,true,true,true,true,true,true,true,true,true,true,true,true,true,true,true,true,true,true,true,true,true,true,true,true,true,true,true,true,true,true,true,true,true,true,true,true,true,true,true,true,true,true,true,true,true,true,true,true,true,true,true,true,false,false,false,false,false,false,false,false,false,false,false,false,false,false,false,false,false,false,false,false,false,false,false]) (fuel:=23) kr kr (by rfl) ?_
  intro a hS
  refine tke T [56] [19] hS hH #[true,true,true,true,true,true,true,true,true,true,true,true,true,true,true,true,true,true,true,true,true,true,true,true,true,true,true,true,true,true,true,true,true,true,true,true,true,true,true,true,true,true,true,true,true,true,true,true,true,true,true,true,true,true,true,true,true,false,false,false,false,false,false,false,false,false,false,false,false,false,false,false,false,false,false,false,false,false,false] 22 [121] [(122,B ((((((((jA && ((lN bV.1) == 2)) && (ib.2 == 41)) && (d9.1 == 4)) && (d9.2 == 0)) && (i6.2 == 2)) && (fR.1 == 3)) && (fR.2 == 32)) && ((lN f5.1) == 2)))] fun a hS=>?_
  rcases bft ((((((((jA && ((lN bV.1) == 2)) && (ib.2 == 41)) && (d9.1 == 4)) && (d9.2 == 0)) && (i6.2 == 2)) && (fR.1 == 3)) && (fR.2 == 32)) && ((lN f5.1) == 2)) with hb | hb
  ·replace hS:=hS.lit (t:=122) kr hb
   replace hm:=hm.1 hb
   refine tke T [57] [19] hS hH #[true,true,true,true,true,true,true,true,true,true,true,true,true,true,true,true,true,true,true,true,true,true,true,true,true,true,true,true,true,true,true,true,true,true,true,true,true,true,true,true,true,true,true,true,true,true,true,true,true,true,true,true,true,true,true,true,true,true,false,false,false,false,false,false,false,false,false,false,false,false,false,false,false,false,false,false,false,false,false] 21 [17] [(123,Sl kj f5.2 ke)] fun a hS=>?_
   refine only 58 kr (by rfl) (lit (E:=3) (col:=0) (T:=tI) (vals:=[.int .i64 0,.int .i64 1]) (ys:=[0,1]) T hS kr kr kr kr (by exact ⟨rfl,rfl,trivial⟩) rfl kr kr kr kr ?_)
   intro b261 a KG M9 hE h264 hN hS
   clear hN
   replace hO:=hO.m2 hE
   replace hD:=hD.ev hE rfl
   replace h145:=h145.m1 hE
   replace h221:=h221.m1 hE
   replace h224:=h224.m1 hE
   replace h241:=h241.m1 hE
   replace h244:=h244.m1 hE
   replace h253:=h253.m1 hE
   replace h256:=h256.m1 hE
   replace h264:=h264.rs0
   refine cW (bH.of hS (bks:=[19]) kr hD) ?_
   intro hH
   refine only 59 kr (by rfl) (call hS kr kr hb25 kr (fun _ _=>rfl) (L4 _ _ f5.2 [0,1] kj ke (some ⟨b261,0,none⟩) 2 h224 h264) ?_)
   intro v265 a KF M8 hE hp hS
   replace hO:=hO.m2 hE
   replace hD:=hD.ev hE rfl
   replace h145:=h145.m1 hE
   replace h221:=h221.m1 hE
   replace h224:=h224.m1 hE
   replace h241:=h241.m1 hE
   replace h244:=h244.m1 hE
   replace h253:=h253.m1 hE
   replace h256:=h256.m1 hE
   replace h264:=h264.m1 hE
   obtain ⟨rA,hr⟩:∃ r,eS f5.2 [0,1]=r:=⟨_,rfl⟩
   replace hm:=hm rA hr
   rw [hr] at hp
   clear hr
   subst hp
   replace hS:=hS.sle [] [(125,B rA)]
   refine cW (bH.of hS (bks:=[19]) kr hD) ?_
   intro hH
   refine tke T [60,61] [19] hS hH #[true,true,true,true,true,true,true,true,true,true,true,true,true,true,true,true,true,true,true,true,true,true,true,true,true,true,true,true,true,true,true,true,true,true,true,true,true,true,true,true,true,true,true,true,true,true,true,true,true,true,true,true,true,true,true,true,true,true,true,true,true,true,false,false,false,false,false,false,false,false,false,false,false,false,false,false,false,false,false] 17 [122,123,124,125] [(127,B rA)] fun a hS=>?_
   refine iL (tc:=127) (b:=rA) (f:=fun c=>⟨[(18,Pt 19 0),(132,B (c && ((lN da.al) == 2)))],[(19,(51,[I da.ax.ar,I da.ax.aw,I da.ax.aC,Sl kY da.ax.Rows kX,Sl ov da.al og]))]⟩) T [62,63,64,65,66] [19] [18,132] hS kr kr kr kr hH (listed':=#[true,true,true,true,true,true,true,true,true,true,true,true,true,true,true,true,true,true,true,true,true,true,true,true,true,true,true,true,true,true,true,true,true,true,true,true,true,true,true,true,true,true,true,true,true,true,true,true,true,true,true,true,true,true,true,true,true,true,true,true,true,true,true,true,true,true,true,false,false,false,false,false,false,false,false,false,false,false,false]) (fuel:=12) kr kr (by rfl) ?_
   intro a hS
   refine tke T [67] [19] hS hH #[true,true,true,true,true,true,true,true,true,true,true,true,true,true,true,true,true,true,true,true,true,true,true,true,true,true,true,true,true,true,true,true,true,true,true,true,true,true,true,true,true,true,true,true,true,true,true,true,true,true,true,true,true,true,true,true,true,true,true,true,true,true,true,true,true,true,true,true,false,false,false,false,false,false,false,false,false,false,false] 11 [132] [(133,B (rA && ((lN da.al) == 2)))] fun a hS=>?_
   rcases bft (rA && ((lN da.al) == 2)) with hb | hb
   ·replace hS:=hS.lit (t:=133) kr hb
    replace hm:=hm.1 hb
    refine tke T [68,69] [19] hS hH #[true,true,true,true,true,true,true,true,true,true,true,true,true,true,true,true,true,true,true,true,true,true,true,true,true,true,true,true,true,true,true,true,true,true,true,true,true,true,true,true,true,true,true,true,true,true,true,true,true,true,true,true,true,true,true,true,true,true,true,true,true,true,true,true,true,true,true,true,true,true,false,false,false,false,false,false,false,false,false] 9 [18] [(135,V (.agg #[.int .i64 da.ax.ar,.int .i64 da.ax.aw,.int .i64 da.ax.aC,.slice kY da.ax.Rows.length kX]))] fun a hS=>?_
    refine only 70 kr (by rfl) (call hS kr kr hb27 kr (fun _ _=>rfl) (Fa _ _) ?_)
    intro v269 a KE M7 hE hp hS
    replace hO:=hO.m2 hE
    replace hD:=hD.ev hE rfl
    replace h145:=h145.m1 hE
    replace h221:=h221.m1 hE
    replace h224:=h224.m1 hE
    replace h241:=h241.m1 hE
    replace h244:=h244.m1 hE
    replace h253:=h253.m1 hE
    replace h256:=h256.m1 hE
    replace h264:=h264.m1 hE
    obtain ⟨JL,Jx,hp,h275⟩:=hp
    obtain ⟨qj,hr⟩:∃ r,du=r:=⟨_,rfl⟩
    replace hm:=hm qj hr
    rw [hr] at hp h275
    clear hr
    subst hp
    replace hm:=hm (h275.sm kr)
    replace hS:=hS.sle [] [(136,V (.agg #[.int .i64 qj.ar,.int .i64 qj.aw,.int .i64 qj.aC,.slice JL qj.Rows.length Jx]))]
    refine cW (bH.of hS (bks:=[19]) kr hD) ?_
    intro hH
    refine only 71 kr (by rfl) (call hS kr kr hb26 kr (fun _ _=>rfl) (L3 _ _ da.ax qj kY kX JL Jx h241 h275) ?_)
    intro v276 a OL QO hE hp hS
    replace hO:=hO.m2 hE
    replace hD:=hD.ev hE rfl
    replace h145:=h145.m1 hE
    replace h221:=h221.m1 hE
    replace h224:=h224.m1 hE
    replace h241:=h241.m1 hE
    replace h244:=h244.m1 hE
    replace h253:=h253.m1 hE
    replace h256:=h256.m1 hE
    replace h264:=h264.m1 hE
    replace h275:=h275.m1 hE
    obtain ⟨uK,hr⟩:∃ r,iR da.ax qj=r:=⟨_,rfl⟩
    replace hm:=hm uK hr
    rw [hr] at hp
    clear hr
    subst hp
    replace hS:=hS.sle [] [(137,B uK)]
    refine cW (bH.of hS (bks:=[19]) kr hD) ?_
    intro hH
    refine tke T [72,73] [19] hS hH #[true,true,true,true,true,true,true,true,true,true,true,true,true,true,true,true,true,true,true,true,true,true,true,true,true,true,true,true,true,true,true,true,true,true,true,true,true,true,true,true,true,true,true,true,true,true,true,true,true,true,true,true,true,true,true,true,true,true,true,true,true,true,true,true,true,true,true,true,true,true,true,true,true,true,false,false,false,false,false] 5 [133,135,136,137] [(139,B uK)] fun a hS=>?_
    rcases bft uK with hb | hb
    ·replace hS:=hS.lit (t:=139) kr hb
     replace hm:=hm.1 hb
     refine only 74 kr (by rfl) (call hS kr kr hb22 kr (fun _ _=>rfl) (AU _ _ 0 0) ?_)
     intro v280 a OK QN hE hp hS
     replace hO:=hO.m2 hE
     replace hD:=hD.ev hE rfl
     replace h145:=h145.m1 hE
     replace h221:=h221.m1 hE
     replace h224:=h224.m1 hE
     replace h241:=h241.m1 hE
     replace h244:=h244.m1 hE
     replace h253:=h253.m1 hE
     replace h256:=h256.m1 hE
     replace h264:=h264.m1 hE
     replace h275:=h275.m1 hE
     obtain ⟨JK,Jw,JJ,Jv,hp,h286,h289⟩:=hp
     obtain ⟨qi,hr⟩:∃ r,cz 0=r:=⟨_,rfl⟩
     replace hm:=hm qi hr
     rw [hr] at hp h286 h289
     clear hr
     subst hp
     replace h289:=h289.rs0
     replace hm:=hm (h286.sm kr)
     replace hm:=hm (h289.sm kr)
     replace hS:=hS.sle [] [(140,V (.agg #[.slice JK qi.ah.length Jw,.slice JJ qi.al.length Jv]))]
     refine cW (bH.of hS (bks:=[19]) kr hD) ?_
     intro hH
     obtain ⟨hq,hm⟩:=hm
     refine only 75 kr (by rfl) (call hS kr kr hb12 kr (fun _ _=>rfl) (HF _ _ qi [] JK Jw JJ Jv none 0 hq h286 h289 (RS.empty _ _ _)) ?_)
     intro v290 a OJ QM hE hp hS
     replace hO:=hO.m2 hE
     replace hD:=hD.ev hE rfl
     replace h145:=h145.m1 hE
     replace h221:=h221.m1 hE
     replace h224:=h224.m1 hE
     replace h241:=h241.m1 hE
     replace h244:=h244.m1 hE
     replace h253:=h253.m1 hE
     replace h256:=h256.m1 hE
     replace h264:=h264.m1 hE
     replace h275:=h275.m1 hE
     replace h286:=h286.m1 hE
     replace h289:=h289.m1 hE
     obtain ⟨tf,hr⟩:∃ r,dT qi []=r:=⟨_,rfl⟩
     replace hm:=hm tf hr
     rw [hr] at hp
     clear hr
     subst hp
     replace hS:=hS.sle [] [(141,B tf)]
     refine cW (bH.of hS (bks:=[19]) kr hD) ?_
     intro hH
     refine tke T [76,77,78] [19] hS hH (tts 79) 0 [139,140,141] [(0,B (!tf))] fun a hS=>?_
     refine aS kr ?_
     replace hS:=hS.sl ⟨[(0,B (!tf))],[]⟩
     refine aY ?_
     exact fin T hS hO (fun c=>c) rfl (r:=[.bool (!tf)]) kr (fun X' hM hC=>⟨(!tf),hm,rfl⟩)
    replace hS:=hS.lit (t:=139) kr hb
    replace hm:=hm.2 hb
    refine tke T [74,75,76,77,78] [19] hS hH (tts 79) 0 [139] [(0,B false)] fun a hS=>?_
    refine aS kr ?_
    replace hS:=hS.sl ⟨[(0,B false)],[]⟩
    refine aY ?_
    exact fin T hS hO (fun c=>c) rfl (r:=[.bool false]) kr (fun X' hM hC=>⟨false,hm,rfl⟩)
   replace hS:=hS.lit (t:=133) kr hb
   replace hm:=hm.2 hb
   refine tke T [68,70,69,71,72,73,74,75,76,77,78] [19] hS hH (tts 79) 0 [18,133] [(0,B false)] fun a hS=>?_
   refine aS kr ?_
   replace hS:=hS.sl ⟨[(0,B false)],[]⟩
   refine aY ?_
   exact fin T hS hO (fun c=>c) rfl (r:=[.bool false]) kr (fun X' hM hC=>⟨false,hm,rfl⟩)
  replace hS:=hS.lit (t:=122) kr hb
  replace hm:=hm.2 hb
  refine tke T [57,58,59,60,61,62,63,64,65,66,67,68,70,69,71,72,73,74,75,76,77,78] [19] hS hH (tts 79) 0 [17,18,122] [(0,B false)] fun a hS=>?_
  refine aS kr ?_
  replace hS:=hS.sl ⟨[(0,B false)],[]⟩
  refine aY ?_
  exact fin T hS hO (fun c=>c) rfl (r:=[.bool false]) kr (fun X' hM hC=>⟨false,hm,rfl⟩)
 replace hS:=hS.lit (t:=83) kr hb
 replace hm:=hm.2 hb
 refine tke T [18,19,20,21,22,23,24,25,26,27,28,29,30,31,32,33,34,35,36,37,38,39,40,41,42,43,44,45,46,47,48,49,50,51,52,53,54,55,56,57,58,59,60,61,62,63,64,65,66,67,68,70,69,71,72,73,74,75,76,77,78] [19] hS hH (tts 79) 0 [5,8,9,10,12,14,15,16,17,18,83] [(0,B false)] fun a hS=>?_
 refine aS kr ?_
 replace hS:=hS.sl ⟨[(0,B false)],[]⟩
 refine aY ?_
 exact fin T hS hO (fun c=>c) rfl (r:=[.bool false]) kr (fun X' hM hC=>⟨false,hm,rfl⟩)
theorem C8 (HF:S12) (Fb:S15) (L7:S17) (AU:S22) (rD:S23) (B3:S24) (L4:S25) (L3:S26) (Fa:S27) (k9:S9) (v:∀ (_:Unit),VC8 (fun r=>r=gE)):S8:=by
 intro w X     
 refine (W8 HF Fb L7 AU rD B3 L4 L3 Fa k9 w X     _ (v ())).mono ?_
 rintro _ _ _ _ ⟨r,rfl,h⟩
 exact h
end Go.Proofs.YteahldlmkheleaaGreat
