/- Walks of the functions: each returns what its condition asks. -/
import Derived.Test.YteahldlmkheleaaGreatLWalksS
set_option linter.all false
namespace Go.Proofs.YteahldlmkheleaaGreat
open Go Go.Sv
set_option maxHeartbeats 1000000
theorem W8 (KC:S12) (Fi:S15) (Mk:S17) (A6:S22) (rY:S23) (Cd:S24) (Mg:S25) (Mf:S26) (Fh:S27) (k9:S9) (w0) (X0) (Q:Bool->Prop) (hm:VC8 Q) :
  Ret Tryz.prog 8 #[] aL w0 X0 (fun w X' v=>∃ r,Q r/\v=.bool r):=by
 unfold VC8 at hm
 refine enter Tryz.func8 rfl (vals:=[]) kr ?_
 intro Z a hS hO hM
 refine rPe T hS [] [] fun a hS=>?_
 refine bq ?_
 refine op1 (call hS kr kr hb22 kr (fun _ _=>rfl) (A6 _ _ 0 0) ?_)
 intro v101 a fp fx hE hp hS
 replace hO:=hO.m2 hE
 obtain ⟨dS,dR,gQ,gP,hp,h107,h110⟩:=hp
 obtain ⟨ax,hr⟩:∃ r,cG 0=r:=⟨_,rfl⟩
 replace hm:=hm ax hr
 rw [hr] at hp h107 h110
 clear hr
 subst hp
 replace h110:=h110.rs0
 replace hm:=hm (h107.sm kr)
 replace hm:=hm (h110.sm kr)
 obtain ⟨hq,hm⟩:=hm
 refine op1 (call hS kr kr hb9 kr (fun _ _=>rfl) (k9 _ _ ax dS dR gQ gP hq h107 h110) ?_)
 intro v111 a zK rN hE hp hS
 replace hO:=hO.m2 hE
 replace h107:=h107.m1 hE
 replace h110:=h110.m1 hE
 obtain ⟨da,hr⟩:∃ r,dF ax=r:=⟨_,rfl⟩
 replace hm:=hm da hr
 rw [hr] at hp
 clear hr
 subst hp
 refine ePe T hS [20,21] [(1,B da.1),(2,I da.2)] fun a hS=>?_
 refine bq ?_
 refine op1 (call hS kr kr hb22 kr (fun _ _=>rfl) (A6 _ _ 1 0) ?_)
 intro v115 a wT A1 hE hp hS
 replace hO:=hO.m2 hE
 obtain ⟨rL,rE,kF,kB,hp,h121,h124⟩:=hp
 obtain ⟨lJ,hr⟩:∃ r,cG 1=r:=⟨_,rfl⟩
 replace hm:=hm lJ hr
 rw [hr] at hp h121 h124
 clear hr
 subst hp
 replace h124:=h124.rs0
 replace hm:=hm (h121.sm kr)
 replace hm:=hm (h124.sm kr)
 obtain ⟨hq,hm⟩:=hm
 refine op1 (call hS kr kr hb9 kr (fun _ _=>rfl) (k9 _ _ lJ rL rE kF kB hq h121 h124) ?_)
 intro v125 a tm p9 hE hp hS
 replace hO:=hO.m2 hE
 replace h121:=h121.m1 hE
 replace h124:=h124.m1 hE
 obtain ⟨bO,hr⟩:∃ r,dF lJ=r:=⟨_,rfl⟩
 replace hm:=hm bO hr
 rw [hr] at hp
 clear hr
 subst hp
 refine ePe T hS [25,26] [(3,B bO.1),(4,I bO.2)] fun a hS=>?_
 refine bq ?_
 refine op1 (call hS kr kr hb22 kr (fun _ _=>rfl) (A6 _ _ 0 0) ?_)
 intro v129 a uI Dl hE hp hS
 replace hO:=hO.m2 hE
 obtain ⟨r8,r6,nT,nP,hp,h135,h138⟩:=hp
 obtain ⟨gI,hr⟩:∃ r,cG 0=r:=⟨_,rfl⟩
 replace hm:=hm gI hr
 rw [hr] at hp h135 h138
 clear hr
 subst hp
 replace h138:=h138.rs0
 replace hm:=hm (h135.sm kr)
 replace hm:=hm (h138.sm kr)
 obtain ⟨hq,hm⟩:=hm
 refine op1 (call hS kr kr hb15 kr (fun _ _=>rfl) (Fi _ _ gI r8 r6 nT nP hq h135 h138) ?_)
 intro v139 a zH x3 hE hp hS
 replace hO:=hO.m2 hE
 replace h135:=h135.m1 hE
 replace h138:=h138.m1 hE
 obtain ⟨kQ,kO,hp,h145⟩:=hp
 obtain ⟨cc,hr⟩:∃ r,cV gI=r:=⟨_,rfl⟩
 replace hm:=hm cc hr
 rw [hr] at hp h145
 clear hr
 subst hp
 replace hm:=hm (h145.sm kr)
 refine ePe T hS [30,31] [(5,Sl kQ cc.1 kO),(6,I cc.2)] fun a hS=>?_
 refine bq ?_
 refine op1 (call hS kr kr hb22 kr (fun _ _=>rfl) (A6 _ _ 1 0) ?_)
 intro v146 a wQ AY hE hp hS
 replace hO:=hO.m2 hE
 replace h145:=h145.m1 hE
 obtain ⟨ux,uq,Nt,Nk,hp,h152,h155⟩:=hp
 obtain ⟨tH,hr⟩:∃ r,cG 1=r:=⟨_,rfl⟩
 replace hm:=hm tH hr
 rw [hr] at hp h152 h155
 clear hr
 subst hp
 replace h155:=h155.rs0
 replace hm:=hm (h152.sm kr)
 replace hm:=hm (h155.sm kr)
 obtain ⟨hq,hm⟩:=hm
 refine op1 (call hS kr kr hb15 kr (fun _ _=>rfl) (Fi _ _ tH ux uq Nt Nk hq h152 h155) ?_)
 intro v156 a zG AX hE hp hS
 replace hO:=hO.m2 hE
 replace h145:=h145.m1 hE
 replace h152:=h152.m1 hE
 replace h155:=h155.m1 hE
 obtain ⟨AU,AJ,hp,h162⟩:=hp
 obtain ⟨iE,hr⟩:∃ r,cV tH=r:=⟨_,rfl⟩
 replace hm:=hm iE hr
 rw [hr] at hp h162
 clear hr
 subst hp
 replace hm:=hm (h162.sm kr)
 refine ePe T hS [35,36] [(8,I iE.2)] fun a hS=>?_
 refine bq ?_
 refine op1 (call hS kr kr hb22 kr (fun _ _=>rfl) (A6 _ _ 0 0) ?_)
 intro v163 a Gc Kh hE hp hS
 replace hO:=hO.m2 hE
 replace h145:=h145.m1 hE
 obtain ⟨wx,wg,p8,p5,hp,h169,h172⟩:=hp
 obtain ⟨tG,hr⟩:∃ r,cG 0=r:=⟨_,rfl⟩
 replace hm:=hm tG hr
 rw [hr] at hp h169 h172
 clear hr
 subst hp
 replace h172:=h172.rs0
 replace hm:=hm (h169.sm kr)
 replace hm:=hm (h172.sm kr)
 obtain ⟨hq,hm⟩:=hm
 refine op1 (call hS kr kr hb23 kr (fun _ _=>rfl) (rY _ _ tG wx wg p8 p5 hq h169 h172) ?_)
 intro v173 a Ih NR hE hp hS
 replace hO:=hO.m2 hE
 replace h145:=h145.m1 hE
 replace h169:=h169.m1 hE
 replace h172:=h172.m1 hE
 obtain ⟨fa,hr⟩:∃ r,aE tG=r:=⟨_,rfl⟩
 replace hm:=hm fa hr
 rw [hr] at hp
 clear hr
 subst hp
 refine ePe T hS [40,41] [(9,I fa.1),(10,I fa.2)] fun a hS=>?_
 refine bq ?_
 refine oPe T hS 1 [] [(45,V (.agg #[.slice none 0 0,.slice none 0 0]))] fun a hS=>?_
 obtain ⟨hq,hm⟩:=hm
 refine op1 (call hS kr kr hb23 kr (fun _ _=>rfl) (rY _ _ (⟨[],[]⟩:al) none 0 none 0 hq (RS.empty _ _ _) (RS.empty _ _ _)) ?_)
 intro v177 a Bk Dh hE hp hS
 replace hO:=hO.m2 hE
 replace h145:=h145.m1 hE
 obtain ⟨js,hr⟩:∃ r,aE (⟨[],[]⟩:al)=r:=⟨_,rfl⟩
 replace hm:=hm js hr
 rw [hr] at hp
 clear hr
 subst hp
 refine ePe T hS [45,46] [(12,I js.2)] fun a hS=>?_
 refine bq ?_
 refine op1 (call hS kr kr hb22 kr (fun _ _=>rfl) (A6 _ _ 0 1050) ?_)
 intro v181 a PF RV hE hp hS
 replace hO:=hO.m2 hE
 replace h145:=h145.m1 hE
 obtain ⟨AS,AI,wv,we,hp,h187,h190⟩:=hp
 obtain ⟨gN,hr⟩:∃ r,cG 0=r:=⟨_,rfl⟩
 replace hm:=hm gN hr
 rw [hr] at hp h187 h190
 clear hr
 subst hp
 replace hm:=hm (h187.sm kr)
 replace hm:=hm (h190.sm kr)
 refine eM T hS ⟨[(1,B da.1),(2,I da.2),(3,B bO.1),(4,I bO.2),(5,Sl kQ cc.1 kO),(6,I cc.2),(8,I iE.2),(9,I fa.1),(10,I fa.2),(12,I js.2),(13,Pt 14 0)],[(14,(25,[Sl AS gN.ae AI,Sl wv gN.aq we]))]⟩ fun Z a O8 Rp hS hE hr=>?_
 replace hO:=hO.m2 hE
 replace h145:=h145.m1 hE
 replace h187:=h187.m1 hE
 replace h190:=h190.m2 hE
 clear hE hr
 refine bq ?_
 refine oPe T hS 2 [] [(51,Sl wv gN.aq we)] fun a hS=>?_
 obtain ⟨yX,hm⟩:=hm
 refine op1 (lQ (E:=63) (k:=.i64) T hS kr kr kr kr h190 kr kr yX.1 yX.2 ?_)
 intro Sm a h193 h192 hS
 have h194:=h193.ad
 clear h193 h192
 refine op1 (ui (off:=0) (fsz:=1) (ft:=3) T hS kr kr kr h194 kr kr ?_)
 intro Sf a h197 hS
 refine op1 (tu (m:=1) (off:=0) (x:=(⟨1,(gi gN.aq 3).aW⟩:bd)) (v:=I 1) (i:=(3:Int).toNat) (E:=63) (xs:=gN.aq) T hS kr kr kr kr h190 h197 (by have:=yX.1; have:=yX.2; (try simp only [List.length_set]); omega) kr kr rfl (fun _ _ _ h=>by cases h; rfl) ?_)
 intro a Ib hE h199 hS
 clear h190
 replace hO:=hO.m2 hE
 replace h145:=h145.m1 hE
 replace h187:=h187.m1 hE
 have yT:=hS.cell (id:=14) (t:=25) (cs:=[Sl AS gN.ae AI,Sl wv gN.aq we]) kr
 replace yT:=yT.conv (vals':=[.slice AS gN.ae.length AI,.slice wv (gN.aq.set (3:Int).toNat (⟨1,(gi gN.aq 3).aW⟩:bd)).length we]) (by rw [List.length_set]; rfl)
 replace hS:=hS.cQ (id:=14) (t:=25) (cs:=[Sl AS gN.ae AI,Sl wv (gN.aq.set (3:Int).toNat (⟨1,(gi gN.aq 3).aW⟩:bd)) we]) kr yT
 clear yT
 replace hS:=hS.conv (t:=51) (y:=.slice wv (gN.aq.set (3:Int).toNat (⟨1,(gi gN.aq 3).aW⟩:bd)).length we) kr (by rw [List.length_set])
 refine gY ?_
 refine bq ?_
 refine oP T hS 1 ⟨[(1,B da.1),(2,I da.2),(3,B bO.1),(4,I bO.2),(5,Sl kQ cc.1 kO),(6,I cc.2),(8,I iE.2),(9,I fa.1),(10,I fa.2),(12,I js.2),(55,V (.agg #[.slice AS gN.ae.length AI,.slice wv (gN.aq.set (3:Int).toNat (⟨1,(gi gN.aq 3).aW⟩:bd)).length we]))],[]⟩ fun a hS=>?_
 obtain ⟨hq,hm⟩:=hm
 refine op1 (call hS kr kr hb23 kr (fun _ _=>rfl) (Ret.oQ (rY _ (fb 1050 _) (⟨gN.ae,(gN.aq.set (3:Int).toNat (⟨1,(gi gN.aq 3).aW⟩:bd))⟩:al) AS AI wv we hq (h187.m0 (M0.fb 1050)) h199.fb)) ?_)
 intro v201 a Ia J7 hE hp hS
 replace hO:=hO.m2 hE
 replace h145:=h145.m1 hE
 replace h187:=h187.m1 hE
 replace h199:=h199.m2 hE
 obtain ⟨_,hp⟩:=hp
 obtain ⟨fS,hr⟩:∃ r,aE (⟨gN.ae,(gN.aq.set (3:Int).toNat (⟨1,(gi gN.aq 3).aW⟩:bd))⟩:al)=r:=⟨_,rfl⟩
 replace hm:=hm fS hr
 rw [hr] at hp
 clear hr
 subst hp
 refine ePe T hS [55,56] [(14,I fS.1),(15,I fS.2)] fun a hS=>?_
 refine bq ?_
 refine op1 (call hS kr kr hb22 kr (fun _ _=>rfl) (A6 _ _ 1 0) ?_)
 intro v205 a KZ NH hE hp hS
 replace hO:=hO.m2 hE
 replace h145:=h145.m1 hE
 obtain ⟨Nr,Ni,AR,AH,hp,h211,h214⟩:=hp
 obtain ⟨tF,hr⟩:∃ r,cG 1=r:=⟨_,rfl⟩
 replace hm:=hm tF hr
 rw [hr] at hp h211 h214
 clear hr
 subst hp
 replace h214:=h214.rs0
 replace hm:=hm (h211.sm kr)
 replace hm:=hm (h214.sm kr)
 obtain ⟨hq,hm⟩:=hm
 refine op1 (call hS kr kr hb24 kr (fun _ _=>rfl) (Cd _ _ tF Nr Ni AR AH hq h211 h214) ?_)
 intro v215 a KX ND hE hp hS
 replace hO:=hO.m2 hE
 replace h145:=h145.m1 hE
 replace h211:=h211.m1 hE
 replace h214:=h214.m1 hE
 obtain ⟨m7,mY,kD,ky,hp,h221,h224⟩:=hp
 obtain ⟨gf,hr⟩:∃ r,cN tF=r:=⟨_,rfl⟩
 replace hm:=hm gf hr
 rw [hr] at hp h221 h224
 clear hr
 subst hp
 replace hm:=hm (h221.sm kr)
 replace hm:=hm (h224.sm kr)
 refine ePe T hS [60,61] [(16,Sl m7 gf.1 mY),(17,Sl kD gf.2 ky)] fun a hS=>?_
 refine bq ?_
 refine op1 (call hS kr kr hb22 kr (fun _ _=>rfl) (A6 _ _ 1 0) ?_)
 intro v225 a Pv RK hE hp hS
 replace hO:=hO.m2 hE
 replace h145:=h145.m1 hE
 replace h221:=h221.m1 hE
 replace h224:=h224.m1 hE
 obtain ⟨Nq,Nh,Np,Ng,hp,h231,h234⟩:=hp
 obtain ⟨tE,hr⟩:∃ r,cG 1=r:=⟨_,rfl⟩
 replace hm:=hm tE hr
 rw [hr] at hp h231 h234
 clear hr
 subst hp
 replace h234:=h234.rs0
 replace hm:=hm (h231.sm kr)
 replace hm:=hm (h234.sm kr)
 obtain ⟨hq,hm⟩:=hm
 refine op1 (call hS kr kr hb17 kr (fun _ _=>rfl) (Mk _ _ tE 1 Nq Nh Np Ng hq h231 h234) ?_)
 intro v235 a KV NB hE hp hS
 replace hO:=hO.m2 hE
 replace h145:=h145.m1 hE
 replace h221:=h221.m1 hE
 replace h224:=h224.m1 hE
 replace h231:=h231.m1 hE
 replace h234:=h234.m1 hE
 obtain ⟨lh,lg,oI,oD,hp,h241,h244⟩:=hp
 obtain ⟨dk,hr⟩:∃ r,eS tE 1=r:=⟨_,rfl⟩
 replace hm:=hm dk hr
 rw [hr] at hp h241 h244
 clear hr
 subst hp
 replace hm:=hm (h241.sm kr)
 replace hm:=hm (h244.sm kr)
 refine eM T hS ⟨[(1,B da.1),(2,I da.2),(3,B bO.1),(4,I bO.2),(5,Sl kQ cc.1 kO),(6,I cc.2),(8,I iE.2),(9,I fa.1),(10,I fa.2),(12,I js.2),(14,I fS.1),(15,I fS.2),(16,Sl m7 gf.1 mY),(17,Sl kD gf.2 ky),(18,Pt 19 0)],[(19,(51,[I dk.aA.au,I dk.aA.az,I dk.aA.aH,Sl lh dk.aA.Rows lg,Sl oI dk.aq oD]))]⟩ fun Z a O9 Rq hS hE hr=>?_
 replace hO:=hO.m2 hE
 replace h145:=h145.m1 hE
 replace h221:=h221.m1 hE
 replace h224:=h224.m1 hE
 replace h241:=h241.m1 hE
 replace h244:=h244.m1 hE
 clear hE hr
 refine dG [19] mixed hS ?_
 intro KU NA hS hE hD hH
 replace hO:=hO.m2 hE
 replace h145:=h145.m1 hE
 replace h221:=h221.m1 hE
 replace h224:=h224.m1 hE
 replace h241:=h241.m1 hE
 replace h244:=h244.m1 hE
 refine tke T [0,1] [19] hS hH #[true,true,false,false,false,false,false,false,false,false,false,false,false,false,false,false,false,false,false,false,false,false,false,false,false,false,false,false,false,false,false,false,false,false,false,false,false,false,false,false,false,false,false,false,false,false,false,false,false,false,false,false,false,false,false,false,false,false,false,false,false,false,false,false,false,false,false,false,false,false,false,false,false,false,false,false,false,false,false] 77 [1] [(67,B da.1)] fun a hS=>?_
 refine j7 (tc:=67) (b:=da.1) (f:=fun c=>⟨[(3,B bO.1),(4,I bO.2),(5,Sl kQ cc.1 kO),(6,I cc.2),(8,I iE.2),(9,I fa.1),(10,I fa.2),(12,I js.2),(14,I fS.1),(15,I fS.2),(16,Sl m7 gf.1 mY),(17,Sl kD gf.2 ky),(18,Pt 19 0),(70,B (c && (da.2 == 0)))],[(19,(51,[I dk.aA.au,I dk.aA.az,I dk.aA.aH,Sl lh dk.aA.Rows lg,Sl oI dk.aq oD]))]⟩) T [2,3,4] [19] [3,4,5,6,8,9,10,12,14,15,16,17,18,70] hS kr kr kr kr hH (listed':=#[true,true,true,true,true,false,false,false,false,false,false,false,false,false,false,false,false,false,false,false,false,false,false,false,false,false,false,false,false,false,false,false,false,false,false,false,false,false,false,false,false,false,false,false,false,false,false,false,false,false,false,false,false,false,false,false,false,false,false,false,false,false,false,false,false,false,false,false,false,false,false,false,false,false,false,false,false,false,false]) (fuel:=74) kr kr (by rfl) ?_
 intro a hS
 refine tke T [5] [19] hS hH #[true,true,true,true,true,true,false,false,false,false,false,false,false,false,false,false,false,false,false,false,false,false,false,false,false,false,false,false,false,false,false,false,false,false,false,false,false,false,false,false,false,false,false,false,false,false,false,false,false,false,false,false,false,false,false,false,false,false,false,false,false,false,false,false,false,false,false,false,false,false,false,false,false,false,false,false,false,false,false] 73 [70] [(71,B (da.1 && (da.2 == 0)))] fun a hS=>?_
 refine j7 (tc:=71) (b:=(da.1 && (da.2 == 0))) (f:=fun c=>⟨[(4,I bO.2),(5,Sl kQ cc.1 kO),(6,I cc.2),(8,I iE.2),(9,I fa.1),(10,I fa.2),(12,I js.2),(14,I fS.1),(15,I fS.2),(16,Sl m7 gf.1 mY),(17,Sl kD gf.2 ky),(18,Pt 19 0),(74,B (c && (!bO.1)))],[(19,(51,[I dk.aA.au,I dk.aA.az,I dk.aA.aH,Sl lh dk.aA.Rows lg,Sl oI dk.aq oD]))]⟩) T [6,7,8] [19] [4,5,6,8,9,10,12,14,15,16,17,18,74] hS kr kr kr kr hH (listed':=#[true,true,true,true,true,true,true,true,true,false,false,false,false,false,false,false,false,false,false,false,false,false,false,false,false,false,false,false,false,false,false,false,false,false,false,false,false,false,false,false,false,false,false,false,false,false,false,false,false,false,false,false,false,false,false,false,false,false,false,false,false,false,false,false,false,false,false,false,false,false,false,false,false,false,false,false,false,false,false]) (fuel:=70) kr kr (by rfl) ?_
 intro a hS
 refine tke T [9] [19] hS hH #[true,true,true,true,true,true,true,true,true,true,false,false,false,false,false,false,false,false,false,false,false,false,false,false,false,false,false,false,false,false,false,false,false,false,false,false,false,false,false,false,false,false,false,false,false,false,false,false,false,false,false,false,false,false,false,false,false,false,false,false,false,false,false,false,false,false,false,false,false,false,false,false,false,false,false,false,false,false,false] 69 [74] [(75,B ((da.1 && (da.2 == 0)) && (!bO.1)))] fun a hS=>?_
 refine j7 (tc:=75) (b:=((da.1 && (da.2 == 0)) && (!bO.1))) (f:=fun c=>⟨[(5,Sl kQ cc.1 kO),(6,I cc.2),(8,I iE.2),(9,I fa.1),(10,I fa.2),(12,I js.2),(14,I fS.1),(15,I fS.2),(16,Sl m7 gf.1 mY),(17,Sl kD gf.2 ky),(18,Pt 19 0),(78,B (c && (bO.2 == 0)))],[(19,(51,[I dk.aA.au,I dk.aA.az,I dk.aA.aH,Sl lh dk.aA.Rows lg,Sl oI dk.aq oD]))]⟩) T [10,11,12] [19] [5,6,8,9,10,12,14,15,16,17,18,78] hS kr kr kr kr hH (listed':=#[true,true,true,true,true,true,true,true,true,true,true,true,true,false,false,false,false,false,false,false,false,false,false,false,false,false,false,false,false,false,false,false,false,false,false,false,false,false,false,false,false,false,false,false,false,false,false,false,false,false,false,false,false,false,false,false,false,false,false,false,false,false,false,false,false,false,false,false,false,false,false,false,false,false,false,false,false,false,false]) (fuel:=66) kr kr (by rfl) ?_
 intro a hS
 refine tke T [13] [19] hS hH #[true,true,true,true,true,true,true,true,true,true,true,true,true,true,false,false,false,false,false,false,false,false,false,false,false,false,false,false,false,false,false,false,false,false,false,false,false,false,false,false,false,false,false,false,false,false,false,false,false,false,false,false,false,false,false,false,false,false,false,false,false,false,false,false,false,false,false,false,false,false,false,false,false,false,false,false,false,false,false] 65 [78] [(79,B (((da.1 && (da.2 == 0)) && (!bO.1)) && (bO.2 == 0)))] fun a hS=>?_
 refine j7 (tc:=79) (b:=(((da.1 && (da.2 == 0)) && (!bO.1)) && (bO.2 == 0))) (f:=fun c=>⟨[(5,Sl kQ cc.1 kO),(8,I iE.2),(9,I fa.1),(10,I fa.2),(12,I js.2),(14,I fS.1),(15,I fS.2),(16,Sl m7 gf.1 mY),(17,Sl kD gf.2 ky),(18,Pt 19 0),(82,B (c && (cc.2 == 0)))],[(19,(51,[I dk.aA.au,I dk.aA.az,I dk.aA.aH,Sl lh dk.aA.Rows lg,Sl oI dk.aq oD]))]⟩) T [14,15,16] [19] [5,8,9,10,12,14,15,16,17,18,82] hS kr kr kr kr hH (listed':=#[true,true,true,true,true,true,true,true,true,true,true,true,true,true,true,true,true,false,false,false,false,false,false,false,false,false,false,false,false,false,false,false,false,false,false,false,false,false,false,false,false,false,false,false,false,false,false,false,false,false,false,false,false,false,false,false,false,false,false,false,false,false,false,false,false,false,false,false,false,false,false,false,false,false,false,false,false,false,false]) (fuel:=62) kr kr (by rfl) ?_
 intro a hS
 refine tke T [17] [19] hS hH #[true,true,true,true,true,true,true,true,true,true,true,true,true,true,true,true,true,true,false,false,false,false,false,false,false,false,false,false,false,false,false,false,false,false,false,false,false,false,false,false,false,false,false,false,false,false,false,false,false,false,false,false,false,false,false,false,false,false,false,false,false,false,false,false,false,false,false,false,false,false,false,false,false,false,false,false,false,false,false] 61 [82] [(83,B ((((da.1 && (da.2 == 0)) && (!bO.1)) && (bO.2 == 0)) && (cc.2 == 0)))] fun a hS=>?_
 rcases bft ((((da.1 && (da.2 == 0)) && (!bO.1)) && (bO.2 == 0)) && (cc.2 == 0)) with hb | hb
 ·replace hS:=hS.lit (t:=83) kr hb
  replace hm:=hm.1 hb
  refine tke T [19] [19] hS hH #[true,true,true,true,true,true,true,true,true,true,true,true,true,true,true,true,true,true,false,true,false,false,false,false,false,false,false,false,false,false,false,false,false,false,false,false,false,false,false,false,false,false,false,false,false,false,false,false,false,false,false,false,false,false,false,false,false,false,false,false,false,false,false,false,false,false,false,false,false,false,false,false,false,false,false,false,false,false,false] 60 [] [(85,Sl kQ cc.1 kO)] fun a hS=>?_
  refine only 18 kr (by rfl) (call hS kr kr hb22 kr (fun _ _=>rfl) (A6 _ _ 0 0) ?_)
  intro v247 a KT Nz hE hp hS
  replace hO:=hO.m2 hE
  replace hD:=hD.ev hE rfl
  replace h145:=h145.m1 hE
  replace h221:=h221.m1 hE
  replace h224:=h224.m1 hE
  replace h241:=h241.m1 hE
  replace h244:=h244.m1 hE
  obtain ⟨Ht,Ho,JW,JH,hp,h253,h256⟩:=hp
  obtain ⟨qJ,hr⟩:∃ r,cG 0=r:=⟨_,rfl⟩
  replace hm:=hm qJ hr
  rw [hr] at hp h253 h256
  clear hr
  subst hp
  replace h256:=h256.rs0
  replace hm:=hm (h253.sm kr)
  replace hm:=hm (h256.sm kr)
  replace hS:=hS.sle [] [(84,V (.agg #[.slice Ht qJ.ae.length Ho,.slice JW qJ.aq.length JH]))]
  refine di (bP.of hS (bks:=[19]) kr hD) ?_
  intro hH
  obtain ⟨hq,hm⟩:=hm
  refine only 20 kr (by rfl) (call hS kr kr hb12 kr (fun _ _=>rfl) (KC _ _ qJ cc.1 Ht Ho JW JH kQ kO hq h253 h256 h145) ?_)
  intro v257 a KS Ny hE hp hS
  replace hO:=hO.m2 hE
  replace hD:=hD.ev hE rfl
  replace h145:=h145.m1 hE
  replace h221:=h221.m1 hE
  replace h224:=h224.m1 hE
  replace h241:=h241.m1 hE
  replace h244:=h244.m1 hE
  replace h253:=h253.m1 hE
  replace h256:=h256.m1 hE
  obtain ⟨jS,hr⟩:∃ r,gn qJ cc.1=r:=⟨_,rfl⟩
  replace hm:=hm jS hr
  rw [hr] at hp
  clear hr
  subst hp
  replace hS:=hS.sle [] [(86,B jS)]
  refine di (bP.of hS (bks:=[19]) kr hD) ?_
  intro hH
  refine tke T [21,22] [19] hS hH #[true,true,true,true,true,true,true,true,true,true,true,true,true,true,true,true,true,true,true,true,true,true,true,false,false,false,false,false,false,false,false,false,false,false,false,false,false,false,false,false,false,false,false,false,false,false,false,false,false,false,false,false,false,false,false,false,false,false,false,false,false,false,false,false,false,false,false,false,false,false,false,false,false,false,false,false,false,false,false] 56 [83,85,84,86] [(88,B jS)] fun a hS=>?_
  refine j7 (tc:=88) (b:=jS) (f:=fun c=>⟨[(8,I iE.2),(9,I fa.1),(10,I fa.2),(12,I js.2),(14,I fS.1),(15,I fS.2),(16,Sl m7 gf.1 mY),(17,Sl kD gf.2 ky),(18,Pt 19 0),(92,B (c && ((lN cc.1) == 2)))],[(19,(51,[I dk.aA.au,I dk.aA.az,I dk.aA.aH,Sl lh dk.aA.Rows lg,Sl oI dk.aq oD]))]⟩) T [23,24,25,26] [19] [8,9,10,12,14,15,16,17,18,92] hS kr kr kr kr hH (listed':=#[true,true,true,true,true,true,true,true,true,true,true,true,true,true,true,true,true,true,true,true,true,true,true,true,true,true,true,false,false,false,false,false,false,false,false,false,false,false,false,false,false,false,false,false,false,false,false,false,false,false,false,false,false,false,false,false,false,false,false,false,false,false,false,false,false,false,false,false,false,false,false,false,false,false,false,false,false,false,false]) (fuel:=52) kr kr (by rfl) ?_
  intro a hS
  refine tke T [27] [19] hS hH #[true,true,true,true,true,true,true,true,true,true,true,true,true,true,true,true,true,true,true,true,true,true,true,true,true,true,true,true,false,false,false,false,false,false,false,false,false,false,false,false,false,false,false,false,false,false,false,false,false,false,false,false,false,false,false,false,false,false,false,false,false,false,false,false,false,false,false,false,false,false,false,false,false,false,false,false,false,false,false] 51 [92] [(93,B (jS && ((lN cc.1) == 2)))] fun a hS=>?_
  refine j7 (tc:=93) (b:=(jS && ((lN cc.1) == 2))) (f:=fun c=>⟨[(9,I fa.1),(10,I fa.2),(12,I js.2),(14,I fS.1),(15,I fS.2),(16,Sl m7 gf.1 mY),(17,Sl kD gf.2 ky),(18,Pt 19 0),(96,B (c && (iE.2 == 41)))],[(19,(51,[I dk.aA.au,I dk.aA.az,I dk.aA.aH,Sl lh dk.aA.Rows lg,Sl oI dk.aq oD]))]⟩) T [28,29,30] [19] [9,10,12,14,15,16,17,18,96] hS kr kr kr kr hH (listed':=#[true,true,true,true,true,true,true,true,true,true,true,true,true,true,true,true,true,true,true,true,true,true,true,true,true,true,true,true,true,true,true,false,false,false,false,false,false,false,false,false,false,false,false,false,false,false,false,false,false,false,false,false,false,false,false,false,false,false,false,false,false,false,false,false,false,false,false,false,false,false,false,false,false,false,false,false,false,false,false]) (fuel:=48) kr kr (by rfl) ?_
  intro a hS
  refine tke T [31] [19] hS hH #[true,true,true,true,true,true,true,true,true,true,true,true,true,true,true,true,true,true,true,true,true,true,true,true,true,true,true,true,true,true,true,true,false,false,false,false,false,false,false,false,false,false,false,false,false,false,false,false,false,false,false,false,false,false,false,false,false,false,false,false,false,false,false,false,false,false,false,false,false,false,false,false,false,false,false,false,false,false,false] 47 [96] [(97,B ((jS && ((lN cc.1) == 2)) && (iE.2 == 41)))] fun a hS=>?_
  refine j7 (tc:=97) (b:=((jS && ((lN cc.1) == 2)) && (iE.2 == 41))) (f:=fun c=>⟨[(10,I fa.2),(12,I js.2),(14,I fS.1),(15,I fS.2),(16,Sl m7 gf.1 mY),(17,Sl kD gf.2 ky),(18,Pt 19 0),(100,B (c && (fa.1 == 4)))],[(19,(51,[I dk.aA.au,I dk.aA.az,I dk.aA.aH,Sl lh dk.aA.Rows lg,Sl oI dk.aq oD]))]⟩) T [32,33,34] [19] [10,12,14,15,16,17,18,100] hS kr kr kr kr hH (listed':=#[true,true,true,true,true,true,true,true,true,true,true,true,true,true,true,true,true,true,true,true,true,true,true,true,true,true,true,true,true,true,true,true,true,true,true,false,false,false,false,false,false,false,false,false,false,false,false,false,false,false,false,false,false,false,false,false,false,false,false,false,false,false,false,false,false,false,false,false,false,false,false,false,false,false,false,false,false,false,false]) (fuel:=44) kr kr (by rfl) ?_
  intro a hS
  refine tke T [35] [19] hS hH #[true,true,true,true,true,true,true,true,true,true,true,true,true,true,true,true,true,true,true,true,true,true,true,true,true,true,true,true,true,true,true,true,true,true,true,true,false,false,false,false,false,false,false,false,false,false,false,false,false,false,false,false,false,false,false,false,false,false,false,false,false,false,false,false,false,false,false,false,false,false,false,false,false,false,false,false,false,false,false] 43 [100] [(101,B (((jS && ((lN cc.1) == 2)) && (iE.2 == 41)) && (fa.1 == 4)))] fun a hS=>?_
  refine j7 (tc:=101) (b:=(((jS && ((lN cc.1) == 2)) && (iE.2 == 41)) && (fa.1 == 4))) (f:=fun c=>⟨[(12,I js.2),(14,I fS.1),(15,I fS.2),(16,Sl m7 gf.1 mY),(17,Sl kD gf.2 ky),(18,Pt 19 0),(104,B (c && (fa.2 == 0)))],[(19,(51,[I dk.aA.au,I dk.aA.az,I dk.aA.aH,Sl lh dk.aA.Rows lg,Sl oI dk.aq oD]))]⟩) T [36,37,38] [19] [12,14,15,16,17,18,104] hS kr kr kr kr hH (listed':=#[true,true,true,true,true,true,true,true,true,true,true,true,true,true,true,true,true,true,true,true,true,true,true,true,true,true,true,true,true,true,true,true,true,true,true,true,true,true,true,false,false,false,false,false,false,false,false,false,false,false,false,false,false,false,false,false,false,false,false,false,false,false,false,false,false,false,false,false,false,false,false,false,false,false,false,false,false,false,false]) (fuel:=40) kr kr (by rfl) ?_
  intro a hS
  refine tke T [39] [19] hS hH #[true,true,true,true,true,true,true,true,true,true,true,true,true,true,true,true,true,true,true,true,true,true,true,true,true,true,true,true,true,true,true,true,true,true,true,true,true,true,true,true,false,false,false,false,false,false,false,false,false,false,false,false,false,false,false,false,false,false,false,false,false,false,false,false,false,false,false,false,false,false,false,false,false,false,false,false,false,false,false] 39 [104] [(105,B ((((jS && ((lN cc.1) == 2)) && (iE.2 == 41)) && (fa.1 == 4)) && (fa.2 == 0)))] fun a hS=>?_
  refine j7 (tc:=105) (b:=((((jS && ((lN cc.1) == 2)) && (iE.2 == 41)) && (fa.1 == 4)) && (fa.2 == 0))) (f:=fun c=>⟨[(14,I fS.1),(15,I fS.2),(16,Sl m7 gf.1 mY),(17,Sl kD gf.2 ky),(18,Pt 19 0),(108,B (c && (js.2 == 2)))],[(19,(51,[I dk.aA.au,I dk.aA.az,I dk.aA.aH,Sl lh dk.aA.Rows lg,Sl oI dk.aq oD]))]⟩) T [40,41,42] [19] [14,15,16,17,18,108] hS kr kr kr kr hH (listed':=#[true,true,true,true,true,true,true,true,true,true,true,true,true,true,true,true,true,true,true,true,true,true,true,true,true,true,true,true,true,true,true,true,true,true,true,true,true,true,true,true,true,true,true,false,false,false,false,false,false,false,false,false,false,false,false,false,false,false,false,false,false,false,false,false,false,false,false,false,false,false,false,false,false,false,false,false,false,false,false]) (fuel:=36) kr kr (by rfl) ?_
  intro a hS
  refine tke T [43] [19] hS hH #[true,true,true,true,true,true,true,true,true,true,true,true,true,true,true,true,true,true,true,true,true,true,true,true,true,true,true,true,true,true,true,true,true,true,true,true,true,true,true,true,true,true,true,true,false,false,false,false,false,false,false,false,false,false,false,false,false,false,false,false,false,false,false,false,false,false,false,false,false,false,false,false,false,false,false,false,false,false,false] 35 [108] [(109,B (((((jS && ((lN cc.1) == 2)) && (iE.2 == 41)) && (fa.1 == 4)) && (fa.2 == 0)) && (js.2 == 2)))] fun a hS=>?_
  refine j7 (tc:=109) (b:=(((((jS && ((lN cc.1) == 2)) && (iE.2 == 41)) && (fa.1 == 4)) && (fa.2 == 0)) && (js.2 == 2))) (f:=fun c=>⟨[(15,I fS.2),(16,Sl m7 gf.1 mY),(17,Sl kD gf.2 ky),(18,Pt 19 0),(112,B (c && (fS.1 == 3)))],[(19,(51,[I dk.aA.au,I dk.aA.az,I dk.aA.aH,Sl lh dk.aA.Rows lg,Sl oI dk.aq oD]))]⟩) T [44,45,46] [19] [15,16,17,18,112] hS kr kr kr kr hH (listed':=#[true,true,true,true,true,true,true,true,true,true,true,true,true,true,true,true,true,true,true,true,true,true,true,true,true,true,true,true,true,true,true,true,true,true,true,true,true,true,true,true,true,true,true,true,true,true,true,false,false,false,false,false,false,false,false,false,false,false,false,false,false,false,false,false,false,false,false,false,false,false,false,false,false,false,false,false,false,false,false]) (fuel:=32) kr kr (by rfl) ?_
  intro a hS
  refine tke T [47] [19] hS hH #[true,true,true,true,true,true,true,true,true,true,true,true,true,true,true,true,true,true,true,true,true,true,true,true,true,true,true,true,true,true,true,true,true,true,true,true,true,true,true,true,true,true,true,true,true,true,true,true,false,false,false,false,false,false,false,false,false,false,false,false,false,false,false,false,false,false,false,false,false,false,false,false,false,false,false,false,false,false,false] 31 [112] [(113,B ((((((jS && ((lN cc.1) == 2)) && (iE.2 == 41)) && (fa.1 == 4)) && (fa.2 == 0)) && (js.2 == 2)) && (fS.1 == 3)))] fun a hS=>?_
  refine j7 (tc:=113) (b:=((((((jS && ((lN cc.1) == 2)) && (iE.2 == 41)) && (fa.1 == 4)) && (fa.2 == 0)) && (js.2 == 2)) && (fS.1 == 3))) (f:=fun c=>⟨[(16,Sl m7 gf.1 mY),(17,Sl kD gf.2 ky),(18,Pt 19 0),(116,B (c && (fS.2 == 32)))],[(19,(51,[I dk.aA.au,I dk.aA.az,I dk.aA.aH,Sl lh dk.aA.Rows lg,Sl oI dk.aq oD]))]⟩) T [48,49,50] [19] [16,17,18,116] hS kr kr kr kr hH (listed':=#[true,true,true,true,true,true,true,true,true,true,true,true,true,true,true,true,true,true,true,true,true,true,true,true,true,true,true,true,true,true,true,true,true,true,true,true,true,true,true,true,true,true,true,true,true,true,true,true,true,true,true,false,false,false,false,false,false,false,false,false,false,false,false,false,false,false,false,false,false,false,false,false,false,false,false,false,false,false,false]) (fuel:=28) kr kr (by rfl) ?_
  intro a hS
  refine tke T [51] [19] hS hH #[true,true,true,true,true,true,true,true,true,true,true,true,true,true,true,true,true,true,true,true,true,true,true,true,true,true,true,true,true,true,true,true,true,true,true,true,true,true,true,true,true,true,true,true,true,true,true,true,true,true,true,true,false,false,false,false,false,false,false,false,false,false,false,false,false,false,false,false,false,false,false,false,false,false,false,false,false,false,false] 27 [116] [(117,B (((((((jS && ((lN cc.1) == 2)) && (iE.2 == 41)) && (fa.1 == 4)) && (fa.2 == 0)) && (js.2 == 2)) && (fS.1 == 3)) && (fS.2 == 32)))] fun a hS=>?_
  refine j7 (tc:=117) (b:=(((((((jS && ((lN cc.1) == 2)) && (iE.2 == 41)) && (fa.1 == 4)) && (fa.2 == 0)) && (js.2 == 2)) && (fS.1 == 3)) && (fS.2 == 32))) (f:=fun c=>⟨[(17,Sl kD gf.2 ky),(18,Pt 19 0),(121,B (c && ((lN gf.1) == 2)))],[(19,(51,[I dk.aA.au,I dk.aA.az,I dk.aA.aH,Sl lh dk.aA.Rows lg,Sl oI dk.aq oD]))]⟩) T [52,53,54,55] [19] [17,18,121] hS kr kr kr kr hH (listed':=#[true,true,true,true,true,true,true,true,true,true,true,true,true,true,true,true,true,true,true,true,true,true,true,true,true,true,true,true,true,true,true,true,true,true,true,true,true,true,true,true,true,true,true,true,true,true,true,true,true,true,true,true,true,true,true,true,false,false,false,false,false,false,false,false,false,false,false,false,false,false,false,false,false,false,false,false,false,false,false]) (fuel:=23) kr kr (by rfl) ?_
  intro a hS
  refine tke T [56] [19] hS hH #[true,true,true,true,true,true,true,true,true,true,true,true,true,true,true,true,true,true,true,true,true,true,true,true,true,true,true,true,true,true,true,true,true,true,true,true,true,true,true,true,true,true,true,true,true,true,true,true,true,true,true,true,true,true,true,true,true,false,false,false,false,false,false,false,false,false,false,false,false,false,false,false,false,false,false,false,false,false,false] 22 [121] [(122,B ((((((((jS && ((lN cc.1) == 2)) && (iE.2 == 41)) && (fa.1 == 4)) && (fa.2 == 0)) && (js.2 == 2)) && (fS.1 == 3)) && (fS.2 == 32)) && ((lN gf.1) == 2)))] fun a hS=>?_
  rcases bft ((((((((jS && ((lN cc.1) == 2)) && (iE.2 == 41)) && (fa.1 == 4)) && (fa.2 == 0)) && (js.2 == 2)) && (fS.1 == 3)) && (fS.2 == 32)) && ((lN gf.1) == 2)) with hb | hb
  ·replace hS:=hS.lit (t:=122) kr hb
   replace hm:=hm.1 hb
   refine tke T [57] [19] hS hH #[true,true,true,true,true,true,true,true,true,true,true,true,true,true,true,true,true,true,true,true,true,true,true,true,true,true,true,true,true,true,true,true,true,true,true,true,true,true,true,true,true,true,true,true,true,true,true,true,true,true,true,true,true,true,true,true,true,true,false,false,false,false,false,false,false,false,false,false,false,false,false,false,false,false,false,false,false,false,false] 21 [17] [(123,Sl kD gf.2 ky)] fun a hS=>?_
   refine only 58 kr (by rfl) (lit (E:=3) (col:=0) (T:=tI) (vals:=[.int .i64 0,.int .i64 1]) (ys:=[0,1]) T hS kr kr kr kr (by exact ⟨rfl,rfl,trivial⟩) rfl kr kr kr kr ?_)
   intro b261 a KR Nx hE h264 hN hS
   clear hN
   replace hO:=hO.m2 hE
   replace hD:=hD.ev hE rfl
   replace h145:=h145.m1 hE
   replace h221:=h221.m1 hE
   replace h224:=h224.m1 hE
   replace h241:=h241.m1 hE
   replace h244:=h244.m1 hE
   replace h253:=h253.m1 hE
   replace h256:=h256.m1 hE
   replace h264:=h264.rs0
   refine di (bP.of hS (bks:=[19]) kr hD) ?_
   intro hH
   refine only 59 kr (by rfl) (call hS kr kr hb25 kr (fun _ _=>rfl) (Mg _ _ gf.2 [0,1] kD ky (some ⟨b261,0,none⟩) 2 h224 h264) ?_)
   intro v265 a KQ Nw hE hp hS
   replace hO:=hO.m2 hE
   replace hD:=hD.ev hE rfl
   replace h145:=h145.m1 hE
   replace h221:=h221.m1 hE
   replace h224:=h224.m1 hE
   replace h241:=h241.m1 hE
   replace h244:=h244.m1 hE
   replace h253:=h253.m1 hE
   replace h256:=h256.m1 hE
   replace h264:=h264.m1 hE
   obtain ⟨rX,hr⟩:∃ r,e7 gf.2 [0,1]=r:=⟨_,rfl⟩
   replace hm:=hm rX hr
   rw [hr] at hp
   clear hr
   subst hp
   replace hS:=hS.sle [] [(125,B rX)]
   refine di (bP.of hS (bks:=[19]) kr hD) ?_
   intro hH
   refine tke T [60,61] [19] hS hH #[true,true,true,true,true,true,true,true,true,true,true,true,true,true,true,true,true,true,true,true,true,true,true,true,true,true,true,true,true,true,true,true,true,true,true,true,true,true,true,true,true,true,true,true,true,true,true,true,true,true,true,true,true,true,true,true,true,true,true,true,true,true,false,false,false,false,false,false,false,false,false,false,false,false,false,false,false,false,false] 17 [122,123,124,125] [(127,B rX)] fun a hS=>?_
   refine j7 (tc:=127) (b:=rX) (f:=fun c=>⟨[(18,Pt 19 0),(132,B (c && ((lN dk.aq) == 2)))],[(19,(51,[I dk.aA.au,I dk.aA.az,I dk.aA.aH,Sl lh dk.aA.Rows lg,Sl oI dk.aq oD]))]⟩) T [62,63,64,65,66] [19] [18,132] hS kr kr kr kr hH (listed':=#[true,true,true,true,true,true,true,true,true,true,true,true,true,true,true,true,true,true,true,true,true,true,true,true,true,true,true,true,true,true,true,true,true,true,true,true,true,true,true,true,true,true,true,true,true,true,true,true,true,true,true,true,true,true,true,true,true,true,true,true,true,true,true,true,true,true,true,false,false,false,false,false,false,false,false,false,false,false,false]) (fuel:=12) kr kr (by rfl) ?_
   intro a hS
   refine tke T [67] [19] hS hH #[true,true,true,true,true,true,true,true,true,true,true,true,true,true,true,true,true,true,true,true,true,true,true,true,true,true,true,true,true,true,true,true,true,true,true,true,true,true,true,true,true,true,true,true,true,true,true,true,true,true,true,true,true,true,true,true,true,true,true,true,true,true,true,true,true,true,true,true,false,false,false,false,false,false,false,false,false,false,false] 11 [132] [(133,B (rX && ((lN dk.aq) == 2)))] fun a hS=>?_
   rcases bft (rX && ((lN dk.aq) == 2)) with hb | hb
   ·replace hS:=hS.lit (t:=133) kr hb
    replace hm:=hm.1 hb
    refine tke T [68,69] [19] hS hH #[true,true,true,true,true,true,true,true,true,true,true,true,true,true,true,true,true,true,true,true,true,true,true,true,true,true,true,true,true,true,true,true,true,true,true,true,true,true,true,true,true,true,true,true,true,true,true,true,true,true,true,true,true,true,true,true,true,true,true,true,true,true,true,true,true,true,true,true,true,true,false,false,false,false,false,false,false,false,false] 9 [18] [(135,V (.agg #[.int .i64 dk.aA.au,.int .i64 dk.aA.az,.int .i64 dk.aA.aH,.slice lh dk.aA.Rows.length lg]))] fun a hS=>?_
    refine only 70 kr (by rfl) (call hS kr kr hb27 kr (fun _ _=>rfl) (Fh _ _) ?_)
    intro v269 a KP Nv hE hp hS
    replace hO:=hO.m2 hE
    replace hD:=hD.ev hE rfl
    replace h145:=h145.m1 hE
    replace h221:=h221.m1 hE
    replace h224:=h224.m1 hE
    replace h241:=h241.m1 hE
    replace h244:=h244.m1 hE
    replace h253:=h253.m1 hE
    replace h256:=h256.m1 hE
    replace h264:=h264.m1 hE
    obtain ⟨JV,JG,hp,h275⟩:=hp
    obtain ⟨qI,hr⟩:∃ r,dC=r:=⟨_,rfl⟩
    replace hm:=hm qI hr
    rw [hr] at hp h275
    clear hr
    subst hp
    replace hm:=hm (h275.sm kr)
    replace hS:=hS.sle [] [(136,V (.agg #[.int .i64 qI.au,.int .i64 qI.az,.int .i64 qI.aH,.slice JV qI.Rows.length JG]))]
    refine di (bP.of hS (bks:=[19]) kr hD) ?_
    intro hH
    refine only 71 kr (by rfl) (call hS kr kr hb26 kr (fun _ _=>rfl) (Mf _ _ dk.aA qI lh lg JV JG h241 h275) ?_)
    intro v276 a Pc Rt hE hp hS
    replace hO:=hO.m2 hE
    replace hD:=hD.ev hE rfl
    replace h145:=h145.m1 hE
    replace h221:=h221.m1 hE
    replace h224:=h224.m1 hE
    replace h241:=h241.m1 hE
    replace h244:=h244.m1 hE
    replace h253:=h253.m1 hE
    replace h256:=h256.m1 hE
    replace h264:=h264.m1 hE
    replace h275:=h275.m1 hE
    obtain ⟨va,hr⟩:∃ r,jf dk.aA qI=r:=⟨_,rfl⟩
    replace hm:=hm va hr
    rw [hr] at hp
    clear hr
    subst hp
    replace hS:=hS.sle [] [(137,B va)]
    refine di (bP.of hS (bks:=[19]) kr hD) ?_
    intro hH
    refine tke T [72,73] [19] hS hH #[true,true,true,true,true,true,true,true,true,true,true,true,true,true,true,true,true,true,true,true,true,true,true,true,true,true,true,true,true,true,true,true,true,true,true,true,true,true,true,true,true,true,true,true,true,true,true,true,true,true,true,true,true,true,true,true,true,true,true,true,true,true,true,true,true,true,true,true,true,true,true,true,true,true,false,false,false,false,false] 5 [133,135,136,137] [(139,B va)] fun a hS=>?_
    rcases bft va with hb | hb
    ·replace hS:=hS.lit (t:=139) kr hb
     replace hm:=hm.1 hb
     refine only 74 kr (by rfl) (call hS kr kr hb22 kr (fun _ _=>rfl) (A6 _ _ 0 0) ?_)
     intro v280 a Pb Rs hE hp hS
     replace hO:=hO.m2 hE
     replace hD:=hD.ev hE rfl
     replace h145:=h145.m1 hE
     replace h221:=h221.m1 hE
     replace h224:=h224.m1 hE
     replace h241:=h241.m1 hE
     replace h244:=h244.m1 hE
     replace h253:=h253.m1 hE
     replace h256:=h256.m1 hE
     replace h264:=h264.m1 hE
     replace h275:=h275.m1 hE
     obtain ⟨JU,JF,JT,JE,hp,h286,h289⟩:=hp
     obtain ⟨qH,hr⟩:∃ r,cG 0=r:=⟨_,rfl⟩
     replace hm:=hm qH hr
     rw [hr] at hp h286 h289
     clear hr
     subst hp
     replace h289:=h289.rs0
     replace hm:=hm (h286.sm kr)
     replace hm:=hm (h289.sm kr)
     replace hS:=hS.sle [] [(140,V (.agg #[.slice JU qH.ae.length JF,.slice JT qH.aq.length JE]))]
     refine di (bP.of hS (bks:=[19]) kr hD) ?_
     intro hH
     obtain ⟨hq,hm⟩:=hm
     refine only 75 kr (by rfl) (call hS kr kr hb12 kr (fun _ _=>rfl) (KC _ _ qH [] JU JF JT JE none 0 hq h286 h289 (RS.empty _ _ _)) ?_)
     intro v290 a Pa Rr hE hp hS
     replace hO:=hO.m2 hE
     replace hD:=hD.ev hE rfl
     replace h145:=h145.m1 hE
     replace h221:=h221.m1 hE
     replace h224:=h224.m1 hE
     replace h241:=h241.m1 hE
     replace h244:=h244.m1 hE
     replace h253:=h253.m1 hE
     replace h256:=h256.m1 hE
     replace h264:=h264.m1 hE
     replace h275:=h275.m1 hE
     replace h286:=h286.m1 hE
     replace h289:=h289.m1 hE
     obtain ⟨tD,hr⟩:∃ r,gn qH []=r:=⟨_,rfl⟩
     replace hm:=hm tD hr
     rw [hr] at hp
     clear hr
     subst hp
     replace hS:=hS.sle [] [(141,B tD)]
     refine di (bP.of hS (bks:=[19]) kr hD) ?_
     intro hH
     refine tke T [76,77,78] [19] hS hH (tts 79) 0 [139,140,141] [(0,B (!tD))] fun a hS=>?_
     refine aX kr ?_
     replace hS:=hS.sl ⟨[(0,B (!tD))],[]⟩
     refine aY ?_
     exact fin T hS hO (fun c=>c) rfl (r:=[.bool (!tD)]) kr (fun X' hM hC=>⟨(!tD),hm,rfl⟩)
    replace hS:=hS.lit (t:=139) kr hb
    replace hm:=hm.2 hb
    refine tke T [74,75,76,77,78] [19] hS hH (tts 79) 0 [139] [(0,B false)] fun a hS=>?_
    refine aX kr ?_
    replace hS:=hS.sl ⟨[(0,B false)],[]⟩
    refine aY ?_
    exact fin T hS hO (fun c=>c) rfl (r:=[.bool false]) kr (fun X' hM hC=>⟨false,hm,rfl⟩)
   replace hS:=hS.lit (t:=133) kr hb
   replace hm:=hm.2 hb
   refine tke T [68,70,69,71,72,73,74,75,76,77,78] [19] hS hH (tts 79) 0 [18,133] [(0,B false)] fun a hS=>?_
   refine aX kr ?_
   replace hS:=hS.sl ⟨[(0,B false)],[]⟩
   refine aY ?_
   exact fin T hS hO (fun c=>c) rfl (r:=[.bool false]) kr (fun X' hM hC=>⟨false,hm,rfl⟩)
  replace hS:=hS.lit (t:=122) kr hb
  replace hm:=hm.2 hb
  refine tke T [57,58,59,60,61,62,63,64,65,66,67,68,70,69,71,72,73,74,75,76,77,78] [19] hS hH (tts 79) 0 [17,18,122] [(0,B false)] fun a hS=>?_
  refine aX kr ?_
  replace hS:=hS.sl ⟨[(0,B false)],[]⟩
  refine aY ?_
  exact fin T hS hO (fun c=>c) rfl (r:=[.bool false]) kr (fun X' hM hC=>⟨false,hm,rfl⟩)
 replace hS:=hS.lit (t:=83) kr hb
 replace hm:=hm.2 hb
 refine tke T [18,19,20,21,22,23,24,25,26,27,28,29,30,31,32,33,34,35,36,37,38,39,40,41,42,43,44,45,46,47,48,49,50,51,52,53,54,55,56,57,58,59,60,61,62,63,64,65,66,67,68,70,69,71,72,73,74,75,76,77,78] [19] hS hH (tts 79) 0 [5,8,9,10,12,14,15,16,17,18,83] [(0,B false)] fun a hS=>?_
 refine aX kr ?_
 replace hS:=hS.sl ⟨[(0,B false)],[]⟩
 refine aY ?_
 exact fin T hS hO (fun c=>c) rfl (r:=[.bool false]) kr (fun X' hM hC=>⟨false,hm,rfl⟩)
theorem C8 (KC:S12) (Fi:S15) (Mk:S17) (A6:S22) (rY:S23) (Cd:S24) (Mg:S25) (Mf:S26) (Fh:S27) (k9:S9) (v:∀ (_:Unit),VC8 (fun r=>r=fI)):S8:=by
 intro w X     
 refine (W8 KC Fi Mk A6 rY Cd Mg Mf Fh k9 w X     _ (v ())).mono ?_
 rintro _ _ _ _ ⟨r,rfl,h⟩
 exact h
end Go.Proofs.YteahldlmkheleaaGreat
